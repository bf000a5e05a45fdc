/- Contracts of functions that the claim reaches, over data without addresses, and what follows of them (text H1). No conditions beside those that each theorem names. -/
import Derived.Test.YtmclamindmnigaaP7
set_option linter.unusedVariables false
set_option linter.unusedSimpArgs false
namespace Go.Proofs.Ytmclamindmnigaa.Ax
open Go.RowKit
/-! ### The cursor of a draw -/
def cur (code : List D) (i h : Int) : Ob := .var (.d (.ag [.sl code, .i .i64 i, .i .i64 h]))
def okCode (code : List D) : Prop := code.length ≤ 1048576 ∧ ∀ x ∈ code, ∃ n, x = .i .u8 n
/-- The cursor went on; S tells the answer. -/
def Go1 (code : List D) (S : T → Prop) (r : T) (Fo : List Ob) : Prop := S r ∧ ∃ i h, 0 ≤ i ∧ Fo = [cur code i h]
theorem and255 (a : Int) : ∃ n : Nat, n ≤ 255 ∧ IntKind.i64.wrap ((BitVec.ofInt IntKind.i64.bits a &&& BitVec.ofInt IntKind.i64.bits 255).toNat : Int) = n := by
  have h : ∀ x z : BitVec IntKind.i64.bits, z.toNat = 255 → (x &&& z).toNat ≤ 255 := fun x z hz => by
    rw [BitVec.toNat_and, hz]
    exact Nat.and_le_right
  have h1 := h (BitVec.ofInt IntKind.i64.bits a) (BitVec.ofInt IntKind.i64.bits 255) rfl
  exact ⟨_, h1, Go.IntWalk.i64_in _ (by omega)⟩
theorem cur_get {code : List D} (hc : okCode code) (q : Nat) (h : q < code.length) : ∃ n, code[q]? = some (.i .u8 n) := by
  obtain ⟨n, hn⟩ := hc.2 code[q] (List.getElem_mem h)
  exact ⟨n, by rw [List.getElem?_eq_getElem h, hn]⟩
theorem wk_and {P : Program} {n : Nat} {c : Code} {Q : Exit → St → Prop} {t : List (Nat × T)} {L : List (Nat × Ob)} {F : List Ob} {p : T} {a : Int} (h : ∀ x : Nat, x ≤ 255 → Sc P n c Q ⟨[(3, .d (.i .i64 x)), (0, p)], [], F⟩) (h3 : look t 3 = some (.d (.i .i64 (IntKind.i64.wrap ((BitVec.ofInt IntKind.i64.bits a &&& BitVec.ofInt IntKind.i64.bits 255).toNat : Int))))) (h0 : look t 0 = some p) : Sc P n c Q ⟨t, L, F⟩ := by
  obtain ⟨x, hx, e⟩ := and255 a
  rw [e] at h3
  exact (h x hx).wk (Wk.of ⟨lk h3, lk h0, trivial⟩ trivial rfl)
theorem l1Byte_c (code : List D) (hc : okCode code) (i h : Int) (h0 : 0 ≤ i) : AC Try.prog 51 [.pt (.f 0) 0] [cur code i h] (Go1 code fun r => ∃ n : Nat, n ≤ 255 ∧ r = .d (.i .i64 n)) := by
  obtain ⟨hc1, hc2⟩ := hc
  unfold cur
  (refine AC_fn hY Try.func51 rfl Try.ntmps51 Try.results51 rfl (eq_true (by simp)) ?_; simp only [enumT])
  repeat' (first
    | refine q_done ?_ | refine q_tk hY rfl rfl (v_pv rfl) rfl noPan_ret ?_
    | refine o_a hY (a_sf rfl rfl rfl (.d rfl) rfl rfl ?_)
    | refine s_seq ?_ | refine s_block ?_ | refine s_reg ?_ | refine s_skip ?_ | refine s_ret ?_ | refine s_end ?_ | refine n_seq ?_ | refine n_blk ?_ | refine n_nil ?_ | refine s_exit ?_ | refine e_seq ?_ | refine e_lp ?_ | refine e_blk ?_ | refine e_blk' rfl ?_
    | (refine o_v hY (v_wr rfl ?_) rfl ?_; · omega) | refine o_v hY (v_pv rfl) rfl ?_ | refine g_y rfl rfl ?_ | refine g_n hY rfl rfl rfl ?_ | refine g_u hY rfl rfl rfl ?_ | (refine g_s rfl rfl ?_ ?_ <;> fail_if_success (intro h; cases h; done)) | refine c_t rfl ?_ | refine c_f rfl ?_ | refine c_s rfl ?_ ?_
    | (intro h; (try simp only [decide_eq_true_eq, decide_eq_false_iff_not, Bool.not_eq_true', Bool.not_eq_false', beq_iff_eq, bne_iff_ne, beq_eq_false_iff_ne, bne_eq_false_iff_eq, ne_eq, toListI] at h); (try simp only [toListC] at h))
    | refine o_a hY (a_box rfl rfl rfl ?_) | refine o_a hY (a_alz rfl rfl rfl rfl rfl ?_) | refine o_a hY (a_als rfl rfl rfl ?_) | refine o_a hY (a_st rfl rfl rfl (.d rfl) rfl rfl ?_)
    | refine r_of (r_d rfl ?_) | refine r_of (r_c rfl rfl ?_) | refine r_of (r_2 rfl rfl ?_) | refine r_of (r_4 rfl rfl rfl rfl ?_))
  refine Sc.wk (τ := ⟨[(0, .pt (.f 0) 0)], [], [cur code i (IntKind.i64.wrap (IntKind.i64.wrap (h * 6364136223846793005) + 1442695040888963407))]⟩) ?_ (Wk.of ⟨rfl, trivial⟩ trivial rfl)
  generalize IntKind.i64.wrap (IntKind.i64.wrap (h * 6364136223846793005) + 1442695040888963407) = h1
  clear h
  unfold cur
  refine q_start (by kernel_rfl) (.tk 0 (.tk 1 (.tk 2 (.tk 3 (.tk 4 (.tk 5 (.tk 6 (.tk 7 (.tk 8 (.tk 9 (.tk 10 (.tk 11 (.tk 12 .done))))))))))))) (by kernel_rfl) ?_
  repeat' (first
    | refine q_done ?_ | refine q_tk hY rfl rfl (v_pv rfl) rfl noPan_ret ?_
    | refine s_seq ?_ | refine s_block ?_ | refine s_reg ?_ | refine s_skip ?_ | refine s_ret ?_ | refine s_end ?_ | refine n_seq ?_ | refine n_blk ?_ | refine n_nil ?_ | refine s_exit ?_ | refine e_seq ?_ | refine e_lp ?_ | refine e_blk ?_ | refine e_blk' rfl ?_
    | (refine o_v hY (v_wr rfl ?_) rfl ?_; · omega) | refine o_v hY (v_pv rfl) rfl ?_ | refine g_y rfl rfl ?_ | refine g_n hY rfl rfl rfl ?_ | refine g_u hY rfl rfl rfl ?_ | (refine g_s rfl rfl ?_ ?_ <;> fail_if_success (intro h; cases h; done)) | refine c_t rfl ?_ | refine c_f rfl ?_ | refine c_s rfl ?_ ?_
    | (intro h; (try simp only [decide_eq_true_eq, decide_eq_false_iff_not, Bool.not_eq_true', Bool.not_eq_false', beq_iff_eq, bne_iff_ne, beq_eq_false_iff_ne, bne_eq_false_iff_eq, ne_eq, toListI] at h); (try simp only [toListC] at h))
    | refine o_a hY (a_box rfl rfl rfl ?_) | refine o_a hY (a_alz rfl rfl rfl rfl rfl ?_) | refine o_a hY (a_als rfl rfl rfl ?_) | refine o_a hY (a_st rfl rfl rfl (.d rfl) rfl rfl ?_)
    | refine r_of (r_d rfl ?_) | refine r_of (r_c rfl rfl ?_) | refine r_of (r_2 rfl rfl ?_) | refine r_of (r_4 rfl rfl rfl rfl ?_))
  refine wk_and (fun x hx => ?_) rfl rfl
  refine q_start (by kernel_rfl) (.tk 0 (.tk 1 (.tk 2 (.tk 3 (.tk 4 (.tk 5 (.tk 6 (.tk 7 (.tk 8 (.tk 9 .done)))))))))) (by kernel_rfl) ?_
  repeat' (first
    | refine q_done ?_ | refine q_tk hY rfl rfl (v_pv rfl) rfl noPan_ret ?_
    | refine s_seq ?_ | refine s_block ?_ | refine s_reg ?_ | refine s_skip ?_ | refine s_ret ?_ | refine s_end ?_ | refine n_seq ?_ | refine n_blk ?_ | refine n_nil ?_ | refine s_exit ?_ | refine e_seq ?_ | refine e_lp ?_ | refine e_blk ?_ | refine e_blk' rfl ?_
    | (refine o_v hY (v_wr rfl ?_) rfl ?_; · omega) | refine o_v hY (v_pv rfl) rfl ?_ | refine g_y rfl rfl ?_ | refine g_n hY rfl rfl rfl ?_ | refine g_u hY rfl rfl rfl ?_ | (refine g_s rfl rfl ?_ ?_ <;> fail_if_success (intro h; cases h; done)) | refine c_t rfl ?_ | refine c_f rfl ?_ | refine c_s rfl ?_ ?_
    | (intro h; (try simp only [decide_eq_true_eq, decide_eq_false_iff_not, Bool.not_eq_true', Bool.not_eq_false', beq_iff_eq, bne_iff_ne, beq_eq_false_iff_ne, bne_eq_false_iff_eq, ne_eq, toListI] at h); (try simp only [toListC] at h))
    | refine o_a hY (a_box rfl rfl rfl ?_) | refine o_a hY (a_alz rfl rfl rfl rfl rfl ?_) | refine o_a hY (a_als rfl rfl rfl ?_) | refine o_a hY (a_st rfl rfl rfl (.d rfl) rfl rfl ?_)
    | refine r_of (r_d rfl ?_) | refine r_of (r_c rfl rfl ?_) | refine r_of (r_2 rfl rfl ?_) | refine r_of (r_4 rfl rfl rfl rfl ?_))
  · obtain ⟨q, rfl⟩ : ∃ q : Nat, i = q := ⟨i.toNat, by omega⟩
    obtain ⟨b, hb⟩ := cur_get ⟨hc1, hc2⟩ q (by omega)
    refine Sc.wk (τ := ⟨[(3, .d (.i .i64 x)), (0, .pt (.f 0) 0)], [], [cur code q h1]⟩) ?_ (Wk.of ⟨rfl, rfl, trivial⟩ trivial rfl)
    unfold cur
    refine q_start (by kernel_rfl) (.tk 0 (.tk 1 (.tk 2 (.tk 3 (.tk 4 (.tk 5 (.tk 6 (.tk 7 (.tk 8 (.tk 9 (.tk 10 (.tk 11 (.tk 12 (.tk 13 (.tk 14 .done))))))))))))))) (by kernel_rfl) ?_
    repeat' (first
    | refine q_done ?_ | refine q_tk hY rfl rfl (v_pv rfl) rfl noPan_ret ?_ | refine q_tk hY rfl rfl (v_ia q rfl rfl (.d rfl) rfl rfl hb rfl) rfl noPan_ret ?_ | refine q_tk hY rfl rfl (v_cv rfl rfl) rfl noPan_ret ?_ | refine o_a hY (a_sf rfl rfl rfl (.d rfl) rfl rfl ?_)
    | refine s_seq ?_ | refine s_block ?_ | refine s_reg ?_ | refine s_skip ?_ | refine s_ret ?_ | refine s_end ?_ | refine n_seq ?_ | refine n_blk ?_ | refine n_nil ?_ | refine s_exit ?_ | refine e_seq ?_ | refine e_lp ?_ | refine e_blk ?_ | refine e_blk' rfl ?_
    | (refine o_v hY (v_wr rfl ?_) rfl ?_; · omega) | refine o_v hY (v_pv rfl) rfl ?_ | refine g_y rfl rfl ?_ | refine g_n hY rfl rfl rfl ?_ | refine g_u hY rfl rfl rfl ?_ | (refine g_s rfl rfl ?_ ?_ <;> fail_if_success (intro h; cases h; done)) | refine c_t rfl ?_ | refine c_f rfl ?_ | refine c_s rfl ?_ ?_
    | (intro h; (try simp only [decide_eq_true_eq, decide_eq_false_iff_not, Bool.not_eq_true', Bool.not_eq_false', beq_iff_eq, bne_iff_ne, beq_eq_false_iff_ne, bne_eq_false_iff_eq, ne_eq, toListI] at h); (try simp only [toListC] at h))
    | refine o_a hY (a_box rfl rfl rfl ?_) | refine o_a hY (a_alz rfl rfl rfl rfl rfl ?_) | refine o_a hY (a_als rfl rfl rfl ?_) | refine o_a hY (a_st rfl rfl rfl (.d rfl) rfl rfl ?_)
    | refine r_of (r_d rfl ?_) | refine r_of (r_c rfl rfl ?_) | refine r_of (r_2 rfl rfl ?_) | refine r_of (r_4 rfl rfl rfl rfl ?_))
    obtain ⟨x2, hx2, e⟩ := and255 (IntKind.i64.wrap ((x : Int) + IntKind.i64.wrap b))
    exact ⟨⟨x2, hx2, congrArg (fun z => T.d (.i .i64 z)) e⟩, _, _, by omega, rfl⟩
  · exact ⟨⟨x, hx, rfl⟩, _, _, h0, rfl⟩
end Go.Proofs.Ytmclamindmnigaa.Ax
