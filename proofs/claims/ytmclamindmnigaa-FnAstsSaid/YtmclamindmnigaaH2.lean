/- Contracts of functions that the claim reaches, over data without addresses, and what follows of them (text H2). No conditions beside those that each theorem names. -/
import Derived.Test.YtmclamindmnigaaH1
set_option linter.unusedVariables false
set_option linter.unusedSimpArgs false
namespace Go.Proofs.Ytmclamindmnigaa.Ax
open Go.RowKit
theorem v_rem {y : Ty} {t : List (Nat × T)} {L : List (Nat × Ob)} {F : List Ob} {x z : Operand} {tt t2 : TypeId} {a b : Nat} (hx : evq t x = some (.d (.i .i64 (a : Int)))) (hz : evq t z = some (.d (.i .i64 (b : Int)))) (hb : 0 < b) : pval y ⟨t, L, F⟩ (.binOp .rem tt x z t2) = some (.d (.i .i64 ((a % b : Nat) : Int))) := by
  simp only [pval, evq_ok (L := L) (F := F) hx, evq_ok (L := L) (F := F) hz, pBin, dint, true_or, if_true]
  rw [if_neg (by omega)]
  simp only [Option.map_some]
  congr 3
/-- A comparison, its answer left open. -/
theorem o_lss {P : Program} {y : Ty} {n : Nat} (hY : TyOk P y) {Q : Exit → St → Prop} {ops : Array Oper} {r : List Oper} {t : List (Nat × T)} {L : List (Nat × Ob)} {F : List Ob} {i : Nat} {ty tt t2 : TypeId} {pos : String} {af : Array Edge} {x z : Operand} {a b : Int} (hx : evq t x = some (.d (.i .i64 a))) (hz : evq t z = some (.d (.i .i64 b))) (hi : dstB n (some i) = true)
    (h : ∀ c : Bool, (c = true ↔ a < b) → So P n ops r Q ⟨(i, .d (.b c)) :: t, L, F⟩) : So P n ops (⟨some i, .binOp .lss tt x z t2, ty, pos, af, none⟩ :: r) Q ⟨t, L, F⟩ := by
  refine o_v hY (v := .d (.b (decide (a < b)))) ?_ (by simp only [quietOp, Bool.true_and]; exact hi) (h _ (by simp))
  simp only [pval, evq_ok (L := L) (F := F) hx, evq_ok (L := L) (F := F) hz, pBin, dint, true_or, if_true, Option.map_some]
section
variable (code : List D) (hc : okCode code) (i h : Int) (h0 : 0 ≤ i)
include hc h0
theorem l1Below_c (n : Nat) (h1 : 1 ≤ n) (h2 : n ≤ 256) : AC Try.prog 35 [.pt (.f 0) 0, .d (.i .i64 n)] [cur code i h] (Go1 code fun r => ∃ x : Nat, x < n ∧ r = .d (.i .i64 x)) := by
  (refine AC_fn hY Try.func35 rfl Try.ntmps35 Try.results35 rfl (eq_true (by simp)) ?_; simp only [enumT])
  repeat' (first
    | (exfalso; omega) | refine o_v hY (v_rem rfl rfl (by omega)) rfl ?_
    | (refine o_a hY (a_callF (l1Byte_c code hc _ _ (by assumption)) (.cons (.p rfl) .nil) rfl ?_)
       rintro _ _ ⟨⟨x, hx, rfl⟩, i1, h1', h0', rfl⟩)
    | refine s_seq ?_ | refine s_block ?_ | refine s_reg ?_ | refine s_skip ?_ | refine s_ret ?_ | refine s_end ?_ | refine n_seq ?_ | refine n_blk ?_ | refine n_nil ?_ | refine s_exit ?_ | refine e_seq ?_ | refine e_lp ?_ | refine e_blk ?_ | refine e_blk' rfl ?_
    | (refine o_v hY (v_wr rfl ?_) rfl ?_; · omega) | refine o_v hY (v_pv rfl) rfl ?_ | refine g_y rfl rfl ?_ | refine g_n hY rfl rfl rfl ?_ | refine g_u hY rfl rfl rfl ?_ | (refine g_s rfl rfl ?_ ?_ <;> fail_if_success (intro h; cases h; done)) | refine c_t rfl ?_ | refine c_f rfl ?_ | refine c_s rfl ?_ ?_
    | (intro h; (try simp only [decide_eq_true_eq, decide_eq_false_iff_not, Bool.not_eq_true', Bool.not_eq_false', beq_iff_eq, bne_iff_ne, beq_eq_false_iff_ne, bne_eq_false_iff_eq, ne_eq, toListI] at h); (try simp only [toListC] at h))
    | refine o_a hY (a_box rfl rfl rfl ?_) | refine o_a hY (a_alz rfl rfl rfl rfl rfl ?_) | refine o_a hY (a_als rfl rfl rfl ?_) | refine o_a hY (a_st rfl rfl rfl (.d rfl) rfl rfl ?_)
    | refine r_of (r_d rfl ?_) | refine r_of (r_c rfl rfl ?_) | refine r_of (r_2 rfl rfl ?_) | refine r_of (r_4 rfl rfl rfl rfl ?_))
  exact ⟨⟨_, Nat.mod_lt _ (by omega), rfl⟩, _, _, by assumption, rfl⟩
theorem l1Once_c (n : Nat) (h1 : 1 ≤ n) (h2 : n ≤ 256) : AC Try.prog 23 [.pt (.f 0) 0, .d (.i .i64 n)] [cur code i h] (Go1 code fun r => ∃ b : Bool, r = .d (.b b)) := by
  (refine AC_fn hY Try.func23 rfl Try.ntmps23 Try.results23 rfl (eq_true (by simp)) ?_; simp only [enumT])
  repeat' (first
    | refine s_seq ?_ | refine s_block ?_ | refine s_reg ?_ | refine s_skip ?_ | refine s_ret ?_ | refine s_end ?_ | refine n_seq ?_ | refine n_blk ?_ | refine n_nil ?_ | refine s_exit ?_ | refine e_seq ?_ | refine e_lp ?_ | refine e_blk ?_ | refine e_blk' rfl ?_
    | (refine o_v hY (v_wr rfl ?_) rfl ?_; · omega) | refine o_v hY (v_pv rfl) rfl ?_ | refine g_y rfl rfl ?_ | refine g_n hY rfl rfl rfl ?_ | refine g_u hY rfl rfl rfl ?_ | (refine g_s rfl rfl ?_ ?_ <;> fail_if_success (intro h; cases h; done)) | refine c_t rfl ?_ | refine c_f rfl ?_ | refine c_s rfl ?_ ?_
    | (intro h; (try simp only [decide_eq_true_eq, decide_eq_false_iff_not, Bool.not_eq_true', Bool.not_eq_false', beq_iff_eq, bne_iff_ne, beq_eq_false_iff_ne, bne_eq_false_iff_eq, ne_eq, toListI] at h); (try simp only [toListC] at h))
    | refine o_a hY (a_box rfl rfl rfl ?_) | refine o_a hY (a_alz rfl rfl rfl rfl rfl ?_) | refine o_a hY (a_als rfl rfl rfl ?_) | refine o_a hY (a_st rfl rfl rfl (.d rfl) rfl rfl ?_)
    | refine r_of (r_d rfl ?_) | refine r_of (r_c rfl rfl ?_) | refine r_of (r_2 rfl rfl ?_) | refine r_of (r_4 rfl rfl rfl rfl ?_)
    | (refine o_a hY (a_callF (l1Below_c code hc _ _ h0 n h1 h2) (.cons (.p rfl) (.cons (.d rfl) .nil)) rfl ?_)
       rintro _ _ ⟨⟨x, hx, rfl⟩, i1, h1', h0', rfl⟩))
  exact ⟨⟨_, rfl⟩, _, _, by assumption, rfl⟩
end
def ints (l : List Int) : List D := l.map (.i .i64)
theorem ints_len (l : List Int) : (ints l).length = l.length := by simp [ints]
theorem ints_get (l : List Int) (q : Nat) (h : q < (ints l).length) : ∃ m ∈ l, (ints l)[q]? = some (.i .i64 m) := by
  rw [ints_len] at h
  exact ⟨l[q], List.getElem_mem _, by simp [ints, h]⟩
theorem strs_gets (l : List ByteArray) (q : Nat) (h : q < (strs l).length) : ∃ m ∈ l, (strs l)[q]? = some (.s m) := by
  rw [strs_len] at h
  exact ⟨l[q], List.getElem_mem _, strs_get l q h⟩
section
variable (code : List D) (hc : okCode code) (i h : Int) (h0 : 0 ≤ i)
include hc h0
theorem l1Int_c (l : List Int) (h1 : 1 ≤ (ints l).length) (h2 : (ints l).length ≤ 256) : AC Try.prog 36 [.pt (.f 0) 0, .d (.sl (ints l))] [cur code i h] (Go1 code fun r => ∃ m ∈ l, r = .d (.i .i64 m)) := by
  (refine AC_fn hY Try.func36 rfl Try.ntmps36 Try.results36 rfl (eq_true (by simp)) ?_; simp only [enumT])
  repeat' (first
    | refine s_seq ?_ | refine s_block ?_ | refine s_reg ?_ | refine s_skip ?_ | refine s_ret ?_ | refine s_end ?_ | refine n_seq ?_ | refine n_blk ?_ | refine n_nil ?_ | refine s_exit ?_ | refine e_seq ?_ | refine e_lp ?_ | refine e_blk ?_ | refine e_blk' rfl ?_
    | (refine o_v hY (v_wr rfl ?_) rfl ?_; · omega) | refine o_v hY (v_pv rfl) rfl ?_ | refine g_y rfl rfl ?_ | refine g_n hY rfl rfl rfl ?_ | refine g_u hY rfl rfl rfl ?_ | (refine g_s rfl rfl ?_ ?_ <;> fail_if_success (intro h; cases h; done)) | refine c_t rfl ?_ | refine c_f rfl ?_ | refine c_s rfl ?_ ?_
    | (intro h; (try simp only [decide_eq_true_eq, decide_eq_false_iff_not, Bool.not_eq_true', Bool.not_eq_false', beq_iff_eq, bne_iff_ne, beq_eq_false_iff_ne, bne_eq_false_iff_eq, ne_eq, toListI] at h); (try simp only [toListC] at h))
    | refine o_a hY (a_box rfl rfl rfl ?_) | refine o_a hY (a_alz rfl rfl rfl rfl rfl ?_) | refine o_a hY (a_als rfl rfl rfl ?_) | refine o_a hY (a_st rfl rfl rfl (.d rfl) rfl rfl ?_)
    | refine r_of (r_d rfl ?_) | refine r_of (r_c rfl rfl ?_) | refine r_of (r_2 rfl rfl ?_) | refine r_of (r_4 rfl rfl rfl rfl ?_)
    | (refine o_a hY (a_callF (l1Below_c code hc _ _ h0 _ h1 h2) (.cons (.p rfl) (.cons (.d rfl) .nil)) rfl ?_)
       rintro _ _ ⟨⟨x, hx, rfl⟩, i1, h1', h0', rfl⟩
       obtain ⟨m, hm, hg⟩ := ints_get l x hx)
    | refine o_v hY (v_ia x rfl rfl (.d rfl) rfl rfl hg rfl) rfl ?_)
  exact ⟨⟨m, hm, rfl⟩, _, _, by assumption, rfl⟩
theorem l1Str_c (l : List ByteArray) (h1 : 1 ≤ (strs l).length) (h2 : (strs l).length ≤ 256) : AC Try.prog 37 [.pt (.f 0) 0, .d (.sl (strs l))] [cur code i h] (Go1 code fun r => ∃ m ∈ l, r = .d (.s m)) := by
  (refine AC_fn hY Try.func37 rfl Try.ntmps37 Try.results37 rfl (eq_true (by simp)) ?_; simp only [enumT])
  repeat' (first
    | refine s_seq ?_ | refine s_block ?_ | refine s_reg ?_ | refine s_skip ?_ | refine s_ret ?_ | refine s_end ?_ | refine n_seq ?_ | refine n_blk ?_ | refine n_nil ?_ | refine s_exit ?_ | refine e_seq ?_ | refine e_lp ?_ | refine e_blk ?_ | refine e_blk' rfl ?_
    | (refine o_v hY (v_wr rfl ?_) rfl ?_; · omega) | refine o_v hY (v_pv rfl) rfl ?_ | refine g_y rfl rfl ?_ | refine g_n hY rfl rfl rfl ?_ | refine g_u hY rfl rfl rfl ?_ | (refine g_s rfl rfl ?_ ?_ <;> fail_if_success (intro h; cases h; done)) | refine c_t rfl ?_ | refine c_f rfl ?_ | refine c_s rfl ?_ ?_
    | (intro h; (try simp only [decide_eq_true_eq, decide_eq_false_iff_not, Bool.not_eq_true', Bool.not_eq_false', beq_iff_eq, bne_iff_ne, beq_eq_false_iff_ne, bne_eq_false_iff_eq, ne_eq, toListI] at h); (try simp only [toListC] at h))
    | refine o_a hY (a_box rfl rfl rfl ?_) | refine o_a hY (a_alz rfl rfl rfl rfl rfl ?_) | refine o_a hY (a_als rfl rfl rfl ?_) | refine o_a hY (a_st rfl rfl rfl (.d rfl) rfl rfl ?_)
    | refine r_of (r_d rfl ?_) | refine r_of (r_c rfl rfl ?_) | refine r_of (r_2 rfl rfl ?_) | refine r_of (r_4 rfl rfl rfl rfl ?_)
    | (refine o_a hY (a_callF (l1Below_c code hc _ _ h0 _ h1 h2) (.cons (.p rfl) (.cons (.d rfl) .nil)) rfl ?_)
       rintro _ _ ⟨⟨x, hx, rfl⟩, i1, h1', h0', rfl⟩
       obtain ⟨m, hm, hg⟩ := strs_gets l x hx)
    | refine o_v hY (v_ia x rfl rfl (.d rfl) rfl rfl hg rfl) rfl ?_)
  exact ⟨⟨m, hm, rfl⟩, _, _, by assumption, rfl⟩
end
theorem l1New_c (code : List D) (hc : okCode code) : AN Try.prog 20 [.d (.sl code)] (fun r o => ∃ h, r = .pt (.f 0) 0 ∧ o = cur code 0 h) := by
  obtain ⟨hc1, hc2⟩ := id hc
  (refine AN_fn Try.func20 rfl Try.ntmps20 Try.results20 rfl (eq_true (by simp)) ?_; simp only [enumT])
  repeat' (first
    | refine s_seq ?_ | refine s_block ?_ | refine s_reg ?_ | refine s_skip ?_ | refine s_ret ?_ | refine s_end ?_ | refine n_seq ?_ | refine n_blk ?_ | refine n_nil ?_ | refine s_exit ?_ | refine e_seq ?_ | refine e_lp ?_ | refine e_blk ?_ | refine e_blk' rfl ?_
    | (refine o_v hY (v_wr rfl ?_) rfl ?_; · omega) | refine o_v hY (v_pv rfl) rfl ?_ | refine g_y rfl rfl ?_ | refine g_n hY rfl rfl rfl ?_ | refine g_u hY rfl rfl rfl ?_ | (refine g_s rfl rfl ?_ ?_ <;> fail_if_success (intro h; cases h; done)) | refine c_t rfl ?_ | refine c_f rfl ?_ | refine c_s rfl ?_ ?_
    | (intro h; (try simp only [decide_eq_true_eq, decide_eq_false_iff_not, Bool.not_eq_true', Bool.not_eq_false', beq_iff_eq, bne_iff_ne, beq_eq_false_iff_ne, bne_eq_false_iff_eq, ne_eq, toListI] at h); (try simp only [toListC] at h))
    | refine o_a hY (a_box rfl rfl rfl ?_) | refine o_a hY (a_alz rfl rfl rfl rfl rfl ?_) | refine o_a hY (a_als rfl rfl rfl ?_) | refine o_a hY (a_st rfl rfl rfl (.d rfl) rfl rfl ?_)
    | refine r_of (r_d rfl ?_) | refine r_of (r_c rfl rfl ?_) | refine r_of (r_2 rfl rfl ?_) | refine r_of (r_4 rfl rfl rfl rfl ?_)
    | refine o_v hY (show pval _ _ (.assign (.const (.pointer none))) = some T.any from rfl) rfl ?_)
  refine s_loop (fun m τ => ∃ (j : Nat) (h : Int), j ≤ code.length ∧ m = code.length - j ∧ τ = ⟨[(0, .d (.sl code)), (3, .d (.i .i64 h)), (4, .d (.i .i64 (j : Int)))], [], []⟩) code.length ⟨0, 957957 + (code.length : Int), Nat.zero_le _, rfl, rfl⟩ (Wk.of ⟨rfl, rfl, rfl, trivial⟩ trivial rfl) ?_
  rintro m τ ⟨j, h, hj, rfl, rfl⟩
  repeat' (first
    | (refine o_lss hY rfl rfl rfl ?_
       intro c hlt) | refine o_a hY (a_cv rfl rfl rfl rfl ?_)
    | (obtain ⟨b, hb⟩ := cur_get hc j (by simp_all)
       refine o_v hY (v_ia j rfl rfl (.d rfl) rfl rfl hb rfl) rfl ?_)
    | refine o_v hY (v_bld (.cons (.d rfl) (.cons (.d rfl) .nil)) rfl) rfl ?_
    | refine s_seq ?_ | refine s_block ?_ | refine s_reg ?_ | refine s_skip ?_ | refine s_ret ?_ | refine s_end ?_ | refine n_seq ?_ | refine n_blk ?_ | refine n_nil ?_ | refine s_exit ?_ | refine e_seq ?_ | refine e_lp ?_ | refine e_blk ?_ | refine e_blk' rfl ?_
    | (refine o_v hY (v_wr rfl ?_) rfl ?_; · omega) | refine o_v hY (v_pv rfl) rfl ?_ | refine g_y rfl rfl ?_ | refine g_n hY rfl rfl rfl ?_ | refine g_u hY rfl rfl rfl ?_ | (refine g_s rfl rfl ?_ ?_ <;> fail_if_success (intro h; cases h; done)) | refine c_t rfl ?_ | refine c_f rfl ?_ | refine c_s rfl ?_ ?_
    | (intro h; (try simp only [decide_eq_true_eq, decide_eq_false_iff_not, Bool.not_eq_true', Bool.not_eq_false', beq_iff_eq, bne_iff_ne, beq_eq_false_iff_ne, bne_eq_false_iff_eq, ne_eq, toListI] at h); (try simp only [toListC] at h))
    | refine o_a hY (a_box rfl rfl rfl ?_) | refine o_a hY (a_alz rfl rfl rfl rfl rfl ?_) | refine o_a hY (a_als rfl rfl rfl ?_) | refine o_a hY (a_st rfl rfl rfl (.d rfl) rfl rfl ?_)
    | refine r_of (r_d rfl ?_) | refine r_of (r_c rfl rfl ?_) | refine r_of (r_2 rfl rfl ?_) | refine r_of (r_4 rfl rfl rfl rfl ?_))
  · refine n_lp (code.length - (j+1)) ⟨j+1, _, by simp_all; omega, rfl, rfl⟩ (by simp_all; omega) (Wk.of ⟨rfl, rfl, rfl, trivial⟩ trivial rfl)
  all_goals exact r_bp rfl rfl rfl ⟨_, rfl, rfl⟩
end Go.Proofs.Ytmclamindmnigaa.Ax
