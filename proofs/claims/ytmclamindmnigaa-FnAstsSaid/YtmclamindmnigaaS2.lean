/- Contracts of functions that the claim reaches, over data without addresses, and what follows of them (text S2). No conditions beside those that each theorem names. -/
import Derived.Test.YtmclamindmnigaaS1
set_option linter.unusedVariables false
set_option linter.unusedSimpArgs false
namespace Go.Proofs.Ytmclamindmnigaa.Ax
open Go.RowKit
mutual
def sameS : Sm → Sm → Bool
  | .mk k s a e lo hi b, .mk k' s' a' e' lo' hi' b' => decide (k = k') && (decide (s = s') && (sameE a a' && (sameE e e' && (sameE lo lo' && (sameE hi hi' && sameSL b b')))))
def sameSL : List Sm → List Sm → Bool
  | [], [] => true
  | x :: r, y :: r' => sameS x y && sameSL r r'
  | [], _ :: _ => false
  | _ :: _, [] => false
end
theorem sameSL_len : ∀ {l l' : List Sm}, l.length ≠ l'.length → sameSL l l' = false
  | [], [], h => absurd rfl h
  | x :: r, y :: r', h => by
    rw [sameSL, sameSL_len (by simpa using h), Bool.and_false]
  | [], _ :: _, _ => by rw [sameSL]
  | _ :: _, [], _ => by rw [sameSL]
theorem sameSL_at {l l' : List Sm} {j : Nat} (h : j < l.length) (h' : j < l'.length) : sameSL (l.drop j) (l'.drop j) = (sameS l[j] l'[j] && sameSL (l.drop (j + 1)) (l'.drop (j + 1))) := by
  rw [List.drop_eq_getElem_cons h, List.drop_eq_getElem_cons h', sameSL]
mutual
theorem sameS_refl : ∀ x : Sm, sameS x x = true
  | .mk k s a e lo hi b => by simp [sameS, sameSL_refl b, sameE_refl]
theorem sameSL_refl : ∀ l : List Sm, sameSL l l = true
  | [] => by rw [sameSL]
  | x :: r => by rw [sameSL, sameS_refl x, sameSL_refl r]; rfl
end
def CtI (x : Sm) : Prop := ∀ z : Sm, szS x ≤ 1048576 → szS z ≤ 1048576 → AC Try.prog 16 [.d (encS x), .d (encS z)] [] (isR (.d (.b (sameS x z))))
set_option maxHeartbeats 4000000 in
theorem equalS_c (l l' : List Sm) (ih : ∀ x ∈ l, CtI x) (hz : l.length + sumS l ≤ 1048576) (hz' : l'.length + sumS l' ≤ 1048576) :
    AC Try.prog 33 [.d (.sl (encSs l)), .d (.sl (encSs l')), .fn 16 []] [] (isR (.d (.b (sameSL l l')))) := by
  have hlen := encSs_len l
  have hlen' := encSs_len l'
  generalize hr : sameSL l l' = res
  (refine AC_fn hY Try.func33 rfl Try.ntmps33 Try.results33 (by kernel_rfl) (eq_true (by simp)) ?_; simp only [enumT])
  repeat' (first
    | refine s_seq ?_ | refine s_block ?_ | refine s_reg ?_ | refine s_skip ?_ | refine s_ret ?_ | refine s_end ?_ | refine n_seq ?_ | refine n_blk ?_ | refine n_nil ?_ | refine s_exit ?_ | refine e_seq ?_ | refine e_lp ?_ | refine e_blk ?_ | refine e_blk' rfl ?_
    | (refine o_v hY (v_wr rfl ?_) rfl ?_; · omega) | refine o_v hY (v_pv rfl) rfl ?_ | refine g_y rfl rfl ?_ | refine g_n hY rfl rfl rfl ?_ | refine g_u hY rfl rfl rfl ?_ | (refine g_s rfl rfl ?_ ?_ <;> fail_if_success (intro h; cases h; done)) | refine c_t rfl ?_ | refine c_f rfl ?_ | refine c_s rfl ?_ ?_
    | (intro h; (try simp only [decide_eq_true_eq, decide_eq_false_iff_not, Bool.not_eq_true', Bool.not_eq_false', beq_iff_eq, bne_iff_ne, beq_eq_false_iff_ne, bne_eq_false_iff_eq, ne_eq, toListI] at h); (try simp only [toListC] at h))
    | refine o_a hY (a_box rfl rfl rfl ?_) | refine o_a hY (a_alz rfl rfl rfl rfl rfl ?_) | refine o_a hY (a_als rfl rfl rfl ?_) | refine o_a hY (a_st rfl rfl rfl (.d rfl) rfl rfl ?_)
    | refine r_of (r_d rfl ?_) | refine r_of (r_c rfl rfl ?_) | refine r_of (r_2 rfl rfl ?_) | refine r_of (r_4 rfl rfl rfl rfl ?_))
  · refine isR_b ?_
    rw [← hr, sameSL_len (by intro e; simp_all)]
  · have hll : l.length = l'.length := by omega
    refine s_loop (fun m τ => ∃ j : Nat, j ≤ l.length ∧ m = l.length - j ∧ sameSL (l.drop j) (l'.drop j) = res ∧ τ = ⟨[(1, .d (.sl (encSs l'))), (2, .fn 16 []), (15, .d (.sl (encSs l))), (16, .d (.i .i64 ((encSs l).length : Int))), (17, .d (.i .i64 (j : Int)))], [], []⟩) l.length ⟨0, Nat.zero_le _, rfl, hr, rfl⟩ (Wk.of ⟨rfl, rfl, rfl, rfl, rfl, trivial⟩ trivial rfl) ?_
    rintro m τ ⟨j, hj, rfl, hs, rfl⟩
    repeat' (first
    | refine s_seq ?_ | refine s_block ?_ | refine s_reg ?_ | refine s_skip ?_ | refine s_ret ?_ | refine s_end ?_ | refine n_seq ?_ | refine n_blk ?_ | refine n_nil ?_ | refine s_exit ?_ | refine e_seq ?_ | refine e_lp ?_ | refine e_blk ?_ | refine e_blk' rfl ?_
    | (refine o_v hY (v_wr rfl ?_) rfl ?_; · omega) | refine o_v hY (v_pv rfl) rfl ?_ | refine g_y rfl rfl ?_ | refine g_n hY rfl rfl rfl ?_ | refine g_u hY rfl rfl rfl ?_ | (refine g_s rfl rfl ?_ ?_ <;> fail_if_success (intro h; cases h; done)) | refine c_t rfl ?_ | refine c_f rfl ?_ | refine c_s rfl ?_ ?_
    | (intro h; (try simp only [decide_eq_true_eq, decide_eq_false_iff_not, Bool.not_eq_true', Bool.not_eq_false', beq_iff_eq, bne_iff_ne, beq_eq_false_iff_ne, bne_eq_false_iff_eq, ne_eq, toListI] at h); (try simp only [toListC] at h))
    | refine o_a hY (a_box rfl rfl rfl ?_) | refine o_a hY (a_alz rfl rfl rfl rfl rfl ?_) | refine o_a hY (a_als rfl rfl rfl ?_) | refine o_a hY (a_st rfl rfl rfl (.d rfl) rfl rfl ?_)
    | refine r_of (r_d rfl ?_) | refine r_of (r_c rfl rfl ?_) | refine r_of (r_2 rfl rfl ?_) | refine r_of (r_4 rfl rfl rfl rfl ?_)
    | (refine o_v hY (v_ia j rfl rfl (.d rfl) rfl rfl (encSs_get l j ?_) (size_encS _)) rfl ?_; · omega)
    | (refine o_v hY (v_ia j rfl rfl (.d rfl) rfl rfl (encSs_get l' j ?_) (size_encS _)) rfl ?_; · omega)
    | refine o_v hY (v_ldp rfl rfl (sub_encS _)) rfl ?_ | refine o_v hY (v_ldb rfl rfl rfl (sub_encS _)) rfl ?_
    | refine o_a hY (a_st rfl rfl rfl (.d rfl) (set_S _) (size_encS _) ?_)
    | (refine o_a hY (a_callW rfl (ih l[j] (List.getElem_mem _) (l'[j]'(by omega)) ?_ ?_) (.cons (.d rfl) (.cons (.d rfl) .nil)) rfl ?_)
       · (have := sumS_mem l l[j] (List.getElem_mem _); omega)
       · (have := sumS_mem l' (l'[j]'(by omega)) (List.getElem_mem _); omega)))
    · refine isR_b ?_
      rw [← hs, sameSL_at (by omega) (by omega), h]; rfl
    · refine n_lp (l.length - (j+1)) ⟨j+1, by omega, rfl, ?_, rfl⟩ (by omega) (Wk.of ⟨rfl, rfl, rfl, rfl, rfl, trivial⟩ trivial rfl)
      rw [← hs, sameSL_at (j := j) (by omega) (by omega), h, Bool.true_and]
    · refine isR_b ?_
      rw [← hs, List.drop_of_length_le (by omega), List.drop_of_length_le (by omega), sameSL]
set_option maxHeartbeats 8000000 in
theorem implSameStmt_c (x : Sm) : CtI x := by
  refine Sm.ind (fun k s a e lo hi b ih => ?_) x
  rintro ⟨k', s', a', e', lo', hi', b'⟩ hz hz'
  simp only [szS] at hz hz'
  generalize hr : sameS _ _ = res
  simp only [sameS] at hr
  unfold encS
  (refine AC_fn hY Try.func16 rfl Try.ntmps16 Try.results16 rfl (eq_true (by simp)) ?_; simp only [enumT])
  repeat' (first
    | refine s_seq ?_ | refine s_block ?_ | refine s_reg ?_ | refine s_skip ?_ | refine s_ret ?_ | refine s_end ?_ | refine n_seq ?_ | refine n_blk ?_ | refine n_nil ?_ | refine s_exit ?_ | refine e_seq ?_ | refine e_lp ?_ | refine e_blk ?_ | refine e_blk' rfl ?_
    | (refine o_v hY (v_wr rfl ?_) rfl ?_; · omega) | refine o_v hY (v_pv rfl) rfl ?_ | refine g_y rfl rfl ?_ | refine g_n hY rfl rfl rfl ?_ | refine g_u hY rfl rfl rfl ?_ | (refine g_s rfl rfl ?_ ?_ <;> fail_if_success (intro h; cases h; done)) | refine c_t rfl ?_ | refine c_f rfl ?_ | refine c_s rfl ?_ ?_
    | (intro h; (try simp only [decide_eq_true_eq, decide_eq_false_iff_not, Bool.not_eq_true', Bool.not_eq_false', beq_iff_eq, bne_iff_ne, beq_eq_false_iff_ne, bne_eq_false_iff_eq, ne_eq, toListI] at h); (try simp only [toListC] at h))
    | refine o_a hY (a_box rfl rfl rfl ?_) | refine o_a hY (a_alz rfl rfl rfl rfl rfl ?_) | refine o_a hY (a_als rfl rfl rfl ?_) | refine o_a hY (a_st rfl rfl rfl (.d rfl) rfl rfl ?_)
    | refine r_of (r_d rfl ?_) | refine r_of (r_c rfl rfl ?_) | refine r_of (r_2 rfl rfl ?_) | refine r_of (r_4 rfl rfl rfl rfl ?_)
    | refine o_v hY (v_ldb rfl rfl rfl sub_S2) rfl ?_ | refine o_v hY (v_ldb rfl rfl rfl sub_S3) rfl ?_ | refine o_v hY (v_ldb rfl rfl rfl sub_S4) rfl ?_ | refine o_v hY (v_ldb rfl rfl rfl sub_S5) rfl ?_ | refine o_v hY (v_ldb rfl rfl rfl sub_S6) rfl ?_
    | (refine o_a hY (a_call (implSameExp_c a a' ?_ ?_) (.cons (.d rfl) (.cons (.d rfl) .nil)) rfl ?_)
       · omega
       · omega)
    | (refine o_a hY (a_call (implSameExp_c e e' ?_ ?_) (.cons (.d rfl) (.cons (.d rfl) .nil)) rfl ?_)
       · omega
       · omega)
    | (refine o_a hY (a_call (implSameExp_c lo lo' ?_ ?_) (.cons (.d rfl) (.cons (.d rfl) .nil)) rfl ?_)
       · omega
       · omega)
    | (refine o_a hY (a_call (implSameExp_c hi hi' ?_ ?_) (.cons (.d rfl) (.cons (.d rfl) .nil)) rfl ?_)
       · omega
       · omega)
    | (refine o_a hY (a_call (equalS_c b b' ih ?_ ?_) (.cons (.d rfl) (.cons (.d rfl) (.cons (.f rfl) .nil))) rfl ?_)
       · omega
       · omega))
  all_goals exact isR_b (by rw [← hr]; simp [*])
def CtS (x : Sm) : Prop := ∀ z : Sm, szS x ≤ 1048576 → szS z ≤ 1048576 → AC Try.prog 17 [.d (encS x), .d (encS z)] [] (isR (.d (.b (sameS x z))))
set_option maxHeartbeats 8000000 in
theorem specSameStmt_c (x : Sm) : CtS x := by
  refine Sm.ind (fun k s a e lo hi b ih => ?_) x
  rintro ⟨k', s', a', e', lo', hi', b'⟩ hz hz'
  simp only [szS] at hz hz'
  have hlen := encSs_len b
  have hlen' := encSs_len b'
  generalize hr : sameS _ _ = res
  simp only [sameS] at hr
  unfold encS
  (refine AC_fn hY Try.func17 rfl Try.ntmps17 Try.results17 rfl (eq_true (by simp)) ?_; simp only [enumT])
  repeat' (first
    | refine s_seq ?_ | refine s_block ?_ | refine s_reg ?_ | refine s_skip ?_ | refine s_ret ?_ | refine s_end ?_ | refine n_seq ?_ | refine n_blk ?_ | refine n_nil ?_ | refine s_exit ?_ | refine e_seq ?_ | refine e_lp ?_ | refine e_blk ?_ | refine e_blk' rfl ?_
    | (refine o_v hY (v_wr rfl ?_) rfl ?_; · omega) | refine o_v hY (v_pv rfl) rfl ?_ | refine g_y rfl rfl ?_ | refine g_n hY rfl rfl rfl ?_ | refine g_u hY rfl rfl rfl ?_ | (refine g_s rfl rfl ?_ ?_ <;> fail_if_success (intro h; cases h; done)) | refine c_t rfl ?_ | refine c_f rfl ?_ | refine c_s rfl ?_ ?_
    | (intro h; (try simp only [decide_eq_true_eq, decide_eq_false_iff_not, Bool.not_eq_true', Bool.not_eq_false', beq_iff_eq, bne_iff_ne, beq_eq_false_iff_ne, bne_eq_false_iff_eq, ne_eq, toListI] at h); (try simp only [toListC] at h))
    | refine o_a hY (a_box rfl rfl rfl ?_) | refine o_a hY (a_alz rfl rfl rfl rfl rfl ?_) | refine o_a hY (a_als rfl rfl rfl ?_) | refine o_a hY (a_st rfl rfl rfl (.d rfl) rfl rfl ?_)
    | refine r_of (r_d rfl ?_) | refine r_of (r_c rfl rfl ?_) | refine r_of (r_2 rfl rfl ?_) | refine r_of (r_4 rfl rfl rfl rfl ?_)
    | refine o_v hY (v_ldb rfl rfl rfl sub_S2) rfl ?_ | refine o_v hY (v_ldb rfl rfl rfl sub_S3) rfl ?_ | refine o_v hY (v_ldb rfl rfl rfl sub_S4) rfl ?_ | refine o_v hY (v_ldb rfl rfl rfl sub_S5) rfl ?_ | refine o_v hY (v_ldb rfl rfl rfl sub_S6) rfl ?_
    | (refine o_a hY (a_call (specSameExp_c a a' ?_ ?_) (.cons (.d rfl) (.cons (.d rfl) .nil)) rfl ?_)
       · omega
       · omega)
    | (refine o_a hY (a_call (specSameExp_c e e' ?_ ?_) (.cons (.d rfl) (.cons (.d rfl) .nil)) rfl ?_)
       · omega
       · omega)
    | (refine o_a hY (a_call (specSameExp_c lo lo' ?_ ?_) (.cons (.d rfl) (.cons (.d rfl) .nil)) rfl ?_)
       · omega
       · omega)
    | (refine o_a hY (a_call (specSameExp_c hi hi' ?_ ?_) (.cons (.d rfl) (.cons (.d rfl) .nil)) rfl ?_)
       · omega
       · omega))
  all_goals try (refine isR_b ?_; rw [← hr]; simp [*]; done)
  · exact isR_b (by rw [← hr, sameSL_len (by omega)]; simp)
  · have hll : b.length = b'.length := by omega
    have hr' : sameSL b b' = res := by rw [← hr]; simp [*]
    clear hr
    refine s_loop (fun m τ => ∃ j : Nat, j ≤ b.length ∧ m = b.length - j ∧ sameSL (b.drop j) (b'.drop j) = res ∧ τ = ⟨[(2, .pt (.l 2) 0), (3, .pt (.l 3) 0), (4, .d (.b false)), (5, .d (.i .i64 (j : Int)))], [(2, .var (.d (.ag [.i .i64 k, .s s, encE a, encE e, encE lo, encE hi, .sl (encSs b)]))), (3, .var (.d (.ag [.i .i64 k', .s s', encE a', encE e', encE lo', encE hi', .sl (encSs b')])))], []⟩) b.length ⟨0, Nat.zero_le _, rfl, hr', rfl⟩ (Wk.of ⟨rfl, rfl, rfl, rfl, trivial⟩ ⟨rfl, rfl, trivial⟩ rfl) ?_
    rintro m τ ⟨j, hj, rfl, hs, rfl⟩
    repeat' (first
    | refine p_start (by kernel_rfl) [] (.tk 0 (.tk 1 (.tk 2 (.tk 3 (.tk 4 (.tk 5 (.tk 6 (.tk 7 (.tk 8 (.tk 9 (.one 10 (.tk 11 .done)))))))))))) (by kernel_rfl) ?_
    | (refine p_tk hY rfl rfl (v_ia j rfl rfl (.d rfl) rfl rfl (encSs_get b j ?_) (size_encS _)) rfl noPan_ret ?_; · omega)
    | (refine p_tk hY rfl rfl (v_ia j rfl rfl (.d rfl) rfl rfl (encSs_get b' j ?_) (size_encS _)) rfl noPan_ret ?_; · omega)
    | refine p_tk hY rfl rfl (v_ldp rfl rfl (sub_encS _)) rfl noPan_ret ?_
    | refine p_tk hY rfl rfl (v_ldb rfl rfl rfl sub_S6) rfl noPan_ret ?_
    | (refine p_one hY rfl (x_n rfl (a_call (ih b[j] (List.getElem_mem _) (b'[j]'(by omega)) ?_ ?_) (.cons (.d rfl) (.cons (.d rfl) .nil)) rfl ?_))
       · (have := sumS_mem b b[j] (List.getElem_mem _); omega)
       · (have := sumS_mem b' (b'[j]'(by omega)) (List.getElem_mem _); omega))
    | refine s_seq ?_ | refine s_block ?_ | refine s_reg ?_ | refine s_skip ?_ | refine s_ret ?_ | refine s_end ?_ | refine n_seq ?_ | refine n_blk ?_ | refine n_nil ?_ | refine s_exit ?_ | refine e_seq ?_ | refine e_lp ?_ | refine e_blk ?_ | refine e_blk' rfl ?_
    | (refine o_v hY (v_wr rfl ?_) rfl ?_; · omega) | refine o_v hY (v_pv rfl) rfl ?_ | refine g_y rfl rfl ?_ | refine g_n hY rfl rfl rfl ?_ | refine g_u hY rfl rfl rfl ?_ | (refine g_s rfl rfl ?_ ?_ <;> fail_if_success (intro h; cases h; done)) | refine c_t rfl ?_ | refine c_f rfl ?_ | refine c_s rfl ?_ ?_
    | (intro h; (try simp only [decide_eq_true_eq, decide_eq_false_iff_not, Bool.not_eq_true', Bool.not_eq_false', beq_iff_eq, bne_iff_ne, beq_eq_false_iff_ne, bne_eq_false_iff_eq, ne_eq, toListI] at h); (try simp only [toListC] at h))
    | refine o_a hY (a_box rfl rfl rfl ?_) | refine o_a hY (a_alz rfl rfl rfl rfl rfl ?_) | refine o_a hY (a_als rfl rfl rfl ?_) | refine o_a hY (a_st rfl rfl rfl (.d rfl) rfl rfl ?_)
    | refine r_of (r_d rfl ?_) | refine r_of (r_c rfl rfl ?_) | refine r_of (r_2 rfl rfl ?_) | refine r_of (r_4 rfl rfl rfl rfl ?_)
    | refine p_tk hY rfl rfl (v_pv rfl) rfl noPan_ret ?_ | refine p_tkg hY rfl rfl rfl rfl (v_pv rfl) rfl noPan_ret ?_ | refine p_tkn hY rfl rfl rfl (.inl rfl) rfl noPan_ret ?_ | refine p_tkn hY rfl rfl rfl (.inr rfl) rfl noPan_ret ?_ | refine p_done ?_ | refine p_one hY rfl (x_s rfl (.inl rfl) rfl ?_) | refine p_one hY rfl (x_s rfl (.inr rfl) rfl ?_) | refine p_two hY rfl rfl (x_s rfl (.inl rfl) rfl ?_) (x_s rfl (.inl rfl) rfl ?_) | (refine p_sg rfl rfl rfl rfl ?_ ?_ <;> fail_if_success (intro h; cases h; done)) | (refine p_so rfl rfl rfl rfl ?_ ?_ <;> fail_if_success (intro h; cases h; done))
    | refine o_v hY (v_ldb rfl rfl rfl sub_S6) rfl ?_)
    · refine isR_b ?_
      rw [← hs, sameSL_at (by omega) (by omega), h]; rfl
    · refine n_lp (b.length - (j+1)) ⟨j+1, by omega, rfl, ?_, rfl⟩ (by omega) (Wk.of ⟨rfl, rfl, rfl, rfl, trivial⟩ ⟨rfl, rfl, trivial⟩ rfl)
      rw [← hs, sameSL_at (j := j) (by omega) (by omega), h, Bool.true_and]
    · refine isR_b ?_
      rw [← hs, List.drop_of_length_le (by omega), List.drop_of_length_le (by omega), sameSL]
end Go.Proofs.Ytmclamindmnigaa.Ax
