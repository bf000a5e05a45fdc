/- Contracts of functions that the claim reaches, over data without addresses, and what follows of them (text S1). No conditions beside those that each theorem names. -/
import Derived.Test.YtmclamindmnigaaP7
set_option linter.unusedVariables false
set_option linter.unusedSimpArgs false
namespace Go.Proofs.Ytmclamindmnigaa.Ax
open Go.RowKit
mutual
def sameE : Ex → Ex → Bool
  | .mk k n s l, .mk k' n' s' l' => decide (k = k') && (decide (n = n') && (decide (s = s') && sameL l l'))
def sameL : List Ex → List Ex → Bool
  | [], [] => true
  | x :: r, y :: r' => sameE x y && sameL r r'
  | [], _ :: _ => false
  | _ :: _, [] => false
end
theorem sameL_len : ∀ {l l' : List Ex}, l.length ≠ l'.length → sameL l l' = false
  | [], [], h => absurd rfl h
  | x :: r, y :: r', h => by
    rw [sameL, sameL_len (by simpa using h), Bool.and_false]
  | [], _ :: _, _ => by rw [sameL]
  | _ :: _, [], _ => by rw [sameL]
theorem sameL_at {l l' : List Ex} {j : Nat} (h : j < l.length) (h' : j < l'.length) : sameL (l.drop j) (l'.drop j) = (sameE l[j] l'[j] && sameL (l.drop (j + 1)) (l'.drop (j + 1))) := by
  rw [List.drop_eq_getElem_cons h, List.drop_eq_getElem_cons h', sameL]
mutual
theorem sameE_refl : ∀ x : Ex, sameE x x = true
  | .mk k n s l => by simp [sameE, sameL_refl l]
theorem sameL_refl : ∀ l : List Ex, sameL l l = true
  | [] => by rw [sameL]
  | x :: r => by rw [sameL, sameE_refl x, sameL_refl r]; rfl
end
def CsI (x : Ex) : Prop := ∀ z : Ex, szE x ≤ 1048576 → szE z ≤ 1048576 → AC Try.prog 14 [.d (encE x), .d (encE z)] [] (isR (.d (.b (sameE x z))))
set_option maxHeartbeats 4000000 in
theorem equalE_c (l l' : List Ex) (ih : ∀ x ∈ l, CsI x) (hz : l.length + sumE l ≤ 1048576) (hz' : l'.length + sumE l' ≤ 1048576) :
    AC Try.prog 32 [.d (.sl (encEs l)), .d (.sl (encEs l')), .fn 14 []] [] (isR (.d (.b (sameL l l')))) := by
  have hlen := encEs_len l
  have hlen' := encEs_len l'
  generalize hr : sameL l l' = res
  (refine AC_fn hY Try.func32 rfl Try.ntmps32 Try.results32 (by kernel_rfl) (eq_true (by simp)) ?_; simp only [enumT])
  repeat' (first
    | refine s_seq ?_ | refine s_block ?_ | refine s_reg ?_ | refine s_skip ?_ | refine s_ret ?_ | refine s_end ?_ | refine n_seq ?_ | refine n_blk ?_ | refine n_nil ?_ | refine s_exit ?_ | refine e_seq ?_ | refine e_lp ?_ | refine e_blk ?_ | refine e_blk' rfl ?_
    | (refine o_v hY (v_wr rfl ?_) rfl ?_; · omega) | refine o_v hY (v_pv rfl) rfl ?_ | refine g_y rfl rfl ?_ | refine g_n hY rfl rfl rfl ?_ | refine g_u hY rfl rfl rfl ?_ | (refine g_s rfl rfl ?_ ?_ <;> fail_if_success (intro h; cases h; done)) | refine c_t rfl ?_ | refine c_f rfl ?_ | refine c_s rfl ?_ ?_
    | (intro h; (try simp only [decide_eq_true_eq, decide_eq_false_iff_not, Bool.not_eq_true', Bool.not_eq_false', beq_iff_eq, bne_iff_ne, beq_eq_false_iff_ne, bne_eq_false_iff_eq, ne_eq, toListI] at h); (try simp only [toListC] at h))
    | refine o_a hY (a_box rfl rfl rfl ?_) | refine o_a hY (a_alz rfl rfl rfl rfl rfl ?_) | refine o_a hY (a_als rfl rfl rfl ?_) | refine o_a hY (a_st rfl rfl rfl (.d rfl) rfl rfl ?_)
    | refine r_of (r_d rfl ?_) | refine r_of (r_c rfl rfl ?_) | refine r_of (r_2 rfl rfl ?_) | refine r_of (r_4 rfl rfl rfl rfl ?_))
  · refine isR_b ?_
    rw [← hr, sameL_len (by intro e; simp_all)]
  · have hll : l.length = l'.length := by omega
    refine s_loop (fun m τ => ∃ j : Nat, j ≤ l.length ∧ m = l.length - j ∧ sameL (l.drop j) (l'.drop j) = res ∧ τ = ⟨[(1, .d (.sl (encEs l'))), (2, .fn 14 []), (15, .d (.sl (encEs l))), (16, .d (.i .i64 ((encEs l).length : Int))), (17, .d (.i .i64 (j : Int)))], [], []⟩) l.length ⟨0, Nat.zero_le _, rfl, hr, rfl⟩ (Wk.of ⟨rfl, rfl, rfl, rfl, rfl, trivial⟩ trivial rfl) ?_
    rintro m τ ⟨j, hj, rfl, hs, rfl⟩
    repeat' (first
    | refine s_seq ?_ | refine s_block ?_ | refine s_reg ?_ | refine s_skip ?_ | refine s_ret ?_ | refine s_end ?_ | refine n_seq ?_ | refine n_blk ?_ | refine n_nil ?_ | refine s_exit ?_ | refine e_seq ?_ | refine e_lp ?_ | refine e_blk ?_ | refine e_blk' rfl ?_
    | (refine o_v hY (v_wr rfl ?_) rfl ?_; · omega) | refine o_v hY (v_pv rfl) rfl ?_ | refine g_y rfl rfl ?_ | refine g_n hY rfl rfl rfl ?_ | refine g_u hY rfl rfl rfl ?_ | (refine g_s rfl rfl ?_ ?_ <;> fail_if_success (intro h; cases h; done)) | refine c_t rfl ?_ | refine c_f rfl ?_ | refine c_s rfl ?_ ?_
    | (intro h; (try simp only [decide_eq_true_eq, decide_eq_false_iff_not, Bool.not_eq_true', Bool.not_eq_false', beq_iff_eq, bne_iff_ne, beq_eq_false_iff_ne, bne_eq_false_iff_eq, ne_eq, toListI] at h); (try simp only [toListC] at h))
    | refine o_a hY (a_box rfl rfl rfl ?_) | refine o_a hY (a_alz rfl rfl rfl rfl rfl ?_) | refine o_a hY (a_als rfl rfl rfl ?_) | refine o_a hY (a_st rfl rfl rfl (.d rfl) rfl rfl ?_)
    | refine r_of (r_d rfl ?_) | refine r_of (r_c rfl rfl ?_) | refine r_of (r_2 rfl rfl ?_) | refine r_of (r_4 rfl rfl rfl rfl ?_)
    | (refine o_v hY (v_ia j rfl rfl (.d rfl) rfl rfl (encEs_get l j ?_) (size_encE _)) rfl ?_; · omega)
    | (refine o_v hY (v_ia j rfl rfl (.d rfl) rfl rfl (encEs_get l' j ?_) (size_encE _)) rfl ?_; · omega)
    | refine o_v hY (v_ldp rfl rfl (sub_encE _)) rfl ?_ | refine o_v hY (v_ldb rfl rfl rfl (sub_encE _)) rfl ?_
    | refine o_a hY (a_st rfl rfl rfl (.d rfl) (set_E _) (size_encE _) ?_)
    | (refine o_a hY (a_callW rfl (ih l[j] (List.getElem_mem _) (l'[j]'(by omega)) ?_ ?_) (.cons (.d rfl) (.cons (.d rfl) .nil)) rfl ?_)
       · (have := sumE_mem l l[j] (List.getElem_mem _); omega)
       · (have := sumE_mem l' (l'[j]'(by omega)) (List.getElem_mem _); omega)))
    · refine isR_b ?_
      rw [← hs, sameL_at (by omega) (by omega), h]; rfl
    · refine n_lp (l.length - (j+1)) ⟨j+1, by omega, rfl, ?_, rfl⟩ (by omega) (Wk.of ⟨rfl, rfl, rfl, rfl, rfl, trivial⟩ trivial rfl)
      rw [← hs, sameL_at (j := j) (by omega) (by omega), h, Bool.true_and]
    · refine isR_b ?_
      rw [← hs, List.drop_of_length_le (by omega), List.drop_of_length_le (by omega), sameL]
set_option maxHeartbeats 4000000 in
theorem implSameExp_c (x : Ex) : CsI x := by
  refine Ex.ind (fun k n s l ih => ?_) x
  rintro ⟨k', n', s', l'⟩ hz hz'
  simp only [szE] at hz hz'
  generalize hr : sameE _ _ = res
  simp only [sameE] at hr
  (refine AC_fn hY Try.func14 rfl Try.ntmps14 Try.results14 rfl (eq_true (by simp)) ?_; simp only [enumT])
  repeat' (first
    | refine s_seq ?_ | refine s_block ?_ | refine s_reg ?_ | refine s_skip ?_ | refine s_ret ?_ | refine s_end ?_ | refine n_seq ?_ | refine n_blk ?_ | refine n_nil ?_ | refine s_exit ?_ | refine e_seq ?_ | refine e_lp ?_ | refine e_blk ?_ | refine e_blk' rfl ?_
    | (refine o_v hY (v_wr rfl ?_) rfl ?_; · omega) | refine o_v hY (v_pv rfl) rfl ?_ | refine g_y rfl rfl ?_ | refine g_n hY rfl rfl rfl ?_ | refine g_u hY rfl rfl rfl ?_ | (refine g_s rfl rfl ?_ ?_ <;> fail_if_success (intro h; cases h; done)) | refine c_t rfl ?_ | refine c_f rfl ?_ | refine c_s rfl ?_ ?_
    | (intro h; (try simp only [decide_eq_true_eq, decide_eq_false_iff_not, Bool.not_eq_true', Bool.not_eq_false', beq_iff_eq, bne_iff_ne, beq_eq_false_iff_ne, bne_eq_false_iff_eq, ne_eq, toListI] at h); (try simp only [toListC] at h))
    | refine o_a hY (a_box rfl rfl rfl ?_) | refine o_a hY (a_alz rfl rfl rfl rfl rfl ?_) | refine o_a hY (a_als rfl rfl rfl ?_) | refine o_a hY (a_st rfl rfl rfl (.d rfl) rfl rfl ?_)
    | refine r_of (r_d rfl ?_) | refine r_of (r_c rfl rfl ?_) | refine r_of (r_2 rfl rfl ?_) | refine r_of (r_4 rfl rfl rfl rfl ?_)
    | (refine o_a hY (a_call (equalE_c l l' ih ?_ ?_) (.cons (.d rfl) (.cons (.d rfl) (.cons (.f rfl) .nil))) rfl ?_)
       · omega
       · omega))
  all_goals exact isR_b (by rw [← hr]; simp [*])
def CsS (x : Ex) : Prop := ∀ z : Ex, szE x ≤ 1048576 → szE z ≤ 1048576 → AC Try.prog 15 [.d (encE x), .d (encE z)] [] (isR (.d (.b (sameE x z))))
set_option maxHeartbeats 4000000 in
theorem specSameExp_c (x : Ex) : CsS x := by
  refine Ex.ind (fun k n s l ih => ?_) x
  rintro ⟨k', n', s', l'⟩ hz hz'
  simp only [szE] at hz hz'
  have hlen := encEs_len l
  have hlen' := encEs_len l'
  generalize hr : sameE _ _ = res
  simp only [sameE] at hr
  (refine AC_fn hY Try.func15 rfl Try.ntmps15 Try.results15 rfl (eq_true (by simp)) ?_; simp only [enumT])
  repeat' (first
    | refine s_seq ?_ | refine s_block ?_ | refine s_reg ?_ | refine s_skip ?_ | refine s_ret ?_ | refine s_end ?_ | refine n_seq ?_ | refine n_blk ?_ | refine n_nil ?_ | refine s_exit ?_ | refine e_seq ?_ | refine e_lp ?_ | refine e_blk ?_ | refine e_blk' rfl ?_
    | (refine o_v hY (v_wr rfl ?_) rfl ?_; · omega) | refine o_v hY (v_pv rfl) rfl ?_ | refine g_y rfl rfl ?_ | refine g_n hY rfl rfl rfl ?_ | refine g_u hY rfl rfl rfl ?_ | (refine g_s rfl rfl ?_ ?_ <;> fail_if_success (intro h; cases h; done)) | refine c_t rfl ?_ | refine c_f rfl ?_ | refine c_s rfl ?_ ?_
    | (intro h; (try simp only [decide_eq_true_eq, decide_eq_false_iff_not, Bool.not_eq_true', Bool.not_eq_false', beq_iff_eq, bne_iff_ne, beq_eq_false_iff_ne, bne_eq_false_iff_eq, ne_eq, toListI] at h); (try simp only [toListC] at h))
    | refine o_a hY (a_box rfl rfl rfl ?_) | refine o_a hY (a_alz rfl rfl rfl rfl rfl ?_) | refine o_a hY (a_als rfl rfl rfl ?_) | refine o_a hY (a_st rfl rfl rfl (.d rfl) rfl rfl ?_)
    | refine r_of (r_d rfl ?_) | refine r_of (r_c rfl rfl ?_) | refine r_of (r_2 rfl rfl ?_) | refine r_of (r_4 rfl rfl rfl rfl ?_))
  · exact isR_b (by rw [← hr]; simp [*])
  · exact isR_b (by rw [← hr]; simp [*])
  · exact isR_b (by rw [← hr]; simp [*])
  · exact isR_b (by rw [← hr, sameL_len (by omega)]; simp)
  · have hll : l.length = l'.length := by omega
    have hr' : sameL l l' = res := by rw [← hr]; simp [*]
    clear hr
    refine s_loop (fun m τ => ∃ j : Nat, j ≤ l.length ∧ m = l.length - j ∧ sameL (l.drop j) (l'.drop j) = res ∧ τ = ⟨[(2, .pt (.l 2) 0), (3, .pt (.l 3) 0), (4, .d (.b false)), (5, .d (.i .i64 (j : Int)))], [(2, .var (.d (encE (.mk k n s l)))), (3, .var (.d (encE (.mk k' n' s' l'))))], []⟩) l.length ⟨0, Nat.zero_le _, rfl, hr', rfl⟩ (Wk.of ⟨rfl, rfl, rfl, rfl, trivial⟩ ⟨rfl, rfl, trivial⟩ rfl) ?_
    rintro m τ ⟨j, hj, rfl, hs, rfl⟩
    repeat' (first
    | refine p_start (by kernel_rfl) [] (.tk 0 (.tk 1 (.tk 2 (.tk 3 (.tk 4 (.tk 5 (.tk 6 (.tk 7 (.tk 8 (.tk 9 (.one 10 (.tk 11 .done)))))))))))) (by kernel_rfl) ?_
    | (refine p_tk hY rfl rfl (v_ia j rfl rfl (.d rfl) rfl rfl (encEs_get l j ?_) (size_encE _)) rfl noPan_ret ?_; · omega)
    | (refine p_tk hY rfl rfl (v_ia j rfl rfl (.d rfl) rfl rfl (encEs_get l' j ?_) (size_encE _)) rfl noPan_ret ?_; · omega)
    | refine p_tk hY rfl rfl (v_ldp rfl rfl (sub_encE _)) rfl noPan_ret ?_
    | (refine p_one hY rfl (x_n rfl (a_call (ih l[j] (List.getElem_mem _) (l'[j]'(by omega)) ?_ ?_) (.cons (.d rfl) (.cons (.d rfl) .nil)) rfl ?_))
       · (have := sumE_mem l l[j] (List.getElem_mem _); omega)
       · (have := sumE_mem l' (l'[j]'(by omega)) (List.getElem_mem _); omega))
    | refine s_seq ?_ | refine s_block ?_ | refine s_reg ?_ | refine s_skip ?_ | refine s_ret ?_ | refine s_end ?_ | refine n_seq ?_ | refine n_blk ?_ | refine n_nil ?_ | refine s_exit ?_ | refine e_seq ?_ | refine e_lp ?_ | refine e_blk ?_ | refine e_blk' rfl ?_
    | (refine o_v hY (v_wr rfl ?_) rfl ?_; · omega) | refine o_v hY (v_pv rfl) rfl ?_ | refine g_y rfl rfl ?_ | refine g_n hY rfl rfl rfl ?_ | refine g_u hY rfl rfl rfl ?_ | (refine g_s rfl rfl ?_ ?_ <;> fail_if_success (intro h; cases h; done)) | refine c_t rfl ?_ | refine c_f rfl ?_ | refine c_s rfl ?_ ?_
    | (intro h; (try simp only [decide_eq_true_eq, decide_eq_false_iff_not, Bool.not_eq_true', Bool.not_eq_false', beq_iff_eq, bne_iff_ne, beq_eq_false_iff_ne, bne_eq_false_iff_eq, ne_eq, toListI] at h); (try simp only [toListC] at h))
    | refine o_a hY (a_box rfl rfl rfl ?_) | refine o_a hY (a_alz rfl rfl rfl rfl rfl ?_) | refine o_a hY (a_als rfl rfl rfl ?_) | refine o_a hY (a_st rfl rfl rfl (.d rfl) rfl rfl ?_)
    | refine r_of (r_d rfl ?_) | refine r_of (r_c rfl rfl ?_) | refine r_of (r_2 rfl rfl ?_) | refine r_of (r_4 rfl rfl rfl rfl ?_)
    | refine p_tk hY rfl rfl (v_pv rfl) rfl noPan_ret ?_ | refine p_tkg hY rfl rfl rfl rfl (v_pv rfl) rfl noPan_ret ?_ | refine p_tkn hY rfl rfl rfl (.inl rfl) rfl noPan_ret ?_ | refine p_tkn hY rfl rfl rfl (.inr rfl) rfl noPan_ret ?_ | refine p_done ?_ | refine p_one hY rfl (x_s rfl (.inl rfl) rfl ?_) | refine p_one hY rfl (x_s rfl (.inr rfl) rfl ?_) | refine p_two hY rfl rfl (x_s rfl (.inl rfl) rfl ?_) (x_s rfl (.inl rfl) rfl ?_) | (refine p_sg rfl rfl rfl rfl ?_ ?_ <;> fail_if_success (intro h; cases h; done)) | (refine p_so rfl rfl rfl rfl ?_ ?_ <;> fail_if_success (intro h; cases h; done)))
    · refine isR_b ?_
      rw [← hs, sameL_at (by omega) (by omega), h]; rfl
    · refine n_lp (l.length - (j+1)) ⟨j+1, by omega, rfl, ?_, rfl⟩ (by omega) (Wk.of ⟨rfl, rfl, rfl, rfl, trivial⟩ ⟨rfl, rfl, trivial⟩ rfl)
      rw [← hs, sameL_at (j := j) (by omega) (by omega), h, Bool.true_and]
    · refine isR_b ?_
      rw [← hs, List.drop_of_length_le (by omega), List.drop_of_length_le (by omega), sameL]
end Go.Proofs.Ytmclamindmnigaa.Ax
