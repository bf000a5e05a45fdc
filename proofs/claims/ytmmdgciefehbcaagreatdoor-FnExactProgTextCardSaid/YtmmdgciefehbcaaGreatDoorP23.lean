/- Contracts of functions that the claim reaches, over data without addresses, and what follows of them (text P23). No conditions beside those that each theorem names. -/
import Derived.Test.YtmmdgciefehbcaaGreatDoorP22
set_option linter.unusedVariables false
set_option linter.unusedSimpArgs false
namespace Go.Proofs.YtmmdgciefehbcaaGreatDoor.Ax
open Go.RowKit
theorem strs_nil {l : List ByteArray} (h : strs l = []) : l = [] := by simpa [strs] using h
theorem clone_c (l : List ByteArray) (hl : l.length ≤ 8388608) : AN Tryz.prog 93 [.d (.sl (strs l))] (fun r o => r = .rw (.f 0) (strs l).length ∧ o = .row 9 1 (strs l)) := by
  (refine AN_fn Tryz.func93 rfl Tryz.ntmps93 Tryz.results93 rfl (eq_true (by simp)) ?_; simp only [enumT])
  repeat' (first
    | refine s_seq ?_ | refine s_block ?_ | refine s_reg ?_ | refine s_skip ?_ | refine s_ret ?_ | refine s_end ?_ | refine n_seq ?_ | refine n_blk ?_ | refine n_nil ?_ | refine s_exit ?_ | refine e_seq ?_ | refine e_lp ?_ | refine e_blk ?_ | refine e_blk' rfl ?_
    | (refine o_v hY (v_wr rfl ?_) rfl ?_; · omega) | refine o_v hY (v_pv rfl) rfl ?_ | refine g_y rfl rfl ?_ | refine g_n hY rfl rfl rfl ?_ | refine g_u hY rfl rfl rfl ?_ | (refine g_s rfl rfl ?_ ?_ <;> fail_if_success (intro h; cases h; done)) | refine c_t rfl ?_ | refine c_f rfl ?_ | refine c_s rfl ?_ ?_
    | (intro h; (try simp only [decide_eq_true_eq, decide_eq_false_iff_not, Bool.not_eq_true', Bool.not_eq_false', beq_iff_eq, bne_iff_ne, beq_eq_false_iff_ne, bne_eq_false_iff_eq, ne_eq, toListI] at h); (try simp only [toListC] at h))
    | refine o_a hY (a_box rfl rfl rfl ?_) | refine o_a hY (a_alz rfl rfl rfl rfl rfl ?_) | refine o_a hY (a_als rfl rfl rfl ?_) | refine o_a hY (a_st rfl rfl rfl (.d rfl) rfl rfl ?_)
    | refine r_of (r_d rfl ?_) | refine r_of (r_c rfl rfl ?_) | refine r_of (r_2 rfl rfl ?_) | refine r_of (r_4 rfl rfl rfl rfl ?_)
    | (refine o_nil hY rfl (.d rfl) rfl ?_
       intro b hb)
    | refine o_a hY (a_sl rfl rfl .nil (by simp [allSz]) rfl rfl rfl rfl rfl rfl ?_)
    | (refine o_a hY (a_ap' (List.nil_append (strs l)) rfl rfl rfl rfl (.d rfl) rfl (strs_sz _) rfl rfl rfl ?_ ?_)
       · (simp only [strs_len]; omega)))
  · have := strs_nil (hb h)
    subst this
    exact r_bn rfl 9 (by decide) ⟨rfl, rfl⟩
  · exact r_bw rfl rfl rfl ⟨rfl, rfl⟩
def CnstI (x : Sm) : Prop := ∀ names : List ByteArray, names.length + szS x ≤ 2097152 → AC Tryz.prog 68 [.d (.sl (encSs (bodyS x))), .d (.sl (strs names))] [] (isR (.d (.b (nstL names (bodyS x)))))
set_option maxHeartbeats 8000000 in
theorem loopsOkL_c (l : List Sm) (ih : ∀ x ∈ l, CnstI x) (names : List ByteArray) (hz : names.length + (l.length + sumS l) ≤ 2097152) : AC Tryz.prog 68 [.d (.sl (encSs l)), .d (.sl (strs names))] [] (isR (.d (.b (nstL names l)))) := by
  have hlen := encSs_len l
  generalize hr : nstL names l = res
  (refine AC_fn hY Tryz.func68 rfl Tryz.ntmps68 Tryz.results68 rfl (eq_true (by simp)) ?_; simp only [enumT])
  repeat' (first
    | refine s_seq ?_ | refine s_block ?_ | refine s_reg ?_ | refine s_skip ?_ | refine s_ret ?_ | refine s_end ?_ | refine n_seq ?_ | refine n_blk ?_ | refine n_nil ?_ | refine s_exit ?_ | refine e_seq ?_ | refine e_lp ?_ | refine e_blk ?_ | refine e_blk' rfl ?_
    | (refine o_v hY (v_wr rfl ?_) rfl ?_; · omega) | refine o_v hY (v_pv rfl) rfl ?_ | refine g_y rfl rfl ?_ | refine g_n hY rfl rfl rfl ?_ | refine g_u hY rfl rfl rfl ?_ | (refine g_s rfl rfl ?_ ?_ <;> fail_if_success (intro h; cases h; done)) | refine c_t rfl ?_ | refine c_f rfl ?_ | refine c_s rfl ?_ ?_
    | (intro h; (try simp only [decide_eq_true_eq, decide_eq_false_iff_not, Bool.not_eq_true', Bool.not_eq_false', beq_iff_eq, bne_iff_ne, beq_eq_false_iff_ne, bne_eq_false_iff_eq, ne_eq, toListI] at h); (try simp only [toListC] at h))
    | refine o_a hY (a_box rfl rfl rfl ?_) | refine o_a hY (a_alz rfl rfl rfl rfl rfl ?_) | refine o_a hY (a_als rfl rfl rfl ?_) | refine o_a hY (a_st rfl rfl rfl (.d rfl) rfl rfl ?_)
    | refine r_of (r_d rfl ?_) | refine r_of (r_c rfl rfl ?_) | refine r_of (r_2 rfl rfl ?_) | refine r_of (r_4 rfl rfl rfl rfl ?_))
  refine s_loop (fun m τ => ∃ (j : Nat), j ≤ l.length ∧ m = l.length - j ∧ nstL names (l.drop j) = res ∧ τ = ⟨[(1, .d (.sl (strs names))), (7, .d (.sl (encSs l))), (8, .d (.i .i64 (l.length : Int))), (9, .d (.i .i64 (j : Int)))], [], []⟩) l.length ⟨0, Nat.zero_le _, rfl, hr, rfl⟩ (Wk.of ⟨rfl, rfl, by rw [← hlen]; rfl, rfl, trivial⟩ trivial rfl) ?_
  rintro m τ ⟨j, hj, rfl, h4, rfl⟩
  by_cases hlt : j < l.length
  · have hs := sumS_mem l l[j] (List.getElem_mem _)
    rw [List.drop_eq_getElem_cons hlt, nstL, nstS_eq] at h4
    repeat' (first
    | refine s_seq ?_ | refine s_block ?_ | refine s_reg ?_ | refine s_skip ?_ | refine s_ret ?_ | refine s_end ?_ | refine n_seq ?_ | refine n_blk ?_ | refine n_nil ?_ | refine s_exit ?_ | refine e_seq ?_ | refine e_lp ?_ | refine e_blk ?_ | refine e_blk' rfl ?_
    | (refine o_v hY (v_wr rfl ?_) rfl ?_; · omega) | refine o_v hY (v_pv rfl) rfl ?_ | refine g_y rfl rfl ?_ | refine g_n hY rfl rfl rfl ?_ | refine g_u hY rfl rfl rfl ?_ | (refine g_s rfl rfl ?_ ?_ <;> fail_if_success (intro h; cases h; done)) | refine c_t rfl ?_ | refine c_f rfl ?_ | refine c_s rfl ?_ ?_
    | (intro h; (try simp only [decide_eq_true_eq, decide_eq_false_iff_not, Bool.not_eq_true', Bool.not_eq_false', beq_iff_eq, bne_iff_ne, beq_eq_false_iff_ne, bne_eq_false_iff_eq, ne_eq, toListI] at h); (try simp only [toListC] at h))
    | refine o_a hY (a_box rfl rfl rfl ?_) | refine o_a hY (a_alz rfl rfl rfl rfl rfl ?_) | refine o_a hY (a_als rfl rfl rfl ?_) | refine o_a hY (a_st rfl rfl rfl (.d rfl) rfl rfl ?_)
    | refine r_of (r_d rfl ?_) | refine r_of (r_c rfl rfl ?_) | refine r_of (r_2 rfl rfl ?_) | refine r_of (r_4 rfl rfl rfl rfl ?_)
    | (refine o_v hY (v_ia j rfl rfl (.d rfl) rfl rfl (encSs_get l j ?_) (size_encS _)) rfl ?_; · omega)
    | refine o_v hY (v_ldp rfl rfl (sub_encS _)) rfl ?_ | refine o_v hY (v_ldb rfl rfl rfl (sub_kS _)) rfl ?_
    | refine o_a hY (a_st rfl rfl rfl (.d rfl) (set_S _) (size_encS _) ?_))
    · refine n_lp (l.length - (j+1)) ⟨j+1, by omega, rfl, ?_, rfl⟩ (by omega) (Wk.of ⟨rfl, rfl, rfl, rfl, trivial⟩ trivial rfl)
      rw [if_neg h] at h4
      simpa using h4
    · rw [if_pos h] at h4
      have e1 := contains_c names (sS l[j]) (by omega)
      have e2 := ih l[j] (List.getElem_mem _) (names ++ [sS l[j]]) (by simp; omega)
      have e3 := clone_c names (by omega)
      refine p_start (by kernel_rfl) [] (.tk 0 (.tk 1 (.tk 2 (.one 3 (.tk 4 (.tk 5 (.tk 6 (.tk 7 (.tk 9 (.tk 10 (.two 8 11 (.one 11 (.one 12 (.one 13 (.tk 14 (.tk 15 .done))))) (.one 8 (.one 12 (.one 13 (.tk 14 (.tk 15 .done)))))))))))))))) (by kernel_rfl) ?_
      repeat' (first
    | refine s_seq ?_ | refine s_block ?_ | refine s_reg ?_ | refine s_skip ?_ | refine s_ret ?_ | refine s_end ?_ | refine n_seq ?_ | refine n_blk ?_ | refine n_nil ?_ | refine s_exit ?_ | refine e_seq ?_ | refine e_lp ?_ | refine e_blk ?_ | refine e_blk' rfl ?_
    | (refine o_v hY (v_wr rfl ?_) rfl ?_; · omega) | refine o_v hY (v_pv rfl) rfl ?_ | refine g_y rfl rfl ?_ | refine g_n hY rfl rfl rfl ?_ | refine g_u hY rfl rfl rfl ?_ | (refine g_s rfl rfl ?_ ?_ <;> fail_if_success (intro h; cases h; done)) | refine c_t rfl ?_ | refine c_f rfl ?_ | refine c_s rfl ?_ ?_
    | (intro h; (try simp only [decide_eq_true_eq, decide_eq_false_iff_not, Bool.not_eq_true', Bool.not_eq_false', beq_iff_eq, bne_iff_ne, beq_eq_false_iff_ne, bne_eq_false_iff_eq, ne_eq, toListI] at h); (try simp only [toListC] at h))
    | refine o_a hY (a_box rfl rfl rfl ?_) | refine o_a hY (a_alz rfl rfl rfl rfl rfl ?_) | refine o_a hY (a_als rfl rfl rfl ?_) | refine o_a hY (a_st rfl rfl rfl (.d rfl) rfl rfl ?_)
    | refine r_of (r_d rfl ?_) | refine r_of (r_c rfl rfl ?_) | refine r_of (r_2 rfl rfl ?_) | refine r_of (r_4 rfl rfl rfl rfl ?_)
    | refine p_tk hY rfl rfl (v_pv rfl) rfl noPan_ret ?_ | refine p_tkg hY rfl rfl rfl rfl (v_pv rfl) rfl noPan_ret ?_ | refine p_tkn hY rfl rfl rfl (.inl rfl) rfl noPan_ret ?_ | refine p_tkn hY rfl rfl rfl (.inr rfl) rfl noPan_ret ?_ | refine p_done ?_ | refine p_one hY rfl (x_s rfl (.inl rfl) rfl ?_) | refine p_one hY rfl (x_s rfl (.inr rfl) rfl ?_) | refine p_two hY rfl rfl (x_s rfl (.inl rfl) rfl ?_) (x_s rfl (.inl rfl) rfl ?_) | (refine p_sg rfl rfl rfl rfl ?_ ?_ <;> fail_if_success (intro h; cases h; done)) | (refine p_so rfl rfl rfl rfl ?_ ?_ <;> fail_if_success (intro h; cases h; done))
    | refine p_tk hY rfl rfl (v_ldb rfl rfl rfl (sub_sS _)) rfl noPan_ret ?_ | refine p_tkg hY rfl rfl rfl rfl (v_ldb rfl rfl rfl (sub_sS _)) rfl noPan_ret ?_ | refine p_tkg hY rfl rfl rfl rfl (v_ldb rfl rfl rfl (sub_body _)) rfl noPan_ret ?_
    | refine p_one hY rfl (x_n rfl ?_) | refine p_one hY rfl (x_y rfl rfl rfl rfl ?_) | refine p_two hY rfl rfl (x_y rfl rfl rfl rfl ?_) (x_y rfl rfl rfl rfl ?_)
    | refine a_call e1 (.cons (.d rfl) (.cons (.d rfl) .nil)) rfl ?_
    | (refine a_callN e3 (.cons (.d rfl) .nil) rfl ?_
       rintro _ _ ⟨rfl, rfl⟩)
    | refine a_sl rfl rfl (.cons (.d rfl) .nil) (by simp [allSz, D.size]) rfl rfl rfl rfl rfl rfl ?_
    | (refine a_ap' (strs_one _ _) rfl rfl rfl rfl (.w rfl rfl rfl) rfl (by simp [allSz, D.size]) rfl rfl rfl ?_ ?_
       · (simp only [strs_len, List.length_append, List.length_cons, List.length_nil]; omega))
    | refine a_call e2 (.cons (.d rfl) (.cons (.w rfl rfl rfl) .nil)) rfl ?_)
      all_goals first
        | exact isR_b (by rw [← h4]; simp [*])
        | (refine n_lp (l.length - (j+1)) ⟨j+1, by omega, rfl, ?_, rfl⟩ (by omega) (Wk.of ⟨rfl, rfl, rfl, rfl, trivial⟩ trivial rfl)
           rw [← h4]
           simp [*])
    all_goals (exfalso; omega)
  · obtain rfl : j = l.length := by omega
    rw [List.drop_length] at h4
    repeat' (first
    | refine s_seq ?_ | refine s_block ?_ | refine s_reg ?_ | refine s_skip ?_ | refine s_ret ?_ | refine s_end ?_ | refine n_seq ?_ | refine n_blk ?_ | refine n_nil ?_ | refine s_exit ?_ | refine e_seq ?_ | refine e_lp ?_ | refine e_blk ?_ | refine e_blk' rfl ?_
    | (refine o_v hY (v_wr rfl ?_) rfl ?_; · omega) | refine o_v hY (v_pv rfl) rfl ?_ | refine g_y rfl rfl ?_ | refine g_n hY rfl rfl rfl ?_ | refine g_u hY rfl rfl rfl ?_ | (refine g_s rfl rfl ?_ ?_ <;> fail_if_success (intro h; cases h; done)) | refine c_t rfl ?_ | refine c_f rfl ?_ | refine c_s rfl ?_ ?_
    | (intro h; (try simp only [decide_eq_true_eq, decide_eq_false_iff_not, Bool.not_eq_true', Bool.not_eq_false', beq_iff_eq, bne_iff_ne, beq_eq_false_iff_ne, bne_eq_false_iff_eq, ne_eq, toListI] at h); (try simp only [toListC] at h))
    | refine o_a hY (a_box rfl rfl rfl ?_) | refine o_a hY (a_alz rfl rfl rfl rfl rfl ?_) | refine o_a hY (a_als rfl rfl rfl ?_) | refine o_a hY (a_st rfl rfl rfl (.d rfl) rfl rfl ?_)
    | refine r_of (r_d rfl ?_) | refine r_of (r_c rfl rfl ?_) | refine r_of (r_2 rfl rfl ?_) | refine r_of (r_4 rfl rfl rfl rfl ?_))
    · exfalso; omega
    · exact isR_b (by rw [← h4]; rfl)
theorem implNest_c (x : Sm) : CnstI x := by
  refine Sm.ind (fun kk s a e lo hi b ih => ?_) x
  intro names hz
  have : b.length + sumS b ≤ szS (.mk kk s a e lo hi b) := szS_body (.mk kk s a e lo hi b)
  exact loopsOkL_c b ih names (by omega)
theorem loopsOk_c (l : List Sm) (names : List ByteArray) (hz : names.length + (l.length + sumS l) ≤ 2097152) : AC Tryz.prog 68 [.d (.sl (encSs l)), .d (.sl (strs names))] [] (isR (.d (.b (nstL names l)))) :=
  loopsOkL_c l (fun x _ => implNest_c x) names hz
end Go.Proofs.YtmmdgciefehbcaaGreatDoor.Ax
