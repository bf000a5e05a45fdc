/- Contracts of functions that the claim reaches, over data without addresses, and what follows of them (text Q4). No conditions beside those that each theorem names. -/
import Derived.Test.YtmmdgciefehbcaaGreatDoorQ2
set_option linter.unusedVariables false
set_option linter.unusedSimpArgs false
namespace Go.Proofs.YtmmdgciefehbcaaGreatDoor.Ax
def Cix (x : Ex) : Prop := okT x → szT x ≤ 100000000 → AC Go.Proofs.Tryz.prog 43 [.d (encE x)] [] (isR (.d (.s (txE x))))
theorem sub_kE (x : Ex) : (encE x).sub 0 1 false = some (.i .i64 (knd x)) := by cases x; rfl
set_option maxHeartbeats 8000000 in
theorem implExp_c (x : Ex) : Cix x := by
  refine Ex.ind (fun k n s l ih => ?_) x
  intro h hz
  have hh := h
  obtain ⟨h, hl⟩ := h
  rcases here_cases h with ⟨rfl, h0, h1, rfl, hs⟩ | ⟨rfl, rfl, hs⟩ | ⟨rfl, ⟨a, rfl⟩, hs⟩ | ⟨hk, ⟨a, b, rfl⟩, hs⟩
  · unfold encE
    (refine AC_fn hY Tryz.func43 rfl Tryz.ntmps43 Tryz.results43 rfl (eq_true (by simp)) ?_; simp only [enumT])
    repeat' (first
    | refine s_seq ?_ | refine s_block ?_ | refine s_reg ?_ | refine s_skip ?_ | refine s_ret ?_ | refine s_end ?_ | refine n_seq ?_ | refine n_blk ?_ | refine n_nil ?_ | refine s_exit ?_ | refine e_seq ?_ | refine e_lp ?_ | refine e_blk ?_ | refine e_blk' rfl ?_
    | (refine o_v hY (v_wr rfl ?_) rfl ?_; · omega) | refine o_v hY (v_pv rfl) rfl ?_ | refine g_y rfl rfl ?_ | refine g_n hY rfl rfl rfl ?_ | refine g_u hY rfl rfl rfl ?_ | (refine g_s rfl rfl ?_ ?_ <;> fail_if_success (intro h; cases h; done)) | refine c_t rfl ?_ | refine c_f rfl ?_ | refine c_s rfl ?_ ?_
    | (intro h; (try simp only [decide_eq_true_eq, decide_eq_false_iff_not, Bool.not_eq_true', Bool.not_eq_false', beq_iff_eq, bne_iff_ne, beq_eq_false_iff_ne, bne_eq_false_iff_eq, ne_eq, toListI] at h); (try simp only [toListC] at h))
    | refine o_a hY (a_box rfl rfl rfl ?_) | refine o_a hY (a_alz rfl rfl rfl rfl rfl ?_) | refine o_a hY (a_als rfl rfl rfl ?_) | refine o_a hY (a_st rfl rfl rfl (.d rfl) rfl rfl ?_)
    | refine r_of (r_d rfl ?_) | refine r_of (r_c rfl rfl ?_) | refine r_of (r_2 rfl rfl ?_) | refine r_of (r_4 rfl rfl rfl rfl ?_)
    | refine o_a hY (a_call (implNumText_c n (by omega) (by omega)) (.cons (.d rfl) .nil) rfl ?_))
    exact isR_s (by simp [txE, txK])
  · unfold encE
    (refine AC_fn hY Tryz.func43 rfl Tryz.ntmps43 Tryz.results43 rfl (eq_true (by simp)) ?_; simp only [enumT])
    repeat' (first
    | refine s_seq ?_ | refine s_block ?_ | refine s_reg ?_ | refine s_skip ?_ | refine s_ret ?_ | refine s_end ?_ | refine n_seq ?_ | refine n_blk ?_ | refine n_nil ?_ | refine s_exit ?_ | refine e_seq ?_ | refine e_lp ?_ | refine e_blk ?_ | refine e_blk' rfl ?_
    | (refine o_v hY (v_wr rfl ?_) rfl ?_; · omega) | refine o_v hY (v_pv rfl) rfl ?_ | refine g_y rfl rfl ?_ | refine g_n hY rfl rfl rfl ?_ | refine g_u hY rfl rfl rfl ?_ | (refine g_s rfl rfl ?_ ?_ <;> fail_if_success (intro h; cases h; done)) | refine c_t rfl ?_ | refine c_f rfl ?_ | refine c_s rfl ?_ ?_
    | (intro h; (try simp only [decide_eq_true_eq, decide_eq_false_iff_not, Bool.not_eq_true', Bool.not_eq_false', beq_iff_eq, bne_iff_ne, beq_eq_false_iff_ne, bne_eq_false_iff_eq, ne_eq, toListI] at h); (try simp only [toListC] at h))
    | refine o_a hY (a_box rfl rfl rfl ?_) | refine o_a hY (a_alz rfl rfl rfl rfl rfl ?_) | refine o_a hY (a_als rfl rfl rfl ?_) | refine o_a hY (a_st rfl rfl rfl (.d rfl) rfl rfl ?_)
    | refine r_of (r_d rfl ?_) | refine r_of (r_c rfl rfl ?_) | refine r_of (r_2 rfl rfl ?_) | refine r_of (r_4 rfl rfl rfl rfl ?_))
    exact isR_s (by simp [txE, txK])
  · simp only [szT, szTs] at hz
    have ta := tx_size a hl.1
    have A0 := ih a (by simp) hl.1 (by omega)
    simp only [txE, txEs, txK, nth, List.getD_cons_zero, show ¬ (3 : Int) = 1 by omega, show ¬ (3 : Int) = 2 by omega, if_false, if_true]
    generalize txE a = ua at *
    unfold encE
    (refine AC_fn hY Tryz.func43 rfl Tryz.ntmps43 Tryz.results43 rfl (eq_true (by simp)) ?_; simp only [enumT])
    repeat' (first
    | refine s_seq ?_ | refine s_block ?_ | refine s_reg ?_ | refine s_skip ?_ | refine s_ret ?_ | refine s_end ?_ | refine n_seq ?_ | refine n_blk ?_ | refine n_nil ?_ | refine s_exit ?_ | refine e_seq ?_ | refine e_lp ?_ | refine e_blk ?_ | refine e_blk' rfl ?_
    | (refine o_v hY (v_wr rfl ?_) rfl ?_; · omega) | refine o_v hY (v_pv rfl) rfl ?_ | refine g_y rfl rfl ?_ | refine g_n hY rfl rfl rfl ?_ | refine g_u hY rfl rfl rfl ?_ | (refine g_s rfl rfl ?_ ?_ <;> fail_if_success (intro h; cases h; done)) | refine c_t rfl ?_ | refine c_f rfl ?_ | refine c_s rfl ?_ ?_
    | (intro h; (try simp only [decide_eq_true_eq, decide_eq_false_iff_not, Bool.not_eq_true', Bool.not_eq_false', beq_iff_eq, bne_iff_ne, beq_eq_false_iff_ne, bne_eq_false_iff_eq, ne_eq, toListI] at h); (try simp only [toListC] at h))
    | refine o_a hY (a_box rfl rfl rfl ?_) | refine o_a hY (a_alz rfl rfl rfl rfl rfl ?_) | refine o_a hY (a_als rfl rfl rfl ?_) | refine o_a hY (a_st rfl rfl rfl (.d rfl) rfl rfl ?_)
    | refine r_of (r_d rfl ?_) | refine r_of (r_c rfl rfl ?_) | refine r_of (r_2 rfl rfl ?_) | refine r_of (r_4 rfl rfl rfl rfl ?_)
    | refine p_tk hY rfl rfl (v_pv rfl) rfl noPan_ret ?_ | refine p_tkg hY rfl rfl rfl rfl (v_pv rfl) rfl noPan_ret ?_ | refine p_tkn hY rfl rfl rfl (.inl rfl) rfl noPan_ret ?_ | refine p_tkn hY rfl rfl rfl (.inr rfl) rfl noPan_ret ?_ | refine p_done ?_ | refine p_one hY rfl (x_s rfl (.inl rfl) rfl ?_) | refine p_one hY rfl (x_s rfl (.inr rfl) rfl ?_) | refine p_two hY rfl rfl (x_s rfl (.inl rfl) rfl ?_) (x_s rfl (.inl rfl) rfl ?_) | (refine p_sg rfl rfl rfl rfl ?_ ?_ <;> fail_if_success (intro h; cases h; done)) | (refine p_so rfl rfl rfl rfl ?_ ?_ <;> fail_if_success (intro h; cases h; done))
    | refine p_start (id := 7) (by kernel_rfl) [] (.tk 0 (.tk 1 (.tk 2 (.tk 3 (.tk 4 (.tk 5 (.tk 6 (.one 7 (.tk 8 (.tk 9 (.tk 10 .done))))))))))) (by kernel_rfl) ?_
    | refine p_tk hY rfl rfl (v_ia 0 rfl rfl (.d rfl) rfl rfl rfl (size_encE _)) rfl noPan_ret ?_
    | refine p_tk hY rfl rfl (v_ldp rfl rfl (sub_encE _)) rfl noPan_ret ?_
    | (refine p_tk hY rfl rfl (v_cat rfl rfl ?_) rfl noPan_ret ?_
       · (simp only [ByteArray.size_append, szl, List.size_toArray, List.length_cons, List.length_nil]; omega))
    | refine p_one hY rfl (x_n rfl ?_) | refine a_call A0 (.cons (.d rfl) .nil) rfl ?_)
    exact isR_s rfl
  · simp only [szT, szTs] at hz
    have ta := tx_size a hl.1
    have tb := tx_size b hl.2.1
    have A0 := ih a (by simp) hl.1 (by omega)
    have B0 := ih b (by simp) hl.2.1 (by omega)
    have SA := isSum_c a
    have SB := isSum_c b
    have w1 := (wi_size (txE a) (sumK (knd a))).1
    have w2 := (wi_size (txE b) (sumK (knd b))).1
    have w3 := (wi_size (txE b) (sumK (knd b) || decide (knd b = 6))).1
    have w4 := (wi_size (txE b) true).1
    have w5 := (wi_size (txE b) (knd b == 6)).1
    generalize hr : txE _ = res
    simp only [txE, txEs, txK, nth, List.getD_cons_zero, List.getD_cons_succ] at hr
    unfold encE
    rcases hk with rfl | rfl | rfl | rfl | rfl
    all_goals (refine AC_fn hY Tryz.func43 rfl Tryz.ntmps43 Tryz.results43 rfl (eq_true (by simp)) ?_; simp only [enumT])
    all_goals
      repeat' (first
    | refine s_seq ?_ | refine s_block ?_ | refine s_reg ?_ | refine s_skip ?_ | refine s_ret ?_ | refine s_end ?_ | refine n_seq ?_ | refine n_blk ?_ | refine n_nil ?_ | refine s_exit ?_ | refine e_seq ?_ | refine e_lp ?_ | refine e_blk ?_ | refine e_blk' rfl ?_
    | (refine o_v hY (v_wr rfl ?_) rfl ?_; · omega) | refine o_v hY (v_pv rfl) rfl ?_ | refine g_y rfl rfl ?_ | refine g_n hY rfl rfl rfl ?_ | refine g_u hY rfl rfl rfl ?_ | (refine g_s rfl rfl ?_ ?_ <;> fail_if_success (intro h; cases h; done)) | refine c_t rfl ?_ | refine c_f rfl ?_ | refine c_s rfl ?_ ?_
    | (intro h; (try simp only [decide_eq_true_eq, decide_eq_false_iff_not, Bool.not_eq_true', Bool.not_eq_false', beq_iff_eq, bne_iff_ne, beq_eq_false_iff_ne, bne_eq_false_iff_eq, ne_eq, toListI] at h); (try simp only [toListC] at h))
    | refine o_a hY (a_box rfl rfl rfl ?_) | refine o_a hY (a_alz rfl rfl rfl rfl rfl ?_) | refine o_a hY (a_als rfl rfl rfl ?_) | refine o_a hY (a_st rfl rfl rfl (.d rfl) rfl rfl ?_)
    | refine r_of (r_d rfl ?_) | refine r_of (r_c rfl rfl ?_) | refine r_of (r_2 rfl rfl ?_) | refine r_of (r_4 rfl rfl rfl rfl ?_)
    | refine p_tk hY rfl rfl (v_pv rfl) rfl noPan_ret ?_ | refine p_tkg hY rfl rfl rfl rfl (v_pv rfl) rfl noPan_ret ?_ | refine p_tkn hY rfl rfl rfl (.inl rfl) rfl noPan_ret ?_ | refine p_tkn hY rfl rfl rfl (.inr rfl) rfl noPan_ret ?_ | refine p_done ?_ | refine p_one hY rfl (x_s rfl (.inl rfl) rfl ?_) | refine p_one hY rfl (x_s rfl (.inr rfl) rfl ?_) | refine p_two hY rfl rfl (x_s rfl (.inl rfl) rfl ?_) (x_s rfl (.inl rfl) rfl ?_) | (refine p_sg rfl rfl rfl rfl ?_ ?_ <;> fail_if_success (intro h; cases h; done)) | (refine p_so rfl rfl rfl rfl ?_ ?_ <;> fail_if_success (intro h; cases h; done))
    | refine p_start (id := 8) (by kernel_rfl) [] (.tk 0 (.tk 1 (.tk 2 (.tk 3 (.tk 5 (.tk 6 (.tk 7 (.tk 8 (.one 4 (.one 9 (.tk 10 (.tk 11 .done)))))))))))) (by kernel_rfl) ?_ | refine p_start (id := 15) (by kernel_rfl) [] (.tk 0 (.tk 1 (.tk 2 (.tk 3 (.tk 4 (.tk 8 (.tk 9 (.tk 10 (.tk 11 (.tk 12 (.one 5 (.one 6 (.tk 7 (.one 13 (.tk 14 (.tk 15 (.tk 16 (.tk 17 (.tk 18 (.tk 19 (.tk 20 (.tk 21 (.one 22 (.tk 23 (.tk 24 .done))))))))))))))))))))))))) (by kernel_rfl) ?_
    | refine p_tk hY rfl rfl (v_ia 0 rfl rfl (.d rfl) rfl rfl rfl (size_encE _)) rfl noPan_ret ?_ | refine p_tk hY rfl rfl (v_ia 1 rfl rfl (.d rfl) rfl rfl rfl (size_encE _)) rfl noPan_ret ?_
    | refine p_tk hY rfl rfl (v_ldp rfl rfl (sub_encE _)) rfl noPan_ret ?_
    | refine p_tkg hY rfl rfl rfl rfl (v_ia 1 rfl rfl (.d rfl) rfl rfl rfl (size_encE _)) rfl noPan_ret ?_ | refine p_tkg hY rfl rfl rfl rfl (v_ldp rfl rfl (sub_kE _)) rfl noPan_ret ?_
    | (refine p_tk hY rfl rfl (v_cat rfl rfl ?_) rfl noPan_ret ?_
       · (simp only [ByteArray.size_append, szl, List.size_toArray, List.length_cons, List.length_nil]; omega))
    | refine o_v hY (v_ia 0 rfl rfl (.d rfl) rfl rfl rfl (size_encE _)) rfl ?_ | refine o_v hY (v_ia 1 rfl rfl (.d rfl) rfl rfl rfl (size_encE _)) rfl ?_ | refine o_v hY (v_ldp rfl rfl (sub_encE _)) rfl ?_
    | (refine o_v hY (v_cat rfl rfl ?_) rfl ?_
       · (simp only [ByteArray.size_append, szl, List.size_toArray, List.length_cons, List.length_nil]; omega))
    | refine p_one hY rfl (x_n rfl ?_) | refine o_a hY ?_ | refine a_call A0 (.cons (.d rfl) .nil) rfl ?_ | refine a_call B0 (.cons (.d rfl) .nil) rfl ?_ | refine a_call SA (.cons (.d rfl) .nil) rfl ?_ | refine a_call SB (.cons (.d rfl) .nil) rfl ?_
    | (refine a_call (within_c _ _ ?_) (.cons (.d rfl) (.cons (.d rfl) .nil)) rfl ?_
       · omega))
    all_goals (refine isR_s ?_; rw [← hr]; simp [eqI, *]; done)
end Go.Proofs.YtmmdgciefehbcaaGreatDoor.Ax
