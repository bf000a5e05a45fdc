/- Contracts of functions that the claim reaches, over data without addresses, and what follows of them (text H10). No conditions beside those that each theorem names. -/
import Derived.Test.YtmclamindmnigaaH9
set_option linter.unusedVariables false
set_option linter.unusedSimpArgs false
namespace Go.Proofs.Ytmclamindmnigaa.Ax
open Go.RowKit
section
variable (code : List D) (hc : okCode code)
include hc
theorem DrawExpOk_c : AC Try.prog 5 [.d (.sl code)] [] (fun r Fo => Fo = [] ∧ ∃ x, szE x ≤ 60 ∧ r = .d (encE x)) := by
  (refine AC_fn hY Try.func5 rfl Try.ntmps5 Try.results5 rfl (eq_true (by simp)) ?_; simp only [enumT])
  repeat' (first
    | refine s_seq ?_ | refine s_block ?_ | refine s_reg ?_ | refine s_skip ?_ | refine s_ret ?_ | refine s_end ?_ | refine n_seq ?_ | refine n_blk ?_ | refine n_nil ?_ | refine s_exit ?_ | refine e_seq ?_ | refine e_lp ?_ | refine e_blk ?_ | refine e_blk' rfl ?_
    | (refine o_v hY (v_wr rfl ?_) rfl ?_; · omega) | refine o_v hY (v_pv rfl) rfl ?_ | refine g_y rfl rfl ?_ | refine g_n hY rfl rfl rfl ?_ | refine g_u hY rfl rfl rfl ?_ | (refine g_s rfl rfl ?_ ?_ <;> fail_if_success (intro h; cases h; done)) | refine c_t rfl ?_ | refine c_f rfl ?_ | refine c_s rfl ?_ ?_
    | (intro h; (try simp only [decide_eq_true_eq, decide_eq_false_iff_not, Bool.not_eq_true', Bool.not_eq_false', beq_iff_eq, bne_iff_ne, beq_eq_false_iff_ne, bne_eq_false_iff_eq, ne_eq, toListI] at h); (try simp only [toListC] at h))
    | refine o_a hY (a_box rfl rfl rfl ?_) | refine o_a hY (a_alz rfl rfl rfl rfl rfl ?_) | refine o_a hY (a_als rfl rfl rfl ?_) | refine o_a hY (a_st rfl rfl rfl (.d rfl) rfl rfl ?_)
    | refine r_of (r_d rfl ?_) | refine r_of (r_c rfl rfl ?_) | refine r_of (r_2 rfl rfl ?_) | refine r_of (r_4 rfl rfl rfl rfl ?_)
    | (refine o_a hY (a_callN (l1New_c code hc) (.cons (.d rfl) .nil) rfl ?_)
       rintro _ _ ⟨h, rfl, rfl⟩)
    | (refine o_lend [5] [] (F' := [cur code 0 h]) (l3Any_c code hc 0 h (by decide)) (.cons (.p rfl) .nil) ⟨rfl, trivial⟩ rfl ?_
       rintro _ _ ⟨⟨x, hx, rfl⟩, i1, h1, h0', rfl⟩
       refine ⟨rfl, ?_⟩)
    | refine o_a hY (a_st rfl rfl rfl (.d rfl) (set_E _) (size_encE _) ?_))
  exact r_of (r_c rfl (ldq_b rfl rfl (sub_encE _)) ⟨rfl, x, hx, rfl⟩)
theorem DrawStmtOk_c : AC Try.prog 6 [.d (.sl code)] [] (fun r Fo => Fo = [] ∧ ∃ x, szS x ≤ 2000 ∧ r = .d (encS x)) := by
  (refine AC_fn hY Try.func6 rfl Try.ntmps6 Try.results6 rfl (eq_true (by simp)) ?_; simp only [enumT])
  repeat' (first
    | refine s_seq ?_ | refine s_block ?_ | refine s_reg ?_ | refine s_skip ?_ | refine s_ret ?_ | refine s_end ?_ | refine n_seq ?_ | refine n_blk ?_ | refine n_nil ?_ | refine s_exit ?_ | refine e_seq ?_ | refine e_lp ?_ | refine e_blk ?_ | refine e_blk' rfl ?_
    | (refine o_v hY (v_wr rfl ?_) rfl ?_; · omega) | refine o_v hY (v_pv rfl) rfl ?_ | refine g_y rfl rfl ?_ | refine g_n hY rfl rfl rfl ?_ | refine g_u hY rfl rfl rfl ?_ | (refine g_s rfl rfl ?_ ?_ <;> fail_if_success (intro h; cases h; done)) | refine c_t rfl ?_ | refine c_f rfl ?_ | refine c_s rfl ?_ ?_
    | (intro h; (try simp only [decide_eq_true_eq, decide_eq_false_iff_not, Bool.not_eq_true', Bool.not_eq_false', beq_iff_eq, bne_iff_ne, beq_eq_false_iff_ne, bne_eq_false_iff_eq, ne_eq, toListI] at h); (try simp only [toListC] at h))
    | refine o_a hY (a_box rfl rfl rfl ?_) | refine o_a hY (a_alz rfl rfl rfl rfl rfl ?_) | refine o_a hY (a_als rfl rfl rfl ?_) | refine o_a hY (a_st rfl rfl rfl (.d rfl) rfl rfl ?_)
    | refine r_of (r_d rfl ?_) | refine r_of (r_c rfl rfl ?_) | refine r_of (r_2 rfl rfl ?_) | refine r_of (r_4 rfl rfl rfl rfl ?_)
    | (refine o_a hY (a_callN (l1New_c code hc) (.cons (.d rfl) .nil) rfl ?_)
       rintro _ _ ⟨h, rfl, rfl⟩)
    | (refine o_lend [5] [] (F' := [cur code 0 h]) (l3AnyStmt_c code hc 0 h (by decide)) (.cons (.p rfl) .nil) ⟨rfl, trivial⟩ rfl ?_
       rintro _ _ ⟨⟨x, hx, rfl⟩, i1, h1, h0', rfl⟩
       refine ⟨rfl, ?_⟩)
    | refine o_a hY (a_st rfl rfl rfl (.d rfl) (set_S _) (size_encS _) ?_))
  exact r_of (r_c rfl (ldq_b rfl rfl (sub_encS _)) ⟨rfl, x, hx, rfl⟩)
theorem DrawSize_c : AC Try.prog 9 [.d (.sl code)] [] (fun r Fo => Fo = [] ∧ ∃ l : List Sm, l.length + sumS l ≤ 4000 ∧ r = .d (.sl (encSs l))) := by
  (refine AC_fn hY Try.func9 rfl Try.ntmps9 Try.results9 rfl (eq_true (by simp)) ?_; simp only [enumT])
  repeat' (first
    | refine s_seq ?_ | refine s_block ?_ | refine s_reg ?_ | refine s_skip ?_ | refine s_ret ?_ | refine s_end ?_ | refine n_seq ?_ | refine n_blk ?_ | refine n_nil ?_ | refine s_exit ?_ | refine e_seq ?_ | refine e_lp ?_ | refine e_blk ?_ | refine e_blk' rfl ?_
    | (refine o_v hY (v_wr rfl ?_) rfl ?_; · omega) | refine o_v hY (v_pv rfl) rfl ?_ | refine g_y rfl rfl ?_ | refine g_n hY rfl rfl rfl ?_ | refine g_u hY rfl rfl rfl ?_ | (refine g_s rfl rfl ?_ ?_ <;> fail_if_success (intro h; cases h; done)) | refine c_t rfl ?_ | refine c_f rfl ?_ | refine c_s rfl ?_ ?_
    | (intro h; (try simp only [decide_eq_true_eq, decide_eq_false_iff_not, Bool.not_eq_true', Bool.not_eq_false', beq_iff_eq, bne_iff_ne, beq_eq_false_iff_ne, bne_eq_false_iff_eq, ne_eq, toListI] at h); (try simp only [toListC] at h))
    | refine o_a hY (a_box rfl rfl rfl ?_) | refine o_a hY (a_alz rfl rfl rfl rfl rfl ?_) | refine o_a hY (a_als rfl rfl rfl ?_) | refine o_a hY (a_st rfl rfl rfl (.d rfl) rfl rfl ?_)
    | refine r_of (r_d rfl ?_) | refine r_of (r_c rfl rfl ?_) | refine r_of (r_2 rfl rfl ?_) | refine r_of (r_4 rfl rfl rfl rfl ?_)
    | (refine o_a hY (a_callN (l1New_c code hc) (.cons (.d rfl) .nil) rfl ?_)
       rintro _ _ ⟨h, rfl, rfl⟩)
    | (refine o_lend [5] [] (F' := [cur code 0 h]) (DrSs_data (l3Stmts_c code hc 0 h (by decide) 2 4 (bS 2) (by decide) (by decide) fun i h h0 => DrS_data (l3DrawStmt_c code hc 2 (by decide) 2 (by decide) i h h0))) (.cons (.p rfl) (.cons (.d rfl) (.cons (.d rfl) .nil))) ⟨rfl, trivial⟩ rfl ?_
       rintro _ _ ⟨⟨l, hl, hx, rfl⟩, i1, h1, h0', rfl⟩
       refine ⟨rfl, ?_⟩))
  have h1 := sumS_le hx
  have h2 := Nat.mul_le_mul_right (bS 2) hl
  rw [bS2] at h1 h2
  exact ⟨rfl, l, by omega, rfl⟩
set_option maxHeartbeats 4000000 in
theorem DrawSameExp_c : AC Try.prog 7 [.d (.sl code)] [] (fun r Fo => Fo = [] ∧ ∃ x z, szE x ≤ 60 ∧ szE z ≤ 60 ∧ r = .tu [encE x, encE z]) := by
  (refine AC_fn hY Try.func7 rfl Try.ntmps7 Try.results7 rfl (eq_true (by simp)) ?_; simp only [enumT])
  repeat' (first
    | refine p_start (id := 4) (by kernel_rfl) [3, 4] (.tk 0 (.tk 1 (.one 2 (.one 3 (.one 4 .done))))) (by kernel_rfl) ?_
    | refine p_start (id := 5) (by kernel_rfl) [2, 3, 4] (.tk 1 (.two 0 2 (.one 2 (.one 3 (.one 4 .done))) (.one 0 (.one 3 (.one 4 .done))))) (by kernel_rfl) ?_
    | refine p_tk hY rfl rfl (v_ldb rfl rfl rfl (sub_encE _)) rfl noPan_ret ?_
    | refine p_one hY rfl (x_n rfl (a_call (l3CopyExp_c x (by omega)) (.cons (.d rfl) .nil) rfl ?_))
    | refine p_one hY rfl (x_n rfl (a_st rfl rfl rfl (.d rfl) (set_E _) (size_encE _) ?_))
    | (refine p_twoS (stepOk.of hY rfl (.inl rfl) (x_n rfl (a_q (v_ldb rfl rfl rfl (sub_encE _)) rfl ?_))) (stepOk.lend [7] (F' := [cur code i2 h2]) rfl rfl rfl (l3Any_c code hc i2 h2 h02) (.cons (.p rfl) .nil) ⟨rfl, trivial⟩ rfl ?_)
       rotate_left
       rintro _ _ ⟨⟨z, hz, rfl⟩, i3, h3, h03, rfl⟩
       refine ⟨rfl, ?_⟩)
    | (refine p_oneS (stepOk.lend [7] (F' := [cur code i2 h2]) rfl rfl rfl (l3Any_c code hc i2 h2 h02) (.cons (.p rfl) .nil) ⟨rfl, trivial⟩ rfl ?_)
       rintro _ _ ⟨⟨z, hz, rfl⟩, i3, h3, h03, rfl⟩
       refine ⟨rfl, ?_⟩)
    | refine p_one hY rfl (x_n rfl (a_q (v_ldb rfl rfl rfl (sub_encE _)) rfl ?_))
    | refine s_seq ?_ | refine s_block ?_ | refine s_reg ?_ | refine s_skip ?_ | refine s_ret ?_ | refine s_end ?_ | refine n_seq ?_ | refine n_blk ?_ | refine n_nil ?_ | refine s_exit ?_ | refine e_seq ?_ | refine e_lp ?_ | refine e_blk ?_ | refine e_blk' rfl ?_
    | (refine o_v hY (v_wr rfl ?_) rfl ?_; · omega) | refine o_v hY (v_pv rfl) rfl ?_ | refine g_y rfl rfl ?_ | refine g_n hY rfl rfl rfl ?_ | refine g_u hY rfl rfl rfl ?_ | (refine g_s rfl rfl ?_ ?_ <;> fail_if_success (intro h; cases h; done)) | refine c_t rfl ?_ | refine c_f rfl ?_ | refine c_s rfl ?_ ?_
    | (intro h; (try simp only [decide_eq_true_eq, decide_eq_false_iff_not, Bool.not_eq_true', Bool.not_eq_false', beq_iff_eq, bne_iff_ne, beq_eq_false_iff_ne, bne_eq_false_iff_eq, ne_eq, toListI] at h); (try simp only [toListC] at h))
    | refine o_a hY (a_box rfl rfl rfl ?_) | refine o_a hY (a_alz rfl rfl rfl rfl rfl ?_) | refine o_a hY (a_als rfl rfl rfl ?_) | refine o_a hY (a_st rfl rfl rfl (.d rfl) rfl rfl ?_)
    | refine r_of (r_d rfl ?_) | refine r_of (r_c rfl rfl ?_) | refine r_of (r_2 rfl rfl ?_) | refine r_of (r_4 rfl rfl rfl rfl ?_)
    | refine p_tk hY rfl rfl (v_pv rfl) rfl noPan_ret ?_ | refine p_tkg hY rfl rfl rfl rfl (v_pv rfl) rfl noPan_ret ?_ | refine p_tkn hY rfl rfl rfl (.inl rfl) rfl noPan_ret ?_ | refine p_tkn hY rfl rfl rfl (.inr rfl) rfl noPan_ret ?_ | refine p_done ?_ | refine p_one hY rfl (x_s rfl (.inl rfl) rfl ?_) | refine p_one hY rfl (x_s rfl (.inr rfl) rfl ?_) | refine p_two hY rfl rfl (x_s rfl (.inl rfl) rfl ?_) (x_s rfl (.inl rfl) rfl ?_) | (refine p_sg rfl rfl rfl rfl ?_ ?_ <;> fail_if_success (intro h; cases h; done)) | (refine p_so rfl rfl rfl rfl ?_ ?_ <;> fail_if_success (intro h; cases h; done))
    | (refine o_a hY (a_callN (l1New_c code hc) (.cons (.d rfl) .nil) rfl ?_)
       rintro _ _ ⟨h, rfl, rfl⟩)
    | (refine o_lend [7] [] (F' := [cur code 0 h]) (l3Any_c code hc 0 h (by decide)) (.cons (.p rfl) .nil) ⟨rfl, trivial⟩ rfl ?_
       rintro _ _ ⟨⟨x, hx, rfl⟩, i1, h1, h01, rfl⟩
       refine ⟨rfl, ?_⟩)
    | (refine o_lend [7] [] (F' := [cur code i1 h1]) (l1Once_c code hc i1 h1 h01 2 (by decide) (by decide)) (.cons (.p rfl) (.cons (.d rfl) .nil)) ⟨rfl, trivial⟩ rfl ?_
       rintro _ _ ⟨⟨b, rfl⟩, i2, h2, h02, rfl⟩
       refine ⟨rfl, ?_⟩)
    | refine o_a hY (a_st rfl rfl rfl (.d rfl) (set_E _) (size_encE _) ?_))
  all_goals first
    | exact r_of (r_2c rfl (ldq_b rfl rfl (sub_encE _)) rfl (ldq_b rfl rfl (sub_encE _)) ⟨rfl, x, x, hx, hx, rfl⟩)
    | exact r_of (r_2c rfl (ldq_b rfl rfl (sub_encE _)) rfl (ldq_b rfl rfl (sub_encE _)) ⟨rfl, x, z, hx, hz, rfl⟩)
set_option maxHeartbeats 4000000 in
theorem DrawSameStmt_c : AC Try.prog 8 [.d (.sl code)] [] (fun r Fo => Fo = [] ∧ ∃ x z, szS x ≤ 2000 ∧ szS z ≤ 2000 ∧ r = .tu [encS x, encS z]) := by
  (refine AC_fn hY Try.func8 rfl Try.ntmps8 Try.results8 rfl (eq_true (by simp)) ?_; simp only [enumT])
  repeat' (first
    | refine p_start (id := 4) (by kernel_rfl) [6, 7] (.tk 0 (.tk 1 (.one 2 (.one 3 (.two 4 6 (.two 5 6 (.one 6 (.one 7 .done)) (.one 5 (.one 7 .done))) (.one 4 (.one 5 (.one 7 .done)))))))) (by kernel_rfl) ?_
    | refine p_start (id := 5) (by kernel_rfl) [2, 3, 4] (.tk 1 (.two 0 2 (.one 2 (.one 3 (.one 4 .done))) (.one 0 (.one 3 (.one 4 .done))))) (by kernel_rfl) ?_
    | refine p_tk hY rfl rfl (v_ldb rfl rfl rfl (sub_encS _)) rfl noPan_ret ?_
    | refine p_one hY rfl (x_n rfl (a_sl rfl rfl (.cons (.d rfl) .nil) (sz1S _) rfl rfl rfl rfl rfl rfl ?_))
    | refine p_one hY rfl (x_n rfl (a_call (l3Copy1_c x (by omega)) (.cons (.w rfl rfl rfl) .nil) rfl ?_))
    | refine p_two hY rfl rfl (x_n rfl (a_q (v_ia 0 rfl rfl (.d rfl) rfl rfl rfl (size_encS _)) rfl ?_)) (x_n rfl (a_st rfl rfl rfl (.d rfl) (set_S _) (size_encS _) ?_))
    | refine p_two hY rfl rfl (x_n rfl (a_q (v_ldp rfl rfl (sub_encS _)) rfl ?_)) (x_n rfl (a_st rfl rfl rfl (.d rfl) (set_S _) (size_encS _) ?_))
    | refine p_one hY rfl (x_n rfl (a_st rfl rfl rfl (.d rfl) (set_S _) (size_encS _) ?_))
    | refine p_one hY rfl (x_n rfl (a_q (v_ia 0 rfl rfl (.d rfl) rfl rfl rfl (size_encS _)) rfl ?_))
    | refine p_one hY rfl (x_n rfl (a_q (v_ldp rfl rfl (sub_encS _)) rfl ?_))
    | (refine p_twoS (stepOk.of hY rfl (.inl rfl) (x_n rfl (a_q (v_ldb rfl rfl rfl (sub_encS _)) rfl ?_))) (stepOk.lend [7] (F' := [cur code i2 h2]) rfl rfl rfl (l3AnyStmt_c code hc i2 h2 h02) (.cons (.p rfl) .nil) ⟨rfl, trivial⟩ rfl ?_)
       rotate_left
       rintro _ _ ⟨⟨z, hz, rfl⟩, i3, h3, h03, rfl⟩
       refine ⟨rfl, ?_⟩)
    | (refine p_oneS (stepOk.lend [7] (F' := [cur code i2 h2]) rfl rfl rfl (l3AnyStmt_c code hc i2 h2 h02) (.cons (.p rfl) .nil) ⟨rfl, trivial⟩ rfl ?_)
       rintro _ _ ⟨⟨z, hz, rfl⟩, i3, h3, h03, rfl⟩
       refine ⟨rfl, ?_⟩)
    | refine p_one hY rfl (x_n rfl (a_q (v_ldb rfl rfl rfl (sub_encS _)) rfl ?_))
    | refine s_seq ?_ | refine s_block ?_ | refine s_reg ?_ | refine s_skip ?_ | refine s_ret ?_ | refine s_end ?_ | refine n_seq ?_ | refine n_blk ?_ | refine n_nil ?_ | refine s_exit ?_ | refine e_seq ?_ | refine e_lp ?_ | refine e_blk ?_ | refine e_blk' rfl ?_
    | (refine o_v hY (v_wr rfl ?_) rfl ?_; · omega) | refine o_v hY (v_pv rfl) rfl ?_ | refine g_y rfl rfl ?_ | refine g_n hY rfl rfl rfl ?_ | refine g_u hY rfl rfl rfl ?_ | (refine g_s rfl rfl ?_ ?_ <;> fail_if_success (intro h; cases h; done)) | refine c_t rfl ?_ | refine c_f rfl ?_ | refine c_s rfl ?_ ?_
    | (intro h; (try simp only [decide_eq_true_eq, decide_eq_false_iff_not, Bool.not_eq_true', Bool.not_eq_false', beq_iff_eq, bne_iff_ne, beq_eq_false_iff_ne, bne_eq_false_iff_eq, ne_eq, toListI] at h); (try simp only [toListC] at h))
    | refine o_a hY (a_box rfl rfl rfl ?_) | refine o_a hY (a_alz rfl rfl rfl rfl rfl ?_) | refine o_a hY (a_als rfl rfl rfl ?_) | refine o_a hY (a_st rfl rfl rfl (.d rfl) rfl rfl ?_)
    | refine r_of (r_d rfl ?_) | refine r_of (r_c rfl rfl ?_) | refine r_of (r_2 rfl rfl ?_) | refine r_of (r_4 rfl rfl rfl rfl ?_)
    | refine p_tk hY rfl rfl (v_pv rfl) rfl noPan_ret ?_ | refine p_tkg hY rfl rfl rfl rfl (v_pv rfl) rfl noPan_ret ?_ | refine p_tkn hY rfl rfl rfl (.inl rfl) rfl noPan_ret ?_ | refine p_tkn hY rfl rfl rfl (.inr rfl) rfl noPan_ret ?_ | refine p_done ?_ | refine p_one hY rfl (x_s rfl (.inl rfl) rfl ?_) | refine p_one hY rfl (x_s rfl (.inr rfl) rfl ?_) | refine p_two hY rfl rfl (x_s rfl (.inl rfl) rfl ?_) (x_s rfl (.inl rfl) rfl ?_) | (refine p_sg rfl rfl rfl rfl ?_ ?_ <;> fail_if_success (intro h; cases h; done)) | (refine p_so rfl rfl rfl rfl ?_ ?_ <;> fail_if_success (intro h; cases h; done))
    | (refine o_a hY (a_callN (l1New_c code hc) (.cons (.d rfl) .nil) rfl ?_)
       rintro _ _ ⟨h, rfl, rfl⟩)
    | (refine o_lend [7] [] (F' := [cur code 0 h]) (l3AnyStmt_c code hc 0 h (by decide)) (.cons (.p rfl) .nil) ⟨rfl, trivial⟩ rfl ?_
       rintro _ _ ⟨⟨x, hx, rfl⟩, i1, h1, h01, rfl⟩
       refine ⟨rfl, ?_⟩)
    | (refine o_lend [7] [] (F' := [cur code i1 h1]) (l1Once_c code hc i1 h1 h01 2 (by decide) (by decide)) (.cons (.p rfl) (.cons (.d rfl) .nil)) ⟨rfl, trivial⟩ rfl ?_
       rintro _ _ ⟨⟨b, rfl⟩, i2, h2, h02, rfl⟩
       refine ⟨rfl, ?_⟩)
    | refine o_a hY (a_st rfl rfl rfl (.d rfl) (set_S _) (size_encS _) ?_))
  all_goals first
    | exact r_of (r_2c rfl (ldq_b rfl rfl (sub_encS _)) rfl (ldq_b rfl rfl (sub_encS _)) ⟨rfl, x, x, hx, hx, rfl⟩)
    | exact r_of (r_2c rfl (ldq_b rfl rfl (sub_encS _)) rfl (ldq_b rfl rfl (sub_encS _)) ⟨rfl, x, z, hx, hz, rfl⟩)
end
end Go.Proofs.Ytmclamindmnigaa.Ax
