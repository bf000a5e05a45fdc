/- Contracts of functions that the claim reaches, over data without addresses, and what follows of them (text H11). No conditions beside those that each theorem names. -/
import Derived.Test.YtmclamindmnigaaH10
import Derived.Test.YtmclamindmnigaaP10
import Derived.Test.YtmclamindmnigaaS2
set_option linter.unusedVariables false
set_option linter.unusedSimpArgs false
namespace Go.Proofs.Ytmclamindmnigaa.Ax
open Go.RowKit
theorem big_c (code : List D) : AC Try.prog 4 [.d (.sl code)] [] (fun r Fo => Fo = [] ∧ ∃ b : Bool, (b = true ↔ 1048576 < code.length) ∧ r = .d (.b b)) := by
  (refine AC_fn hY Try.func4 rfl Try.ntmps4 Try.results4 rfl (eq_true (by simp)) ?_; simp only [enumT])
  repeat' (first
    | refine s_seq ?_ | refine s_block ?_ | refine s_reg ?_ | refine s_skip ?_ | refine s_ret ?_ | refine s_end ?_ | refine n_seq ?_ | refine n_blk ?_ | refine n_nil ?_ | refine s_exit ?_ | refine e_seq ?_ | refine e_lp ?_ | refine e_blk ?_ | refine e_blk' rfl ?_
    | (refine o_v hY (v_wr rfl ?_) rfl ?_; · omega) | refine o_v hY (v_pv rfl) rfl ?_ | refine g_y rfl rfl ?_ | refine g_n hY rfl rfl rfl ?_ | refine g_u hY rfl rfl rfl ?_ | (refine g_s rfl rfl ?_ ?_ <;> fail_if_success (intro h; cases h; done)) | refine c_t rfl ?_ | refine c_f rfl ?_ | refine c_s rfl ?_ ?_
    | (intro h; (try simp only [decide_eq_true_eq, decide_eq_false_iff_not, Bool.not_eq_true', Bool.not_eq_false', beq_iff_eq, bne_iff_ne, beq_eq_false_iff_ne, bne_eq_false_iff_eq, ne_eq, toListI] at h); (try simp only [toListC] at h))
    | refine o_a hY (a_box rfl rfl rfl ?_) | refine o_a hY (a_alz rfl rfl rfl rfl rfl ?_) | refine o_a hY (a_als rfl rfl rfl ?_) | refine o_a hY (a_st rfl rfl rfl (.d rfl) rfl rfl ?_)
    | refine r_of (r_d rfl ?_) | refine r_of (r_c rfl rfl ?_) | refine r_of (r_2 rfl rfl ?_) | refine r_of (r_4 rfl rfl rfl rfl ?_))
  exact ⟨rfl, _, by rw [decide_eq_true_eq]; omega, rfl⟩
theorem len_nodL : ∀ l : List Sm, l.length ≤ nodL l
  | [] => Nat.zero_le _
  | x :: r => by
    have := len_nodL r
    simp only [List.length_cons, nodL]
    omega
theorem implSize_l (l : List Sm) (hz : l.length + sumS l ≤ 1048576) : AC Try.prog 18 [.d (.sl (encSs l))] [] (isR (.d (.i .i64 (nodL l)))) := implSizeL_c l (fun x _ => implSize_c x) hz
theorem specSize_l (l : List Sm) (hz : l.length + sumS l ≤ 1048576) : AC Try.prog 19 [.d (.sl (encSs l))] [] (isR (.d (.i .i64 (nodL l)))) := specSizeL_c l (fun x _ => specSize_c x) hz
theorem refE_c (x : Ex) (hx : szE x ≤ 1048576) : AC Try.prog 14 [.d (encE x), .d (encE x)] [] (isR (.d (.b true))) := by
  have := implSameExp_c x x hx hx
  rw [sameE_refl] at this
  exact this
theorem refS_c (x : Sm) (hx : szS x ≤ 1048576) : AC Try.prog 16 [.d (encS x), .d (encS x)] [] (isR (.d (.b true))) := by
  have := implSameStmt_c x x hx hx
  rw [sameS_refl] at this
  exact this
set_option maxHeartbeats 16000000 in
theorem FnAsts_c (code : List D) (hb : ∀ x ∈ code, ∃ n, x = .i .u8 n) : AC Try.prog 3 [.d (.sl code)] [] (isR (.d (.b true))) := by
  (refine AC_fn hY Try.func3 rfl Try.ntmps3 Try.results3 rfl (eq_true (by simp)) ?_; simp only [enumT])
  repeat' (first
    | refine p_start (by kernel_rfl) [] (.tk 0 (.tk 2 (.one 1 (.one 3 (.tk 4 (.tk 5 (.tk 6 (.tk 8 (.one 7 (.one 9 (.tk 10 (.tk 11 (.tk 12 (.tk 13 (.tk 14 (.tk 16 (.tk 17 (.one 15 (.one 18 (.tk 19 (.tk 20 (.tk 21 (.tk 22 (.tk 23 (.tk 25 (.tk 26 (.one 24 (.one 27 (.tk 28 (.tk 29 (.tk 30 (.tk 31 (.tk 33 (.one 32 (.one 34 (.tk 35 (.tk 36 (.tk 37 (.tk 38 (.tk 40 (.tk 41 (.one 39 (.tk 42 (.tk 43 (.tk 44 (.tk 45 (.tk 46 (.one 47 (.tk 48 (.tk 49 (.tk 50 (.tk 51 (.one 52 (.tk 53 (.tk 54 .done))))))))))))))))))))))))))))))))))))))))))))))))))))))) (by kernel_rfl) ?_
    | refine p_tk hY rfl rfl (v_ldb rfl rfl rfl (sub_encE _)) rfl noPan_ret ?_
    | refine p_tkg hY rfl rfl rfl rfl (v_ldb rfl rfl rfl (sub_encE _)) rfl noPan_ret ?_
    | refine p_tkg hY rfl rfl rfl rfl (v_ldb rfl rfl rfl (sub_encS _)) rfl noPan_ret ?_
    | refine p_tk hY rfl rfl (v_eqb rfl rfl rfl) rfl noPan_ret ?_
    | refine p_tkg hY rfl rfl rfl rfl (v_eqb rfl rfl rfl) rfl noPan_ret ?_
    | refine p_tkg hY rfl rfl rfl rfl (v_eqi rfl rfl) rfl noPan_ret ?_
    | refine p_tkg hY rfl rfl rfl rfl (v_gei rfl rfl hlen) rfl noPan_ret ?_
    | refine p_one hY rfl (x_n rfl (a_call (implExpOk_c x1 (by omega)) (.cons (.d rfl) .nil) rfl ?_))
    | refine p_one hY rfl (x_n rfl (a_call (specExpOk_c x1 (by omega)) (.cons (.d rfl) .nil) rfl ?_))
    | refine p_one hY rfl (x_y rfl rfl rfl rfl (a_call (implStmtOk_c x2 (by omega)) (.cons (.d rfl) .nil) rfl ?_))
    | refine p_one hY rfl (x_y rfl rfl rfl rfl (a_call (specStmtOk_c' x2 (by omega)) (.cons (.d rfl) .nil) rfl ?_))
    | refine p_one hY rfl (x_y rfl rfl rfl rfl (a_call (implSameExp_c x3 x4 (by omega) (by omega)) (.cons (.d rfl) (.cons (.d rfl) .nil)) rfl ?_))
    | refine p_one hY rfl (x_y rfl rfl rfl rfl (a_call (specSameExp_c x3 x4 (by omega) (by omega)) (.cons (.d rfl) (.cons (.d rfl) .nil)) rfl ?_))
    | refine p_one hY rfl (x_y rfl rfl rfl rfl (a_call (refE_c x3 (by omega)) (.cons (.d rfl) (.cons (.d rfl) .nil)) rfl ?_))
    | refine p_one hY rfl (x_y rfl rfl rfl rfl (a_call (implSameStmt_c x5 x6 (by omega) (by omega)) (.cons (.d rfl) (.cons (.d rfl) .nil)) rfl ?_))
    | refine p_one hY rfl (x_y rfl rfl rfl rfl (a_call (specSameStmt_c x5 x6 (by omega) (by omega)) (.cons (.d rfl) (.cons (.d rfl) .nil)) rfl ?_))
    | refine p_one hY rfl (x_y rfl rfl rfl rfl (a_call (refS_c x5 (by omega)) (.cons (.d rfl) (.cons (.d rfl) .nil)) rfl ?_))
    | refine p_one hY rfl (x_y rfl rfl rfl rfl (a_call (implSize_l l7 (by omega)) (.cons (.d rfl) .nil) rfl ?_))
    | refine p_one hY rfl (x_y rfl rfl rfl rfl (a_call (specSize_l l7 (by omega)) (.cons (.d rfl) .nil) rfl ?_))
    | refine s_seq ?_ | refine s_block ?_ | refine s_reg ?_ | refine s_skip ?_ | refine s_ret ?_ | refine s_end ?_ | refine n_seq ?_ | refine n_blk ?_ | refine n_nil ?_ | refine s_exit ?_ | refine e_seq ?_ | refine e_lp ?_ | refine e_blk ?_ | refine e_blk' rfl ?_
    | (refine o_v hY (v_wr rfl ?_) rfl ?_; · omega) | refine o_v hY (v_pv rfl) rfl ?_ | refine g_y rfl rfl ?_ | refine g_n hY rfl rfl rfl ?_ | refine g_u hY rfl rfl rfl ?_ | (refine g_s rfl rfl ?_ ?_ <;> fail_if_success (intro h; cases h; done)) | refine c_t rfl ?_ | refine c_f rfl ?_ | refine c_s rfl ?_ ?_
    | (intro h; (try simp only [decide_eq_true_eq, decide_eq_false_iff_not, Bool.not_eq_true', Bool.not_eq_false', beq_iff_eq, bne_iff_ne, beq_eq_false_iff_ne, bne_eq_false_iff_eq, ne_eq, toListI] at h); (try simp only [toListC] at h))
    | refine o_a hY (a_box rfl rfl rfl ?_) | refine o_a hY (a_alz rfl rfl rfl rfl rfl ?_) | refine o_a hY (a_als rfl rfl rfl ?_) | refine o_a hY (a_st rfl rfl rfl (.d rfl) rfl rfl ?_)
    | refine r_of (r_d rfl ?_) | refine r_of (r_c rfl rfl ?_) | refine r_of (r_2 rfl rfl ?_) | refine r_of (r_4 rfl rfl rfl rfl ?_)
    | refine p_tk hY rfl rfl (v_pv rfl) rfl noPan_ret ?_ | refine p_tkg hY rfl rfl rfl rfl (v_pv rfl) rfl noPan_ret ?_ | refine p_tkn hY rfl rfl rfl (.inl rfl) rfl noPan_ret ?_ | refine p_tkn hY rfl rfl rfl (.inr rfl) rfl noPan_ret ?_ | refine p_done ?_ | refine p_one hY rfl (x_s rfl (.inl rfl) rfl ?_) | refine p_one hY rfl (x_s rfl (.inr rfl) rfl ?_) | refine p_two hY rfl rfl (x_s rfl (.inl rfl) rfl ?_) (x_s rfl (.inl rfl) rfl ?_) | (refine p_sg rfl rfl rfl rfl ?_ ?_ <;> fail_if_success (intro h; cases h; done)) | (refine p_so rfl rfl rfl rfl ?_ ?_ <;> fail_if_success (intro h; cases h; done))
    | (refine o_a hY (a_callR (big_c code) (.cons (.d rfl) .nil) rfl ?_)
       rintro _ ⟨b, hbig, rfl⟩
       refine ⟨rfl, ?_⟩)
    | (have hc : okCode code := ⟨by have := hbig; simp_all, hb⟩
       refine o_a hY (a_callR (DrawExpOk_c code hc) (.cons (.d rfl) .nil) rfl ?_)
       rintro _ ⟨x1, hx1, rfl⟩
       refine ⟨rfl, ?_⟩)
    | (refine o_a hY (a_callR (DrawStmtOk_c code hc) (.cons (.d rfl) .nil) rfl ?_)
       rintro _ ⟨x2, hx2, rfl⟩
       refine ⟨rfl, ?_⟩)
    | (refine o_a hY (a_callR (DrawSameExp_c code hc) (.cons (.d rfl) .nil) rfl ?_)
       rintro _ ⟨x3, x4, hx3, hx4, rfl⟩
       refine ⟨rfl, ?_⟩)
    | (refine o_a hY (a_callR (DrawSameStmt_c code hc) (.cons (.d rfl) .nil) rfl ?_)
       rintro _ ⟨x5, x6, hx5, hx6, rfl⟩
       refine ⟨rfl, ?_⟩)
    | (refine o_a hY (a_callR (DrawSize_c code hc) (.cons (.d rfl) .nil) rfl ?_)
       rintro _ ⟨l7, hl7, rfl⟩
       refine ⟨rfl, ?_⟩
       have hlen : (nodL l7 : Int) ≥ ((encSs l7).length : Int) := (by rw [encSs_len]; have := len_nodL l7; omega))
    | refine o_a hY (a_st rfl rfl rfl (.d rfl) (set_E _) (size_encE _) ?_)
    | refine o_a hY (a_st rfl rfl rfl (.d rfl) (set_S _) (size_encS _) ?_))
  all_goals exact ⟨rfl, rfl⟩
end Go.Proofs.Ytmclamindmnigaa.Ax
