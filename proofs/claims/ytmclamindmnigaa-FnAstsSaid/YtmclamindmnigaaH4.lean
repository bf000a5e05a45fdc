/- Contracts of functions that the claim reaches, over data without addresses, and what follows of them (text H4). No conditions beside those that each theorem names. -/
import Derived.Test.YtmclamindmnigaaH3
set_option linter.unusedVariables false
set_option linter.unusedSimpArgs false
namespace Go.Proofs.Ytmclamindmnigaa.Ax
open Go.RowKit
theorem b3 : bE 3 = 29 := rfl
theorem set_EE (x z : Ex) : (encE x).set 0 (encE z) = some (encE z) := by cases x; simp [encE, D.set, encE_isAg, size_encE, sizes, D.size]
set_option maxHeartbeats 8000000 in
theorem l3Any_c (code : List D) (hc : okCode code) (i h : Int) (h0 : 0 ≤ i) : AC Try.prog 21 [.pt (.f 0) 0] [cur code i h] (DrE code 60) := by
  (refine AC_fn hY Try.func21 rfl Try.ntmps21 Try.results21 rfl (eq_true (by simp)) ?_; simp only [enumT])
  repeat' (first
    | refine s_seq ?_ | refine s_block ?_ | refine s_reg ?_ | refine s_skip ?_ | refine s_ret ?_ | refine s_end ?_ | refine n_seq ?_ | refine n_blk ?_ | refine n_nil ?_ | refine s_exit ?_ | refine e_seq ?_ | refine e_lp ?_ | refine e_blk ?_ | refine e_blk' rfl ?_
    | (refine o_v hY (v_wr rfl ?_) rfl ?_; · omega) | refine o_v hY (v_pv rfl) rfl ?_ | refine g_y rfl rfl ?_ | refine g_n hY rfl rfl rfl ?_ | refine g_u hY rfl rfl rfl ?_ | (refine g_s rfl rfl ?_ ?_ <;> fail_if_success (intro h; cases h; done)) | refine c_t rfl ?_ | refine c_f rfl ?_ | refine c_s rfl ?_ ?_
    | (intro h; (try simp only [decide_eq_true_eq, decide_eq_false_iff_not, Bool.not_eq_true', Bool.not_eq_false', beq_iff_eq, bne_iff_ne, beq_eq_false_iff_ne, bne_eq_false_iff_eq, ne_eq, toListI] at h); (try simp only [toListC] at h))
    | refine o_a hY (a_box rfl rfl rfl ?_) | refine o_a hY (a_alz rfl rfl rfl rfl rfl ?_) | refine o_a hY (a_als rfl rfl rfl ?_) | refine o_a hY (a_st rfl rfl rfl (.d rfl) rfl rfl ?_)
    | refine r_of (r_d rfl ?_) | refine r_of (r_c rfl rfl ?_) | refine r_of (r_2 rfl rfl ?_) | refine r_of (r_4 rfl rfl rfl rfl ?_)
    | (refine o_a hY (a_callF (l3Draw_c code hc 3 (by decide) 3 (by decide) _ _ (by assumption)) (.cons (.p rfl) (.cons (.d rfl) .nil)) rfl ?_)
       rintro _ _ ⟨⟨⟨k, n, s, l⟩, hx, rfl⟩, i1, h1, h0', rfl⟩)
    | (refine o_a hY (a_callF (l1Below_c code hc _ _ (by assumption) 10 (by decide) (by decide)) (.cons (.p rfl) (.cons (.d rfl) .nil)) rfl ?_)
       rintro _ _ ⟨⟨m, hm, rfl⟩, i1, h1, h0', rfl⟩)
    | (refine o_a hY (a_callF (l1Below_c code hc _ _ (by assumption) 9 (by decide) (by decide)) (.cons (.p rfl) (.cons (.d rfl) .nil)) rfl ?_)
       rintro _ _ ⟨⟨m, hm, rfl⟩, i1, h1, h0', rfl⟩)
    | refine o_a hY (a_sl rfl rfl (.cons (.d rfl) (.cons (.d rfl) (.cons (.d rfl) .nil))) (allSz_q rfl) rfl rfl rfl rfl rfl rfl ?_)
    | (refine o_a hY (a_callF (l1Int_c code hc _ _ (by assumption) [-1, 999999, 1000000] (by decide) (by decide)) (.cons (.p rfl) (.cons (.w rfl rfl rfl) .nil)) rfl ?_)
       rintro _ _ ⟨⟨z, hz, rfl⟩, i1, h1, h0', rfl⟩)
    | (refine o_a hY (a_callF (l1Str_c code hc _ _ (by assumption) [⟨#[]⟩, ⟨#[102, 111, 114]⟩, ⟨#[120]⟩] (by decide) (by decide)) (.cons (.p rfl) (.cons (.w rfl rfl rfl) .nil)) rfl ?_)
       rintro _ _ ⟨⟨s', hs, rfl⟩, i1, h1, h0', rfl⟩))
  · exact ⟨⟨.mk m n s l, by simp only [szE, b3] at hx ⊢; omega, rfl⟩, _, _, by assumption, rfl⟩
  · exact ⟨⟨.mk k z s l, by simp only [szE, b3] at hx ⊢; omega, rfl⟩, _, _, by assumption, rfl⟩
  · have hs' := mem_size (n := 3) (by decide) hs
    exact ⟨⟨.mk k n s' l, by simp only [szE, b3] at hx ⊢; omega, rfl⟩, _, _, by assumption, rfl⟩
  · refine s_loop (fun q τ => ∃ x, szE x + 2 * q ≤ 60 ∧ q ≤ 8 ∧ τ = ⟨[(0, .pt (.f 0) 0), (2, .pt (.l 2) 0), (3, .pt (.l 3) 0), (4, .d (.i .i64 (q : Int)))], [(2, .var (.d ZE)), (3, .var (.d (encE x)))], [cur code i1 h1]⟩) m ⟨.mk k n s l, by rw [b3] at hx; omega, by omega, rfl⟩ (Wk.of ⟨rfl, rfl, rfl, rfl, trivial⟩ ⟨rfl, rfl, trivial⟩ rfl) ?_
    rintro q τ ⟨x, hx2, hq, rfl⟩
    repeat' (first
    | refine p_start (by kernel_rfl) [3] (.tk 0 (.one 1 (.one 2 (.one 3 .done)))) (by kernel_rfl) ?_
    | refine p_tk hY rfl rfl (v_ldb rfl rfl rfl (sub_encE _)) rfl noPan_ret ?_
    | refine p_one hY rfl (x_n rfl (a_call (l3Num_c _) (.cons (.d rfl) .nil) rfl ?_))
    | refine p_one hY rfl (x_n rfl (a_call (l3Two_c _ _ _) (.cons (.d rfl) (.cons (.d rfl) (.cons (.d rfl) .nil))) rfl ?_))
    | refine p_one hY rfl (x_n rfl (a_st rfl rfl rfl (.d rfl) (set_EE _ _) (size_encE _) ?_))
    | refine s_seq ?_ | refine s_block ?_ | refine s_reg ?_ | refine s_skip ?_ | refine s_ret ?_ | refine s_end ?_ | refine n_seq ?_ | refine n_blk ?_ | refine n_nil ?_ | refine s_exit ?_ | refine e_seq ?_ | refine e_lp ?_ | refine e_blk ?_ | refine e_blk' rfl ?_
    | (refine o_v hY (v_wr rfl ?_) rfl ?_; · omega) | refine o_v hY (v_pv rfl) rfl ?_ | refine g_y rfl rfl ?_ | refine g_n hY rfl rfl rfl ?_ | refine g_u hY rfl rfl rfl ?_ | (refine g_s rfl rfl ?_ ?_ <;> fail_if_success (intro h; cases h; done)) | refine c_t rfl ?_ | refine c_f rfl ?_ | refine c_s rfl ?_ ?_
    | (intro h; (try simp only [decide_eq_true_eq, decide_eq_false_iff_not, Bool.not_eq_true', Bool.not_eq_false', beq_iff_eq, bne_iff_ne, beq_eq_false_iff_ne, bne_eq_false_iff_eq, ne_eq, toListI] at h); (try simp only [toListC] at h))
    | refine o_a hY (a_box rfl rfl rfl ?_) | refine o_a hY (a_alz rfl rfl rfl rfl rfl ?_) | refine o_a hY (a_als rfl rfl rfl ?_) | refine o_a hY (a_st rfl rfl rfl (.d rfl) rfl rfl ?_)
    | refine r_of (r_d rfl ?_) | refine r_of (r_c rfl rfl ?_) | refine r_of (r_2 rfl rfl ?_) | refine r_of (r_4 rfl rfl rfl rfl ?_)
    | refine p_tk hY rfl rfl (v_pv rfl) rfl noPan_ret ?_ | refine p_tkg hY rfl rfl rfl rfl (v_pv rfl) rfl noPan_ret ?_ | refine p_tkn hY rfl rfl rfl (.inl rfl) rfl noPan_ret ?_ | refine p_tkn hY rfl rfl rfl (.inr rfl) rfl noPan_ret ?_ | refine p_done ?_ | refine p_one hY rfl (x_s rfl (.inl rfl) rfl ?_) | refine p_one hY rfl (x_s rfl (.inr rfl) rfl ?_) | refine p_two hY rfl rfl (x_s rfl (.inl rfl) rfl ?_) (x_s rfl (.inl rfl) rfl ?_) | (refine p_sg rfl rfl rfl rfl ?_ ?_ <;> fail_if_success (intro h; cases h; done)) | (refine p_so rfl rfl rfl rfl ?_ ?_ <;> fail_if_success (intro h; cases h; done))
    | refine o_v hY (v_ldb rfl rfl rfl (sub_encE _)) rfl ?_ | refine o_a hY (a_st rfl rfl rfl (.d rfl) (set_E _) (size_encE _) ?_))
    · exact n_lp (q - 1) ⟨.mk 4 0 emp [x, .mk 1 1 emp []], by rw [szE_two, szE_num]; omega, by omega, rfl⟩ (by omega) (Wk.of ⟨rfl, rfl, rfl, congrArg (fun z => T.d (.i .i64 z)) (by omega), trivial⟩ ⟨rfl, rfl, trivial⟩ rfl)
    · exact r_of (r_c rfl (ldq_b rfl rfl (sub_encE _)) ⟨⟨x, by omega, rfl⟩, _, _, by assumption, rfl⟩)
  · exact ⟨⟨.mk k n s l, by rw [b3] at hx; omega, rfl⟩, _, _, by assumption, rfl⟩
end Go.Proofs.Ytmclamindmnigaa.Ax
