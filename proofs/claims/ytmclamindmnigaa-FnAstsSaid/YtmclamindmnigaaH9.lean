/- Contracts of functions that the claim reaches, over data without addresses, and what follows of them (text H9). No conditions beside those that each theorem names. -/
import Derived.Test.YtmclamindmnigaaH8
set_option linter.unusedVariables false
set_option linter.unusedSimpArgs false
namespace Go.Proofs.Ytmclamindmnigaa.Ax
open Go.RowKit
theorem set_SS (x z : Sm) : (encS x).set 0 (encS z) = some (encS z) := by
  have h1 := size_encS x
  have h2 := size_encS z
  have h3 : (encS z).isAg = true := by cases z; rfl
  cases x
  simp only [encS] at h1 ⊢
  simp only [D.size] at h1
  simp only [D.set]
  rw [if_pos ⟨h3, trivial, by rw [h2, h1]⟩]
theorem Wk.tr {n : Nat} {σ τ ρ : St} (h : Wk n σ τ) (g : Wk n τ ρ) : Wk n σ ρ := by
  unfold Wk at *
  intro E hE a w I β R
  obtain ⟨β1, R1⟩ := h E hE a w I β R
  exact g E hE a w I β1 R1
theorem sumS_app (l : List Sm) (x : Sm) : sumS (l ++ [x]) = sumS l + szS x := by
  induction l with
  | nil => simp [sumS]
  | cons z r ih => simp only [List.cons_append, sumS, ih]; omega
theorem bS2 : bS 2 = 560 := rfl
set_option maxHeartbeats 16000000 in
theorem l3AnyStmt_c (code : List D) (hc : okCode code) (i h : Int) (h0 : 0 ≤ i) : AC Try.prog 22 [.pt (.f 0) 0] [cur code i h] (DrD code 2000) := by
  (refine AC_fn hY Try.func22 rfl Try.ntmps22 Try.results22 rfl (eq_true (by simp)) ?_; simp only [enumT])
  repeat' (first
    | refine p_start (by kernel_rfl) [7] (.tk 0 (.tk 1 (.tk 2 (.one 3 (.one 4 (.one 5 (.tk 6 (.one 7 .done)))))))) (by kernel_rfl) ?_
    | refine p_tk hY rfl rfl (v_dtr rfl rfl rfl rfl rfl) rfl noPan_ret ?_
    | (refine p_one hY rfl (x_n rfl (a_callF (DrS_data (l3DrawStmt_c code hc 2 (by decide) 2 (by decide) _ _ (by assumption))) (.cons (.p rfl) (.cons (.d rfl) .nil)) rfl ?_))
       rintro _ _ ⟨⟨x2, hx2, rfl⟩, i1, h1, h0', rfl⟩
       rw [bS2] at hx2)
    | refine p_one hY rfl (x_n rfl (a_sl rfl rfl (.cons (.d rfl) .nil) (sz1S _) rfl rfl rfl rfl rfl rfl ?_))
    | (refine p_one hY rfl (x_n rfl (a_ap' (encSs_app b x2) rfl rfl rfl rfl (.w rfl rfl rfl) rfl (sz1S _) rfl rfl rfl ?_ ?_))
       · (simp only [encSs_len, List.length_append, List.length_singleton]; omega))
    | refine p_one hY rfl (x_n rfl (a_stf rfl rfl rfl (.w rfl rfl rfl) stS6 rfl ?_))
    | refine s_seq ?_ | refine s_block ?_ | refine s_reg ?_ | refine s_skip ?_ | refine s_ret ?_ | refine s_end ?_ | refine n_seq ?_ | refine n_blk ?_ | refine n_nil ?_ | refine s_exit ?_ | refine e_seq ?_ | refine e_lp ?_ | refine e_blk ?_ | refine e_blk' rfl ?_
    | (refine o_v hY (v_wr rfl ?_) rfl ?_; · omega) | refine o_v hY (v_pv rfl) rfl ?_ | refine g_y rfl rfl ?_ | refine g_n hY rfl rfl rfl ?_ | refine g_u hY rfl rfl rfl ?_ | (refine g_s rfl rfl ?_ ?_ <;> fail_if_success (intro h; cases h; done)) | refine c_t rfl ?_ | refine c_f rfl ?_ | refine c_s rfl ?_ ?_
    | (intro h; (try simp only [decide_eq_true_eq, decide_eq_false_iff_not, Bool.not_eq_true', Bool.not_eq_false', beq_iff_eq, bne_iff_ne, beq_eq_false_iff_ne, bne_eq_false_iff_eq, ne_eq, toListI] at h); (try simp only [toListC] at h))
    | refine o_a hY (a_box rfl rfl rfl ?_) | refine o_a hY (a_alz rfl rfl rfl rfl rfl ?_) | refine o_a hY (a_als rfl rfl rfl ?_) | refine o_a hY (a_st rfl rfl rfl (.d rfl) rfl rfl ?_)
    | refine r_of (r_d rfl ?_) | refine r_of (r_c rfl rfl ?_) | refine r_of (r_2 rfl rfl ?_) | refine r_of (r_4 rfl rfl rfl rfl ?_)
    | refine p_tk hY rfl rfl (v_pv rfl) rfl noPan_ret ?_ | refine p_tkg hY rfl rfl rfl rfl (v_pv rfl) rfl noPan_ret ?_ | refine p_tkn hY rfl rfl rfl (.inl rfl) rfl noPan_ret ?_ | refine p_tkn hY rfl rfl rfl (.inr rfl) rfl noPan_ret ?_ | refine p_done ?_ | refine p_one hY rfl (x_s rfl (.inl rfl) rfl ?_) | refine p_one hY rfl (x_s rfl (.inr rfl) rfl ?_) | refine p_two hY rfl rfl (x_s rfl (.inl rfl) rfl ?_) (x_s rfl (.inl rfl) rfl ?_) | (refine p_sg rfl rfl rfl rfl ?_ ?_ <;> fail_if_success (intro h; cases h; done)) | (refine p_so rfl rfl rfl rfl ?_ ?_ <;> fail_if_success (intro h; cases h; done))
    | (refine o_a hY (a_callM (l3DrawStmt_c code hc 2 (by decide) 2 (by decide) _ _ (by assumption)) (.cons (.p rfl) (.cons (.d rfl) .nil)) rfl ?_)
       rintro _ _ _ ⟨⟨k, s, a, e, lo, hi, b⟩, hx, rfl, rfl, i1, h1, h0', rfl⟩
       rw [bS2, szS_eq] at hx)
    | refine o_a hY (a_stw (j := 3) (z' := .ag [.i .i64 k, .s s, encE a, encE e, encE lo, encE hi, .sl (encSs b)]) rfl rfl rfl rfl rfl set_Sw size_Sw rfl ?_)
    | (refine o_a hY (a_callF (l1Below_c code hc _ _ (by assumption) 12 (by decide) (by decide)) (.cons (.p rfl) (.cons (.d rfl) .nil)) rfl ?_)
       rintro _ _ ⟨⟨m, hm, rfl⟩, i1, h1, h0', rfl⟩)
    | (refine o_a hY (a_callF (l1Below_c code hc _ _ (by assumption) 6 (by decide) (by decide)) (.cons (.p rfl) (.cons (.d rfl) .nil)) rfl ?_)
       rintro _ _ ⟨⟨m', hm', rfl⟩, i1, h1, h0', rfl⟩)
    | (refine o_a hY (a_callF (l1Below_c code hc _ _ (by assumption) 4 (by decide) (by decide)) (.cons (.p rfl) (.cons (.d rfl) .nil)) rfl ?_)
       rintro _ _ ⟨⟨m', hm', rfl⟩, i1, h1, h0', rfl⟩)
    | refine o_a hY (a_sl rfl rfl (.cons (.d rfl) (.cons (.d rfl) (.cons (.d rfl) (.cons (.d rfl) .nil)))) (allSz_q rfl) rfl rfl rfl rfl rfl rfl ?_)
    | (refine o_a hY (a_callF (l1Str_c code hc _ _ (by assumption) [⟨#[]⟩, ⟨#[102, 111, 114]⟩, ⟨#[120]⟩, ⟨#[65]⟩] (by decide) (by decide)) (.cons (.p rfl) (.cons (.w rfl rfl rfl) .nil)) rfl ?_)
       rintro _ _ ⟨⟨s', hs, rfl⟩, i1, h1, h0', rfl⟩
       replace hs := mem_size (n := 3) (by decide) hs)
    | (refine o_a hY (a_callF (l3Any_c code hc _ _ (by assumption)) (.cons (.p rfl) .nil) rfl ?_)
       rintro _ _ ⟨⟨x, hx2, rfl⟩, i1, h1, h0', rfl⟩)
    | refine o_a hY (a_stf rfl rfl rfl (.d rfl) stS0 rfl ?_)
    | refine o_a hY (a_stf rfl rfl rfl (.d rfl) stS1 rfl ?_)
    | refine o_a hY (a_stf rfl rfl rfl (.d rfl) stS2 (size_encE _) ?_)
    | refine o_a hY (a_stf rfl rfl rfl (.d rfl) stS3 (size_encE _) ?_)
    | refine o_a hY (a_stf rfl rfl rfl (.d rfl) stS4 (size_encE _) ?_)
    | refine o_v hY (v_ldb rfl rfl rfl sub_Sw) rfl ?_
    | refine o_a hY (a_st rfl rfl rfl (.d rfl) set_Sw size_Sw ?_)
    | refine o_v hY (v_dtw rfl rfl rfl rfl size_Sw) rfl ?_
    | refine o_a hY (a_st rfl rfl rfl (.t rfl) set_Sw size_Sw ?_))
  all_goals try (
    refine r_of (r_c rfl (ldq_b rfl rfl sub_Sw) ?_)
    refine ⟨⟨.mk _ _ _ _ _ _ _, ?_, rfl⟩, _, _, by assumption, rfl⟩
    rw [szS_eq]
    first
      | omega
      | (simp only [sumS_app, List.length_append, List.length_singleton]; omega))
  refine s_loop (fun q τ => ∃ x, szS x + 10 * q ≤ 700 ∧ q ≤ 3 ∧ τ = ⟨[(0, .pt (.f 0) 0), (2, .pt (.l 2) 0), (3, .pt (.l 3) 0), (4, .d (.i .i64 (q : Int)))], [(2, .var (.d ZS)), (3, .var (.d (encS x)))], [cur code i1 h1]⟩) m' ⟨.mk k s a e lo hi b, by rw [szS_eq]; omega, by omega, rfl⟩ (Wk.tr (Wk.undt (j := 3) rfl) (Wk.of ⟨rfl, rfl, rfl, rfl, trivial⟩ ⟨rfl, rfl, trivial⟩ rfl)) ?_
  rintro q τ ⟨x, hx3, hq, rfl⟩
  repeat' (first
    | refine p_start (by kernel_rfl) [5] (.tk 2 (.two 0 3 (.two 1 3 (.one 3 (.tk 4 (.one 5 .done))) (.one 1 (.tk 4 (.one 5 .done)))) (.one 0 (.one 1 (.tk 4 (.one 5 .done)))))) (by kernel_rfl) ?_
    | refine p_tk hY rfl rfl (v_ldb rfl rfl rfl (sub_encS _)) rfl noPan_ret ?_
    | refine p_two hY rfl rfl (x_n rfl (a_call (l3Num_c _) (.cons (.d rfl) .nil) rfl ?_)) (x_n rfl (a_sl rfl rfl (.cons (.d rfl) .nil) (sz1S _) rfl rfl rfl rfl rfl rfl ?_))
    | refine p_one hY rfl (x_n rfl (a_call (l3Num_c _) (.cons (.d rfl) .nil) rfl ?_))
    | refine p_one hY rfl (x_n rfl (a_sl rfl rfl (.cons (.d rfl) .nil) (sz1S _) rfl rfl rfl rfl rfl rfl ?_))
    | refine p_tk hY rfl rfl (v_bld (.cons (.d rfl) (.cons (.d rfl) (.cons (.d rfl) (.cons (.d rfl) (.cons (.w rfl rfl rfl) .nil))))) rfl) rfl noPan_ret ?_
    | refine p_one hY rfl (x_n rfl (a_st rfl rfl rfl (.d rfl) (set_SS x (.mk 3 ⟨#[113]⟩ z0 z0 (.mk 1 0 emp []) (.mk 1 1 emp []) [x])) rfl ?_))
    | refine s_seq ?_ | refine s_block ?_ | refine s_reg ?_ | refine s_skip ?_ | refine s_ret ?_ | refine s_end ?_ | refine n_seq ?_ | refine n_blk ?_ | refine n_nil ?_ | refine s_exit ?_ | refine e_seq ?_ | refine e_lp ?_ | refine e_blk ?_ | refine e_blk' rfl ?_
    | (refine o_v hY (v_wr rfl ?_) rfl ?_; · omega) | refine o_v hY (v_pv rfl) rfl ?_ | refine g_y rfl rfl ?_ | refine g_n hY rfl rfl rfl ?_ | refine g_u hY rfl rfl rfl ?_ | (refine g_s rfl rfl ?_ ?_ <;> fail_if_success (intro h; cases h; done)) | refine c_t rfl ?_ | refine c_f rfl ?_ | refine c_s rfl ?_ ?_
    | (intro h; (try simp only [decide_eq_true_eq, decide_eq_false_iff_not, Bool.not_eq_true', Bool.not_eq_false', beq_iff_eq, bne_iff_ne, beq_eq_false_iff_ne, bne_eq_false_iff_eq, ne_eq, toListI] at h); (try simp only [toListC] at h))
    | refine o_a hY (a_box rfl rfl rfl ?_) | refine o_a hY (a_alz rfl rfl rfl rfl rfl ?_) | refine o_a hY (a_als rfl rfl rfl ?_) | refine o_a hY (a_st rfl rfl rfl (.d rfl) rfl rfl ?_)
    | refine r_of (r_d rfl ?_) | refine r_of (r_c rfl rfl ?_) | refine r_of (r_2 rfl rfl ?_) | refine r_of (r_4 rfl rfl rfl rfl ?_)
    | refine p_tk hY rfl rfl (v_pv rfl) rfl noPan_ret ?_ | refine p_tkg hY rfl rfl rfl rfl (v_pv rfl) rfl noPan_ret ?_ | refine p_tkn hY rfl rfl rfl (.inl rfl) rfl noPan_ret ?_ | refine p_tkn hY rfl rfl rfl (.inr rfl) rfl noPan_ret ?_ | refine p_done ?_ | refine p_one hY rfl (x_s rfl (.inl rfl) rfl ?_) | refine p_one hY rfl (x_s rfl (.inr rfl) rfl ?_) | refine p_two hY rfl rfl (x_s rfl (.inl rfl) rfl ?_) (x_s rfl (.inl rfl) rfl ?_) | (refine p_sg rfl rfl rfl rfl ?_ ?_ <;> fail_if_success (intro h; cases h; done)) | (refine p_so rfl rfl rfl rfl ?_ ?_ <;> fail_if_success (intro h; cases h; done))
    | refine o_v hY (v_ldb rfl rfl rfl (sub_encS _)) rfl ?_ | refine o_a hY (a_st rfl rfl rfl (.d rfl) (set_S _) (size_encS _) ?_))
  all_goals first
    | (refine n_lp (q - 1) ⟨.mk 3 ⟨#[113]⟩ z0 z0 (.mk 1 0 emp []) (.mk 1 1 emp []) [x], ?_, by omega, rfl⟩ (by omega) (Wk.of ⟨rfl, rfl, rfl, congrArg (fun z => T.d (.i .i64 z)) (by omega), trivial⟩ ⟨rfl, rfl, trivial⟩ rfl)
       rw [szS_eq]
       have h1 : (⟨#[113]⟩ : ByteArray).size = 1 := rfl
       simp only [h1, szE_z0, szE_num, sumS, List.length_singleton]
       omega)
    | exact r_of (r_c rfl (ldq_b rfl rfl (sub_encS _)) ⟨⟨x, by omega, rfl⟩, _, _, by assumption, rfl⟩)
end Go.Proofs.Ytmclamindmnigaa.Ax
