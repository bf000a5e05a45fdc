/- Contracts of functions that the claim reaches, over data without addresses, and what follows of them (text P5). No conditions beside those that each theorem names. -/
import Derived.Test.YtmclamindmnigaaP4
set_option linter.unusedVariables false
set_option linter.unusedSimpArgs false
namespace Go.Proofs.Ytmclamindmnigaa.Ax
def hereS (k n : Int) (s : ByteArray) (m : Int) : Bool :=
  if ¬ parts k = m then false else if ¬ k = 1 ∧ ¬ n = 0 then false
  else if k = 1 then within n 0 999999 && decide (s = ⟨#[]⟩)
  else if k = 2 ∨ k = 3 then okName s else decide (s = ⟨#[]⟩)
theorem hereS_eq (k n : Int) (s : ByteArray) (m : Int) (hm : 0 ≤ m) : hereS k n s m = hereE k n s m := by
  unfold hereS hereE parts within
  by_cases h1 : k = 1
  · subst h1; simp; by_cases hm : m = 0 <;> simp [hm, eq_comm] <;> omega
  by_cases h2 : k = 2
  · subst h2; simp; by_cases hm : m = 0 <;> by_cases hn : n = 0 <;> simp [hm, hn, eq_comm]
  by_cases h3 : k = 3
  · subst h3; simp; by_cases hm : m = 1 <;> by_cases hn : n = 0 <;> simp [hm, hn, eq_comm]
  by_cases h4 : k = 4 ∨ k = 5 ∨ k = 6 ∨ k = 7 ∨ k = 8
  · have h5 : (4 ≤ k ∧ k ≤ 8) := by omega
    simp [h1, h2, h3, h4, h5]; by_cases hm : m = 2 <;> by_cases hn : n = 0 <;> simp [hm, hn, eq_comm]
  · have h5 : ¬ (4 ≤ k ∧ k ≤ 8) := by omega
    have h6 : ¬ (-1 = m) := by omega
    have h7 : (decide (4 ≤ k) && decide (k ≤ 8)) = false := by simpa using fun h => by omega
    simp only [h1, h2, h3, h4, h6, h7, if_false, or_self, Bool.false_and, not_false_iff, if_true]
theorem l3Here_c (k n : Int) (s : ByteArray) (l : List Ex) (hs : s.size ≤ 9223372036854775807) : AC Try.prog 42 [.d (encE (.mk k n s l))] [] (isR (.d (.b (hereS k n s l.length)))) := by
  have hlen := encEs_len l
  unfold encE
  (refine AC_fn hY Try.func42 rfl Try.ntmps42 Try.results42 rfl (eq_true (by simp)) ?_; simp only [enumT])
  refine s_seq ?_
  refine s_reg ?_
  repeat' (first
    | refine s_seq ?_ | refine s_block ?_ | refine s_reg ?_ | refine s_skip ?_ | refine s_ret ?_ | refine s_end ?_ | refine n_seq ?_ | refine n_blk ?_ | refine n_nil ?_ | refine s_exit ?_ | refine e_seq ?_ | refine e_lp ?_ | refine e_blk ?_ | refine e_blk' rfl ?_
    | (refine o_v hY (v_wr rfl ?_) rfl ?_; · omega) | refine o_v hY (v_pv rfl) rfl ?_ | refine g_y rfl rfl ?_ | refine g_n hY rfl rfl rfl ?_ | refine g_u hY rfl rfl rfl ?_ | (refine g_s rfl rfl ?_ ?_ <;> fail_if_success (intro h; cases h; done)) | refine c_t rfl ?_ | refine c_f rfl ?_ | refine c_s rfl ?_ ?_
    | (intro h; (try simp only [decide_eq_true_eq, decide_eq_false_iff_not, Bool.not_eq_true', Bool.not_eq_false', beq_iff_eq, bne_iff_ne, beq_eq_false_iff_ne, bne_eq_false_iff_eq, ne_eq, toListI] at h); (try simp only [toListC] at h))
    | refine o_a hY (a_box rfl rfl rfl ?_) | refine o_a hY (a_alz rfl rfl rfl rfl rfl ?_) | refine o_a hY (a_als rfl rfl rfl ?_) | refine o_a hY (a_st rfl rfl rfl (.d rfl) rfl rfl ?_)
    | refine r_of (r_d rfl ?_) | refine r_of (r_c rfl rfl ?_) | refine r_of (r_2 rfl rfl ?_) | refine r_of (r_4 rfl rfl rfl rfl ?_))
  refine p_start (by kernel_rfl) [] (.tk 0 (.tk 1 (.tk 3 (.tk 4 (.tk 5 (.one 2 (.tk 6 (.tk 7 (.tk 8 (.tk 9 (.tk 10 (.tk 11 (.tk 12 (.tk 13 (.tk 14 (.tk 15 (.tk 16 .done))))))))))))))))) (by kernel_rfl) ?_
  repeat' (first
    | refine s_seq ?_ | refine s_block ?_ | refine s_reg ?_ | refine s_skip ?_ | refine s_ret ?_ | refine s_end ?_ | refine n_seq ?_ | refine n_blk ?_ | refine n_nil ?_ | refine s_exit ?_ | refine e_seq ?_ | refine e_lp ?_ | refine e_blk ?_ | refine e_blk' rfl ?_
    | (refine o_v hY (v_wr rfl ?_) rfl ?_; · omega) | refine o_v hY (v_pv rfl) rfl ?_ | refine g_y rfl rfl ?_ | refine g_n hY rfl rfl rfl ?_ | refine g_u hY rfl rfl rfl ?_ | (refine g_s rfl rfl ?_ ?_ <;> fail_if_success (intro h; cases h; done)) | refine c_t rfl ?_ | refine c_f rfl ?_ | refine c_s rfl ?_ ?_
    | (intro h; (try simp only [decide_eq_true_eq, decide_eq_false_iff_not, Bool.not_eq_true', Bool.not_eq_false', beq_iff_eq, bne_iff_ne, beq_eq_false_iff_ne, bne_eq_false_iff_eq, ne_eq, toListI] at h); (try simp only [toListC] at h))
    | refine o_a hY (a_box rfl rfl rfl ?_) | refine o_a hY (a_alz rfl rfl rfl rfl rfl ?_) | refine o_a hY (a_als rfl rfl rfl ?_) | refine o_a hY (a_st rfl rfl rfl (.d rfl) rfl rfl ?_)
    | refine r_of (r_d rfl ?_) | refine r_of (r_c rfl rfl ?_) | refine r_of (r_2 rfl rfl ?_) | refine r_of (r_4 rfl rfl rfl rfl ?_)
    | refine p_tk hY rfl rfl (v_pv rfl) rfl noPan_ret ?_ | refine p_tkg hY rfl rfl rfl rfl (v_pv rfl) rfl noPan_ret ?_ | refine p_tkn hY rfl rfl rfl (.inl rfl) rfl noPan_ret ?_ | refine p_tkn hY rfl rfl rfl (.inr rfl) rfl noPan_ret ?_ | refine p_done ?_ | refine p_one hY rfl (x_s rfl (.inl rfl) rfl ?_) | refine p_one hY rfl (x_s rfl (.inr rfl) rfl ?_) | refine p_two hY rfl rfl (x_s rfl (.inl rfl) rfl ?_) (x_s rfl (.inl rfl) rfl ?_) | (refine p_sg rfl rfl rfl rfl ?_ ?_ <;> fail_if_success (intro h; cases h; done)) | (refine p_so rfl rfl rfl rfl ?_ ?_ <;> fail_if_success (intro h; cases h; done))
    | refine p_one hY rfl (x_n rfl (a_call (l3Parts_c k) (.cons (.d rfl) .nil) rfl ?_))
    | refine o_a hY (a_call (l1In_c _ _ _) (.cons (.d rfl) (.cons (.d rfl) (.cons (.d rfl) .nil))) rfl ?_)
    | refine o_a hY (a_call (specNameOk_c s hs) (.cons (.d rfl) .nil) rfl ?_))
  all_goals (refine isR_b' ?_)
  all_goals (simp only [hlen] at *)
  all_goals (try simp only [eqS])
  all_goals (simp_all [hereS, eqI])
theorem l3Here_c' (k n : Int) (s : ByteArray) (l : List Ex) (hs : s.size ≤ 9223372036854775807) : AC Try.prog 42 [.d (encE (.mk k n s l))] [] (isR (.d (.b (hereE k n s l.length)))) := hereS_eq k n s l.length (by omega) ▸ l3Here_c k n s l hs
end Go.Proofs.Ytmclamindmnigaa.Ax
