/- Contracts of functions that the claim reaches, over data without addresses, and what follows of them (text P18). No conditions beside those that each theorem names. -/
import Derived.Test.YtmmdgciefehbcaaGreatDoorP17
set_option linter.unusedVariables false
set_option linter.unusedSimpArgs false
namespace Go.Proofs.YtmmdgciefehbcaaGreatDoor.Ax
mutual
theorem rawS_len (k : Int) : ∀ x : Sm, (rawS k x).length ≤ 1 + nodS x
  | .mk kk s a e lo hi b => by
    have := rawL_len k b
    simp only [rawS, nodS, List.length_append]
    split <;> simp <;> omega
theorem rawL_len (k : Int) : ∀ l : List Sm, (rawL k l).length ≤ nodL l
  | [] => by simp [rawL]
  | x :: r => by
    have h1 := rawS_len k x
    have h2 := rawL_len k r
    simp only [rawL, nodL, List.length_append]; omega
end
mutual
theorem preE_len (k : Int) : ∀ x : Ex, (preE k x).length ≤ 1 + szE x
  | .mk kk n s l => by
    have := preEs_len k l
    simp only [preE, szE, List.length_append]
    split <;> simp <;> omega
theorem preEs_len (k : Int) : ∀ l : List Ex, (preEs k l).length ≤ l.length + sumE l
  | [] => by simp [preEs]
  | x :: r => by
    have h1 := preE_len k x
    have h2 := preEs_len k r
    simp only [preEs, sumE, List.length_append, List.length_cons]; omega
end
mutual
theorem askS_len (k : Int) : ∀ x : Sm, (askS k x).length ≤ 4 + 4 * szS x
  | .mk kk s a e lo hi b => by
    have h1 := preE_len k a
    have h2 := preE_len k e
    have h3 := preE_len k lo
    have h4 := preE_len k hi
    have h5 := askL_len k b
    simp only [askS, szS, List.length_append]; omega
theorem askL_len (k : Int) : ∀ l : List Sm, (askL k l).length ≤ 4 * (l.length + sumS l)
  | [] => by simp [askL]
  | x :: r => by
    have h1 := askS_len k x
    have h2 := askL_len k r
    simp only [askL, sumS, List.length_append, List.length_cons]; omega
end
def arrsN (p : Pg) : List ByteArray := p.a.map (·.s)
def varsN (p : Pg) : List ByteArray := (rawL 1 p.b).foldl putS []
def loopsN (p : Pg) : List ByteArray := (rawL 3 p.b).foldl putS []
def putsN (p : Pg) : List ByteArray := (rawL 2 p.b).foldl putS []
def asksN (k : Int) (p : Pg) : List ByteArray := (askL k p.b).foldl putS []
def apart (a b : List ByteArray) : Bool := a.all fun x => !has b x
def tailB (p : Pg) : Bool :=
  (putsN p).all (isA p) && ((asksN 3 p).all (isA p) && (apart (arrsN p) (varsN p) && (apart (arrsN p) (loopsN p) && (apart (arrsN p) (asksN 2 p) && (apart (varsN p) (loopsN p) && (nstL [] p.b && decide (((varsN p).length : Int) ≤ 6)))))))
def progB (p : Pg) : Bool := headB p && tailB p
theorem isR_bb {c : Bool} (h : c = true) : isR (.d (.b c)) (.d (.b true)) [] := by subst h; exact ⟨rfl, rfl⟩
set_option maxHeartbeats 16000000 in
theorem specProgOk_c (p : Pg) (hz : szP p ≤ 1048576) : AC Tryz.prog 11 [.d (encP p)] [] (isR (.d (.b (progB p)))) := by
  have hla := encAs_len p.a
  have hlb := encSs_len p.b
  have hh := l4Head_c p hz
  unfold szP at hz
  have n1 := nodL_le p.b
  have b1 : ∀ k, (rawL k p.b).length ≤ 8388608 := fun k => by have := rawL_len k p.b; omega
  have b2 : ∀ k, (askL k p.b).length ≤ 8388608 := fun k => by have := askL_len k p.b; omega
  have c1 := varsOf_c p.b (by omega) (b1 1)
  have c2 := loopVars_c p.b (by omega) (b1 3)
  have c3 := l4Names_c 2 p.b (by omega) [] (by have := b1 2; simpa using this)
  have c4 := l4Exps_c 3 p.b (by omega) [] (by have := b2 3; simpa using this)
  have c5 := specAsked_c p.b (by omega) (b2 2)
  have l1 : (varsN p).length ≤ 8388608 := by have := puts_len (rawL 1 p.b) []; have := b1 1; simp at *; exact Nat.le_trans ‹_› ‹_›
  have l2 : (loopsN p).length ≤ 8388608 := by have := puts_len (rawL 3 p.b) []; have := b1 3; simp at *; exact Nat.le_trans ‹_› ‹_›
  have l3 : (putsN p).length ≤ 8388608 := by have := puts_len (rawL 2 p.b) []; have := b1 2; simp at *; exact Nat.le_trans ‹_› ‹_›
  have l4 : (asksN 3 p).length ≤ 8388608 := by have := puts_len (askL 3 p.b) []; have := b2 3; simp at *; exact Nat.le_trans ‹_› ‹_›
  have l5 : (asksN 2 p).length ≤ 8388608 := by have := puts_len (askL 2 p.b) []; have := b2 2; simp at *; exact Nat.le_trans ‹_› ‹_›
  have l6 : (arrsN p).length = p.a.length := by simp [arrsN]
  have d1 := l4Arrs_c p (putsN p) (by omega) (by omega)
  have d2 := l4Arrs_c p (asksN 3 p) (by omega) (by omega)
  have d3 := l4Apart_c (arrsN p) (varsN p) (by omega) (by omega)
  have d4 := l4Apart_c (arrsN p) (loopsN p) (by omega) (by omega)
  have d5 := l4Apart_c (arrsN p) (asksN 2 p) (by omega) (by omega)
  have d6 := l4Apart_c (varsN p) (loopsN p) (by omega) (by omega)
  have d7 := l4Nest_c p.b [] (by simp; omega)
  generalize hr : progB p = res
  unfold progB at hr
  (refine AC_fn hY Tryz.func11 rfl Tryz.ntmps11 Tryz.results11 rfl (eq_true (by simp)) ?_; simp only [enumT])
  repeat' (first
    | refine s_seq ?_ | refine s_block ?_ | refine s_reg ?_ | refine s_skip ?_ | refine s_ret ?_ | refine s_end ?_ | refine n_seq ?_ | refine n_blk ?_ | refine n_nil ?_ | refine s_exit ?_ | refine e_seq ?_ | refine e_lp ?_ | refine e_blk ?_ | refine e_blk' rfl ?_
    | (refine o_v hY (v_wr rfl ?_) rfl ?_; · omega) | refine o_v hY (v_pv rfl) rfl ?_ | refine g_y rfl rfl ?_ | refine g_n hY rfl rfl rfl ?_ | refine g_u hY rfl rfl rfl ?_ | (refine g_s rfl rfl ?_ ?_ <;> fail_if_success (intro h; cases h; done)) | refine c_t rfl ?_ | refine c_f rfl ?_ | refine c_s rfl ?_ ?_
    | (intro h; (try simp only [decide_eq_true_eq, decide_eq_false_iff_not, Bool.not_eq_true', Bool.not_eq_false', beq_iff_eq, bne_iff_ne, beq_eq_false_iff_ne, bne_eq_false_iff_eq, ne_eq, toListI] at h); (try simp only [toListC] at h))
    | refine o_a hY (a_box rfl rfl rfl ?_) | refine o_a hY (a_alz rfl rfl rfl rfl rfl ?_) | refine o_a hY (a_als rfl rfl rfl ?_) | refine o_a hY (a_st rfl rfl rfl (.d rfl) rfl rfl ?_)
    | refine r_of (r_d rfl ?_) | refine r_of (r_c rfl rfl ?_) | refine r_of (r_2 rfl rfl ?_) | refine r_of (r_4 rfl rfl rfl rfl ?_)
    | refine o_a hY (a_call hh (.cons (.d rfl) .nil) rfl ?_)
    | refine o_a hY (a_sl rfl rfl .nil (by simp [allSz]) rfl rfl rfl rfl rfl rfl ?_))
  · exact isR_b (by rw [← hr, h]; rfl)
  rw [h, Bool.true_and] at hr
  refine s_loop (fun m τ => ∃ (j : Nat), j ≤ p.a.length ∧ m = p.a.length - j ∧ τ = ⟨[(1, .pt (.l 1) 0), (3, .rw (.l 11) (strs ((arrsN p).take j)).length), (4, .d (.i .i64 (j : Int)))], [(1, .var (.d (encP p))), (11, .row 9 1 (strs ((arrsN p).take j)))], []⟩) p.a.length ⟨0, Nat.zero_le _, rfl, rfl⟩ (Wk.of ⟨rfl, rfl, rfl, trivial⟩ ⟨rfl, rfl, trivial⟩ rfl) ?_
  rintro m τ ⟨j, hj, rfl, rfl⟩
  by_cases hlt : j < p.a.length
  · have hap : strs ((arrsN p).take j) ++ [.s p.a[j].s] = strs ((arrsN p).take (j + 1)) := by
      rw [strs_one, ← List.take_append_getElem (by omega)]
      simp [arrsN]
    repeat' (first
    | refine s_seq ?_ | refine s_block ?_ | refine s_reg ?_ | refine s_skip ?_ | refine s_ret ?_ | refine s_end ?_ | refine n_seq ?_ | refine n_blk ?_ | refine n_nil ?_ | refine s_exit ?_ | refine e_seq ?_ | refine e_lp ?_ | refine e_blk ?_ | refine e_blk' rfl ?_
    | (refine o_v hY (v_wr rfl ?_) rfl ?_; · omega) | refine o_v hY (v_pv rfl) rfl ?_ | refine g_y rfl rfl ?_ | refine g_n hY rfl rfl rfl ?_ | refine g_u hY rfl rfl rfl ?_ | (refine g_s rfl rfl ?_ ?_ <;> fail_if_success (intro h; cases h; done)) | refine c_t rfl ?_ | refine c_f rfl ?_ | refine c_s rfl ?_ ?_
    | (intro h; (try simp only [decide_eq_true_eq, decide_eq_false_iff_not, Bool.not_eq_true', Bool.not_eq_false', beq_iff_eq, bne_iff_ne, beq_eq_false_iff_ne, bne_eq_false_iff_eq, ne_eq, toListI] at h); (try simp only [toListC] at h))
    | refine o_a hY (a_box rfl rfl rfl ?_) | refine o_a hY (a_alz rfl rfl rfl rfl rfl ?_) | refine o_a hY (a_als rfl rfl rfl ?_) | refine o_a hY (a_st rfl rfl rfl (.d rfl) rfl rfl ?_)
    | refine r_of (r_d rfl ?_) | refine r_of (r_c rfl rfl ?_) | refine r_of (r_2 rfl rfl ?_) | refine r_of (r_4 rfl rfl rfl rfl ?_)
    | (refine o_v hY (v_ia j rfl rfl (.d rfl) rfl rfl (encAs_get p.a j ?_) (size_encA _)) rfl ?_; · omega)
    | refine o_v hY (v_ldp rfl rfl (sub_sA _)) rfl ?_
    | refine o_a hY (a_sl rfl rfl (.cons (.d rfl) .nil) (by simp [allSz, D.size]) rfl rfl rfl rfl rfl rfl ?_)
    | (refine o_a hY (a_ap' hap rfl rfl rfl rfl (.w rfl rfl rfl) rfl (by simp [allSz, D.size]) rfl rfl rfl ?_ ?_)
       · (simp only [strs_len, List.length_take]; omega)))
    · exact n_lp (p.a.length - (j+1)) ⟨j+1, by omega, rfl, rfl⟩ (by omega) (Wk.of ⟨rfl, rfl, rfl, trivial⟩ ⟨rfl, rfl, trivial⟩ rfl)
    all_goals (exfalso; omega)
  · obtain rfl : j = p.a.length := by omega
    have htk : (arrsN p).take p.a.length = arrsN p := List.take_of_length_le (by omega)
    rw [htk]
    repeat' (first
    | refine s_seq ?_ | refine s_block ?_ | refine s_reg ?_ | refine s_skip ?_ | refine s_ret ?_ | refine s_end ?_ | refine n_seq ?_ | refine n_blk ?_ | refine n_nil ?_ | refine s_exit ?_ | refine e_seq ?_ | refine e_lp ?_ | refine e_blk ?_ | refine e_blk' rfl ?_
    | (refine o_v hY (v_wr rfl ?_) rfl ?_; · omega) | refine o_v hY (v_pv rfl) rfl ?_ | refine g_y rfl rfl ?_ | refine g_n hY rfl rfl rfl ?_ | refine g_u hY rfl rfl rfl ?_ | (refine g_s rfl rfl ?_ ?_ <;> fail_if_success (intro h; cases h; done)) | refine c_t rfl ?_ | refine c_f rfl ?_ | refine c_s rfl ?_ ?_
    | (intro h; (try simp only [decide_eq_true_eq, decide_eq_false_iff_not, Bool.not_eq_true', Bool.not_eq_false', beq_iff_eq, bne_iff_ne, beq_eq_false_iff_ne, bne_eq_false_iff_eq, ne_eq, toListI] at h); (try simp only [toListC] at h))
    | refine o_a hY (a_box rfl rfl rfl ?_) | refine o_a hY (a_alz rfl rfl rfl rfl rfl ?_) | refine o_a hY (a_als rfl rfl rfl ?_) | refine o_a hY (a_st rfl rfl rfl (.d rfl) rfl rfl ?_)
    | refine r_of (r_d rfl ?_) | refine r_of (r_c rfl rfl ?_) | refine r_of (r_2 rfl rfl ?_) | refine r_of (r_4 rfl rfl rfl rfl ?_)
    | refine o_a hY (a_call c1 (.cons (.d rfl) .nil) rfl ?_) | refine o_a hY (a_call c2 (.cons (.d rfl) .nil) rfl ?_) | refine o_a hY (a_call c3 (.cons (.w rfl rfl rfl) (.cons (.d rfl) (.cons (.d rfl) .nil))) rfl ?_)
    | refine o_a hY (a_sl rfl rfl .nil (by simp [allSz]) rfl rfl rfl rfl rfl rfl ?_))
    · exfalso; omega
    refine p_start (by kernel_rfl) [] (.tk 0 (.tk 1 (.one 2 (.tk 3 (.tk 4 (.tk 6 (.tk 7 (.one 5 (.one 8 (.one 9 (.tk 10 (.tk 11 (.tk 12 (.tk 13 (.one 14 (.tk 15 (.tk 16 (.tk 17 (.tk 18 (.one 19 (.tk 20 (.tk 21 (.tk 22 (.tk 23 (.tk 24 (.one 25 (.one 26 (.tk 27 (.tk 28 (.tk 29 (.tk 30 (.one 31 (.tk 32 (.tk 33 (.tk 34 (.tk 35 (.one 36 (.one 37 (.tk 38 (.tk 39 (.tk 40 (.tk 41 (.tk 42 (.tk 43 (.tk 44 .done))))))))))))))))))))))))))))))))))))))))))))) (by kernel_rfl) ?_
    unfold tailB apart at hr
    repeat' (first
    | refine s_seq ?_ | refine s_block ?_ | refine s_reg ?_ | refine s_skip ?_ | refine s_ret ?_ | refine s_end ?_ | refine n_seq ?_ | refine n_blk ?_ | refine n_nil ?_ | refine s_exit ?_ | refine e_seq ?_ | refine e_lp ?_ | refine e_blk ?_ | refine e_blk' rfl ?_
    | (refine o_v hY (v_wr rfl ?_) rfl ?_; · omega) | refine o_v hY (v_pv rfl) rfl ?_ | refine g_y rfl rfl ?_ | refine g_n hY rfl rfl rfl ?_ | refine g_u hY rfl rfl rfl ?_ | (refine g_s rfl rfl ?_ ?_ <;> fail_if_success (intro h; cases h; done)) | refine c_t rfl ?_ | refine c_f rfl ?_ | refine c_s rfl ?_ ?_
    | (intro h; (try simp only [decide_eq_true_eq, decide_eq_false_iff_not, Bool.not_eq_true', Bool.not_eq_false', beq_iff_eq, bne_iff_ne, beq_eq_false_iff_ne, bne_eq_false_iff_eq, ne_eq, toListI] at h); (try simp only [toListC] at h))
    | refine o_a hY (a_box rfl rfl rfl ?_) | refine o_a hY (a_alz rfl rfl rfl rfl rfl ?_) | refine o_a hY (a_als rfl rfl rfl ?_) | refine o_a hY (a_st rfl rfl rfl (.d rfl) rfl rfl ?_)
    | refine r_of (r_d rfl ?_) | refine r_of (r_c rfl rfl ?_) | refine r_of (r_2 rfl rfl ?_) | refine r_of (r_4 rfl rfl rfl rfl ?_)
    | refine p_tk hY rfl rfl (v_pv rfl) rfl noPan_ret ?_ | refine p_tkg hY rfl rfl rfl rfl (v_pv rfl) rfl noPan_ret ?_ | refine p_tkn hY rfl rfl rfl (.inl rfl) rfl noPan_ret ?_ | refine p_tkn hY rfl rfl rfl (.inr rfl) rfl noPan_ret ?_ | refine p_done ?_ | refine p_one hY rfl (x_s rfl (.inl rfl) rfl ?_) | refine p_one hY rfl (x_s rfl (.inr rfl) rfl ?_) | refine p_two hY rfl rfl (x_s rfl (.inl rfl) rfl ?_) (x_s rfl (.inl rfl) rfl ?_) | (refine p_sg rfl rfl rfl rfl ?_ ?_ <;> fail_if_success (intro h; cases h; done)) | (refine p_so rfl rfl rfl rfl ?_ ?_ <;> fail_if_success (intro h; cases h; done))
    | refine p_one hY rfl (x_n rfl ?_) | refine p_one hY rfl (x_y rfl rfl rfl rfl ?_)
    | refine a_sl rfl rfl .nil (by simp [allSz]) rfl rfl rfl rfl rfl rfl ?_
    | refine a_call d1 (.cons (.d rfl) (.cons (.d rfl) .nil)) rfl ?_
    | refine a_call c4 (.cons (.w rfl rfl rfl) (.cons (.d rfl) (.cons (.d rfl) .nil))) rfl ?_
    | refine a_call d2 (.cons (.d rfl) (.cons (.d rfl) .nil)) rfl ?_
    | refine a_call d3 (.cons (.w rfl rfl rfl) (.cons (.d rfl) .nil)) rfl ?_
    | refine a_call d4 (.cons (.w rfl rfl rfl) (.cons (.d rfl) .nil)) rfl ?_
    | refine a_call c5 (.cons (.d rfl) .nil) rfl ?_
    | refine a_call d5 (.cons (.w rfl rfl rfl) (.cons (.d rfl) .nil)) rfl ?_
    | refine a_call d6 (.cons (.d rfl) (.cons (.d rfl) .nil)) rfl ?_
    | refine a_call d7 (.cons (.d rfl) (.cons (.w rfl rfl rfl) .nil)) rfl ?_)
    all_goals refine isR_b ?_
    all_goals rw [← hr]
    all_goals clear hr hla hlb hh hz n1 b1 b2 c1 c2 c3 c4 c5 l1 l2 l3 l4 l5 l6 d1 d2 d3 d4 d5 d6 d7 hj hlt htk
    all_goals first | (simp [*]; done) | (simp only [strs_len, Bool.true_and, *]; rfl)
end Go.Proofs.YtmmdgciefehbcaaGreatDoor.Ax
