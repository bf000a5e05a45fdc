/- Contracts of functions that the claim reaches, over data without addresses, and what follows of them (text P25). No conditions beside those that each theorem names. -/
import Derived.Test.YtmmdgciefehbcaaGreatDoorP24
set_option linter.unusedVariables false
set_option linter.unusedSimpArgs false
namespace Go.Proofs.YtmmdgciefehbcaaGreatDoor.Ax
def varsI (p : Pg) : List ByteArray := ordN (rawL 1 p.b)
def loopsI (p : Pg) : List ByteArray := ordN (rawL 3 p.b)
def putsI (p : Pg) : List ByteArray := ordN (rawL 2 p.b)
def asksI (k : Int) (p : Pg) : List ByteArray := ordN (askI k p.b)
def tailI (p : Pg) : Bool :=
  ((loopsI p).all fun x => !has (varsI p) x) && ((asksI 3 p).all (isA p) && ((putsI p).all (isA p) && (!([varsI p, loopsI p, asksI 2 p].flatten.any (isA p)) && (decide (((varsI p).length : Int) ≤ 6) && nstL [] p.b))))
theorem ordN_len (l : List ByteArray) : (ordN l).length ≤ l.length := by
  have h1 := Lib.compact_length_le (srt (l.map bts))
  have h2 : (srt (l.map bts)).length = l.length := by rw [List.length_mergeSort, List.length_map]
  rw [ordN, List.length_map]; omega
theorem askI_len (k : Int) (l : List Sm) : (askI k l).length ≤ 4 * (l.length + sumS l) := by
  have h1 := askL_len k l
  have h2 := (allL_ask k l).length_eq
  rw [askI]; omega
set_option maxHeartbeats 16000000 in
theorem namesOk_c (p : Pg) (hz : szP p ≤ 1048576) : AC Tryz.prog 40 [.d (encP p)] [] (isR (.d (.b (tailI p)))) := by
  have hla := encAs_len p.a
  have hlb := encSs_len p.b
  unfold szP at hz
  have n1 := nodL_le p.b
  have b1 : ∀ k, (rawL k p.b).length ≤ 4194304 := fun k => by have := rawL_len k p.b; omega
  have b2 : ∀ k, (askI k p.b).length ≤ 4194304 := fun k => by have := askI_len k p.b; omega
  have l1 : (varsI p).length ≤ 4194304 := Nat.le_trans (ordN_len _) (b1 1)
  have l2 : (loopsI p).length ≤ 4194304 := Nat.le_trans (ordN_len _) (b1 3)
  have l3 : (putsI p).length ≤ 4194304 := Nat.le_trans (ordN_len _) (b1 2)
  have l4 : ∀ k, (asksI k p).length ≤ 4194304 := fun k => Nat.le_trans (ordN_len _) (b2 k)
  have c1 := implVarsOf_c p.b (by omega) (Nat.le_trans (b1 1) (by decide))
  have c2 := implLoopVars_c p.b (by omega) (Nat.le_trans (b1 3) (by decide))
  have c3 := implNamesAsked_c 3 p.b (by omega) (Nat.le_trans (b2 3) (by decide))
  have c4 := implNamesOf_c 2 p.b (by omega) (Nat.le_trans (b1 2) (by decide))
  have c5 := implAsked_c p.b (by omega) (Nat.le_trans (b2 2) (by decide))
  rw [show ordN (rawL 1 p.b) = varsI p from rfl] at c1
  rw [show ordN (rawL 3 p.b) = loopsI p from rfl] at c2
  rw [show ordN (askI 3 p.b) = asksI 3 p from rfl] at c3
  rw [show ordN (rawL 2 p.b) = putsI p from rfl] at c4
  rw [show ordN (askI 2 p.b) = asksI 2 p from rfl] at c5
  have hfl : ([varsI p, loopsI p, asksI 2 p].flatten).length ≤ 100000000 := by have := l4 2; simp; omega
  have c6 := concat_c [varsI p, loopsI p, asksI 2 p] (by simp) hfl
  have d1 := areArrs_c p (asksI 3 p) (by have := l4 3; omega) (by omega)
  have d2 := areArrs_c p (putsI p) (by omega) (by omega)
  have d3 := areArrs_c p [varsI p, loopsI p, asksI 2 p].flatten (by omega) (by omega)
  have d4 := fun s => contains_c (varsI p) s (by omega)
  have d5 := loopsOk_c p.b [] (by simp; omega)
  have hlv := strs_len (varsI p)
  have hll := strs_len (loopsI p)
  generalize hr : tailI p = res
  unfold tailI at hr
  generalize varsI p = vars at *
  generalize loopsI p = loops at *
  generalize putsI p = puts at *
  generalize asksI 3 p = ask3 at *
  generalize asksI 2 p = ask2 at *
  (refine AC_fn hY Tryz.func40 rfl Tryz.ntmps40 Tryz.results40 rfl (eq_true (by simp)) ?_; simp only [enumT])
  repeat' (first
    | refine s_seq ?_ | refine s_block ?_ | refine s_reg ?_ | refine s_skip ?_ | refine s_ret ?_ | refine s_end ?_ | refine n_seq ?_ | refine n_blk ?_ | refine n_nil ?_ | refine s_exit ?_ | refine e_seq ?_ | refine e_lp ?_ | refine e_blk ?_ | refine e_blk' rfl ?_
    | (refine o_v hY (v_wr rfl ?_) rfl ?_; · omega) | refine o_v hY (v_pv rfl) rfl ?_ | refine g_y rfl rfl ?_ | refine g_n hY rfl rfl rfl ?_ | refine g_u hY rfl rfl rfl ?_ | (refine g_s rfl rfl ?_ ?_ <;> fail_if_success (intro h; cases h; done)) | refine c_t rfl ?_ | refine c_f rfl ?_ | refine c_s rfl ?_ ?_
    | (intro h; (try simp only [decide_eq_true_eq, decide_eq_false_iff_not, Bool.not_eq_true', Bool.not_eq_false', beq_iff_eq, bne_iff_ne, beq_eq_false_iff_ne, bne_eq_false_iff_eq, ne_eq, toListI] at h); (try simp only [toListC] at h))
    | refine o_a hY (a_box rfl rfl rfl ?_) | refine o_a hY (a_alz rfl rfl rfl rfl rfl ?_) | refine o_a hY (a_als rfl rfl rfl ?_) | refine o_a hY (a_st rfl rfl rfl (.d rfl) rfl rfl ?_)
    | refine r_of (r_d rfl ?_) | refine r_of (r_c rfl rfl ?_) | refine r_of (r_2 rfl rfl ?_) | refine r_of (r_4 rfl rfl rfl rfl ?_))
  refine p_start (by kernel_rfl) [] (.tk 0 (.tk 1 (.tk 3 (.tk 4 (.one 2 (.one 5 (.tk 6 (.tk 7 .done)))))))) (by kernel_rfl) ?_
  repeat' (first
    | refine s_seq ?_ | refine s_block ?_ | refine s_reg ?_ | refine s_skip ?_ | refine s_ret ?_ | refine s_end ?_ | refine n_seq ?_ | refine n_blk ?_ | refine n_nil ?_ | refine s_exit ?_ | refine e_seq ?_ | refine e_lp ?_ | refine e_blk ?_ | refine e_blk' rfl ?_
    | (refine o_v hY (v_wr rfl ?_) rfl ?_; · omega) | refine o_v hY (v_pv rfl) rfl ?_ | refine g_y rfl rfl ?_ | refine g_n hY rfl rfl rfl ?_ | refine g_u hY rfl rfl rfl ?_ | (refine g_s rfl rfl ?_ ?_ <;> fail_if_success (intro h; cases h; done)) | refine c_t rfl ?_ | refine c_f rfl ?_ | refine c_s rfl ?_ ?_
    | (intro h; (try simp only [decide_eq_true_eq, decide_eq_false_iff_not, Bool.not_eq_true', Bool.not_eq_false', beq_iff_eq, bne_iff_ne, beq_eq_false_iff_ne, bne_eq_false_iff_eq, ne_eq, toListI] at h); (try simp only [toListC] at h))
    | refine o_a hY (a_box rfl rfl rfl ?_) | refine o_a hY (a_alz rfl rfl rfl rfl rfl ?_) | refine o_a hY (a_als rfl rfl rfl ?_) | refine o_a hY (a_st rfl rfl rfl (.d rfl) rfl rfl ?_)
    | refine r_of (r_d rfl ?_) | refine r_of (r_c rfl rfl ?_) | refine r_of (r_2 rfl rfl ?_) | refine r_of (r_4 rfl rfl rfl rfl ?_)
    | refine p_tk hY rfl rfl (v_pv rfl) rfl noPan_ret ?_ | refine p_tkg hY rfl rfl rfl rfl (v_pv rfl) rfl noPan_ret ?_ | refine p_tkn hY rfl rfl rfl (.inl rfl) rfl noPan_ret ?_ | refine p_tkn hY rfl rfl rfl (.inr rfl) rfl noPan_ret ?_ | refine p_done ?_ | refine p_one hY rfl (x_s rfl (.inl rfl) rfl ?_) | refine p_one hY rfl (x_s rfl (.inr rfl) rfl ?_) | refine p_two hY rfl rfl (x_s rfl (.inl rfl) rfl ?_) (x_s rfl (.inl rfl) rfl ?_) | (refine p_sg rfl rfl rfl rfl ?_ ?_ <;> fail_if_success (intro h; cases h; done)) | (refine p_so rfl rfl rfl rfl ?_ ?_ <;> fail_if_success (intro h; cases h; done))
    | refine p_one hY rfl (x_n rfl ?_) | refine a_call c1 (.cons (.d rfl) .nil) rfl ?_ | refine a_call c2 (.cons (.d rfl) .nil) rfl ?_)
  refine s_loop (fun m τ => ∃ (j : Nat), j ≤ loops.length ∧ m = loops.length - j ∧ (((loops.drop j).all fun x => !has vars x) && (ask3.all (isA p) && (puts.all (isA p) && (!([vars, loops, ask2].flatten.any (isA p)) && (decide ((vars.length : Int) ≤ 6) && nstL [] p.b))))) = res ∧ τ = ⟨[(1, .pt (.l 1) 0), (3, .d (.sl (strs vars))), (4, .d (.sl (strs loops))), (19, .d (.sl (strs loops))), (20, .d (.i .i64 (loops.length : Int))), (21, .d (.i .i64 (j : Int)))], [(1, .var (.d (encP p)))], []⟩) loops.length ⟨0, Nat.zero_le _, rfl, hr, rfl⟩ (Wk.of ⟨rfl, rfl, rfl, rfl, by rw [← hll]; rfl, rfl, trivial⟩ ⟨rfl, trivial⟩ rfl) ?_
  clear hr
  rintro m τ ⟨j, hj, rfl, h4, rfl⟩
  by_cases hlt : j < loops.length
  · rw [List.drop_eq_getElem_cons hlt, List.all_cons] at h4
    repeat' (first
    | refine s_seq ?_ | refine s_block ?_ | refine s_reg ?_ | refine s_skip ?_ | refine s_ret ?_ | refine s_end ?_ | refine n_seq ?_ | refine n_blk ?_ | refine n_nil ?_ | refine s_exit ?_ | refine e_seq ?_ | refine e_lp ?_ | refine e_blk ?_ | refine e_blk' rfl ?_
    | (refine o_v hY (v_wr rfl ?_) rfl ?_; · omega) | refine o_v hY (v_pv rfl) rfl ?_ | refine g_y rfl rfl ?_ | refine g_n hY rfl rfl rfl ?_ | refine g_u hY rfl rfl rfl ?_ | (refine g_s rfl rfl ?_ ?_ <;> fail_if_success (intro h; cases h; done)) | refine c_t rfl ?_ | refine c_f rfl ?_ | refine c_s rfl ?_ ?_
    | (intro h; (try simp only [decide_eq_true_eq, decide_eq_false_iff_not, Bool.not_eq_true', Bool.not_eq_false', beq_iff_eq, bne_iff_ne, beq_eq_false_iff_ne, bne_eq_false_iff_eq, ne_eq, toListI] at h); (try simp only [toListC] at h))
    | refine o_a hY (a_box rfl rfl rfl ?_) | refine o_a hY (a_alz rfl rfl rfl rfl rfl ?_) | refine o_a hY (a_als rfl rfl rfl ?_) | refine o_a hY (a_st rfl rfl rfl (.d rfl) rfl rfl ?_)
    | refine r_of (r_d rfl ?_) | refine r_of (r_c rfl rfl ?_) | refine r_of (r_2 rfl rfl ?_) | refine r_of (r_4 rfl rfl rfl rfl ?_)
    | (refine o_v hY (v_ia j rfl rfl (.d rfl) rfl rfl (strs_get loops j ?_) rfl) rfl ?_; · omega)
    | refine o_a hY (a_call (d4 _) (.cons (.d rfl) (.cons (.d rfl) .nil)) rfl ?_))
    · exact isR_b (by rw [← h4, h]; rfl)
    · exact n_lp (loops.length - (j+1)) ⟨j+1, by omega, rfl, by rw [← h4, h]; rfl, rfl⟩ (by omega) (Wk.of ⟨rfl, rfl, rfl, rfl, rfl, rfl, trivial⟩ ⟨rfl, trivial⟩ rfl)
    all_goals (exfalso; omega)
  · obtain rfl : j = loops.length := by omega
    rw [List.drop_length, List.all_nil, Bool.true_and] at h4
    repeat' (first
    | refine s_seq ?_ | refine s_block ?_ | refine s_reg ?_ | refine s_skip ?_ | refine s_ret ?_ | refine s_end ?_ | refine n_seq ?_ | refine n_blk ?_ | refine n_nil ?_ | refine s_exit ?_ | refine e_seq ?_ | refine e_lp ?_ | refine e_blk ?_ | refine e_blk' rfl ?_
    | (refine o_v hY (v_wr rfl ?_) rfl ?_; · omega) | refine o_v hY (v_pv rfl) rfl ?_ | refine g_y rfl rfl ?_ | refine g_n hY rfl rfl rfl ?_ | refine g_u hY rfl rfl rfl ?_ | (refine g_s rfl rfl ?_ ?_ <;> fail_if_success (intro h; cases h; done)) | refine c_t rfl ?_ | refine c_f rfl ?_ | refine c_s rfl ?_ ?_
    | (intro h; (try simp only [decide_eq_true_eq, decide_eq_false_iff_not, Bool.not_eq_true', Bool.not_eq_false', beq_iff_eq, bne_iff_ne, beq_eq_false_iff_ne, bne_eq_false_iff_eq, ne_eq, toListI] at h); (try simp only [toListC] at h))
    | refine o_a hY (a_box rfl rfl rfl ?_) | refine o_a hY (a_alz rfl rfl rfl rfl rfl ?_) | refine o_a hY (a_als rfl rfl rfl ?_) | refine o_a hY (a_st rfl rfl rfl (.d rfl) rfl rfl ?_)
    | refine r_of (r_d rfl ?_) | refine r_of (r_c rfl rfl ?_) | refine r_of (r_2 rfl rfl ?_) | refine r_of (r_4 rfl rfl rfl rfl ?_))
    · exfalso; omega
    refine p_start (by kernel_rfl) [] (.tk 0 (.tk 1 (.tk 2 (.one 3 (.one 4 (.tk 5 (.tk 6 (.tk 7 (.tk 8 (.tk 9 .done)))))))))) (by kernel_rfl) ?_
    repeat' (first
    | refine s_seq ?_ | refine s_block ?_ | refine s_reg ?_ | refine s_skip ?_ | refine s_ret ?_ | refine s_end ?_ | refine n_seq ?_ | refine n_blk ?_ | refine n_nil ?_ | refine s_exit ?_ | refine e_seq ?_ | refine e_lp ?_ | refine e_blk ?_ | refine e_blk' rfl ?_
    | (refine o_v hY (v_wr rfl ?_) rfl ?_; · omega) | refine o_v hY (v_pv rfl) rfl ?_ | refine g_y rfl rfl ?_ | refine g_n hY rfl rfl rfl ?_ | refine g_u hY rfl rfl rfl ?_ | (refine g_s rfl rfl ?_ ?_ <;> fail_if_success (intro h; cases h; done)) | refine c_t rfl ?_ | refine c_f rfl ?_ | refine c_s rfl ?_ ?_
    | (intro h; (try simp only [decide_eq_true_eq, decide_eq_false_iff_not, Bool.not_eq_true', Bool.not_eq_false', beq_iff_eq, bne_iff_ne, beq_eq_false_iff_ne, bne_eq_false_iff_eq, ne_eq, toListI] at h); (try simp only [toListC] at h))
    | refine o_a hY (a_box rfl rfl rfl ?_) | refine o_a hY (a_alz rfl rfl rfl rfl rfl ?_) | refine o_a hY (a_als rfl rfl rfl ?_) | refine o_a hY (a_st rfl rfl rfl (.d rfl) rfl rfl ?_)
    | refine r_of (r_d rfl ?_) | refine r_of (r_c rfl rfl ?_) | refine r_of (r_2 rfl rfl ?_) | refine r_of (r_4 rfl rfl rfl rfl ?_)
    | refine p_tk hY rfl rfl (v_pv rfl) rfl noPan_ret ?_ | refine p_tkg hY rfl rfl rfl rfl (v_pv rfl) rfl noPan_ret ?_ | refine p_tkn hY rfl rfl rfl (.inl rfl) rfl noPan_ret ?_ | refine p_tkn hY rfl rfl rfl (.inr rfl) rfl noPan_ret ?_ | refine p_done ?_ | refine p_one hY rfl (x_s rfl (.inl rfl) rfl ?_) | refine p_one hY rfl (x_s rfl (.inr rfl) rfl ?_) | refine p_two hY rfl rfl (x_s rfl (.inl rfl) rfl ?_) (x_s rfl (.inl rfl) rfl ?_) | (refine p_sg rfl rfl rfl rfl ?_ ?_ <;> fail_if_success (intro h; cases h; done)) | (refine p_so rfl rfl rfl rfl ?_ ?_ <;> fail_if_success (intro h; cases h; done))
    | refine p_one hY rfl (x_n rfl ?_) | refine a_call c3 (.cons (.d rfl) (.cons (.d rfl) .nil)) rfl ?_ | refine a_call d1 (.cons (.d rfl) (.cons (.d rfl) .nil)) rfl ?_)
    refine p_start (by kernel_rfl) [] (.tk 0 (.tk 1 (.tk 2 (.one 3 (.one 4 (.tk 5 (.tk 6 (.tk 7 (.tk 8 (.tk 9 .done)))))))))) (by kernel_rfl) ?_
    repeat' (first
    | refine s_seq ?_ | refine s_block ?_ | refine s_reg ?_ | refine s_skip ?_ | refine s_ret ?_ | refine s_end ?_ | refine n_seq ?_ | refine n_blk ?_ | refine n_nil ?_ | refine s_exit ?_ | refine e_seq ?_ | refine e_lp ?_ | refine e_blk ?_ | refine e_blk' rfl ?_
    | (refine o_v hY (v_wr rfl ?_) rfl ?_; · omega) | refine o_v hY (v_pv rfl) rfl ?_ | refine g_y rfl rfl ?_ | refine g_n hY rfl rfl rfl ?_ | refine g_u hY rfl rfl rfl ?_ | (refine g_s rfl rfl ?_ ?_ <;> fail_if_success (intro h; cases h; done)) | refine c_t rfl ?_ | refine c_f rfl ?_ | refine c_s rfl ?_ ?_
    | (intro h; (try simp only [decide_eq_true_eq, decide_eq_false_iff_not, Bool.not_eq_true', Bool.not_eq_false', beq_iff_eq, bne_iff_ne, beq_eq_false_iff_ne, bne_eq_false_iff_eq, ne_eq, toListI] at h); (try simp only [toListC] at h))
    | refine o_a hY (a_box rfl rfl rfl ?_) | refine o_a hY (a_alz rfl rfl rfl rfl rfl ?_) | refine o_a hY (a_als rfl rfl rfl ?_) | refine o_a hY (a_st rfl rfl rfl (.d rfl) rfl rfl ?_)
    | refine r_of (r_d rfl ?_) | refine r_of (r_c rfl rfl ?_) | refine r_of (r_2 rfl rfl ?_) | refine r_of (r_4 rfl rfl rfl rfl ?_)
    | refine p_tk hY rfl rfl (v_pv rfl) rfl noPan_ret ?_ | refine p_tkg hY rfl rfl rfl rfl (v_pv rfl) rfl noPan_ret ?_ | refine p_tkn hY rfl rfl rfl (.inl rfl) rfl noPan_ret ?_ | refine p_tkn hY rfl rfl rfl (.inr rfl) rfl noPan_ret ?_ | refine p_done ?_ | refine p_one hY rfl (x_s rfl (.inl rfl) rfl ?_) | refine p_one hY rfl (x_s rfl (.inr rfl) rfl ?_) | refine p_two hY rfl rfl (x_s rfl (.inl rfl) rfl ?_) (x_s rfl (.inl rfl) rfl ?_) | (refine p_sg rfl rfl rfl rfl ?_ ?_ <;> fail_if_success (intro h; cases h; done)) | (refine p_so rfl rfl rfl rfl ?_ ?_ <;> fail_if_success (intro h; cases h; done))
    | refine p_one hY rfl (x_n rfl ?_) | refine a_call c4 (.cons (.d rfl) (.cons (.d rfl) .nil)) rfl ?_ | refine a_call d2 (.cons (.d rfl) (.cons (.d rfl) .nil)) rfl ?_)
    refine p_start (by kernel_rfl) [] (.tk 0 (.tk 1 (.tk 2 (.tk 3 (.tk 4 (.one 5 (.one 6 (.one 7 (.one 8 (.tk 9 (.tk 10 (.tk 11 (.tk 12 (.tk 13 .done)))))))))))))) (by kernel_rfl) ?_
    repeat' (first
    | refine s_seq ?_ | refine s_block ?_ | refine s_reg ?_ | refine s_skip ?_ | refine s_ret ?_ | refine s_end ?_ | refine n_seq ?_ | refine n_blk ?_ | refine n_nil ?_ | refine s_exit ?_ | refine e_seq ?_ | refine e_lp ?_ | refine e_blk ?_ | refine e_blk' rfl ?_
    | (refine o_v hY (v_wr rfl ?_) rfl ?_; · omega) | refine o_v hY (v_pv rfl) rfl ?_ | refine g_y rfl rfl ?_ | refine g_n hY rfl rfl rfl ?_ | refine g_u hY rfl rfl rfl ?_ | (refine g_s rfl rfl ?_ ?_ <;> fail_if_success (intro h; cases h; done)) | refine c_t rfl ?_ | refine c_f rfl ?_ | refine c_s rfl ?_ ?_
    | (intro h; (try simp only [decide_eq_true_eq, decide_eq_false_iff_not, Bool.not_eq_true', Bool.not_eq_false', beq_iff_eq, bne_iff_ne, beq_eq_false_iff_ne, bne_eq_false_iff_eq, ne_eq, toListI] at h); (try simp only [toListC] at h))
    | refine o_a hY (a_box rfl rfl rfl ?_) | refine o_a hY (a_alz rfl rfl rfl rfl rfl ?_) | refine o_a hY (a_als rfl rfl rfl ?_) | refine o_a hY (a_st rfl rfl rfl (.d rfl) rfl rfl ?_)
    | refine r_of (r_d rfl ?_) | refine r_of (r_c rfl rfl ?_) | refine r_of (r_2 rfl rfl ?_) | refine r_of (r_4 rfl rfl rfl rfl ?_)
    | refine p_tk hY rfl rfl (v_pv rfl) rfl noPan_ret ?_ | refine p_tkg hY rfl rfl rfl rfl (v_pv rfl) rfl noPan_ret ?_ | refine p_tkn hY rfl rfl rfl (.inl rfl) rfl noPan_ret ?_ | refine p_tkn hY rfl rfl rfl (.inr rfl) rfl noPan_ret ?_ | refine p_done ?_ | refine p_one hY rfl (x_s rfl (.inl rfl) rfl ?_) | refine p_one hY rfl (x_s rfl (.inr rfl) rfl ?_) | refine p_two hY rfl rfl (x_s rfl (.inl rfl) rfl ?_) (x_s rfl (.inl rfl) rfl ?_) | (refine p_sg rfl rfl rfl rfl ?_ ?_ <;> fail_if_success (intro h; cases h; done)) | (refine p_so rfl rfl rfl rfl ?_ ?_ <;> fail_if_success (intro h; cases h; done))
    | refine p_one hY rfl (x_n rfl ?_) | refine a_call c5 (.cons (.d rfl) .nil) rfl ?_ | refine a_sl rfl rfl (.cons (.d rfl) (.cons (.d rfl) (.cons (.d rfl) .nil))) (by simp [allSz, D.size]) rfl rfl rfl rfl rfl rfl ?_
    | refine a_call c6 (.cons (.w rfl rfl rfl) .nil) rfl ?_ | refine a_call d3 (.cons (.d rfl) (.cons (.d rfl) .nil)) rfl ?_
    | refine o_a hY (a_call d5 (.cons (.d rfl) (.cons (.n rfl) .nil)) rfl ?_))
    all_goals refine isR_b ?_
    all_goals rw [← h4, ← hlv]
    all_goals clear h4 hla hlb hz n1 b1 b2 l1 l2 l3 l4 c1 c2 c3 c4 c5 c6 hfl d1 d2 d3 d4 d5 hlv hll hj hlt
    all_goals first | (simp only [Bool.and_true, Bool.true_and, Bool.false_and, Bool.and_false, Bool.not_true, Bool.not_false, decide_true, decide_false, *]; done) | trace_state
def progI (p : Pg) : Bool := headB p && tailI p
set_option maxHeartbeats 8000000 in
theorem implProgOk_c (p : Pg) (hz : szP p ≤ 1048576) : AC Tryz.prog 16 [.d (encP p)] [] (isR (.d (.b (progI p)))) := by
  have hla := encAs_len p.a
  have hlb := encSs_len p.b
  have hn := namesOk_c p hz
  unfold szP at hz
  have c1 := arrsOk_c p.a (by omega)
  have c2 := implSizeL_c p.b (fun x _ => implSize_c x) (by omega)
  generalize hr : progI p = res
  unfold progI headB at hr
  generalize tailI p = tl at *
  generalize arrB none p.a = ab at *
  (refine AC_fn hY Tryz.func16 rfl Tryz.ntmps16 Tryz.results16 rfl (eq_true (by simp)) ?_; simp only [enumT])
  repeat' (first
    | refine s_seq ?_ | refine s_block ?_ | refine s_reg ?_ | refine s_skip ?_ | refine s_ret ?_ | refine s_end ?_ | refine n_seq ?_ | refine n_blk ?_ | refine n_nil ?_ | refine s_exit ?_ | refine e_seq ?_ | refine e_lp ?_ | refine e_blk ?_ | refine e_blk' rfl ?_
    | (refine o_v hY (v_wr rfl ?_) rfl ?_; · omega) | refine o_v hY (v_pv rfl) rfl ?_ | refine g_y rfl rfl ?_ | refine g_n hY rfl rfl rfl ?_ | refine g_u hY rfl rfl rfl ?_ | (refine g_s rfl rfl ?_ ?_ <;> fail_if_success (intro h; cases h; done)) | refine c_t rfl ?_ | refine c_f rfl ?_ | refine c_s rfl ?_ ?_
    | (intro h; (try simp only [decide_eq_true_eq, decide_eq_false_iff_not, Bool.not_eq_true', Bool.not_eq_false', beq_iff_eq, bne_iff_ne, beq_eq_false_iff_ne, bne_eq_false_iff_eq, ne_eq, toListI] at h); (try simp only [toListC] at h))
    | refine o_a hY (a_box rfl rfl rfl ?_) | refine o_a hY (a_alz rfl rfl rfl rfl rfl ?_) | refine o_a hY (a_als rfl rfl rfl ?_) | refine o_a hY (a_st rfl rfl rfl (.d rfl) rfl rfl ?_)
    | refine r_of (r_d rfl ?_) | refine r_of (r_c rfl rfl ?_) | refine r_of (r_2 rfl rfl ?_) | refine r_of (r_4 rfl rfl rfl rfl ?_)
    | refine o_a hY (a_call c1 (.cons (.d rfl) .nil) rfl ?_) | refine o_a hY (a_call c2 (.cons (.d rfl) .nil) rfl ?_))
  · refine isR_b ?_
    rw [← hr]
    revert h
    generalize decide ((p.a.length : Int) ≤ 4) = d
    cases ab <;> cases d <;> simp
  · exact isR_b (by rw [← hr, decide_eq_false (show ¬ (p.b.length : Int) ≤ 12 by omega)]; simp)
  · exact isR_b (by rw [← hr, decide_eq_false (show ¬ (nodL p.b : Int) ≤ 40 by omega)]; simp)
  have h0 := ‹(ab && _) = true›
  rw [Bool.and_eq_true] at h0
  rw [h0.1, h0.2, decide_eq_true (show (p.b.length : Int) ≤ 12 by omega), decide_eq_true (show (nodL p.b : Int) ≤ 40 by omega)] at hr
  simp only [Bool.and_true, Bool.true_and] at hr
  refine s_loop (fun m τ => ∃ (j : Nat), j ≤ p.b.length ∧ m = p.b.length - j ∧ ((p.b.drop j).all okS && tl) = res ∧ τ = ⟨[(1, .pt (.l 1) 0), (22, .d (.sl (encSs p.b))), (23, .d (.i .i64 (p.b.length : Int))), (24, .d (.i .i64 (j : Int)))], [(1, .var (.d (encP p)))], []⟩) p.b.length ⟨0, Nat.zero_le _, rfl, hr, rfl⟩ (Wk.of ⟨rfl, rfl, by rw [← hlb]; rfl, rfl, trivial⟩ ⟨rfl, trivial⟩ rfl) ?_
  clear hr h0 h
  rintro m τ ⟨j, hj, rfl, h4, rfl⟩
  by_cases hlt : j < p.b.length
  · have hs := szS_in p.b j hlt
    rw [List.drop_eq_getElem_cons hlt, List.all_cons] at h4
    repeat' (first
    | refine s_seq ?_ | refine s_block ?_ | refine s_reg ?_ | refine s_skip ?_ | refine s_ret ?_ | refine s_end ?_ | refine n_seq ?_ | refine n_blk ?_ | refine n_nil ?_ | refine s_exit ?_ | refine e_seq ?_ | refine e_lp ?_ | refine e_blk ?_ | refine e_blk' rfl ?_
    | (refine o_v hY (v_wr rfl ?_) rfl ?_; · omega) | refine o_v hY (v_pv rfl) rfl ?_ | refine g_y rfl rfl ?_ | refine g_n hY rfl rfl rfl ?_ | refine g_u hY rfl rfl rfl ?_ | (refine g_s rfl rfl ?_ ?_ <;> fail_if_success (intro h; cases h; done)) | refine c_t rfl ?_ | refine c_f rfl ?_ | refine c_s rfl ?_ ?_
    | (intro h; (try simp only [decide_eq_true_eq, decide_eq_false_iff_not, Bool.not_eq_true', Bool.not_eq_false', beq_iff_eq, bne_iff_ne, beq_eq_false_iff_ne, bne_eq_false_iff_eq, ne_eq, toListI] at h); (try simp only [toListC] at h))
    | refine o_a hY (a_box rfl rfl rfl ?_) | refine o_a hY (a_alz rfl rfl rfl rfl rfl ?_) | refine o_a hY (a_als rfl rfl rfl ?_) | refine o_a hY (a_st rfl rfl rfl (.d rfl) rfl rfl ?_)
    | refine r_of (r_d rfl ?_) | refine r_of (r_c rfl rfl ?_) | refine r_of (r_2 rfl rfl ?_) | refine r_of (r_4 rfl rfl rfl rfl ?_)
    | (refine o_v hY (v_ia j rfl rfl (.d rfl) rfl rfl (encSs_get p.b j ?_) (size_encS _)) rfl ?_; · omega)
    | refine o_v hY (v_ldp rfl rfl (sub_encS _)) rfl ?_ | refine o_v hY (v_ldb rfl rfl rfl (sub_encS _)) rfl ?_
    | refine o_a hY (a_st rfl rfl rfl (.d rfl) (set_S _) (size_encS _) ?_)
    | refine o_a hY (a_call (implStmtOk_c p.b[j] (by omega)) (.cons (.d rfl) .nil) rfl ?_))
    · exact isR_b (by rw [← h4, h]; rfl)
    · exact n_lp (p.b.length - (j+1)) ⟨j+1, by omega, rfl, by rw [← h4, h]; rfl, rfl⟩ (by omega) (Wk.of ⟨rfl, rfl, rfl, rfl, trivial⟩ ⟨rfl, trivial⟩ rfl)
    all_goals (exfalso; omega)
  · obtain rfl : j = p.b.length := by omega
    rw [List.drop_length, List.all_nil, Bool.true_and] at h4
    repeat' (first
    | refine s_seq ?_ | refine s_block ?_ | refine s_reg ?_ | refine s_skip ?_ | refine s_ret ?_ | refine s_end ?_ | refine n_seq ?_ | refine n_blk ?_ | refine n_nil ?_ | refine s_exit ?_ | refine e_seq ?_ | refine e_lp ?_ | refine e_blk ?_ | refine e_blk' rfl ?_
    | (refine o_v hY (v_wr rfl ?_) rfl ?_; · omega) | refine o_v hY (v_pv rfl) rfl ?_ | refine g_y rfl rfl ?_ | refine g_n hY rfl rfl rfl ?_ | refine g_u hY rfl rfl rfl ?_ | (refine g_s rfl rfl ?_ ?_ <;> fail_if_success (intro h; cases h; done)) | refine c_t rfl ?_ | refine c_f rfl ?_ | refine c_s rfl ?_ ?_
    | (intro h; (try simp only [decide_eq_true_eq, decide_eq_false_iff_not, Bool.not_eq_true', Bool.not_eq_false', beq_iff_eq, bne_iff_ne, beq_eq_false_iff_ne, bne_eq_false_iff_eq, ne_eq, toListI] at h); (try simp only [toListC] at h))
    | refine o_a hY (a_box rfl rfl rfl ?_) | refine o_a hY (a_alz rfl rfl rfl rfl rfl ?_) | refine o_a hY (a_als rfl rfl rfl ?_) | refine o_a hY (a_st rfl rfl rfl (.d rfl) rfl rfl ?_)
    | refine r_of (r_d rfl ?_) | refine r_of (r_c rfl rfl ?_) | refine r_of (r_2 rfl rfl ?_) | refine r_of (r_4 rfl rfl rfl rfl ?_)
    | refine o_a hY (a_call hn (.cons (.d rfl) .nil) rfl ?_))
    · exfalso; omega
    · exact isR_b h4
end Go.Proofs.YtmmdgciefehbcaaGreatDoor.Ax
