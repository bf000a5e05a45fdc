/- Contracts of functions that the claim reaches, over data without addresses, and what follows of them (text P7). No conditions beside those that each theorem names. -/
import Derived.Test.YtmclamindmnigaaP6
set_option linter.unusedVariables false
set_option linter.unusedSimpArgs false
namespace Go.Proofs.Ytmclamindmnigaa.Ax
def bodyS : Sm → List Sm
  | .mk _ _ _ _ _ _ b => b
theorem sub_body (x : Sm) : (encS x).sub 18 1 false = some (.sl (encSs (bodyS x))) := by cases x; exact sub_S6
mutual
def nodS : Sm → Nat
  | .mk _ _ _ _ _ _ b => nodL b
def nodL : List Sm → Nat
  | [] => 0
  | x :: r => (1 + nodS x) + nodL r
end
mutual
theorem nodS_le : ∀ x : Sm, nodS x ≤ szS x
  | .mk k s a e lo hi b => by
    have := nodL_le b
    simp only [nodS, szS]; omega
theorem nodL_le : ∀ l : List Sm, nodL l ≤ l.length + sumS l
  | [] => by simp [nodL]
  | x :: r => by
    have := nodS_le x
    have := nodL_le r
    simp only [nodL, sumS, List.length_cons]; omega
end
theorem szS_body (x : Sm) : (bodyS x).length + sumS (bodyS x) ≤ szS x := by cases x; simp only [bodyS, szS]; omega
theorem nodL_take (l : List Sm) (j : Nat) (h : j < l.length) : nodL (l.take (j + 1)) = nodL (l.take j) + (1 + nodS l[j]) := by
  induction l generalizing j with
  | nil => simp at h
  | cons x r ih =>
    cases j with
    | zero => simp [nodL]
    | succ j =>
      simp only [List.take_succ_cons, nodL, List.getElem_cons_succ]
      rw [ih j (by simpa using h)]
      omega
theorem sumS_tk (l : List Sm) (j : Nat) : sumS (l.take j) ≤ sumS l := by
  induction l generalizing j with
  | nil => simp
  | cons x r ih => cases j with
    | zero => simp [sumS]
    | succ j => simp only [List.take_succ_cons, sumS]; have := ih j; omega
theorem set_S (x : Sm) : ZS.set 0 (encS x) = some (encS x) := by cases x; unfold encS; exact set_Sw
def CSizeS (x : Sm) : Prop := szS x ≤ 1048576 → AC Try.prog 19 [.d (.sl (encSs (bodyS x)))] [] (isR (.d (.i .i64 (nodS x))))
theorem specSizeL_c (l : List Sm) (ih : ∀ x ∈ l, CSizeS x) (hz : l.length + sumS l ≤ 1048576) : AC Try.prog 19 [.d (.sl (encSs l))] [] (isR (.d (.i .i64 (nodL l)))) := by
  have hlen := encSs_len l
  (refine AC_fn hY Try.func19 rfl Try.ntmps19 Try.results19 rfl (eq_true (by simp)) ?_; simp only [enumT])
  repeat' (first
    | refine s_seq ?_ | refine s_block ?_ | refine s_reg ?_ | refine s_skip ?_ | refine s_ret ?_ | refine s_end ?_ | refine n_seq ?_ | refine n_blk ?_ | refine n_nil ?_ | refine s_exit ?_ | refine e_seq ?_ | refine e_lp ?_ | refine e_blk ?_ | refine e_blk' rfl ?_
    | (refine o_v hY (v_wr rfl ?_) rfl ?_; · omega) | refine o_v hY (v_pv rfl) rfl ?_ | refine g_y rfl rfl ?_ | refine g_n hY rfl rfl rfl ?_ | refine g_u hY rfl rfl rfl ?_ | (refine g_s rfl rfl ?_ ?_ <;> fail_if_success (intro h; cases h; done)) | refine c_t rfl ?_ | refine c_f rfl ?_ | refine c_s rfl ?_ ?_
    | (intro h; (try simp only [decide_eq_true_eq, decide_eq_false_iff_not, Bool.not_eq_true', Bool.not_eq_false', beq_iff_eq, bne_iff_ne, beq_eq_false_iff_ne, bne_eq_false_iff_eq, ne_eq, toListI] at h); (try simp only [toListC] at h))
    | refine o_a hY (a_box rfl rfl rfl ?_) | refine o_a hY (a_alz rfl rfl rfl rfl rfl ?_) | refine o_a hY (a_als rfl rfl rfl ?_) | refine o_a hY (a_st rfl rfl rfl (.d rfl) rfl rfl ?_)
    | refine r_of (r_d rfl ?_) | refine r_of (r_c rfl rfl ?_) | refine r_of (r_2 rfl rfl ?_) | refine r_of (r_4 rfl rfl rfl rfl ?_))
  refine s_loop (fun m τ => ∃ (j : Nat), j ≤ l.length ∧ m = l.length - j ∧ τ = ⟨[(0, .d (.sl (encSs l))), (3, .d (.i .i64 (nodL (l.take j)))), (4, .d (.i .i64 (j : Int)))], [], []⟩) l.length ⟨0, Nat.zero_le _, rfl, rfl⟩ (Wk.of ⟨rfl, rfl, rfl, trivial⟩ trivial rfl) ?_
  rintro m τ ⟨j, hj, rfl, rfl⟩
  have hn := nodL_le (l.take j)
  have hn2 := sumS_tk l j
  rw [List.length_take, Nat.min_eq_left hj] at hn
  repeat' (first
    | refine s_seq ?_ | refine s_block ?_ | refine s_reg ?_ | refine s_skip ?_ | refine s_ret ?_ | refine s_end ?_ | refine n_seq ?_ | refine n_blk ?_ | refine n_nil ?_ | refine s_exit ?_ | refine e_seq ?_ | refine e_lp ?_ | refine e_blk ?_ | refine e_blk' rfl ?_
    | (refine o_v hY (v_wr rfl ?_) rfl ?_; · omega) | refine o_v hY (v_pv rfl) rfl ?_ | refine g_y rfl rfl ?_ | refine g_n hY rfl rfl rfl ?_ | refine g_u hY rfl rfl rfl ?_ | (refine g_s rfl rfl ?_ ?_ <;> fail_if_success (intro h; cases h; done)) | refine c_t rfl ?_ | refine c_f rfl ?_ | refine c_s rfl ?_ ?_
    | (intro h; (try simp only [decide_eq_true_eq, decide_eq_false_iff_not, Bool.not_eq_true', Bool.not_eq_false', beq_iff_eq, bne_iff_ne, beq_eq_false_iff_ne, bne_eq_false_iff_eq, ne_eq, toListI] at h); (try simp only [toListC] at h))
    | refine o_a hY (a_box rfl rfl rfl ?_) | refine o_a hY (a_alz rfl rfl rfl rfl rfl ?_) | refine o_a hY (a_als rfl rfl rfl ?_) | refine o_a hY (a_st rfl rfl rfl (.d rfl) rfl rfl ?_)
    | refine r_of (r_d rfl ?_) | refine r_of (r_c rfl rfl ?_) | refine r_of (r_2 rfl rfl ?_) | refine r_of (r_4 rfl rfl rfl rfl ?_)
    | (refine o_v hY (v_ia j rfl rfl (.d rfl) rfl rfl (encSs_get l j ?_) (size_encS _)) rfl ?_; · omega)
    | refine o_v hY (v_ldp rfl rfl (sub_body _)) rfl ?_
    | (refine o_a hY (a_call (ih l[j] (List.getElem_mem _) ?_) (.cons (.d rfl) .nil) rfl ?_)
       · (have := sumS_mem l l[j] (List.getElem_mem _); omega)
       have hb := nodS_le l[j]
       have hp := sumS_pre l j (by omega)))
  · refine n_lp (l.length - (j+1)) ⟨j+1, by omega, rfl, rfl⟩ (by omega) (Wk.of ⟨rfl, ?_, rfl, trivial⟩ trivial rfl)
    rw [nodL_take l j (by omega)]
    exact congrArg (fun z => T.d (.i .i64 z)) (show ((nodL (l.take j) : Int) + 1) + nodS l[j] = ((nodL (l.take j) + (1 + nodS l[j]) : Nat) : Int) by omega)
  · obtain rfl : j = l.length := by omega
    rw [List.take_length]
    exact isR_i rfl
theorem specSize_c (x : Sm) : CSizeS x := by
  refine Sm.ind (fun k s a e lo hi b ih => ?_) x
  intro hz
  have : b.length + sumS b ≤ szS (.mk k s a e lo hi b) := szS_body (.mk k s a e lo hi b)
  exact specSizeL_c b ih (by omega)
def CSizeI (x : Sm) : Prop := szS x ≤ 1048576 → AC Try.prog 18 [.d (.sl (encSs (bodyS x)))] [] (isR (.d (.i .i64 (nodS x))))
theorem implSizeL_c (l : List Sm) (ih : ∀ x ∈ l, CSizeI x) (hz : l.length + sumS l ≤ 1048576) : AC Try.prog 18 [.d (.sl (encSs l))] [] (isR (.d (.i .i64 (nodL l)))) := by
  have hlen := encSs_len l
  (refine AC_fn hY Try.func18 rfl Try.ntmps18 Try.results18 rfl (eq_true (by simp)) ?_; simp only [enumT])
  repeat' (first
    | refine s_seq ?_ | refine s_block ?_ | refine s_reg ?_ | refine s_skip ?_ | refine s_ret ?_ | refine s_end ?_ | refine n_seq ?_ | refine n_blk ?_ | refine n_nil ?_ | refine s_exit ?_ | refine e_seq ?_ | refine e_lp ?_ | refine e_blk ?_ | refine e_blk' rfl ?_
    | (refine o_v hY (v_wr rfl ?_) rfl ?_; · omega) | refine o_v hY (v_pv rfl) rfl ?_ | refine g_y rfl rfl ?_ | refine g_n hY rfl rfl rfl ?_ | refine g_u hY rfl rfl rfl ?_ | (refine g_s rfl rfl ?_ ?_ <;> fail_if_success (intro h; cases h; done)) | refine c_t rfl ?_ | refine c_f rfl ?_ | refine c_s rfl ?_ ?_
    | (intro h; (try simp only [decide_eq_true_eq, decide_eq_false_iff_not, Bool.not_eq_true', Bool.not_eq_false', beq_iff_eq, bne_iff_ne, beq_eq_false_iff_ne, bne_eq_false_iff_eq, ne_eq, toListI] at h); (try simp only [toListC] at h))
    | refine o_a hY (a_box rfl rfl rfl ?_) | refine o_a hY (a_alz rfl rfl rfl rfl rfl ?_) | refine o_a hY (a_als rfl rfl rfl ?_) | refine o_a hY (a_st rfl rfl rfl (.d rfl) rfl rfl ?_)
    | refine r_of (r_d rfl ?_) | refine r_of (r_c rfl rfl ?_) | refine r_of (r_2 rfl rfl ?_) | refine r_of (r_4 rfl rfl rfl rfl ?_))
  refine s_loop (fun m τ => ∃ (j : Nat), j ≤ l.length ∧ m = l.length - j ∧ τ = ⟨[(8, .d (.sl (encSs l))), (9, .d (.i .i64 ((encSs l).length : Int))), (3, .d (.i .i64 ((l.length - j : Nat) + nodL (l.take j)))), (10, .d (.i .i64 (j : Int)))], [], []⟩) l.length ⟨0, Nat.zero_le _, rfl, rfl⟩ (Wk.of ⟨rfl, rfl, by rw [hlen]; rfl, rfl, trivial⟩ trivial rfl) ?_
  rintro m τ ⟨j, hj, rfl, rfl⟩
  have hn := nodL_le (l.take j)
  have hn2 := sumS_tk l j
  rw [List.length_take, Nat.min_eq_left hj] at hn
  repeat' (first
    | refine s_seq ?_ | refine s_block ?_ | refine s_reg ?_ | refine s_skip ?_ | refine s_ret ?_ | refine s_end ?_ | refine n_seq ?_ | refine n_blk ?_ | refine n_nil ?_ | refine s_exit ?_ | refine e_seq ?_ | refine e_lp ?_ | refine e_blk ?_ | refine e_blk' rfl ?_
    | (refine o_v hY (v_wr rfl ?_) rfl ?_; · omega) | refine o_v hY (v_pv rfl) rfl ?_ | refine g_y rfl rfl ?_ | refine g_n hY rfl rfl rfl ?_ | refine g_u hY rfl rfl rfl ?_ | (refine g_s rfl rfl ?_ ?_ <;> fail_if_success (intro h; cases h; done)) | refine c_t rfl ?_ | refine c_f rfl ?_ | refine c_s rfl ?_ ?_
    | (intro h; (try simp only [decide_eq_true_eq, decide_eq_false_iff_not, Bool.not_eq_true', Bool.not_eq_false', beq_iff_eq, bne_iff_ne, beq_eq_false_iff_ne, bne_eq_false_iff_eq, ne_eq, toListI] at h); (try simp only [toListC] at h))
    | refine o_a hY (a_box rfl rfl rfl ?_) | refine o_a hY (a_alz rfl rfl rfl rfl rfl ?_) | refine o_a hY (a_als rfl rfl rfl ?_) | refine o_a hY (a_st rfl rfl rfl (.d rfl) rfl rfl ?_)
    | refine r_of (r_d rfl ?_) | refine r_of (r_c rfl rfl ?_) | refine r_of (r_2 rfl rfl ?_) | refine r_of (r_4 rfl rfl rfl rfl ?_)
    | (refine o_v hY (v_ia j rfl rfl (.d rfl) rfl rfl (encSs_get l j ?_) (size_encS _)) rfl ?_; · omega)
    | refine o_v hY (v_ldp rfl rfl (sub_encS _)) rfl ?_ | refine o_v hY (v_ldb rfl rfl rfl (sub_body _)) rfl ?_
    | refine o_a hY (a_st rfl rfl rfl (.d rfl) (set_S _) (size_encS _) ?_)
    | (refine o_a hY (a_call (ih l[j] (List.getElem_mem _) ?_) (.cons (.d rfl) .nil) rfl ?_)
       · (have := sumS_mem l l[j] (List.getElem_mem _); omega)
       have hb := nodS_le l[j]
       have hp := sumS_pre l j (by omega)))
  · refine n_lp (l.length - (j+1)) ⟨j+1, by omega, rfl, rfl⟩ (by omega) (Wk.of ⟨rfl, rfl, ?_, rfl, trivial⟩ trivial rfl)
    rw [nodL_take l j (by omega)]
    exact congrArg (fun z => T.d (.i .i64 z)) (show ((l.length - j : Nat) : Int) + (nodL (l.take j) : Int) + nodS l[j] = ((l.length - (j + 1) : Nat) : Int) + ((nodL (l.take j) + (1 + nodS l[j]) : Nat) : Int) by omega)
  · obtain rfl : j = l.length := by omega
    rw [List.take_length]
    exact isR_i (by omega)
theorem implSize_c (x : Sm) : CSizeI x := by
  refine Sm.ind (fun k s a e lo hi b ih => ?_) x
  intro hz
  have : b.length + sumS b ≤ szS (.mk k s a e lo hi b) := szS_body (.mk k s a e lo hi b)
  exact implSizeL_c b ih (by omega)
theorem fieldOk_c (x : Ex) (b : Bool) (hz : szE x ≤ 1048576) : AC Try.prog 44 [.d (encE x), .d (.b b)] [] (isR (.d (.b (if b = true then okE x else noE x)))) := by
  (refine AC_fn hY Try.func44 rfl Try.ntmps44 Try.results44 rfl (eq_true (by simp)) ?_; simp only [enumT])
  repeat' (first
    | refine s_seq ?_ | refine s_block ?_ | refine s_reg ?_ | refine s_skip ?_ | refine s_ret ?_ | refine s_end ?_ | refine n_seq ?_ | refine n_blk ?_ | refine n_nil ?_ | refine s_exit ?_ | refine e_seq ?_ | refine e_lp ?_ | refine e_blk ?_ | refine e_blk' rfl ?_
    | (refine o_v hY (v_wr rfl ?_) rfl ?_; · omega) | refine o_v hY (v_pv rfl) rfl ?_ | refine g_y rfl rfl ?_ | refine g_n hY rfl rfl rfl ?_ | refine g_u hY rfl rfl rfl ?_ | (refine g_s rfl rfl ?_ ?_ <;> fail_if_success (intro h; cases h; done)) | refine c_t rfl ?_ | refine c_f rfl ?_ | refine c_s rfl ?_ ?_
    | (intro h; (try simp only [decide_eq_true_eq, decide_eq_false_iff_not, Bool.not_eq_true', Bool.not_eq_false', beq_iff_eq, bne_iff_ne, beq_eq_false_iff_ne, bne_eq_false_iff_eq, ne_eq, toListI] at h); (try simp only [toListC] at h))
    | refine o_a hY (a_box rfl rfl rfl ?_) | refine o_a hY (a_alz rfl rfl rfl rfl rfl ?_) | refine o_a hY (a_als rfl rfl rfl ?_) | refine o_a hY (a_st rfl rfl rfl (.d rfl) rfl rfl ?_)
    | refine r_of (r_d rfl ?_) | refine r_of (r_c rfl rfl ?_) | refine r_of (r_2 rfl rfl ?_) | refine r_of (r_4 rfl rfl rfl rfl ?_)
    | refine o_v hY (v_ldb rfl rfl rfl (sub_encE _)) rfl ?_
    | refine o_a hY (a_call (implExpOk_c x hz) (.cons (.d rfl) .nil) rfl ?_)
    | refine o_a hY (a_call (isZero_c x) (.cons (.d rfl) .nil) rfl ?_))
  all_goals (refine isR_b' ?_; simp [*])
end Go.Proofs.Ytmclamindmnigaa.Ax
