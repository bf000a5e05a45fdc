/- Contracts of functions that the claim reaches, over data without addresses, and what follows of them (text P22). No conditions beside those that each theorem names. -/
import Derived.Test.YtmmdgciefehbcaaGreatDoorP21
set_option linter.unusedVariables false
set_option linter.unusedSimpArgs false
namespace Go.Proofs.YtmmdgciefehbcaaGreatDoor.Ax
mutual
theorem allS_raw (k : Int) : ∀ x : Sm, allS (stepS k) x = rawS k x
  | .mk kk s a e lo hi b => by rw [allS_eq, rawS_eq, show bodyS (.mk kk s a e lo hi b) = b from rfl, allL_raw k b]; rfl
theorem allL_raw (k : Int) : ∀ l : List Sm, allL (stepS k) l = rawL k l
  | [] => rfl
  | x :: r => by rw [allL, rawL, allS_raw k x, allL_raw k r]
end
theorem implNamesOf_c (k : Int) (l : List Sm) (hz : l.length + sumS l ≤ 1048576) (hb : (rawL k l).length ≤ 8388608) : AC Tryz.prog 65 [.d (.sl (encSs l)), .d (.i .i64 k)] [] (isR (.d (.sl (strs (ordN (rawL k l)))))) := by
  have e1 := eachStmt_c 91 k (stepS k) (fun x acc _ h => tellS_c k x acc (by omega)) l hz [] (by rw [allL_raw]; simpa using hb)
  rw [allL_raw, List.nil_append] at e1
  generalize rawL k l = acc at *
  (refine AC_fn hY Tryz.func65 rfl Tryz.ntmps65 Tryz.results65 rfl (eq_true (by simp)) ?_; simp only [enumT])
  repeat' (first
    | refine s_seq ?_ | refine s_block ?_ | refine s_reg ?_ | refine s_skip ?_ | refine s_ret ?_ | refine s_end ?_ | refine n_seq ?_ | refine n_blk ?_ | refine n_nil ?_ | refine s_exit ?_ | refine e_seq ?_ | refine e_lp ?_ | refine e_blk ?_ | refine e_blk' rfl ?_
    | (refine o_v hY (v_wr rfl ?_) rfl ?_; · omega) | refine o_v hY (v_pv rfl) rfl ?_ | refine g_y rfl rfl ?_ | refine g_n hY rfl rfl rfl ?_ | refine g_u hY rfl rfl rfl ?_ | (refine g_s rfl rfl ?_ ?_ <;> fail_if_success (intro h; cases h; done)) | refine c_t rfl ?_ | refine c_f rfl ?_ | refine c_s rfl ?_ ?_
    | (intro h; (try simp only [decide_eq_true_eq, decide_eq_false_iff_not, Bool.not_eq_true', Bool.not_eq_false', beq_iff_eq, bne_iff_ne, beq_eq_false_iff_ne, bne_eq_false_iff_eq, ne_eq, toListI] at h); (try simp only [toListC] at h))
    | refine o_a hY (a_box rfl rfl rfl ?_) | refine o_a hY (a_alz rfl rfl rfl rfl rfl ?_) | refine o_a hY (a_als rfl rfl rfl ?_) | refine o_a hY (a_st rfl rfl rfl (.d rfl) rfl rfl ?_)
    | refine r_of (r_d rfl ?_) | refine r_of (r_c rfl rfl ?_) | refine r_of (r_2 rfl rfl ?_) | refine r_of (r_4 rfl rfl rfl rfl ?_)
    | refine o_v hY (v_fn rfl) rfl ?_)
  refine So.wk ?_ (Wk.ghost (g := 100) (i := 5) 9 (sz := 1) rfl rfl (by decide))
  refine o_lend [3, 5, 100] [] e1 (.cons (.d rfl) (.cons (.f rfl) .nil)) ⟨rfl, rfl, rfl, trivial⟩ rfl ?_
  rintro _ _ ⟨rfl, rfl⟩
  refine ⟨rfl, ?_⟩
  repeat' (first
    | refine s_seq ?_ | refine s_block ?_ | refine s_reg ?_ | refine s_skip ?_ | refine s_ret ?_ | refine s_end ?_ | refine n_seq ?_ | refine n_blk ?_ | refine n_nil ?_ | refine s_exit ?_ | refine e_seq ?_ | refine e_lp ?_ | refine e_blk ?_ | refine e_blk' rfl ?_
    | (refine o_v hY (v_wr rfl ?_) rfl ?_; · omega) | refine o_v hY (v_pv rfl) rfl ?_ | refine g_y rfl rfl ?_ | refine g_n hY rfl rfl rfl ?_ | refine g_u hY rfl rfl rfl ?_ | (refine g_s rfl rfl ?_ ?_ <;> fail_if_success (intro h; cases h; done)) | refine c_t rfl ?_ | refine c_f rfl ?_ | refine c_s rfl ?_ ?_
    | (intro h; (try simp only [decide_eq_true_eq, decide_eq_false_iff_not, Bool.not_eq_true', Bool.not_eq_false', beq_iff_eq, bne_iff_ne, beq_eq_false_iff_ne, bne_eq_false_iff_eq, ne_eq, toListI] at h); (try simp only [toListC] at h))
    | refine o_a hY (a_box rfl rfl rfl ?_) | refine o_a hY (a_alz rfl rfl rfl rfl rfl ?_) | refine o_a hY (a_als rfl rfl rfl ?_) | refine o_a hY (a_st rfl rfl rfl (.d rfl) rfl rfl ?_)
    | refine r_of (r_d rfl ?_) | refine r_of (r_c rfl rfl ?_) | refine r_of (r_2 rfl rfl ?_) | refine r_of (r_4 rfl rfl rfl rfl ?_)
    | refine o_last ((ordN acc).map .string) ⟨_, Tryz.func90, rfl, rfl⟩ rfl rfl rfl rfl (fun _ _ => repL_strs' _) (strs_sz _) (fun w I v us h hr => ordered_c w I v us acc h hr (by omega)) ?_ rfl)
  exact isR_sl rfl
mutual
theorem post_perm (k : Int) : ∀ x : Ex, (postE (stepE k) x).Perm (preE k x)
  | .mk kk n s l => by
    rw [postE, preE]
    exact List.perm_append_comm.trans (List.Perm.append (List.Perm.refl _) (posts_perm k l))
theorem posts_perm (k : Int) : ∀ l : List Ex, (postEs (stepE k) l).Perm (preEs k l)
  | [] => List.Perm.refl _
  | x :: r => by
    rw [postEs, preEs]
    exact List.Perm.append (post_perm k x) (posts_perm k r)
end
mutual
theorem allS_ask (k : Int) : ∀ x : Sm, (allS (partsE (stepE k)) x).Perm (askS k x)
  | .mk kk s a e lo hi b => by
    rw [allS_eq, askS_eq, partsE, List.append_assoc, List.append_assoc, List.append_assoc]
    exact List.Perm.append (post_perm k _) (List.Perm.append (post_perm k _) (List.Perm.append (post_perm k _) (List.Perm.append (post_perm k _) (allL_ask k b))))
theorem allL_ask (k : Int) : ∀ l : List Sm, (allL (partsE (stepE k)) l).Perm (askL k l)
  | [] => List.Perm.refl _
  | x :: r => by
    rw [allL, askL]
    exact List.Perm.append (allS_ask k x) (allL_ask k r)
end
/-- What the program collects of expressions, in its order. -/
def askI (k : Int) (l : List Sm) : List ByteArray := allL (partsE (stepE k)) l
theorem implNamesAsked_c (k : Int) (l : List Sm) (hz : l.length + sumS l ≤ 1048576) (hb : (askI k l).length ≤ 8388608) : AC Tryz.prog 64 [.d (.sl (encSs l)), .d (.i .i64 k)] [] (isR (.d (.sl (strs (ordN (askI k l)))))) := by
  have e1 := eachStmt_c 87 k (partsE (stepE k)) (fun x acc hx h => tellP_c k x acc hx (by omega)) l hz [] (by rw [show allL (partsE (stepE k)) l = askI k l from rfl]; simpa using hb)
  rw [show allL (partsE (stepE k)) l = askI k l from rfl, List.nil_append] at e1
  generalize askI k l = acc at *
  (refine AC_fn hY Tryz.func64 rfl Tryz.ntmps64 Tryz.results64 rfl (eq_true (by simp)) ?_; simp only [enumT])
  repeat' (first
    | refine s_seq ?_ | refine s_block ?_ | refine s_reg ?_ | refine s_skip ?_ | refine s_ret ?_ | refine s_end ?_ | refine n_seq ?_ | refine n_blk ?_ | refine n_nil ?_ | refine s_exit ?_ | refine e_seq ?_ | refine e_lp ?_ | refine e_blk ?_ | refine e_blk' rfl ?_
    | (refine o_v hY (v_wr rfl ?_) rfl ?_; · omega) | refine o_v hY (v_pv rfl) rfl ?_ | refine g_y rfl rfl ?_ | refine g_n hY rfl rfl rfl ?_ | refine g_u hY rfl rfl rfl ?_ | (refine g_s rfl rfl ?_ ?_ <;> fail_if_success (intro h; cases h; done)) | refine c_t rfl ?_ | refine c_f rfl ?_ | refine c_s rfl ?_ ?_
    | (intro h; (try simp only [decide_eq_true_eq, decide_eq_false_iff_not, Bool.not_eq_true', Bool.not_eq_false', beq_iff_eq, bne_iff_ne, beq_eq_false_iff_ne, bne_eq_false_iff_eq, ne_eq, toListI] at h); (try simp only [toListC] at h))
    | refine o_a hY (a_box rfl rfl rfl ?_) | refine o_a hY (a_alz rfl rfl rfl rfl rfl ?_) | refine o_a hY (a_als rfl rfl rfl ?_) | refine o_a hY (a_st rfl rfl rfl (.d rfl) rfl rfl ?_)
    | refine r_of (r_d rfl ?_) | refine r_of (r_c rfl rfl ?_) | refine r_of (r_2 rfl rfl ?_) | refine r_of (r_4 rfl rfl rfl rfl ?_)
    | refine o_v hY (v_fn rfl) rfl ?_)
  refine So.wk ?_ (Wk.ghost (g := 100) (i := 5) 9 (sz := 1) rfl rfl (by decide))
  refine o_lend [3, 5, 100] [] e1 (.cons (.d rfl) (.cons (.f rfl) .nil)) ⟨rfl, rfl, rfl, trivial⟩ rfl ?_
  rintro _ _ ⟨rfl, rfl⟩
  refine ⟨rfl, ?_⟩
  repeat' (first
    | refine s_seq ?_ | refine s_block ?_ | refine s_reg ?_ | refine s_skip ?_ | refine s_ret ?_ | refine s_end ?_ | refine n_seq ?_ | refine n_blk ?_ | refine n_nil ?_ | refine s_exit ?_ | refine e_seq ?_ | refine e_lp ?_ | refine e_blk ?_ | refine e_blk' rfl ?_
    | (refine o_v hY (v_wr rfl ?_) rfl ?_; · omega) | refine o_v hY (v_pv rfl) rfl ?_ | refine g_y rfl rfl ?_ | refine g_n hY rfl rfl rfl ?_ | refine g_u hY rfl rfl rfl ?_ | (refine g_s rfl rfl ?_ ?_ <;> fail_if_success (intro h; cases h; done)) | refine c_t rfl ?_ | refine c_f rfl ?_ | refine c_s rfl ?_ ?_
    | (intro h; (try simp only [decide_eq_true_eq, decide_eq_false_iff_not, Bool.not_eq_true', Bool.not_eq_false', beq_iff_eq, bne_iff_ne, beq_eq_false_iff_ne, bne_eq_false_iff_eq, ne_eq, toListI] at h); (try simp only [toListC] at h))
    | refine o_a hY (a_box rfl rfl rfl ?_) | refine o_a hY (a_alz rfl rfl rfl rfl rfl ?_) | refine o_a hY (a_als rfl rfl rfl ?_) | refine o_a hY (a_st rfl rfl rfl (.d rfl) rfl rfl ?_)
    | refine r_of (r_d rfl ?_) | refine r_of (r_c rfl rfl ?_) | refine r_of (r_2 rfl rfl ?_) | refine r_of (r_4 rfl rfl rfl rfl ?_)
    | refine o_last ((ordN acc).map .string) ⟨_, Tryz.func90, rfl, rfl⟩ rfl rfl rfl rfl (fun _ _ => repL_strs' _) (strs_sz _) (fun w I v us h hr => ordered_c w I v us acc h hr (by omega)) ?_ rfl)
  exact isR_sl rfl
theorem implVarsOf_c (l : List Sm) (hz : l.length + sumS l ≤ 1048576) (hb : (rawL 1 l).length ≤ 8388608) : AC Tryz.prog 60 [.d (.sl (encSs l))] [] (isR (.d (.sl (strs (ordN (rawL 1 l)))))) := by
  (refine AC_fn hY Tryz.func60 rfl Tryz.ntmps60 Tryz.results60 rfl (eq_true (by simp)) ?_; simp only [enumT])
  repeat' (first
    | refine s_seq ?_ | refine s_block ?_ | refine s_reg ?_ | refine s_skip ?_ | refine s_ret ?_ | refine s_end ?_ | refine n_seq ?_ | refine n_blk ?_ | refine n_nil ?_ | refine s_exit ?_ | refine e_seq ?_ | refine e_lp ?_ | refine e_blk ?_ | refine e_blk' rfl ?_
    | (refine o_v hY (v_wr rfl ?_) rfl ?_; · omega) | refine o_v hY (v_pv rfl) rfl ?_ | refine g_y rfl rfl ?_ | refine g_n hY rfl rfl rfl ?_ | refine g_u hY rfl rfl rfl ?_ | (refine g_s rfl rfl ?_ ?_ <;> fail_if_success (intro h; cases h; done)) | refine c_t rfl ?_ | refine c_f rfl ?_ | refine c_s rfl ?_ ?_
    | (intro h; (try simp only [decide_eq_true_eq, decide_eq_false_iff_not, Bool.not_eq_true', Bool.not_eq_false', beq_iff_eq, bne_iff_ne, beq_eq_false_iff_ne, bne_eq_false_iff_eq, ne_eq, toListI] at h); (try simp only [toListC] at h))
    | refine o_a hY (a_box rfl rfl rfl ?_) | refine o_a hY (a_alz rfl rfl rfl rfl rfl ?_) | refine o_a hY (a_als rfl rfl rfl ?_) | refine o_a hY (a_st rfl rfl rfl (.d rfl) rfl rfl ?_)
    | refine r_of (r_d rfl ?_) | refine r_of (r_c rfl rfl ?_) | refine r_of (r_2 rfl rfl ?_) | refine r_of (r_4 rfl rfl rfl rfl ?_)
    | refine o_a hY (a_call (implNamesOf_c 1 l hz hb) (.cons (.d rfl) (.cons (.d rfl) .nil)) rfl ?_))
  exact isR_sl rfl
theorem implLoopVars_c (l : List Sm) (hz : l.length + sumS l ≤ 1048576) (hb : (rawL 3 l).length ≤ 8388608) : AC Tryz.prog 61 [.d (.sl (encSs l))] [] (isR (.d (.sl (strs (ordN (rawL 3 l)))))) := by
  (refine AC_fn hY Tryz.func61 rfl Tryz.ntmps61 Tryz.results61 rfl (eq_true (by simp)) ?_; simp only [enumT])
  repeat' (first
    | refine s_seq ?_ | refine s_block ?_ | refine s_reg ?_ | refine s_skip ?_ | refine s_ret ?_ | refine s_end ?_ | refine n_seq ?_ | refine n_blk ?_ | refine n_nil ?_ | refine s_exit ?_ | refine e_seq ?_ | refine e_lp ?_ | refine e_blk ?_ | refine e_blk' rfl ?_
    | (refine o_v hY (v_wr rfl ?_) rfl ?_; · omega) | refine o_v hY (v_pv rfl) rfl ?_ | refine g_y rfl rfl ?_ | refine g_n hY rfl rfl rfl ?_ | refine g_u hY rfl rfl rfl ?_ | (refine g_s rfl rfl ?_ ?_ <;> fail_if_success (intro h; cases h; done)) | refine c_t rfl ?_ | refine c_f rfl ?_ | refine c_s rfl ?_ ?_
    | (intro h; (try simp only [decide_eq_true_eq, decide_eq_false_iff_not, Bool.not_eq_true', Bool.not_eq_false', beq_iff_eq, bne_iff_ne, beq_eq_false_iff_ne, bne_eq_false_iff_eq, ne_eq, toListI] at h); (try simp only [toListC] at h))
    | refine o_a hY (a_box rfl rfl rfl ?_) | refine o_a hY (a_alz rfl rfl rfl rfl rfl ?_) | refine o_a hY (a_als rfl rfl rfl ?_) | refine o_a hY (a_st rfl rfl rfl (.d rfl) rfl rfl ?_)
    | refine r_of (r_d rfl ?_) | refine r_of (r_c rfl rfl ?_) | refine r_of (r_2 rfl rfl ?_) | refine r_of (r_4 rfl rfl rfl rfl ?_)
    | refine o_a hY (a_call (implNamesOf_c 3 l hz hb) (.cons (.d rfl) (.cons (.d rfl) .nil)) rfl ?_))
  exact isR_sl rfl
theorem implAsked_c (l : List Sm) (hz : l.length + sumS l ≤ 1048576) (hb : (askI 2 l).length ≤ 8388608) : AC Tryz.prog 67 [.d (.sl (encSs l))] [] (isR (.d (.sl (strs (ordN (askI 2 l)))))) := by
  (refine AC_fn hY Tryz.func67 rfl Tryz.ntmps67 Tryz.results67 rfl (eq_true (by simp)) ?_; simp only [enumT])
  repeat' (first
    | refine s_seq ?_ | refine s_block ?_ | refine s_reg ?_ | refine s_skip ?_ | refine s_ret ?_ | refine s_end ?_ | refine n_seq ?_ | refine n_blk ?_ | refine n_nil ?_ | refine s_exit ?_ | refine e_seq ?_ | refine e_lp ?_ | refine e_blk ?_ | refine e_blk' rfl ?_
    | (refine o_v hY (v_wr rfl ?_) rfl ?_; · omega) | refine o_v hY (v_pv rfl) rfl ?_ | refine g_y rfl rfl ?_ | refine g_n hY rfl rfl rfl ?_ | refine g_u hY rfl rfl rfl ?_ | (refine g_s rfl rfl ?_ ?_ <;> fail_if_success (intro h; cases h; done)) | refine c_t rfl ?_ | refine c_f rfl ?_ | refine c_s rfl ?_ ?_
    | (intro h; (try simp only [decide_eq_true_eq, decide_eq_false_iff_not, Bool.not_eq_true', Bool.not_eq_false', beq_iff_eq, bne_iff_ne, beq_eq_false_iff_ne, bne_eq_false_iff_eq, ne_eq, toListI] at h); (try simp only [toListC] at h))
    | refine o_a hY (a_box rfl rfl rfl ?_) | refine o_a hY (a_alz rfl rfl rfl rfl rfl ?_) | refine o_a hY (a_als rfl rfl rfl ?_) | refine o_a hY (a_st rfl rfl rfl (.d rfl) rfl rfl ?_)
    | refine r_of (r_d rfl ?_) | refine r_of (r_c rfl rfl ?_) | refine r_of (r_2 rfl rfl ?_) | refine r_of (r_4 rfl rfl rfl rfl ?_)
    | refine o_a hY (a_call (implNamesAsked_c 2 l hz hb) (.cons (.d rfl) (.cons (.d rfl) .nil)) rfl ?_))
  exact isR_sl rfl
/-- Of names: are all arrays, is any? -/
theorem areArrs_c (p : Pg) (a : List ByteArray) (ha : a.length ≤ 9223372036854775807) (hl : p.a.length ≤ 9223372036854775807) : AC Tryz.prog 63 [.d (encP p), .d (.sl (strs a))] [] (isR (.tu [.b (a.all (isA p)), .b (a.any (isA p))])) := by
  have hlen := strs_len a
  generalize hr : a.all (isA p) = res
  generalize hr2 : a.any (isA p) = res2
  (refine AC_fn hY Tryz.func63 rfl Tryz.ntmps63 Tryz.results63 rfl (eq_true (by simp)) ?_; simp only [enumT])
  repeat' (first
    | refine s_seq ?_ | refine s_block ?_ | refine s_reg ?_ | refine s_skip ?_ | refine s_ret ?_ | refine s_end ?_ | refine n_seq ?_ | refine n_blk ?_ | refine n_nil ?_ | refine s_exit ?_ | refine e_seq ?_ | refine e_lp ?_ | refine e_blk ?_ | refine e_blk' rfl ?_
    | (refine o_v hY (v_wr rfl ?_) rfl ?_; · omega) | refine o_v hY (v_pv rfl) rfl ?_ | refine g_y rfl rfl ?_ | refine g_n hY rfl rfl rfl ?_ | refine g_u hY rfl rfl rfl ?_ | (refine g_s rfl rfl ?_ ?_ <;> fail_if_success (intro h; cases h; done)) | refine c_t rfl ?_ | refine c_f rfl ?_ | refine c_s rfl ?_ ?_
    | (intro h; (try simp only [decide_eq_true_eq, decide_eq_false_iff_not, Bool.not_eq_true', Bool.not_eq_false', beq_iff_eq, bne_iff_ne, beq_eq_false_iff_ne, bne_eq_false_iff_eq, ne_eq, toListI] at h); (try simp only [toListC] at h))
    | refine o_a hY (a_box rfl rfl rfl ?_) | refine o_a hY (a_alz rfl rfl rfl rfl rfl ?_) | refine o_a hY (a_als rfl rfl rfl ?_) | refine o_a hY (a_st rfl rfl rfl (.d rfl) rfl rfl ?_)
    | refine r_of (r_d rfl ?_) | refine r_of (r_c rfl rfl ?_) | refine r_of (r_2 rfl rfl ?_) | refine r_of (r_4 rfl rfl rfl rfl ?_))
  refine s_loop (fun m τ => ∃ (j : Nat) (u v : Bool), j ≤ a.length ∧ m = a.length - j ∧ (u && (a.drop j).all (isA p)) = res ∧ (v || (a.drop j).any (isA p)) = res2 ∧ τ = ⟨[(2, .pt (.l 2) 0), (6, .d (.b u)), (7, .d (.b v)), (11, .d (.sl (strs a))), (12, .d (.i .i64 (a.length : Int))), (13, .d (.i .i64 (j : Int)))], [(2, .var (.d (encP p)))], []⟩) a.length ⟨0, true, false, Nat.zero_le _, rfl, by rw [List.drop_zero, Bool.true_and, hr], by rw [List.drop_zero, Bool.false_or, hr2], rfl⟩ (Wk.of ⟨rfl, rfl, rfl, rfl, by rw [← hlen]; rfl, rfl, trivial⟩ ⟨rfl, trivial⟩ rfl) ?_
  rintro m τ ⟨j, u, v, hj, rfl, h4, h5, rfl⟩
  by_cases hlt : j < a.length
  · rw [List.drop_eq_getElem_cons hlt] at h4 h5
    simp only [List.all_cons, List.any_cons] at h4 h5
    have hi : isA p a[j] = decide (atA p.a a[j] 0 ≥ 0) := by rw [Bool.eq_iff_iff, decide_eq_true_eq]; exact (atA_is p a[j]).symm
    have e1 := implArrAt_c p a[j] hl
    rw [hi] at h4 h5
    repeat' (first
    | refine s_seq ?_ | refine s_block ?_ | refine s_reg ?_ | refine s_skip ?_ | refine s_ret ?_ | refine s_end ?_ | refine n_seq ?_ | refine n_blk ?_ | refine n_nil ?_ | refine s_exit ?_ | refine e_seq ?_ | refine e_lp ?_ | refine e_blk ?_ | refine e_blk' rfl ?_
    | (refine o_v hY (v_wr rfl ?_) rfl ?_; · omega) | refine o_v hY (v_pv rfl) rfl ?_ | refine g_y rfl rfl ?_ | refine g_n hY rfl rfl rfl ?_ | refine g_u hY rfl rfl rfl ?_ | (refine g_s rfl rfl ?_ ?_ <;> fail_if_success (intro h; cases h; done)) | refine c_t rfl ?_ | refine c_f rfl ?_ | refine c_s rfl ?_ ?_
    | (intro h; (try simp only [decide_eq_true_eq, decide_eq_false_iff_not, Bool.not_eq_true', Bool.not_eq_false', beq_iff_eq, bne_iff_ne, beq_eq_false_iff_ne, bne_eq_false_iff_eq, ne_eq, toListI] at h); (try simp only [toListC] at h))
    | refine o_a hY (a_box rfl rfl rfl ?_) | refine o_a hY (a_alz rfl rfl rfl rfl rfl ?_) | refine o_a hY (a_als rfl rfl rfl ?_) | refine o_a hY (a_st rfl rfl rfl (.d rfl) rfl rfl ?_)
    | refine r_of (r_d rfl ?_) | refine r_of (r_c rfl rfl ?_) | refine r_of (r_2 rfl rfl ?_) | refine r_of (r_4 rfl rfl rfl rfl ?_)
    | (refine o_v hY (v_ia j rfl rfl (.d rfl) rfl rfl (strs_get a j ?_) rfl) rfl ?_; · omega)
    | refine o_a hY (a_call e1 (.cons (.d rfl) (.cons (.d rfl) .nil)) rfl ?_))
    · exact n_lp (a.length - (j+1)) ⟨j+1, decide (atA p.a a[j] 0 ≥ 0), true, by omega, rfl, by rw [← h4, ‹u = true›]; simp, by rw [← h5, ‹v = true›]; simp, rfl⟩ (by omega) (Wk.of ⟨rfl, rfl, rfl, rfl, rfl, rfl, trivial⟩ ⟨rfl, trivial⟩ rfl)
    · exact n_lp (a.length - (j+1)) ⟨j+1, decide (atA p.a a[j] 0 ≥ 0), decide (atA p.a a[j] 0 ≥ 0), by omega, rfl, by rw [← h4, ‹u = true›]; simp, by rw [← h5, ‹v = false›]; simp, rfl⟩ (by omega) (Wk.of ⟨rfl, rfl, rfl, rfl, rfl, rfl, trivial⟩ ⟨rfl, trivial⟩ rfl)
    · exact n_lp (a.length - (j+1)) ⟨j+1, false, true, by omega, rfl, by rw [← h4, ‹u = false›]; simp, by rw [← h5, ‹v = true›]; simp, rfl⟩ (by omega) (Wk.of ⟨rfl, rfl, rfl, rfl, rfl, rfl, trivial⟩ ⟨rfl, trivial⟩ rfl)
    · exact n_lp (a.length - (j+1)) ⟨j+1, false, decide (atA p.a a[j] 0 ≥ 0), by omega, rfl, by rw [← h4, ‹u = false›]; simp, by rw [← h5, ‹v = false›]; simp, rfl⟩ (by omega) (Wk.of ⟨rfl, rfl, rfl, rfl, rfl, rfl, trivial⟩ ⟨rfl, trivial⟩ rfl)
    all_goals (exfalso; omega)
  · obtain rfl : j = a.length := by omega
    rw [List.drop_length] at h4 h5
    repeat' (first
    | refine s_seq ?_ | refine s_block ?_ | refine s_reg ?_ | refine s_skip ?_ | refine s_ret ?_ | refine s_end ?_ | refine n_seq ?_ | refine n_blk ?_ | refine n_nil ?_ | refine s_exit ?_ | refine e_seq ?_ | refine e_lp ?_ | refine e_blk ?_ | refine e_blk' rfl ?_
    | (refine o_v hY (v_wr rfl ?_) rfl ?_; · omega) | refine o_v hY (v_pv rfl) rfl ?_ | refine g_y rfl rfl ?_ | refine g_n hY rfl rfl rfl ?_ | refine g_u hY rfl rfl rfl ?_ | (refine g_s rfl rfl ?_ ?_ <;> fail_if_success (intro h; cases h; done)) | refine c_t rfl ?_ | refine c_f rfl ?_ | refine c_s rfl ?_ ?_
    | (intro h; (try simp only [decide_eq_true_eq, decide_eq_false_iff_not, Bool.not_eq_true', Bool.not_eq_false', beq_iff_eq, bne_iff_ne, beq_eq_false_iff_ne, bne_eq_false_iff_eq, ne_eq, toListI] at h); (try simp only [toListC] at h))
    | refine o_a hY (a_box rfl rfl rfl ?_) | refine o_a hY (a_alz rfl rfl rfl rfl rfl ?_) | refine o_a hY (a_als rfl rfl rfl ?_) | refine o_a hY (a_st rfl rfl rfl (.d rfl) rfl rfl ?_)
    | refine r_of (r_d rfl ?_) | refine r_of (r_c rfl rfl ?_) | refine r_of (r_2 rfl rfl ?_) | refine r_of (r_4 rfl rfl rfl rfl ?_))
    · exfalso; omega
    · refine ⟨rfl, ?_⟩
      rw [← h4, ← h5]; simp
end Go.Proofs.YtmmdgciefehbcaaGreatDoor.Ax
