/- Contracts of functions that the claim reaches, over data without addresses, and what follows of them (text P19). No conditions beside those that each theorem names. -/
import Derived.Test.YtmmdgciefehbcaaGreatDoorP18
set_option linter.unusedVariables false
set_option linter.unusedSimpArgs false
namespace Go.Proofs.YtmmdgciefehbcaaGreatDoor.Ax
/-- The closure's objects: what kind, and what was put so far. -/
def Fs (k : Int) (acc : List ByteArray) : List Ob := [.var (.d (.i .i64 k)), .var (.rw (.f 2) (strs acc).length), .row 9 1 (strs acc)]
def stepS (k : Int) (x : Sm) : List ByteArray := if kS x = k then [sS x] else []
def stepE (k : Int) : Ex → List ByteArray
  | .mk kk _ s _ => if kk = k then [s] else []
theorem Fs_is {v : T} {F : List Ob} {k : Int} {a b : List ByteArray} (h : a = b) : Fs k a = Fs k b := by rw [h]
theorem tellS_c (k : Int) (x : Sm) (acc : List ByteArray) (hb : acc.length ≤ 8388608) : AC Tryz.prog 91 [.d (encS x), .pt (.f 0) 0, .pt (.f 1) 0] (Fs k acc) (fun v F => F = Fs k (acc ++ stepS k x) ∧ v = .un) := by
  unfold Fs
  generalize hr : strs (acc ++ stepS k x) = res
  (refine AC_fn hY Tryz.func91 rfl Tryz.ntmps91 Tryz.results91 rfl (eq_true (by simp)) ?_; simp only [enumT])
  repeat' (first
    | refine s_seq ?_ | refine s_block ?_ | refine s_reg ?_ | refine s_skip ?_ | refine s_ret ?_ | refine s_end ?_ | refine n_seq ?_ | refine n_blk ?_ | refine n_nil ?_ | refine s_exit ?_ | refine e_seq ?_ | refine e_lp ?_ | refine e_blk ?_ | refine e_blk' rfl ?_
    | (refine o_v hY (v_wr rfl ?_) rfl ?_; · omega) | refine o_v hY (v_pv rfl) rfl ?_ | refine g_y rfl rfl ?_ | refine g_n hY rfl rfl rfl ?_ | refine g_u hY rfl rfl rfl ?_ | (refine g_s rfl rfl ?_ ?_ <;> fail_if_success (intro h; cases h; done)) | refine c_t rfl ?_ | refine c_f rfl ?_ | refine c_s rfl ?_ ?_
    | (intro h; (try simp only [decide_eq_true_eq, decide_eq_false_iff_not, Bool.not_eq_true', Bool.not_eq_false', beq_iff_eq, bne_iff_ne, beq_eq_false_iff_ne, bne_eq_false_iff_eq, ne_eq, toListI] at h); (try simp only [toListC] at h))
    | refine o_a hY (a_box rfl rfl rfl ?_) | refine o_a hY (a_alz rfl rfl rfl rfl rfl ?_) | refine o_a hY (a_als rfl rfl rfl ?_) | refine o_a hY (a_st rfl rfl rfl (.d rfl) rfl rfl ?_)
    | refine r_of (r_d rfl ?_) | refine r_of (r_c rfl rfl ?_) | refine r_of (r_2 rfl rfl ?_) | refine r_of (r_4 rfl rfl rfl rfl ?_)
    | refine o_v hY (v_ldb rfl rfl rfl (sub_kS _)) rfl ?_ | refine o_v hY (v_ldb rfl rfl rfl (sub_sS _)) rfl ?_
    | refine o_a hY (a_sl rfl rfl (.cons (.d rfl) .nil) (by simp [allSz, D.size]) rfl rfl rfl rfl rfl rfl ?_)
    | (refine o_a hY (a_ap' (strs_one _ _) rfl rfl rfl rfl (.w rfl rfl rfl) rfl (by simp [allSz, D.size]) rfl rfl rfl ?_ ?_)
       · (simp only [strs_len, List.length_append, List.length_cons, List.length_nil]; omega))
    | refine o_a hY (a_sw rfl rfl rfl rfl rfl rfl rfl ?_))
  · exact r_on (r_0 ⟨by rw [← hr, stepS, if_pos h]; rfl, rfl⟩)
  · exact r_on (r_0 ⟨by rw [← hr, stepS, if_neg h, List.append_nil], rfl⟩)
theorem tellE_c (k : Int) (x : Ex) (acc : List ByteArray) (hb : acc.length ≤ 8388608) : AC Tryz.prog 89 [.d (encE x), .pt (.f 0) 0, .pt (.f 1) 0] (Fs k acc) (fun v F => F = Fs k (acc ++ stepE k x) ∧ v = .un) := by
  unfold Fs
  generalize hr : strs (acc ++ stepE k x) = res
  obtain ⟨kk, q, s, l⟩ := x
  unfold encE
  (refine AC_fn hY Tryz.func89 rfl Tryz.ntmps89 Tryz.results89 rfl (eq_true (by simp)) ?_; simp only [enumT])
  repeat' (first
    | refine s_seq ?_ | refine s_block ?_ | refine s_reg ?_ | refine s_skip ?_ | refine s_ret ?_ | refine s_end ?_ | refine n_seq ?_ | refine n_blk ?_ | refine n_nil ?_ | refine s_exit ?_ | refine e_seq ?_ | refine e_lp ?_ | refine e_blk ?_ | refine e_blk' rfl ?_
    | (refine o_v hY (v_wr rfl ?_) rfl ?_; · omega) | refine o_v hY (v_pv rfl) rfl ?_ | refine g_y rfl rfl ?_ | refine g_n hY rfl rfl rfl ?_ | refine g_u hY rfl rfl rfl ?_ | (refine g_s rfl rfl ?_ ?_ <;> fail_if_success (intro h; cases h; done)) | refine c_t rfl ?_ | refine c_f rfl ?_ | refine c_s rfl ?_ ?_
    | (intro h; (try simp only [decide_eq_true_eq, decide_eq_false_iff_not, Bool.not_eq_true', Bool.not_eq_false', beq_iff_eq, bne_iff_ne, beq_eq_false_iff_ne, bne_eq_false_iff_eq, ne_eq, toListI] at h); (try simp only [toListC] at h))
    | refine o_a hY (a_box rfl rfl rfl ?_) | refine o_a hY (a_alz rfl rfl rfl rfl rfl ?_) | refine o_a hY (a_als rfl rfl rfl ?_) | refine o_a hY (a_st rfl rfl rfl (.d rfl) rfl rfl ?_)
    | refine r_of (r_d rfl ?_) | refine r_of (r_c rfl rfl ?_) | refine r_of (r_2 rfl rfl ?_) | refine r_of (r_4 rfl rfl rfl rfl ?_)
    | refine o_a hY (a_sl rfl rfl (.cons (.d rfl) .nil) (by simp [allSz, D.size]) rfl rfl rfl rfl rfl rfl ?_)
    | (refine o_a hY (a_ap' (strs_one _ _) rfl rfl rfl rfl (.w rfl rfl rfl) rfl (by simp [allSz, D.size]) rfl rfl rfl ?_ ?_)
       · (simp only [strs_len, List.length_append, List.length_cons, List.length_nil]; omega))
    | refine o_a hY (a_sw rfl rfl rfl rfl rfl rfl rfl ?_))
  · exact r_on (r_0 ⟨by rw [← hr, stepE, if_pos h]; rfl, rfl⟩)
  · exact r_on (r_0 ⟨by rw [← hr, stepE, if_neg h, List.append_nil], rfl⟩)

mutual
def allS (st : Sm → List ByteArray) : Sm → List ByteArray
  | .mk k s a e lo hi b => st (.mk k s a e lo hi b) ++ allL st b
def allL (st : Sm → List ByteArray) : List Sm → List ByteArray
  | [] => []
  | x :: r => allS st x ++ allL st r
end
theorem allS_eq (st : Sm → List ByteArray) (x : Sm) : allS st x = st x ++ allL st (bodyS x) := by cases x; rfl
mutual
def postE (st : Ex → List ByteArray) : Ex → List ByteArray
  | .mk k n s l => postEs st l ++ st (.mk k n s l)
def postEs (st : Ex → List ByteArray) : List Ex → List ByteArray
  | [] => []
  | x :: r => postE st x ++ postEs st r
end
def tellSOk (g : Nat) (k : Int) (st : Sm → List ByteArray) : Prop := ∀ x acc, szS x ≤ 1048576 → acc.length + (st x).length ≤ 8388608 → AC Tryz.prog g [.d (encS x), .pt (.f 0) 0, .pt (.f 1) 0] (Fs k acc) (fun v F => F = Fs k (acc ++ st x) ∧ v = .un)
def CeaS (g : Nat) (k : Int) (st : Sm → List ByteArray) (x : Sm) : Prop := szS x ≤ 1048576 → ∀ acc, acc.length + (allL st (bodyS x)).length ≤ 8388608 → AC Tryz.prog 86 [.d (.sl (encSs (bodyS x))), .fn g [.f 0, .f 1]] (Fs k acc) (fun v F => F = Fs k (acc ++ allL st (bodyS x)) ∧ v = .un)
theorem eachStmtL_c (g : Nat) (k : Int) (st : Sm → List ByteArray) (ht : tellSOk g k st) (l : List Sm) (ih : ∀ x ∈ l, CeaS g k st x) (hz : l.length + sumS l ≤ 1048576) (acc : List ByteArray) (hb : acc.length + (allL st l).length ≤ 8388608) :
    AC Tryz.prog 86 [.d (.sl (encSs l)), .fn g [.f 0, .f 1]] (Fs k acc) (fun v F => F = Fs k (acc ++ allL st l) ∧ v = .un) := by
  have hlen := encSs_len l
  generalize hr : acc ++ allL st l = res
  (refine AC_fn hY Tryz.func86 rfl Tryz.ntmps86 Tryz.results86 rfl (eq_true (by simp)) ?_; simp only [enumT])
  repeat' (first
    | refine s_seq ?_ | refine s_block ?_ | refine s_reg ?_ | refine s_skip ?_ | refine s_ret ?_ | refine s_end ?_ | refine n_seq ?_ | refine n_blk ?_ | refine n_nil ?_ | refine s_exit ?_ | refine e_seq ?_ | refine e_lp ?_ | refine e_blk ?_ | refine e_blk' rfl ?_
    | (refine o_v hY (v_wr rfl ?_) rfl ?_; · omega) | refine o_v hY (v_pv rfl) rfl ?_ | refine g_y rfl rfl ?_ | refine g_n hY rfl rfl rfl ?_ | refine g_u hY rfl rfl rfl ?_ | (refine g_s rfl rfl ?_ ?_ <;> fail_if_success (intro h; cases h; done)) | refine c_t rfl ?_ | refine c_f rfl ?_ | refine c_s rfl ?_ ?_
    | (intro h; (try simp only [decide_eq_true_eq, decide_eq_false_iff_not, Bool.not_eq_true', Bool.not_eq_false', beq_iff_eq, bne_iff_ne, beq_eq_false_iff_ne, bne_eq_false_iff_eq, ne_eq, toListI] at h); (try simp only [toListC] at h))
    | refine o_a hY (a_box rfl rfl rfl ?_) | refine o_a hY (a_alz rfl rfl rfl rfl rfl ?_) | refine o_a hY (a_als rfl rfl rfl ?_) | refine o_a hY (a_st rfl rfl rfl (.d rfl) rfl rfl ?_)
    | refine r_of (r_d rfl ?_) | refine r_of (r_c rfl rfl ?_) | refine r_of (r_2 rfl rfl ?_) | refine r_of (r_4 rfl rfl rfl rfl ?_))
  refine s_loop (fun m τ => ∃ (j : Nat) (o : List ByteArray), j ≤ l.length ∧ m = l.length - j ∧ o.length + (allL st (l.drop j)).length ≤ 8388608 ∧ o ++ allL st (l.drop j) = res ∧ τ = ⟨[(1, .fn g [.f 0, .f 1]), (6, .d (.sl (encSs l))), (7, .d (.i .i64 (l.length : Int))), (8, .d (.i .i64 (j : Int)))], [], Fs k o⟩) l.length ⟨0, acc, Nat.zero_le _, rfl, hb, hr, rfl⟩ (Wk.of ⟨rfl, rfl, by rw [← hlen]; rfl, rfl, trivial⟩ trivial rfl) ?_
  rintro m τ ⟨j, o, hj, rfl, h3, h4, rfl⟩
  by_cases hlt : j < l.length
  · have hs := sumS_mem l l[j] (List.getElem_mem _)
    rw [List.drop_eq_getElem_cons hlt, allL, allS_eq] at h3 h4
    simp only [List.length_append] at h3
    have e1 := ht l[j] o (by omega) (by omega)
    have e2 := ih l[j] (List.getElem_mem _) (by omega) (o ++ st l[j]) (by simp only [List.length_append]; omega)
    repeat' (first
    | refine s_seq ?_ | refine s_block ?_ | refine s_reg ?_ | refine s_skip ?_ | refine s_ret ?_ | refine s_end ?_ | refine n_seq ?_ | refine n_blk ?_ | refine n_nil ?_ | refine s_exit ?_ | refine e_seq ?_ | refine e_lp ?_ | refine e_blk ?_ | refine e_blk' rfl ?_
    | (refine o_v hY (v_wr rfl ?_) rfl ?_; · omega) | refine o_v hY (v_pv rfl) rfl ?_ | refine g_y rfl rfl ?_ | refine g_n hY rfl rfl rfl ?_ | refine g_u hY rfl rfl rfl ?_ | (refine g_s rfl rfl ?_ ?_ <;> fail_if_success (intro h; cases h; done)) | refine c_t rfl ?_ | refine c_f rfl ?_ | refine c_s rfl ?_ ?_
    | (intro h; (try simp only [decide_eq_true_eq, decide_eq_false_iff_not, Bool.not_eq_true', Bool.not_eq_false', beq_iff_eq, bne_iff_ne, beq_eq_false_iff_ne, bne_eq_false_iff_eq, ne_eq, toListI] at h); (try simp only [toListC] at h))
    | refine o_a hY (a_box rfl rfl rfl ?_) | refine o_a hY (a_alz rfl rfl rfl rfl rfl ?_) | refine o_a hY (a_als rfl rfl rfl ?_) | refine o_a hY (a_st rfl rfl rfl (.d rfl) rfl rfl ?_)
    | refine r_of (r_d rfl ?_) | refine r_of (r_c rfl rfl ?_) | refine r_of (r_2 rfl rfl ?_) | refine r_of (r_4 rfl rfl rfl rfl ?_)
    | (refine o_v hY (v_ia j rfl rfl (.d rfl) rfl rfl (encSs_get l j ?_) (size_encS _)) rfl ?_; · omega)
    | refine o_v hY (v_ldp rfl rfl (sub_encS _)) rfl ?_ | refine o_v hY (v_ldb rfl rfl rfl (sub_encS _)) rfl ?_ | refine o_v hY (v_ldb rfl rfl rfl (sub_body _)) rfl ?_
    | refine o_a hY (a_st rfl rfl rfl (.d rfl) (set_S _) (size_encS _) ?_)
    | (refine o_a hY (a_callV rfl e1 (.cons (.d rfl) .nil) rfl ?_)
       rintro _ _ ⟨rfl, rfl⟩)
    | (refine o_a hY (a_callF e2 (.cons (.d rfl) (.cons (.f rfl) .nil)) rfl ?_)
       rintro _ _ ⟨rfl, rfl⟩))
    · refine n_lp (l.length - (j+1)) ⟨j+1, o ++ st l[j] ++ allL st (bodyS l[j]), by omega, rfl, by simp only [List.length_append]; omega, by rw [← h4]; simp, rfl⟩ (by omega) (Wk.of ⟨rfl, rfl, rfl, rfl, trivial⟩ trivial rfl)
    · exfalso; omega
  · obtain rfl : j = l.length := by omega
    rw [List.drop_length] at h4
    repeat' (first
    | refine s_seq ?_ | refine s_block ?_ | refine s_reg ?_ | refine s_skip ?_ | refine s_ret ?_ | refine s_end ?_ | refine n_seq ?_ | refine n_blk ?_ | refine n_nil ?_ | refine s_exit ?_ | refine e_seq ?_ | refine e_lp ?_ | refine e_blk ?_ | refine e_blk' rfl ?_
    | (refine o_v hY (v_wr rfl ?_) rfl ?_; · omega) | refine o_v hY (v_pv rfl) rfl ?_ | refine g_y rfl rfl ?_ | refine g_n hY rfl rfl rfl ?_ | refine g_u hY rfl rfl rfl ?_ | (refine g_s rfl rfl ?_ ?_ <;> fail_if_success (intro h; cases h; done)) | refine c_t rfl ?_ | refine c_f rfl ?_ | refine c_s rfl ?_ ?_
    | (intro h; (try simp only [decide_eq_true_eq, decide_eq_false_iff_not, Bool.not_eq_true', Bool.not_eq_false', beq_iff_eq, bne_iff_ne, beq_eq_false_iff_ne, bne_eq_false_iff_eq, ne_eq, toListI] at h); (try simp only [toListC] at h))
    | refine o_a hY (a_box rfl rfl rfl ?_) | refine o_a hY (a_alz rfl rfl rfl rfl rfl ?_) | refine o_a hY (a_als rfl rfl rfl ?_) | refine o_a hY (a_st rfl rfl rfl (.d rfl) rfl rfl ?_)
    | refine r_of (r_d rfl ?_) | refine r_of (r_c rfl rfl ?_) | refine r_of (r_2 rfl rfl ?_) | refine r_of (r_4 rfl rfl rfl rfl ?_))
    · exfalso; omega
    · exact r_on (r_0 ⟨by rw [← h4]; simp [allL], rfl⟩)
theorem eachStmtS_c (g : Nat) (k : Int) (st : Sm → List ByteArray) (ht : tellSOk g k st) (x : Sm) : CeaS g k st x := by
  refine Sm.ind (fun kk s a e lo hi b ih => ?_) x
  intro hz acc hb
  have : b.length + sumS b ≤ szS (.mk kk s a e lo hi b) := szS_body (.mk kk s a e lo hi b)
  exact eachStmtL_c g k st ht b ih (by omega) acc hb
theorem eachStmt_c (g : Nat) (k : Int) (st : Sm → List ByteArray) (ht : tellSOk g k st) (l : List Sm) (hz : l.length + sumS l ≤ 1048576) (acc : List ByteArray) (hb : acc.length + (allL st l).length ≤ 8388608) :
    AC Tryz.prog 86 [.d (.sl (encSs l)), .fn g [.f 0, .f 1]] (Fs k acc) (fun v F => F = Fs k (acc ++ allL st l) ∧ v = .un) :=
  eachStmtL_c g k st ht l (fun x _ => eachStmtS_c g k st ht x) hz acc hb
end Go.Proofs.YtmmdgciefehbcaaGreatDoor.Ax
