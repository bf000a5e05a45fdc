/- Contracts of functions that the claim reaches, over data without addresses, and what follows of them (text P2). No conditions beside those that each theorem names. -/
import Derived.Test.YtmmdgciefehbcaaGreatDoorP1
set_option linter.unusedVariables false
set_option linter.unusedSimpArgs false
namespace Go.Proofs.YtmmdgciefehbcaaGreatDoor.Ax
def fill (xs : List D) (z : D) (j : Nat) : List D := xs.take j ++ List.replicate (xs.length - j) z
theorem fill_zero (xs : List D) (z : D) : fill xs z 0 = List.replicate xs.length z := by simp [fill]
theorem fill_len (xs : List D) (z : D) (j : Nat) (h : j ≤ xs.length) : (fill xs z j).length = xs.length := by simp [fill]; omega
theorem fill_all (xs : List D) (z : D) : fill xs z xs.length = xs := by simp [fill]
theorem fill_set (xs : List D) (z : D) (j : Nat) (v : D) (h : xs[j]? = some v) : (fill xs z j).set j v = fill xs z (j + 1) := by
  obtain ⟨hj, hv⟩ := List.getElem?_eq_some_iff.1 h
  apply List.ext_getElem?
  intro i
  rw [List.getElem?_set]
  simp only [fill, List.getElem?_append, List.length_take, List.length_append, List.length_replicate, List.getElem?_replicate, List.getElem?_take]
  by_cases hij : j = i
  · subst hij
    rw [if_pos rfl, if_pos (by omega), if_pos (by omega), if_pos (by omega)]; exact h.symm
  · rw [if_neg hij]
    (repeat' split) <;> first | rfl | omega
theorem ldq_b {y : Ty} {L : List (Nat × Ob)} {F : List Ob} {tt : TypeId} {kk : Key} {off : Nat} {rr : Yr} {z x : D} (hk : obq L F kk = some (.var (.d z))) (hr : y.Y tt = some rr) (hs : z.sub off rr.sz rr.ky.agg = some x) : ldq y L F tt (.pt kk off) = some (.d x) := by
  simp only [ldq, hk, hr, hs]
abbrev ZE : D := .ag [.i .i64 0, .i .i64 0, .s ⟨#[]⟩, .sl []]
abbrev ZS : D := .ag [.i .i64 0, .s ⟨#[]⟩, ZE, ZE, ZE, ZE, .sl []]
abbrev ZA : D := .ag [.s ⟨#[]⟩, .i .i64 0]
section
variable {k : Int} {s : ByteArray} {a e lo hi : Ex} {b : List D}
theorem set_S2 : (D.ag [.i .i64 k, .s s, ZE, ZE, ZE, ZE, .sl b]).set 2 (encE a) = some (.ag [.i .i64 k, .s s, encE a, ZE, ZE, ZE, .sl b]) := by simp [D.set, setL, D.size, sizes, size_encE, encE_isAg]
theorem set_S3 : (D.ag [.i .i64 k, .s s, encE a, ZE, ZE, ZE, .sl b]).set 6 (encE e) = some (.ag [.i .i64 k, .s s, encE a, encE e, ZE, ZE, .sl b]) := by simp [D.set, setL, D.size, sizes, size_encE, encE_isAg]
theorem set_S4 : (D.ag [.i .i64 k, .s s, encE a, encE e, ZE, ZE, .sl b]).set 10 (encE lo) = some (.ag [.i .i64 k, .s s, encE a, encE e, encE lo, ZE, .sl b]) := by simp [D.set, setL, D.size, sizes, size_encE, encE_isAg]
theorem set_S5 : (D.ag [.i .i64 k, .s s, encE a, encE e, encE lo, ZE, .sl b]).set 14 (encE hi) = some (.ag [.i .i64 k, .s s, encE a, encE e, encE lo, encE hi, .sl b]) := by simp [D.set, setL, D.size, sizes, size_encE, encE_isAg]
theorem set_S6 {c : List D} : (D.ag [.i .i64 k, .s s, encE a, encE e, encE lo, encE hi, .sl b]).set 18 (.sl c) = some (.ag [.i .i64 k, .s s, encE a, encE e, encE lo, encE hi, .sl c]) := by simp [D.set, setL, D.size, sizes, size_encE, D.isAg]
theorem set_Sw : ZS.set 0 (.ag [.i .i64 k, .s s, encE a, encE e, encE lo, encE hi, .sl b]) = some (.ag [.i .i64 k, .s s, encE a, encE e, encE lo, encE hi, .sl b]) := by simp [D.set, D.isAg, D.size, sizes, size_encE]
theorem sub_Sw : (D.ag [.i .i64 k, .s s, encE a, encE e, encE lo, encE hi, .sl b]).sub 0 19 true = some (.ag [.i .i64 k, .s s, encE a, encE e, encE lo, encE hi, .sl b]) := dsub_ag (by simp [D.size, sizes, size_encE])
theorem size_Sw : (D.ag [.i .i64 k, .s s, encE a, encE e, encE lo, encE hi, .sl b]).size = 19 := by simp [D.size, sizes, size_encE]
end

def CtoE (x : Ex) : Prop := szE x ≤ 1048576 → AC Tryz.prog 56 [.d (encE x)] [] (isR (.d (encE x)))
theorem sumE_mem (l : List Ex) (x : Ex) (h : x ∈ l) : szE x ≤ sumE l := by
  induction l with
  | nil => simp at h
  | cons y r ih => simp only [sumE]; rcases List.mem_cons.1 h with rfl | h; omega; have := ih h; omega
theorem toExpS_c (l : List Ex) (ih : ∀ x ∈ l, CtoE x) (hl : l.length + sumE l ≤ 1048576) :
    AC Tryz.prog 79 [.d (.sl (encEs l))] [] (isR (.d (.sl (encEs l)))) := by
  have hlen := encEs_len l
  (refine AC_fn hY Tryz.func79 rfl Tryz.ntmps79 Tryz.results79 rfl (eq_true (by simp)) ?_; simp only [enumT])
  repeat' (first
    | refine s_seq ?_ | refine s_block ?_ | refine s_reg ?_ | refine s_skip ?_ | refine s_ret ?_ | refine s_end ?_ | refine n_seq ?_ | refine n_blk ?_ | refine n_nil ?_ | refine s_exit ?_ | refine e_seq ?_ | refine e_lp ?_ | refine e_blk ?_ | refine e_blk' rfl ?_
    | (refine o_v hY (v_wr rfl ?_) rfl ?_; · omega) | refine o_v hY (v_pv rfl) rfl ?_ | refine g_y rfl rfl ?_ | refine g_n hY rfl rfl rfl ?_ | refine g_u hY rfl rfl rfl ?_ | (refine g_s rfl rfl ?_ ?_ <;> fail_if_success (intro h; cases h; done)) | refine c_t rfl ?_ | refine c_f rfl ?_ | refine c_s rfl ?_ ?_
    | (intro h; (try simp only [decide_eq_true_eq, decide_eq_false_iff_not, Bool.not_eq_true', Bool.not_eq_false', beq_iff_eq, bne_iff_ne, beq_eq_false_iff_ne, bne_eq_false_iff_eq, ne_eq, toListI] at h); (try simp only [toListC] at h))
    | refine o_a hY (a_box rfl rfl rfl ?_) | refine o_a hY (a_alz rfl rfl rfl rfl rfl ?_) | refine o_a hY (a_als rfl rfl rfl ?_) | refine o_a hY (a_st rfl rfl rfl (.d rfl) rfl rfl ?_)
    | refine r_of (r_d rfl ?_) | refine r_of (r_c rfl rfl ?_) | refine r_of (r_2 rfl rfl ?_) | refine r_of (r_4 rfl rfl rfl rfl ?_)
    | (refine o_a hY (a_mk rfl rfl rfl rfl rfl rfl rfl ?_ ?_)
       · (show (encEs l).length * 56 ≤ _; omega)))
  refine s_loop (fun m τ => ∃ (j : Nat), j ≤ l.length ∧ m = l.length - j ∧ τ = ⟨[(0, .d (.sl (encEs l))), (3, .rf (.l 7) (encEs l).length), (4, .d (.i .i64 (j : Int)))], [(7, .mr 72 4 (fill (encEs l) ZE j))], []⟩) l.length ⟨0, Nat.zero_le _, rfl, rfl⟩ (Wk.of ⟨rfl, rfl, rfl, trivial⟩ ⟨by rw [fill_zero]; rfl, trivial⟩ rfl) ?_
  rintro m τ ⟨j, hj, rfl, rfl⟩
  repeat' (first
    | refine s_seq ?_ | refine s_block ?_ | refine s_reg ?_ | refine s_skip ?_ | refine s_ret ?_ | refine s_end ?_ | refine n_seq ?_ | refine n_blk ?_ | refine n_nil ?_ | refine s_exit ?_ | refine e_seq ?_ | refine e_lp ?_ | refine e_blk ?_ | refine e_blk' rfl ?_
    | (refine o_v hY (v_wr rfl ?_) rfl ?_; · omega) | refine o_v hY (v_pv rfl) rfl ?_ | refine g_y rfl rfl ?_ | refine g_n hY rfl rfl rfl ?_ | refine g_u hY rfl rfl rfl ?_ | (refine g_s rfl rfl ?_ ?_ <;> fail_if_success (intro h; cases h; done)) | refine c_t rfl ?_ | refine c_f rfl ?_ | refine c_s rfl ?_ ?_
    | (intro h; (try simp only [decide_eq_true_eq, decide_eq_false_iff_not, Bool.not_eq_true', Bool.not_eq_false', beq_iff_eq, bne_iff_ne, beq_eq_false_iff_ne, bne_eq_false_iff_eq, ne_eq, toListI] at h); (try simp only [toListC] at h))
    | refine o_a hY (a_box rfl rfl rfl ?_) | refine o_a hY (a_alz rfl rfl rfl rfl rfl ?_) | refine o_a hY (a_als rfl rfl rfl ?_) | refine o_a hY (a_st rfl rfl rfl (.d rfl) rfl rfl ?_)
    | refine r_of (r_d rfl ?_) | refine r_of (r_c rfl rfl ?_) | refine r_of (r_2 rfl rfl ?_) | refine r_of (r_4 rfl rfl rfl rfl ?_)
    | (refine o_v hY (v_ia j rfl rfl (.d rfl) rfl rfl (encEs_get l j ?_) (size_encE _)) rfl ?_; · omega)
    | refine o_v hY (v_ldp rfl rfl (sub_encE _)) rfl ?_
    | refine o_a hY (a_call (ih l[j] (List.getElem_mem _) (by have := sumE_mem l l[j] (List.getElem_mem _); omega)) (.cons (.d rfl) .nil) rfl ?_)
    | (refine o_v hY (v_im j rfl rfl rfl rfl rfl ?_) rfl ?_; · omega)
    | (refine o_a hY (a_sm rfl rfl rfl (.d rfl) rfl (size_encE _) ?_ ?_); · (rw [fill_len _ _ _ (by omega)]; omega))
    | (refine r_of (r_m rfl rfl ?_ ?_); · (rw [fill_len _ _ _ (by omega)])))
  · refine n_lp (l.length - (j+1)) ⟨j+1, by omega, rfl, rfl⟩ (by omega) (Wk.of ⟨rfl, rfl, rfl, trivial⟩ ⟨by rw [← fill_set _ _ _ _ (encEs_get l j (by omega))]; rfl, trivial⟩ rfl)
  · obtain rfl : j = l.length := by omega
    rw [← hlen, fill_all]; exact ⟨rfl, rfl⟩
theorem toExp_c (x : Ex) : CtoE x := by
  refine Ex.ind (fun k n s l ih => ?_) x
  intro hz
  unfold encE
  simp only [szE] at hz
  (refine AC_fn hY Tryz.func56 rfl Tryz.ntmps56 Tryz.results56 rfl (eq_true (by simp)) ?_; simp only [enumT])
  repeat' (first
    | refine s_seq ?_ | refine s_block ?_ | refine s_reg ?_ | refine s_skip ?_ | refine s_ret ?_ | refine s_end ?_ | refine n_seq ?_ | refine n_blk ?_ | refine n_nil ?_ | refine s_exit ?_ | refine e_seq ?_ | refine e_lp ?_ | refine e_blk ?_ | refine e_blk' rfl ?_
    | (refine o_v hY (v_wr rfl ?_) rfl ?_; · omega) | refine o_v hY (v_pv rfl) rfl ?_ | refine g_y rfl rfl ?_ | refine g_n hY rfl rfl rfl ?_ | refine g_u hY rfl rfl rfl ?_ | (refine g_s rfl rfl ?_ ?_ <;> fail_if_success (intro h; cases h; done)) | refine c_t rfl ?_ | refine c_f rfl ?_ | refine c_s rfl ?_ ?_
    | (intro h; (try simp only [decide_eq_true_eq, decide_eq_false_iff_not, Bool.not_eq_true', Bool.not_eq_false', beq_iff_eq, bne_iff_ne, beq_eq_false_iff_ne, bne_eq_false_iff_eq, ne_eq, toListI] at h); (try simp only [toListC] at h))
    | refine o_a hY (a_box rfl rfl rfl ?_) | refine o_a hY (a_alz rfl rfl rfl rfl rfl ?_) | refine o_a hY (a_als rfl rfl rfl ?_) | refine o_a hY (a_st rfl rfl rfl (.d rfl) rfl rfl ?_)
    | refine r_of (r_d rfl ?_) | refine r_of (r_c rfl rfl ?_) | refine r_of (r_2 rfl rfl ?_) | refine r_of (r_4 rfl rfl rfl rfl ?_)
    | refine o_a hY (a_call (toExpS_c l ih (by omega)) (.cons (.d rfl) .nil) rfl ?_))
  exact ⟨rfl, rfl⟩

def CtoS (x : Sm) : Prop := szS x ≤ 1048576 → AC Tryz.prog 36 [.d (encS x)] [] (isR (.d (encS x)))
theorem sumS_mem (l : List Sm) (x : Sm) (h : x ∈ l) : szS x ≤ sumS l := by
  induction l with
  | nil => simp at h
  | cons y r ih => simp only [sumS]; rcases List.mem_cons.1 h with rfl | h; omega; have := ih h; omega
theorem toStmtS_c (l : List Sm) (ih : ∀ x ∈ l, CtoS x) (hl : l.length + sumS l ≤ 1048576) :
    AC Tryz.prog 15 [.d (.sl (encSs l))] [] (isR (.d (.sl (encSs l)))) := by
  have hlen := encSs_len l
  (refine AC_fn hY Tryz.func15 rfl Tryz.ntmps15 Tryz.results15 rfl (eq_true (by simp)) ?_; simp only [enumT])
  repeat' (first
    | refine s_seq ?_ | refine s_block ?_ | refine s_reg ?_ | refine s_skip ?_ | refine s_ret ?_ | refine s_end ?_ | refine n_seq ?_ | refine n_blk ?_ | refine n_nil ?_ | refine s_exit ?_ | refine e_seq ?_ | refine e_lp ?_ | refine e_blk ?_ | refine e_blk' rfl ?_
    | (refine o_v hY (v_wr rfl ?_) rfl ?_; · omega) | refine o_v hY (v_pv rfl) rfl ?_ | refine g_y rfl rfl ?_ | refine g_n hY rfl rfl rfl ?_ | refine g_u hY rfl rfl rfl ?_ | (refine g_s rfl rfl ?_ ?_ <;> fail_if_success (intro h; cases h; done)) | refine c_t rfl ?_ | refine c_f rfl ?_ | refine c_s rfl ?_ ?_
    | (intro h; (try simp only [decide_eq_true_eq, decide_eq_false_iff_not, Bool.not_eq_true', Bool.not_eq_false', beq_iff_eq, bne_iff_ne, beq_eq_false_iff_ne, bne_eq_false_iff_eq, ne_eq, toListI] at h); (try simp only [toListC] at h))
    | refine o_a hY (a_box rfl rfl rfl ?_) | refine o_a hY (a_alz rfl rfl rfl rfl rfl ?_) | refine o_a hY (a_als rfl rfl rfl ?_) | refine o_a hY (a_st rfl rfl rfl (.d rfl) rfl rfl ?_)
    | refine r_of (r_d rfl ?_) | refine r_of (r_c rfl rfl ?_) | refine r_of (r_2 rfl rfl ?_) | refine r_of (r_4 rfl rfl rfl rfl ?_)
    | (refine o_a hY (a_mk rfl rfl rfl rfl rfl rfl rfl ?_ ?_)
       · (show (encSs l).length * 272 ≤ _; omega)))
  refine s_loop (fun m τ => ∃ (j : Nat), j ≤ l.length ∧ m = l.length - j ∧ τ = ⟨[(0, .d (.sl (encSs l))), (3, .rf (.l 7) (encSs l).length), (4, .d (.i .i64 (j : Int)))], [(7, .mr 74 19 (fill (encSs l) ZS j))], []⟩) l.length ⟨0, Nat.zero_le _, rfl, rfl⟩ (Wk.of ⟨rfl, rfl, rfl, trivial⟩ ⟨by rw [fill_zero]; rfl, trivial⟩ rfl) ?_
  rintro m τ ⟨j, hj, rfl, rfl⟩
  repeat' (first
    | refine s_seq ?_ | refine s_block ?_ | refine s_reg ?_ | refine s_skip ?_ | refine s_ret ?_ | refine s_end ?_ | refine n_seq ?_ | refine n_blk ?_ | refine n_nil ?_ | refine s_exit ?_ | refine e_seq ?_ | refine e_lp ?_ | refine e_blk ?_ | refine e_blk' rfl ?_
    | (refine o_v hY (v_wr rfl ?_) rfl ?_; · omega) | refine o_v hY (v_pv rfl) rfl ?_ | refine g_y rfl rfl ?_ | refine g_n hY rfl rfl rfl ?_ | refine g_u hY rfl rfl rfl ?_ | (refine g_s rfl rfl ?_ ?_ <;> fail_if_success (intro h; cases h; done)) | refine c_t rfl ?_ | refine c_f rfl ?_ | refine c_s rfl ?_ ?_
    | (intro h; (try simp only [decide_eq_true_eq, decide_eq_false_iff_not, Bool.not_eq_true', Bool.not_eq_false', beq_iff_eq, bne_iff_ne, beq_eq_false_iff_ne, bne_eq_false_iff_eq, ne_eq, toListI] at h); (try simp only [toListC] at h))
    | refine o_a hY (a_box rfl rfl rfl ?_) | refine o_a hY (a_alz rfl rfl rfl rfl rfl ?_) | refine o_a hY (a_als rfl rfl rfl ?_) | refine o_a hY (a_st rfl rfl rfl (.d rfl) rfl rfl ?_)
    | refine r_of (r_d rfl ?_) | refine r_of (r_c rfl rfl ?_) | refine r_of (r_2 rfl rfl ?_) | refine r_of (r_4 rfl rfl rfl rfl ?_)
    | (refine o_v hY (v_ia j rfl rfl (.d rfl) rfl rfl (encSs_get l j ?_) (size_encS _)) rfl ?_; · omega)
    | refine o_v hY (v_ldp rfl rfl (sub_encS _)) rfl ?_
    | refine o_a hY (a_call (ih l[j] (List.getElem_mem _) (by have := sumS_mem l l[j] (List.getElem_mem _); omega)) (.cons (.d rfl) .nil) rfl ?_)
    | (refine o_v hY (v_im j rfl rfl rfl rfl rfl ?_) rfl ?_; · omega)
    | (refine o_a hY (a_sm rfl rfl rfl (.d rfl) rfl (size_encS _) ?_ ?_); · (rw [fill_len _ _ _ (by omega)]; omega))
    | (refine r_of (r_m rfl rfl ?_ ?_); · (rw [fill_len _ _ _ (by omega)])))
  · refine n_lp (l.length - (j+1)) ⟨j+1, by omega, rfl, rfl⟩ (by omega) (Wk.of ⟨rfl, rfl, rfl, trivial⟩ ⟨by rw [← fill_set _ _ _ _ (encSs_get l j (by omega))]; rfl, trivial⟩ rfl)
  · obtain rfl : j = l.length := by omega
    rw [← hlen, fill_all]; exact ⟨rfl, rfl⟩
set_option maxHeartbeats 2000000 in
theorem toStmt_c (x : Sm) : CtoS x := by
  refine Sm.ind (fun k s a e lo hi b ih => ?_) x
  intro hz
  unfold encS
  simp only [szS] at hz
  (refine AC_fn hY Tryz.func36 rfl Tryz.ntmps36 Tryz.results36 rfl (eq_true (by simp)) ?_; simp only [enumT])
  repeat' (first
    | refine s_seq ?_ | refine s_block ?_ | refine s_reg ?_ | refine s_skip ?_ | refine s_ret ?_ | refine s_end ?_ | refine n_seq ?_ | refine n_blk ?_ | refine n_nil ?_ | refine s_exit ?_ | refine e_seq ?_ | refine e_lp ?_ | refine e_blk ?_ | refine e_blk' rfl ?_
    | (refine o_v hY (v_wr rfl ?_) rfl ?_; · omega) | refine o_v hY (v_pv rfl) rfl ?_ | refine g_y rfl rfl ?_ | refine g_n hY rfl rfl rfl ?_ | refine g_u hY rfl rfl rfl ?_ | (refine g_s rfl rfl ?_ ?_ <;> fail_if_success (intro h; cases h; done)) | refine c_t rfl ?_ | refine c_f rfl ?_ | refine c_s rfl ?_ ?_
    | (intro h; (try simp only [decide_eq_true_eq, decide_eq_false_iff_not, Bool.not_eq_true', Bool.not_eq_false', beq_iff_eq, bne_iff_ne, beq_eq_false_iff_ne, bne_eq_false_iff_eq, ne_eq, toListI] at h); (try simp only [toListC] at h))
    | refine o_a hY (a_box rfl rfl rfl ?_) | refine o_a hY (a_alz rfl rfl rfl rfl rfl ?_) | refine o_a hY (a_als rfl rfl rfl ?_) | refine o_a hY (a_st rfl rfl rfl (.d rfl) rfl rfl ?_)
    | refine r_of (r_d rfl ?_) | refine r_of (r_c rfl rfl ?_) | refine r_of (r_2 rfl rfl ?_) | refine r_of (r_4 rfl rfl rfl rfl ?_)
    | refine o_v hY (v_ldb rfl rfl rfl sub_S2) rfl ?_ | refine o_v hY (v_ldb rfl rfl rfl sub_S3) rfl ?_ | refine o_v hY (v_ldb rfl rfl rfl sub_S4) rfl ?_ | refine o_v hY (v_ldb rfl rfl rfl sub_S5) rfl ?_ | refine o_v hY (v_ldb rfl rfl rfl sub_S6) rfl ?_ | refine o_v hY (v_ldb rfl rfl rfl sub_Sw) rfl ?_
    | refine o_a hY (a_st rfl rfl rfl (.d rfl) set_S2 (size_encE _) ?_) | refine o_a hY (a_st rfl rfl rfl (.d rfl) set_S3 (size_encE _) ?_) | refine o_a hY (a_st rfl rfl rfl (.d rfl) set_S4 (size_encE _) ?_) | refine o_a hY (a_st rfl rfl rfl (.d rfl) set_S5 (size_encE _) ?_) | refine o_a hY (a_st rfl rfl rfl (.d rfl) set_S6 rfl ?_) | refine o_a hY (a_st rfl rfl rfl (.d rfl) set_Sw size_Sw ?_)
    | refine o_a hY (a_call (toExp_c _ (by omega)) (.cons (.d rfl) .nil) rfl ?_)
    | refine o_a hY (a_call (toStmtS_c b ih (by omega)) (.cons (.d rfl) .nil) rfl ?_) | refine r_of (r_c rfl (ldq_b rfl rfl sub_Sw) ?_))
  exact ⟨rfl, rfl⟩

def CtoA (x : Ar) : Prop := szA x ≤ 1048576 → AC Tryz.prog 35 [.d (encA x)] [] (isR (.d (encA x)))
theorem sumA_mem (l : List Ar) (x : Ar) (h : x ∈ l) : szA x ≤ sumA l := by
  induction l with
  | nil => simp at h
  | cons y r ih => simp only [sumA]; rcases List.mem_cons.1 h with rfl | h; omega; have := ih h; omega
theorem toArrS_c (l : List Ar) (ih : ∀ x ∈ l, CtoA x) (hl : l.length + sumA l ≤ 1048576) :
    AC Tryz.prog 14 [.d (.sl (encAs l))] [] (isR (.d (.sl (encAs l)))) := by
  have hlen := encAs_len l
  (refine AC_fn hY Tryz.func14 rfl Tryz.ntmps14 Tryz.results14 rfl (eq_true (by simp)) ?_; simp only [enumT])
  repeat' (first
    | refine s_seq ?_ | refine s_block ?_ | refine s_reg ?_ | refine s_skip ?_ | refine s_ret ?_ | refine s_end ?_ | refine n_seq ?_ | refine n_blk ?_ | refine n_nil ?_ | refine s_exit ?_ | refine e_seq ?_ | refine e_lp ?_ | refine e_blk ?_ | refine e_blk' rfl ?_
    | (refine o_v hY (v_wr rfl ?_) rfl ?_; · omega) | refine o_v hY (v_pv rfl) rfl ?_ | refine g_y rfl rfl ?_ | refine g_n hY rfl rfl rfl ?_ | refine g_u hY rfl rfl rfl ?_ | (refine g_s rfl rfl ?_ ?_ <;> fail_if_success (intro h; cases h; done)) | refine c_t rfl ?_ | refine c_f rfl ?_ | refine c_s rfl ?_ ?_
    | (intro h; (try simp only [decide_eq_true_eq, decide_eq_false_iff_not, Bool.not_eq_true', Bool.not_eq_false', beq_iff_eq, bne_iff_ne, beq_eq_false_iff_ne, bne_eq_false_iff_eq, ne_eq, toListI] at h); (try simp only [toListC] at h))
    | refine o_a hY (a_box rfl rfl rfl ?_) | refine o_a hY (a_alz rfl rfl rfl rfl rfl ?_) | refine o_a hY (a_als rfl rfl rfl ?_) | refine o_a hY (a_st rfl rfl rfl (.d rfl) rfl rfl ?_)
    | refine r_of (r_d rfl ?_) | refine r_of (r_c rfl rfl ?_) | refine r_of (r_2 rfl rfl ?_) | refine r_of (r_4 rfl rfl rfl rfl ?_)
    | (refine o_a hY (a_mk rfl rfl rfl rfl rfl rfl rfl ?_ ?_)
       · (show (encAs l).length * 24 ≤ _; omega)))
  refine s_loop (fun m τ => ∃ (j : Nat), j ≤ l.length ∧ m = l.length - j ∧ τ = ⟨[(0, .d (.sl (encAs l))), (3, .rf (.l 7) (encAs l).length), (4, .d (.i .i64 (j : Int)))], [(7, .mr 39 2 (fill (encAs l) ZA j))], []⟩) l.length ⟨0, Nat.zero_le _, rfl, rfl⟩ (Wk.of ⟨rfl, rfl, rfl, trivial⟩ ⟨by rw [fill_zero]; rfl, trivial⟩ rfl) ?_
  rintro m τ ⟨j, hj, rfl, rfl⟩
  repeat' (first
    | refine s_seq ?_ | refine s_block ?_ | refine s_reg ?_ | refine s_skip ?_ | refine s_ret ?_ | refine s_end ?_ | refine n_seq ?_ | refine n_blk ?_ | refine n_nil ?_ | refine s_exit ?_ | refine e_seq ?_ | refine e_lp ?_ | refine e_blk ?_ | refine e_blk' rfl ?_
    | (refine o_v hY (v_wr rfl ?_) rfl ?_; · omega) | refine o_v hY (v_pv rfl) rfl ?_ | refine g_y rfl rfl ?_ | refine g_n hY rfl rfl rfl ?_ | refine g_u hY rfl rfl rfl ?_ | (refine g_s rfl rfl ?_ ?_ <;> fail_if_success (intro h; cases h; done)) | refine c_t rfl ?_ | refine c_f rfl ?_ | refine c_s rfl ?_ ?_
    | (intro h; (try simp only [decide_eq_true_eq, decide_eq_false_iff_not, Bool.not_eq_true', Bool.not_eq_false', beq_iff_eq, bne_iff_ne, beq_eq_false_iff_ne, bne_eq_false_iff_eq, ne_eq, toListI] at h); (try simp only [toListC] at h))
    | refine o_a hY (a_box rfl rfl rfl ?_) | refine o_a hY (a_alz rfl rfl rfl rfl rfl ?_) | refine o_a hY (a_als rfl rfl rfl ?_) | refine o_a hY (a_st rfl rfl rfl (.d rfl) rfl rfl ?_)
    | refine r_of (r_d rfl ?_) | refine r_of (r_c rfl rfl ?_) | refine r_of (r_2 rfl rfl ?_) | refine r_of (r_4 rfl rfl rfl rfl ?_)
    | (refine o_v hY (v_ia j rfl rfl (.d rfl) rfl rfl (encAs_get l j ?_) (size_encA _)) rfl ?_; · omega)
    | refine o_v hY (v_ldp rfl rfl (sub_encA _)) rfl ?_
    | refine o_a hY (a_call (ih l[j] (List.getElem_mem _) (by have := sumA_mem l l[j] (List.getElem_mem _); omega)) (.cons (.d rfl) .nil) rfl ?_)
    | (refine o_v hY (v_im j rfl rfl rfl rfl rfl ?_) rfl ?_; · omega)
    | (refine o_a hY (a_sm rfl rfl rfl (.d rfl) rfl (size_encA _) ?_ ?_); · (rw [fill_len _ _ _ (by omega)]; omega))
    | (refine r_of (r_m rfl rfl ?_ ?_); · (rw [fill_len _ _ _ (by omega)])))
  · refine n_lp (l.length - (j+1)) ⟨j+1, by omega, rfl, rfl⟩ (by omega) (Wk.of ⟨rfl, rfl, rfl, trivial⟩ ⟨by rw [← fill_set _ _ _ _ (encAs_get l j (by omega))]; rfl, trivial⟩ rfl)
  · obtain rfl : j = l.length := by omega
    rw [← hlen, fill_all]; exact ⟨rfl, rfl⟩
theorem toArr_c (x : Ar) : CtoA x := by
  intro hz
  unfold encA
  (refine AC_fn hY Tryz.func35 rfl Tryz.ntmps35 Tryz.results35 rfl (eq_true (by simp)) ?_; simp only [enumT])
  repeat' (first
    | refine s_seq ?_ | refine s_block ?_ | refine s_reg ?_ | refine s_skip ?_ | refine s_ret ?_ | refine s_end ?_ | refine n_seq ?_ | refine n_blk ?_ | refine n_nil ?_ | refine s_exit ?_ | refine e_seq ?_ | refine e_lp ?_ | refine e_blk ?_ | refine e_blk' rfl ?_
    | (refine o_v hY (v_wr rfl ?_) rfl ?_; · omega) | refine o_v hY (v_pv rfl) rfl ?_ | refine g_y rfl rfl ?_ | refine g_n hY rfl rfl rfl ?_ | refine g_u hY rfl rfl rfl ?_ | (refine g_s rfl rfl ?_ ?_ <;> fail_if_success (intro h; cases h; done)) | refine c_t rfl ?_ | refine c_f rfl ?_ | refine c_s rfl ?_ ?_
    | (intro h; (try simp only [decide_eq_true_eq, decide_eq_false_iff_not, Bool.not_eq_true', Bool.not_eq_false', beq_iff_eq, bne_iff_ne, beq_eq_false_iff_ne, bne_eq_false_iff_eq, ne_eq, toListI] at h); (try simp only [toListC] at h))
    | refine o_a hY (a_box rfl rfl rfl ?_) | refine o_a hY (a_alz rfl rfl rfl rfl rfl ?_) | refine o_a hY (a_als rfl rfl rfl ?_) | refine o_a hY (a_st rfl rfl rfl (.d rfl) rfl rfl ?_)
    | refine r_of (r_d rfl ?_) | refine r_of (r_c rfl rfl ?_) | refine r_of (r_2 rfl rfl ?_) | refine r_of (r_4 rfl rfl rfl rfl ?_))
  exact ⟨rfl, rfl⟩
theorem toProg_c (p : Pg) (hz : szP p ≤ 1048576) : AC Tryz.prog 6 [.d (encP p)] [] (isR (.d (encP p))) := by
  unfold encP
  simp only [szP] at hz
  (refine AC_fn hY Tryz.func6 rfl Tryz.ntmps6 Tryz.results6 rfl (eq_true (by simp)) ?_; simp only [enumT])
  repeat' (first
    | refine s_seq ?_ | refine s_block ?_ | refine s_reg ?_ | refine s_skip ?_ | refine s_ret ?_ | refine s_end ?_ | refine n_seq ?_ | refine n_blk ?_ | refine n_nil ?_ | refine s_exit ?_ | refine e_seq ?_ | refine e_lp ?_ | refine e_blk ?_ | refine e_blk' rfl ?_
    | (refine o_v hY (v_wr rfl ?_) rfl ?_; · omega) | refine o_v hY (v_pv rfl) rfl ?_ | refine g_y rfl rfl ?_ | refine g_n hY rfl rfl rfl ?_ | refine g_u hY rfl rfl rfl ?_ | (refine g_s rfl rfl ?_ ?_ <;> fail_if_success (intro h; cases h; done)) | refine c_t rfl ?_ | refine c_f rfl ?_ | refine c_s rfl ?_ ?_
    | (intro h; (try simp only [decide_eq_true_eq, decide_eq_false_iff_not, Bool.not_eq_true', Bool.not_eq_false', beq_iff_eq, bne_iff_ne, beq_eq_false_iff_ne, bne_eq_false_iff_eq, ne_eq, toListI] at h); (try simp only [toListC] at h))
    | refine o_a hY (a_box rfl rfl rfl ?_) | refine o_a hY (a_alz rfl rfl rfl rfl rfl ?_) | refine o_a hY (a_als rfl rfl rfl ?_) | refine o_a hY (a_st rfl rfl rfl (.d rfl) rfl rfl ?_)
    | refine r_of (r_d rfl ?_) | refine r_of (r_c rfl rfl ?_) | refine r_of (r_2 rfl rfl ?_) | refine r_of (r_4 rfl rfl rfl rfl ?_)
    | refine o_a hY (a_call (toArrS_c p.a (fun x _ => toArr_c x) (by omega)) (.cons (.d rfl) .nil) rfl ?_)
    | refine o_a hY (a_call (toStmtS_c p.b (fun x _ => toStmt_c x) (by omega)) (.cons (.d rfl) .nil) rfl ?_))
  exact ⟨rfl, rfl⟩
end Go.Proofs.YtmmdgciefehbcaaGreatDoor.Ax
