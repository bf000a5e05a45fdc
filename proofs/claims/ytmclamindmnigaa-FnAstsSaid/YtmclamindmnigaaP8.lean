/- Contracts of functions that the claim reaches, over data without addresses, and what follows of them (text P8). No conditions beside those that each theorem names. -/
import Derived.Test.YtmclamindmnigaaP7
set_option linter.unusedVariables false
set_option linter.unusedSimpArgs false
namespace Go.Proofs.Ytmclamindmnigaa.Ax
def flAt (k : Int) : Bool := decide (k = 2)
def flE (k : Int) : Bool := !decide (k = 3)
def flB (k : Int) : Bool := decide (k = 3)
def flN (k : Int) : Bool := decide (k = 1 ∨ k = 2 ∨ k = 3)
theorem fields_c (k : Int) : AC Try.prog 43 [.d (.i .i64 k)] [] (isR (.tu [.b (flAt k), .b (flE k), .b (flB k), .b (flN k)])) := by
  (refine AC_fn hY Try.func43 rfl Try.ntmps43 Try.results43 rfl (eq_true (by simp)) ?_; simp only [enumT])
  repeat' (first
    | refine s_seq ?_ | refine s_block ?_ | refine s_reg ?_ | refine s_skip ?_ | refine s_ret ?_ | refine s_end ?_ | refine n_seq ?_ | refine n_blk ?_ | refine n_nil ?_ | refine s_exit ?_ | refine e_seq ?_ | refine e_lp ?_ | refine e_blk ?_ | refine e_blk' rfl ?_
    | (refine o_v hY (v_wr rfl ?_) rfl ?_; · omega) | refine o_v hY (v_pv rfl) rfl ?_ | refine g_y rfl rfl ?_ | refine g_n hY rfl rfl rfl ?_ | refine g_u hY rfl rfl rfl ?_ | (refine g_s rfl rfl ?_ ?_ <;> fail_if_success (intro h; cases h; done)) | refine c_t rfl ?_ | refine c_f rfl ?_ | refine c_s rfl ?_ ?_
    | (intro h; (try simp only [decide_eq_true_eq, decide_eq_false_iff_not, Bool.not_eq_true', Bool.not_eq_false', beq_iff_eq, bne_iff_ne, beq_eq_false_iff_ne, bne_eq_false_iff_eq, ne_eq, toListI] at h); (try simp only [toListC] at h))
    | refine o_a hY (a_box rfl rfl rfl ?_) | refine o_a hY (a_alz rfl rfl rfl rfl rfl ?_) | refine o_a hY (a_als rfl rfl rfl ?_) | refine o_a hY (a_st rfl rfl rfl (.d rfl) rfl rfl ?_)
    | refine r_of (r_d rfl ?_) | refine r_of (r_c rfl rfl ?_) | refine r_of (r_2 rfl rfl ?_) | refine r_of (r_4 rfl rfl rfl rfl ?_))
  all_goals ((try subst k); refine ⟨rfl, ?_⟩; simp [flAt, flE, flB, flN, *])
def hereS' (k : Int) (s : ByteArray) (a e lo hi : Ex) : Bool :=
  within k 1 4 && ((if flAt k = true then okE a else noE a) && ((if flE k = true then okE e else noE e) && ((if flB k = true then okE lo else noE lo) && ((if flB k = true then okE hi else noE hi) && (if flN k = true then okName s else decide (s = ⟨#[]⟩))))))
mutual
def rgt : Int → Sm → Bool
  | d, .mk k s a e lo hi b => if hereS' k s a e lo hi = false then false
    else if flB k = false then decide ((b.length : Int) = 0)
    else if (decide (d = 3) || !within b.length 1 6) = true then false else rgtL (d + 1) b
def rgtL : Int → List Sm → Bool
  | _, [] => true
  | d, x :: r => rgt d x && rgtL d r
end
mutual
def stS : Int → Sm → Int
  | d, .mk k s a e lo hi b => if hereS' k s a e lo hi = false then 100
    else if flB k = false then (if (b.length : Int) > 0 then 100 else 1)
    else if (decide (3 ≤ d) || !within b.length 1 6) = true then 100 else stSl (d + 1) b 1
def stSl : Int → List Sm → Int → Int
  | _, [], n => n
  | d, x :: r, n => if n ≤ 40 then stSl d r (n + stS d x) else n
end
theorem stSl_gt (d : Int) (l : List Sm) (n : Int) (h : ¬ n ≤ 40) : stSl d l n = n := by cases l <;> simp [stSl, h]
def Crgt (x : Sm) : Prop := szS x ≤ 1048576 → ∀ d : Int, 0 ≤ d → d ≤ 3 → AC Try.prog 30 [.d (encS x), .d (.i .i64 d)] [] (isR (.d (.b (rgt d x))))
set_option maxHeartbeats 4000000 in
theorem isRight_c (x : Sm) : Crgt x := by
  refine Sm.ind (fun k s a e lo hi b ih => ?_) x
  intro hz d h0 h1
  have hlen := encSs_len b
  simp only [szS] at hz
  have ha : szE a ≤ 1048576 := by omega
  have he : szE e ≤ 1048576 := by omega
  have hlo : szE lo ≤ 1048576 := by omega
  have hhi : szE hi ≤ 1048576 := by omega
  have hs : s.size ≤ 9223372036854775807 := by omega
  generalize hr : rgt d _ = res
  unfold rgt at hr
  unfold encS
  (refine AC_fn hY Try.func30 rfl Try.ntmps30 Try.results30 rfl (eq_true (by simp)) ?_; simp only [enumT])
  repeat' (first
    | refine s_seq ?_ | refine s_block ?_ | refine s_reg ?_ | refine s_skip ?_ | refine s_ret ?_ | refine s_end ?_ | refine n_seq ?_ | refine n_blk ?_ | refine n_nil ?_ | refine s_exit ?_ | refine e_seq ?_ | refine e_lp ?_ | refine e_blk ?_ | refine e_blk' rfl ?_
    | (refine o_v hY (v_wr rfl ?_) rfl ?_; · omega) | refine o_v hY (v_pv rfl) rfl ?_ | refine g_y rfl rfl ?_ | refine g_n hY rfl rfl rfl ?_ | refine g_u hY rfl rfl rfl ?_ | (refine g_s rfl rfl ?_ ?_ <;> fail_if_success (intro h; cases h; done)) | refine c_t rfl ?_ | refine c_f rfl ?_ | refine c_s rfl ?_ ?_
    | (intro h; (try simp only [decide_eq_true_eq, decide_eq_false_iff_not, Bool.not_eq_true', Bool.not_eq_false', beq_iff_eq, bne_iff_ne, beq_eq_false_iff_ne, bne_eq_false_iff_eq, ne_eq, toListI] at h); (try simp only [toListC] at h))
    | refine o_a hY (a_box rfl rfl rfl ?_) | refine o_a hY (a_alz rfl rfl rfl rfl rfl ?_) | refine o_a hY (a_als rfl rfl rfl ?_) | refine o_a hY (a_st rfl rfl rfl (.d rfl) rfl rfl ?_)
    | refine r_of (r_d rfl ?_) | refine r_of (r_c rfl rfl ?_) | refine r_of (r_2 rfl rfl ?_) | refine r_of (r_4 rfl rfl rfl rfl ?_)
    | refine o_v hY (v_ldb rfl rfl rfl sub_S2) rfl ?_ | refine o_v hY (v_ldb rfl rfl rfl sub_S3) rfl ?_ | refine o_v hY (v_ldb rfl rfl rfl sub_S4) rfl ?_ | refine o_v hY (v_ldb rfl rfl rfl sub_S5) rfl ?_ | refine o_v hY (v_ldb rfl rfl rfl sub_S6) rfl ?_
    | refine o_a hY (a_call (inRange_c _ _ _) (.cons (.d rfl) (.cons (.d rfl) (.cons (.d rfl) .nil))) rfl ?_)
    | refine o_a hY (a_call (fields_c _) (.cons (.d rfl) .nil) rfl ?_)
    | refine o_a hY (a_call (fieldOk_c _ _ (by assumption)) (.cons (.d rfl) (.cons (.d rfl) .nil)) rfl ?_)
    | refine o_a hY (a_call (implNameOk_c s hs) (.cons (.d rfl) .nil) rfl ?_))
  all_goals first
    | (refine isR_b' ?_; rw [← hr]; simp [hereS', hlen, eqI, eqS, *]; done)
    | exact absurd (‹flN k = true›.symm.trans ‹flN k = false›) (by decide)
    | skip
  all_goals (
    have h5 : hereS' k s a e lo hi = true := by
      rw [hereS', ‹within k 1 4 = true›, show (if flAt k = true then okE a else noE a) = true by assumption, show (if flE k = true then okE e else noE e) = true by assumption, show (if flB k = true then okE lo else noE lo) = true by assumption, show (if flB k = true then okE hi else noE hi) = true by assumption]
      first
        | (rw [if_pos ‹flN k = true›, ‹okName s = true›]; rfl)
        | (rw [if_neg (by rw [‹flN k = false›]; decide), decide_eq_true ‹s = _›]; rfl))
  all_goals (rw [h5] at hr; simp only [Bool.true_eq_false, if_false] at hr)
  all_goals first
    | (rw [if_pos ‹flB k = false›] at hr; refine isR_b' ?_; rw [← hr, hlen, eqI]; done)
    | (rw [if_neg (by rw [‹flB k = true›]; decide), if_pos (by rw [← hlen]; simp [‹within (↑(encSs b).length) 1 6 = false›])] at hr; exact isR_b' hr.symm)
    | skip
  all_goals (
    have hr2 : rgtL (d + 1) b = res := by
      rw [if_neg (by rw [‹flB k = true›]; decide), if_neg (by rw [← hlen]; simp [‹¬ d = 3›, ‹within (↑(encSs b).length) 1 6 = true›])] at hr
      exact hr
    refine s_loop (fun m τ => ∃ (j : Nat), j ≤ b.length ∧ m = b.length - j ∧ rgtL (d + 1) (b.drop j) = res ∧ τ = ⟨[(1, .d (.i .i64 d)), (81, .d (.sl (encSs b))), (82, .d (.i .i64 ((encSs b).length : Int))), (83, .d (.i .i64 (j : Int)))], [], []⟩) b.length ⟨0, Nat.zero_le _, rfl, hr2, rfl⟩ (Wk.of ⟨rfl, rfl, rfl, rfl, trivial⟩ trivial rfl) ?_
    rintro m τ ⟨j, hj, rfl, h4, rfl⟩
    repeat' (first
    | refine s_seq ?_ | refine s_block ?_ | refine s_reg ?_ | refine s_skip ?_ | refine s_ret ?_ | refine s_end ?_ | refine n_seq ?_ | refine n_blk ?_ | refine n_nil ?_ | refine s_exit ?_ | refine e_seq ?_ | refine e_lp ?_ | refine e_blk ?_ | refine e_blk' rfl ?_
    | (refine o_v hY (v_wr rfl ?_) rfl ?_; · omega) | refine o_v hY (v_pv rfl) rfl ?_ | refine g_y rfl rfl ?_ | refine g_n hY rfl rfl rfl ?_ | refine g_u hY rfl rfl rfl ?_ | (refine g_s rfl rfl ?_ ?_ <;> fail_if_success (intro h; cases h; done)) | refine c_t rfl ?_ | refine c_f rfl ?_ | refine c_s rfl ?_ ?_
    | (intro h; (try simp only [decide_eq_true_eq, decide_eq_false_iff_not, Bool.not_eq_true', Bool.not_eq_false', beq_iff_eq, bne_iff_ne, beq_eq_false_iff_ne, bne_eq_false_iff_eq, ne_eq, toListI] at h); (try simp only [toListC] at h))
    | refine o_a hY (a_box rfl rfl rfl ?_) | refine o_a hY (a_alz rfl rfl rfl rfl rfl ?_) | refine o_a hY (a_als rfl rfl rfl ?_) | refine o_a hY (a_st rfl rfl rfl (.d rfl) rfl rfl ?_)
    | refine r_of (r_d rfl ?_) | refine r_of (r_c rfl rfl ?_) | refine r_of (r_2 rfl rfl ?_) | refine r_of (r_4 rfl rfl rfl rfl ?_)
    | (refine o_v hY (v_ia j rfl rfl (.d rfl) rfl rfl (encSs_get b j ?_) (size_encS _)) rfl ?_; · omega)
    | refine o_v hY (v_ldp rfl rfl (sub_encS _)) rfl ?_ | refine o_v hY (v_ldb rfl rfl rfl (sub_encS _)) rfl ?_
    | refine o_a hY (a_st rfl rfl rfl (.d rfl) (set_S _) (size_encS _) ?_)
    | (refine o_a hY (a_call (ih b[j] (List.getElem_mem _) ?_ (d + 1) ?_ ?_) (.cons (.d rfl) (.cons (.d rfl) .nil)) rfl ?_)
       · (have := sumS_mem b b[j] (List.getElem_mem _); omega)
       · omega
       · omega))
    · rw [List.drop_eq_getElem_cons (by omega), rgtL, h, Bool.false_and] at h4
      exact isR_b' h4.symm
    · rw [List.drop_eq_getElem_cons (by omega), rgtL, h, Bool.true_and] at h4
      refine n_lp (b.length - (j+1)) ⟨j+1, by omega, rfl, h4, rfl⟩ (by omega) (Wk.of ⟨rfl, rfl, rfl, rfl, trivial⟩ trivial rfl)
    · obtain rfl : j = b.length := by omega
      rw [List.drop_length] at h4
      exact isR_b' h4.symm)
end Go.Proofs.Ytmclamindmnigaa.Ax
