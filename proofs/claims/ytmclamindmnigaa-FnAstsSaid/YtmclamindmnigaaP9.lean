/- Contracts of functions that the claim reaches, over data without addresses, and what follows of them (text P9). No conditions beside those that each theorem names. -/
import Derived.Test.YtmclamindmnigaaP8
set_option linter.unusedVariables false
set_option linter.unusedSimpArgs false
namespace Go.Proofs.Ytmclamindmnigaa.Ax
def okS (x : Sm) : Bool := rgt 0 x && decide ((nodL [x] : Int) ≤ 40)
theorem implStmtOk_c (x : Sm) (hz : 1 + szS x ≤ 1048576) : AC Try.prog 12 [.d (encS x)] [] (isR (.d (.b (okS x)))) := by
  (refine AC_fn hY Try.func12 rfl Try.ntmps12 Try.results12 rfl (eq_true (by simp)) ?_; simp only [enumT])
  repeat' (first
    | refine s_seq ?_ | refine s_block ?_ | refine s_reg ?_ | refine s_skip ?_ | refine s_ret ?_ | refine s_end ?_ | refine n_seq ?_ | refine n_blk ?_ | refine n_nil ?_ | refine s_exit ?_ | refine e_seq ?_ | refine e_lp ?_ | refine e_blk ?_ | refine e_blk' rfl ?_
    | (refine o_v hY (v_wr rfl ?_) rfl ?_; · omega) | refine o_v hY (v_pv rfl) rfl ?_ | refine g_y rfl rfl ?_ | refine g_n hY rfl rfl rfl ?_ | refine g_u hY rfl rfl rfl ?_ | (refine g_s rfl rfl ?_ ?_ <;> fail_if_success (intro h; cases h; done)) | refine c_t rfl ?_ | refine c_f rfl ?_ | refine c_s rfl ?_ ?_
    | (intro h; (try simp only [decide_eq_true_eq, decide_eq_false_iff_not, Bool.not_eq_true', Bool.not_eq_false', beq_iff_eq, bne_iff_ne, beq_eq_false_iff_ne, bne_eq_false_iff_eq, ne_eq, toListI] at h); (try simp only [toListC] at h))
    | refine o_a hY (a_box rfl rfl rfl ?_) | refine o_a hY (a_alz rfl rfl rfl rfl rfl ?_) | refine o_a hY (a_als rfl rfl rfl ?_) | refine o_a hY (a_st rfl rfl rfl (.d rfl) rfl rfl ?_)
    | refine r_of (r_d rfl ?_) | refine r_of (r_c rfl rfl ?_) | refine r_of (r_2 rfl rfl ?_) | refine r_of (r_4 rfl rfl rfl rfl ?_)
    | refine o_v hY (v_ldb rfl rfl rfl (sub_encS _)) rfl ?_
    | refine o_a hY (a_call (isRight_c x (by omega) 0 (by omega) (by omega)) (.cons (.d rfl) (.cons (.d rfl) .nil)) rfl ?_)
    | refine o_a hY (a_sl rfl rfl (.cons (.d rfl) .nil) (by simp [allSz, size_encS]) rfl rfl rfl rfl rfl rfl ?_)
    | refine o_a hY (a_call (implSizeL_c [x] (fun y _ => implSize_c y) (by simp [sumS]; omega)) (.cons (.w rfl rfl rfl) .nil) rfl ?_))
  all_goals (refine isR_b' ?_; simp [okS, *])
theorem w1 : within 1 1 4 = true := rfl
theorem w2 : within 2 1 4 = true := rfl
theorem w3 : within 3 1 4 = true := rfl
theorem w4 : within 4 1 4 = true := rfl
theorem wx {k : Int} (h1 : ¬ k = 1) (h2 : ¬ k = 2) (h3 : ¬ k = 3) (h4 : ¬ k = 4) : within k 1 4 = false := by simp [within]; omega
theorem stS_bd (x : Sm) : ∀ d : Int, 1 ≤ stS d x ∧ stS d x ≤ 100 + 40 * (if d ≤ 3 then 3 - d else 0) := by
  refine Sm.ind (P := fun x => ∀ d : Int, 1 ≤ stS d x ∧ stS d x ≤ 100 + 40 * (if d ≤ 3 then 3 - d else 0)) (fun k s a e lo hi b ih => ?_) x
  intro d
  unfold stS
  split
  · split <;> omega
  split
  · split <;> split <;> omega
  split
  · split <;> omega
  · rename_i hd
    have hd8 : d < 3 := by simp at hd; omega
    have key : ∀ (l : List Sm), (∀ x ∈ l, ∀ d : Int, 1 ≤ stS d x ∧ stS d x ≤ 100 + 40 * (if d ≤ 3 then 3 - d else 0)) → ∀ n : Int, 1 ≤ n → n ≤ 100 + 40 * (3 - d) → 1 ≤ stSl (d + 1) l n ∧ stSl (d + 1) l n ≤ 100 + 40 * (3 - d) := by
      intro l
      induction l with
      | nil => intro _ n h1 h2; exact ⟨h1, h2⟩
      | cons x r ihr =>
        intro hx n h1 h2
        unfold stSl
        split
        · have := hx x List.mem_cons_self (d + 1)
          rw [if_pos (by omega)] at this
          exact ihr (fun y hy => hx y (List.mem_cons_of_mem _ hy)) _ (by omega) (by omega)
        · exact ⟨h1, h2⟩
    rw [if_pos (by omega)]
    exact key b ih 1 (by omega) (by omega)
theorem stS_lo (d : Int) (x : Sm) (h : 1 ≤ d) : 1 ≤ stS d x ∧ stS d x ≤ 200 := by
  have := stS_bd x d
  split at this <;> omega
def Cst (x : Sm) : Prop := szS x ≤ 1048576 → ∀ d : Int, 0 ≤ d → d ≤ 3 → AC Try.prog 31 [.d (encS x), .d (.i .i64 d)] [] (isR (.d (.i .i64 (stS d x))))
set_option maxHeartbeats 4000000 in
theorem l3Stmt_c (x : Sm) : Cst x := by
  refine Sm.ind (fun k s a e lo hi b ih => ?_) x
  intro hz d h0 h1
  have hlen := encSs_len b
  simp only [szS] at hz
  have ha : szE a ≤ 9223372036854775807 := by omega
  have he : szE e ≤ 9223372036854775807 := by omega
  have hlo : szE lo ≤ 9223372036854775807 := by omega
  have hhi : szE hi ≤ 9223372036854775807 := by omega
  have hs : s.size ≤ 9223372036854775807 := by omega
  generalize hr : stS d _ = res
  unfold stS at hr
  unfold encS
  (refine AC_fn hY Try.func31 rfl Try.ntmps31 Try.results31 rfl (eq_true (by simp)) ?_; simp only [enumT])
  repeat' (first
    | refine s_seq ?_ | refine s_block ?_ | refine s_reg ?_ | refine s_skip ?_ | refine s_ret ?_ | refine s_end ?_ | refine n_seq ?_ | refine n_blk ?_ | refine n_nil ?_ | refine s_exit ?_ | refine e_seq ?_ | refine e_lp ?_ | refine e_blk ?_ | refine e_blk' rfl ?_
    | (refine o_v hY (v_wr rfl ?_) rfl ?_; · omega) | refine o_v hY (v_pv rfl) rfl ?_ | refine g_y rfl rfl ?_ | refine g_n hY rfl rfl rfl ?_ | refine g_u hY rfl rfl rfl ?_ | (refine g_s rfl rfl ?_ ?_ <;> fail_if_success (intro h; cases h; done)) | refine c_t rfl ?_ | refine c_f rfl ?_ | refine c_s rfl ?_ ?_
    | (intro h; (try simp only [decide_eq_true_eq, decide_eq_false_iff_not, Bool.not_eq_true', Bool.not_eq_false', beq_iff_eq, bne_iff_ne, beq_eq_false_iff_ne, bne_eq_false_iff_eq, ne_eq, toListI] at h); (try simp only [toListC] at h))
    | refine o_a hY (a_box rfl rfl rfl ?_) | refine o_a hY (a_alz rfl rfl rfl rfl rfl ?_) | refine o_a hY (a_als rfl rfl rfl ?_) | refine o_a hY (a_st rfl rfl rfl (.d rfl) rfl rfl ?_)
    | refine r_of (r_d rfl ?_) | refine r_of (r_c rfl rfl ?_) | refine r_of (r_2 rfl rfl ?_) | refine r_of (r_4 rfl rfl rfl rfl ?_)
    | refine o_v hY (v_ldb rfl rfl rfl sub_S2) rfl ?_ | refine o_v hY (v_ldb rfl rfl rfl sub_S3) rfl ?_ | refine o_v hY (v_ldb rfl rfl rfl sub_S4) rfl ?_ | refine o_v hY (v_ldb rfl rfl rfl sub_S5) rfl ?_ | refine o_v hY (v_ldb rfl rfl rfl sub_S6) rfl ?_
    | refine o_a hY (a_call (l1In_c _ _ _) (.cons (.d rfl) (.cons (.d rfl) (.cons (.d rfl) .nil))) rfl ?_)
    | refine o_a hY (a_call (l3No_c _) (.cons (.d rfl) .nil) rfl ?_)
    | refine o_a hY (a_call (specExpOk_c _ (by assumption)) (.cons (.d rfl) .nil) rfl ?_)
    | refine o_a hY (a_call (specNameOk_c s hs) (.cons (.d rfl) .nil) rfl ?_))
  all_goals first
    | (exfalso; omega)
    | (exfalso; have hw := ‹within k 1 4 = false›; simp [within] at hw; omega)
    | (refine isR_i ?_; rw [← hr, ← hlen]; clear hlen hr; simp [hereS', flAt, flE, flB, flN, w1, w2, w3, w4, *] <;> (try (split <;> omega)); done)
    | (refine isR_i ?_; rw [← hr, ← hlen]; clear hlen hr; refine (Eq.trans (if_neg ?_) (Eq.trans (if_pos ?_) (if_neg ?_))).symm <;> first | assumption | (simp [flB, *]; done) | (simp [hereS', flAt, flE, flB, flN, w1, w2, w3, w4, *]; done)) | (refine isR_i ?_; rw [← hr, ← hlen]; clear hlen hr; refine (Eq.trans (if_neg ?_) (Eq.trans (if_pos ?_) (if_pos ?_))).symm <;> first | assumption | (simp [flB, *]; done) | (simp [hereS', flAt, flE, flB, flN, w1, w2, w3, w4, *]; done))
    | (rcases Decidable.em (k = 1) with hk | hk
       · first
           | (refine isR_i ?_; rw [← hr, ← hlen]; clear hlen hr; refine (Eq.trans (if_neg ?_) (Eq.trans (if_pos ?_) (if_neg ?_))).symm <;> first | assumption | (simp [flB, *]; done) | (simp [hereS', flAt, flE, flB, flN, w1, w2, w3, w4, *]; done)) | (refine isR_i ?_; rw [← hr, ← hlen]; clear hlen hr; refine (Eq.trans (if_neg ?_) (Eq.trans (if_pos ?_) (if_pos ?_))).symm <;> first | assumption | (simp [flB, *]; done) | (simp [hereS', flAt, flE, flB, flN, w1, w2, w3, w4, *]; done))
           | (refine isR_i ?_; rw [← hr, ← hlen]; clear hlen hr; simp [hereS', flAt, flE, flB, flN, w1, *] <;> (try (split <;> omega)); done)
       · have hw : within k 1 4 = false := wx hk (by assumption) (by assumption) (by assumption)
         first
           | (exact absurd (‹within k 1 4 = true›.symm.trans hw) (by decide))
           | (refine isR_i ?_; rw [← hr]; simp [hereS', hw]; done))
    | skip
  all_goals (
    have hr2 : stSl (d + 1) b 1 = res := by
      rw [← hr]; rw [← hlen] at *; clear hr; rw [if_neg (by simp [hereS', flAt, flE, flB, flN, w3, *]), if_neg (by simp [flB, *]), if_neg (by simp [*])]
    clear hr
    refine s_loop (fun m τ => ∃ (j : Nat) (c : Int), j ≤ b.length ∧ m = b.length - j ∧ 1 ≤ c ∧ c ≤ 400 ∧ stSl (d + 1) (b.drop j) c = res ∧ τ = ⟨[(1, .d (.i .i64 d)), (2, .pt (.l 2) 0), (10, .d (.i .i64 c)), (11, .d (.i .i64 (j : Int)))], [(2, .var (.d (.ag [.i .i64 k, .s s, encE a, encE e, encE lo, encE hi, .sl (encSs b)])))], []⟩) b.length ⟨0, 1, Nat.zero_le _, rfl, by omega, by omega, hr2, rfl⟩ (Wk.of ⟨rfl, rfl, rfl, rfl, trivial⟩ ⟨rfl, trivial⟩ rfl) ?_
    rintro m τ ⟨j, c, hj, rfl, h2, h3, h4, rfl⟩
    repeat' (first
    | refine s_seq ?_ | refine s_block ?_ | refine s_reg ?_ | refine s_skip ?_ | refine s_ret ?_ | refine s_end ?_ | refine n_seq ?_ | refine n_blk ?_ | refine n_nil ?_ | refine s_exit ?_ | refine e_seq ?_ | refine e_lp ?_ | refine e_blk ?_ | refine e_blk' rfl ?_
    | (refine o_v hY (v_wr rfl ?_) rfl ?_; · omega) | refine o_v hY (v_pv rfl) rfl ?_ | refine g_y rfl rfl ?_ | refine g_n hY rfl rfl rfl ?_ | refine g_u hY rfl rfl rfl ?_ | (refine g_s rfl rfl ?_ ?_ <;> fail_if_success (intro h; cases h; done)) | refine c_t rfl ?_ | refine c_f rfl ?_ | refine c_s rfl ?_ ?_
    | (intro h; (try simp only [decide_eq_true_eq, decide_eq_false_iff_not, Bool.not_eq_true', Bool.not_eq_false', beq_iff_eq, bne_iff_ne, beq_eq_false_iff_ne, bne_eq_false_iff_eq, ne_eq, toListI] at h); (try simp only [toListC] at h))
    | refine o_a hY (a_box rfl rfl rfl ?_) | refine o_a hY (a_alz rfl rfl rfl rfl rfl ?_) | refine o_a hY (a_als rfl rfl rfl ?_) | refine o_a hY (a_st rfl rfl rfl (.d rfl) rfl rfl ?_)
    | refine r_of (r_d rfl ?_) | refine r_of (r_c rfl rfl ?_) | refine r_of (r_2 rfl rfl ?_) | refine r_of (r_4 rfl rfl rfl rfl ?_)
    | refine o_v hY (v_ldb rfl rfl rfl sub_S6) rfl ?_ | (refine o_v hY (v_ia j rfl rfl (.d rfl) rfl rfl (encSs_get b j ?_) (size_encS _)) rfl ?_; · omega)
    | refine o_v hY (v_ldp rfl rfl (sub_encS _)) rfl ?_
    | (refine o_a hY (a_call (ih b[j] (List.getElem_mem _) ?_ (d + 1) ?_ ?_) (.cons (.d rfl) (.cons (.d rfl) .nil)) rfl ?_)
       · (have := sumS_mem b b[j] (List.getElem_mem _); omega)
       · omega
       · omega
       have hb := stS_lo (d + 1) b[j] (by omega)))
    · refine n_lp (b.length - (j+1)) ⟨j+1, c + stS (d + 1) b[j], by omega, rfl, by omega, by omega, ?_, rfl⟩ (by omega) (Wk.of ⟨rfl, rfl, rfl, rfl, trivial⟩ ⟨rfl, trivial⟩ rfl)
      rw [List.drop_eq_getElem_cons (by omega)] at h4
      simpa [stSl, h] using h4
    · rw [stSl_gt _ _ _ h] at h4
      exact isR_i h4
    · obtain rfl : j = b.length := by omega
      rw [List.drop_length] at h4
      exact isR_i h4)
theorem specStmtOk_c (x : Sm) (hz : szS x ≤ 1048576) : AC Try.prog 13 [.d (encS x)] [] (isR (.d (.b (decide (stS 0 x ≤ 40))))) := by
  (refine AC_fn hY Try.func13 rfl Try.ntmps13 Try.results13 rfl (eq_true (by simp)) ?_; simp only [enumT])
  repeat' (first
    | refine s_seq ?_ | refine s_block ?_ | refine s_reg ?_ | refine s_skip ?_ | refine s_ret ?_ | refine s_end ?_ | refine n_seq ?_ | refine n_blk ?_ | refine n_nil ?_ | refine s_exit ?_ | refine e_seq ?_ | refine e_lp ?_ | refine e_blk ?_ | refine e_blk' rfl ?_
    | (refine o_v hY (v_wr rfl ?_) rfl ?_; · omega) | refine o_v hY (v_pv rfl) rfl ?_ | refine g_y rfl rfl ?_ | refine g_n hY rfl rfl rfl ?_ | refine g_u hY rfl rfl rfl ?_ | (refine g_s rfl rfl ?_ ?_ <;> fail_if_success (intro h; cases h; done)) | refine c_t rfl ?_ | refine c_f rfl ?_ | refine c_s rfl ?_ ?_
    | (intro h; (try simp only [decide_eq_true_eq, decide_eq_false_iff_not, Bool.not_eq_true', Bool.not_eq_false', beq_iff_eq, bne_iff_ne, beq_eq_false_iff_ne, bne_eq_false_iff_eq, ne_eq, toListI] at h); (try simp only [toListC] at h))
    | refine o_a hY (a_box rfl rfl rfl ?_) | refine o_a hY (a_alz rfl rfl rfl rfl rfl ?_) | refine o_a hY (a_als rfl rfl rfl ?_) | refine o_a hY (a_st rfl rfl rfl (.d rfl) rfl rfl ?_)
    | refine r_of (r_d rfl ?_) | refine r_of (r_c rfl rfl ?_) | refine r_of (r_2 rfl rfl ?_) | refine r_of (r_4 rfl rfl rfl rfl ?_)
    | refine o_v hY (v_ldb rfl rfl rfl (sub_encS _)) rfl ?_
    | refine o_a hY (a_call (l3Stmt_c x hz 0 (by omega) (by omega)) (.cons (.d rfl) (.cons (.d rfl) .nil)) rfl ?_))
  exact isR_b rfl
end Go.Proofs.Ytmclamindmnigaa.Ax
