/- Contracts of functions that the claim reaches, over data without addresses, and what follows of them (text P6). No conditions beside those that each theorem names. -/
import Derived.Test.YtmclamindmnigaaP5
set_option linter.unusedVariables false
set_option linter.unusedSimpArgs false
namespace Go.Proofs.Ytmclamindmnigaa.Ax
theorem set_E (x : Ex) : ZE.set 0 (encE x) = some (encE x) := by simp [D.set, encE_isAg, size_encE, sizes, D.size]
mutual
def cntS : Int → Ex → Int
  | d, .mk k n s l => if (decide (8 < d) || !hereE k n s l.length) = true then 100 else cntSl (d + 1) l 1
def cntSl : Int → List Ex → Int → Int
  | _, [], n => n
  | d, x :: r, n => if n ≤ 60 then cntSl d r (n + cntS d x) else n
end
mutual
def msr : Int → Ex → Int
  | d, .mk k n s l => if (decide (8 < d) || !hereE k n s l.length) = true then -1 else msrl (d + 1) l 1
def msrl : Int → List Ex → Int → Int
  | _, [], n => n
  | d, x :: r, n => if msr d x < 0 then -1 else msrl d r (n + msr d x)
end
theorem cntSl_gt (d : Int) (l : List Ex) (n : Int) (h : ¬ n ≤ 60) : cntSl d l n = n := by cases l <;> simp [cntSl, h]
def okE (x : Ex) : Bool := decide (cntS 1 x ≤ 60)
/-- The counts are small. -/
theorem cntS_bd (x : Ex) : ∀ d : Int, 1 ≤ cntS d x ∧ cntS d x ≤ 100 + 60 * (if d ≤ 9 then 9 - d else 0) := by
  refine Ex.ind (P := fun x => ∀ d : Int, 1 ≤ cntS d x ∧ cntS d x ≤ 100 + 60 * (if d ≤ 9 then 9 - d else 0)) (fun k n s l ih => ?_) x
  intro d
  unfold cntS
  split
  · split <;> omega
  · rename_i hd
    have hd8 : d ≤ 8 := by simp at hd; omega
    have key : ∀ (l : List Ex), (∀ x ∈ l, ∀ d : Int, 1 ≤ cntS d x ∧ cntS d x ≤ 100 + 60 * (if d ≤ 9 then 9 - d else 0)) → ∀ n : Int, 1 ≤ n → n ≤ 100 + 60 * (9 - d) → 1 ≤ cntSl (d + 1) l n ∧ cntSl (d + 1) l n ≤ 100 + 60 * (9 - d) := by
      intro l
      induction l with
      | nil => intro _ n h1 h2; exact ⟨h1, h2⟩
      | cons x r ihr =>
        intro hx n h1 h2
        unfold cntSl
        split
        · have := hx x List.mem_cons_self (d + 1)
          rw [if_pos (by omega)] at this
          exact ihr (fun y hy => hx y (List.mem_cons_of_mem _ hy)) _ (by omega) (by omega)
        · exact ⟨h1, h2⟩
    rw [if_pos (by omega)]
    exact key l ih 1 (by omega) (by omega)
theorem cntS_lo (d : Int) (x : Ex) (h : 1 ≤ d) : 1 ≤ cntS d x ∧ cntS d x ≤ 580 := by
  have := cntS_bd x d
  split at this <;> omega
def Ccnt (x : Ex) : Prop := goodE x → ∀ d : Int, 1 ≤ d → d ≤ 9 → AC Try.prog 29 [.d (encE x), .d (.i .i64 d)] [] (isR (.d (.i .i64 (cntS d x))))
theorem l3Count_c (x : Ex) : Ccnt x := by
  refine Ex.ind (fun k n s l ih => ?_) x
  intro hg d h0 h1
  have hh := l3Here_c' k n s l hg.1
  obtain ⟨hs, hl, hg⟩ := hg
  have hlen := encEs_len l
  generalize hr : cntS d _ = res
  unfold cntS at hr
  unfold encE at hh ⊢
  (refine AC_fn hY Try.func29 rfl Try.ntmps29 Try.results29 rfl (eq_true (by simp)) ?_; simp only [enumT])
  repeat' (first
    | refine s_seq ?_ | refine s_block ?_ | refine s_reg ?_ | refine s_skip ?_ | refine s_ret ?_ | refine s_end ?_ | refine n_seq ?_ | refine n_blk ?_ | refine n_nil ?_ | refine s_exit ?_ | refine e_seq ?_ | refine e_lp ?_ | refine e_blk ?_ | refine e_blk' rfl ?_
    | (refine o_v hY (v_wr rfl ?_) rfl ?_; · omega) | refine o_v hY (v_pv rfl) rfl ?_ | refine g_y rfl rfl ?_ | refine g_n hY rfl rfl rfl ?_ | refine g_u hY rfl rfl rfl ?_ | (refine g_s rfl rfl ?_ ?_ <;> fail_if_success (intro h; cases h; done)) | refine c_t rfl ?_ | refine c_f rfl ?_ | refine c_s rfl ?_ ?_
    | (intro h; (try simp only [decide_eq_true_eq, decide_eq_false_iff_not, Bool.not_eq_true', Bool.not_eq_false', beq_iff_eq, bne_iff_ne, beq_eq_false_iff_ne, bne_eq_false_iff_eq, ne_eq, toListI] at h); (try simp only [toListC] at h))
    | refine o_a hY (a_box rfl rfl rfl ?_) | refine o_a hY (a_alz rfl rfl rfl rfl rfl ?_) | refine o_a hY (a_als rfl rfl rfl ?_) | refine o_a hY (a_st rfl rfl rfl (.d rfl) rfl rfl ?_)
    | refine r_of (r_d rfl ?_) | refine r_of (r_c rfl rfl ?_) | refine r_of (r_2 rfl rfl ?_) | refine r_of (r_4 rfl rfl rfl rfl ?_)
    | refine o_a hY (a_call hh (.cons (.d rfl) .nil) rfl ?_))
  · exact isR_i (by rw [← hr, if_pos (by simp; omega)])
  · exact isR_i (by rw [← hr, if_pos (by simp [h])])
  rw [if_neg (by simp [h]; omega)] at hr
  refine s_loop (fun m τ => ∃ (j : Nat) (c : Int), j ≤ l.length ∧ m = l.length - j ∧ 1 ≤ c ∧ c ≤ 640 ∧ cntSl (d + 1) (l.drop j) c = res ∧ τ = ⟨[(1, .d (.i .i64 d)), (2, .pt (.l 2) 0), (5, .d (.i .i64 c)), (6, .d (.i .i64 (j : Int)))], [(2, .var (.d (.ag [.i .i64 k, .i .i64 n, .s s, .sl (encEs l)])))], []⟩) l.length ⟨0, 1, Nat.zero_le _, rfl, by omega, by omega, hr, rfl⟩ (Wk.of ⟨rfl, rfl, rfl, rfl, trivial⟩ ⟨rfl, trivial⟩ rfl) ?_
  rintro m τ ⟨j, c, hj, rfl, h2, h3, h4, rfl⟩
  repeat' (first
    | refine s_seq ?_ | refine s_block ?_ | refine s_reg ?_ | refine s_skip ?_ | refine s_ret ?_ | refine s_end ?_ | refine n_seq ?_ | refine n_blk ?_ | refine n_nil ?_ | refine s_exit ?_ | refine e_seq ?_ | refine e_lp ?_ | refine e_blk ?_ | refine e_blk' rfl ?_
    | (refine o_v hY (v_wr rfl ?_) rfl ?_; · omega) | refine o_v hY (v_pv rfl) rfl ?_ | refine g_y rfl rfl ?_ | refine g_n hY rfl rfl rfl ?_ | refine g_u hY rfl rfl rfl ?_ | (refine g_s rfl rfl ?_ ?_ <;> fail_if_success (intro h; cases h; done)) | refine c_t rfl ?_ | refine c_f rfl ?_ | refine c_s rfl ?_ ?_
    | (intro h; (try simp only [decide_eq_true_eq, decide_eq_false_iff_not, Bool.not_eq_true', Bool.not_eq_false', beq_iff_eq, bne_iff_ne, beq_eq_false_iff_ne, bne_eq_false_iff_eq, ne_eq, toListI] at h); (try simp only [toListC] at h))
    | refine o_a hY (a_box rfl rfl rfl ?_) | refine o_a hY (a_alz rfl rfl rfl rfl rfl ?_) | refine o_a hY (a_als rfl rfl rfl ?_) | refine o_a hY (a_st rfl rfl rfl (.d rfl) rfl rfl ?_)
    | refine r_of (r_d rfl ?_) | refine r_of (r_c rfl rfl ?_) | refine r_of (r_2 rfl rfl ?_) | refine r_of (r_4 rfl rfl rfl rfl ?_)
    | (refine o_v hY (v_ia j rfl rfl (.d rfl) rfl rfl (encEs_get l j ?_) (size_encE _)) rfl ?_; · omega)
    | refine o_v hY (v_ldp rfl rfl (sub_encE _)) rfl ?_
    | (refine o_a hY (a_call (ih l[j] (List.getElem_mem _) (goodEs_mem hg _ (List.getElem_mem _)) (d + 1) ?_ ?_) (.cons (.d rfl) (.cons (.d rfl) .nil)) rfl ?_)
       · omega
       · omega
       have hb := cntS_lo (d + 1) l[j] (by omega)))
  · refine n_lp (l.length - (j+1)) ⟨j+1, c + cntS (d + 1) l[j], by omega, rfl, by omega, by omega, ?_, rfl⟩ (by omega) (Wk.of ⟨rfl, rfl, rfl, rfl, trivial⟩ ⟨rfl, trivial⟩ rfl)
    rw [List.drop_eq_getElem_cons (by omega)] at h4
    simpa [cntSl, h] using h4
  · rw [cntSl_gt _ _ _ h] at h4
    exact isR_i h4
  · obtain rfl : j = l.length := by omega
    rw [List.drop_length] at h4
    exact isR_i h4
theorem sumE_pos : ∀ (l : List Ex) (x : Ex), x ∈ l → szE x ≤ sumE l := sumE_mem
mutual
theorem goodE_sz : ∀ x : Ex, szE x ≤ 9223372036854775807 → goodE x
  | .mk k n s l, h => by
    simp only [szE] at h
    exact ⟨by omega, by omega, goodEs_sz l (by omega)⟩
theorem goodEs_sz : ∀ l : List Ex, sumE l ≤ 9223372036854775807 → goodEs l
  | [], _ => trivial
  | x :: r, h => by
    simp only [sumE] at h
    exact ⟨goodE_sz x (by omega), goodEs_sz r (by omega)⟩
end
theorem specExpOk_c (x : Ex) (hg : szE x ≤ 9223372036854775807) : AC Try.prog 11 [.d (encE x)] [] (isR (.d (.b (okE x)))) := by
  have hg := goodE_sz x hg
  (refine AC_fn hY Try.func11 rfl Try.ntmps11 Try.results11 rfl (eq_true (by simp)) ?_; simp only [enumT])
  repeat' (first
    | refine s_seq ?_ | refine s_block ?_ | refine s_reg ?_ | refine s_skip ?_ | refine s_ret ?_ | refine s_end ?_ | refine n_seq ?_ | refine n_blk ?_ | refine n_nil ?_ | refine s_exit ?_ | refine e_seq ?_ | refine e_lp ?_ | refine e_blk ?_ | refine e_blk' rfl ?_
    | (refine o_v hY (v_wr rfl ?_) rfl ?_; · omega) | refine o_v hY (v_pv rfl) rfl ?_ | refine g_y rfl rfl ?_ | refine g_n hY rfl rfl rfl ?_ | refine g_u hY rfl rfl rfl ?_ | (refine g_s rfl rfl ?_ ?_ <;> fail_if_success (intro h; cases h; done)) | refine c_t rfl ?_ | refine c_f rfl ?_ | refine c_s rfl ?_ ?_
    | (intro h; (try simp only [decide_eq_true_eq, decide_eq_false_iff_not, Bool.not_eq_true', Bool.not_eq_false', beq_iff_eq, bne_iff_ne, beq_eq_false_iff_ne, bne_eq_false_iff_eq, ne_eq, toListI] at h); (try simp only [toListC] at h))
    | refine o_a hY (a_box rfl rfl rfl ?_) | refine o_a hY (a_alz rfl rfl rfl rfl rfl ?_) | refine o_a hY (a_als rfl rfl rfl ?_) | refine o_a hY (a_st rfl rfl rfl (.d rfl) rfl rfl ?_)
    | refine r_of (r_d rfl ?_) | refine r_of (r_c rfl rfl ?_) | refine r_of (r_2 rfl rfl ?_) | refine r_of (r_4 rfl rfl rfl rfl ?_)
    | refine o_v hY (v_ldb rfl rfl rfl (sub_encE _)) rfl ?_
    | refine o_a hY (a_call (l3Count_c x hg 1 (by omega) (by omega)) (.cons (.d rfl) (.cons (.d rfl) .nil)) rfl ?_))
  exact isR_b rfl
theorem msr_bd (x : Ex) : ∀ d : Int, -1 ≤ msr d x ∧ msr d x ≤ szE x + 1 ∧ msr d x ≠ 0 := by
  refine Ex.ind (P := fun x => ∀ d : Int, -1 ≤ msr d x ∧ msr d x ≤ szE x + 1 ∧ msr d x ≠ 0) (fun k n s l ih => ?_) x
  intro d
  unfold msr szE
  split
  · omega
  · have key : ∀ (l : List Ex), (∀ x ∈ l, ∀ d : Int, -1 ≤ msr d x ∧ msr d x ≤ szE x + 1 ∧ msr d x ≠ 0) → ∀ n : Int, 1 ≤ n → -1 ≤ msrl (d + 1) l n ∧ msrl (d + 1) l n ≤ n + l.length + sumE l ∧ msrl (d + 1) l n ≠ 0 := by
      intro l
      induction l with
      | nil => intro _ n h1; simp only [msrl, sumE, List.length_nil]; omega
      | cons x r ihr =>
        intro hx n h1
        unfold msrl
        simp only [sumE, List.length_cons]
        have := hx x List.mem_cons_self (d + 1)
        split
        · omega
        · have := ihr (fun y hy => hx y (List.mem_cons_of_mem _ hy)) (n + msr (d + 1) x) (by omega)
          omega
    have := key l ih 1 (by omega)
    omega
theorem cnt_msr (x : Ex) : ∀ d : Int, (msr d x = -1 → 60 < cntS d x) ∧ (msr d x ≠ -1 → 1 ≤ msr d x ∧ (msr d x ≤ 60 → cntS d x = msr d x) ∧ (60 < msr d x → 60 < cntS d x)) := by
  refine Ex.ind (P := fun x => ∀ d : Int, (msr d x = -1 → 60 < cntS d x) ∧ (msr d x ≠ -1 → 1 ≤ msr d x ∧ (msr d x ≤ 60 → cntS d x = msr d x) ∧ (60 < msr d x → 60 < cntS d x))) (fun k n s l ih => ?_) x
  intro d
  unfold msr cntS
  split
  · omega
  · have key : ∀ (l : List Ex), (∀ x ∈ l, ∀ d : Int, (msr d x = -1 → 60 < cntS d x) ∧ (msr d x ≠ -1 → 1 ≤ msr d x ∧ (msr d x ≤ 60 → cntS d x = msr d x) ∧ (60 < msr d x → 60 < cntS d x))) → ∀ n : Int, 1 ≤ n → (msrl (d + 1) l n = -1 → 60 < cntSl (d + 1) l n) ∧ (msrl (d + 1) l n ≠ -1 → n ≤ msrl (d + 1) l n ∧ (msrl (d + 1) l n ≤ 60 → cntSl (d + 1) l n = msrl (d + 1) l n) ∧ (60 < msrl (d + 1) l n → 60 < cntSl (d + 1) l n)) := by
      intro l
      induction l with
      | nil => intro _ n h1; simp only [msrl, cntSl]; exact ⟨fun h => by omega, fun h => ⟨by omega, fun _ => by trivial, fun h => h⟩⟩
      | cons x r ihr =>
        intro hx n h1
        have a := hx x List.mem_cons_self (d + 1)
        have b := msr_bd x (d + 1)
        have e := cntS_bd x (d + 1)
        unfold msrl cntSl
        have ir := ihr (fun y hy => hx y (List.mem_cons_of_mem _ hy))
        by_cases hn : n ≤ 60
        · rw [if_pos hn]
          by_cases hm : msr (d + 1) x < 0
          · have := a.1 (by omega)
            have hc : ¬ (n + cntS (d + 1) x ≤ 60) := by omega
            rw [if_pos hm, cntSl_gt _ _ _ hc]
            omega
          · rw [if_neg hm]
            have i1 := ir (n + msr (d + 1) x) (by omega)
            by_cases h60 : msr (d + 1) x ≤ 60
            · have hc := (a.2 (by omega)).2.1 h60
              rw [hc]
              omega
            · have := (a.2 (by omega)).2.2 (by omega)
              have hc : ¬ (n + cntS (d + 1) x ≤ 60) := by omega
              rw [cntSl_gt _ _ _ hc]
              omega
        · rw [if_neg hn]
          by_cases hm : msr (d + 1) x < 0
          · rw [if_pos hm]
            omega
          · rw [if_neg hm]
            have i1 := ir (n + msr (d + 1) x) (by omega)
            omega
    have := key l ih 1 (by omega)
    omega
theorem ok_msr (x : Ex) : within (msr 1 x) 1 60 = okE x := by
  have h := cnt_msr x 1
  have b := cntS_bd x 1
  rw [Bool.eq_iff_iff]
  simp only [within, okE, Bool.and_eq_true, decide_eq_true_eq]
  by_cases hm : msr 1 x = -1
  · have := h.1 hm; omega
  · have := h.2 hm; omega
def Cmsr (x : Ex) : Prop := szE x ≤ 1048576 → ∀ d : Int, 1 ≤ d → d ≤ 9 → AC Try.prog 28 [.d (encE x), .d (.i .i64 d)] [] (isR (.d (.i .i64 (msr d x))))
theorem measure_c (x : Ex) : Cmsr x := by
  refine Ex.ind (fun k n s l ih => ?_) x
  intro hz d h0 h1
  have hg := goodE_sz _ (show szE (.mk k n s l) ≤ 9223372036854775807 by omega)
  have hh := partsOk_c k n s l hg.1
  have hlen := encEs_len l
  simp only [szE] at hz
  generalize hr : msr d _ = res
  unfold msr at hr
  unfold encE at hh ⊢
  (refine AC_fn hY Try.func28 rfl Try.ntmps28 Try.results28 rfl (eq_true (by simp)) ?_; simp only [enumT])
  repeat' (first
    | refine s_seq ?_ | refine s_block ?_ | refine s_reg ?_ | refine s_skip ?_ | refine s_ret ?_ | refine s_end ?_ | refine n_seq ?_ | refine n_blk ?_ | refine n_nil ?_ | refine s_exit ?_ | refine e_seq ?_ | refine e_lp ?_ | refine e_blk ?_ | refine e_blk' rfl ?_
    | (refine o_v hY (v_wr rfl ?_) rfl ?_; · omega) | refine o_v hY (v_pv rfl) rfl ?_ | refine g_y rfl rfl ?_ | refine g_n hY rfl rfl rfl ?_ | refine g_u hY rfl rfl rfl ?_ | (refine g_s rfl rfl ?_ ?_ <;> fail_if_success (intro h; cases h; done)) | refine c_t rfl ?_ | refine c_f rfl ?_ | refine c_s rfl ?_ ?_
    | (intro h; (try simp only [decide_eq_true_eq, decide_eq_false_iff_not, Bool.not_eq_true', Bool.not_eq_false', beq_iff_eq, bne_iff_ne, beq_eq_false_iff_ne, bne_eq_false_iff_eq, ne_eq, toListI] at h); (try simp only [toListC] at h))
    | refine o_a hY (a_box rfl rfl rfl ?_) | refine o_a hY (a_alz rfl rfl rfl rfl rfl ?_) | refine o_a hY (a_als rfl rfl rfl ?_) | refine o_a hY (a_st rfl rfl rfl (.d rfl) rfl rfl ?_)
    | refine r_of (r_d rfl ?_) | refine r_of (r_c rfl rfl ?_) | refine r_of (r_2 rfl rfl ?_) | refine r_of (r_4 rfl rfl rfl rfl ?_)
    | refine o_a hY (a_call hh (.cons (.d rfl) .nil) rfl ?_))
  · exact isR_i (by rw [← hr, if_pos (by simp; omega)])
  · exact isR_i (by rw [← hr, if_pos (by simp [h])])
  rw [if_neg (by simp [h]; omega)] at hr
  refine s_loop (fun m τ => ∃ (j : Nat) (c : Int), j ≤ l.length ∧ m = l.length - j ∧ 1 ≤ c ∧ c ≤ 1 + j + sumE (l.take j) ∧ msrl (d + 1) (l.drop j) c = res ∧ τ = ⟨[(1, .d (.i .i64 d)), (17, .d (.sl (encEs l))), (18, .d (.i .i64 ((encEs l).length : Int))), (5, .d (.i .i64 c)), (19, .d (.i .i64 (j : Int)))], [], []⟩) l.length ⟨0, 1, Nat.zero_le _, rfl, by omega, by simp [sumE], hr, rfl⟩ (Wk.of ⟨rfl, rfl, rfl, rfl, rfl, trivial⟩ trivial rfl) ?_
  rintro m τ ⟨j, c, hj, rfl, h2, h3, h4, rfl⟩
  repeat' (first
    | refine s_seq ?_ | refine s_block ?_ | refine s_reg ?_ | refine s_skip ?_ | refine s_ret ?_ | refine s_end ?_ | refine n_seq ?_ | refine n_blk ?_ | refine n_nil ?_ | refine s_exit ?_ | refine e_seq ?_ | refine e_lp ?_ | refine e_blk ?_ | refine e_blk' rfl ?_
    | (refine o_v hY (v_wr rfl ?_) rfl ?_; · omega) | refine o_v hY (v_pv rfl) rfl ?_ | refine g_y rfl rfl ?_ | refine g_n hY rfl rfl rfl ?_ | refine g_u hY rfl rfl rfl ?_ | (refine g_s rfl rfl ?_ ?_ <;> fail_if_success (intro h; cases h; done)) | refine c_t rfl ?_ | refine c_f rfl ?_ | refine c_s rfl ?_ ?_
    | (intro h; (try simp only [decide_eq_true_eq, decide_eq_false_iff_not, Bool.not_eq_true', Bool.not_eq_false', beq_iff_eq, bne_iff_ne, beq_eq_false_iff_ne, bne_eq_false_iff_eq, ne_eq, toListI] at h); (try simp only [toListC] at h))
    | refine o_a hY (a_box rfl rfl rfl ?_) | refine o_a hY (a_alz rfl rfl rfl rfl rfl ?_) | refine o_a hY (a_als rfl rfl rfl ?_) | refine o_a hY (a_st rfl rfl rfl (.d rfl) rfl rfl ?_)
    | refine r_of (r_d rfl ?_) | refine r_of (r_c rfl rfl ?_) | refine r_of (r_2 rfl rfl ?_) | refine r_of (r_4 rfl rfl rfl rfl ?_)
    | (refine o_v hY (v_ia j rfl rfl (.d rfl) rfl rfl (encEs_get l j ?_) (size_encE _)) rfl ?_; · omega)
    | refine o_v hY (v_ldp rfl rfl (sub_encE _)) rfl ?_ | refine o_v hY (v_ldb rfl rfl rfl (sub_encE _)) rfl ?_
    | refine o_a hY (a_st rfl rfl rfl (.d rfl) (set_E _) (size_encE _) ?_)
    | (refine o_a hY (a_call (ih l[j] (List.getElem_mem _) ?_ (d + 1) ?_ ?_) (.cons (.d rfl) (.cons (.d rfl) .nil)) rfl ?_)
       · (have := sumE_mem l l[j] (List.getElem_mem _); omega)
       · omega
       · omega
       have hb := msr_bd l[j] (d + 1)
       have hp := sumE_pre l j (by omega)))
  · rw [List.drop_eq_getElem_cons (by omega), msrl, if_pos h] at h4
    exact isR_i h4
  · have h5 := sumE_take l j (by omega)
    refine n_lp (l.length - (j+1)) ⟨j+1, c + msr (d + 1) l[j], by omega, rfl, by omega, by omega, ?_, rfl⟩ (by omega) (Wk.of ⟨rfl, rfl, rfl, rfl, rfl, trivial⟩ trivial rfl)
    rw [List.drop_eq_getElem_cons (by omega), msrl, if_neg h] at h4
    exact h4
  · obtain rfl : j = l.length := by omega
    rw [List.drop_length] at h4
    exact isR_i h4
theorem implExpOk_c (x : Ex) (hz : szE x ≤ 1048576) : AC Try.prog 10 [.d (encE x)] [] (isR (.d (.b (okE x)))) := by
  rw [← ok_msr]
  (refine AC_fn hY Try.func10 rfl Try.ntmps10 Try.results10 rfl (eq_true (by simp)) ?_; simp only [enumT])
  repeat' (first
    | refine s_seq ?_ | refine s_block ?_ | refine s_reg ?_ | refine s_skip ?_ | refine s_ret ?_ | refine s_end ?_ | refine n_seq ?_ | refine n_blk ?_ | refine n_nil ?_ | refine s_exit ?_ | refine e_seq ?_ | refine e_lp ?_ | refine e_blk ?_ | refine e_blk' rfl ?_
    | (refine o_v hY (v_wr rfl ?_) rfl ?_; · omega) | refine o_v hY (v_pv rfl) rfl ?_ | refine g_y rfl rfl ?_ | refine g_n hY rfl rfl rfl ?_ | refine g_u hY rfl rfl rfl ?_ | (refine g_s rfl rfl ?_ ?_ <;> fail_if_success (intro h; cases h; done)) | refine c_t rfl ?_ | refine c_f rfl ?_ | refine c_s rfl ?_ ?_
    | (intro h; (try simp only [decide_eq_true_eq, decide_eq_false_iff_not, Bool.not_eq_true', Bool.not_eq_false', beq_iff_eq, bne_iff_ne, beq_eq_false_iff_ne, bne_eq_false_iff_eq, ne_eq, toListI] at h); (try simp only [toListC] at h))
    | refine o_a hY (a_box rfl rfl rfl ?_) | refine o_a hY (a_alz rfl rfl rfl rfl rfl ?_) | refine o_a hY (a_als rfl rfl rfl ?_) | refine o_a hY (a_st rfl rfl rfl (.d rfl) rfl rfl ?_)
    | refine r_of (r_d rfl ?_) | refine r_of (r_c rfl rfl ?_) | refine r_of (r_2 rfl rfl ?_) | refine r_of (r_4 rfl rfl rfl rfl ?_)
    | refine o_v hY (v_ldb rfl rfl rfl (sub_encE _)) rfl ?_
    | refine o_a hY (a_call (measure_c x hz 1 (by omega) (by omega)) (.cons (.d rfl) (.cons (.d rfl) .nil)) rfl ?_)
    | refine o_a hY (a_call (inRange_c _ _ _) (.cons (.d rfl) (.cons (.d rfl) (.cons (.d rfl) .nil))) rfl ?_))
  exact isR_b rfl
end Go.Proofs.Ytmclamindmnigaa.Ax
