/- Contracts of functions that the claim reaches, over data without addresses, and what follows of them (text Q2). No conditions beside those that each theorem names. -/
import Derived.Test.YtmmdgciefehbcaaGreatDoorQ1
import Derived.Test.YtmmdgciefehbcaaGreatDoorP9
set_option linter.unusedVariables false
set_option linter.unusedSimpArgs false
namespace Go.Proofs.YtmmdgciefehbcaaGreatDoor.Ax
def knd : Ex → Int | .mk k _ _ _ => k
def sumK (k : Int) : Bool := decide (k = 4) || decide (k = 5)
def wi (t : ByteArray) (b : Bool) : ByteArray := if b = true then (⟨#[40]⟩ ++ t) ++ ⟨#[41]⟩ else t
def nth (l : List (Int × ByteArray)) (i : Nat) : Int × ByteArray := l.getD i (0, ⟨#[]⟩)
mutual
/-- An expression's text. -/
def txE : Ex → ByteArray
  | .mk k n s l => txK k n s (txEs l)
def txEs : List Ex → List (Int × ByteArray)
  | [] => []
  | x :: r => (knd x, txE x) :: txEs r
def txK (k n : Int) (s : ByteArray) (l : List (Int × ByteArray)) : ByteArray :=
  if k = 1 then numT n else if k = 2 then s
  else if k = 3 then ((s ++ ⟨#[91]⟩) ++ (nth l 0).2) ++ ⟨#[93]⟩
  else if k = 4 then ((nth l 0).2 ++ ⟨#[32, 43, 32]⟩) ++ wi (nth l 1).2 (sumK (nth l 1).1)
  else if k = 5 then ((nth l 0).2 ++ ⟨#[32, 45, 32]⟩) ++ wi (nth l 1).2 (sumK (nth l 1).1)
  else if k = 6 then (wi (nth l 0).2 (sumK (nth l 0).1) ++ ⟨#[32, 42, 32]⟩) ++ wi (nth l 1).2 (sumK (nth l 1).1 || decide ((nth l 1).1 = 6))
  else if k = 7 then (((⟨#[109, 105, 110, 40]⟩ ++ (nth l 0).2) ++ ⟨#[44, 32]⟩) ++ (nth l 1).2) ++ ⟨#[41]⟩
  else (((⟨#[109, 97, 120, 40]⟩ ++ (nth l 0).2) ++ ⟨#[44, 32]⟩) ++ (nth l 1).2) ++ ⟨#[41]⟩
end
mutual
def okT : Ex → Prop
  | .mk k n s l => hereE k n s l.length = true ∧ okTs l
def okTs : List Ex → Prop
  | [] => True
  | x :: r => okT x ∧ okTs r
end
mutual
def szT : Ex → Nat
  | .mk k n s l => 40 + s.size + szTs l
def szTs : List Ex → Nat
  | [] => 0
  | x :: r => szT x + szTs r
end
theorem szl (a : Array UInt8) : (⟨a⟩ : ByteArray).size = a.size := rfl
theorem wi_size (t : ByteArray) (b : Bool) : (wi t b).size ≤ t.size + 2 ∧ t.size ≤ (wi t b).size := by
  unfold wi
  split
  · simp only [ByteArray.size_append, szl, List.size_toArray, List.length_cons, List.length_nil]; omega
  · omega
theorem okName_size {s : ByteArray} (h : okName s = true) : s.size ≤ 6 := by
  unfold okName within at h
  simp at h
  omega
/-- What a right expression looks like. -/
theorem here_cases {k n : Int} {s : ByteArray} {l : List Ex} (h : hereE k n s l.length = true) : (k = 1 ∧ 0 ≤ n ∧ n ≤ 999999 ∧ l = [] ∧ s.size ≤ 6) ∨ (k = 2 ∧ l = [] ∧ s.size ≤ 6) ∨ (k = 3 ∧ (∃ a, l = [a]) ∧ s.size ≤ 6) ∨ ((k = 4 ∨ k = 5 ∨ k = 6 ∨ k = 7 ∨ k = 8) ∧ (∃ a b, l = [a, b]) ∧ s.size ≤ 6) := by
  unfold hereE at h
  split at h
  · rename_i hk
    simp [within] at h
    obtain ⟨h1, h2, h3⟩ := h
    subst h2
    exact .inl ⟨hk, h1.1, h1.2, h3, by decide⟩
  split at h
  · rename_i hk
    simp at h
    exact .inr (.inl ⟨hk, h.2.2, okName_size h.1⟩)
  split at h
  · rename_i hk
    simp at h
    refine .inr (.inr (.inl ⟨hk, ?_, okName_size h.1⟩))
    have : l.length = 1 := by omega
    exact List.length_eq_one_iff.1 this
  · simp [within] at h
    obtain ⟨h1, h2, h3, h4⟩ := h
    subst h3
    refine .inr (.inr (.inr ⟨by omega, ?_, by decide⟩))
    have : l.length = 2 := by omega
    match l, this with
    | [a, b], _ => exact ⟨a, b, rfl⟩
theorem tx_size (x : Ex) : okT x → (txE x).size ≤ szT x := by
  refine Ex.ind (P := fun x => okT x → (txE x).size ≤ szT x) (fun k n s l ih => ?_) x
  intro h
  obtain ⟨h, hl⟩ := h
  rcases here_cases h with ⟨rfl, h0, h1, rfl, hs⟩ | ⟨rfl, rfl, hs⟩ | ⟨rfl, ⟨a, rfl⟩, hs⟩ | ⟨hk, ⟨a, b, rfl⟩, hs⟩
  · have := numT_size n (by omega) (by omega)
    simp only [txE, txK, szT, szTs, if_true]; omega
  · simp [txE, txK, szT, szTs]
  · have ha := ih a (by simp) hl.1
    simp only [txE, txK, txEs, szT, szTs, nth, List.getD_cons_zero, show ¬ (3 : Int) = 1 by omega, show ¬ (3 : Int) = 2 by omega, if_false, if_true, ByteArray.size_append, szl, List.size_toArray, List.length_cons, List.length_nil]
    omega
  · have ha := ih a (by simp) hl.1
    have hb := ih b (by simp) hl.2.1
    have w1 := wi_size (txE a)
    have w2 := wi_size (txE b)
    simp only [txE, szT, szTs, txEs, txK, nth, List.getD_cons_zero, List.getD_cons_succ]
    have q1 := (w1 (sumK (knd a))).1
    have q2 := (w2 (sumK (knd b))).1
    have q3 := (w2 (sumK (knd b) || decide (knd b = 6))).1
    rcases hk with rfl | rfl | rfl | rfl | rfl <;> simp only [show ¬ (4 : Int) = 1 by omega, show ¬ (4 : Int) = 2 by omega, show ¬ (4 : Int) = 3 by omega, show ¬ (5 : Int) = 1 by omega, show ¬ (5 : Int) = 2 by omega, show ¬ (5 : Int) = 3 by omega, show ¬ (5 : Int) = 4 by omega, show ¬ (6 : Int) = 1 by omega, show ¬ (6 : Int) = 2 by omega, show ¬ (6 : Int) = 3 by omega, show ¬ (6 : Int) = 4 by omega, show ¬ (6 : Int) = 5 by omega, show ¬ (7 : Int) = 1 by omega, show ¬ (7 : Int) = 2 by omega, show ¬ (7 : Int) = 3 by omega, show ¬ (7 : Int) = 4 by omega, show ¬ (7 : Int) = 5 by omega, show ¬ (7 : Int) = 6 by omega, show ¬ (8 : Int) = 1 by omega, show ¬ (8 : Int) = 2 by omega, show ¬ (8 : Int) = 3 by omega, show ¬ (8 : Int) = 4 by omega, show ¬ (8 : Int) = 5 by omega, show ¬ (8 : Int) = 6 by omega, show ¬ (8 : Int) = 7 by omega, if_false, if_true, ByteArray.size_append, szl, List.size_toArray, List.length_cons, List.length_nil] <;> omega
/-- A right expression is small. -/
theorem cnt_okT (x : Ex) : ∀ d : Int, 0 ≤ d → cntS d x ≤ 60 → okT x ∧ (szT x : Int) ≤ 46 * cntS d x := by
  refine Ex.ind (P := fun x => ∀ d : Int, 0 ≤ d → cntS d x ≤ 60 → okT x ∧ (szT x : Int) ≤ 46 * cntS d x) (fun k n s l ih => ?_) x
  intro d hd h
  unfold cntS at h ⊢
  split at h
  · omega
  rename_i hc
  rw [if_neg hc]
  simp only [Bool.or_eq_true, Bool.not_eq_true', not_or, Bool.not_eq_false] at hc
  have hs : s.size ≤ 6 := by rcases here_cases hc.2 with ⟨_, _, _, _, h⟩ | ⟨_, _, h⟩ | ⟨_, _, h⟩ | ⟨_, _, h⟩ <;> exact h
  have key : ∀ (l : List Ex), (∀ x ∈ l, ∀ d : Int, 0 ≤ d → cntS d x ≤ 60 → okT x ∧ (szT x : Int) ≤ 46 * cntS d x) → ∀ n : Int, 1 ≤ n → cntSl (d + 1) l n ≤ 60 → okTs l ∧ (szTs l : Int) + 46 * n ≤ 46 * cntSl (d + 1) l n := by
    intro l
    induction l with
    | nil => intro _ n _ h; simp only [cntSl, okTs, szTs] at h ⊢; simp
    | cons x r ihr =>
      intro hx n hn h
      have hx0 := cntS_lo (d + 1) x (by omega)
      unfold cntSl at h ⊢
      split at h
      · rename_i hn60
        rw [if_pos hn60]
        have hmono : n + cntS (d + 1) x ≤ cntSl (d + 1) r (n + cntS (d + 1) x) := by
          clear ihr h hx
          generalize n + cntS (d + 1) x = m
          induction r generalizing m with
          | nil => simp [cntSl]
          | cons z q ih =>
            unfold cntSl
            split
            · have := ih (m + cntS (d + 1) z)
              have := cntS_lo (d + 1) z (by omega)
              omega
            · omega
        have h1 := hx x (by simp) (d + 1) (by omega) (by omega)
        have h2 := ihr (fun z hz => hx z (by simp [hz])) _ (by omega) h
        refine ⟨⟨h1.1, h2.1⟩, ?_⟩
        simp only [szTs]
        omega
      · rename_i hn60
        omega
  have := key l ih 1 (by omega) h
  refine ⟨⟨hc.2, this.1⟩, ?_⟩
  simp only [szT]
  omega
theorem okE_okT {x : Ex} (h : okE x = true) : okT x ∧ (txE x).size ≤ 2760 := by
  unfold okE at h
  have h := of_decide_eq_true h
  obtain ⟨h1, h2⟩ := cnt_okT x 1 (by omega) h
  have := tx_size x h1
  exact ⟨h1, by omega⟩
theorem within_c (s : ByteArray) (b : Bool) (h : s.size ≤ 1000000000) : AC Go.Proofs.Tryz.prog 71 [.d (.s s), .d (.b b)] [] (isR (.d (.s (wi s b)))) := by
  have z1 := szl #[40]
  have z2 := szl #[41]
  (refine AC_fn hY Tryz.func71 rfl Tryz.ntmps71 Tryz.results71 rfl (eq_true (by simp)) ?_; simp only [enumT])
  repeat' (first
    | refine s_seq ?_ | refine s_block ?_ | refine s_reg ?_ | refine s_skip ?_ | refine s_ret ?_ | refine s_end ?_ | refine n_seq ?_ | refine n_blk ?_ | refine n_nil ?_ | refine s_exit ?_ | refine e_seq ?_ | refine e_lp ?_ | refine e_blk ?_ | refine e_blk' rfl ?_
    | (refine o_v hY (v_wr rfl ?_) rfl ?_; · omega) | refine o_v hY (v_pv rfl) rfl ?_ | refine g_y rfl rfl ?_ | refine g_n hY rfl rfl rfl ?_ | refine g_u hY rfl rfl rfl ?_ | (refine g_s rfl rfl ?_ ?_ <;> fail_if_success (intro h; cases h; done)) | refine c_t rfl ?_ | refine c_f rfl ?_ | refine c_s rfl ?_ ?_
    | (intro h; (try simp only [decide_eq_true_eq, decide_eq_false_iff_not, Bool.not_eq_true', Bool.not_eq_false', beq_iff_eq, bne_iff_ne, beq_eq_false_iff_ne, bne_eq_false_iff_eq, ne_eq, toListI] at h); (try simp only [toListC] at h))
    | refine o_a hY (a_box rfl rfl rfl ?_) | refine o_a hY (a_alz rfl rfl rfl rfl rfl ?_) | refine o_a hY (a_als rfl rfl rfl ?_) | refine o_a hY (a_st rfl rfl rfl (.d rfl) rfl rfl ?_)
    | refine r_of (r_d rfl ?_) | refine r_of (r_c rfl rfl ?_) | refine r_of (r_2 rfl rfl ?_) | refine r_of (r_4 rfl rfl rfl rfl ?_)
    | (refine o_v hY (v_cat rfl rfl ?_) rfl ?_
       · (simp only [ByteArray.size_append, szl, List.size_toArray, List.length_cons, List.length_nil]; omega)))
  all_goals (refine isR_s ?_; unfold wi; simp_all)
theorem isSum_c (x : Ex) : AC Go.Proofs.Tryz.prog 72 [.d (encE x)] [] (isR (.d (.b (sumK (knd x))))) := by
  obtain ⟨k, n, s, l⟩ := x
  unfold encE
  (refine AC_fn hY Tryz.func72 rfl Tryz.ntmps72 Tryz.results72 rfl (eq_true (by simp)) ?_; simp only [enumT])
  repeat' (first
    | refine s_seq ?_ | refine s_block ?_ | refine s_reg ?_ | refine s_skip ?_ | refine s_ret ?_ | refine s_end ?_ | refine n_seq ?_ | refine n_blk ?_ | refine n_nil ?_ | refine s_exit ?_ | refine e_seq ?_ | refine e_lp ?_ | refine e_blk ?_ | refine e_blk' rfl ?_
    | (refine o_v hY (v_wr rfl ?_) rfl ?_; · omega) | refine o_v hY (v_pv rfl) rfl ?_ | refine g_y rfl rfl ?_ | refine g_n hY rfl rfl rfl ?_ | refine g_u hY rfl rfl rfl ?_ | (refine g_s rfl rfl ?_ ?_ <;> fail_if_success (intro h; cases h; done)) | refine c_t rfl ?_ | refine c_f rfl ?_ | refine c_s rfl ?_ ?_
    | (intro h; (try simp only [decide_eq_true_eq, decide_eq_false_iff_not, Bool.not_eq_true', Bool.not_eq_false', beq_iff_eq, bne_iff_ne, beq_eq_false_iff_ne, bne_eq_false_iff_eq, ne_eq, toListI] at h); (try simp only [toListC] at h))
    | refine o_a hY (a_box rfl rfl rfl ?_) | refine o_a hY (a_alz rfl rfl rfl rfl rfl ?_) | refine o_a hY (a_als rfl rfl rfl ?_) | refine o_a hY (a_st rfl rfl rfl (.d rfl) rfl rfl ?_)
    | refine r_of (r_d rfl ?_) | refine r_of (r_c rfl rfl ?_) | refine r_of (r_2 rfl rfl ?_) | refine r_of (r_4 rfl rfl rfl rfl ?_))
  all_goals (refine isR_b' ?_; unfold sumK knd; simp_all [eqI])
def lvl (k : Int) : Int := if k = 4 ∨ k = 5 then 1 else if k = 6 then 2 else 3
theorem level_c (x : Ex) : AC Go.Proofs.Tryz.prog 78 [.d (encE x)] [] (isR (.d (.i .i64 (lvl (knd x))))) := by
  obtain ⟨k, n, s, l⟩ := x
  unfold encE
  (refine AC_fn hY Tryz.func78 rfl Tryz.ntmps78 Tryz.results78 rfl (eq_true (by simp)) ?_; simp only [enumT])
  repeat' (first
    | refine s_seq ?_ | refine s_block ?_ | refine s_reg ?_ | refine s_skip ?_ | refine s_ret ?_ | refine s_end ?_ | refine n_seq ?_ | refine n_blk ?_ | refine n_nil ?_ | refine s_exit ?_ | refine e_seq ?_ | refine e_lp ?_ | refine e_blk ?_ | refine e_blk' rfl ?_
    | (refine o_v hY (v_wr rfl ?_) rfl ?_; · omega) | refine o_v hY (v_pv rfl) rfl ?_ | refine g_y rfl rfl ?_ | refine g_n hY rfl rfl rfl ?_ | refine g_u hY rfl rfl rfl ?_ | (refine g_s rfl rfl ?_ ?_ <;> fail_if_success (intro h; cases h; done)) | refine c_t rfl ?_ | refine c_f rfl ?_ | refine c_s rfl ?_ ?_
    | (intro h; (try simp only [decide_eq_true_eq, decide_eq_false_iff_not, Bool.not_eq_true', Bool.not_eq_false', beq_iff_eq, bne_iff_ne, beq_eq_false_iff_ne, bne_eq_false_iff_eq, ne_eq, toListI] at h); (try simp only [toListC] at h))
    | refine o_a hY (a_box rfl rfl rfl ?_) | refine o_a hY (a_alz rfl rfl rfl rfl rfl ?_) | refine o_a hY (a_als rfl rfl rfl ?_) | refine o_a hY (a_st rfl rfl rfl (.d rfl) rfl rfl ?_)
    | refine r_of (r_d rfl ?_) | refine r_of (r_c rfl rfl ?_) | refine r_of (r_2 rfl rfl ?_) | refine r_of (r_4 rfl rfl rfl rfl ?_))
  all_goals (refine isR_i ?_; unfold lvl knd; simp_all)
end Go.Proofs.YtmmdgciefehbcaaGreatDoor.Ax
