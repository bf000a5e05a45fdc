/- Contracts of functions that the claim reaches, over data without addresses, and what follows of them (text P1). No conditions beside those that each theorem names. -/
import Derived.Test.YtmmdgciefehbcaaGreatDoorAxT
set_option linter.unusedVariables false
set_option linter.unusedSimpArgs false
namespace Go.Proofs.YtmmdgciefehbcaaGreatDoor.Ax

inductive Ex where
  | mk (k n : Int) (s : ByteArray) (l : List Ex)
inductive Sm where
  | mk (k : Int) (s : ByteArray) (a e lo hi : Ex) (b : List Sm)
structure Ar where
  s : ByteArray
  n : Int
structure Pg where
  a : List Ar
  b : List Sm
mutual
def encE : Ex → D
  | .mk k n s l => .ag [.i .i64 k, .i .i64 n, .s s, .sl (encEs l)]
def encEs : List Ex → List D
  | [] => []
  | x :: r => encE x :: encEs r
end
mutual
def encS : Sm → D
  | .mk k s a e lo hi b => .ag [.i .i64 k, .s s, encE a, encE e, encE lo, encE hi, .sl (encSs b)]
def encSs : List Sm → List D
  | [] => []
  | x :: r => encS x :: encSs r
end
def encA (x : Ar) : D := .ag [.s x.s, .i .i64 x.n]
def encAs : List Ar → List D
  | [] => []
  | x :: r => encA x :: encAs r
def encP (p : Pg) : D := .ag [.sl (encAs p.a), .sl (encSs p.b)]
theorem toListI (a b : ByteArray) : (a.toList = b.toList) ↔ a = b := by
  have := eqS a b
  rw [Bool.eq_iff_iff] at this
  simpa using this
theorem toListC (a : ByteArray) (l : List UInt8) : (a.toList = l) ↔ a = ⟨l.toArray⟩ := by
  rw [ByteArray.toList_eq]
  cases a with | mk d => 
  simp only [ByteArray.mk.injEq]
  exact ⟨fun h => by rw [← h], fun h => by rw [h]⟩
theorem dsub_ag {xs : List D} {n : Nat} (h : (D.ag xs).size = n) : (D.ag xs).sub 0 n true = some (.ag xs) := by rw [D.sub]; subst h; simp [D.size]
theorem size_encE (x : Ex) : (encE x).size = 4 := by cases x; rfl
theorem size_encS (x : Sm) : (encS x).size = 19 := by cases x; simp only [encS, D.size, sizes, size_encE]
theorem size_encA (x : Ar) : (encA x).size = 2 := rfl
theorem size_encP (x : Pg) : (encP x).size = 2 := rfl
theorem sub_encE (x : Ex) : (encE x).sub 0 4 true = some (encE x) := by cases x; rfl
theorem sub_encS (x : Sm) : (encS x).sub 0 19 true = some (encS x) := by have := size_encS x; cases x; unfold encS at *; exact dsub_ag this
theorem sub_encA (x : Ar) : (encA x).sub 0 2 true = some (encA x) := rfl
mutual
theorem Ex.ind {P : Ex → Prop} (h : ∀ k n s l, (∀ x ∈ l, P x) → P (.mk k n s l)) : ∀ x, P x
  | .mk k n s l => h k n s l (Ex.inds h l)
theorem Ex.inds {P : Ex → Prop} (h : ∀ k n s l, (∀ x ∈ l, P x) → P (.mk k n s l)) : ∀ l : List Ex, ∀ x ∈ l, P x
  | [], x, hx => by simp at hx
  | y :: r, x, hx => by
    cases hx with
    | head => exact Ex.ind h y
    | tail _ hx => exact Ex.inds h r x hx
end
mutual
theorem Sm.ind {P : Sm → Prop} (h : ∀ k s a e lo hi b, (∀ x ∈ b, P x) → P (.mk k s a e lo hi b)) : ∀ x, P x
  | .mk k s a e lo hi b => h k s a e lo hi b (Sm.inds h b)
theorem Sm.inds {P : Sm → Prop} (h : ∀ k s a e lo hi b, (∀ x ∈ b, P x) → P (.mk k s a e lo hi b)) : ∀ l : List Sm, ∀ x ∈ l, P x
  | [], x, hx => by simp at hx
  | y :: r, x, hx => by
    cases hx with
    | head => exact Sm.ind h y
    | tail _ hx => exact Sm.inds h r x hx
end
mutual
def szE : Ex → Nat
  | .mk _ _ s l => s.size + (l.length + sumE l)
def sumE : List Ex → Nat
  | [] => 0
  | x :: r => szE x + sumE r
end
mutual
def szS : Sm → Nat
  | .mk _ s a e lo hi b => s.size + (szE a + (szE e + (szE lo + (szE hi + (b.length + sumS b)))))
def sumS : List Sm → Nat
  | [] => 0
  | x :: r => szS x + sumS r
end
def szA (x : Ar) : Nat := x.s.size
def sumA : List Ar → Nat
  | [] => 0
  | x :: r => szA x + sumA r
def szP (p : Pg) : Nat := (p.a.length + sumA p.a) + (p.b.length + sumS p.b)
mutual
def goodE : Ex → Prop
  | .mk _ _ s l => s.size ≤ 9223372036854775807 ∧ l.length ≤ 9223372036854775807 ∧ goodEs l
def goodEs : List Ex → Prop
  | [] => True
  | x :: r => goodE x ∧ goodEs r
end
mutual
def goodS : Sm → Prop
  | .mk _ s a e lo hi b => s.size ≤ 9223372036854775807 ∧ b.length ≤ 9223372036854775807 ∧ goodE a ∧ goodE e ∧ goodE lo ∧ goodE hi ∧ goodSs b
def goodSs : List Sm → Prop
  | [] => True
  | x :: r => goodS x ∧ goodSs r
end
def goodA (x : Ar) : Prop := x.s.size ≤ 9223372036854775807
def goodAs : List Ar → Prop
  | [] => True
  | x :: r => goodA x ∧ goodAs r
def goodP (p : Pg) : Prop := p.a.length ≤ 9223372036854775807 ∧ p.b.length ≤ 9223372036854775807 ∧ goodAs p.a ∧ goodSs p.b

def subI (left : Int) (m : Nat) : Int := if (m : Int) ≤ left then left - m else -1
theorem subI_of_gt {l : Int} {m : Nat} (h : l < m) : subI l m = -1 := if_neg (by omega)
theorem subI_of_le {l : Int} {m : Nat} (h : (m : Int) ≤ l) : subI l m = l - m := if_pos h
theorem subI_neg {l : Int} {m : Nat} (h0 : 0 ≤ l) (h : subI l m < 0) : l < m := by
  unfold subI at h; split at h <;> omega
theorem subI_nn {l : Int} {m : Nat} (h : ¬ subI l m < 0) : (m : Int) ≤ l ∧ subI l m = l - m := by
  unfold subI at h ⊢; split at h <;> simp_all
theorem subI_spec {l : Int} {m : Nat} {z : Int} (h : subI l m = z) : ((m : Int) ≤ l ∧ z = l - m) ∨ (l < m ∧ z = -1) := by
  unfold subI at h; split at h <;> omega
theorem isR_i {k : IntKind} {a b : Int} (h : a = b) : isR (.d (.i k b)) (.d (.i k a)) [] := by subst h; exact ⟨rfl, rfl⟩
theorem isR_b' {a b : Bool} (h : b = a) : isR (.d (.b b)) (.d (.b a)) [] := by subst h; exact ⟨rfl, rfl⟩
theorem isR_b {a b : Bool} (h : a = b) : isR (.d (.b b)) (.d (.b a)) [] := by subst h; exact ⟨rfl, rfl⟩

theorem encEs_map : ∀ l, encEs l = l.map encE
  | [] => rfl
  | x :: r => by rw [encEs, encEs_map r]; rfl
theorem encEs_len (l : List Ex) : (encEs l).length = l.length := by rw [encEs_map]; simp
theorem encEs_get (l : List Ex) (i : Nat) (h : i < l.length) : (encEs l)[i]? = some (encE l[i]) := by rw [encEs_map]; simp [h]
theorem goodEs_mem : ∀ {l : List Ex}, goodEs l → ∀ x ∈ l, goodE x
  | [], _, x, h => by simp at h
  | y :: r, hg, x, h => by
    rcases List.mem_cons.1 h with rfl | h
    · exact hg.1
    · exact goodEs_mem hg.2 x h
theorem sumE_take (l : List Ex) (j : Nat) (h : j < l.length) : sumE (l.take (j + 1)) = sumE (l.take j) + szE l[j] := by
  induction l generalizing j with
  | nil => simp at h
  | cons x r ih =>
    cases j with
    | zero => simp [sumE]
    | succ j =>
      simp only [List.take_succ_cons, sumE, List.getElem_cons_succ]
      rw [ih j (by simpa using h)]
      omega
theorem sumE_pre (l : List Ex) (j : Nat) (h : j < l.length) : sumE (l.take j) + szE l[j] ≤ sumE l := by
  rw [← sumE_take l j h]
  generalize j + 1 = m
  clear h
  induction l generalizing m with
  | nil => simp
  | cons x r ih => cases m with
    | zero => simp [sumE]
    | succ m => simp only [List.take_succ_cons, sumE]; have := ih m; omega
def CszE (x : Ex) : Prop := goodE x → ∀ left : Int, 0 ≤ left → left ≤ 1048576 → AC Tryz.prog 46 [.d (encE x), .d (.i .i64 left)] [] (isR (.d (.i .i64 (subI left (szE x)))))
theorem szExpS_c (l : List Ex) (ih : ∀ x ∈ l, CszE x) (hl : l.length ≤ 9223372036854775807) (hg : goodEs l) (left : Int) (h0 : 0 ≤ left) (h1 : left ≤ 1048576) :
    AC Tryz.prog 74 [.d (.sl (encEs l)), .d (.i .i64 left)] [] (isR (.d (.i .i64 (subI left (l.length + sumE l))))) := by
  have hlen := encEs_len l
  (refine AC_fn hY Tryz.func74 rfl Tryz.ntmps74 Tryz.results74 rfl (eq_true (by simp)) ?_; simp only [enumT])
  repeat' (first
    | refine s_seq ?_ | refine s_block ?_ | refine s_reg ?_ | refine s_skip ?_ | refine s_ret ?_ | refine s_end ?_ | refine n_seq ?_ | refine n_blk ?_ | refine n_nil ?_ | refine s_exit ?_ | refine e_seq ?_ | refine e_lp ?_ | refine e_blk ?_ | refine e_blk' rfl ?_
    | (refine o_v hY (v_wr rfl ?_) rfl ?_; · omega) | refine o_v hY (v_pv rfl) rfl ?_ | refine g_y rfl rfl ?_ | refine g_n hY rfl rfl rfl ?_ | refine g_u hY rfl rfl rfl ?_ | (refine g_s rfl rfl ?_ ?_ <;> fail_if_success (intro h; cases h; done)) | refine c_t rfl ?_ | refine c_f rfl ?_ | refine c_s rfl ?_ ?_
    | (intro h; (try simp only [decide_eq_true_eq, decide_eq_false_iff_not, Bool.not_eq_true', Bool.not_eq_false', beq_iff_eq, bne_iff_ne, beq_eq_false_iff_ne, bne_eq_false_iff_eq, ne_eq, toListI] at h); (try simp only [toListC] at h))
    | refine o_a hY (a_box rfl rfl rfl ?_) | refine o_a hY (a_alz rfl rfl rfl rfl rfl ?_) | refine o_a hY (a_als rfl rfl rfl ?_) | refine o_a hY (a_st rfl rfl rfl (.d rfl) rfl rfl ?_)
    | refine r_of (r_d rfl ?_) | refine r_of (r_c rfl rfl ?_) | refine r_of (r_2 rfl rfl ?_) | refine r_of (r_4 rfl rfl rfl rfl ?_)
    | (refine o_v hY (v_wr rfl ?_) rfl ?_; · (rw [hlen]; omega)))
  · exact ⟨rfl, by unfold subI; rw [if_neg (by omega)]⟩
  · refine s_loop (fun m τ => ∃ (j : Nat) (lf : Int), j ≤ l.length ∧ m = l.length - j ∧ 0 ≤ lf ∧ lf = left - l.length - sumE (l.take j) ∧ τ = ⟨[(0, .d (.sl (encEs l))), (1, .d (.i .i64 lf)), (5, .d (.i .i64 (j : Int)))], [], []⟩) l.length ⟨0, left - (encEs l).length, Nat.zero_le _, rfl, by omega, by simp [sumE, hlen], rfl⟩ (Wk.of ⟨rfl, rfl, rfl, trivial⟩ trivial rfl) ?_
    rintro m τ ⟨j, lf, hj, rfl, h2, h3, rfl⟩
    have hlf : lf ≤ 1048576 := by omega
    repeat' (first
    | refine s_seq ?_ | refine s_block ?_ | refine s_reg ?_ | refine s_skip ?_ | refine s_ret ?_ | refine s_end ?_ | refine n_seq ?_ | refine n_blk ?_ | refine n_nil ?_ | refine s_exit ?_ | refine e_seq ?_ | refine e_lp ?_ | refine e_blk ?_ | refine e_blk' rfl ?_
    | (refine o_v hY (v_wr rfl ?_) rfl ?_; · omega) | refine o_v hY (v_pv rfl) rfl ?_ | refine g_y rfl rfl ?_ | refine g_n hY rfl rfl rfl ?_ | refine g_u hY rfl rfl rfl ?_ | (refine g_s rfl rfl ?_ ?_ <;> fail_if_success (intro h; cases h; done)) | refine c_t rfl ?_ | refine c_f rfl ?_ | refine c_s rfl ?_ ?_
    | (intro h; (try simp only [decide_eq_true_eq, decide_eq_false_iff_not, Bool.not_eq_true', Bool.not_eq_false', beq_iff_eq, bne_iff_ne, beq_eq_false_iff_ne, bne_eq_false_iff_eq, ne_eq, toListI] at h); (try simp only [toListC] at h))
    | refine o_a hY (a_box rfl rfl rfl ?_) | refine o_a hY (a_alz rfl rfl rfl rfl rfl ?_) | refine o_a hY (a_als rfl rfl rfl ?_) | refine o_a hY (a_st rfl rfl rfl (.d rfl) rfl rfl ?_)
    | refine r_of (r_d rfl ?_) | refine r_of (r_c rfl rfl ?_) | refine r_of (r_2 rfl rfl ?_) | refine r_of (r_4 rfl rfl rfl rfl ?_)
    | (refine o_v hY (v_ia j rfl rfl (.d rfl) rfl rfl (encEs_get l j ?_) (size_encE _)) rfl ?_; · omega)
    | refine o_v hY (v_ldp rfl rfl (sub_encE _)) rfl ?_
    | refine o_a hY (a_call (ih l[j] (List.getElem_mem _) (goodEs_mem hg _ (List.getElem_mem _)) lf h2 hlf) (.cons (.d rfl) (.cons (.d rfl) .nil)) rfl ?_))
    · have h4 := sumE_pre l j (by omega)
      refine ⟨rfl, ?_⟩
      have := subI_neg h2 h
      rw [subI_of_gt (by omega)]
    · have h4 := sumE_take l j (by omega)
      refine n_lp (l.length - (j+1)) ⟨j+1, subI lf (szE l[j]), by omega, rfl, by omega, by have := subI_nn h; omega, rfl⟩ (by omega) (Wk.of ⟨rfl, rfl, rfl, trivial⟩ trivial rfl)
    · obtain rfl : j = l.length := by omega
      rw [List.take_length] at h3
      exact ⟨rfl, by unfold subI; rw [if_pos (by omega)]; congr 3; omega⟩
theorem szExp_c (x : Ex) : CszE x := by
  refine Ex.ind (fun k n s l ih => ?_) x
  intro hg left h0 h1
  obtain ⟨hs, hl, hg⟩ := hg
  have hlen := encEs_len l
  generalize hr : subI left _ = res
  replace hr := subI_spec hr
  unfold encE
  simp only [szE] at hr
  (refine AC_fn hY Tryz.func46 rfl Tryz.ntmps46 Tryz.results46 rfl (eq_true (by simp)) ?_; simp only [enumT])
  repeat' (first
    | refine s_seq ?_ | refine s_block ?_ | refine s_reg ?_ | refine s_skip ?_ | refine s_ret ?_ | refine s_end ?_ | refine n_seq ?_ | refine n_blk ?_ | refine n_nil ?_ | refine s_exit ?_ | refine e_seq ?_ | refine e_lp ?_ | refine e_blk ?_ | refine e_blk' rfl ?_
    | (refine o_v hY (v_wr rfl ?_) rfl ?_; · omega) | refine o_v hY (v_pv rfl) rfl ?_ | refine g_y rfl rfl ?_ | refine g_n hY rfl rfl rfl ?_ | refine g_u hY rfl rfl rfl ?_ | (refine g_s rfl rfl ?_ ?_ <;> fail_if_success (intro h; cases h; done)) | refine c_t rfl ?_ | refine c_f rfl ?_ | refine c_s rfl ?_ ?_
    | (intro h; (try simp only [decide_eq_true_eq, decide_eq_false_iff_not, Bool.not_eq_true', Bool.not_eq_false', beq_iff_eq, bne_iff_ne, beq_eq_false_iff_ne, bne_eq_false_iff_eq, ne_eq, toListI] at h); (try simp only [toListC] at h))
    | refine o_a hY (a_box rfl rfl rfl ?_) | refine o_a hY (a_alz rfl rfl rfl rfl rfl ?_) | refine o_a hY (a_als rfl rfl rfl ?_) | refine o_a hY (a_st rfl rfl rfl (.d rfl) rfl rfl ?_)
    | refine r_of (r_d rfl ?_) | refine r_of (r_c rfl rfl ?_) | refine r_of (r_2 rfl rfl ?_) | refine r_of (r_4 rfl rfl rfl rfl ?_)
    | (refine o_a hY (a_call (szExpS_c l ih hl hg _ ?_ ?_) (.cons (.d rfl) (.cons (.d rfl) .nil)) rfl ?_)
       · omega
       · omega
       generalize hz : subI _ _ = z
       replace hz := subI_spec hz))
  all_goals exact isR_i (by omega)

theorem encSs_map : ∀ l, encSs l = l.map encS
  | [] => rfl
  | x :: r => by rw [encSs, encSs_map r]; rfl
theorem encSs_len (l : List Sm) : (encSs l).length = l.length := by rw [encSs_map]; simp
theorem encSs_get (l : List Sm) (i : Nat) (h : i < l.length) : (encSs l)[i]? = some (encS l[i]) := by rw [encSs_map]; simp [h]
theorem goodSs_mem : ∀ {l : List Sm}, goodSs l → ∀ x ∈ l, goodS x
  | [], _, x, h => by simp at h
  | y :: r, hg, x, h => by
    rcases List.mem_cons.1 h with rfl | h
    · exact hg.1
    · exact goodSs_mem hg.2 x h
theorem sumS_take (l : List Sm) (j : Nat) (h : j < l.length) : sumS (l.take (j + 1)) = sumS (l.take j) + szS l[j] := by
  induction l generalizing j with
  | nil => simp at h
  | cons x r ih =>
    cases j with
    | zero => simp [sumS]
    | succ j =>
      simp only [List.take_succ_cons, sumS, List.getElem_cons_succ]
      rw [ih j (by simpa using h)]
      omega
theorem sumS_pre (l : List Sm) (j : Nat) (h : j < l.length) : sumS (l.take j) + szS l[j] ≤ sumS l := by
  rw [← sumS_take l j h]
  generalize j + 1 = m
  clear h
  induction l generalizing m with
  | nil => simp
  | cons x r ih => cases m with
    | zero => simp [sumS]
    | succ m => simp only [List.take_succ_cons, sumS]; have := ih m; omega
def CszS (x : Sm) : Prop := goodS x → ∀ left : Int, 0 ≤ left → left ≤ 1048576 → AC Tryz.prog 24 [.d (encS x), .d (.i .i64 left)] [] (isR (.d (.i .i64 (subI left (szS x)))))
theorem szStmtS_c (l : List Sm) (ih : ∀ x ∈ l, CszS x) (hl : l.length ≤ 9223372036854775807) (hg : goodSs l) (left : Int) (h0 : 0 ≤ left) (h1 : left ≤ 1048576) :
    AC Tryz.prog 10 [.d (.sl (encSs l)), .d (.i .i64 left)] [] (isR (.d (.i .i64 (subI left (l.length + sumS l))))) := by
  have hlen := encSs_len l
  (refine AC_fn hY Tryz.func10 rfl Tryz.ntmps10 Tryz.results10 rfl (eq_true (by simp)) ?_; simp only [enumT])
  repeat' (first
    | refine s_seq ?_ | refine s_block ?_ | refine s_reg ?_ | refine s_skip ?_ | refine s_ret ?_ | refine s_end ?_ | refine n_seq ?_ | refine n_blk ?_ | refine n_nil ?_ | refine s_exit ?_ | refine e_seq ?_ | refine e_lp ?_ | refine e_blk ?_ | refine e_blk' rfl ?_
    | (refine o_v hY (v_wr rfl ?_) rfl ?_; · omega) | refine o_v hY (v_pv rfl) rfl ?_ | refine g_y rfl rfl ?_ | refine g_n hY rfl rfl rfl ?_ | refine g_u hY rfl rfl rfl ?_ | (refine g_s rfl rfl ?_ ?_ <;> fail_if_success (intro h; cases h; done)) | refine c_t rfl ?_ | refine c_f rfl ?_ | refine c_s rfl ?_ ?_
    | (intro h; (try simp only [decide_eq_true_eq, decide_eq_false_iff_not, Bool.not_eq_true', Bool.not_eq_false', beq_iff_eq, bne_iff_ne, beq_eq_false_iff_ne, bne_eq_false_iff_eq, ne_eq, toListI] at h); (try simp only [toListC] at h))
    | refine o_a hY (a_box rfl rfl rfl ?_) | refine o_a hY (a_alz rfl rfl rfl rfl rfl ?_) | refine o_a hY (a_als rfl rfl rfl ?_) | refine o_a hY (a_st rfl rfl rfl (.d rfl) rfl rfl ?_)
    | refine r_of (r_d rfl ?_) | refine r_of (r_c rfl rfl ?_) | refine r_of (r_2 rfl rfl ?_) | refine r_of (r_4 rfl rfl rfl rfl ?_)
    | (refine o_v hY (v_wr rfl ?_) rfl ?_; · (rw [hlen]; omega)))
  · exact ⟨rfl, by unfold subI; rw [if_neg (by omega)]⟩
  · refine s_loop (fun m τ => ∃ (j : Nat) (lf : Int), j ≤ l.length ∧ m = l.length - j ∧ 0 ≤ lf ∧ lf = left - l.length - sumS (l.take j) ∧ τ = ⟨[(0, .d (.sl (encSs l))), (1, .d (.i .i64 lf)), (5, .d (.i .i64 (j : Int)))], [], []⟩) l.length ⟨0, left - (encSs l).length, Nat.zero_le _, rfl, by omega, by simp [sumS, hlen], rfl⟩ (Wk.of ⟨rfl, rfl, rfl, trivial⟩ trivial rfl) ?_
    rintro m τ ⟨j, lf, hj, rfl, h2, h3, rfl⟩
    have hlf : lf ≤ 1048576 := by omega
    repeat' (first
    | refine s_seq ?_ | refine s_block ?_ | refine s_reg ?_ | refine s_skip ?_ | refine s_ret ?_ | refine s_end ?_ | refine n_seq ?_ | refine n_blk ?_ | refine n_nil ?_ | refine s_exit ?_ | refine e_seq ?_ | refine e_lp ?_ | refine e_blk ?_ | refine e_blk' rfl ?_
    | (refine o_v hY (v_wr rfl ?_) rfl ?_; · omega) | refine o_v hY (v_pv rfl) rfl ?_ | refine g_y rfl rfl ?_ | refine g_n hY rfl rfl rfl ?_ | refine g_u hY rfl rfl rfl ?_ | (refine g_s rfl rfl ?_ ?_ <;> fail_if_success (intro h; cases h; done)) | refine c_t rfl ?_ | refine c_f rfl ?_ | refine c_s rfl ?_ ?_
    | (intro h; (try simp only [decide_eq_true_eq, decide_eq_false_iff_not, Bool.not_eq_true', Bool.not_eq_false', beq_iff_eq, bne_iff_ne, beq_eq_false_iff_ne, bne_eq_false_iff_eq, ne_eq, toListI] at h); (try simp only [toListC] at h))
    | refine o_a hY (a_box rfl rfl rfl ?_) | refine o_a hY (a_alz rfl rfl rfl rfl rfl ?_) | refine o_a hY (a_als rfl rfl rfl ?_) | refine o_a hY (a_st rfl rfl rfl (.d rfl) rfl rfl ?_)
    | refine r_of (r_d rfl ?_) | refine r_of (r_c rfl rfl ?_) | refine r_of (r_2 rfl rfl ?_) | refine r_of (r_4 rfl rfl rfl rfl ?_)
    | (refine o_v hY (v_ia j rfl rfl (.d rfl) rfl rfl (encSs_get l j ?_) (size_encS _)) rfl ?_; · omega)
    | refine o_v hY (v_ldp rfl rfl (sub_encS _)) rfl ?_
    | refine o_a hY (a_call (ih l[j] (List.getElem_mem _) (goodSs_mem hg _ (List.getElem_mem _)) lf h2 hlf) (.cons (.d rfl) (.cons (.d rfl) .nil)) rfl ?_))
    · have h4 := sumS_pre l j (by omega)
      refine ⟨rfl, ?_⟩
      have := subI_neg h2 h
      rw [subI_of_gt (by omega)]
    · have h4 := sumS_take l j (by omega)
      refine n_lp (l.length - (j+1)) ⟨j+1, subI lf (szS l[j]), by omega, rfl, by omega, by have := subI_nn h; omega, rfl⟩ (by omega) (Wk.of ⟨rfl, rfl, rfl, trivial⟩ trivial rfl)
    · obtain rfl : j = l.length := by omega
      rw [List.take_length] at h3
      exact ⟨rfl, by unfold subI; rw [if_pos (by omega)]; congr 3; omega⟩
theorem encE_isAg (a : Ex) : (encE a).isAg = true := by cases a; rfl
section
variable {k : Int} {s : ByteArray} {a e lo hi : Ex} {b : List D}
theorem sub_S2 : (D.ag [.i .i64 k, .s s, encE a, encE e, encE lo, encE hi, .sl b]).sub 2 4 true = some (encE a) := by simp [D.sub, atL, D.size, sizes, size_encE, sub_encE]
theorem sub_S3 : (D.ag [.i .i64 k, .s s, encE a, encE e, encE lo, encE hi, .sl b]).sub 6 4 true = some (encE e) := by simp [D.sub, atL, D.size, sizes, size_encE, sub_encE]
theorem sub_S4 : (D.ag [.i .i64 k, .s s, encE a, encE e, encE lo, encE hi, .sl b]).sub 10 4 true = some (encE lo) := by simp [D.sub, atL, D.size, sizes, size_encE, sub_encE]
theorem sub_S5 : (D.ag [.i .i64 k, .s s, encE a, encE e, encE lo, encE hi, .sl b]).sub 14 4 true = some (encE hi) := by simp [D.sub, atL, D.size, sizes, size_encE, sub_encE]
theorem sub_S6 : (D.ag [.i .i64 k, .s s, encE a, encE e, encE lo, encE hi, .sl b]).sub 18 1 false = some (.sl b) := by simp [D.sub, atL, D.size, sizes, size_encE, sub_encE]
end
theorem szStmt_c (x : Sm) : CszS x := by
  refine Sm.ind (fun k s a e lo hi b ih => ?_) x
  intro hg left h0 h1
  obtain ⟨hs, hl, hga, hge, hgl, hgh, hg⟩ := hg
  have hlen := encSs_len b
  generalize hr : subI left _ = res
  replace hr := subI_spec hr
  unfold encS
  simp only [szS] at hr
  (refine AC_fn hY Tryz.func24 rfl Tryz.ntmps24 Tryz.results24 rfl (eq_true (by simp)) ?_; simp only [enumT])
  repeat' (first
    | refine s_seq ?_ | refine s_block ?_ | refine s_reg ?_ | refine s_skip ?_ | refine s_ret ?_ | refine s_end ?_ | refine n_seq ?_ | refine n_blk ?_ | refine n_nil ?_ | refine s_exit ?_ | refine e_seq ?_ | refine e_lp ?_ | refine e_blk ?_ | refine e_blk' rfl ?_
    | (refine o_v hY (v_wr rfl ?_) rfl ?_; · omega) | refine o_v hY (v_pv rfl) rfl ?_ | refine g_y rfl rfl ?_ | refine g_n hY rfl rfl rfl ?_ | refine g_u hY rfl rfl rfl ?_ | (refine g_s rfl rfl ?_ ?_ <;> fail_if_success (intro h; cases h; done)) | refine c_t rfl ?_ | refine c_f rfl ?_ | refine c_s rfl ?_ ?_
    | (intro h; (try simp only [decide_eq_true_eq, decide_eq_false_iff_not, Bool.not_eq_true', Bool.not_eq_false', beq_iff_eq, bne_iff_ne, beq_eq_false_iff_ne, bne_eq_false_iff_eq, ne_eq, toListI] at h); (try simp only [toListC] at h))
    | refine o_a hY (a_box rfl rfl rfl ?_) | refine o_a hY (a_alz rfl rfl rfl rfl rfl ?_) | refine o_a hY (a_als rfl rfl rfl ?_) | refine o_a hY (a_st rfl rfl rfl (.d rfl) rfl rfl ?_)
    | refine r_of (r_d rfl ?_) | refine r_of (r_c rfl rfl ?_) | refine r_of (r_2 rfl rfl ?_) | refine r_of (r_4 rfl rfl rfl rfl ?_)
    | refine o_v hY (v_ldb rfl rfl rfl sub_S2) rfl ?_ | refine o_v hY (v_ldb rfl rfl rfl sub_S3) rfl ?_ | refine o_v hY (v_ldb rfl rfl rfl sub_S4) rfl ?_ | refine o_v hY (v_ldb rfl rfl rfl sub_S5) rfl ?_ | refine o_v hY (v_ldb rfl rfl rfl sub_S6) rfl ?_
    | (refine o_a hY (a_call (szExp_c _ (by assumption) _ ?_ ?_) (.cons (.d rfl) (.cons (.d rfl) .nil)) rfl ?_)
       · omega
       · omega
       generalize hz : subI _ _ = z
       replace hz := subI_spec hz)
    | (refine o_a hY (a_call (szStmtS_c b ih hl hg _ ?_ ?_) (.cons (.d rfl) (.cons (.d rfl) .nil)) rfl ?_)
       · omega
       · omega
       generalize hz : subI _ _ = z
       replace hz := subI_spec hz))
  all_goals exact isR_i (by omega)

theorem encAs_map : ∀ l, encAs l = l.map encA
  | [] => rfl
  | x :: r => by rw [encAs, encAs_map r]; rfl
theorem encAs_len (l : List Ar) : (encAs l).length = l.length := by rw [encAs_map]; simp
theorem encAs_get (l : List Ar) (i : Nat) (h : i < l.length) : (encAs l)[i]? = some (encA l[i]) := by rw [encAs_map]; simp [h]
theorem goodAs_mem : ∀ {l : List Ar}, goodAs l → ∀ x ∈ l, goodA x
  | [], _, x, h => by simp at h
  | y :: r, hg, x, h => by
    rcases List.mem_cons.1 h with rfl | h
    · exact hg.1
    · exact goodAs_mem hg.2 x h
theorem sumA_take (l : List Ar) (j : Nat) (h : j < l.length) : sumA (l.take (j + 1)) = sumA (l.take j) + szA l[j] := by
  induction l generalizing j with
  | nil => simp at h
  | cons x r ih =>
    cases j with
    | zero => simp [sumA]
    | succ j =>
      simp only [List.take_succ_cons, sumA, List.getElem_cons_succ]
      rw [ih j (by simpa using h)]
      omega
theorem sumA_pre (l : List Ar) (j : Nat) (h : j < l.length) : sumA (l.take j) + szA l[j] ≤ sumA l := by
  rw [← sumA_take l j h]
  generalize j + 1 = m
  clear h
  induction l generalizing m with
  | nil => simp
  | cons x r ih => cases m with
    | zero => simp [sumA]
    | succ m => simp only [List.take_succ_cons, sumA]; have := ih m; omega
def CszA (x : Ar) : Prop := goodA x → ∀ left : Int, 0 ≤ left → left ≤ 1048576 → AC Tryz.prog 23 [.d (encA x), .d (.i .i64 left)] [] (isR (.d (.i .i64 (subI left (szA x)))))
theorem szArrS_c (l : List Ar) (ih : ∀ x ∈ l, CszA x) (hl : l.length ≤ 9223372036854775807) (hg : goodAs l) (left : Int) (h0 : 0 ≤ left) (h1 : left ≤ 1048576) :
    AC Tryz.prog 9 [.d (.sl (encAs l)), .d (.i .i64 left)] [] (isR (.d (.i .i64 (subI left (l.length + sumA l))))) := by
  have hlen := encAs_len l
  (refine AC_fn hY Tryz.func9 rfl Tryz.ntmps9 Tryz.results9 rfl (eq_true (by simp)) ?_; simp only [enumT])
  repeat' (first
    | refine s_seq ?_ | refine s_block ?_ | refine s_reg ?_ | refine s_skip ?_ | refine s_ret ?_ | refine s_end ?_ | refine n_seq ?_ | refine n_blk ?_ | refine n_nil ?_ | refine s_exit ?_ | refine e_seq ?_ | refine e_lp ?_ | refine e_blk ?_ | refine e_blk' rfl ?_
    | (refine o_v hY (v_wr rfl ?_) rfl ?_; · omega) | refine o_v hY (v_pv rfl) rfl ?_ | refine g_y rfl rfl ?_ | refine g_n hY rfl rfl rfl ?_ | refine g_u hY rfl rfl rfl ?_ | (refine g_s rfl rfl ?_ ?_ <;> fail_if_success (intro h; cases h; done)) | refine c_t rfl ?_ | refine c_f rfl ?_ | refine c_s rfl ?_ ?_
    | (intro h; (try simp only [decide_eq_true_eq, decide_eq_false_iff_not, Bool.not_eq_true', Bool.not_eq_false', beq_iff_eq, bne_iff_ne, beq_eq_false_iff_ne, bne_eq_false_iff_eq, ne_eq, toListI] at h); (try simp only [toListC] at h))
    | refine o_a hY (a_box rfl rfl rfl ?_) | refine o_a hY (a_alz rfl rfl rfl rfl rfl ?_) | refine o_a hY (a_als rfl rfl rfl ?_) | refine o_a hY (a_st rfl rfl rfl (.d rfl) rfl rfl ?_)
    | refine r_of (r_d rfl ?_) | refine r_of (r_c rfl rfl ?_) | refine r_of (r_2 rfl rfl ?_) | refine r_of (r_4 rfl rfl rfl rfl ?_)
    | (refine o_v hY (v_wr rfl ?_) rfl ?_; · (rw [hlen]; omega)))
  · exact ⟨rfl, by unfold subI; rw [if_neg (by omega)]⟩
  · refine s_loop (fun m τ => ∃ (j : Nat) (lf : Int), j ≤ l.length ∧ m = l.length - j ∧ 0 ≤ lf ∧ lf = left - l.length - sumA (l.take j) ∧ τ = ⟨[(0, .d (.sl (encAs l))), (1, .d (.i .i64 lf)), (5, .d (.i .i64 (j : Int)))], [], []⟩) l.length ⟨0, left - (encAs l).length, Nat.zero_le _, rfl, by omega, by simp [sumA, hlen], rfl⟩ (Wk.of ⟨rfl, rfl, rfl, trivial⟩ trivial rfl) ?_
    rintro m τ ⟨j, lf, hj, rfl, h2, h3, rfl⟩
    have hlf : lf ≤ 1048576 := by omega
    repeat' (first
    | refine s_seq ?_ | refine s_block ?_ | refine s_reg ?_ | refine s_skip ?_ | refine s_ret ?_ | refine s_end ?_ | refine n_seq ?_ | refine n_blk ?_ | refine n_nil ?_ | refine s_exit ?_ | refine e_seq ?_ | refine e_lp ?_ | refine e_blk ?_ | refine e_blk' rfl ?_
    | (refine o_v hY (v_wr rfl ?_) rfl ?_; · omega) | refine o_v hY (v_pv rfl) rfl ?_ | refine g_y rfl rfl ?_ | refine g_n hY rfl rfl rfl ?_ | refine g_u hY rfl rfl rfl ?_ | (refine g_s rfl rfl ?_ ?_ <;> fail_if_success (intro h; cases h; done)) | refine c_t rfl ?_ | refine c_f rfl ?_ | refine c_s rfl ?_ ?_
    | (intro h; (try simp only [decide_eq_true_eq, decide_eq_false_iff_not, Bool.not_eq_true', Bool.not_eq_false', beq_iff_eq, bne_iff_ne, beq_eq_false_iff_ne, bne_eq_false_iff_eq, ne_eq, toListI] at h); (try simp only [toListC] at h))
    | refine o_a hY (a_box rfl rfl rfl ?_) | refine o_a hY (a_alz rfl rfl rfl rfl rfl ?_) | refine o_a hY (a_als rfl rfl rfl ?_) | refine o_a hY (a_st rfl rfl rfl (.d rfl) rfl rfl ?_)
    | refine r_of (r_d rfl ?_) | refine r_of (r_c rfl rfl ?_) | refine r_of (r_2 rfl rfl ?_) | refine r_of (r_4 rfl rfl rfl rfl ?_)
    | (refine o_v hY (v_ia j rfl rfl (.d rfl) rfl rfl (encAs_get l j ?_) (size_encA _)) rfl ?_; · omega)
    | refine o_v hY (v_ldp rfl rfl (sub_encA _)) rfl ?_
    | refine o_a hY (a_call (ih l[j] (List.getElem_mem _) (goodAs_mem hg _ (List.getElem_mem _)) lf h2 hlf) (.cons (.d rfl) (.cons (.d rfl) .nil)) rfl ?_))
    · have h4 := sumA_pre l j (by omega)
      refine ⟨rfl, ?_⟩
      have := subI_neg h2 h
      rw [subI_of_gt (by omega)]
    · have h4 := sumA_take l j (by omega)
      refine n_lp (l.length - (j+1)) ⟨j+1, subI lf (szA l[j]), by omega, rfl, by omega, by have := subI_nn h; omega, rfl⟩ (by omega) (Wk.of ⟨rfl, rfl, rfl, trivial⟩ trivial rfl)
    · obtain rfl : j = l.length := by omega
      rw [List.take_length] at h3
      exact ⟨rfl, by unfold subI; rw [if_pos (by omega)]; congr 3; omega⟩
theorem szArr_c (x : Ar) : CszA x := by
  intro hg left h0 h1
  unfold goodA at hg
  unfold encA
  (refine AC_fn hY Tryz.func23 rfl Tryz.ntmps23 Tryz.results23 rfl (eq_true (by simp)) ?_; simp only [enumT])
  repeat' (first
    | refine s_seq ?_ | refine s_block ?_ | refine s_reg ?_ | refine s_skip ?_ | refine s_ret ?_ | refine s_end ?_ | refine n_seq ?_ | refine n_blk ?_ | refine n_nil ?_ | refine s_exit ?_ | refine e_seq ?_ | refine e_lp ?_ | refine e_blk ?_ | refine e_blk' rfl ?_
    | (refine o_v hY (v_wr rfl ?_) rfl ?_; · omega) | refine o_v hY (v_pv rfl) rfl ?_ | refine g_y rfl rfl ?_ | refine g_n hY rfl rfl rfl ?_ | refine g_u hY rfl rfl rfl ?_ | (refine g_s rfl rfl ?_ ?_ <;> fail_if_success (intro h; cases h; done)) | refine c_t rfl ?_ | refine c_f rfl ?_ | refine c_s rfl ?_ ?_
    | (intro h; (try simp only [decide_eq_true_eq, decide_eq_false_iff_not, Bool.not_eq_true', Bool.not_eq_false', beq_iff_eq, bne_iff_ne, beq_eq_false_iff_ne, bne_eq_false_iff_eq, ne_eq, toListI] at h); (try simp only [toListC] at h))
    | refine o_a hY (a_box rfl rfl rfl ?_) | refine o_a hY (a_alz rfl rfl rfl rfl rfl ?_) | refine o_a hY (a_als rfl rfl rfl ?_) | refine o_a hY (a_st rfl rfl rfl (.d rfl) rfl rfl ?_)
    | refine r_of (r_d rfl ?_) | refine r_of (r_c rfl rfl ?_) | refine r_of (r_2 rfl rfl ?_) | refine r_of (r_4 rfl rfl rfl rfl ?_))
  · refine ⟨rfl, ?_⟩
    rw [subI_of_gt (by unfold szA; omega)]
  · refine ⟨rfl, ?_⟩
    rw [subI_of_le (by unfold szA; omega)]; rfl
theorem szProg_c (p : Pg) (hg : goodP p) (left : Int) (h0 : 0 ≤ left) (h1 : left ≤ 1048576) : AC Tryz.prog 4 [.d (encP p), .d (.i .i64 left)] [] (isR (.d (.i .i64 (subI left (szP p))))) := by
  obtain ⟨g1, g2, g3, g4⟩ := hg
  generalize hr : subI left _ = res
  replace hr := subI_spec hr
  unfold encP
  simp only [szP] at hr
  (refine AC_fn hY Tryz.func4 rfl Tryz.ntmps4 Tryz.results4 rfl (eq_true (by simp)) ?_; simp only [enumT])
  repeat' (first
    | refine s_seq ?_ | refine s_block ?_ | refine s_reg ?_ | refine s_skip ?_ | refine s_ret ?_ | refine s_end ?_ | refine n_seq ?_ | refine n_blk ?_ | refine n_nil ?_ | refine s_exit ?_ | refine e_seq ?_ | refine e_lp ?_ | refine e_blk ?_ | refine e_blk' rfl ?_
    | (refine o_v hY (v_wr rfl ?_) rfl ?_; · omega) | refine o_v hY (v_pv rfl) rfl ?_ | refine g_y rfl rfl ?_ | refine g_n hY rfl rfl rfl ?_ | refine g_u hY rfl rfl rfl ?_ | (refine g_s rfl rfl ?_ ?_ <;> fail_if_success (intro h; cases h; done)) | refine c_t rfl ?_ | refine c_f rfl ?_ | refine c_s rfl ?_ ?_
    | (intro h; (try simp only [decide_eq_true_eq, decide_eq_false_iff_not, Bool.not_eq_true', Bool.not_eq_false', beq_iff_eq, bne_iff_ne, beq_eq_false_iff_ne, bne_eq_false_iff_eq, ne_eq, toListI] at h); (try simp only [toListC] at h))
    | refine o_a hY (a_box rfl rfl rfl ?_) | refine o_a hY (a_alz rfl rfl rfl rfl rfl ?_) | refine o_a hY (a_als rfl rfl rfl ?_) | refine o_a hY (a_st rfl rfl rfl (.d rfl) rfl rfl ?_)
    | refine r_of (r_d rfl ?_) | refine r_of (r_c rfl rfl ?_) | refine r_of (r_2 rfl rfl ?_) | refine r_of (r_4 rfl rfl rfl rfl ?_)
    | (refine o_a hY (a_call (szArrS_c p.a (fun x _ => szArr_c x) g1 g3 _ h0 h1) (.cons (.d rfl) (.cons (.d rfl) .nil)) rfl ?_)
       generalize hz : subI _ _ = z
       replace hz := subI_spec hz)
    | (refine o_a hY (a_call (szStmtS_c p.b (fun x _ => szStmt_c x) g2 g4 _ ?_ ?_) (.cons (.d rfl) (.cons (.d rfl) .nil)) rfl ?_)
       · omega
       · omega
       generalize hz : subI _ _ = z
       replace hz := subI_spec hz))
  all_goals exact isR_i (by omega)
end Go.Proofs.YtmmdgciefehbcaaGreatDoor.Ax
