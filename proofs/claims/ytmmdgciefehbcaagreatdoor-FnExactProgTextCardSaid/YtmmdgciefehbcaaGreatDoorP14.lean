/- Contracts of functions that the claim reaches, over data without addresses, and what follows of them (text P14). No conditions beside those that each theorem names. -/
import Derived.Test.YtmmdgciefehbcaaGreatDoorP13
set_option linter.unusedVariables false
set_option linter.unusedSimpArgs false
namespace Go.Proofs.YtmmdgciefehbcaaGreatDoor.Ax
section
variable {P : Program} {y : Ty} {n : Nat} {t : List (Nat × T)} {L : List (Nat × Ob)} {F : List Ob} {i : Nat} {ty : TypeId} {pos : String} {af : Array Edge} {K : St → Prop} {g : Option (Nat × Bool)}
theorem a_ap' {tt e : TypeId} {s x : Operand} {rr : Yr} {kk : Key} {m : Nat} {xs ys zs : List D} (hzs : xs ++ ys = zs) (hk : y.ky tt = some (.sl e)) (hr : y.Y e = some rr) (hs : evq t s = some (.rw kk m)) (hj : obq L F kk = some (.row e rr.sz xs)) (hx : Fz t L F x (.d (.sl ys))) (hm : m = xs.length) (ha : allSz rr.sz ys) (hz : (y.Z e).isSome = true) (h0 : decide (0 < rr.by_ ∧ 0 < rr.sz) = true) (hi : dstB n (some i) = true) (hb : zs.length * rr.by_ ≤ 140737488355328)
    (h : K (((⟨t, L, F⟩ : St).setO kk (.row e rr.sz zs)).put (some i) (.rw kk zs.length))) : aop P y n ⟨some i, .call ⟨.builtin .append, #[s, x], #[tt, tt]⟩, ty, pos, af, g⟩ ⟨t, L, F⟩ K := by
  subst hzs
  exact a_ap hk hr hs hj hx hm ha hz h0 hi hb h
end
def lt (a b : ByteArray) : Bool := Op.bytesLess a.toList b.toList
def putL (s : ByteArray) : List ByteArray → Bool → List ByteArray → List ByteArray
  | [], d, out => if d = true then out else out ++ [s]
  | x :: r, d, out => putL s r (d || !lt x s) ((if d = true then out else if lt x s = true then out else out ++ [s]) ++ (if x = s then [] else [x]))
def putS (l : List ByteArray) (s : ByteArray) : List ByteArray := putL s l false []
theorem putL_len (s : ByteArray) : ∀ (l : List ByteArray) (d : Bool) (out : List ByteArray), (putL s l d out).length ≤ out.length + l.length + (if d = true then 0 else 1)
  | [], d, out => by cases d <;> simp [putL]
  | x :: r, d, out => by
    refine Nat.le_trans (putL_len s r _ _) ?_
    cases d <;> cases lt x s <;> by_cases h : x = s <;> simp [h] <;> omega
theorem l4Put_c (l : List ByteArray) (s : ByteArray) (hl : l.length ≤ 8388608) : AC Tryz.prog 51 [.d (.sl (strs l)), .d (.s s)] [] (isR (.d (.sl (strs (putS l s))))) := by
  have hlen := strs_len l
  unfold putS
  generalize hr : putL s l false [] = res
  (refine AC_fn hY Tryz.func51 rfl Tryz.ntmps51 Tryz.results51 rfl (eq_true (by simp)) ?_; simp only [enumT])
  repeat' (first
    | refine s_seq ?_ | refine s_block ?_ | refine s_reg ?_ | refine s_skip ?_ | refine s_ret ?_ | refine s_end ?_ | refine n_seq ?_ | refine n_blk ?_ | refine n_nil ?_ | refine s_exit ?_ | refine e_seq ?_ | refine e_lp ?_ | refine e_blk ?_ | refine e_blk' rfl ?_
    | (refine o_v hY (v_wr rfl ?_) rfl ?_; · omega) | refine o_v hY (v_pv rfl) rfl ?_ | refine g_y rfl rfl ?_ | refine g_n hY rfl rfl rfl ?_ | refine g_u hY rfl rfl rfl ?_ | (refine g_s rfl rfl ?_ ?_ <;> fail_if_success (intro h; cases h; done)) | refine c_t rfl ?_ | refine c_f rfl ?_ | refine c_s rfl ?_ ?_
    | (intro h; (try simp only [decide_eq_true_eq, decide_eq_false_iff_not, Bool.not_eq_true', Bool.not_eq_false', beq_iff_eq, bne_iff_ne, beq_eq_false_iff_ne, bne_eq_false_iff_eq, ne_eq, toListI] at h); (try simp only [toListC] at h))
    | refine o_a hY (a_box rfl rfl rfl ?_) | refine o_a hY (a_alz rfl rfl rfl rfl rfl ?_) | refine o_a hY (a_als rfl rfl rfl ?_) | refine o_a hY (a_st rfl rfl rfl (.d rfl) rfl rfl ?_)
    | refine r_of (r_d rfl ?_) | refine r_of (r_c rfl rfl ?_) | refine r_of (r_2 rfl rfl ?_) | refine r_of (r_4 rfl rfl rfl rfl ?_)
    | refine o_a hY (a_sl rfl rfl .nil (by simp [allSz]) rfl rfl rfl rfl rfl rfl ?_))
  refine s_loop (fun m τ => ∃ (j : Nat) (d : Bool) (out : List ByteArray), j ≤ l.length ∧ m = l.length - j ∧ out.length ≤ j + (if d = true then 1 else 0) ∧ putL s (l.drop j) d out = res ∧ τ = ⟨[(0, .d (.sl (strs l))), (1, .d (.s s)), (5, .rw (.l 8) (strs out).length), (6, .d (.b d)), (7, .d (.i .i64 (j : Int)))], [(8, .row 9 1 (strs out))], []⟩) l.length ⟨0, false, [], Nat.zero_le _, rfl, Nat.le_refl _, hr, rfl⟩ (Wk.of ⟨rfl, rfl, rfl, rfl, rfl, trivial⟩ ⟨rfl, trivial⟩ rfl) ?_
  rintro m τ ⟨j, d, out, hj, rfl, ho, h4, rfl⟩
  have hout := strs_len out
  have ho2 : out.length ≤ j + 1 := by split at ho <;> omega
  repeat' (first
    | refine s_seq ?_ | refine s_block ?_ | refine s_reg ?_ | refine s_skip ?_ | refine s_ret ?_ | refine s_end ?_ | refine n_seq ?_ | refine n_blk ?_ | refine n_nil ?_ | refine s_exit ?_ | refine e_seq ?_ | refine e_lp ?_ | refine e_blk ?_ | refine e_blk' rfl ?_
    | (refine o_v hY (v_wr rfl ?_) rfl ?_; · omega) | refine o_v hY (v_pv rfl) rfl ?_ | refine g_y rfl rfl ?_ | refine g_n hY rfl rfl rfl ?_ | refine g_u hY rfl rfl rfl ?_ | (refine g_s rfl rfl ?_ ?_ <;> fail_if_success (intro h; cases h; done)) | refine c_t rfl ?_ | refine c_f rfl ?_ | refine c_s rfl ?_ ?_
    | (intro h; (try simp only [decide_eq_true_eq, decide_eq_false_iff_not, Bool.not_eq_true', Bool.not_eq_false', beq_iff_eq, bne_iff_ne, beq_eq_false_iff_ne, bne_eq_false_iff_eq, ne_eq, toListI] at h); (try simp only [toListC] at h))
    | refine o_a hY (a_box rfl rfl rfl ?_) | refine o_a hY (a_alz rfl rfl rfl rfl rfl ?_) | refine o_a hY (a_als rfl rfl rfl ?_) | refine o_a hY (a_st rfl rfl rfl (.d rfl) rfl rfl ?_)
    | refine r_of (r_d rfl ?_) | refine r_of (r_c rfl rfl ?_) | refine r_of (r_2 rfl rfl ?_) | refine r_of (r_4 rfl rfl rfl rfl ?_)
    | (refine o_v hY (v_ia j rfl rfl (.d rfl) rfl rfl (strs_get l j ?_) rfl) rfl ?_; · omega)
    | refine o_a hY (a_sl rfl rfl (.cons (.d rfl) .nil) (by simp [allSz, D.size]) rfl rfl rfl rfl rfl rfl ?_)
    | (refine o_a hY (a_ap' (strs_one _ _) rfl rfl rfl rfl (.w rfl rfl rfl) rfl (by simp [allSz, D.size]) rfl rfl rfl ?_ ?_)
       · (simp only [strs_len, List.length_append, List.length_cons, List.length_nil]; omega)))
  all_goals (try rw [List.drop_eq_getElem_cons (by omega), putL] at h4)
  all_goals first | (cases (show d = false by assumption)) | (cases (show d = true by assumption))
  all_goals simp only [Bool.false_eq_true, if_false, if_true, Nat.add_zero] at ho
  · have hb := ‹Op.bytesLess _ _ = false›
    refine n_lp (l.length - (j+1)) ⟨j+1, true, out ++ [s] ++ [l[j]], by omega, rfl, by simp; omega, by rw [← h4]; simp [lt, hb, h], rfl⟩ (by omega) (Wk.of ⟨rfl, rfl, rfl, rfl, rfl, trivial⟩ ⟨rfl, trivial⟩ rfl)
  · have hb := ‹Op.bytesLess _ _ = false›
    refine n_lp (l.length - (j+1)) ⟨j+1, true, out ++ [s], by omega, rfl, by simp; omega, by rw [← h4, if_pos h]; simp [lt, hb], rfl⟩ (by omega) (Wk.of ⟨rfl, rfl, rfl, rfl, rfl, trivial⟩ ⟨rfl, trivial⟩ rfl)
  · have hb := ‹Op.bytesLess _ _ = true›
    refine n_lp (l.length - (j+1)) ⟨j+1, false, out ++ [l[j]], by omega, rfl, by simp; omega, by rw [← h4]; simp [lt, hb, h], rfl⟩ (by omega) (Wk.of ⟨rfl, rfl, rfl, rfl, rfl, trivial⟩ ⟨rfl, trivial⟩ rfl)
  · have hb := ‹Op.bytesLess _ _ = true›
    refine n_lp (l.length - (j+1)) ⟨j+1, false, out, by omega, rfl, by simp; omega, by rw [← h4, if_pos h]; simp [lt, hb], rfl⟩ (by omega) (Wk.of ⟨rfl, rfl, rfl, rfl, rfl, trivial⟩ ⟨rfl, trivial⟩ rfl)
  · refine n_lp (l.length - (j+1)) ⟨j+1, true, out ++ [l[j]], by omega, rfl, by simp; omega, by rw [← h4]; simp [h], rfl⟩ (by omega) (Wk.of ⟨rfl, rfl, rfl, rfl, rfl, trivial⟩ ⟨rfl, trivial⟩ rfl)
  · refine n_lp (l.length - (j+1)) ⟨j+1, true, out, by omega, rfl, by simp; omega, by rw [← h4]; simp [h], rfl⟩ (by omega) (Wk.of ⟨rfl, rfl, rfl, rfl, rfl, trivial⟩ ⟨rfl, trivial⟩ rfl)
  all_goals obtain rfl : j = l.length := by omega
  all_goals rw [List.drop_length] at h4
  · refine r_of (r_w rfl rfl rfl (isR_sl ?_)); rw [← h4]; rfl
  · refine r_of (r_w rfl rfl rfl (isR_sl ?_)); rw [← h4]; rfl
end Go.Proofs.YtmmdgciefehbcaaGreatDoor.Ax
