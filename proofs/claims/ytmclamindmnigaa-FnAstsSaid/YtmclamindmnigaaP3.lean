/- Contracts of functions that the claim reaches, over data without addresses, and what follows of them (text P3). No conditions beside those that each theorem names. -/
import Derived.Test.YtmclamindmnigaaG1
set_option linter.unusedVariables false
set_option linter.unusedSimpArgs false
namespace Go.Proofs.Ytmclamindmnigaa.Ax
def within (x l m : Int) : Bool := decide (l ≤ x) && decide (x ≤ m)
theorem within_f {x l m : Int} (h : ¬ l ≤ x) : within x l m = false := by simp [within, h]
theorem within_t {x l m : Int} (h : l ≤ x) : within x l m = decide (x ≤ m) := by simp [within, h]
theorem inRange_c (x l m : Int) : AC Try.prog 27 [.d (.i .i64 x), .d (.i .i64 l), .d (.i .i64 m)] [] (isR (.d (.b (within x l m)))) := by
  (refine AC_fn hY Try.func27 rfl Try.ntmps27 Try.results27 rfl (eq_true (by simp)) ?_; simp only [enumT])
  repeat' (first
    | refine s_seq ?_ | refine s_block ?_ | refine s_reg ?_ | refine s_skip ?_ | refine s_ret ?_ | refine s_end ?_ | refine n_seq ?_ | refine n_blk ?_ | refine n_nil ?_ | refine s_exit ?_ | refine e_seq ?_ | refine e_lp ?_ | refine e_blk ?_ | refine e_blk' rfl ?_
    | (refine o_v hY (v_wr rfl ?_) rfl ?_; · omega) | refine o_v hY (v_pv rfl) rfl ?_ | refine g_y rfl rfl ?_ | refine g_n hY rfl rfl rfl ?_ | refine g_u hY rfl rfl rfl ?_ | (refine g_s rfl rfl ?_ ?_ <;> fail_if_success (intro h; cases h; done)) | refine c_t rfl ?_ | refine c_f rfl ?_ | refine c_s rfl ?_ ?_
    | (intro h; (try simp only [decide_eq_true_eq, decide_eq_false_iff_not, Bool.not_eq_true', Bool.not_eq_false', beq_iff_eq, bne_iff_ne, beq_eq_false_iff_ne, bne_eq_false_iff_eq, ne_eq, toListI] at h); (try simp only [toListC] at h))
    | refine o_a hY (a_box rfl rfl rfl ?_) | refine o_a hY (a_alz rfl rfl rfl rfl rfl ?_) | refine o_a hY (a_als rfl rfl rfl ?_) | refine o_a hY (a_st rfl rfl rfl (.d rfl) rfl rfl ?_)
    | refine r_of (r_d rfl ?_) | refine r_of (r_c rfl rfl ?_) | refine r_of (r_2 rfl rfl ?_) | refine r_of (r_4 rfl rfl rfl rfl ?_))
  · exact isR_b (within_t h).symm
  · exact isR_b (within_f h).symm
theorem l1In_c (x l m : Int) : AC Try.prog 48 [.d (.i .i64 x), .d (.i .i64 l), .d (.i .i64 m)] [] (isR (.d (.b (within x l m)))) := by
  (refine AC_fn hY Try.func48 rfl Try.ntmps48 Try.results48 rfl (eq_true (by simp)) ?_; simp only [enumT])
  repeat' (first
    | refine s_seq ?_ | refine s_block ?_ | refine s_reg ?_ | refine s_skip ?_ | refine s_ret ?_ | refine s_end ?_ | refine n_seq ?_ | refine n_blk ?_ | refine n_nil ?_ | refine s_exit ?_ | refine e_seq ?_ | refine e_lp ?_ | refine e_blk ?_ | refine e_blk' rfl ?_
    | (refine o_v hY (v_wr rfl ?_) rfl ?_; · omega) | refine o_v hY (v_pv rfl) rfl ?_ | refine g_y rfl rfl ?_ | refine g_n hY rfl rfl rfl ?_ | refine g_u hY rfl rfl rfl ?_ | (refine g_s rfl rfl ?_ ?_ <;> fail_if_success (intro h; cases h; done)) | refine c_t rfl ?_ | refine c_f rfl ?_ | refine c_s rfl ?_ ?_
    | (intro h; (try simp only [decide_eq_true_eq, decide_eq_false_iff_not, Bool.not_eq_true', Bool.not_eq_false', beq_iff_eq, bne_iff_ne, beq_eq_false_iff_ne, bne_eq_false_iff_eq, ne_eq, toListI] at h); (try simp only [toListC] at h))
    | refine o_a hY (a_box rfl rfl rfl ?_) | refine o_a hY (a_alz rfl rfl rfl rfl rfl ?_) | refine o_a hY (a_als rfl rfl rfl ?_) | refine o_a hY (a_st rfl rfl rfl (.d rfl) rfl rfl ?_)
    | refine r_of (r_d rfl ?_) | refine r_of (r_c rfl rfl ?_) | refine r_of (r_2 rfl rfl ?_) | refine r_of (r_4 rfl rfl rfl rfl ?_))
  · exact isR_b (within_t h).symm
  · exact isR_b (within_f h).symm
def small (c : UInt8) : Bool := within (c.toNat : Int) 97 122
theorem isLetter_c (c : UInt8) : AC Try.prog 55 [.d (.i .u8 c.toNat)] [] (isR (.d (.b (small c)))) := by
  (refine AC_fn hY Try.func55 rfl Try.ntmps55 Try.results55 rfl (eq_true (by simp)) ?_; simp only [enumT])
  repeat' (first
    | refine s_seq ?_ | refine s_block ?_ | refine s_reg ?_ | refine s_skip ?_ | refine s_ret ?_ | refine s_end ?_ | refine n_seq ?_ | refine n_blk ?_ | refine n_nil ?_ | refine s_exit ?_ | refine e_seq ?_ | refine e_lp ?_ | refine e_blk ?_ | refine e_blk' rfl ?_
    | (refine o_v hY (v_wr rfl ?_) rfl ?_; · omega) | refine o_v hY (v_pv rfl) rfl ?_ | refine g_y rfl rfl ?_ | refine g_n hY rfl rfl rfl ?_ | refine g_u hY rfl rfl rfl ?_ | (refine g_s rfl rfl ?_ ?_ <;> fail_if_success (intro h; cases h; done)) | refine c_t rfl ?_ | refine c_f rfl ?_ | refine c_s rfl ?_ ?_
    | (intro h; (try simp only [decide_eq_true_eq, decide_eq_false_iff_not, Bool.not_eq_true', Bool.not_eq_false', beq_iff_eq, bne_iff_ne, beq_eq_false_iff_ne, bne_eq_false_iff_eq, ne_eq, toListI] at h); (try simp only [toListC] at h))
    | refine o_a hY (a_box rfl rfl rfl ?_) | refine o_a hY (a_alz rfl rfl rfl rfl rfl ?_) | refine o_a hY (a_als rfl rfl rfl ?_) | refine o_a hY (a_st rfl rfl rfl (.d rfl) rfl rfl ?_)
    | refine r_of (r_d rfl ?_) | refine r_of (r_c rfl rfl ?_) | refine r_of (r_2 rfl rfl ?_) | refine r_of (r_4 rfl rfl rfl rfl ?_))
  · exact isR_b (within_t h).symm
  · exact isR_b (within_f h).symm
theorem cv_u8 (c : UInt8) : pConv Y 3 (.d (.i .u8 (c.toNat : Int))) = some (.d (.i .i64 (c.toNat : Int))) := by
  have := c.toNat_lt
  show some (T.d (.i .i64 (IntKind.i64.wrap _))) = _
  rw [IntWalk.i64_in _ (by omega)]
theorem l2Small_c (c : UInt8) : AC Try.prog 57 [.d (.i .u8 c.toNat)] [] (isR (.d (.b (small c)))) := by
  have := c.toNat_lt
  (refine AC_fn hY Try.func57 rfl Try.ntmps57 Try.results57 rfl (eq_true (by simp)) ?_; simp only [enumT])
  repeat' (first
    | refine s_seq ?_ | refine s_block ?_ | refine s_reg ?_ | refine s_skip ?_ | refine s_ret ?_ | refine s_end ?_ | refine n_seq ?_ | refine n_blk ?_ | refine n_nil ?_ | refine s_exit ?_ | refine e_seq ?_ | refine e_lp ?_ | refine e_blk ?_ | refine e_blk' rfl ?_
    | (refine o_v hY (v_wr rfl ?_) rfl ?_; · omega) | refine o_v hY (v_pv rfl) rfl ?_ | refine g_y rfl rfl ?_ | refine g_n hY rfl rfl rfl ?_ | refine g_u hY rfl rfl rfl ?_ | (refine g_s rfl rfl ?_ ?_ <;> fail_if_success (intro h; cases h; done)) | refine c_t rfl ?_ | refine c_f rfl ?_ | refine c_s rfl ?_ ?_
    | (intro h; (try simp only [decide_eq_true_eq, decide_eq_false_iff_not, Bool.not_eq_true', Bool.not_eq_false', beq_iff_eq, bne_iff_ne, beq_eq_false_iff_ne, bne_eq_false_iff_eq, ne_eq, toListI] at h); (try simp only [toListC] at h))
    | refine o_a hY (a_box rfl rfl rfl ?_) | refine o_a hY (a_alz rfl rfl rfl rfl rfl ?_) | refine o_a hY (a_als rfl rfl rfl ?_) | refine o_a hY (a_st rfl rfl rfl (.d rfl) rfl rfl ?_)
    | refine r_of (r_d rfl ?_) | refine r_of (r_c rfl rfl ?_) | refine r_of (r_2 rfl rfl ?_) | refine r_of (r_4 rfl rfl rfl rfl ?_)
    | refine o_a hY (a_cv rfl rfl (cv_u8 c) rfl ?_)
    | refine o_a hY (a_call (l1In_c _ _ _) (.cons (.d rfl) (.cons (.d rfl) (.cons (.d rfl) .nil))) rfl ?_))
  exact isR_b rfl
def has (l : List ByteArray) (s : ByteArray) : Bool := l.any fun x => decide (x = s)
theorem has_take (l : List ByteArray) (s : ByteArray) (j : Nat) (h : j < l.length) : has (l.take (j + 1)) s = (has (l.take j) s || decide (l[j] = s)) := by
  rw [has, ← List.take_append_getElem h, List.any_append]; simp [has]
theorem has_mem {l : List ByteArray} {s : ByteArray} {j : Nat} (h : j < l.length) (hs : l[j] = s) : has l s = true := by
  rw [has, List.any_eq_true]; exact ⟨l[j], List.getElem_mem _, by simp [hs]⟩
def strs (l : List ByteArray) : List D := l.map .s
theorem strs_len (l : List ByteArray) : (strs l).length = l.length := by simp [strs]
theorem strs_get (l : List ByteArray) (i : Nat) (h : i < l.length) : (strs l)[i]? = some (.s l[i]) := by simp [strs, h]
theorem l2Has_c (l : List ByteArray) (s : ByteArray) (hl : l.length ≤ 9223372036854775807) : AC Try.prog 59 [.d (.sl (strs l)), .d (.s s)] [] (isR (.d (.b (has l s)))) := by
  have hlen := strs_len l
  (refine AC_fn hY Try.func59 rfl Try.ntmps59 Try.results59 rfl (eq_true (by simp)) ?_; simp only [enumT])
  repeat' (first
    | refine s_seq ?_ | refine s_block ?_ | refine s_reg ?_ | refine s_skip ?_ | refine s_ret ?_ | refine s_end ?_ | refine n_seq ?_ | refine n_blk ?_ | refine n_nil ?_ | refine s_exit ?_ | refine e_seq ?_ | refine e_lp ?_ | refine e_blk ?_ | refine e_blk' rfl ?_
    | (refine o_v hY (v_wr rfl ?_) rfl ?_; · omega) | refine o_v hY (v_pv rfl) rfl ?_ | refine g_y rfl rfl ?_ | refine g_n hY rfl rfl rfl ?_ | refine g_u hY rfl rfl rfl ?_ | (refine g_s rfl rfl ?_ ?_ <;> fail_if_success (intro h; cases h; done)) | refine c_t rfl ?_ | refine c_f rfl ?_ | refine c_s rfl ?_ ?_
    | (intro h; (try simp only [decide_eq_true_eq, decide_eq_false_iff_not, Bool.not_eq_true', Bool.not_eq_false', beq_iff_eq, bne_iff_ne, beq_eq_false_iff_ne, bne_eq_false_iff_eq, ne_eq, toListI] at h); (try simp only [toListC] at h))
    | refine o_a hY (a_box rfl rfl rfl ?_) | refine o_a hY (a_alz rfl rfl rfl rfl rfl ?_) | refine o_a hY (a_als rfl rfl rfl ?_) | refine o_a hY (a_st rfl rfl rfl (.d rfl) rfl rfl ?_)
    | refine r_of (r_d rfl ?_) | refine r_of (r_c rfl rfl ?_) | refine r_of (r_2 rfl rfl ?_) | refine r_of (r_4 rfl rfl rfl rfl ?_))
  refine s_loop (fun m τ => ∃ j : Nat, j ≤ l.length ∧ m = l.length - j ∧ has (l.take j) s = false ∧ τ = ⟨[(0, .d (.sl (strs l))), (1, .d (.s s)), (5, .d (.i .i64 (j : Int)))], [], []⟩) l.length ⟨0, Nat.zero_le _, rfl, rfl, rfl⟩ (Wk.of ⟨rfl, rfl, rfl, trivial⟩ trivial rfl) ?_
  rintro m τ ⟨j, hj, rfl, h2, rfl⟩
  repeat' (first
    | refine s_seq ?_ | refine s_block ?_ | refine s_reg ?_ | refine s_skip ?_ | refine s_ret ?_ | refine s_end ?_ | refine n_seq ?_ | refine n_blk ?_ | refine n_nil ?_ | refine s_exit ?_ | refine e_seq ?_ | refine e_lp ?_ | refine e_blk ?_ | refine e_blk' rfl ?_
    | (refine o_v hY (v_wr rfl ?_) rfl ?_; · omega) | refine o_v hY (v_pv rfl) rfl ?_ | refine g_y rfl rfl ?_ | refine g_n hY rfl rfl rfl ?_ | refine g_u hY rfl rfl rfl ?_ | (refine g_s rfl rfl ?_ ?_ <;> fail_if_success (intro h; cases h; done)) | refine c_t rfl ?_ | refine c_f rfl ?_ | refine c_s rfl ?_ ?_
    | (intro h; (try simp only [decide_eq_true_eq, decide_eq_false_iff_not, Bool.not_eq_true', Bool.not_eq_false', beq_iff_eq, bne_iff_ne, beq_eq_false_iff_ne, bne_eq_false_iff_eq, ne_eq, toListI] at h); (try simp only [toListC] at h))
    | refine o_a hY (a_box rfl rfl rfl ?_) | refine o_a hY (a_alz rfl rfl rfl rfl rfl ?_) | refine o_a hY (a_als rfl rfl rfl ?_) | refine o_a hY (a_st rfl rfl rfl (.d rfl) rfl rfl ?_)
    | refine r_of (r_d rfl ?_) | refine r_of (r_c rfl rfl ?_) | refine r_of (r_2 rfl rfl ?_) | refine r_of (r_4 rfl rfl rfl rfl ?_)
    | (refine o_v hY (v_ia j rfl rfl (.d rfl) rfl rfl (strs_get l j ?_) rfl) rfl ?_; · omega))
  · exact isR_b' (has_mem (j := j) (by omega) h)
  · refine n_lp (l.length - (j+1)) ⟨j+1, by omega, rfl, by rw [has_take _ _ _ (by omega), h2, decide_eq_false h]; rfl, rfl⟩ (by omega) (Wk.of ⟨rfl, rfl, rfl, trivial⟩ trivial rfl)
  · obtain rfl : j = l.length := by omega
    rw [List.take_length] at h2
    exact isR_b' h2
abbrev keptW : List ByteArray := [⟨#[97, 114, 114, 97, 121]⟩, ⟨#[102, 111, 114]⟩, ⟨#[116, 111]⟩, ⟨#[112, 114, 105, 110, 116]⟩, ⟨#[109, 105, 110]⟩, ⟨#[109, 97, 120]⟩]
def kept (s : ByteArray) : Bool := has keptW s
theorem l2Kept_c (s : ByteArray) : AC Try.prog 58 [.d (.s s)] [] (isR (.d (.b (kept s)))) := by
  (refine AC_fn hY Try.func58 rfl Try.ntmps58 Try.results58 rfl (eq_true (by simp)) ?_; simp only [enumT])
  repeat' (first
    | refine s_seq ?_ | refine s_block ?_ | refine s_reg ?_ | refine s_skip ?_ | refine s_ret ?_ | refine s_end ?_ | refine n_seq ?_ | refine n_blk ?_ | refine n_nil ?_ | refine s_exit ?_ | refine e_seq ?_ | refine e_lp ?_ | refine e_blk ?_ | refine e_blk' rfl ?_
    | (refine o_v hY (v_wr rfl ?_) rfl ?_; · omega) | refine o_v hY (v_pv rfl) rfl ?_ | refine g_y rfl rfl ?_ | refine g_n hY rfl rfl rfl ?_ | refine g_u hY rfl rfl rfl ?_ | (refine g_s rfl rfl ?_ ?_ <;> fail_if_success (intro h; cases h; done)) | refine c_t rfl ?_ | refine c_f rfl ?_ | refine c_s rfl ?_ ?_
    | (intro h; (try simp only [decide_eq_true_eq, decide_eq_false_iff_not, Bool.not_eq_true', Bool.not_eq_false', beq_iff_eq, bne_iff_ne, beq_eq_false_iff_ne, bne_eq_false_iff_eq, ne_eq, toListI] at h); (try simp only [toListC] at h))
    | refine o_a hY (a_box rfl rfl rfl ?_) | refine o_a hY (a_alz rfl rfl rfl rfl rfl ?_) | refine o_a hY (a_als rfl rfl rfl ?_) | refine o_a hY (a_st rfl rfl rfl (.d rfl) rfl rfl ?_)
    | refine r_of (r_d rfl ?_) | refine r_of (r_c rfl rfl ?_) | refine r_of (r_2 rfl rfl ?_) | refine r_of (r_4 rfl rfl rfl rfl ?_)
    | refine o_a hY (a_sl rfl rfl (.cons (.d rfl) (.cons (.d rfl) (.cons (.d rfl) (.cons (.d rfl) (.cons (.d rfl) (.cons (.d rfl) .nil)))))) (by simp [allSz, D.size]) rfl rfl rfl rfl rfl rfl ?_)
    | refine o_a hY (a_call (l2Has_c keptW s (by decide)) (.cons (.w rfl rfl rfl) (.cons (.d rfl) .nil)) rfl ?_))
  exact isR_b rfl
theorem kept_is (s : ByteArray) (b : Bool) (h : (s = ⟨#[97, 114, 114, 97, 121]⟩ ∨ s = ⟨#[102, 111, 114]⟩ ∨ s = ⟨#[116, 111]⟩ ∨ s = ⟨#[112, 114, 105, 110, 116]⟩ ∨ s = ⟨#[109, 105, 110]⟩ ∨ s = ⟨#[109, 97, 120]⟩) ↔ b = true) : kept s = b := by
  rw [Bool.eq_iff_iff, ← h]
  simp only [kept, has, List.any_cons, List.any_nil, Bool.or_eq_true, decide_eq_true_eq, Bool.false_eq_true, or_false, eq_comm (b := s)]
theorem isKept_c (s : ByteArray) : AC Try.prog 56 [.d (.s s)] [] (isR (.d (.b (kept s)))) := by
  (refine AC_fn hY Try.func56 rfl Try.ntmps56 Try.results56 rfl (eq_true (by simp)) ?_; simp only [enumT])
  repeat' (first
    | refine s_seq ?_ | refine s_block ?_ | refine s_reg ?_ | refine s_skip ?_ | refine s_ret ?_ | refine s_end ?_ | refine n_seq ?_ | refine n_blk ?_ | refine n_nil ?_ | refine s_exit ?_ | refine e_seq ?_ | refine e_lp ?_ | refine e_blk ?_ | refine e_blk' rfl ?_
    | (refine o_v hY (v_wr rfl ?_) rfl ?_; · omega) | refine o_v hY (v_pv rfl) rfl ?_ | refine g_y rfl rfl ?_ | refine g_n hY rfl rfl rfl ?_ | refine g_u hY rfl rfl rfl ?_ | (refine g_s rfl rfl ?_ ?_ <;> fail_if_success (intro h; cases h; done)) | refine c_t rfl ?_ | refine c_f rfl ?_ | refine c_s rfl ?_ ?_
    | (intro h; (try simp only [decide_eq_true_eq, decide_eq_false_iff_not, Bool.not_eq_true', Bool.not_eq_false', beq_iff_eq, bne_iff_ne, beq_eq_false_iff_ne, bne_eq_false_iff_eq, ne_eq, toListI] at h); (try simp only [toListC] at h))
    | refine o_a hY (a_box rfl rfl rfl ?_) | refine o_a hY (a_alz rfl rfl rfl rfl rfl ?_) | refine o_a hY (a_als rfl rfl rfl ?_) | refine o_a hY (a_st rfl rfl rfl (.d rfl) rfl rfl ?_)
    | refine r_of (r_d rfl ?_) | refine r_of (r_c rfl rfl ?_) | refine r_of (r_2 rfl rfl ?_) | refine r_of (r_4 rfl rfl rfl rfl ?_))
  all_goals (refine isR_b' (kept_is s _ ?_); first | (have hh := h; revert hh; intro hh; simp only [eq_true hh, true_or, or_true]) | (simp only [eq_false h, *, or_self, Bool.false_eq_true]))
def bAt (s : ByteArray) (q : Nat) : UInt8 := (s.data[q]?).getD 0
def letters (s : ByteArray) (n : Nat) : Bool := (List.range n).all fun i => small (bAt s i)
theorem letters_succ (s : ByteArray) (n : Nat) : letters s (n + 1) = (letters s n && small (bAt s n)) := by simp [letters, List.range_succ]
theorem letters_f {s : ByteArray} {n j : Nat} (hj : j < n) (h : small (bAt s j) = false) : letters s n = false := by
  rw [letters, List.all_eq_false]; exact ⟨j, by simpa using hj, by simp [h]⟩
def okName (s : ByteArray) : Bool := letters s s.size && (within s.size 1 6 && !kept s)
theorem specNameOk_c (s : ByteArray) (hs : s.size ≤ 9223372036854775807) : AC Try.prog 47 [.d (.s s)] [] (isR (.d (.b (okName s)))) := by
  (refine AC_fn hY Try.func47 rfl Try.ntmps47 Try.results47 rfl (eq_true (by simp)) ?_; simp only [enumT])
  repeat' (first
    | refine s_seq ?_ | refine s_block ?_ | refine s_reg ?_ | refine s_skip ?_ | refine s_ret ?_ | refine s_end ?_ | refine n_seq ?_ | refine n_blk ?_ | refine n_nil ?_ | refine s_exit ?_ | refine e_seq ?_ | refine e_lp ?_ | refine e_blk ?_ | refine e_blk' rfl ?_
    | (refine o_v hY (v_wr rfl ?_) rfl ?_; · omega) | refine o_v hY (v_pv rfl) rfl ?_ | refine g_y rfl rfl ?_ | refine g_n hY rfl rfl rfl ?_ | refine g_u hY rfl rfl rfl ?_ | (refine g_s rfl rfl ?_ ?_ <;> fail_if_success (intro h; cases h; done)) | refine c_t rfl ?_ | refine c_f rfl ?_ | refine c_s rfl ?_ ?_
    | (intro h; (try simp only [decide_eq_true_eq, decide_eq_false_iff_not, Bool.not_eq_true', Bool.not_eq_false', beq_iff_eq, bne_iff_ne, beq_eq_false_iff_ne, bne_eq_false_iff_eq, ne_eq, toListI] at h); (try simp only [toListC] at h))
    | refine o_a hY (a_box rfl rfl rfl ?_) | refine o_a hY (a_alz rfl rfl rfl rfl rfl ?_) | refine o_a hY (a_als rfl rfl rfl ?_) | refine o_a hY (a_st rfl rfl rfl (.d rfl) rfl rfl ?_)
    | refine r_of (r_d rfl ?_) | refine r_of (r_c rfl rfl ?_) | refine r_of (r_2 rfl rfl ?_) | refine r_of (r_4 rfl rfl rfl rfl ?_))
  refine s_loop (fun m τ => ∃ j : Nat, j ≤ s.size ∧ m = s.size - j ∧ letters s j = true ∧ τ = ⟨[(0, .d (.s s)), (3, .d (.i .i64 (j : Int)))], [], []⟩) s.size ⟨0, Nat.zero_le _, rfl, rfl, rfl⟩ (Wk.of ⟨rfl, rfl, trivial⟩ trivial rfl) ?_
  rintro m τ ⟨j, hj, rfl, h2, rfl⟩
  repeat' (first
    | refine s_seq ?_ | refine s_block ?_ | refine s_reg ?_ | refine s_skip ?_ | refine s_ret ?_ | refine s_end ?_ | refine n_seq ?_ | refine n_blk ?_ | refine n_nil ?_ | refine s_exit ?_ | refine e_seq ?_ | refine e_lp ?_ | refine e_blk ?_ | refine e_blk' rfl ?_
    | (refine o_v hY (v_wr rfl ?_) rfl ?_; · omega) | refine o_v hY (v_pv rfl) rfl ?_ | refine g_y rfl rfl ?_ | refine g_n hY rfl rfl rfl ?_ | refine g_u hY rfl rfl rfl ?_ | (refine g_s rfl rfl ?_ ?_ <;> fail_if_success (intro h; cases h; done)) | refine c_t rfl ?_ | refine c_f rfl ?_ | refine c_s rfl ?_ ?_
    | (intro h; (try simp only [decide_eq_true_eq, decide_eq_false_iff_not, Bool.not_eq_true', Bool.not_eq_false', beq_iff_eq, bne_iff_ne, beq_eq_false_iff_ne, bne_eq_false_iff_eq, ne_eq, toListI] at h); (try simp only [toListC] at h))
    | refine o_a hY (a_box rfl rfl rfl ?_) | refine o_a hY (a_alz rfl rfl rfl rfl rfl ?_) | refine o_a hY (a_als rfl rfl rfl ?_) | refine o_a hY (a_st rfl rfl rfl (.d rfl) rfl rfl ?_)
    | refine r_of (r_d rfl ?_) | refine r_of (r_c rfl rfl ?_) | refine r_of (r_2 rfl rfl ?_) | refine r_of (r_4 rfl rfl rfl rfl ?_)
    | (refine o_v hY (v_ix j rfl rfl rfl rfl ?_) rfl ?_; · omega)
    | refine o_a hY (a_call (l2Small_c (bAt s j)) (.cons (.d rfl) .nil) rfl ?_)
    | refine o_a hY (a_call (l1In_c _ _ _) (.cons (.d rfl) (.cons (.d rfl) (.cons (.d rfl) .nil))) rfl ?_)
    | refine o_a hY (a_call (l2Kept_c s) (.cons (.d rfl) .nil) rfl ?_))
  · exact isR_b' (by rw [okName, letters_f (j := j) (by omega) h]; rfl)
  · refine n_lp (s.size - (j+1)) ⟨j+1, by omega, rfl, by rw [letters_succ, h2, h]; rfl, rfl⟩ (by omega) (Wk.of ⟨rfl, rfl, trivial⟩ trivial rfl)
  · obtain rfl : j = s.size := by omega
    exact isR_b' (by rw [okName, h2, ‹within _ 1 6 = _›]; rfl)
  · obtain rfl : j = s.size := by omega
    exact isR_b' (by rw [okName, h2, ‹within _ 1 6 = _›]; rfl)
theorem implNameOk_c (s : ByteArray) (hs : s.size ≤ 9223372036854775807) : AC Try.prog 45 [.d (.s s)] [] (isR (.d (.b (okName s)))) := by
  (refine AC_fn hY Try.func45 rfl Try.ntmps45 Try.results45 rfl (eq_true (by simp)) ?_; simp only [enumT])
  repeat' (first
    | refine s_seq ?_ | refine s_block ?_ | refine s_reg ?_ | refine s_skip ?_ | refine s_ret ?_ | refine s_end ?_ | refine n_seq ?_ | refine n_blk ?_ | refine n_nil ?_ | refine s_exit ?_ | refine e_seq ?_ | refine e_lp ?_ | refine e_blk ?_ | refine e_blk' rfl ?_
    | (refine o_v hY (v_wr rfl ?_) rfl ?_; · omega) | refine o_v hY (v_pv rfl) rfl ?_ | refine g_y rfl rfl ?_ | refine g_n hY rfl rfl rfl ?_ | refine g_u hY rfl rfl rfl ?_ | (refine g_s rfl rfl ?_ ?_ <;> fail_if_success (intro h; cases h; done)) | refine c_t rfl ?_ | refine c_f rfl ?_ | refine c_s rfl ?_ ?_
    | (intro h; (try simp only [decide_eq_true_eq, decide_eq_false_iff_not, Bool.not_eq_true', Bool.not_eq_false', beq_iff_eq, bne_iff_ne, beq_eq_false_iff_ne, bne_eq_false_iff_eq, ne_eq, toListI] at h); (try simp only [toListC] at h))
    | refine o_a hY (a_box rfl rfl rfl ?_) | refine o_a hY (a_alz rfl rfl rfl rfl rfl ?_) | refine o_a hY (a_als rfl rfl rfl ?_) | refine o_a hY (a_st rfl rfl rfl (.d rfl) rfl rfl ?_)
    | refine r_of (r_d rfl ?_) | refine r_of (r_c rfl rfl ?_) | refine r_of (r_2 rfl rfl ?_) | refine r_of (r_4 rfl rfl rfl rfl ?_))
  refine s_loop (fun m τ => ∃ j : Nat, j ≤ s.size ∧ m = s.size - j ∧ letters s j = true ∧ τ = ⟨[(0, .d (.s s)), (3, .d (.i .i64 (j : Int)))], [], []⟩) s.size ⟨0, Nat.zero_le _, rfl, rfl, rfl⟩ (Wk.of ⟨rfl, rfl, trivial⟩ trivial rfl) ?_
  rintro m τ ⟨j, hj, rfl, h2, rfl⟩
  repeat' (first
    | refine s_seq ?_ | refine s_block ?_ | refine s_reg ?_ | refine s_skip ?_ | refine s_ret ?_ | refine s_end ?_ | refine n_seq ?_ | refine n_blk ?_ | refine n_nil ?_ | refine s_exit ?_ | refine e_seq ?_ | refine e_lp ?_ | refine e_blk ?_ | refine e_blk' rfl ?_
    | (refine o_v hY (v_wr rfl ?_) rfl ?_; · omega) | refine o_v hY (v_pv rfl) rfl ?_ | refine g_y rfl rfl ?_ | refine g_n hY rfl rfl rfl ?_ | refine g_u hY rfl rfl rfl ?_ | (refine g_s rfl rfl ?_ ?_ <;> fail_if_success (intro h; cases h; done)) | refine c_t rfl ?_ | refine c_f rfl ?_ | refine c_s rfl ?_ ?_
    | (intro h; (try simp only [decide_eq_true_eq, decide_eq_false_iff_not, Bool.not_eq_true', Bool.not_eq_false', beq_iff_eq, bne_iff_ne, beq_eq_false_iff_ne, bne_eq_false_iff_eq, ne_eq, toListI] at h); (try simp only [toListC] at h))
    | refine o_a hY (a_box rfl rfl rfl ?_) | refine o_a hY (a_alz rfl rfl rfl rfl rfl ?_) | refine o_a hY (a_als rfl rfl rfl ?_) | refine o_a hY (a_st rfl rfl rfl (.d rfl) rfl rfl ?_)
    | refine r_of (r_d rfl ?_) | refine r_of (r_c rfl rfl ?_) | refine r_of (r_2 rfl rfl ?_) | refine r_of (r_4 rfl rfl rfl rfl ?_)
    | (refine o_v hY (v_ix j rfl rfl rfl rfl ?_) rfl ?_; · omega)
    | refine o_a hY (a_call (isLetter_c (bAt s j)) (.cons (.d rfl) .nil) rfl ?_)
    | refine o_a hY (a_call (inRange_c _ _ _) (.cons (.d rfl) (.cons (.d rfl) (.cons (.d rfl) .nil))) rfl ?_)
    | refine o_a hY (a_call (isKept_c s) (.cons (.d rfl) .nil) rfl ?_))
  · exact isR_b' (by rw [okName, letters_f (j := j) (by omega) h]; rfl)
  · refine n_lp (s.size - (j+1)) ⟨j+1, by omega, rfl, by rw [letters_succ, h2, h]; rfl, rfl⟩ (by omega) (Wk.of ⟨rfl, rfl, trivial⟩ trivial rfl)
  · obtain rfl : j = s.size := by omega
    exact isR_b' (by rw [okName, h2, ‹within _ 1 6 = _›]; rfl)
  · obtain rfl : j = s.size := by omega
    exact isR_b' (by rw [okName, h2, ‹within _ 1 6 = _›]; rfl)
end Go.Proofs.Ytmclamindmnigaa.Ax
