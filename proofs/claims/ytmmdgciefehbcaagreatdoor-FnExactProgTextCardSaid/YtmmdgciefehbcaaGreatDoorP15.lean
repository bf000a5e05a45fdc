/- Contracts of functions that the claim reaches, over data without addresses, and what follows of them (text P15). No conditions beside those that each theorem names. -/
import Derived.Test.YtmmdgciefehbcaaGreatDoorP14
set_option linter.unusedVariables false
set_option linter.unusedSimpArgs false
namespace Go.Proofs.YtmmdgciefehbcaaGreatDoor.Ax
def kS : Sm → Int
  | .mk k _ _ _ _ _ _ => k
def sS : Sm → ByteArray
  | .mk _ s _ _ _ _ _ => s
def aS : Sm → Ex
  | .mk _ _ a _ _ _ _ => a
def eS : Sm → Ex
  | .mk _ _ _ e _ _ _ => e
def loS : Sm → Ex
  | .mk _ _ _ _ x _ _ => x
def hiS : Sm → Ex
  | .mk _ _ _ _ _ x _ => x
theorem sub_kS (x : Sm) : (encS x).sub 0 1 false = some (.i .i64 (kS x)) := by cases x; rfl
theorem sub_sS (x : Sm) : (encS x).sub 1 1 false = some (.s (sS x)) := by cases x; rfl
theorem sub_aS (x : Sm) : (encS x).sub 2 4 true = some (encE (aS x)) := by cases x; exact sub_S2
theorem sub_eS (x : Sm) : (encS x).sub 6 4 true = some (encE (eS x)) := by cases x; exact sub_S3
theorem sub_loS (x : Sm) : (encS x).sub 10 4 true = some (encE (loS x)) := by cases x; exact sub_S4
theorem sub_hiS (x : Sm) : (encS x).sub 14 4 true = some (encE (hiS x)) := by cases x; exact sub_S5

mutual
def rawS (k : Int) : Sm → List ByteArray
  | .mk kk s _ _ _ _ b => (if kk = k then [s] else []) ++ rawL k b
def rawL (k : Int) : List Sm → List ByteArray
  | [] => []
  | x :: r => rawS k x ++ rawL k r
end
theorem rawS_eq (k : Int) (x : Sm) : rawS k x = (if kS x = k then [sS x] else []) ++ rawL k (bodyS x) := by cases x; rfl
mutual
def preE (k : Int) : Ex → List ByteArray
  | .mk kk _ s l => (if kk = k then [s] else []) ++ preEs k l
def preEs (k : Int) : List Ex → List ByteArray
  | [] => []
  | x :: r => preE k x ++ preEs k r
end
mutual
def askS (k : Int) : Sm → List ByteArray
  | .mk _ _ a e lo hi b => preE k a ++ (preE k e ++ (preE k lo ++ (preE k hi ++ askL k b)))
def askL (k : Int) : List Sm → List ByteArray
  | [] => []
  | x :: r => askS k x ++ askL k r
end
theorem askS_eq (k : Int) (x : Sm) : askS k x = preE k (aS x) ++ (preE k (eS x) ++ (preE k (loS x) ++ (preE k (hiS x) ++ askL k (bodyS x)))) := by cases x; rfl

theorem putS_len (l : List ByteArray) (s : ByteArray) : (putS l s).length ≤ l.length + 1 := by
  have := putL_len s l false []
  simp at this
  exact this
theorem puts_len : ∀ (r out : List ByteArray), (r.foldl putS out).length ≤ out.length + r.length
  | [], out => by simp
  | x :: r, out => by
    have h1 := puts_len r (putS out x)
    have h2 := putS_len out x
    simp only [List.foldl_cons, List.length_cons]
    omega

def CnmS (k : Int) (x : Sm) : Prop := szS x ≤ 1048576 → ∀ out : List ByteArray, out.length + (rawL k (bodyS x)).length ≤ 8388608 → AC Tryz.prog 28 [.d (.sl (strs out)), .d (.sl (encSs (bodyS x))), .d (.i .i64 k)] [] (isR (.d (.sl (strs ((rawL k (bodyS x)).foldl putS out)))))
theorem l4NamesL_c (k : Int) (l : List Sm) (ih : ∀ x ∈ l, CnmS k x) (hz : l.length + sumS l ≤ 1048576) (out : List ByteArray) (hb : out.length + (rawL k l).length ≤ 8388608) : AC Tryz.prog 28 [.d (.sl (strs out)), .d (.sl (encSs l)), .d (.i .i64 k)] [] (isR (.d (.sl (strs ((rawL k l).foldl putS out))))) := by
  have hlen := encSs_len l
  generalize hr : (rawL k l).foldl putS out = res
  (refine AC_fn hY Tryz.func28 rfl Tryz.ntmps28 Tryz.results28 rfl (eq_true (by simp)) ?_; simp only [enumT])
  repeat' (first
    | refine s_seq ?_ | refine s_block ?_ | refine s_reg ?_ | refine s_skip ?_ | refine s_ret ?_ | refine s_end ?_ | refine n_seq ?_ | refine n_blk ?_ | refine n_nil ?_ | refine s_exit ?_ | refine e_seq ?_ | refine e_lp ?_ | refine e_blk ?_ | refine e_blk' rfl ?_
    | (refine o_v hY (v_wr rfl ?_) rfl ?_; · omega) | refine o_v hY (v_pv rfl) rfl ?_ | refine g_y rfl rfl ?_ | refine g_n hY rfl rfl rfl ?_ | refine g_u hY rfl rfl rfl ?_ | (refine g_s rfl rfl ?_ ?_ <;> fail_if_success (intro h; cases h; done)) | refine c_t rfl ?_ | refine c_f rfl ?_ | refine c_s rfl ?_ ?_
    | (intro h; (try simp only [decide_eq_true_eq, decide_eq_false_iff_not, Bool.not_eq_true', Bool.not_eq_false', beq_iff_eq, bne_iff_ne, beq_eq_false_iff_ne, bne_eq_false_iff_eq, ne_eq, toListI] at h); (try simp only [toListC] at h))
    | refine o_a hY (a_box rfl rfl rfl ?_) | refine o_a hY (a_alz rfl rfl rfl rfl rfl ?_) | refine o_a hY (a_als rfl rfl rfl ?_) | refine o_a hY (a_st rfl rfl rfl (.d rfl) rfl rfl ?_)
    | refine r_of (r_d rfl ?_) | refine r_of (r_c rfl rfl ?_) | refine r_of (r_2 rfl rfl ?_) | refine r_of (r_4 rfl rfl rfl rfl ?_))
  refine s_loop (fun m τ => ∃ (j : Nat) (o : List ByteArray), j ≤ l.length ∧ m = l.length - j ∧ o.length + (rawL k (l.drop j)).length ≤ 8388608 ∧ (rawL k (l.drop j)).foldl putS o = res ∧ τ = ⟨[(0, .d (.sl (strs o))), (1, .d (.sl (encSs l))), (2, .d (.i .i64 k)), (7, .d (.i .i64 (j : Int)))], [], []⟩) l.length ⟨0, out, Nat.zero_le _, rfl, hb, hr, rfl⟩ (Wk.of ⟨rfl, rfl, rfl, rfl, trivial⟩ trivial rfl) ?_
  rintro m τ ⟨j, o, hj, rfl, h3, h4, rfl⟩
  repeat' (first
    | refine s_seq ?_ | refine s_block ?_ | refine s_reg ?_ | refine s_skip ?_ | refine s_ret ?_ | refine s_end ?_ | refine n_seq ?_ | refine n_blk ?_ | refine n_nil ?_ | refine s_exit ?_ | refine e_seq ?_ | refine e_lp ?_ | refine e_blk ?_ | refine e_blk' rfl ?_
    | (refine o_v hY (v_wr rfl ?_) rfl ?_; · omega) | refine o_v hY (v_pv rfl) rfl ?_ | refine g_y rfl rfl ?_ | refine g_n hY rfl rfl rfl ?_ | refine g_u hY rfl rfl rfl ?_ | (refine g_s rfl rfl ?_ ?_ <;> fail_if_success (intro h; cases h; done)) | refine c_t rfl ?_ | refine c_f rfl ?_ | refine c_s rfl ?_ ?_
    | (intro h; (try simp only [decide_eq_true_eq, decide_eq_false_iff_not, Bool.not_eq_true', Bool.not_eq_false', beq_iff_eq, bne_iff_ne, beq_eq_false_iff_ne, bne_eq_false_iff_eq, ne_eq, toListI] at h); (try simp only [toListC] at h))
    | refine o_a hY (a_box rfl rfl rfl ?_) | refine o_a hY (a_alz rfl rfl rfl rfl rfl ?_) | refine o_a hY (a_als rfl rfl rfl ?_) | refine o_a hY (a_st rfl rfl rfl (.d rfl) rfl rfl ?_)
    | refine r_of (r_d rfl ?_) | refine r_of (r_c rfl rfl ?_) | refine r_of (r_2 rfl rfl ?_) | refine r_of (r_4 rfl rfl rfl rfl ?_)
    | (refine o_v hY (v_ia j rfl rfl (.d rfl) rfl rfl (encSs_get l j ?_) (size_encS _)) rfl ?_; · omega)
    | refine o_v hY (v_ldp rfl rfl (sub_kS _)) rfl ?_ | refine o_v hY (v_ldp rfl rfl (sub_sS _)) rfl ?_ | refine o_v hY (v_ldp rfl rfl (sub_body _)) rfl ?_
    | (rw [List.drop_eq_getElem_cons (by omega), rawL, rawS_eq] at h3 h4
       simp only [List.length_append, List.foldl_append] at h3 h4
       rw [if_pos ‹_›] at h3 h4
       simp only [List.length_append, List.length_cons, List.length_nil, List.foldl_cons, List.foldl_nil] at h3 h4
       refine o_a hY (a_call (l4Put_c o _ (by omega)) (.cons (.d rfl) (.cons (.d rfl) .nil)) rfl ?_))
    | (refine o_a hY (a_call (ih l[j] (List.getElem_mem _) ?_ _ ?_) (.cons (.d rfl) (.cons (.d rfl) (.cons (.d rfl) .nil))) rfl ?_)
       · (have := sumS_mem l l[j] (List.getElem_mem _); omega)
       · (have := putS_len o (sS l[j]); first | omega | (rw [List.drop_eq_getElem_cons (by omega), rawL, rawS_eq, if_neg ‹_›] at h3; simp at h3; omega))))
  · have h5 := puts_len (rawL k (bodyS l[j])) (putS o (sS l[j]))
    have h6 := putS_len o (sS l[j])
    exact n_lp (l.length - (j+1)) ⟨j+1, (rawL k (bodyS l[j])).foldl putS (putS o (sS l[j])), by omega, rfl, by omega, h4, rfl⟩ (by omega) (Wk.of ⟨rfl, rfl, rfl, rfl, trivial⟩ trivial rfl)
  · have h5 := puts_len (rawL k (bodyS l[j])) o
    rw [List.drop_eq_getElem_cons (by omega), rawL, rawS_eq, if_neg h] at h3 h4
    simp only [List.length_append, List.foldl_append, List.length_nil, List.foldl_nil] at h3 h4
    exact n_lp (l.length - (j+1)) ⟨j+1, (rawL k (bodyS l[j])).foldl putS o, by omega, rfl, by omega, h4, rfl⟩ (by omega) (Wk.of ⟨rfl, rfl, rfl, rfl, trivial⟩ trivial rfl)
  · obtain rfl : j = l.length := by omega
    rw [List.drop_length] at h4
    exact isR_sl (by rw [← h4]; rfl)
theorem specNm_c (k : Int) (x : Sm) : CnmS k x := by
  refine Sm.ind (fun kk s a e lo hi b ih => ?_) x
  intro hz out hb
  have : b.length + sumS b ≤ szS (.mk kk s a e lo hi b) := szS_body (.mk kk s a e lo hi b)
  exact l4NamesL_c k b ih (by omega) out hb
theorem l4Names_c (k : Int) (l : List Sm) (hz : l.length + sumS l ≤ 1048576) (out : List ByteArray) (hb : out.length + (rawL k l).length ≤ 8388608) : AC Tryz.prog 28 [.d (.sl (strs out)), .d (.sl (encSs l)), .d (.i .i64 k)] [] (isR (.d (.sl (strs ((rawL k l).foldl putS out))))) :=
  l4NamesL_c k l (fun x _ => specNm_c k x) hz out hb
theorem varsOf_c (l : List Sm) (hz : l.length + sumS l ≤ 1048576) (hb : (rawL 1 l).length ≤ 8388608) : AC Tryz.prog 26 [.d (.sl (encSs l))] [] (isR (.d (.sl (strs ((rawL 1 l).foldl putS []))))) := by
  (refine AC_fn hY Tryz.func26 rfl Tryz.ntmps26 Tryz.results26 rfl (eq_true (by simp)) ?_; simp only [enumT])
  repeat' (first
    | refine s_seq ?_ | refine s_block ?_ | refine s_reg ?_ | refine s_skip ?_ | refine s_ret ?_ | refine s_end ?_ | refine n_seq ?_ | refine n_blk ?_ | refine n_nil ?_ | refine s_exit ?_ | refine e_seq ?_ | refine e_lp ?_ | refine e_blk ?_ | refine e_blk' rfl ?_
    | (refine o_v hY (v_wr rfl ?_) rfl ?_; · omega) | refine o_v hY (v_pv rfl) rfl ?_ | refine g_y rfl rfl ?_ | refine g_n hY rfl rfl rfl ?_ | refine g_u hY rfl rfl rfl ?_ | (refine g_s rfl rfl ?_ ?_ <;> fail_if_success (intro h; cases h; done)) | refine c_t rfl ?_ | refine c_f rfl ?_ | refine c_s rfl ?_ ?_
    | (intro h; (try simp only [decide_eq_true_eq, decide_eq_false_iff_not, Bool.not_eq_true', Bool.not_eq_false', beq_iff_eq, bne_iff_ne, beq_eq_false_iff_ne, bne_eq_false_iff_eq, ne_eq, toListI] at h); (try simp only [toListC] at h))
    | refine o_a hY (a_box rfl rfl rfl ?_) | refine o_a hY (a_alz rfl rfl rfl rfl rfl ?_) | refine o_a hY (a_als rfl rfl rfl ?_) | refine o_a hY (a_st rfl rfl rfl (.d rfl) rfl rfl ?_)
    | refine r_of (r_d rfl ?_) | refine r_of (r_c rfl rfl ?_) | refine r_of (r_2 rfl rfl ?_) | refine r_of (r_4 rfl rfl rfl rfl ?_)
    | refine o_a hY (a_sl rfl rfl .nil (by simp [allSz]) rfl rfl rfl rfl rfl rfl ?_)
    | refine o_a hY (a_call (l4Names_c 1 l hz [] (by simpa using hb)) (.cons (.w rfl rfl rfl) (.cons (.d rfl) (.cons (.d rfl) .nil))) rfl ?_))
  exact isR_sl rfl
theorem loopVars_c (l : List Sm) (hz : l.length + sumS l ≤ 1048576) (hb : (rawL 3 l).length ≤ 8388608) : AC Tryz.prog 27 [.d (.sl (encSs l))] [] (isR (.d (.sl (strs ((rawL 3 l).foldl putS []))))) := by
  (refine AC_fn hY Tryz.func27 rfl Tryz.ntmps27 Tryz.results27 rfl (eq_true (by simp)) ?_; simp only [enumT])
  repeat' (first
    | refine s_seq ?_ | refine s_block ?_ | refine s_reg ?_ | refine s_skip ?_ | refine s_ret ?_ | refine s_end ?_ | refine n_seq ?_ | refine n_blk ?_ | refine n_nil ?_ | refine s_exit ?_ | refine e_seq ?_ | refine e_lp ?_ | refine e_blk ?_ | refine e_blk' rfl ?_
    | (refine o_v hY (v_wr rfl ?_) rfl ?_; · omega) | refine o_v hY (v_pv rfl) rfl ?_ | refine g_y rfl rfl ?_ | refine g_n hY rfl rfl rfl ?_ | refine g_u hY rfl rfl rfl ?_ | (refine g_s rfl rfl ?_ ?_ <;> fail_if_success (intro h; cases h; done)) | refine c_t rfl ?_ | refine c_f rfl ?_ | refine c_s rfl ?_ ?_
    | (intro h; (try simp only [decide_eq_true_eq, decide_eq_false_iff_not, Bool.not_eq_true', Bool.not_eq_false', beq_iff_eq, bne_iff_ne, beq_eq_false_iff_ne, bne_eq_false_iff_eq, ne_eq, toListI] at h); (try simp only [toListC] at h))
    | refine o_a hY (a_box rfl rfl rfl ?_) | refine o_a hY (a_alz rfl rfl rfl rfl rfl ?_) | refine o_a hY (a_als rfl rfl rfl ?_) | refine o_a hY (a_st rfl rfl rfl (.d rfl) rfl rfl ?_)
    | refine r_of (r_d rfl ?_) | refine r_of (r_c rfl rfl ?_) | refine r_of (r_2 rfl rfl ?_) | refine r_of (r_4 rfl rfl rfl rfl ?_)
    | refine o_a hY (a_sl rfl rfl .nil (by simp [allSz]) rfl rfl rfl rfl rfl rfl ?_)
    | refine o_a hY (a_call (l4Names_c 3 l hz [] (by simpa using hb)) (.cons (.w rfl rfl rfl) (.cons (.d rfl) (.cons (.d rfl) .nil))) rfl ?_))
  exact isR_sl rfl

def CpreE (k : Int) (x : Ex) : Prop := szE x ≤ 1048576 → ∀ out : List ByteArray, out.length + (preE k x).length ≤ 8388608 → AC Tryz.prog 53 [.d (.sl (strs out)), .d (encE x), .d (.i .i64 k)] [] (isR (.d (.sl (strs ((preE k x).foldl putS out)))))
theorem l4Exp_c (k : Int) (x : Ex) : CpreE k x := by
  refine Ex.ind (fun kk q s l ih => ?_) x
  intro hz out hb
  have hlen := encEs_len l
  simp only [szE] at hz
  generalize hr : (preE k _).foldl putS out = res
  simp only [preE, List.foldl_append] at hr
  simp only [preE, List.length_append] at hb
  unfold encE
  (refine AC_fn hY Tryz.func53 rfl Tryz.ntmps53 Tryz.results53 rfl (eq_true (by simp)) ?_; simp only [enumT])
  repeat' (first
    | refine s_seq ?_ | refine s_block ?_ | refine s_reg ?_ | refine s_skip ?_ | refine s_ret ?_ | refine s_end ?_ | refine n_seq ?_ | refine n_blk ?_ | refine n_nil ?_ | refine s_exit ?_ | refine e_seq ?_ | refine e_lp ?_ | refine e_blk ?_ | refine e_blk' rfl ?_
    | (refine o_v hY (v_wr rfl ?_) rfl ?_; · omega) | refine o_v hY (v_pv rfl) rfl ?_ | refine g_y rfl rfl ?_ | refine g_n hY rfl rfl rfl ?_ | refine g_u hY rfl rfl rfl ?_ | (refine g_s rfl rfl ?_ ?_ <;> fail_if_success (intro h; cases h; done)) | refine c_t rfl ?_ | refine c_f rfl ?_ | refine c_s rfl ?_ ?_
    | (intro h; (try simp only [decide_eq_true_eq, decide_eq_false_iff_not, Bool.not_eq_true', Bool.not_eq_false', beq_iff_eq, bne_iff_ne, beq_eq_false_iff_ne, bne_eq_false_iff_eq, ne_eq, toListI] at h); (try simp only [toListC] at h))
    | refine o_a hY (a_box rfl rfl rfl ?_) | refine o_a hY (a_alz rfl rfl rfl rfl rfl ?_) | refine o_a hY (a_als rfl rfl rfl ?_) | refine o_a hY (a_st rfl rfl rfl (.d rfl) rfl rfl ?_)
    | refine r_of (r_d rfl ?_) | refine r_of (r_c rfl rfl ?_) | refine r_of (r_2 rfl rfl ?_) | refine r_of (r_4 rfl rfl rfl rfl ?_)
    | (rw [if_pos ‹_›] at hb hr
       simp only [List.length_cons, List.length_nil, List.foldl_cons, List.foldl_nil] at hb hr
       refine o_a hY (a_call (l4Put_c out s (by omega)) (.cons (.d rfl) (.cons (.d rfl) .nil)) rfl ?_)))
  case' refine_2 => rw [if_neg ‹_›] at hb hr; simp only [List.length_nil, List.foldl_nil] at hb hr
  case' refine_1 => have h6 := putS_len out s
  all_goals (
    refine s_loop (fun m τ => ∃ (j : Nat) (o : List ByteArray), j ≤ l.length ∧ m = l.length - j ∧ o.length + (preEs k (l.drop j)).length ≤ 8388608 ∧ (preEs k (l.drop j)).foldl putS o = res ∧ τ = ⟨[(0, .d (.sl (strs o))), (2, .d (.i .i64 k)), (4, .pt (.l 4) 0), (7, .d (.i .i64 (j : Int)))], [(4, .var (.d (.ag [.i .i64 kk, .i .i64 q, .s s, .sl (encEs l)])))], []⟩) l.length ⟨0, _, Nat.zero_le _, rfl, ?_, hr, rfl⟩ (Wk.of ⟨rfl, rfl, rfl, rfl, trivial⟩ ⟨rfl, trivial⟩ rfl) ?_
    · simp only [List.drop_zero]; omega
    rintro m τ ⟨j, o, hj, rfl, h3, h4, rfl⟩
    repeat' (first
    | refine s_seq ?_ | refine s_block ?_ | refine s_reg ?_ | refine s_skip ?_ | refine s_ret ?_ | refine s_end ?_ | refine n_seq ?_ | refine n_blk ?_ | refine n_nil ?_ | refine s_exit ?_ | refine e_seq ?_ | refine e_lp ?_ | refine e_blk ?_ | refine e_blk' rfl ?_
    | (refine o_v hY (v_wr rfl ?_) rfl ?_; · omega) | refine o_v hY (v_pv rfl) rfl ?_ | refine g_y rfl rfl ?_ | refine g_n hY rfl rfl rfl ?_ | refine g_u hY rfl rfl rfl ?_ | (refine g_s rfl rfl ?_ ?_ <;> fail_if_success (intro h; cases h; done)) | refine c_t rfl ?_ | refine c_f rfl ?_ | refine c_s rfl ?_ ?_
    | (intro h; (try simp only [decide_eq_true_eq, decide_eq_false_iff_not, Bool.not_eq_true', Bool.not_eq_false', beq_iff_eq, bne_iff_ne, beq_eq_false_iff_ne, bne_eq_false_iff_eq, ne_eq, toListI] at h); (try simp only [toListC] at h))
    | refine o_a hY (a_box rfl rfl rfl ?_) | refine o_a hY (a_alz rfl rfl rfl rfl rfl ?_) | refine o_a hY (a_als rfl rfl rfl ?_) | refine o_a hY (a_st rfl rfl rfl (.d rfl) rfl rfl ?_)
    | refine r_of (r_d rfl ?_) | refine r_of (r_c rfl rfl ?_) | refine r_of (r_2 rfl rfl ?_) | refine r_of (r_4 rfl rfl rfl rfl ?_)
    | (refine o_v hY (v_ia j rfl rfl (.d rfl) rfl rfl (encEs_get l j ?_) (size_encE _)) rfl ?_; · omega)
    | refine o_v hY (v_ldp rfl rfl (sub_encE _)) rfl ?_
    | (rw [List.drop_eq_getElem_cons (by omega), preEs] at h3 h4
       simp only [List.length_append, List.foldl_append] at h3 h4
       refine o_a hY (a_call (ih l[j] (List.getElem_mem _) (by have := sumE_mem l l[j] (List.getElem_mem _); omega) o (by omega)) (.cons (.d rfl) (.cons (.d rfl) (.cons (.d rfl) .nil))) rfl ?_)))
    · have h5 := puts_len (preE k l[j]) o
      exact n_lp (l.length - (j+1)) ⟨j+1, (preE k l[j]).foldl putS o, by omega, rfl, by omega, h4, rfl⟩ (by omega) (Wk.of ⟨rfl, rfl, rfl, rfl, trivial⟩ ⟨rfl, trivial⟩ rfl)
    · obtain rfl : j = l.length := by omega
      rw [List.drop_length] at h4
      exact isR_sl (by rw [← h4]; rfl))
end Go.Proofs.YtmmdgciefehbcaaGreatDoor.Ax
