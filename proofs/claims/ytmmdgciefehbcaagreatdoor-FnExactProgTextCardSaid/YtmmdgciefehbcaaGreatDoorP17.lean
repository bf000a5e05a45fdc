/- Contracts of functions that the claim reaches, over data without addresses, and what follows of them (text P17). No conditions beside those that each theorem names. -/
import Derived.Test.YtmmdgciefehbcaaGreatDoorP16
set_option linter.unusedVariables false
set_option linter.unusedSimpArgs false
namespace Go.Proofs.YtmmdgciefehbcaaGreatDoor.Ax
theorem bytesLess_eq' : ∀ (x y : List UInt8), Op.bytesLess x y = decide (x < y)
  | [], [] => by simp [Op.bytesLess]
  | _ :: _, [] => by simp [Op.bytesLess]
  | [], _ :: _ => by simp [Op.bytesLess]
  | a :: x, b :: y => by
    rw [Op.bytesLess, bytesLess_eq' x y]
    simp only [List.cons_lt_cons_iff]
    by_cases h1 : a < b <;> by_cases h2 : a = b <;> by_cases h3 : x < y <;> simp [h1, h2, h3]
theorem lt_eq (a b : ByteArray) : lt a b = decide (a.toList < b.toList) := bytesLess_eq' _ _
theorem lt_tot (a b : ByteArray) : (lt a b || decide (a = b)) = !lt b a := by
  rw [lt_eq, lt_eq, Bool.eq_iff_iff]
  simp only [Bool.or_eq_true, decide_eq_true_eq, Bool.not_eq_true', decide_eq_false_iff_not, ← toListI]
  constructor
  · rintro (h | h)
    · exact List.lt_asymm h
    · rw [h]; exact List.lt_irrefl _
  · intro h
    by_cases hl : a.toList < b.toList
    · exact .inl hl
    · exact .inr (List.le_antisymm (List.not_lt.1 h) (List.not_lt.1 hl))
def ltO : Option ByteArray → ByteArray → Bool
  | none, _ => true
  | some s, x => lt s x
/-- The names of arrays ascend; each is right. -/
def arrB (pr : Option ByteArray) : List Ar → Bool
  | [] => true
  | x :: r => (okName x.s && (within x.n 1 16 && ltO pr x.s)) && arrB (some x.s) r
def prv (l : List Ar) : Nat → Option ByteArray
  | 0 => none
  | j + 1 => (l[j]?).map (·.s)
theorem prv_succ (l : List Ar) (j : Nat) (h : j < l.length) : prv l (j + 1) = some l[j].s := by simp [prv, h]
theorem prv_pos (l : List Ar) (j : Nat) (h0 : (j : Int) > 0) (h : j < l.length) : prv l j = some l[j-1].s := by
  cases j with
  | zero => simp at h0
  | succ i => exact prv_succ l i (by omega)
theorem ltO_no {a b : ByteArray} (h : (Op.bytesLess a.toList b.toList || a.toList == b.toList) = true) : lt b a = false := by
  have := lt_tot a b
  rw [eqS] at h
  rw [lt, h] at this
  simpa using this.symm
theorem ltO_yes {a b : ByteArray} (h : (Op.bytesLess a.toList b.toList || a.toList == b.toList) = false) : lt b a = true := by
  have := lt_tot a b
  rw [eqS] at h
  rw [lt, h] at this
  simpa using this.symm
theorem sub_sA (x : Ar) : (encA x).sub 0 1 false = some (.s x.s) := rfl
theorem sub_nA (x : Ar) : (encA x).sub 1 1 false = some (.i .i64 x.n) := rfl
theorem set_A (x : Ar) : (D.ag [.s ⟨#[]⟩, .i .i64 0]).set 0 (encA x) = some (encA x) := rfl
set_option maxHeartbeats 8000000 in
theorem arrsOk_c (l : List Ar) (hz : l.length + sumA l ≤ 1048576) : AC Tryz.prog 37 [.d (.sl (encAs l))] [] (isR (.d (.b (arrB none l && decide ((l.length : Int) ≤ 4))))) := by
  have hlen := encAs_len l
  generalize hr : (arrB none l && decide ((l.length : Int) ≤ 4)) = res
  (refine AC_fn hY Tryz.func37 rfl Tryz.ntmps37 Tryz.results37 rfl (eq_true (by simp)) ?_; simp only [enumT])
  repeat' (first
    | refine s_seq ?_ | refine s_block ?_ | refine s_reg ?_ | refine s_skip ?_ | refine s_ret ?_ | refine s_end ?_ | refine n_seq ?_ | refine n_blk ?_ | refine n_nil ?_ | refine s_exit ?_ | refine e_seq ?_ | refine e_lp ?_ | refine e_blk ?_ | refine e_blk' rfl ?_
    | (refine o_v hY (v_wr rfl ?_) rfl ?_; · omega) | refine o_v hY (v_pv rfl) rfl ?_ | refine g_y rfl rfl ?_ | refine g_n hY rfl rfl rfl ?_ | refine g_u hY rfl rfl rfl ?_ | (refine g_s rfl rfl ?_ ?_ <;> fail_if_success (intro h; cases h; done)) | refine c_t rfl ?_ | refine c_f rfl ?_ | refine c_s rfl ?_ ?_
    | (intro h; (try simp only [decide_eq_true_eq, decide_eq_false_iff_not, Bool.not_eq_true', Bool.not_eq_false', beq_iff_eq, bne_iff_ne, beq_eq_false_iff_ne, bne_eq_false_iff_eq, ne_eq, toListI] at h); (try simp only [toListC] at h))
    | refine o_a hY (a_box rfl rfl rfl ?_) | refine o_a hY (a_alz rfl rfl rfl rfl rfl ?_) | refine o_a hY (a_als rfl rfl rfl ?_) | refine o_a hY (a_st rfl rfl rfl (.d rfl) rfl rfl ?_)
    | refine r_of (r_d rfl ?_) | refine r_of (r_c rfl rfl ?_) | refine r_of (r_2 rfl rfl ?_) | refine r_of (r_4 rfl rfl rfl rfl ?_))
  refine s_loop (fun m τ => ∃ (j : Nat), j ≤ l.length ∧ m = l.length - j ∧ (arrB (prv l j) (l.drop j) && decide ((l.length : Int) ≤ 4)) = res ∧ τ = ⟨[(0, .d (.sl (encAs l))), (5, .d (.sl (encAs l))), (6, .d (.i .i64 (l.length : Int))), (7, .d (.i .i64 (j : Int)))], [], []⟩) l.length ⟨0, Nat.zero_le _, rfl, hr, rfl⟩ (Wk.of ⟨rfl, rfl, by rw [← hlen]; rfl, rfl, trivial⟩ trivial rfl) ?_
  rintro m τ ⟨j, hj, rfl, h4, rfl⟩
  by_cases hlt : j < l.length
  · have hs : l[j].s.size ≤ sumA l := sumA_mem l l[j] (List.getElem_mem _)
    rw [List.drop_eq_getElem_cons hlt, arrB] at h4
    repeat' (first
    | refine s_seq ?_ | refine s_block ?_ | refine s_reg ?_ | refine s_skip ?_ | refine s_ret ?_ | refine s_end ?_ | refine n_seq ?_ | refine n_blk ?_ | refine n_nil ?_ | refine s_exit ?_ | refine e_seq ?_ | refine e_lp ?_ | refine e_blk ?_ | refine e_blk' rfl ?_
    | (refine o_v hY (v_wr rfl ?_) rfl ?_; · omega) | refine o_v hY (v_pv rfl) rfl ?_ | refine g_y rfl rfl ?_ | refine g_n hY rfl rfl rfl ?_ | refine g_u hY rfl rfl rfl ?_ | (refine g_s rfl rfl ?_ ?_ <;> fail_if_success (intro h; cases h; done)) | refine c_t rfl ?_ | refine c_f rfl ?_ | refine c_s rfl ?_ ?_
    | (intro h; (try simp only [decide_eq_true_eq, decide_eq_false_iff_not, Bool.not_eq_true', Bool.not_eq_false', beq_iff_eq, bne_iff_ne, beq_eq_false_iff_ne, bne_eq_false_iff_eq, ne_eq, toListI] at h); (try simp only [toListC] at h))
    | refine o_a hY (a_box rfl rfl rfl ?_) | refine o_a hY (a_alz rfl rfl rfl rfl rfl ?_) | refine o_a hY (a_als rfl rfl rfl ?_) | refine o_a hY (a_st rfl rfl rfl (.d rfl) rfl rfl ?_)
    | refine r_of (r_d rfl ?_) | refine r_of (r_c rfl rfl ?_) | refine r_of (r_2 rfl rfl ?_) | refine r_of (r_4 rfl rfl rfl rfl ?_)
    | (refine o_v hY (v_ia j rfl rfl (.d rfl) rfl rfl (encAs_get l j ?_) (size_encA _)) rfl ?_; · omega)
    | refine o_v hY (v_ldp rfl rfl (sub_encA _)) rfl ?_
    | refine o_a hY (a_st rfl rfl rfl (.d rfl) (set_A _) (size_encA _) ?_))
    refine p_start (by kernel_rfl) [] (.tk 0 (.tk 1 (.one 2 (.tk 3 (.tk 4 (.tk 5 (.tk 6 (.one 7 (.tk 8 (.tk 9 (.tk 10 (.tk 11 (.tk 12 (.tk 13 (.tk 14 (.tk 15 (.tk 16 (.tk 17 (.tk 18 (.tk 19 (.tk 20 (.tk 21 (.tk 22 (.tk 23 (.tk 24 .done))))))))))))))))))))))))) (by kernel_rfl) ?_
    repeat' (first
    | refine s_seq ?_ | refine s_block ?_ | refine s_reg ?_ | refine s_skip ?_ | refine s_ret ?_ | refine s_end ?_ | refine n_seq ?_ | refine n_blk ?_ | refine n_nil ?_ | refine s_exit ?_ | refine e_seq ?_ | refine e_lp ?_ | refine e_blk ?_ | refine e_blk' rfl ?_
    | (refine o_v hY (v_wr rfl ?_) rfl ?_; · omega) | refine o_v hY (v_pv rfl) rfl ?_ | refine g_y rfl rfl ?_ | refine g_n hY rfl rfl rfl ?_ | refine g_u hY rfl rfl rfl ?_ | (refine g_s rfl rfl ?_ ?_ <;> fail_if_success (intro h; cases h; done)) | refine c_t rfl ?_ | refine c_f rfl ?_ | refine c_s rfl ?_ ?_
    | (intro h; (try simp only [decide_eq_true_eq, decide_eq_false_iff_not, Bool.not_eq_true', Bool.not_eq_false', beq_iff_eq, bne_iff_ne, beq_eq_false_iff_ne, bne_eq_false_iff_eq, ne_eq, toListI] at h); (try simp only [toListC] at h))
    | refine o_a hY (a_box rfl rfl rfl ?_) | refine o_a hY (a_alz rfl rfl rfl rfl rfl ?_) | refine o_a hY (a_als rfl rfl rfl ?_) | refine o_a hY (a_st rfl rfl rfl (.d rfl) rfl rfl ?_)
    | refine r_of (r_d rfl ?_) | refine r_of (r_c rfl rfl ?_) | refine r_of (r_2 rfl rfl ?_) | refine r_of (r_4 rfl rfl rfl rfl ?_)
    | refine p_tk hY rfl rfl (v_pv rfl) rfl noPan_ret ?_ | refine p_tkg hY rfl rfl rfl rfl (v_pv rfl) rfl noPan_ret ?_ | refine p_tkn hY rfl rfl rfl (.inl rfl) rfl noPan_ret ?_ | refine p_tkn hY rfl rfl rfl (.inr rfl) rfl noPan_ret ?_ | refine p_done ?_ | refine p_one hY rfl (x_s rfl (.inl rfl) rfl ?_) | refine p_one hY rfl (x_s rfl (.inr rfl) rfl ?_) | refine p_two hY rfl rfl (x_s rfl (.inl rfl) rfl ?_) (x_s rfl (.inl rfl) rfl ?_) | (refine p_sg rfl rfl rfl rfl ?_ ?_ <;> fail_if_success (intro h; cases h; done)) | (refine p_so rfl rfl rfl rfl ?_ ?_ <;> fail_if_success (intro h; cases h; done))
    | (refine p_tkg hY rfl rfl rfl rfl (v_ia (j-1) rfl rfl (.d rfl) rfl ?_ (encAs_get l (j-1) ?_) (size_encA _)) rfl noPan_ret ?_
       · (rw [IntWalk.i64_in _ (by omega)]; omega)
       · omega)
    | refine p_tk hY rfl rfl (v_ldb rfl rfl rfl (sub_sA _)) rfl noPan_ret ?_ | refine p_tkg hY rfl rfl rfl rfl (v_ldb rfl rfl rfl (sub_nA _)) rfl noPan_ret ?_ | refine p_tkg hY rfl rfl rfl rfl (v_ldb rfl rfl rfl (sub_sA _)) rfl noPan_ret ?_ | refine p_tkg hY rfl rfl rfl rfl (v_ldp rfl rfl (sub_sA _)) rfl noPan_ret ?_
    | (refine p_tkg hY rfl rfl rfl rfl (v_wr rfl ?_) rfl noPan_ret ?_
       · omega)
    | refine p_one hY rfl (x_n rfl ?_) | refine p_one hY rfl (x_y rfl rfl rfl rfl ?_)
    | refine a_call (implNameOk_c _ (by omega)) (.cons (.d rfl) .nil) rfl ?_
    | refine a_call (inRange_c _ _ _) (.cons (.d rfl) (.cons (.d rfl) (.cons (.d rfl) .nil))) rfl ?_)
    · exact isR_b (by rw [← h4, h]; rfl)
    · exact isR_b (by rw [← h4, ‹okName _ = true›, h]; rfl)
    · exact isR_b (by rw [← h4, prv_pos l j ‹_› hlt, ltO, ltO_no h]; simp)
    · refine n_lp (l.length - (j+1)) ⟨j+1, by omega, rfl, ?_, rfl⟩ (by omega) (Wk.of ⟨rfl, rfl, rfl, rfl, trivial⟩ trivial rfl)
      rw [← h4, prv_pos l j ‹_› hlt, ltO, ltO_yes h, prv_succ l j hlt, ‹okName _ = true›, ‹within _ _ _ = true›]
      rfl
    · refine n_lp (l.length - (j+1)) ⟨j+1, by omega, rfl, ?_, rfl⟩ (by omega) (Wk.of ⟨rfl, rfl, rfl, rfl, trivial⟩ trivial rfl)
      obtain rfl : j = 0 := by omega
      rw [← h4, prv_succ l 0 hlt, ‹okName _ = true›, ‹within _ _ _ = true›]
      rfl
    · exact absurd h (by omega)
  · obtain rfl : j = l.length := by omega
    rw [List.drop_length, arrB, Bool.true_and] at h4
    repeat' (first
    | refine s_seq ?_ | refine s_block ?_ | refine s_reg ?_ | refine s_skip ?_ | refine s_ret ?_ | refine s_end ?_ | refine n_seq ?_ | refine n_blk ?_ | refine n_nil ?_ | refine s_exit ?_ | refine e_seq ?_ | refine e_lp ?_ | refine e_blk ?_ | refine e_blk' rfl ?_
    | (refine o_v hY (v_wr rfl ?_) rfl ?_; · omega) | refine o_v hY (v_pv rfl) rfl ?_ | refine g_y rfl rfl ?_ | refine g_n hY rfl rfl rfl ?_ | refine g_u hY rfl rfl rfl ?_ | (refine g_s rfl rfl ?_ ?_ <;> fail_if_success (intro h; cases h; done)) | refine c_t rfl ?_ | refine c_f rfl ?_ | refine c_s rfl ?_ ?_
    | (intro h; (try simp only [decide_eq_true_eq, decide_eq_false_iff_not, Bool.not_eq_true', Bool.not_eq_false', beq_iff_eq, bne_iff_ne, beq_eq_false_iff_ne, bne_eq_false_iff_eq, ne_eq, toListI] at h); (try simp only [toListC] at h))
    | refine o_a hY (a_box rfl rfl rfl ?_) | refine o_a hY (a_alz rfl rfl rfl rfl rfl ?_) | refine o_a hY (a_als rfl rfl rfl ?_) | refine o_a hY (a_st rfl rfl rfl (.d rfl) rfl rfl ?_)
    | refine r_of (r_d rfl ?_) | refine r_of (r_c rfl rfl ?_) | refine r_of (r_2 rfl rfl ?_) | refine r_of (r_4 rfl rfl rfl rfl ?_))
    · exact absurd h (by omega)
    · exact isR_b (by rw [← h4, hlen])

/-- What stands ahead of the names. -/
def headB (p : Pg) : Bool := arrB none p.a && (p.b.all okS && (decide ((p.a.length : Int) ≤ 4) && (decide ((p.b.length : Int) ≤ 12) && decide ((nodL p.b : Int) ≤ 40))))
theorem szS_in (l : List Sm) (j : Nat) (h : j < l.length) : 1 + szS l[j] ≤ l.length + sumS l := by have := sumS_mem l l[j] (List.getElem_mem _); omega
set_option maxHeartbeats 8000000 in
theorem l4Head_c (p : Pg) (hz : szP p ≤ 1048576) : AC Tryz.prog 25 [.d (encP p)] [] (isR (.d (.b (headB p)))) := by
  have hla := encAs_len p.a
  have hlb := encSs_len p.b
  unfold szP at hz
  generalize hr : headB p = res
  unfold headB at hr
  (refine AC_fn hY Tryz.func25 rfl Tryz.ntmps25 Tryz.results25 rfl (eq_true (by simp)) ?_; simp only [enumT])
  repeat' (first
    | refine s_seq ?_ | refine s_block ?_ | refine s_reg ?_ | refine s_skip ?_ | refine s_ret ?_ | refine s_end ?_ | refine n_seq ?_ | refine n_blk ?_ | refine n_nil ?_ | refine s_exit ?_ | refine e_seq ?_ | refine e_lp ?_ | refine e_blk ?_ | refine e_blk' rfl ?_
    | (refine o_v hY (v_wr rfl ?_) rfl ?_; · omega) | refine o_v hY (v_pv rfl) rfl ?_ | refine g_y rfl rfl ?_ | refine g_n hY rfl rfl rfl ?_ | refine g_u hY rfl rfl rfl ?_ | (refine g_s rfl rfl ?_ ?_ <;> fail_if_success (intro h; cases h; done)) | refine c_t rfl ?_ | refine c_f rfl ?_ | refine c_s rfl ?_ ?_
    | (intro h; (try simp only [decide_eq_true_eq, decide_eq_false_iff_not, Bool.not_eq_true', Bool.not_eq_false', beq_iff_eq, bne_iff_ne, beq_eq_false_iff_ne, bne_eq_false_iff_eq, ne_eq, toListI] at h); (try simp only [toListC] at h))
    | refine o_a hY (a_box rfl rfl rfl ?_) | refine o_a hY (a_alz rfl rfl rfl rfl rfl ?_) | refine o_a hY (a_als rfl rfl rfl ?_) | refine o_a hY (a_st rfl rfl rfl (.d rfl) rfl rfl ?_)
    | refine r_of (r_d rfl ?_) | refine r_of (r_c rfl rfl ?_) | refine r_of (r_2 rfl rfl ?_) | refine r_of (r_4 rfl rfl rfl rfl ?_))
  refine s_loop (fun m τ => ∃ (j : Nat), j ≤ p.a.length ∧ m = p.a.length - j ∧ (arrB (prv p.a j) (p.a.drop j) && (p.b.all okS && (decide ((p.a.length : Int) ≤ 4) && (decide ((p.b.length : Int) ≤ 12) && decide ((nodL p.b : Int) ≤ 40))))) = res ∧ τ = ⟨[(1, .pt (.l 1) 0), (3, .d (.i .i64 (j : Int)))], [(1, .var (.d (encP p)))], []⟩) p.a.length ⟨0, Nat.zero_le _, rfl, hr, rfl⟩ (Wk.of ⟨rfl, rfl, trivial⟩ ⟨rfl, trivial⟩ rfl) ?_
  rintro m τ ⟨j, hj, rfl, h4, rfl⟩
  by_cases hlt : j < p.a.length
  · have hs : p.a[j].s.size ≤ sumA p.a := sumA_mem p.a p.a[j] (List.getElem_mem _)
    rw [List.drop_eq_getElem_cons hlt, arrB] at h4
    repeat' (first
    | refine s_seq ?_ | refine s_block ?_ | refine s_reg ?_ | refine s_skip ?_ | refine s_ret ?_ | refine s_end ?_ | refine n_seq ?_ | refine n_blk ?_ | refine n_nil ?_ | refine s_exit ?_ | refine e_seq ?_ | refine e_lp ?_ | refine e_blk ?_ | refine e_blk' rfl ?_
    | (refine o_v hY (v_wr rfl ?_) rfl ?_; · omega) | refine o_v hY (v_pv rfl) rfl ?_ | refine g_y rfl rfl ?_ | refine g_n hY rfl rfl rfl ?_ | refine g_u hY rfl rfl rfl ?_ | (refine g_s rfl rfl ?_ ?_ <;> fail_if_success (intro h; cases h; done)) | refine c_t rfl ?_ | refine c_f rfl ?_ | refine c_s rfl ?_ ?_
    | (intro h; (try simp only [decide_eq_true_eq, decide_eq_false_iff_not, Bool.not_eq_true', Bool.not_eq_false', beq_iff_eq, bne_iff_ne, beq_eq_false_iff_ne, bne_eq_false_iff_eq, ne_eq, toListI] at h); (try simp only [toListC] at h))
    | refine o_a hY (a_box rfl rfl rfl ?_) | refine o_a hY (a_alz rfl rfl rfl rfl rfl ?_) | refine o_a hY (a_als rfl rfl rfl ?_) | refine o_a hY (a_st rfl rfl rfl (.d rfl) rfl rfl ?_)
    | refine r_of (r_d rfl ?_) | refine r_of (r_c rfl rfl ?_) | refine r_of (r_2 rfl rfl ?_) | refine r_of (r_4 rfl rfl rfl rfl ?_))
    refine p_start (by kernel_rfl) [] (.tk 0 (.tk 1 (.tk 2 (.tk 3 (.tk 4 (.tk 5 (.one 6 (.tk 7 (.tk 8 (.tk 9 (.tk 10 (.tk 11 (.tk 12 (.tk 13 (.tk 14 (.one 15 (.tk 16 (.tk 17 (.tk 18 (.tk 19 (.tk 20 (.tk 21 (.tk 22 (.tk 23 (.tk 24 (.tk 25 (.tk 26 (.tk 27 (.tk 28 (.tk 29 (.tk 30 (.tk 31 (.tk 32 (.tk 33 (.tk 34 (.tk 35 (.tk 36 (.tk 37 .done)))))))))))))))))))))))))))))))))))))) (by kernel_rfl) ?_
    repeat' (first
    | refine s_seq ?_ | refine s_block ?_ | refine s_reg ?_ | refine s_skip ?_ | refine s_ret ?_ | refine s_end ?_ | refine n_seq ?_ | refine n_blk ?_ | refine n_nil ?_ | refine s_exit ?_ | refine e_seq ?_ | refine e_lp ?_ | refine e_blk ?_ | refine e_blk' rfl ?_
    | (refine o_v hY (v_wr rfl ?_) rfl ?_; · omega) | refine o_v hY (v_pv rfl) rfl ?_ | refine g_y rfl rfl ?_ | refine g_n hY rfl rfl rfl ?_ | refine g_u hY rfl rfl rfl ?_ | (refine g_s rfl rfl ?_ ?_ <;> fail_if_success (intro h; cases h; done)) | refine c_t rfl ?_ | refine c_f rfl ?_ | refine c_s rfl ?_ ?_
    | (intro h; (try simp only [decide_eq_true_eq, decide_eq_false_iff_not, Bool.not_eq_true', Bool.not_eq_false', beq_iff_eq, bne_iff_ne, beq_eq_false_iff_ne, bne_eq_false_iff_eq, ne_eq, toListI] at h); (try simp only [toListC] at h))
    | refine o_a hY (a_box rfl rfl rfl ?_) | refine o_a hY (a_alz rfl rfl rfl rfl rfl ?_) | refine o_a hY (a_als rfl rfl rfl ?_) | refine o_a hY (a_st rfl rfl rfl (.d rfl) rfl rfl ?_)
    | refine r_of (r_d rfl ?_) | refine r_of (r_c rfl rfl ?_) | refine r_of (r_2 rfl rfl ?_) | refine r_of (r_4 rfl rfl rfl rfl ?_)
    | refine p_tk hY rfl rfl (v_pv rfl) rfl noPan_ret ?_ | refine p_tkg hY rfl rfl rfl rfl (v_pv rfl) rfl noPan_ret ?_ | refine p_tkn hY rfl rfl rfl (.inl rfl) rfl noPan_ret ?_ | refine p_tkn hY rfl rfl rfl (.inr rfl) rfl noPan_ret ?_ | refine p_done ?_ | refine p_one hY rfl (x_s rfl (.inl rfl) rfl ?_) | refine p_one hY rfl (x_s rfl (.inr rfl) rfl ?_) | refine p_two hY rfl rfl (x_s rfl (.inl rfl) rfl ?_) (x_s rfl (.inl rfl) rfl ?_) | (refine p_sg rfl rfl rfl rfl ?_ ?_ <;> fail_if_success (intro h; cases h; done)) | (refine p_so rfl rfl rfl rfl ?_ ?_ <;> fail_if_success (intro h; cases h; done))
    | (refine p_tk hY rfl rfl (v_ia j rfl rfl (.d rfl) rfl rfl (encAs_get p.a j ?_) (size_encA _)) rfl noPan_ret ?_
       · omega)
    | (refine p_tkg hY rfl rfl rfl rfl (v_ia j rfl rfl (.d rfl) rfl rfl (encAs_get p.a j ?_) (size_encA _)) rfl noPan_ret ?_
       · omega)
    | (refine p_tkg hY rfl rfl rfl rfl (v_ia (j-1) rfl rfl (.d rfl) rfl ?_ (encAs_get p.a (j-1) ?_) (size_encA _)) rfl noPan_ret ?_
       · (rw [IntWalk.i64_in _ (by omega)]; omega)
       · omega)
    | refine p_tk hY rfl rfl (v_ldp rfl rfl (sub_sA _)) rfl noPan_ret ?_ | refine p_tkg hY rfl rfl rfl rfl (v_ldp rfl rfl (sub_nA _)) rfl noPan_ret ?_ | refine p_tkg hY rfl rfl rfl rfl (v_ldp rfl rfl (sub_sA _)) rfl noPan_ret ?_
    | refine p_one hY rfl (x_n rfl ?_) | refine p_one hY rfl (x_y rfl rfl rfl rfl ?_)
    | refine a_call (specNameOk_c _ (by omega)) (.cons (.d rfl) .nil) rfl ?_
    | refine a_call (l1In_c _ _ _) (.cons (.d rfl) (.cons (.d rfl) (.cons (.d rfl) .nil))) rfl ?_)
    · exact isR_b (by rw [← h4, h]; rfl)
    · exact isR_b (by rw [← h4, ‹okName _ = true›, h]; rfl)
    · exact isR_b (by rw [← h4, prv_pos p.a j ‹_› hlt, ltO, lt, h]; simp)
    · refine n_lp (p.a.length - (j+1)) ⟨j+1, by omega, rfl, ?_, rfl⟩ (by omega) (Wk.of ⟨rfl, rfl, trivial⟩ ⟨rfl, trivial⟩ rfl)
      rw [← h4, prv_pos p.a j ‹_› hlt, ltO, lt, h, prv_succ p.a j hlt, ‹okName _ = true›, ‹within _ _ _ = true›]
      rfl
    · refine n_lp (p.a.length - (j+1)) ⟨j+1, by omega, rfl, ?_, rfl⟩ (by omega) (Wk.of ⟨rfl, rfl, trivial⟩ ⟨rfl, trivial⟩ rfl)
      obtain rfl : j = 0 := by omega
      rw [← h4, prv_succ p.a 0 hlt, ‹okName _ = true›, ‹within _ _ _ = true›]
      rfl
    · exact absurd h (by omega)
  · obtain rfl : j = p.a.length := by omega
    rw [List.drop_length, arrB, Bool.true_and] at h4
    repeat' (first
    | refine s_seq ?_ | refine s_block ?_ | refine s_reg ?_ | refine s_skip ?_ | refine s_ret ?_ | refine s_end ?_ | refine n_seq ?_ | refine n_blk ?_ | refine n_nil ?_ | refine s_exit ?_ | refine e_seq ?_ | refine e_lp ?_ | refine e_blk ?_ | refine e_blk' rfl ?_
    | (refine o_v hY (v_wr rfl ?_) rfl ?_; · omega) | refine o_v hY (v_pv rfl) rfl ?_ | refine g_y rfl rfl ?_ | refine g_n hY rfl rfl rfl ?_ | refine g_u hY rfl rfl rfl ?_ | (refine g_s rfl rfl ?_ ?_ <;> fail_if_success (intro h; cases h; done)) | refine c_t rfl ?_ | refine c_f rfl ?_ | refine c_s rfl ?_ ?_
    | (intro h; (try simp only [decide_eq_true_eq, decide_eq_false_iff_not, Bool.not_eq_true', Bool.not_eq_false', beq_iff_eq, bne_iff_ne, beq_eq_false_iff_ne, bne_eq_false_iff_eq, ne_eq, toListI] at h); (try simp only [toListC] at h))
    | refine o_a hY (a_box rfl rfl rfl ?_) | refine o_a hY (a_alz rfl rfl rfl rfl rfl ?_) | refine o_a hY (a_als rfl rfl rfl ?_) | refine o_a hY (a_st rfl rfl rfl (.d rfl) rfl rfl ?_)
    | refine r_of (r_d rfl ?_) | refine r_of (r_c rfl rfl ?_) | refine r_of (r_2 rfl rfl ?_) | refine r_of (r_4 rfl rfl rfl rfl ?_))
    · exact absurd h (by omega)
    refine s_loop (fun m τ => ∃ (j : Nat), j ≤ p.b.length ∧ m = p.b.length - j ∧ ((p.b.drop j).all okS && (decide ((p.a.length : Int) ≤ 4) && (decide ((p.b.length : Int) ≤ 12) && decide ((nodL p.b : Int) ≤ 40)))) = res ∧ τ = ⟨[(1, .pt (.l 1) 0), (4, .d (.i .i64 (j : Int)))], [(1, .var (.d (encP p)))], []⟩) p.b.length ⟨0, Nat.zero_le _, rfl, h4, rfl⟩ (Wk.of ⟨rfl, rfl, trivial⟩ ⟨rfl, trivial⟩ rfl) ?_
    clear h4 h
    rintro m τ ⟨j, hj, rfl, h4, rfl⟩
    by_cases hlt : j < p.b.length
    · have hs := szS_in p.b j hlt
      rw [List.drop_eq_getElem_cons hlt, List.all_cons] at h4
      repeat' (first
    | refine s_seq ?_ | refine s_block ?_ | refine s_reg ?_ | refine s_skip ?_ | refine s_ret ?_ | refine s_end ?_ | refine n_seq ?_ | refine n_blk ?_ | refine n_nil ?_ | refine s_exit ?_ | refine e_seq ?_ | refine e_lp ?_ | refine e_blk ?_ | refine e_blk' rfl ?_
    | (refine o_v hY (v_wr rfl ?_) rfl ?_; · omega) | refine o_v hY (v_pv rfl) rfl ?_ | refine g_y rfl rfl ?_ | refine g_n hY rfl rfl rfl ?_ | refine g_u hY rfl rfl rfl ?_ | (refine g_s rfl rfl ?_ ?_ <;> fail_if_success (intro h; cases h; done)) | refine c_t rfl ?_ | refine c_f rfl ?_ | refine c_s rfl ?_ ?_
    | (intro h; (try simp only [decide_eq_true_eq, decide_eq_false_iff_not, Bool.not_eq_true', Bool.not_eq_false', beq_iff_eq, bne_iff_ne, beq_eq_false_iff_ne, bne_eq_false_iff_eq, ne_eq, toListI] at h); (try simp only [toListC] at h))
    | refine o_a hY (a_box rfl rfl rfl ?_) | refine o_a hY (a_alz rfl rfl rfl rfl rfl ?_) | refine o_a hY (a_als rfl rfl rfl ?_) | refine o_a hY (a_st rfl rfl rfl (.d rfl) rfl rfl ?_)
    | refine r_of (r_d rfl ?_) | refine r_of (r_c rfl rfl ?_) | refine r_of (r_2 rfl rfl ?_) | refine r_of (r_4 rfl rfl rfl rfl ?_)
    | (refine o_v hY (v_ia j rfl rfl (.d rfl) rfl rfl (encSs_get p.b j ?_) (size_encS _)) rfl ?_; · omega)
    | refine o_v hY (v_ldp rfl rfl (sub_encS _)) rfl ?_
    | refine o_a hY (a_call (specStmtOk_c' p.b[j] (by omega)) (.cons (.d rfl) .nil) rfl ?_))
      · exact isR_b (by rw [← h4, h]; rfl)
      · refine n_lp (p.b.length - (j+1)) ⟨j+1, by omega, rfl, ?_, rfl⟩ (by omega) (Wk.of ⟨rfl, rfl, trivial⟩ ⟨rfl, trivial⟩ rfl)
        rw [← h4, h]
        rfl
      all_goals (exfalso; omega)
    · obtain rfl : j = p.b.length := by omega
      rw [List.drop_length, List.all_nil, Bool.true_and, ← hla, ← hlb] at h4
      repeat' (first
    | refine s_seq ?_ | refine s_block ?_ | refine s_reg ?_ | refine s_skip ?_ | refine s_ret ?_ | refine s_end ?_ | refine n_seq ?_ | refine n_blk ?_ | refine n_nil ?_ | refine s_exit ?_ | refine e_seq ?_ | refine e_lp ?_ | refine e_blk ?_ | refine e_blk' rfl ?_
    | (refine o_v hY (v_wr rfl ?_) rfl ?_; · omega) | refine o_v hY (v_pv rfl) rfl ?_ | refine g_y rfl rfl ?_ | refine g_n hY rfl rfl rfl ?_ | refine g_u hY rfl rfl rfl ?_ | (refine g_s rfl rfl ?_ ?_ <;> fail_if_success (intro h; cases h; done)) | refine c_t rfl ?_ | refine c_f rfl ?_ | refine c_s rfl ?_ ?_
    | (intro h; (try simp only [decide_eq_true_eq, decide_eq_false_iff_not, Bool.not_eq_true', Bool.not_eq_false', beq_iff_eq, bne_iff_ne, beq_eq_false_iff_ne, bne_eq_false_iff_eq, ne_eq, toListI] at h); (try simp only [toListC] at h))
    | refine o_a hY (a_box rfl rfl rfl ?_) | refine o_a hY (a_alz rfl rfl rfl rfl rfl ?_) | refine o_a hY (a_als rfl rfl rfl ?_) | refine o_a hY (a_st rfl rfl rfl (.d rfl) rfl rfl ?_)
    | refine r_of (r_d rfl ?_) | refine r_of (r_c rfl rfl ?_) | refine r_of (r_2 rfl rfl ?_) | refine r_of (r_4 rfl rfl rfl rfl ?_)
    | refine o_a hY (a_call (specSizeL_c p.b (fun x _ => specSize_c x) (by omega)) (.cons (.d rfl) .nil) rfl ?_))
      · exact absurd h (by omega)
      all_goals exact isR_b (by rw [← h4]; clear h4 hla hlb hr hz; simp [*])
end Go.Proofs.YtmmdgciefehbcaaGreatDoor.Ax
