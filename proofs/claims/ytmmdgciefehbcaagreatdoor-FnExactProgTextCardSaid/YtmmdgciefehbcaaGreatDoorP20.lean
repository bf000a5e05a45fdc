/- Contracts of functions that the claim reaches, over data without addresses, and what follows of them (text P20). No conditions beside those that each theorem names. -/
import Derived.Test.YtmmdgciefehbcaaGreatDoorP19
set_option linter.unusedVariables false
set_option linter.unusedSimpArgs false
namespace Go.Proofs.YtmmdgciefehbcaaGreatDoor.Ax
def tellEOk (g : Nat) (k : Int) (st : Ex → List ByteArray) : Prop := ∀ x acc, szE x ≤ 1048576 → acc.length + (st x).length ≤ 8388608 → AC Tryz.prog g [.d (encE x), .pt (.f 0) 0, .pt (.f 1) 0] (Fs k acc) (fun v F => F = Fs k (acc ++ st x) ∧ v = .un)
def CeaE (g : Nat) (k : Int) (st : Ex → List ByteArray) (x : Ex) : Prop := szE x ≤ 1048576 → ∀ acc, acc.length + (postE st x).length ≤ 8388608 → AC Tryz.prog 102 [.d (encE x), .fn g [.f 0, .f 1]] (Fs k acc) (fun v F => F = Fs k (acc ++ postE st x) ∧ v = .un)
theorem eachExp_c (g : Nat) (k : Int) (st : Ex → List ByteArray) (ht : tellEOk g k st) (x : Ex) : CeaE g k st x := by
  refine Ex.ind (fun kk q s l ih => ?_) x
  intro hz acc hb
  have hlen := encEs_len l
  generalize hr : acc ++ postE st _ = res
  simp only [postE] at hr
  simp only [postE, List.length_append] at hb
  have hte : ∀ o : List ByteArray, o.length + (st (.mk kk q s l)).length ≤ 8388608 → _ := fun o ho => ht (.mk kk q s l) o hz ho
  simp only [szE] at hz
  unfold encE at hte ⊢
  (refine AC_fn hY Tryz.func102 rfl Tryz.ntmps102 Tryz.results102 rfl (eq_true (by simp)) ?_; simp only [enumT])
  repeat' (first
    | refine s_seq ?_ | refine s_block ?_ | refine s_reg ?_ | refine s_skip ?_ | refine s_ret ?_ | refine s_end ?_ | refine n_seq ?_ | refine n_blk ?_ | refine n_nil ?_ | refine s_exit ?_ | refine e_seq ?_ | refine e_lp ?_ | refine e_blk ?_ | refine e_blk' rfl ?_
    | (refine o_v hY (v_wr rfl ?_) rfl ?_; · omega) | refine o_v hY (v_pv rfl) rfl ?_ | refine g_y rfl rfl ?_ | refine g_n hY rfl rfl rfl ?_ | refine g_u hY rfl rfl rfl ?_ | (refine g_s rfl rfl ?_ ?_ <;> fail_if_success (intro h; cases h; done)) | refine c_t rfl ?_ | refine c_f rfl ?_ | refine c_s rfl ?_ ?_
    | (intro h; (try simp only [decide_eq_true_eq, decide_eq_false_iff_not, Bool.not_eq_true', Bool.not_eq_false', beq_iff_eq, bne_iff_ne, beq_eq_false_iff_ne, bne_eq_false_iff_eq, ne_eq, toListI] at h); (try simp only [toListC] at h))
    | refine o_a hY (a_box rfl rfl rfl ?_) | refine o_a hY (a_alz rfl rfl rfl rfl rfl ?_) | refine o_a hY (a_als rfl rfl rfl ?_) | refine o_a hY (a_st rfl rfl rfl (.d rfl) rfl rfl ?_)
    | refine r_of (r_d rfl ?_) | refine r_of (r_c rfl rfl ?_) | refine r_of (r_2 rfl rfl ?_) | refine r_of (r_4 rfl rfl rfl rfl ?_))
  refine s_loop (fun m τ => ∃ (j : Nat) (o : List ByteArray), j ≤ l.length ∧ m = l.length - j ∧ o.length + ((postEs st (l.drop j)).length + (st (.mk kk q s l)).length) ≤ 8388608 ∧ o ++ (postEs st (l.drop j) ++ st (.mk kk q s l)) = res ∧ τ = ⟨[(1, .fn g [.f 0, .f 1]), (2, .pt (.l 2) 0), (7, .d (.sl (encEs l))), (8, .d (.i .i64 (l.length : Int))), (9, .d (.i .i64 (j : Int)))], [(2, .var (.d (.ag [.i .i64 kk, .i .i64 q, .s s, .sl (encEs l)])))], Fs k o⟩) l.length ⟨0, acc, Nat.zero_le _, rfl, hb, hr, rfl⟩ (Wk.of ⟨rfl, rfl, rfl, by rw [← hlen]; rfl, rfl, trivial⟩ ⟨rfl, trivial⟩ rfl) ?_
  rintro m τ ⟨j, o, hj, rfl, h3, h4, rfl⟩
  by_cases hlt : j < l.length
  · have hs := sumE_mem l l[j] (List.getElem_mem _)
    rw [List.drop_eq_getElem_cons hlt, postEs] at h3 h4
    simp only [List.length_append] at h3
    have e2 := ih l[j] (List.getElem_mem _) (by omega) o (by omega)
    repeat' (first
    | refine s_seq ?_ | refine s_block ?_ | refine s_reg ?_ | refine s_skip ?_ | refine s_ret ?_ | refine s_end ?_ | refine n_seq ?_ | refine n_blk ?_ | refine n_nil ?_ | refine s_exit ?_ | refine e_seq ?_ | refine e_lp ?_ | refine e_blk ?_ | refine e_blk' rfl ?_
    | (refine o_v hY (v_wr rfl ?_) rfl ?_; · omega) | refine o_v hY (v_pv rfl) rfl ?_ | refine g_y rfl rfl ?_ | refine g_n hY rfl rfl rfl ?_ | refine g_u hY rfl rfl rfl ?_ | (refine g_s rfl rfl ?_ ?_ <;> fail_if_success (intro h; cases h; done)) | refine c_t rfl ?_ | refine c_f rfl ?_ | refine c_s rfl ?_ ?_
    | (intro h; (try simp only [decide_eq_true_eq, decide_eq_false_iff_not, Bool.not_eq_true', Bool.not_eq_false', beq_iff_eq, bne_iff_ne, beq_eq_false_iff_ne, bne_eq_false_iff_eq, ne_eq, toListI] at h); (try simp only [toListC] at h))
    | refine o_a hY (a_box rfl rfl rfl ?_) | refine o_a hY (a_alz rfl rfl rfl rfl rfl ?_) | refine o_a hY (a_als rfl rfl rfl ?_) | refine o_a hY (a_st rfl rfl rfl (.d rfl) rfl rfl ?_)
    | refine r_of (r_d rfl ?_) | refine r_of (r_c rfl rfl ?_) | refine r_of (r_2 rfl rfl ?_) | refine r_of (r_4 rfl rfl rfl rfl ?_)
    | (refine o_v hY (v_ia j rfl rfl (.d rfl) rfl rfl (encEs_get l j ?_) (size_encE _)) rfl ?_; · omega)
    | refine o_v hY (v_ldp rfl rfl (sub_encE _)) rfl ?_ | refine o_v hY (v_ldb rfl rfl rfl (sub_encE _)) rfl ?_
    | refine o_a hY (a_st rfl rfl rfl (.d rfl) (set_E _) (size_encE _) ?_)
    | (refine o_a hY (a_callF e2 (.cons (.d rfl) (.cons (.f rfl) .nil)) rfl ?_)
       rintro _ _ ⟨rfl, rfl⟩))
    · refine n_lp (l.length - (j+1)) ⟨j+1, o ++ postE st l[j], by omega, rfl, by simp only [List.length_append]; omega, by rw [← h4]; simp, rfl⟩ (by omega) (Wk.of ⟨rfl, rfl, rfl, rfl, rfl, trivial⟩ ⟨rfl, trivial⟩ rfl)
    all_goals (exfalso; omega)
  · obtain rfl : j = l.length := by omega
    rw [List.drop_length, postEs, List.nil_append] at h4
    rw [List.drop_length, postEs, List.length_nil] at h3
    repeat' (first
    | refine s_seq ?_ | refine s_block ?_ | refine s_reg ?_ | refine s_skip ?_ | refine s_ret ?_ | refine s_end ?_ | refine n_seq ?_ | refine n_blk ?_ | refine n_nil ?_ | refine s_exit ?_ | refine e_seq ?_ | refine e_lp ?_ | refine e_blk ?_ | refine e_blk' rfl ?_
    | (refine o_v hY (v_wr rfl ?_) rfl ?_; · omega) | refine o_v hY (v_pv rfl) rfl ?_ | refine g_y rfl rfl ?_ | refine g_n hY rfl rfl rfl ?_ | refine g_u hY rfl rfl rfl ?_ | (refine g_s rfl rfl ?_ ?_ <;> fail_if_success (intro h; cases h; done)) | refine c_t rfl ?_ | refine c_f rfl ?_ | refine c_s rfl ?_ ?_
    | (intro h; (try simp only [decide_eq_true_eq, decide_eq_false_iff_not, Bool.not_eq_true', Bool.not_eq_false', beq_iff_eq, bne_iff_ne, beq_eq_false_iff_ne, bne_eq_false_iff_eq, ne_eq, toListI] at h); (try simp only [toListC] at h))
    | refine o_a hY (a_box rfl rfl rfl ?_) | refine o_a hY (a_alz rfl rfl rfl rfl rfl ?_) | refine o_a hY (a_als rfl rfl rfl ?_) | refine o_a hY (a_st rfl rfl rfl (.d rfl) rfl rfl ?_)
    | refine r_of (r_d rfl ?_) | refine r_of (r_c rfl rfl ?_) | refine r_of (r_2 rfl rfl ?_) | refine r_of (r_4 rfl rfl rfl rfl ?_)
    | (refine o_a hY (a_callV rfl (hte o (by omega)) (.cons (.d rfl) .nil) rfl ?_)
       rintro _ _ ⟨rfl, rfl⟩))
    · exfalso; omega
    · exact r_on (r_0 ⟨by rw [← h4], rfl⟩)

theorem arr4 (a b c d : Ex) : ((D.ag [encE a, encE b, encE c, encE d]).sub 0 4 true = some (encE a) ∧ (D.ag [encE a, encE b, encE c, encE d]).sub 4 4 true = some (encE b)) ∧ (D.ag [encE a, encE b, encE c, encE d]).sub 8 4 true = some (encE c) ∧ (D.ag [encE a, encE b, encE c, encE d]).sub 12 4 true = some (encE d) := by
  simp [D.sub, atL, D.size, sizes, size_encE, sub_encE]
theorem bld4 (a b c d : Ex) : pBuild Y 124 [(0, .d (encE a)), (1, .d (encE b)), (2, .d (encE c)), (3, .d (encE d))] = some (.d (.ag [encE a, encE b, encE c, encE d])) := by
  have h : setAll (place (.ar 4 72) fun e => (Y.Y e).map (·.sz)) (.ag [ZE, ZE, ZE, ZE]) [(0, .d (encE a)), (1, .d (encE b)), (2, .d (encE c)), (3, .d (encE d))] = some (.ag [encE a, encE b, encE c, encE d]) := by
    simp [setAll, place, Y72, D.set, setL, D.size, sizes, size_encE, encE_isAg]
  show (setAll (place (.ar 4 72) fun e => (Y.Y e).map (·.sz)) (.ag [ZE, ZE, ZE, ZE]) [(0, .d (encE a)), (1, .d (encE b)), (2, .d (encE c)), (3, .d (encE d))]).map T.d = _
  rw [h]; rfl
theorem v_ixa {t : List (Nat × T)} {L : List (Nat × Ob)} {F : List Ob} {x z : Operand} {tt e : TypeId} {len : Nat} {xs : List D} {kk : IntKind} {m : Int} {v : D} {rr : Yr} (q : Nat) (hk : Y.ky tt = some (.ar len e)) (hr : Y.Y e = some rr) (hx : evq t x = some (.d (.ag xs))) (hz : evq t z = some (.d (.i kk m))) (hm : m = (q : Int)) (hq : q < len) (hs : (D.ag xs).sub (q * rr.sz) rr.sz rr.ky.agg = some v) :
    pval Y ⟨t, L, F⟩ (.index tt x z) = some (.d v) := by
  simp only [pval, evq_ok (L := L) (F := F) hx, evq_ok (L := L) (F := F) hz, pIx, hk, hm, Int.toNat_natCast, hr]
  rw [if_pos (by omega), hs]; rfl
def partsE (st : Ex → List ByteArray) (x : Sm) : List ByteArray := postE st (aS x) ++ (postE st (eS x) ++ (postE st (loS x) ++ postE st (hiS x)))
set_option maxHeartbeats 4000000 in
theorem eachPart_c (g : Nat) (k : Int) (st : Ex → List ByteArray) (ht : tellEOk g k st) (x : Sm) (hz : szS x ≤ 1048576) (acc : List ByteArray) (hb : acc.length + (partsE st x).length ≤ 8388608) :
    AC Tryz.prog 88 [.d (encS x), .fn g [.f 0, .f 1]] (Fs k acc) (fun v F => F = Fs k (acc ++ partsE st x) ∧ v = .un) := by
  have z1 := szE_aS x
  have z2 := szE_eS x
  have z3 := szE_loS x
  have z4 := szE_hiS x
  have q1 := fun o => eachExp_c g k st ht (aS x) (by omega) o
  have q2 := fun o => eachExp_c g k st ht (eS x) (by omega) o
  have q3 := fun o => eachExp_c g k st ht (loS x) (by omega) o
  have q4 := fun o => eachExp_c g k st ht (hiS x) (by omega) o
  obtain ⟨⟨a1, a2⟩, a3, a4⟩ := arr4 (aS x) (eS x) (loS x) (hiS x)
  unfold partsE at hb ⊢
  generalize hr : acc ++ _ = res
  simp only [List.length_append] at hb
  (refine AC_fn hY Tryz.func88 rfl Tryz.ntmps88 Tryz.results88 rfl (eq_true (by simp)) ?_; simp only [enumT])
  repeat' (first
    | refine s_seq ?_ | refine s_block ?_ | refine s_reg ?_ | refine s_skip ?_ | refine s_ret ?_ | refine s_end ?_ | refine n_seq ?_ | refine n_blk ?_ | refine n_nil ?_ | refine s_exit ?_ | refine e_seq ?_ | refine e_lp ?_ | refine e_blk ?_ | refine e_blk' rfl ?_
    | (refine o_v hY (v_wr rfl ?_) rfl ?_; · omega) | refine o_v hY (v_pv rfl) rfl ?_ | refine g_y rfl rfl ?_ | refine g_n hY rfl rfl rfl ?_ | refine g_u hY rfl rfl rfl ?_ | (refine g_s rfl rfl ?_ ?_ <;> fail_if_success (intro h; cases h; done)) | refine c_t rfl ?_ | refine c_f rfl ?_ | refine c_s rfl ?_ ?_
    | (intro h; (try simp only [decide_eq_true_eq, decide_eq_false_iff_not, Bool.not_eq_true', Bool.not_eq_false', beq_iff_eq, bne_iff_ne, beq_eq_false_iff_ne, bne_eq_false_iff_eq, ne_eq, toListI] at h); (try simp only [toListC] at h))
    | refine o_a hY (a_box rfl rfl rfl ?_) | refine o_a hY (a_alz rfl rfl rfl rfl rfl ?_) | refine o_a hY (a_als rfl rfl rfl ?_) | refine o_a hY (a_st rfl rfl rfl (.d rfl) rfl rfl ?_)
    | refine r_of (r_d rfl ?_) | refine r_of (r_c rfl rfl ?_) | refine r_of (r_2 rfl rfl ?_) | refine r_of (r_4 rfl rfl rfl rfl ?_)
    | refine o_v hY (v_ldb rfl rfl rfl (sub_aS _)) rfl ?_ | refine o_v hY (v_ldb rfl rfl rfl (sub_eS _)) rfl ?_ | refine o_v hY (v_ldb rfl rfl rfl (sub_loS _)) rfl ?_ | refine o_v hY (v_ldb rfl rfl rfl (sub_hiS _)) rfl ?_
    | refine o_v hY (v_bld (.cons (.d rfl) (.cons (.d rfl) (.cons (.d rfl) (.cons (.d rfl) .nil)))) (bld4 _ _ _ _)) rfl ?_)
  refine s_loop (fun m τ => ∃ (j : Nat) (o : List ByteArray), j ≤ 4 ∧ m = 4 - j ∧ ((j = 0 ∧ o = acc) ∨ (j = 1 ∧ o = acc ++ postE st (aS x)) ∨ (j = 2 ∧ o = acc ++ postE st (aS x) ++ postE st (eS x)) ∨ (j = 3 ∧ o = acc ++ postE st (aS x) ++ postE st (eS x) ++ postE st (loS x)) ∨ (j = 4 ∧ o = res)) ∧ τ = ⟨[(1, .fn g [.f 0, .f 1]), (14, .d (.ag [encE (aS x), encE (eS x), encE (loS x), encE (hiS x)])), (15, .d (.i .i64 (j : Int)))], [], Fs k o⟩) 4 ⟨0, acc, by omega, rfl, .inl ⟨rfl, rfl⟩, rfl⟩ (Wk.of ⟨rfl, rfl, rfl, trivial⟩ trivial rfl) ?_
  rintro m τ ⟨j, o, hj, rfl, (⟨rfl, rfl⟩ | ⟨rfl, rfl⟩ | ⟨rfl, rfl⟩ | ⟨rfl, rfl⟩ | ⟨rfl, rfl⟩), rfl⟩
  · have e1 := q1 o (by omega)
    repeat' (first
    | refine s_seq ?_ | refine s_block ?_ | refine s_reg ?_ | refine s_skip ?_ | refine s_ret ?_ | refine s_end ?_ | refine n_seq ?_ | refine n_blk ?_ | refine n_nil ?_ | refine s_exit ?_ | refine e_seq ?_ | refine e_lp ?_ | refine e_blk ?_ | refine e_blk' rfl ?_
    | (refine o_v hY (v_wr rfl ?_) rfl ?_; · omega) | refine o_v hY (v_pv rfl) rfl ?_ | refine g_y rfl rfl ?_ | refine g_n hY rfl rfl rfl ?_ | refine g_u hY rfl rfl rfl ?_ | (refine g_s rfl rfl ?_ ?_ <;> fail_if_success (intro h; cases h; done)) | refine c_t rfl ?_ | refine c_f rfl ?_ | refine c_s rfl ?_ ?_
    | (intro h; (try simp only [decide_eq_true_eq, decide_eq_false_iff_not, Bool.not_eq_true', Bool.not_eq_false', beq_iff_eq, bne_iff_ne, beq_eq_false_iff_ne, bne_eq_false_iff_eq, ne_eq, toListI] at h); (try simp only [toListC] at h))
    | refine o_a hY (a_box rfl rfl rfl ?_) | refine o_a hY (a_alz rfl rfl rfl rfl rfl ?_) | refine o_a hY (a_als rfl rfl rfl ?_) | refine o_a hY (a_st rfl rfl rfl (.d rfl) rfl rfl ?_)
    | refine r_of (r_d rfl ?_) | refine r_of (r_c rfl rfl ?_) | refine r_of (r_2 rfl rfl ?_) | refine r_of (r_4 rfl rfl rfl rfl ?_)
    | refine o_v hY (v_ixa 0 rfl rfl rfl rfl rfl (by decide) a1) rfl ?_ | refine o_v hY (v_ldb rfl rfl rfl (sub_encE _)) rfl ?_
    | refine o_a hY (a_st rfl rfl rfl (.d rfl) (set_E _) (size_encE _) ?_)
    | (refine o_a hY (a_callF e1 (.cons (.d rfl) (.cons (.f rfl) .nil)) rfl ?_)
       rintro _ _ ⟨rfl, rfl⟩))
    exact n_lp 3 ⟨1, _, by omega, rfl, .inr (.inl ⟨rfl, rfl⟩), rfl⟩ (by omega) (Wk.of ⟨rfl, rfl, rfl, trivial⟩ trivial rfl)
  · have e1 := q2 (acc ++ postE st (aS x)) (by simp only [List.length_append]; omega)
    repeat' (first
    | refine s_seq ?_ | refine s_block ?_ | refine s_reg ?_ | refine s_skip ?_ | refine s_ret ?_ | refine s_end ?_ | refine n_seq ?_ | refine n_blk ?_ | refine n_nil ?_ | refine s_exit ?_ | refine e_seq ?_ | refine e_lp ?_ | refine e_blk ?_ | refine e_blk' rfl ?_
    | (refine o_v hY (v_wr rfl ?_) rfl ?_; · omega) | refine o_v hY (v_pv rfl) rfl ?_ | refine g_y rfl rfl ?_ | refine g_n hY rfl rfl rfl ?_ | refine g_u hY rfl rfl rfl ?_ | (refine g_s rfl rfl ?_ ?_ <;> fail_if_success (intro h; cases h; done)) | refine c_t rfl ?_ | refine c_f rfl ?_ | refine c_s rfl ?_ ?_
    | (intro h; (try simp only [decide_eq_true_eq, decide_eq_false_iff_not, Bool.not_eq_true', Bool.not_eq_false', beq_iff_eq, bne_iff_ne, beq_eq_false_iff_ne, bne_eq_false_iff_eq, ne_eq, toListI] at h); (try simp only [toListC] at h))
    | refine o_a hY (a_box rfl rfl rfl ?_) | refine o_a hY (a_alz rfl rfl rfl rfl rfl ?_) | refine o_a hY (a_als rfl rfl rfl ?_) | refine o_a hY (a_st rfl rfl rfl (.d rfl) rfl rfl ?_)
    | refine r_of (r_d rfl ?_) | refine r_of (r_c rfl rfl ?_) | refine r_of (r_2 rfl rfl ?_) | refine r_of (r_4 rfl rfl rfl rfl ?_)
    | refine o_v hY (v_ixa 1 rfl rfl rfl rfl rfl (by decide) a2) rfl ?_ | refine o_v hY (v_ldb rfl rfl rfl (sub_encE _)) rfl ?_
    | refine o_a hY (a_st rfl rfl rfl (.d rfl) (set_E _) (size_encE _) ?_)
    | (refine o_a hY (a_callF e1 (.cons (.d rfl) (.cons (.f rfl) .nil)) rfl ?_)
       rintro _ _ ⟨rfl, rfl⟩))
    exact n_lp 2 ⟨2, _, by omega, rfl, .inr (.inr (.inl ⟨rfl, rfl⟩)), rfl⟩ (by omega) (Wk.of ⟨rfl, rfl, rfl, trivial⟩ trivial rfl)
  · have e1 := q3 (acc ++ postE st (aS x) ++ postE st (eS x)) (by simp only [List.length_append]; omega)
    repeat' (first
    | refine s_seq ?_ | refine s_block ?_ | refine s_reg ?_ | refine s_skip ?_ | refine s_ret ?_ | refine s_end ?_ | refine n_seq ?_ | refine n_blk ?_ | refine n_nil ?_ | refine s_exit ?_ | refine e_seq ?_ | refine e_lp ?_ | refine e_blk ?_ | refine e_blk' rfl ?_
    | (refine o_v hY (v_wr rfl ?_) rfl ?_; · omega) | refine o_v hY (v_pv rfl) rfl ?_ | refine g_y rfl rfl ?_ | refine g_n hY rfl rfl rfl ?_ | refine g_u hY rfl rfl rfl ?_ | (refine g_s rfl rfl ?_ ?_ <;> fail_if_success (intro h; cases h; done)) | refine c_t rfl ?_ | refine c_f rfl ?_ | refine c_s rfl ?_ ?_
    | (intro h; (try simp only [decide_eq_true_eq, decide_eq_false_iff_not, Bool.not_eq_true', Bool.not_eq_false', beq_iff_eq, bne_iff_ne, beq_eq_false_iff_ne, bne_eq_false_iff_eq, ne_eq, toListI] at h); (try simp only [toListC] at h))
    | refine o_a hY (a_box rfl rfl rfl ?_) | refine o_a hY (a_alz rfl rfl rfl rfl rfl ?_) | refine o_a hY (a_als rfl rfl rfl ?_) | refine o_a hY (a_st rfl rfl rfl (.d rfl) rfl rfl ?_)
    | refine r_of (r_d rfl ?_) | refine r_of (r_c rfl rfl ?_) | refine r_of (r_2 rfl rfl ?_) | refine r_of (r_4 rfl rfl rfl rfl ?_)
    | refine o_v hY (v_ixa 2 rfl rfl rfl rfl rfl (by decide) a3) rfl ?_ | refine o_v hY (v_ldb rfl rfl rfl (sub_encE _)) rfl ?_
    | refine o_a hY (a_st rfl rfl rfl (.d rfl) (set_E _) (size_encE _) ?_)
    | (refine o_a hY (a_callF e1 (.cons (.d rfl) (.cons (.f rfl) .nil)) rfl ?_)
       rintro _ _ ⟨rfl, rfl⟩))
    exact n_lp 1 ⟨3, _, by omega, rfl, .inr (.inr (.inr (.inl ⟨rfl, rfl⟩))), rfl⟩ (by omega) (Wk.of ⟨rfl, rfl, rfl, trivial⟩ trivial rfl)
  · have e1 := q4 (acc ++ postE st (aS x) ++ postE st (eS x) ++ postE st (loS x)) (by simp only [List.length_append]; omega)
    repeat' (first
    | refine s_seq ?_ | refine s_block ?_ | refine s_reg ?_ | refine s_skip ?_ | refine s_ret ?_ | refine s_end ?_ | refine n_seq ?_ | refine n_blk ?_ | refine n_nil ?_ | refine s_exit ?_ | refine e_seq ?_ | refine e_lp ?_ | refine e_blk ?_ | refine e_blk' rfl ?_
    | (refine o_v hY (v_wr rfl ?_) rfl ?_; · omega) | refine o_v hY (v_pv rfl) rfl ?_ | refine g_y rfl rfl ?_ | refine g_n hY rfl rfl rfl ?_ | refine g_u hY rfl rfl rfl ?_ | (refine g_s rfl rfl ?_ ?_ <;> fail_if_success (intro h; cases h; done)) | refine c_t rfl ?_ | refine c_f rfl ?_ | refine c_s rfl ?_ ?_
    | (intro h; (try simp only [decide_eq_true_eq, decide_eq_false_iff_not, Bool.not_eq_true', Bool.not_eq_false', beq_iff_eq, bne_iff_ne, beq_eq_false_iff_ne, bne_eq_false_iff_eq, ne_eq, toListI] at h); (try simp only [toListC] at h))
    | refine o_a hY (a_box rfl rfl rfl ?_) | refine o_a hY (a_alz rfl rfl rfl rfl rfl ?_) | refine o_a hY (a_als rfl rfl rfl ?_) | refine o_a hY (a_st rfl rfl rfl (.d rfl) rfl rfl ?_)
    | refine r_of (r_d rfl ?_) | refine r_of (r_c rfl rfl ?_) | refine r_of (r_2 rfl rfl ?_) | refine r_of (r_4 rfl rfl rfl rfl ?_)
    | refine o_v hY (v_ixa 3 rfl rfl rfl rfl rfl (by decide) a4) rfl ?_ | refine o_v hY (v_ldb rfl rfl rfl (sub_encE _)) rfl ?_
    | refine o_a hY (a_st rfl rfl rfl (.d rfl) (set_E _) (size_encE _) ?_)
    | (refine o_a hY (a_callF e1 (.cons (.d rfl) (.cons (.f rfl) .nil)) rfl ?_)
       rintro _ _ ⟨rfl, rfl⟩))
    exact n_lp 0 ⟨4, _, by omega, rfl, .inr (.inr (.inr (.inr ⟨rfl, by rw [← hr]; simp⟩))), rfl⟩ (by omega) (Wk.of ⟨rfl, rfl, rfl, trivial⟩ trivial rfl)
  · repeat' (first
    | refine s_seq ?_ | refine s_block ?_ | refine s_reg ?_ | refine s_skip ?_ | refine s_ret ?_ | refine s_end ?_ | refine n_seq ?_ | refine n_blk ?_ | refine n_nil ?_ | refine s_exit ?_ | refine e_seq ?_ | refine e_lp ?_ | refine e_blk ?_ | refine e_blk' rfl ?_
    | (refine o_v hY (v_wr rfl ?_) rfl ?_; · omega) | refine o_v hY (v_pv rfl) rfl ?_ | refine g_y rfl rfl ?_ | refine g_n hY rfl rfl rfl ?_ | refine g_u hY rfl rfl rfl ?_ | (refine g_s rfl rfl ?_ ?_ <;> fail_if_success (intro h; cases h; done)) | refine c_t rfl ?_ | refine c_f rfl ?_ | refine c_s rfl ?_ ?_
    | (intro h; (try simp only [decide_eq_true_eq, decide_eq_false_iff_not, Bool.not_eq_true', Bool.not_eq_false', beq_iff_eq, bne_iff_ne, beq_eq_false_iff_ne, bne_eq_false_iff_eq, ne_eq, toListI] at h); (try simp only [toListC] at h))
    | refine o_a hY (a_box rfl rfl rfl ?_) | refine o_a hY (a_alz rfl rfl rfl rfl rfl ?_) | refine o_a hY (a_als rfl rfl rfl ?_) | refine o_a hY (a_st rfl rfl rfl (.d rfl) rfl rfl ?_)
    | refine r_of (r_d rfl ?_) | refine r_of (r_c rfl rfl ?_) | refine r_of (r_2 rfl rfl ?_) | refine r_of (r_4 rfl rfl rfl rfl ?_))
    exact r_on (r_0 ⟨rfl, rfl⟩)
theorem tellP_c (k : Int) (x : Sm) (acc : List ByteArray) (hz : szS x ≤ 1048576) (hb : acc.length + (partsE (stepE k) x).length ≤ 8388608) : AC Tryz.prog 87 [.d (encS x), .pt (.f 0) 0, .pt (.f 1) 0] (Fs k acc) (fun v F => F = Fs k (acc ++ partsE (stepE k) x) ∧ v = .un) := by
  have e1 := eachPart_c 89 k (stepE k) (fun x acc _ hb => tellE_c k x acc (by omega)) x hz acc hb
  generalize partsE (stepE k) x = res at *
  (refine AC_fn hY Tryz.func87 rfl Tryz.ntmps87 Tryz.results87 rfl (eq_true (by simp)) ?_; simp only [enumT])
  repeat' (first
    | refine s_seq ?_ | refine s_block ?_ | refine s_reg ?_ | refine s_skip ?_ | refine s_ret ?_ | refine s_end ?_ | refine n_seq ?_ | refine n_blk ?_ | refine n_nil ?_ | refine s_exit ?_ | refine e_seq ?_ | refine e_lp ?_ | refine e_blk ?_ | refine e_blk' rfl ?_
    | (refine o_v hY (v_wr rfl ?_) rfl ?_; · omega) | refine o_v hY (v_pv rfl) rfl ?_ | refine g_y rfl rfl ?_ | refine g_n hY rfl rfl rfl ?_ | refine g_u hY rfl rfl rfl ?_ | (refine g_s rfl rfl ?_ ?_ <;> fail_if_success (intro h; cases h; done)) | refine c_t rfl ?_ | refine c_f rfl ?_ | refine c_s rfl ?_ ?_
    | (intro h; (try simp only [decide_eq_true_eq, decide_eq_false_iff_not, Bool.not_eq_true', Bool.not_eq_false', beq_iff_eq, bne_iff_ne, beq_eq_false_iff_ne, bne_eq_false_iff_eq, ne_eq, toListI] at h); (try simp only [toListC] at h))
    | refine o_a hY (a_box rfl rfl rfl ?_) | refine o_a hY (a_alz rfl rfl rfl rfl rfl ?_) | refine o_a hY (a_als rfl rfl rfl ?_) | refine o_a hY (a_st rfl rfl rfl (.d rfl) rfl rfl ?_)
    | refine r_of (r_d rfl ?_) | refine r_of (r_c rfl rfl ?_) | refine r_of (r_2 rfl rfl ?_) | refine r_of (r_4 rfl rfl rfl rfl ?_)
    | refine o_v hY (v_ldb rfl rfl rfl (sub_encS _)) rfl ?_ | refine o_v hY (v_fn rfl) rfl ?_
    | (refine o_a hY (a_callF e1 (.cons (.d rfl) (.cons (.f rfl) .nil)) rfl ?_)
       rintro _ _ ⟨rfl, rfl⟩))
  exact r_on (r_0 ⟨rfl, rfl⟩)
end Go.Proofs.YtmmdgciefehbcaaGreatDoor.Ax
