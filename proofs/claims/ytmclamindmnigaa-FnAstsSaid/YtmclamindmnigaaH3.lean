/- Contracts of functions that the claim reaches, over data without addresses, and what follows of them (text H3). No conditions beside those that each theorem names. -/
import Derived.Test.YtmclamindmnigaaH2
set_option linter.unusedVariables false
set_option linter.unusedSimpArgs false
namespace Go.Proofs.Ytmclamindmnigaa.Ax
open Go.RowKit
theorem allSz_q {n : Nat} {xs : List D} (h : (xs.all fun x => x.size == n) = true) : allSz n xs := fun x hx => by simpa using List.all_eq_true.1 h x hx
theorem sz1E (e : Ex) : allSz 4 [encE e] := by simp [allSz, size_encE]
theorem sz2E (a b : Ex) : allSz 4 [encE a, encE b] := by simp [allSz, size_encE]
theorem sz1S (x : Sm) : allSz 19 [encS x] := by simp [allSz, size_encS]
theorem l3Num_c (m : Int) : AC Try.prog 39 [.d (.i .i64 m)] [] (isR (.d (encE (.mk 1 m emp [])))) := by
  (refine AC_fn hY Try.func39 rfl Try.ntmps39 Try.results39 rfl (eq_true (by simp)) ?_; simp only [enumT])
  repeat' (first
    | refine s_seq ?_ | refine s_block ?_ | refine s_reg ?_ | refine s_skip ?_ | refine s_ret ?_ | refine s_end ?_ | refine n_seq ?_ | refine n_blk ?_ | refine n_nil ?_ | refine s_exit ?_ | refine e_seq ?_ | refine e_lp ?_ | refine e_blk ?_ | refine e_blk' rfl ?_
    | (refine o_v hY (v_wr rfl ?_) rfl ?_; · omega) | refine o_v hY (v_pv rfl) rfl ?_ | refine g_y rfl rfl ?_ | refine g_n hY rfl rfl rfl ?_ | refine g_u hY rfl rfl rfl ?_ | (refine g_s rfl rfl ?_ ?_ <;> fail_if_success (intro h; cases h; done)) | refine c_t rfl ?_ | refine c_f rfl ?_ | refine c_s rfl ?_ ?_
    | (intro h; (try simp only [decide_eq_true_eq, decide_eq_false_iff_not, Bool.not_eq_true', Bool.not_eq_false', beq_iff_eq, bne_iff_ne, beq_eq_false_iff_ne, bne_eq_false_iff_eq, ne_eq, toListI] at h); (try simp only [toListC] at h))
    | refine o_a hY (a_box rfl rfl rfl ?_) | refine o_a hY (a_alz rfl rfl rfl rfl rfl ?_) | refine o_a hY (a_als rfl rfl rfl ?_) | refine o_a hY (a_st rfl rfl rfl (.d rfl) rfl rfl ?_)
    | refine r_of (r_d rfl ?_) | refine r_of (r_c rfl rfl ?_) | refine r_of (r_2 rfl rfl ?_) | refine r_of (r_4 rfl rfl rfl rfl ?_)
    | refine o_v hY (v_bld (.cons (.d rfl) (.cons (.d rfl) .nil)) rfl) rfl ?_)
  exact ⟨rfl, rfl⟩
theorem l3Var_c (s : ByteArray) : AC Try.prog 49 [.d (.s s)] [] (isR (.d (encE (.mk 2 0 s [])))) := by
  (refine AC_fn hY Try.func49 rfl Try.ntmps49 Try.results49 rfl (eq_true (by simp)) ?_; simp only [enumT])
  repeat' (first
    | refine s_seq ?_ | refine s_block ?_ | refine s_reg ?_ | refine s_skip ?_ | refine s_ret ?_ | refine s_end ?_ | refine n_seq ?_ | refine n_blk ?_ | refine n_nil ?_ | refine s_exit ?_ | refine e_seq ?_ | refine e_lp ?_ | refine e_blk ?_ | refine e_blk' rfl ?_
    | (refine o_v hY (v_wr rfl ?_) rfl ?_; · omega) | refine o_v hY (v_pv rfl) rfl ?_ | refine g_y rfl rfl ?_ | refine g_n hY rfl rfl rfl ?_ | refine g_u hY rfl rfl rfl ?_ | (refine g_s rfl rfl ?_ ?_ <;> fail_if_success (intro h; cases h; done)) | refine c_t rfl ?_ | refine c_f rfl ?_ | refine c_s rfl ?_ ?_
    | (intro h; (try simp only [decide_eq_true_eq, decide_eq_false_iff_not, Bool.not_eq_true', Bool.not_eq_false', beq_iff_eq, bne_iff_ne, beq_eq_false_iff_ne, bne_eq_false_iff_eq, ne_eq, toListI] at h); (try simp only [toListC] at h))
    | refine o_a hY (a_box rfl rfl rfl ?_) | refine o_a hY (a_alz rfl rfl rfl rfl rfl ?_) | refine o_a hY (a_als rfl rfl rfl ?_) | refine o_a hY (a_st rfl rfl rfl (.d rfl) rfl rfl ?_)
    | refine r_of (r_d rfl ?_) | refine r_of (r_c rfl rfl ?_) | refine r_of (r_2 rfl rfl ?_) | refine r_of (r_4 rfl rfl rfl rfl ?_)
    | refine o_v hY (v_bld (.cons (.d rfl) (.cons (.d rfl) .nil)) rfl) rfl ?_)
  exact ⟨rfl, rfl⟩
theorem l3At_c (s : ByteArray) (e : Ex) : AC Try.prog 50 [.d (.s s), .d (encE e)] [] (isR (.d (encE (.mk 3 0 s [e])))) := by
  (refine AC_fn hY Try.func50 rfl Try.ntmps50 Try.results50 rfl (eq_true (by simp)) ?_; simp only [enumT])
  repeat' (first
    | refine s_seq ?_ | refine s_block ?_ | refine s_reg ?_ | refine s_skip ?_ | refine s_ret ?_ | refine s_end ?_ | refine n_seq ?_ | refine n_blk ?_ | refine n_nil ?_ | refine s_exit ?_ | refine e_seq ?_ | refine e_lp ?_ | refine e_blk ?_ | refine e_blk' rfl ?_
    | (refine o_v hY (v_wr rfl ?_) rfl ?_; · omega) | refine o_v hY (v_pv rfl) rfl ?_ | refine g_y rfl rfl ?_ | refine g_n hY rfl rfl rfl ?_ | refine g_u hY rfl rfl rfl ?_ | (refine g_s rfl rfl ?_ ?_ <;> fail_if_success (intro h; cases h; done)) | refine c_t rfl ?_ | refine c_f rfl ?_ | refine c_s rfl ?_ ?_
    | (intro h; (try simp only [decide_eq_true_eq, decide_eq_false_iff_not, Bool.not_eq_true', Bool.not_eq_false', beq_iff_eq, bne_iff_ne, beq_eq_false_iff_ne, bne_eq_false_iff_eq, ne_eq, toListI] at h); (try simp only [toListC] at h))
    | refine o_a hY (a_box rfl rfl rfl ?_) | refine o_a hY (a_alz rfl rfl rfl rfl rfl ?_) | refine o_a hY (a_als rfl rfl rfl ?_) | refine o_a hY (a_st rfl rfl rfl (.d rfl) rfl rfl ?_)
    | refine r_of (r_d rfl ?_) | refine r_of (r_c rfl rfl ?_) | refine r_of (r_2 rfl rfl ?_) | refine r_of (r_4 rfl rfl rfl rfl ?_)
    | refine o_v hY (v_ldb rfl rfl rfl (sub_encE _)) rfl ?_ | refine o_v hY (v_bld (.cons (.d rfl) (.cons (.d rfl) (.cons (.w rfl rfl rfl) .nil))) rfl) rfl ?_
    | refine o_a hY (a_sl rfl rfl (.cons (.d rfl) .nil) (sz1E _) rfl rfl rfl rfl rfl rfl ?_))
  exact ⟨rfl, rfl⟩
theorem l3Two_c (k : Int) (a b : Ex) : AC Try.prog 38 [.d (.i .i64 k), .d (encE a), .d (encE b)] [] (isR (.d (encE (.mk k 0 emp [a, b])))) := by
  (refine AC_fn hY Try.func38 rfl Try.ntmps38 Try.results38 rfl (eq_true (by simp)) ?_; simp only [enumT])
  repeat' (first
    | refine s_seq ?_ | refine s_block ?_ | refine s_reg ?_ | refine s_skip ?_ | refine s_ret ?_ | refine s_end ?_ | refine n_seq ?_ | refine n_blk ?_ | refine n_nil ?_ | refine s_exit ?_ | refine e_seq ?_ | refine e_lp ?_ | refine e_blk ?_ | refine e_blk' rfl ?_
    | (refine o_v hY (v_wr rfl ?_) rfl ?_; · omega) | refine o_v hY (v_pv rfl) rfl ?_ | refine g_y rfl rfl ?_ | refine g_n hY rfl rfl rfl ?_ | refine g_u hY rfl rfl rfl ?_ | (refine g_s rfl rfl ?_ ?_ <;> fail_if_success (intro h; cases h; done)) | refine c_t rfl ?_ | refine c_f rfl ?_ | refine c_s rfl ?_ ?_
    | (intro h; (try simp only [decide_eq_true_eq, decide_eq_false_iff_not, Bool.not_eq_true', Bool.not_eq_false', beq_iff_eq, bne_iff_ne, beq_eq_false_iff_ne, bne_eq_false_iff_eq, ne_eq, toListI] at h); (try simp only [toListC] at h))
    | refine o_a hY (a_box rfl rfl rfl ?_) | refine o_a hY (a_alz rfl rfl rfl rfl rfl ?_) | refine o_a hY (a_als rfl rfl rfl ?_) | refine o_a hY (a_st rfl rfl rfl (.d rfl) rfl rfl ?_)
    | refine r_of (r_d rfl ?_) | refine r_of (r_c rfl rfl ?_) | refine r_of (r_2 rfl rfl ?_) | refine r_of (r_4 rfl rfl rfl rfl ?_)
    | refine o_v hY (v_ldb rfl rfl rfl (sub_encE _)) rfl ?_ | refine o_v hY (v_bld (.cons (.d rfl) (.cons (.w rfl rfl rfl) .nil)) rfl) rfl ?_
    | refine o_a hY (a_sl rfl rfl (.cons (.d rfl) (.cons (.d rfl) .nil)) (sz2E _ _) rfl rfl rfl rfl rfl rfl ?_))
  exact ⟨rfl, rfl⟩
def bE : Nat → Nat
  | 0 => 1
  | d + 1 => 3 + 2 * bE d
theorem bE_pos : ∀ d, 1 ≤ bE d
  | 0 => Nat.le_refl _
  | d + 1 => by simp only [bE]; omega
theorem bE_step {d : Nat} (h : 0 < d) : bE d = 3 + 2 * bE (d - 1) := by
  cases d with
  | zero => omega
  | succ d => rfl
theorem mem_size {l : List ByteArray} {n : Nat} (h : ∀ x ∈ l, x.size ≤ n) {s : ByteArray} (hs : s ∈ l) : s.size ≤ n := h s hs
def DrE (code : List D) (b : Nat) : T → List Ob → Prop := Go1 code fun r => ∃ x, szE x ≤ b ∧ r = .d (encE x)
theorem szE_num (m : Int) : szE (.mk 1 m emp []) = 0 := rfl
theorem szE_var (s : ByteArray) : szE (.mk 2 0 s []) = s.size := rfl
theorem szE_at (s : ByteArray) (e : Ex) : szE (.mk 3 0 s [e]) = s.size + (1 + szE e) := by simp [szE, sumE]
theorem szE_two (k : Int) (a b : Ex) : szE (.mk k 0 emp [a, b]) = 2 + (szE a + szE b) := by
  have : emp.size = 0 := rfl
  simp [szE, sumE, this]
set_option maxHeartbeats 8000000 in
theorem l3Draw_s (code : List D) (hc : okCode code) (i h : Int) (h0 : 0 ≤ i) (deep : Int) (d : Nat) (hd : deep ≤ d) (hd2 : d ≤ 100) (ih : 0 < deep → 0 < d ∧ ∀ i h, 0 ≤ i → AC Try.prog 34 [.pt (.f 0) 0, .d (.i .i64 (deep - 1))] [cur code i h] (DrE code (bE (d - 1)))) :
    AC Try.prog 34 [.pt (.f 0) 0, .d (.i .i64 deep)] [cur code i h] (DrE code (bE d)) := by
  (refine AC_fn hY Try.func34 rfl Try.ntmps34 Try.results34 rfl (eq_true (by simp)) ?_; simp only [enumT])
  repeat' (first
    | (refine p_tk hY rfl rfl (v_wr rfl ?_) rfl noPan_ret ?_
       · omega)
    | refine p_start (by kernel_rfl) [7] (.tk 0 (.tk 1 (.tk 2 (.tk 3 (.tk 4 (.one 5 (.one 6 (.one 7 .done)))))))) (by kernel_rfl) ?_
    | refine p_tk hY rfl rfl (v_ldb rfl rfl rfl (sub_encE _)) rfl noPan_ret ?_
    | (refine p_one hY rfl (x_n rfl (a_callF ((ih (by omega)).2 _ _ (by assumption)) (.cons (.p rfl) (.cons (.d rfl) .nil)) rfl ?_))
       rintro _ _ ⟨⟨x2, hx2, rfl⟩, i1, h1, h0', rfl⟩)
    | refine p_one hY rfl (x_n rfl (a_call (l3Two_c _ _ _) (.cons (.d rfl) (.cons (.d rfl) (.cons (.d rfl) .nil))) rfl ?_))
    | refine p_one hY rfl (x_n rfl (a_st rfl rfl rfl (.d rfl) (set_E _) (size_encE _) ?_))
    | refine s_seq ?_ | refine s_block ?_ | refine s_reg ?_ | refine s_skip ?_ | refine s_ret ?_ | refine s_end ?_ | refine n_seq ?_ | refine n_blk ?_ | refine n_nil ?_ | refine s_exit ?_ | refine e_seq ?_ | refine e_lp ?_ | refine e_blk ?_ | refine e_blk' rfl ?_
    | (refine o_v hY (v_wr rfl ?_) rfl ?_; · omega) | refine o_v hY (v_pv rfl) rfl ?_ | refine g_y rfl rfl ?_ | refine g_n hY rfl rfl rfl ?_ | refine g_u hY rfl rfl rfl ?_ | (refine g_s rfl rfl ?_ ?_ <;> fail_if_success (intro h; cases h; done)) | refine c_t rfl ?_ | refine c_f rfl ?_ | refine c_s rfl ?_ ?_
    | (intro h; (try simp only [decide_eq_true_eq, decide_eq_false_iff_not, Bool.not_eq_true', Bool.not_eq_false', beq_iff_eq, bne_iff_ne, beq_eq_false_iff_ne, bne_eq_false_iff_eq, ne_eq, toListI] at h); (try simp only [toListC] at h))
    | refine o_a hY (a_box rfl rfl rfl ?_) | refine o_a hY (a_alz rfl rfl rfl rfl rfl ?_) | refine o_a hY (a_als rfl rfl rfl ?_) | refine o_a hY (a_st rfl rfl rfl (.d rfl) rfl rfl ?_)
    | refine r_of (r_d rfl ?_) | refine r_of (r_c rfl rfl ?_) | refine r_of (r_2 rfl rfl ?_) | refine r_of (r_4 rfl rfl rfl rfl ?_)
    | refine p_tk hY rfl rfl (v_pv rfl) rfl noPan_ret ?_ | refine p_tkg hY rfl rfl rfl rfl (v_pv rfl) rfl noPan_ret ?_ | refine p_tkn hY rfl rfl rfl (.inl rfl) rfl noPan_ret ?_ | refine p_tkn hY rfl rfl rfl (.inr rfl) rfl noPan_ret ?_ | refine p_done ?_ | refine p_one hY rfl (x_s rfl (.inl rfl) rfl ?_) | refine p_one hY rfl (x_s rfl (.inr rfl) rfl ?_) | refine p_two hY rfl rfl (x_s rfl (.inl rfl) rfl ?_) (x_s rfl (.inl rfl) rfl ?_) | (refine p_sg rfl rfl rfl rfl ?_ ?_ <;> fail_if_success (intro h; cases h; done)) | (refine p_so rfl rfl rfl rfl ?_ ?_ <;> fail_if_success (intro h; cases h; done))
    | refine o_a hY (a_sl rfl rfl (.cons (.d rfl) (.cons (.d rfl) (.cons (.d rfl) (.cons (.d rfl) (.cons (.d rfl) (.cons (.d rfl) (.cons (.d rfl) (.cons (.d rfl) (.cons (.d rfl) (.cons (.d rfl) .nil)))))))))) (allSz_q rfl) rfl rfl rfl rfl rfl rfl ?_)
    | refine o_a hY (a_sl rfl rfl (.cons (.d rfl) (.cons (.d rfl) (.cons (.d rfl) (.cons (.d rfl) (.cons (.d rfl) .nil))))) (allSz_q rfl) rfl rfl rfl rfl rfl rfl ?_)
    | refine o_a hY (a_sl rfl rfl (.cons (.d rfl) (.cons (.d rfl) .nil)) (allSz_q rfl) rfl rfl rfl rfl rfl rfl ?_)
    | (refine o_a hY (a_callF (l1Int_c code hc _ _ (by assumption) [1, 2, 2, 3, 4, 4, 5, 6, 7, 8] (by decide) (by decide)) (.cons (.p rfl) (.cons (.w rfl rfl rfl) .nil)) rfl ?_)
       rintro _ _ ⟨⟨k, hk, rfl⟩, i1, h1, h0', rfl⟩
       simp only [List.mem_cons, List.not_mem_nil, or_false] at hk)
    | (refine o_a hY (a_callF (l1Below_c code hc _ _ (by assumption) 10 (by decide) (by decide)) (.cons (.p rfl) (.cons (.d rfl) .nil)) rfl ?_)
       rintro _ _ ⟨⟨m, hm, rfl⟩, i1, h1, h0', rfl⟩)
    | refine o_a hY (a_call (l3Num_c _) (.cons (.d rfl) .nil) rfl ?_)
    | refine o_a hY (a_call (l3Var_c _) (.cons (.d rfl) .nil) rfl ?_)
    | refine o_a hY (a_call (l3At_c _ _) (.cons (.d rfl) (.cons (.d rfl) .nil)) rfl ?_)
    | (refine o_a hY (a_callF (l1Str_c code hc _ _ (by assumption) [⟨#[120]⟩, ⟨#[121]⟩, ⟨#[105]⟩, ⟨#[106]⟩, ⟨#[115]⟩] (by decide) (by decide)) (.cons (.p rfl) (.cons (.w rfl rfl rfl) .nil)) rfl ?_)
       rintro _ _ ⟨⟨s, hs, rfl⟩, i1, h1, h0', rfl⟩)
    | (refine o_a hY (a_callF (l1Str_c code hc _ _ (by assumption) [⟨#[97]⟩, ⟨#[98]⟩] (by decide) (by decide)) (.cons (.p rfl) (.cons (.w rfl rfl rfl) .nil)) rfl ?_)
       rintro _ _ ⟨⟨s, hs, rfl⟩, i1, h1, h0', rfl⟩)
    | (refine o_a hY (a_callF ((ih (by omega)).2 _ _ (by assumption)) (.cons (.p rfl) (.cons (.d rfl) .nil)) rfl ?_)
       rintro _ _ ⟨⟨x, hx, rfl⟩, i1, h1, h0', rfl⟩)
    | refine o_a hY (a_st rfl rfl rfl (.d rfl) (set_E _) (size_encE _) ?_))
  all_goals have hp := bE_pos d
  all_goals first
    | exact ⟨⟨.mk 1 _ emp [], by rw [szE_num]; exact Nat.zero_le _, rfl⟩, _, _, by assumption, rfl⟩
    | exact ⟨⟨.mk 2 0 _ [], by rw [szE_var]; have := mem_size (n := 1) (by decide) hs; omega, rfl⟩, _, _, by assumption, rfl⟩
    | (have hs' := mem_size (n := 1) (by decide) hs
       have hb := bE_step (ih (by omega)).1
       exact ⟨⟨.mk 3 0 _ [_], by rw [szE_at]; omega, rfl⟩, _, _, by assumption, rfl⟩)
    | (have hb := bE_step (ih (by omega)).1
       exact ⟨⟨.mk _ 0 emp [_, _], by rw [szE_two]; omega, rfl⟩, _, _, by assumption, rfl⟩)
theorem l3Draw_c (code : List D) (hc : okCode code) : ∀ (d : Nat), d ≤ 100 → ∀ (deep : Int), deep ≤ d → ∀ i h, 0 ≤ i → AC Try.prog 34 [.pt (.f 0) 0, .d (.i .i64 deep)] [cur code i h] (DrE code (bE d))
  | 0, hd2, deep, hd, i, h, h0 => l3Draw_s code hc i h h0 deep 0 hd hd2 fun hp => by omega
  | d + 1, hd2, deep, hd, i, h, h0 => l3Draw_s code hc i h h0 deep (d + 1) hd hd2 fun hp => ⟨by omega, fun i h h0 => l3Draw_c code hc d (by omega) (deep - 1) (by omega) i h h0⟩
end Go.Proofs.Ytmclamindmnigaa.Ax
