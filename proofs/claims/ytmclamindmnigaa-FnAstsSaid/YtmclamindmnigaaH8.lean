/- Contracts of functions that the claim reaches, over data without addresses, and what follows of them (text H8). No conditions beside those that each theorem names. -/
import Derived.Test.YtmclamindmnigaaH7
set_option linter.unusedVariables false
set_option linter.unusedSimpArgs false
namespace Go.Proofs.Ytmclamindmnigaa.Ax
open Go.RowKit
def bS : Nat → Nat
  | 0 => 80
  | d + 1 => 80 + 2 * bS d
theorem bS_step {d : Nat} (h : 0 < d) : bS d = 80 + 2 * bS (d - 1) := by
  cases d with
  | zero => omega
  | succ d => rfl
theorem bS_lo : ∀ d, 80 ≤ bS d
  | 0 => Nat.le_refl _
  | d + 1 => by simp only [bS]; omega
theorem sumS_le {l : List Sm} {b : Nat} (h : ∀ x ∈ l, szS x ≤ b) : sumS l ≤ l.length * b := by
  induction l with
  | nil => simp [sumS]
  | cons x r ih =>
    have h1 := h x (by simp)
    have h2 := ih fun z hz => h z (by simp [hz])
    simp only [sumS, List.length_cons, Nat.succ_mul]
    omega
theorem szS_eq (k : Int) (s : ByteArray) (a e lo hi : Ex) (b : List Sm) : szS (.mk k s a e lo hi b) = s.size + (szE a + (szE e + (szE lo + (szE hi + (b.length + sumS b))))) := by rw [szS]
theorem szE_z0 : szE z0 = 0 := rfl
theorem bE2 : bE 2 = 13 := rfl
theorem bE1 : bE 1 = 5 := rfl
theorem bE0 : bE 0 = 1 := rfl
set_option maxHeartbeats 16000000 in
theorem l3DrawStmt_s (code : List D) (hc : okCode code) (i h : Int) (h0 : 0 ≤ i) (deep : Int) (d : Nat) (hd : deep ≤ d) (hd2 : d ≤ 100) (ih : 0 < deep → 0 < d ∧ ∀ i h, 0 ≤ i → AM Try.prog 26 [.pt (.f 0) 0, .d (.i .i64 (deep - 1)), .d (.i .i64 (2 : Nat))] [cur code i h] (DrSs code 2 (bS (d - 1)))) :
    AM Try.prog 40 [.pt (.f 0) 0, .d (.i .i64 deep)] [cur code i h] (DrS code (bS d)) := by
  (refine AM_fn hY Try.func40 rfl Try.ntmps40 Try.results40 rfl (eq_true (by simp)) ?_; simp only [enumT])
  repeat' (first
    | refine s_seq ?_ | refine s_block ?_ | refine s_reg ?_ | refine s_skip ?_ | refine s_ret ?_ | refine s_end ?_ | refine n_seq ?_ | refine n_blk ?_ | refine n_nil ?_ | refine s_exit ?_ | refine e_seq ?_ | refine e_lp ?_ | refine e_blk ?_ | refine e_blk' rfl ?_
    | (refine o_v hY (v_wr rfl ?_) rfl ?_; · omega) | refine o_v hY (v_pv rfl) rfl ?_ | refine g_y rfl rfl ?_ | refine g_n hY rfl rfl rfl ?_ | refine g_u hY rfl rfl rfl ?_ | (refine g_s rfl rfl ?_ ?_ <;> fail_if_success (intro h; cases h; done)) | refine c_t rfl ?_ | refine c_f rfl ?_ | refine c_s rfl ?_ ?_
    | (intro h; (try simp only [decide_eq_true_eq, decide_eq_false_iff_not, Bool.not_eq_true', Bool.not_eq_false', beq_iff_eq, bne_iff_ne, beq_eq_false_iff_ne, bne_eq_false_iff_eq, ne_eq, toListI] at h); (try simp only [toListC] at h))
    | refine o_a hY (a_box rfl rfl rfl ?_) | refine o_a hY (a_alz rfl rfl rfl rfl rfl ?_) | refine o_a hY (a_als rfl rfl rfl ?_) | refine o_a hY (a_st rfl rfl rfl (.d rfl) rfl rfl ?_)
    | refine r_of (r_d rfl ?_) | refine r_of (r_c rfl rfl ?_) | refine r_of (r_2 rfl rfl ?_) | refine r_of (r_4 rfl rfl rfl rfl ?_)
    | refine o_a hY (a_sl rfl rfl (.cons (.d rfl) (.cons (.d rfl) (.cons (.d rfl) (.cons (.d rfl) (.cons (.d rfl) (.cons (.d rfl) .nil)))))) (allSz_q rfl) rfl rfl rfl rfl rfl rfl ?_) | refine o_a hY (a_sl rfl rfl (.cons (.d rfl) (.cons (.d rfl) (.cons (.d rfl) .nil))) (allSz_q rfl) rfl rfl rfl rfl rfl rfl ?_) | refine o_a hY (a_sl rfl rfl (.cons (.d rfl) (.cons (.d rfl) .nil)) (allSz_q rfl) rfl rfl rfl rfl rfl rfl ?_)
    | (refine o_a hY (a_callF (l1Int_c code hc _ _ (by assumption) [1, 2, 2, 3, 3, 4] (by decide) (by decide)) (.cons (.p rfl) (.cons (.w rfl rfl rfl) .nil)) rfl ?_)
       rintro _ _ ⟨⟨k, hk, rfl⟩, i1, h1, h0', rfl⟩
       simp only [List.mem_cons, List.not_mem_nil, or_false] at hk)
    | refine o_bldn hY 100 18 30 (sz := 19) (.cons (.d rfl) .nil) rfl zS18 rfl rfl rfl ?_
    | refine o_a hY (a_stw (z' := .ag [.i .i64 _, .s emp, encE z0, encE z0, encE z0, encE z0, .sl (encSs [])]) rfl rfl rfl rfl rfl set_Sw size_Sw rfl ?_)
    | (refine o_a hY (a_callF (l1Str_c code hc _ _ (by assumption) [⟨#[120]⟩, ⟨#[121]⟩, ⟨#[115]⟩] (by decide) (by decide)) (.cons (.p rfl) (.cons (.w rfl rfl rfl) .nil)) rfl ?_)
       rintro _ _ ⟨⟨s, hs, rfl⟩, i1, h1, h0', rfl⟩
       replace hs := mem_size (n := 1) (by decide) hs)
    | (refine o_a hY (a_callF (l1Str_c code hc _ _ (by assumption) [⟨#[97]⟩, ⟨#[98]⟩] (by decide) (by decide)) (.cons (.p rfl) (.cons (.w rfl rfl rfl) .nil)) rfl ?_)
       rintro _ _ ⟨⟨s, hs, rfl⟩, i1, h1, h0', rfl⟩
       replace hs := mem_size (n := 1) (by decide) hs)
    | (refine o_a hY (a_callF (l1Below_c code hc _ _ (by assumption) 3 (by decide) (by decide)) (.cons (.p rfl) (.cons (.d rfl) .nil)) rfl ?_)
       rintro _ _ ⟨⟨q, hq, rfl⟩, i1, h1, h0', rfl⟩
       obtain ⟨s, hs, hg⟩ := strs_gets [⟨#[105]⟩, ⟨#[106]⟩, ⟨#[107]⟩] q (by rw [strs_len]; exact hq)
       replace hs := mem_size (n := 1) (by decide) hs)
    | refine o_v hY (v_ia q rfl rfl (.w rfl rfl rfl) rfl rfl hg rfl) rfl ?_
    | (refine o_a hY (a_callF (l3Draw_c code hc 2 (by decide) 2 (by decide) _ _ (by assumption)) (.cons (.p rfl) (.cons (.d rfl) .nil)) rfl ?_)
       rintro _ _ ⟨⟨x, hx, rfl⟩, i1, h1, h0', rfl⟩
       rw [bE2] at hx)
    | (refine o_a hY (a_callF (l3Draw_c code hc 1 (by decide) 1 (by decide) _ _ (by assumption)) (.cons (.p rfl) (.cons (.d rfl) .nil)) rfl ?_)
       rintro _ _ ⟨⟨x, hx, rfl⟩, i1, h1, h0', rfl⟩
       rw [bE1] at hx)
    | (refine o_a hY (a_callF (l3Draw_c code hc 0 (by decide) 0 (by decide) _ _ (by assumption)) (.cons (.p rfl) (.cons (.d rfl) .nil)) rfl ?_)
       rintro _ _ ⟨⟨x, hx, rfl⟩, i1, h1, h0', rfl⟩
       rw [bE0] at hx)
    | (refine o_a hY (a_callM ((ih (by omega)).2 _ _ (by assumption)) (.cons (.p rfl) (.cons (.d rfl) (.cons (.d rfl) .nil))) rfl ?_)
       rintro _ _ _ ⟨l, hl, hb, rfl, rfl, i1, h1, h0', rfl⟩)
    | refine o_a hY (a_stk rfl rfl rfl (.d rfl) stS1 rfl rfl (.inr (by decide)) ?_)
    | refine o_a hY (a_stk rfl rfl rfl (.d rfl) stS2 (size_encE _) rfl (.inr (by decide)) ?_)
    | refine o_a hY (a_stk rfl rfl rfl (.d rfl) stS3 (size_encE _) rfl (.inr (by decide)) ?_)
    | refine o_a hY (a_stk rfl rfl rfl (.d rfl) stS4 (size_encE _) rfl (.inr (by decide)) ?_)
    | refine o_a hY (a_stk rfl rfl rfl (.d rfl) stS5 (size_encE _) rfl (.inr (by decide)) ?_)
    | refine o_a hY (a_str rfl rfl rfl rfl rfl rfl rfl stS6 rfl rfl ?_)
    | refine o_v hY (v_dtw rfl rfl rfl rfl size_Sw) rfl ?_
    | refine o_a hY (a_stw rfl rfl rfl rfl rfl set_Sw size_Sw rfl ?_))
  all_goals refine r_md rfl rfl rfl rfl size_Sw rfl rfl ?_
  all_goals refine ⟨.mk _ _ _ _ _ _ _, ?_, rfl, rfl, _, _, by assumption, rfl⟩
  all_goals
    have he : emp.size = 0 := rfl
    have hlo := bS_lo d
    rw [szS_eq]
    simp only [szE_z0, sumS, List.length_nil]
  all_goals first
    | omega
    | (have h1 := sumS_le hb
       have h2 := Nat.mul_le_mul_right (bS (d - 1)) hl
       have h3 := bS_step (ih (by omega)).1
       omega)
theorem l3DrawStmt_c (code : List D) (hc : okCode code) : ∀ (d : Nat), d ≤ 100 → ∀ (deep : Int), deep ≤ d → ∀ i h, 0 ≤ i → AM Try.prog 40 [.pt (.f 0) 0, .d (.i .i64 deep)] [cur code i h] (DrS code (bS d))
  | 0, hd2, deep, hd, i, h, h0 => l3DrawStmt_s code hc i h h0 deep 0 hd hd2 fun hp => by omega
  | d + 1, hd2, deep, hd, i, h, h0 => l3DrawStmt_s code hc i h h0 deep (d + 1) hd hd2 fun hp => ⟨by omega, fun i h h0 => l3Stmts_c code hc i h h0 (deep - 1) 2 (bS d) (by decide) (by decide) fun i h h0 => DrS_data (l3DrawStmt_c code hc d (by omega) (deep - 1) (by omega) i h h0)⟩
end Go.Proofs.Ytmclamindmnigaa.Ax
