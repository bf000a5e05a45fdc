/- Contracts of functions that the claim reaches, over data without addresses, and what follows of them (text H7). No conditions beside those that each theorem names. -/
import Derived.Test.YtmclamindmnigaaH6
set_option linter.unusedVariables false
set_option linter.unusedSimpArgs false
namespace Go.Proofs.Ytmclamindmnigaa.Ax
open Go.RowKit
theorem zS18 : zcell Try.prog 30 18 = some (.slice none 0 0) := by kernel_rfl
theorem encSs_app (l : List Sm) (x : Sm) : encSs l ++ [encS x] = encSs (l ++ [x]) := by rw [encSs_map, encSs_map]; simp
def z0 : Ex := .mk 0 0 emp []
section
variable {k k' : Int} {s s' : ByteArray} {a e lo hi x : Ex} {b c : List D}
theorem stS0 : (D.ag [.i .i64 k, .s s, encE a, encE e, encE lo, encE hi, .sl b]).set 0 (.i .i64 k') = some (.ag [.i .i64 k', .s s, encE a, encE e, encE lo, encE hi, .sl b]) := by simp [D.set, setL, D.size, iI]
theorem stS1 : (D.ag [.i .i64 k, .s s, encE a, encE e, encE lo, encE hi, .sl b]).set 1 (.s s') = some (.ag [.i .i64 k, .s s', encE a, encE e, encE lo, encE hi, .sl b]) := by simp [D.set, setL, D.size, iS]
theorem stS2 : (D.ag [.i .i64 k, .s s, encE a, encE e, encE lo, encE hi, .sl b]).set 2 (encE x) = some (.ag [.i .i64 k, .s s, encE x, encE e, encE lo, encE hi, .sl b]) := by simp [D.set, setL, D.size, sizes, size_encE, encE_isAg, set_EE]
theorem stS3 : (D.ag [.i .i64 k, .s s, encE a, encE e, encE lo, encE hi, .sl b]).set 6 (encE x) = some (.ag [.i .i64 k, .s s, encE a, encE x, encE lo, encE hi, .sl b]) := by simp [D.set, setL, D.size, sizes, size_encE, encE_isAg, set_EE]
theorem stS4 : (D.ag [.i .i64 k, .s s, encE a, encE e, encE lo, encE hi, .sl b]).set 10 (encE x) = some (.ag [.i .i64 k, .s s, encE a, encE e, encE x, encE hi, .sl b]) := by simp [D.set, setL, D.size, sizes, size_encE, encE_isAg, set_EE]
theorem stS5 : (D.ag [.i .i64 k, .s s, encE a, encE e, encE lo, encE hi, .sl b]).set 14 (encE x) = some (.ag [.i .i64 k, .s s, encE a, encE e, encE lo, encE x, .sl b]) := by simp [D.set, setL, D.size, sizes, size_encE, encE_isAg, set_EE]
theorem stS6 : (D.ag [.i .i64 k, .s s, encE a, encE e, encE lo, encE hi, .sl b]).set 18 (.sl c) = some (.ag [.i .i64 k, .s s, encE a, encE e, encE lo, encE hi, .sl c]) := by simp [D.set, setL, D.size, sizes, size_encE, iL]
end
def DrSs (code : List D) (most b : Nat) (r : T) (Fo : List Ob) (o : Ob) : Prop := ∃ l : List Sm, l.length ≤ most ∧ (∀ x ∈ l, szS x ≤ b) ∧ r = .rw (.f 0) (encSs l).length ∧ o = .row 30 19 (encSs l) ∧ ∃ i h, 0 ≤ i ∧ Fo = [cur code i h]
def DrS (code : List D) (b : Nat) (r : T) (Fo : List Ob) (o : Ob) : Prop := ∃ x : Sm, szS x ≤ b ∧ r = .dt (encS x) (.f 0) (encSs (bodyS x)).length 18 ∧ o = .row 30 19 (encSs (bodyS x)) ∧ ∃ i h, 0 ≤ i ∧ Fo = [cur code i h]
def DrD (code : List D) (b : Nat) : T → List Ob → Prop := Go1 code fun r => ∃ x, szS x ≤ b ∧ r = .d (encS x)
theorem DrS_data {code : List D} {b : Nat} {args : List T} {F : List Ob} (h : AM Try.prog 40 args F (DrS code b)) : AC Try.prog 40 args F (DrD code b) :=
  AM.data h fun r Fo o ⟨x, hx, hr, ho, hF⟩ => ⟨encS x, by rw [hr]; rfl, ⟨x, hx, rfl⟩, hF⟩
theorem DrSs_data {code : List D} {most b : Nat} {args : List T} {F : List Ob} (h : AM Try.prog 26 args F (DrSs code most b)) : AC Try.prog 26 args F (Go1 code fun r => ∃ l : List Sm, l.length ≤ most ∧ (∀ x ∈ l, szS x ≤ b) ∧ r = .d (.sl (encSs l))) :=
  AM.data h fun r Fo o ⟨l, hl, hx, hr, ho, hF⟩ => ⟨.sl (encSs l), by rw [hr, ho]; simp [frzN], ⟨l, hl, hx, rfl⟩, hF⟩
set_option maxHeartbeats 8000000 in
theorem l3Stmts_c (code : List D) (hc : okCode code) (i h : Int) (h0 : 0 ≤ i) (deep : Int) (most b : Nat) (h1 : 1 ≤ most) (h2 : most ≤ 256) (ih : ∀ i h, 0 ≤ i → AC Try.prog 40 [.pt (.f 0) 0, .d (.i .i64 deep)] [cur code i h] (DrD code b)) :
    AM Try.prog 26 [.pt (.f 0) 0, .d (.i .i64 deep), .d (.i .i64 most)] [cur code i h] (DrSs code most b) := by
  (refine AM_fn hY Try.func26 rfl Try.ntmps26 Try.results26 rfl (eq_true (by simp)) ?_; simp only [enumT])
  repeat' (first
    | refine s_seq ?_ | refine s_block ?_ | refine s_reg ?_ | refine s_skip ?_ | refine s_ret ?_ | refine s_end ?_ | refine n_seq ?_ | refine n_blk ?_ | refine n_nil ?_ | refine s_exit ?_ | refine e_seq ?_ | refine e_lp ?_ | refine e_blk ?_ | refine e_blk' rfl ?_
    | (refine o_v hY (v_wr rfl ?_) rfl ?_; · omega) | refine o_v hY (v_pv rfl) rfl ?_ | refine g_y rfl rfl ?_ | refine g_n hY rfl rfl rfl ?_ | refine g_u hY rfl rfl rfl ?_ | (refine g_s rfl rfl ?_ ?_ <;> fail_if_success (intro h; cases h; done)) | refine c_t rfl ?_ | refine c_f rfl ?_ | refine c_s rfl ?_ ?_
    | (intro h; (try simp only [decide_eq_true_eq, decide_eq_false_iff_not, Bool.not_eq_true', Bool.not_eq_false', beq_iff_eq, bne_iff_ne, beq_eq_false_iff_ne, bne_eq_false_iff_eq, ne_eq, toListI] at h); (try simp only [toListC] at h))
    | refine o_a hY (a_box rfl rfl rfl ?_) | refine o_a hY (a_alz rfl rfl rfl rfl rfl ?_) | refine o_a hY (a_als rfl rfl rfl ?_) | refine o_a hY (a_st rfl rfl rfl (.d rfl) rfl rfl ?_)
    | refine r_of (r_d rfl ?_) | refine r_of (r_c rfl rfl ?_) | refine r_of (r_2 rfl rfl ?_) | refine r_of (r_4 rfl rfl rfl rfl ?_)
    | refine o_a hY (a_sl rfl rfl .nil (by simp [allSz]) rfl rfl rfl rfl rfl rfl ?_)
    | (refine o_a hY (a_callF (l1Below_c code hc _ _ (by assumption) most h1 h2) (.cons (.p rfl) (.cons (.d rfl) .nil)) rfl ?_)
       rintro _ _ ⟨⟨m, hm, rfl⟩, i1, h1', h0', rfl⟩))
  refine s_loop (fun q τ => ∃ (l : List Sm) (i h : Int), 0 ≤ i ∧ l.length + q ≤ most ∧ (∀ x ∈ l, szS x ≤ b) ∧ τ = ⟨[(0, .pt (.f 0) 0), (1, .d (.i .i64 deep)), (7, .rw (.l 9) (encSs l).length), (8, .d (.i .i64 (q : Int)))], [(9, .row 30 19 (encSs l))], [cur code i h]⟩) (1 + m) ⟨[], _, _, h0', by simp; omega, by simp, rfl⟩ (Wk.of ⟨rfl, rfl, rfl, congrArg (fun z => T.d (.i .i64 z)) (by omega), trivial⟩ ⟨rfl, trivial⟩ rfl) ?_
  rintro q τ ⟨l, i, h, h0, hl, hb, rfl⟩
  have hlen := encSs_len l
  repeat' (first
    | refine s_seq ?_ | refine s_block ?_ | refine s_reg ?_ | refine s_skip ?_ | refine s_ret ?_ | refine s_end ?_ | refine n_seq ?_ | refine n_blk ?_ | refine n_nil ?_ | refine s_exit ?_ | refine e_seq ?_ | refine e_lp ?_ | refine e_blk ?_ | refine e_blk' rfl ?_
    | (refine o_v hY (v_wr rfl ?_) rfl ?_; · omega) | refine o_v hY (v_pv rfl) rfl ?_ | refine g_y rfl rfl ?_ | refine g_n hY rfl rfl rfl ?_ | refine g_u hY rfl rfl rfl ?_ | (refine g_s rfl rfl ?_ ?_ <;> fail_if_success (intro h; cases h; done)) | refine c_t rfl ?_ | refine c_f rfl ?_ | refine c_s rfl ?_ ?_
    | (intro h; (try simp only [decide_eq_true_eq, decide_eq_false_iff_not, Bool.not_eq_true', Bool.not_eq_false', beq_iff_eq, bne_iff_ne, beq_eq_false_iff_ne, bne_eq_false_iff_eq, ne_eq, toListI] at h); (try simp only [toListC] at h))
    | refine o_a hY (a_box rfl rfl rfl ?_) | refine o_a hY (a_alz rfl rfl rfl rfl rfl ?_) | refine o_a hY (a_als rfl rfl rfl ?_) | refine o_a hY (a_st rfl rfl rfl (.d rfl) rfl rfl ?_)
    | refine r_of (r_d rfl ?_) | refine r_of (r_c rfl rfl ?_) | refine r_of (r_2 rfl rfl ?_) | refine r_of (r_4 rfl rfl rfl rfl ?_)
    | (refine o_a hY (a_callF (ih _ _ (by assumption)) (.cons (.p rfl) (.cons (.d rfl) .nil)) rfl ?_)
       rintro _ _ ⟨⟨x, hx, rfl⟩, i1, h1', h0', rfl⟩)
    | refine o_a hY (a_sl rfl rfl (.cons (.d rfl) .nil) (sz1S _) rfl rfl rfl rfl rfl rfl ?_)
    | (refine o_a hY (a_ap' (encSs_app l x) rfl rfl rfl rfl (.w rfl rfl rfl) rfl (sz1S _) rfl rfl rfl ?_ ?_)
       · (simp only [encSs_len, List.length_append, List.length_singleton]; omega)))
  · refine n_lp (q - 1) ⟨l ++ [x], _, _, by assumption, by simp; omega, fun z hz => ?_, rfl⟩ (by omega) (Wk.of ⟨rfl, rfl, rfl, congrArg (fun z => T.d (.i .i64 z)) (by omega), trivial⟩ ⟨rfl, trivial⟩ rfl)
    rcases List.mem_append.1 hz with hz | hz
    · exact hb z hz
    · rw [List.mem_singleton.1 hz]; exact hx
  · exact r_mw rfl rfl rfl ⟨l, by omega, hb, rfl, rfl, _, _, h0, rfl⟩
end Go.Proofs.Ytmclamindmnigaa.Ax
