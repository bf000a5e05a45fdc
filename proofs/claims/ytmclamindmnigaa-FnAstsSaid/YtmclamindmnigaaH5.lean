/- Contracts of functions that the claim reaches, over data without addresses, and what follows of them (text H5). No conditions beside those that each theorem names. -/
import Derived.Test.YtmclamindmnigaaH4
set_option linter.unusedVariables false
set_option linter.unusedSimpArgs false
namespace Go.Proofs.Ytmclamindmnigaa.Ax
open Go.RowKit
theorem zE3 : zcell Try.prog 26 3 = some (.slice none 0 0) := by kernel_rfl
theorem take_app {xs : List D} {j : Nat} {v : D} (h : xs[j]? = some v) : xs.take j ++ [v] = xs.take (j + 1) := by
  rw [List.take_add_one, h]; rfl
def Ccp (x : Ex) : Prop := szE x ≤ 1048576 → AC Try.prog 24 [.d (encE x)] [] (isR (.d (encE x)))
set_option maxHeartbeats 8000000 in
theorem l3CopyExp_c (x : Ex) : Ccp x := by
  refine Ex.ind (fun k n s l ih => ?_) x
  intro hz
  have hz' : l.length + sumE l ≤ 1048576 := by simp only [szE] at hz; omega
  have hlen := encEs_len l
  (refine AC_fn hY Try.func24 rfl Try.ntmps24 Try.results24 rfl (eq_true (by simp)) ?_; simp only [enumT])
  repeat' (first
    | refine s_seq ?_ | refine s_block ?_ | refine s_reg ?_ | refine s_skip ?_ | refine s_ret ?_ | refine s_end ?_ | refine n_seq ?_ | refine n_blk ?_ | refine n_nil ?_ | refine s_exit ?_ | refine e_seq ?_ | refine e_lp ?_ | refine e_blk ?_ | refine e_blk' rfl ?_
    | (refine o_v hY (v_wr rfl ?_) rfl ?_; · omega) | refine o_v hY (v_pv rfl) rfl ?_ | refine g_y rfl rfl ?_ | refine g_n hY rfl rfl rfl ?_ | refine g_u hY rfl rfl rfl ?_ | (refine g_s rfl rfl ?_ ?_ <;> fail_if_success (intro h; cases h; done)) | refine c_t rfl ?_ | refine c_f rfl ?_ | refine c_s rfl ?_ ?_
    | (intro h; (try simp only [decide_eq_true_eq, decide_eq_false_iff_not, Bool.not_eq_true', Bool.not_eq_false', beq_iff_eq, bne_iff_ne, beq_eq_false_iff_ne, bne_eq_false_iff_eq, ne_eq, toListI] at h); (try simp only [toListC] at h))
    | refine o_a hY (a_box rfl rfl rfl ?_) | refine o_a hY (a_alz rfl rfl rfl rfl rfl ?_) | refine o_a hY (a_als rfl rfl rfl ?_) | refine o_a hY (a_st rfl rfl rfl (.d rfl) rfl rfl ?_)
    | refine r_of (r_d rfl ?_) | refine r_of (r_c rfl rfl ?_) | refine r_of (r_2 rfl rfl ?_) | refine r_of (r_4 rfl rfl rfl rfl ?_)
    | refine o_bldn hY 100 3 26 (sz := 4) (.cons (.d rfl) (.cons (.d rfl) (.cons (.d rfl) .nil))) rfl zE3 rfl rfl rfl ?_
    | refine o_a hY (a_stw rfl rfl rfl rfl rfl rfl rfl rfl ?_))
  refine s_loop (fun m τ => ∃ j : Nat, j ≤ l.length ∧ m = l.length - j ∧ τ = ⟨[(1, .pt (.l 1) 0), (2, .pt (.l 2) 0), (3, .pt (.l 3) 0), (4, .d (.i .i64 (j : Int)))], [(1, .var (.d (encE (.mk k n s l)))), (2, .var (.d ZE)), (3, .var (.dt (.ag [.i .i64 k, .i .i64 n, .s s, .sl ((encEs l).take j)]) (.l 100) ((encEs l).take j).length 3)), (100, .row 26 4 ((encEs l).take j))], []⟩) l.length ⟨0, Nat.zero_le _, rfl, rfl⟩ (Wk.of ⟨rfl, rfl, rfl, rfl, trivial⟩ ⟨rfl, rfl, rfl, rfl, trivial⟩ rfl) ?_
  rintro m τ ⟨j, hj, rfl, rfl⟩
  repeat' (first
    | refine s_seq ?_ | refine s_block ?_ | refine s_reg ?_ | refine s_skip ?_ | refine s_ret ?_ | refine s_end ?_ | refine n_seq ?_ | refine n_blk ?_ | refine n_nil ?_ | refine s_exit ?_ | refine e_seq ?_ | refine e_lp ?_ | refine e_blk ?_ | refine e_blk' rfl ?_
    | (refine o_v hY (v_wr rfl ?_) rfl ?_; · omega) | refine o_v hY (v_pv rfl) rfl ?_ | refine g_y rfl rfl ?_ | refine g_n hY rfl rfl rfl ?_ | refine g_u hY rfl rfl rfl ?_ | (refine g_s rfl rfl ?_ ?_ <;> fail_if_success (intro h; cases h; done)) | refine c_t rfl ?_ | refine c_f rfl ?_ | refine c_s rfl ?_ ?_
    | (intro h; (try simp only [decide_eq_true_eq, decide_eq_false_iff_not, Bool.not_eq_true', Bool.not_eq_false', beq_iff_eq, bne_iff_ne, beq_eq_false_iff_ne, bne_eq_false_iff_eq, ne_eq, toListI] at h); (try simp only [toListC] at h))
    | refine o_a hY (a_box rfl rfl rfl ?_) | refine o_a hY (a_alz rfl rfl rfl rfl rfl ?_) | refine o_a hY (a_als rfl rfl rfl ?_) | refine o_a hY (a_st rfl rfl rfl (.d rfl) rfl rfl ?_)
    | refine r_of (r_d rfl ?_) | refine r_of (r_c rfl rfl ?_) | refine r_of (r_2 rfl rfl ?_) | refine r_of (r_4 rfl rfl rfl rfl ?_)
    | (refine o_v hY (v_ia j rfl rfl (.d rfl) rfl rfl (encEs_get l j ?_) (size_encE _)) rfl ?_; · omega)
    | refine o_v hY (v_ldp rfl rfl (sub_encE _)) rfl ?_
    | (refine o_a hY (a_call (ih l[j] (List.getElem_mem _) ?_) (.cons (.d rfl) .nil) rfl ?_)
       · (have := sumE_mem l l[j] (List.getElem_mem _); omega))
    | refine o_a hY (a_st rfl rfl rfl (.d rfl) (set_E _) (size_encE _) ?_)
    | refine o_v hY (v_dtr rfl rfl rfl rfl rfl) rfl ?_
    | refine o_v hY (v_ldb rfl rfl rfl (sub_encE _)) rfl ?_
    | refine o_a hY (a_sl rfl rfl (.cons (.d rfl) .nil) (sz1E _) rfl rfl rfl rfl rfl rfl ?_)
    | (refine o_a hY (a_ap' (take_app (encEs_get l j ?_)) rfl rfl rfl rfl (.w rfl rfl rfl) rfl (sz1E _) rfl rfl rfl ?_ ?_)
       · omega
       · (simp only [List.length_take]; omega))
    | refine o_a hY (a_str rfl rfl rfl rfl rfl rfl rfl rfl rfl rfl ?_)
    | refine o_v hY (v_dtw rfl rfl rfl rfl rfl) rfl ?_
    | refine o_a hY (a_st rfl rfl rfl (.t rfl) rfl rfl ?_))
  · exact n_lp (l.length - (j+1)) ⟨j+1, by omega, rfl, rfl⟩ (by omega) (Wk.of ⟨rfl, rfl, rfl, rfl, trivial⟩ ⟨rfl, rfl, rfl, rfl, trivial⟩ rfl)
  · rw [List.take_of_length_le (by omega)]
    exact ⟨rfl, rfl⟩
end Go.Proofs.Ytmclamindmnigaa.Ax
