/- Contracts of functions that the claim reaches, over data without addresses, and what follows of them (text H6). No conditions beside those that each theorem names. -/
import Derived.Test.YtmclamindmnigaaH5
set_option linter.unusedVariables false
set_option linter.unusedSimpArgs false
namespace Go.Proofs.Ytmclamindmnigaa.Ax
open Go.RowKit
section
variable {k : Int} {s : ByteArray} {a e lo hi : Ex} {b : List D}
theorem sz1D : allSz 19 [.ag [.i .i64 k, .s s, encE a, encE e, encE lo, encE hi, .sl b]] := by simp [allSz, D.size, sizes, size_encE]
theorem iA (xs : List D) : (D.ag xs).isAg = true := rfl
theorem iI (k : IntKind) (n : Int) : (D.i k n).isAg = false := rfl
theorem iS (x : ByteArray) : (D.s x).isAg = false := rfl
theorem iL (xs : List D) : (D.sl xs).isAg = false := rfl
theorem bldS : pBuild Y 30 [(0, .d (.i .i64 k)), (1, .d (.s s)), (2, .d (encE a)), (3, .d (encE e)), (4, .d (encE lo)), (5, .d (encE hi)), (6, .d (.sl b))] = some (.d (.ag [.i .i64 k, .s s, encE a, encE e, encE lo, encE hi, .sl b])) := by
  simp [pBuild, K30, Z30, iA, iI, iS, iL, Ky.agg, Ky.okk, setAll, place, D.set, setL, D.size, sizes, size_encE, encE_isAg]
end
def CcpS (x : Sm) : Prop := szS x ≤ 1048576 → AC Try.prog 25 [.d (.sl (encSs (bodyS x)))] [] (isR (.d (.sl (encSs (bodyS x)))))
set_option maxHeartbeats 8000000 in
theorem l3CopyL_c (l : List Sm) (ih : ∀ x ∈ l, CcpS x) (hz : l.length + sumS l ≤ 1048576) : AC Try.prog 25 [.d (.sl (encSs l))] [] (isR (.d (.sl (encSs l)))) := by
  have hlen := encSs_len l
  (refine AC_fn hY Try.func25 rfl Try.ntmps25 Try.results25 rfl (eq_true (by simp)) ?_; simp only [enumT])
  repeat' (first
    | refine s_seq ?_ | refine s_block ?_ | refine s_reg ?_ | refine s_skip ?_ | refine s_ret ?_ | refine s_end ?_ | refine n_seq ?_ | refine n_blk ?_ | refine n_nil ?_ | refine s_exit ?_ | refine e_seq ?_ | refine e_lp ?_ | refine e_blk ?_ | refine e_blk' rfl ?_
    | (refine o_v hY (v_wr rfl ?_) rfl ?_; · omega) | refine o_v hY (v_pv rfl) rfl ?_ | refine g_y rfl rfl ?_ | refine g_n hY rfl rfl rfl ?_ | refine g_u hY rfl rfl rfl ?_ | (refine g_s rfl rfl ?_ ?_ <;> fail_if_success (intro h; cases h; done)) | refine c_t rfl ?_ | refine c_f rfl ?_ | refine c_s rfl ?_ ?_
    | (intro h; (try simp only [decide_eq_true_eq, decide_eq_false_iff_not, Bool.not_eq_true', Bool.not_eq_false', beq_iff_eq, bne_iff_ne, beq_eq_false_iff_ne, bne_eq_false_iff_eq, ne_eq, toListI] at h); (try simp only [toListC] at h))
    | refine o_a hY (a_box rfl rfl rfl ?_) | refine o_a hY (a_alz rfl rfl rfl rfl rfl ?_) | refine o_a hY (a_als rfl rfl rfl ?_) | refine o_a hY (a_st rfl rfl rfl (.d rfl) rfl rfl ?_)
    | refine r_of (r_d rfl ?_) | refine r_of (r_c rfl rfl ?_) | refine r_of (r_2 rfl rfl ?_) | refine r_of (r_4 rfl rfl rfl rfl ?_)
    | refine o_a hY (a_sl rfl rfl .nil (by simp [allSz]) rfl rfl rfl rfl rfl rfl ?_))
  refine s_loop (fun m τ => ∃ j : Nat, j ≤ l.length ∧ m = l.length - j ∧ τ = ⟨[(0, .d (.sl (encSs l))), (3, .rw (.l 6) ((encSs l).take j).length), (4, .d (.i .i64 (j : Int)))], [(6, .row 30 19 ((encSs l).take j))], []⟩) l.length ⟨0, Nat.zero_le _, rfl, rfl⟩ (Wk.of ⟨rfl, rfl, rfl, trivial⟩ ⟨rfl, trivial⟩ rfl) ?_
  rintro m τ ⟨j, hj, rfl, rfl⟩
  rcases Nat.lt_or_ge j l.length with hjl | hjl
  · have hget := encSs_get l j hjl
    have hm : l[j] ∈ l := List.getElem_mem _
    have hsz := sumS_mem l l[j] hm
    have ihj := ih _ hm (by omega)
    rcases hx : l[j] with ⟨k, s, a, e, lo, hi, b⟩
    rw [hx] at hget hsz ihj
    simp only [szS] at hsz
    have ha : szE a ≤ 1048576 := by omega
    have he : szE e ≤ 1048576 := by omega
    have hlo : szE lo ≤ 1048576 := by omega
    have hhi : szE hi ≤ 1048576 := by omega
    simp only [encS] at hget
    simp only [bodyS] at ihj
    repeat' (first
    | refine p_start (by kernel_rfl) [] (.tk 0 (.tk 1 (.tk 2 (.tk 3 (.tk 4 (.tk 5 (.tk 6 (.tk 8 (.tk 9 (.tk 11 (.tk 12 (.tk 14 (.tk 15 (.tk 17 (.tk 18 (.one 7 (.one 10 (.one 13 (.one 16 (.one 19 (.tk 20 (.one 21 (.one 22 (.tk 23 .done)))))))))))))))))))))))) (by kernel_rfl) ?_
    | refine p_tk hY rfl rfl (v_ldb rfl rfl rfl sub_S2) rfl noPan_ret ?_ | refine p_tk hY rfl rfl (v_ldb rfl rfl rfl sub_S3) rfl noPan_ret ?_ | refine p_tk hY rfl rfl (v_ldb rfl rfl rfl sub_S4) rfl noPan_ret ?_ | refine p_tk hY rfl rfl (v_ldb rfl rfl rfl sub_S5) rfl noPan_ret ?_ | refine p_tk hY rfl rfl (v_ldb rfl rfl rfl sub_S6) rfl noPan_ret ?_
    | refine p_one hY rfl (x_n rfl (a_call (l3CopyExp_c _ (by assumption)) (.cons (.d rfl) .nil) rfl ?_))
    | refine p_one hY rfl (x_n rfl (a_call ihj (.cons (.d rfl) .nil) rfl ?_))
    | refine p_tk hY rfl rfl (v_bld (.cons (.d rfl) (.cons (.d rfl) (.cons (.d rfl) (.cons (.d rfl) (.cons (.d rfl) (.cons (.d rfl) (.cons (.d rfl) .nil))))))) bldS) rfl noPan_ret ?_
    | refine p_one hY rfl (x_n rfl (a_sl rfl rfl (.cons (.d rfl) .nil) sz1D rfl rfl rfl rfl rfl rfl ?_))
    | (refine p_one hY rfl (x_n rfl (a_ap' (take_app hget) rfl rfl rfl rfl (.w rfl rfl rfl) rfl sz1D rfl rfl rfl ?_ ?_))
       · (simp only [List.length_take]; omega))
    | refine s_seq ?_ | refine s_block ?_ | refine s_reg ?_ | refine s_skip ?_ | refine s_ret ?_ | refine s_end ?_ | refine n_seq ?_ | refine n_blk ?_ | refine n_nil ?_ | refine s_exit ?_ | refine e_seq ?_ | refine e_lp ?_ | refine e_blk ?_ | refine e_blk' rfl ?_
    | (refine o_v hY (v_wr rfl ?_) rfl ?_; · omega) | refine o_v hY (v_pv rfl) rfl ?_ | refine g_y rfl rfl ?_ | refine g_n hY rfl rfl rfl ?_ | refine g_u hY rfl rfl rfl ?_ | (refine g_s rfl rfl ?_ ?_ <;> fail_if_success (intro h; cases h; done)) | refine c_t rfl ?_ | refine c_f rfl ?_ | refine c_s rfl ?_ ?_
    | (intro h; (try simp only [decide_eq_true_eq, decide_eq_false_iff_not, Bool.not_eq_true', Bool.not_eq_false', beq_iff_eq, bne_iff_ne, beq_eq_false_iff_ne, bne_eq_false_iff_eq, ne_eq, toListI] at h); (try simp only [toListC] at h))
    | refine o_a hY (a_box rfl rfl rfl ?_) | refine o_a hY (a_alz rfl rfl rfl rfl rfl ?_) | refine o_a hY (a_als rfl rfl rfl ?_) | refine o_a hY (a_st rfl rfl rfl (.d rfl) rfl rfl ?_)
    | refine r_of (r_d rfl ?_) | refine r_of (r_c rfl rfl ?_) | refine r_of (r_2 rfl rfl ?_) | refine r_of (r_4 rfl rfl rfl rfl ?_)
    | refine p_tk hY rfl rfl (v_pv rfl) rfl noPan_ret ?_ | refine p_tkg hY rfl rfl rfl rfl (v_pv rfl) rfl noPan_ret ?_ | refine p_tkn hY rfl rfl rfl (.inl rfl) rfl noPan_ret ?_ | refine p_tkn hY rfl rfl rfl (.inr rfl) rfl noPan_ret ?_ | refine p_done ?_ | refine p_one hY rfl (x_s rfl (.inl rfl) rfl ?_) | refine p_one hY rfl (x_s rfl (.inr rfl) rfl ?_) | refine p_two hY rfl rfl (x_s rfl (.inl rfl) rfl ?_) (x_s rfl (.inl rfl) rfl ?_) | (refine p_sg rfl rfl rfl rfl ?_ ?_ <;> fail_if_success (intro h; cases h; done)) | (refine p_so rfl rfl rfl rfl ?_ ?_ <;> fail_if_success (intro h; cases h; done))
    | (refine o_v hY (v_ia j rfl rfl (.d rfl) rfl rfl hget size_Sw) rfl ?_)
    | refine o_v hY (v_ldp rfl rfl sub_Sw) rfl ?_
    | refine o_a hY (a_st rfl rfl rfl (.d rfl) set_Sw size_Sw ?_))
    · exact n_lp (l.length - (j+1)) ⟨j+1, by omega, rfl, rfl⟩ (by omega) (Wk.of ⟨rfl, rfl, rfl, trivial⟩ ⟨rfl, trivial⟩ rfl)
    · exact absurd hjl (by omega)
  · repeat' (first
    | (exfalso; omega)
    | refine s_seq ?_ | refine s_block ?_ | refine s_reg ?_ | refine s_skip ?_ | refine s_ret ?_ | refine s_end ?_ | refine n_seq ?_ | refine n_blk ?_ | refine n_nil ?_ | refine s_exit ?_ | refine e_seq ?_ | refine e_lp ?_ | refine e_blk ?_ | refine e_blk' rfl ?_
    | (refine o_v hY (v_wr rfl ?_) rfl ?_; · omega) | refine o_v hY (v_pv rfl) rfl ?_ | refine g_y rfl rfl ?_ | refine g_n hY rfl rfl rfl ?_ | refine g_u hY rfl rfl rfl ?_ | (refine g_s rfl rfl ?_ ?_ <;> fail_if_success (intro h; cases h; done)) | refine c_t rfl ?_ | refine c_f rfl ?_ | refine c_s rfl ?_ ?_
    | (intro h; (try simp only [decide_eq_true_eq, decide_eq_false_iff_not, Bool.not_eq_true', Bool.not_eq_false', beq_iff_eq, bne_iff_ne, beq_eq_false_iff_ne, bne_eq_false_iff_eq, ne_eq, toListI] at h); (try simp only [toListC] at h))
    | refine o_a hY (a_box rfl rfl rfl ?_) | refine o_a hY (a_alz rfl rfl rfl rfl rfl ?_) | refine o_a hY (a_als rfl rfl rfl ?_) | refine o_a hY (a_st rfl rfl rfl (.d rfl) rfl rfl ?_)
    | refine r_of (r_d rfl ?_) | refine r_of (r_c rfl rfl ?_) | refine r_of (r_2 rfl rfl ?_) | refine r_of (r_4 rfl rfl rfl rfl ?_))
    refine r_of (r_w rfl rfl rfl ?_)
    rw [List.take_of_length_le (by omega)]
    exact ⟨rfl, rfl⟩
theorem l3Copy_c (x : Sm) : CcpS x := by
  refine Sm.ind (fun k s a e lo hi b ih => ?_) x
  intro hz
  simp only [szS] at hz
  exact l3CopyL_c b ih (by omega)
theorem l3Copy1_c (x : Sm) (hz : szS x ≤ 1048575) : AC Try.prog 25 [.d (.sl [encS x])] [] (isR (.d (.sl [encS x]))) := by
  have := l3CopyL_c [x] (fun z hz => l3Copy_c z) (by simp only [List.length_singleton, sumS]; omega)
  exact this
end Go.Proofs.Ytmclamindmnigaa.Ax
