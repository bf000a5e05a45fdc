/- Contracts of functions that the claim reaches, over data without addresses, and what follows of them (text P16). No conditions beside those that each theorem names. -/
import Derived.Test.YtmmdgciefehbcaaGreatDoorP15
set_option linter.unusedVariables false
set_option linter.unusedSimpArgs false
namespace Go.Proofs.YtmmdgciefehbcaaGreatDoor.Ax
theorem szE_aS (x : Sm) : szE (aS x) ≤ szS x := by cases x; simp only [aS, szS]; omega
theorem szE_eS (x : Sm) : szE (eS x) ≤ szS x := by cases x; simp only [eS, szS]; omega
theorem szE_loS (x : Sm) : szE (loS x) ≤ szS x := by cases x; simp only [loS, szS]; omega
theorem szE_hiS (x : Sm) : szE (hiS x) ≤ szS x := by cases x; simp only [hiS, szS]; omega
def CaskS (k : Int) (x : Sm) : Prop := szS x ≤ 1048576 → ∀ out : List ByteArray, out.length + (askL k (bodyS x)).length ≤ 8388608 → AC Tryz.prog 30 [.d (.sl (strs out)), .d (.sl (encSs (bodyS x))), .d (.i .i64 k)] [] (isR (.d (.sl (strs ((askL k (bodyS x)).foldl putS out)))))
theorem l4ExpsL_c (k : Int) (l : List Sm) (ih : ∀ x ∈ l, CaskS k x) (hz : l.length + sumS l ≤ 1048576) (out : List ByteArray) (hb : out.length + (askL k l).length ≤ 8388608) : AC Tryz.prog 30 [.d (.sl (strs out)), .d (.sl (encSs l)), .d (.i .i64 k)] [] (isR (.d (.sl (strs ((askL k l).foldl putS out))))) := by
  have hlen := encSs_len l
  generalize hr : (askL k l).foldl putS out = res
  (refine AC_fn hY Tryz.func30 rfl Tryz.ntmps30 Tryz.results30 rfl (eq_true (by simp)) ?_; simp only [enumT])
  repeat' (first
    | refine s_seq ?_ | refine s_block ?_ | refine s_reg ?_ | refine s_skip ?_ | refine s_ret ?_ | refine s_end ?_ | refine n_seq ?_ | refine n_blk ?_ | refine n_nil ?_ | refine s_exit ?_ | refine e_seq ?_ | refine e_lp ?_ | refine e_blk ?_ | refine e_blk' rfl ?_
    | (refine o_v hY (v_wr rfl ?_) rfl ?_; · omega) | refine o_v hY (v_pv rfl) rfl ?_ | refine g_y rfl rfl ?_ | refine g_n hY rfl rfl rfl ?_ | refine g_u hY rfl rfl rfl ?_ | (refine g_s rfl rfl ?_ ?_ <;> fail_if_success (intro h; cases h; done)) | refine c_t rfl ?_ | refine c_f rfl ?_ | refine c_s rfl ?_ ?_
    | (intro h; (try simp only [decide_eq_true_eq, decide_eq_false_iff_not, Bool.not_eq_true', Bool.not_eq_false', beq_iff_eq, bne_iff_ne, beq_eq_false_iff_ne, bne_eq_false_iff_eq, ne_eq, toListI] at h); (try simp only [toListC] at h))
    | refine o_a hY (a_box rfl rfl rfl ?_) | refine o_a hY (a_alz rfl rfl rfl rfl rfl ?_) | refine o_a hY (a_als rfl rfl rfl ?_) | refine o_a hY (a_st rfl rfl rfl (.d rfl) rfl rfl ?_)
    | refine r_of (r_d rfl ?_) | refine r_of (r_c rfl rfl ?_) | refine r_of (r_2 rfl rfl ?_) | refine r_of (r_4 rfl rfl rfl rfl ?_))
  refine s_loop (fun m τ => ∃ (j : Nat) (o : List ByteArray), j ≤ l.length ∧ m = l.length - j ∧ o.length + (askL k (l.drop j)).length ≤ 8388608 ∧ (askL k (l.drop j)).foldl putS o = res ∧ τ = ⟨[(0, .d (.sl (strs o))), (1, .d (.sl (encSs l))), (2, .d (.i .i64 k)), (7, .d (.i .i64 (j : Int)))], [], []⟩) l.length ⟨0, out, Nat.zero_le _, rfl, hb, hr, rfl⟩ (Wk.of ⟨rfl, rfl, rfl, rfl, trivial⟩ trivial rfl) ?_
  rintro m τ ⟨j, o, hj, rfl, h3, h4, rfl⟩
  by_cases hlt : j < l.length
  · have hs := sumS_mem l l[j] (List.getElem_mem _)
    have z1 := szE_aS l[j]
    have z2 := szE_eS l[j]
    have z3 := szE_loS l[j]
    have z4 := szE_hiS l[j]
    rw [List.drop_eq_getElem_cons hlt, askL, askS_eq] at h3 h4
    simp only [List.length_append, List.foldl_append] at h3 h4
    have p1 := puts_len (preE k (aS l[j])) o
    have e1 := l4Exp_c k (aS l[j]) (by omega) o (by omega)
    generalize (preE k (aS l[j])).foldl putS o = o1 at h4 p1 e1
    have p2 := puts_len (preE k (eS l[j])) o1
    have e2 := l4Exp_c k (eS l[j]) (by omega) o1 (by omega)
    generalize (preE k (eS l[j])).foldl putS o1 = o2 at h4 p2 e2
    have p3 := puts_len (preE k (loS l[j])) o2
    have e3 := l4Exp_c k (loS l[j]) (by omega) o2 (by omega)
    generalize (preE k (loS l[j])).foldl putS o2 = o3 at h4 p3 e3
    have p4 := puts_len (preE k (hiS l[j])) o3
    have e4 := l4Exp_c k (hiS l[j]) (by omega) o3 (by omega)
    generalize (preE k (hiS l[j])).foldl putS o3 = o4 at h4 p4 e4
    have p5 := puts_len (askL k (bodyS l[j])) o4
    have e5 := ih l[j] (List.getElem_mem _) (by omega) o4 (by omega)
    generalize (askL k (bodyS l[j])).foldl putS o4 = o5 at h4 p5 e5
    repeat' (first
    | refine s_seq ?_ | refine s_block ?_ | refine s_reg ?_ | refine s_skip ?_ | refine s_ret ?_ | refine s_end ?_ | refine n_seq ?_ | refine n_blk ?_ | refine n_nil ?_ | refine s_exit ?_ | refine e_seq ?_ | refine e_lp ?_ | refine e_blk ?_ | refine e_blk' rfl ?_
    | (refine o_v hY (v_wr rfl ?_) rfl ?_; · omega) | refine o_v hY (v_pv rfl) rfl ?_ | refine g_y rfl rfl ?_ | refine g_n hY rfl rfl rfl ?_ | refine g_u hY rfl rfl rfl ?_ | (refine g_s rfl rfl ?_ ?_ <;> fail_if_success (intro h; cases h; done)) | refine c_t rfl ?_ | refine c_f rfl ?_ | refine c_s rfl ?_ ?_
    | (intro h; (try simp only [decide_eq_true_eq, decide_eq_false_iff_not, Bool.not_eq_true', Bool.not_eq_false', beq_iff_eq, bne_iff_ne, beq_eq_false_iff_ne, bne_eq_false_iff_eq, ne_eq, toListI] at h); (try simp only [toListC] at h))
    | refine o_a hY (a_box rfl rfl rfl ?_) | refine o_a hY (a_alz rfl rfl rfl rfl rfl ?_) | refine o_a hY (a_als rfl rfl rfl ?_) | refine o_a hY (a_st rfl rfl rfl (.d rfl) rfl rfl ?_)
    | refine r_of (r_d rfl ?_) | refine r_of (r_c rfl rfl ?_) | refine r_of (r_2 rfl rfl ?_) | refine r_of (r_4 rfl rfl rfl rfl ?_)
    | (refine o_v hY (v_ia j rfl rfl (.d rfl) rfl rfl (encSs_get l j ?_) (size_encS _)) rfl ?_; · omega)
    | refine o_v hY (v_ldp rfl rfl (sub_aS _)) rfl ?_ | refine o_v hY (v_ldp rfl rfl (sub_eS _)) rfl ?_ | refine o_v hY (v_ldp rfl rfl (sub_loS _)) rfl ?_ | refine o_v hY (v_ldp rfl rfl (sub_hiS _)) rfl ?_ | refine o_v hY (v_ldp rfl rfl (sub_body _)) rfl ?_
    | refine o_a hY (a_call e1 (.cons (.d rfl) (.cons (.d rfl) (.cons (.d rfl) .nil))) rfl ?_) | refine o_a hY (a_call e2 (.cons (.d rfl) (.cons (.d rfl) (.cons (.d rfl) .nil))) rfl ?_) | refine o_a hY (a_call e3 (.cons (.d rfl) (.cons (.d rfl) (.cons (.d rfl) .nil))) rfl ?_) | refine o_a hY (a_call e4 (.cons (.d rfl) (.cons (.d rfl) (.cons (.d rfl) .nil))) rfl ?_) | refine o_a hY (a_call e5 (.cons (.d rfl) (.cons (.d rfl) (.cons (.d rfl) .nil))) rfl ?_))
    · exact n_lp (l.length - (j+1)) ⟨j+1, o5, by omega, rfl, by omega, h4, rfl⟩ (by omega) (Wk.of ⟨rfl, rfl, rfl, rfl, trivial⟩ trivial rfl)
    · exact absurd h (by omega)
  · obtain rfl : j = l.length := by omega
    rw [List.drop_length] at h4
    repeat' (first
    | refine s_seq ?_ | refine s_block ?_ | refine s_reg ?_ | refine s_skip ?_ | refine s_ret ?_ | refine s_end ?_ | refine n_seq ?_ | refine n_blk ?_ | refine n_nil ?_ | refine s_exit ?_ | refine e_seq ?_ | refine e_lp ?_ | refine e_blk ?_ | refine e_blk' rfl ?_
    | (refine o_v hY (v_wr rfl ?_) rfl ?_; · omega) | refine o_v hY (v_pv rfl) rfl ?_ | refine g_y rfl rfl ?_ | refine g_n hY rfl rfl rfl ?_ | refine g_u hY rfl rfl rfl ?_ | (refine g_s rfl rfl ?_ ?_ <;> fail_if_success (intro h; cases h; done)) | refine c_t rfl ?_ | refine c_f rfl ?_ | refine c_s rfl ?_ ?_
    | (intro h; (try simp only [decide_eq_true_eq, decide_eq_false_iff_not, Bool.not_eq_true', Bool.not_eq_false', beq_iff_eq, bne_iff_ne, beq_eq_false_iff_ne, bne_eq_false_iff_eq, ne_eq, toListI] at h); (try simp only [toListC] at h))
    | refine o_a hY (a_box rfl rfl rfl ?_) | refine o_a hY (a_alz rfl rfl rfl rfl rfl ?_) | refine o_a hY (a_als rfl rfl rfl ?_) | refine o_a hY (a_st rfl rfl rfl (.d rfl) rfl rfl ?_)
    | refine r_of (r_d rfl ?_) | refine r_of (r_c rfl rfl ?_) | refine r_of (r_2 rfl rfl ?_) | refine r_of (r_4 rfl rfl rfl rfl ?_))
    · exact absurd h (by omega)
    · exact isR_sl (by rw [← h4]; rfl)
theorem specAsk_c (k : Int) (x : Sm) : CaskS k x := by
  refine Sm.ind (fun kk s a e lo hi b ih => ?_) x
  intro hz out hb
  have : b.length + sumS b ≤ szS (.mk kk s a e lo hi b) := szS_body (.mk kk s a e lo hi b)
  exact l4ExpsL_c k b ih (by omega) out hb
theorem l4Exps_c (k : Int) (l : List Sm) (hz : l.length + sumS l ≤ 1048576) (out : List ByteArray) (hb : out.length + (askL k l).length ≤ 8388608) : AC Tryz.prog 30 [.d (.sl (strs out)), .d (.sl (encSs l)), .d (.i .i64 k)] [] (isR (.d (.sl (strs ((askL k l).foldl putS out))))) :=
  l4ExpsL_c k l (fun x _ => specAsk_c k x) hz out hb
theorem specAsked_c (l : List Sm) (hz : l.length + sumS l ≤ 1048576) (hb : (askL 2 l).length ≤ 8388608) : AC Tryz.prog 32 [.d (.sl (encSs l))] [] (isR (.d (.sl (strs ((askL 2 l).foldl putS []))))) := by
  (refine AC_fn hY Tryz.func32 rfl Tryz.ntmps32 Tryz.results32 rfl (eq_true (by simp)) ?_; simp only [enumT])
  repeat' (first
    | refine s_seq ?_ | refine s_block ?_ | refine s_reg ?_ | refine s_skip ?_ | refine s_ret ?_ | refine s_end ?_ | refine n_seq ?_ | refine n_blk ?_ | refine n_nil ?_ | refine s_exit ?_ | refine e_seq ?_ | refine e_lp ?_ | refine e_blk ?_ | refine e_blk' rfl ?_
    | (refine o_v hY (v_wr rfl ?_) rfl ?_; · omega) | refine o_v hY (v_pv rfl) rfl ?_ | refine g_y rfl rfl ?_ | refine g_n hY rfl rfl rfl ?_ | refine g_u hY rfl rfl rfl ?_ | (refine g_s rfl rfl ?_ ?_ <;> fail_if_success (intro h; cases h; done)) | refine c_t rfl ?_ | refine c_f rfl ?_ | refine c_s rfl ?_ ?_
    | (intro h; (try simp only [decide_eq_true_eq, decide_eq_false_iff_not, Bool.not_eq_true', Bool.not_eq_false', beq_iff_eq, bne_iff_ne, beq_eq_false_iff_ne, bne_eq_false_iff_eq, ne_eq, toListI] at h); (try simp only [toListC] at h))
    | refine o_a hY (a_box rfl rfl rfl ?_) | refine o_a hY (a_alz rfl rfl rfl rfl rfl ?_) | refine o_a hY (a_als rfl rfl rfl ?_) | refine o_a hY (a_st rfl rfl rfl (.d rfl) rfl rfl ?_)
    | refine r_of (r_d rfl ?_) | refine r_of (r_c rfl rfl ?_) | refine r_of (r_2 rfl rfl ?_) | refine r_of (r_4 rfl rfl rfl rfl ?_)
    | refine o_a hY (a_sl rfl rfl .nil (by simp [allSz]) rfl rfl rfl rfl rfl rfl ?_)
    | refine o_a hY (a_call (l4Exps_c 2 l hz [] (by simpa using hb)) (.cons (.w rfl rfl rfl) (.cons (.d rfl) (.cons (.d rfl) .nil))) rfl ?_))
  exact isR_sl rfl

mutual
def nstS (names : List ByteArray) : Sm → Bool
  | .mk k s _ _ _ _ b => if k = 3 then !has names s && nstL (names ++ [s]) b else true
def nstL (names : List ByteArray) : List Sm → Bool
  | [] => true
  | x :: r => nstS names x && nstL names r
end
theorem nstS_eq (names : List ByteArray) (x : Sm) : nstS names x = if kS x = 3 then !has names (sS x) && nstL (names ++ [sS x]) (bodyS x) else true := by cases x; rfl
def CnstS (x : Sm) : Prop := ∀ names : List ByteArray, names.length + szS x ≤ 2097152 → AC Tryz.prog 33 [.d (.sl (encSs (bodyS x))), .d (.sl (strs names))] [] (isR (.d (.b (nstL names (bodyS x)))))
set_option maxHeartbeats 8000000 in
theorem l4NestL_c (l : List Sm) (ih : ∀ x ∈ l, CnstS x) (names : List ByteArray) (hz : names.length + (l.length + sumS l) ≤ 2097152) : AC Tryz.prog 33 [.d (.sl (encSs l)), .d (.sl (strs names))] [] (isR (.d (.b (nstL names l)))) := by
  have hlen := encSs_len l
  generalize hr : nstL names l = res
  (refine AC_fn hY Tryz.func33 rfl Tryz.ntmps33 Tryz.results33 rfl (eq_true (by simp)) ?_; simp only [enumT])
  repeat' (first
    | refine s_seq ?_ | refine s_block ?_ | refine s_reg ?_ | refine s_skip ?_ | refine s_ret ?_ | refine s_end ?_ | refine n_seq ?_ | refine n_blk ?_ | refine n_nil ?_ | refine s_exit ?_ | refine e_seq ?_ | refine e_lp ?_ | refine e_blk ?_ | refine e_blk' rfl ?_
    | (refine o_v hY (v_wr rfl ?_) rfl ?_; · omega) | refine o_v hY (v_pv rfl) rfl ?_ | refine g_y rfl rfl ?_ | refine g_n hY rfl rfl rfl ?_ | refine g_u hY rfl rfl rfl ?_ | (refine g_s rfl rfl ?_ ?_ <;> fail_if_success (intro h; cases h; done)) | refine c_t rfl ?_ | refine c_f rfl ?_ | refine c_s rfl ?_ ?_
    | (intro h; (try simp only [decide_eq_true_eq, decide_eq_false_iff_not, Bool.not_eq_true', Bool.not_eq_false', beq_iff_eq, bne_iff_ne, beq_eq_false_iff_ne, bne_eq_false_iff_eq, ne_eq, toListI] at h); (try simp only [toListC] at h))
    | refine o_a hY (a_box rfl rfl rfl ?_) | refine o_a hY (a_alz rfl rfl rfl rfl rfl ?_) | refine o_a hY (a_als rfl rfl rfl ?_) | refine o_a hY (a_st rfl rfl rfl (.d rfl) rfl rfl ?_)
    | refine r_of (r_d rfl ?_) | refine r_of (r_c rfl rfl ?_) | refine r_of (r_2 rfl rfl ?_) | refine r_of (r_4 rfl rfl rfl rfl ?_))
  refine s_loop (fun m τ => ∃ (j : Nat), j ≤ l.length ∧ m = l.length - j ∧ nstL names (l.drop j) = res ∧ τ = ⟨[(0, .d (.sl (encSs l))), (1, .d (.sl (strs names))), (5, .d (.i .i64 (j : Int)))], [], []⟩) l.length ⟨0, Nat.zero_le _, rfl, hr, rfl⟩ (Wk.of ⟨rfl, rfl, rfl, trivial⟩ trivial rfl) ?_
  rintro m τ ⟨j, hj, rfl, h4, rfl⟩
  by_cases hlt : j < l.length
  · have hs := sumS_mem l l[j] (List.getElem_mem _)
    rw [List.drop_eq_getElem_cons hlt, nstL, nstS_eq] at h4
    repeat' (first
    | refine s_seq ?_ | refine s_block ?_ | refine s_reg ?_ | refine s_skip ?_ | refine s_ret ?_ | refine s_end ?_ | refine n_seq ?_ | refine n_blk ?_ | refine n_nil ?_ | refine s_exit ?_ | refine e_seq ?_ | refine e_lp ?_ | refine e_blk ?_ | refine e_blk' rfl ?_
    | (refine o_v hY (v_wr rfl ?_) rfl ?_; · omega) | refine o_v hY (v_pv rfl) rfl ?_ | refine g_y rfl rfl ?_ | refine g_n hY rfl rfl rfl ?_ | refine g_u hY rfl rfl rfl ?_ | (refine g_s rfl rfl ?_ ?_ <;> fail_if_success (intro h; cases h; done)) | refine c_t rfl ?_ | refine c_f rfl ?_ | refine c_s rfl ?_ ?_
    | (intro h; (try simp only [decide_eq_true_eq, decide_eq_false_iff_not, Bool.not_eq_true', Bool.not_eq_false', beq_iff_eq, bne_iff_ne, beq_eq_false_iff_ne, bne_eq_false_iff_eq, ne_eq, toListI] at h); (try simp only [toListC] at h))
    | refine o_a hY (a_box rfl rfl rfl ?_) | refine o_a hY (a_alz rfl rfl rfl rfl rfl ?_) | refine o_a hY (a_als rfl rfl rfl ?_) | refine o_a hY (a_st rfl rfl rfl (.d rfl) rfl rfl ?_)
    | refine r_of (r_d rfl ?_) | refine r_of (r_c rfl rfl ?_) | refine r_of (r_2 rfl rfl ?_) | refine r_of (r_4 rfl rfl rfl rfl ?_)
    | (refine o_v hY (v_ia j rfl rfl (.d rfl) rfl rfl (encSs_get l j ?_) (size_encS _)) rfl ?_; · omega)
    | refine o_v hY (v_ldp rfl rfl (sub_kS _)) rfl ?_)
    · refine n_lp (l.length - (j+1)) ⟨j+1, by omega, rfl, ?_, rfl⟩ (by omega) (Wk.of ⟨rfl, rfl, rfl, trivial⟩ trivial rfl)
      rw [if_neg h] at h4
      simpa using h4
    · rw [if_pos h] at h4
      have e1 := l2Has_c names (sS l[j]) (by omega)
      have e2 := ih l[j] (List.getElem_mem _) (names ++ [sS l[j]]) (by simp; omega)
      refine p_start (by kernel_rfl) [] (.tk 0 (.tk 1 (.tk 2 (.tk 3 (.tk 4 (.tk 5 (.one 6 (.tk 7 (.tk 8 (.tk 9 (.tk 10 (.tk 11 (.tk 12 (.tk 14 (.tk 16 (.tk 17 (.tk 18 (.tk 19 (.tk 20 (.two 13 21 (.two 15 21 (.one 21 (.one 22 (.one 23 (.tk 24 (.tk 25 .done))))) (.one 15 (.one 22 (.one 23 (.tk 24 (.tk 25 .done)))))) (.one 13 (.one 15 (.one 22 (.one 23 (.tk 24 (.tk 25 .done)))))))))))))))))))))))))) (by kernel_rfl) ?_
      repeat' (first
    | refine s_seq ?_ | refine s_block ?_ | refine s_reg ?_ | refine s_skip ?_ | refine s_ret ?_ | refine s_end ?_ | refine n_seq ?_ | refine n_blk ?_ | refine n_nil ?_ | refine s_exit ?_ | refine e_seq ?_ | refine e_lp ?_ | refine e_blk ?_ | refine e_blk' rfl ?_
    | (refine o_v hY (v_wr rfl ?_) rfl ?_; · omega) | refine o_v hY (v_pv rfl) rfl ?_ | refine g_y rfl rfl ?_ | refine g_n hY rfl rfl rfl ?_ | refine g_u hY rfl rfl rfl ?_ | (refine g_s rfl rfl ?_ ?_ <;> fail_if_success (intro h; cases h; done)) | refine c_t rfl ?_ | refine c_f rfl ?_ | refine c_s rfl ?_ ?_
    | (intro h; (try simp only [decide_eq_true_eq, decide_eq_false_iff_not, Bool.not_eq_true', Bool.not_eq_false', beq_iff_eq, bne_iff_ne, beq_eq_false_iff_ne, bne_eq_false_iff_eq, ne_eq, toListI] at h); (try simp only [toListC] at h))
    | refine o_a hY (a_box rfl rfl rfl ?_) | refine o_a hY (a_alz rfl rfl rfl rfl rfl ?_) | refine o_a hY (a_als rfl rfl rfl ?_) | refine o_a hY (a_st rfl rfl rfl (.d rfl) rfl rfl ?_)
    | refine r_of (r_d rfl ?_) | refine r_of (r_c rfl rfl ?_) | refine r_of (r_2 rfl rfl ?_) | refine r_of (r_4 rfl rfl rfl rfl ?_)
    | refine p_tk hY rfl rfl (v_pv rfl) rfl noPan_ret ?_ | refine p_tkg hY rfl rfl rfl rfl (v_pv rfl) rfl noPan_ret ?_ | refine p_tkn hY rfl rfl rfl (.inl rfl) rfl noPan_ret ?_ | refine p_tkn hY rfl rfl rfl (.inr rfl) rfl noPan_ret ?_ | refine p_done ?_ | refine p_one hY rfl (x_s rfl (.inl rfl) rfl ?_) | refine p_one hY rfl (x_s rfl (.inr rfl) rfl ?_) | refine p_two hY rfl rfl (x_s rfl (.inl rfl) rfl ?_) (x_s rfl (.inl rfl) rfl ?_) | (refine p_sg rfl rfl rfl rfl ?_ ?_ <;> fail_if_success (intro h; cases h; done)) | (refine p_so rfl rfl rfl rfl ?_ ?_ <;> fail_if_success (intro h; cases h; done))
    | (refine p_tk hY rfl rfl (v_ia j rfl rfl (.d rfl) rfl rfl (encSs_get l j ?_) (size_encS _)) rfl noPan_ret ?_; · omega)
    | (refine p_tkg hY rfl rfl rfl rfl (v_ia j rfl rfl (.d rfl) rfl rfl (encSs_get l j ?_) (size_encS _)) rfl noPan_ret ?_; · omega)
    | refine p_tk hY rfl rfl (v_ldp rfl rfl (sub_sS _)) rfl noPan_ret ?_ | refine p_tkg hY rfl rfl rfl rfl (v_ldp rfl rfl (sub_sS _)) rfl noPan_ret ?_ | refine p_tkg hY rfl rfl rfl rfl (v_ldp rfl rfl (sub_body _)) rfl noPan_ret ?_
    | refine p_one hY rfl (x_n rfl ?_) | refine p_one hY rfl (x_y rfl rfl rfl rfl ?_) | refine p_two hY rfl rfl (x_y rfl rfl rfl rfl ?_) (x_y rfl rfl rfl rfl ?_)
    | refine a_call e1 (.cons (.d rfl) (.cons (.d rfl) .nil)) rfl ?_
    | refine a_sl rfl rfl .nil (by simp [allSz]) rfl rfl rfl rfl rfl rfl ?_
    | refine a_sl rfl rfl (.cons (.d rfl) .nil) (by simp [allSz, D.size]) rfl rfl rfl rfl rfl rfl ?_
    | (refine a_ap' (strs_one _ _) rfl rfl rfl rfl (.w rfl rfl rfl) rfl (by simp [allSz, D.size]) rfl rfl rfl ?_ ?_
       · (simp only [strs_len, List.length_append, List.length_cons, List.length_nil]; omega))
    | (refine a_ap' (List.nil_append (strs names)) rfl rfl rfl rfl (.d rfl) rfl (strs_sz _) rfl rfl rfl ?_ ?_
       · (simp only [strs_len]; omega))
    | refine a_call e2 (.cons (.d rfl) (.cons (.w rfl rfl rfl) .nil)) rfl ?_)
      all_goals first
        | exact isR_b (by rw [← h4]; simp [*])
        | (refine n_lp (l.length - (j+1)) ⟨j+1, by omega, rfl, ?_, rfl⟩ (by omega) (Wk.of ⟨rfl, rfl, rfl, trivial⟩ trivial rfl)
           rw [← h4]
           simp [*])
    · exact absurd h (by omega)
  · obtain rfl : j = l.length := by omega
    rw [List.drop_length] at h4
    repeat' (first
    | refine s_seq ?_ | refine s_block ?_ | refine s_reg ?_ | refine s_skip ?_ | refine s_ret ?_ | refine s_end ?_ | refine n_seq ?_ | refine n_blk ?_ | refine n_nil ?_ | refine s_exit ?_ | refine e_seq ?_ | refine e_lp ?_ | refine e_blk ?_ | refine e_blk' rfl ?_
    | (refine o_v hY (v_wr rfl ?_) rfl ?_; · omega) | refine o_v hY (v_pv rfl) rfl ?_ | refine g_y rfl rfl ?_ | refine g_n hY rfl rfl rfl ?_ | refine g_u hY rfl rfl rfl ?_ | (refine g_s rfl rfl ?_ ?_ <;> fail_if_success (intro h; cases h; done)) | refine c_t rfl ?_ | refine c_f rfl ?_ | refine c_s rfl ?_ ?_
    | (intro h; (try simp only [decide_eq_true_eq, decide_eq_false_iff_not, Bool.not_eq_true', Bool.not_eq_false', beq_iff_eq, bne_iff_ne, beq_eq_false_iff_ne, bne_eq_false_iff_eq, ne_eq, toListI] at h); (try simp only [toListC] at h))
    | refine o_a hY (a_box rfl rfl rfl ?_) | refine o_a hY (a_alz rfl rfl rfl rfl rfl ?_) | refine o_a hY (a_als rfl rfl rfl ?_) | refine o_a hY (a_st rfl rfl rfl (.d rfl) rfl rfl ?_)
    | refine r_of (r_d rfl ?_) | refine r_of (r_c rfl rfl ?_) | refine r_of (r_2 rfl rfl ?_) | refine r_of (r_4 rfl rfl rfl rfl ?_))
    · exact absurd h (by omega)
    · exact isR_b (by rw [← h4]; rfl)
theorem specNest_c (x : Sm) : CnstS x := by
  refine Sm.ind (fun kk s a e lo hi b ih => ?_) x
  intro names hz
  have : b.length + sumS b ≤ szS (.mk kk s a e lo hi b) := szS_body (.mk kk s a e lo hi b)
  exact l4NestL_c b ih names (by omega)
theorem l4Nest_c (l : List Sm) (names : List ByteArray) (hz : names.length + (l.length + sumS l) ≤ 2097152) : AC Tryz.prog 33 [.d (.sl (encSs l)), .d (.sl (strs names))] [] (isR (.d (.b (nstL names l)))) :=
  l4NestL_c l (fun x _ => specNest_c x) names hz
end Go.Proofs.YtmmdgciefehbcaaGreatDoor.Ax
