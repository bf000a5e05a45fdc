/- Contracts of functions that the claim reaches, over data without addresses, and what follows of them (text Q6). No conditions beside those that each theorem names. -/
import Derived.Test.YtmmdgciefehbcaaGreatDoorQ3
import Derived.Test.YtmmdgciefehbcaaGreatDoorQ5
set_option linter.unusedVariables false
set_option linter.unusedSimpArgs false
namespace Go.Proofs.YtmmdgciefehbcaaGreatDoor.Ax
def Cl (l : List Sm) : Prop := ∀ (d : Int) (pad : ByteArray), 0 ≤ d → d ≤ 3 → rgtL d l = true → nodL l ≤ 40 → (pad.size : Int) ≤ 2 * d → AC Go.Proofs.Tryz.prog 13 [.d (.sl (encSs l)), .d (.s pad)] [] (isR (.d (.s (txL pad l))))
set_option maxHeartbeats 16000000 in
theorem specBody_l (l : List Sm) (ih : ∀ x ∈ l, Cl (bdy x)) : Cl l := by
  intro d pad hd0 hd3 hr hn hp
  have hlen := encSs_len l
  have hll := len_nodL l
  (refine AC_fn hY Tryz.func13 rfl Tryz.ntmps13 Tryz.results13 rfl (eq_true (by simp)) ?_; simp only [enumT])
  repeat' (first
    | refine s_seq ?_ | refine s_block ?_ | refine s_reg ?_ | refine s_skip ?_ | refine s_ret ?_ | refine s_end ?_ | refine n_seq ?_ | refine n_blk ?_ | refine n_nil ?_ | refine s_exit ?_ | refine e_seq ?_ | refine e_lp ?_ | refine e_blk ?_ | refine e_blk' rfl ?_
    | (refine o_v hY (v_wr rfl ?_) rfl ?_; · omega) | refine o_v hY (v_pv rfl) rfl ?_ | refine g_y rfl rfl ?_ | refine g_n hY rfl rfl rfl ?_ | refine g_u hY rfl rfl rfl ?_ | (refine g_s rfl rfl ?_ ?_ <;> fail_if_success (intro h; cases h; done)) | refine c_t rfl ?_ | refine c_f rfl ?_ | refine c_s rfl ?_ ?_
    | (intro h; (try simp only [decide_eq_true_eq, decide_eq_false_iff_not, Bool.not_eq_true', Bool.not_eq_false', beq_iff_eq, bne_iff_ne, beq_eq_false_iff_ne, bne_eq_false_iff_eq, ne_eq, toListI] at h); (try simp only [toListC] at h))
    | refine o_a hY (a_box rfl rfl rfl ?_) | refine o_a hY (a_alz rfl rfl rfl rfl rfl ?_) | refine o_a hY (a_als rfl rfl rfl ?_) | refine o_a hY (a_st rfl rfl rfl (.d rfl) rfl rfl ?_)
    | refine r_of (r_d rfl ?_) | refine r_of (r_c rfl rfl ?_) | refine r_of (r_2 rfl rfl ?_) | refine r_of (r_4 rfl rfl rfl rfl ?_))
  refine s_loop (fun m τ => ∃ (j : Nat) (out : ByteArray), j ≤ l.length ∧ m = l.length - j ∧ out = txL pad (l.take j) ∧ τ = ⟨[(0, .d (.sl (encSs l))), (1, .d (.s pad)), (5, .d (.s out)), (6, .d (.i .i64 (j : Int)))], [], []⟩) l.length ⟨0, _, Nat.zero_le _, rfl, by simp only [List.take_zero, txL], rfl⟩ (Wk.of ⟨rfl, rfl, rfl, rfl, trivial⟩ trivial rfl) ?_
  rintro m τ ⟨j, out, hj, rfl, hout, rfl⟩
  have hos : out.size ≤ 400000 := by
    have h1 := txL_size (l.take j) d pad hd0 hd3 (rgtL_take l j hr) hp
    have h2 := nodL_tk l j
    rw [← hout] at h1
    omega
  by_cases hlt : j < l.length
  · have hm := List.getElem_mem hlt
    have hx := rgtL_mem hr _ hm
    have hnx := nodL_mem hm
    have ihx := ih _ hm
    have hget := encSs_get l j hlt
    have hnext := txL_one pad l j hlt
    rw [← hout] at hnext
    have hsz := size_encS l[j]
    have hsub := sub_encS l[j]
    have hset := set_S l[j]
    obtain ⟨k, s, a, e, lo, hi, b, hq, he, hb⟩ := sm_mk l[j]
    rw [hb] at ihx
    rw [he] at hget hsz hsub hset
    rw [hq] at hx hnx hnext
    simp only [nodS] at hnx
    obtain ⟨h2, h3, h4⟩ := rgt_parts hx
    obtain ⟨k1, k2, k3, k4, k5⟩ := here_S h2
    rcases k1 with rfl | rfl | rfl | rfl
    · obtain ⟨o1, p1⟩ := okE_sz (k3 (by omega))
      have q1 := tx_size e o1
      have E1 := specExp_c e o1 (by omega)
      repeat' (first
    | refine s_seq ?_ | refine s_block ?_ | refine s_reg ?_ | refine s_skip ?_ | refine s_ret ?_ | refine s_end ?_ | refine n_seq ?_ | refine n_blk ?_ | refine n_nil ?_ | refine s_exit ?_ | refine e_seq ?_ | refine e_lp ?_ | refine e_blk ?_ | refine e_blk' rfl ?_
    | (refine o_v hY (v_wr rfl ?_) rfl ?_; · omega) | refine o_v hY (v_pv rfl) rfl ?_ | refine g_y rfl rfl ?_ | refine g_n hY rfl rfl rfl ?_ | refine g_u hY rfl rfl rfl ?_ | (refine g_s rfl rfl ?_ ?_ <;> fail_if_success (intro h; cases h; done)) | refine c_t rfl ?_ | refine c_f rfl ?_ | refine c_s rfl ?_ ?_
    | (intro h; (try simp only [decide_eq_true_eq, decide_eq_false_iff_not, Bool.not_eq_true', Bool.not_eq_false', beq_iff_eq, bne_iff_ne, beq_eq_false_iff_ne, bne_eq_false_iff_eq, ne_eq, toListI] at h); (try simp only [toListC] at h))
    | refine o_a hY (a_box rfl rfl rfl ?_) | refine o_a hY (a_alz rfl rfl rfl rfl rfl ?_) | refine o_a hY (a_als rfl rfl rfl ?_) | refine o_a hY (a_st rfl rfl rfl (.d rfl) rfl rfl ?_)
    | refine r_of (r_d rfl ?_) | refine r_of (r_c rfl rfl ?_) | refine r_of (r_2 rfl rfl ?_) | refine r_of (r_4 rfl rfl rfl rfl ?_)
    | refine p_tk hY rfl rfl (v_pv rfl) rfl noPan_ret ?_ | refine p_tkg hY rfl rfl rfl rfl (v_pv rfl) rfl noPan_ret ?_ | refine p_tkn hY rfl rfl rfl (.inl rfl) rfl noPan_ret ?_ | refine p_tkn hY rfl rfl rfl (.inr rfl) rfl noPan_ret ?_ | refine p_done ?_ | refine p_one hY rfl (x_s rfl (.inl rfl) rfl ?_) | refine p_one hY rfl (x_s rfl (.inr rfl) rfl ?_) | refine p_two hY rfl rfl (x_s rfl (.inl rfl) rfl ?_) (x_s rfl (.inl rfl) rfl ?_) | (refine p_sg rfl rfl rfl rfl ?_ ?_ <;> fail_if_success (intro h; cases h; done)) | (refine p_so rfl rfl rfl rfl ?_ ?_ <;> fail_if_success (intro h; cases h; done))
    | refine p_start (id := 9) (by kernel_rfl) [] (.tk 0 (.tk 1 (.tk 2 (.tk 3 (.tk 4 (.tk 5 (.tk 6 (.tk 7 (.tk 8 (.one 9 (.tk 10 (.tk 11 (.tk 12 .done))))))))))))) (by kernel_rfl) ?_
    | refine o_v hY (v_ia j rfl rfl (.d rfl) rfl rfl hget hsz) rfl ?_ | refine o_v hY (v_ldp rfl rfl hsub) rfl ?_ | refine o_a hY (a_st rfl rfl rfl (.d rfl) hset hsz ?_)
    | refine p_tk hY rfl rfl (v_ldb rfl rfl rfl sub_S3) rfl noPan_ret ?_
    | (refine p_tk hY rfl rfl (v_cat rfl rfl ?_) rfl noPan_ret ?_
       · ((try simp only [ByteArray.size_append, szl, List.size_toArray, List.length_cons, List.length_nil]); omega))
    | refine p_one hY rfl (x_n rfl ?_) | refine a_call E1 (.cons (.d rfl) .nil) rfl ?_)
      · have hcat : out ++ pad ++ s ++ (⟨#[32, 61, 32]⟩ : ByteArray) ++ txE e ++ (⟨#[59, 10]⟩ : ByteArray) = txL pad (l.take (j + 1)) := by
          rw [hnext]
          simp only [txS, lineS, lEq, lNl, show ¬ (1 : Int) = 2 by omega, show ¬ (1 : Int) = 3 by omega, if_true, if_false, ByteArray.append_assoc]
        rw [hcat]
        exact n_lp (l.length - (j+1)) ⟨j+1, txL pad (l.take (j + 1)), by omega, rfl, rfl, rfl⟩ (by omega) (Wk.of ⟨rfl, rfl, rfl, rfl, trivial⟩ trivial rfl)
      · rw [hlen] at h; exact absurd (Int.ofNat_lt.2 hlt) h
    · obtain ⟨o1, p1⟩ := okE_sz (k2 rfl)
      have q1 := tx_size a o1
      have E1 := specExp_c a o1 (by omega)
      obtain ⟨o2, p2⟩ := okE_sz (k3 (by omega))
      have q2 := tx_size e o2
      have E2 := specExp_c e o2 (by omega)
      repeat' (first
    | refine s_seq ?_ | refine s_block ?_ | refine s_reg ?_ | refine s_skip ?_ | refine s_ret ?_ | refine s_end ?_ | refine n_seq ?_ | refine n_blk ?_ | refine n_nil ?_ | refine s_exit ?_ | refine e_seq ?_ | refine e_lp ?_ | refine e_blk ?_ | refine e_blk' rfl ?_
    | (refine o_v hY (v_wr rfl ?_) rfl ?_; · omega) | refine o_v hY (v_pv rfl) rfl ?_ | refine g_y rfl rfl ?_ | refine g_n hY rfl rfl rfl ?_ | refine g_u hY rfl rfl rfl ?_ | (refine g_s rfl rfl ?_ ?_ <;> fail_if_success (intro h; cases h; done)) | refine c_t rfl ?_ | refine c_f rfl ?_ | refine c_s rfl ?_ ?_
    | (intro h; (try simp only [decide_eq_true_eq, decide_eq_false_iff_not, Bool.not_eq_true', Bool.not_eq_false', beq_iff_eq, bne_iff_ne, beq_eq_false_iff_ne, bne_eq_false_iff_eq, ne_eq, toListI] at h); (try simp only [toListC] at h))
    | refine o_a hY (a_box rfl rfl rfl ?_) | refine o_a hY (a_alz rfl rfl rfl rfl rfl ?_) | refine o_a hY (a_als rfl rfl rfl ?_) | refine o_a hY (a_st rfl rfl rfl (.d rfl) rfl rfl ?_)
    | refine r_of (r_d rfl ?_) | refine r_of (r_c rfl rfl ?_) | refine r_of (r_2 rfl rfl ?_) | refine r_of (r_4 rfl rfl rfl rfl ?_)
    | refine p_tk hY rfl rfl (v_pv rfl) rfl noPan_ret ?_ | refine p_tkg hY rfl rfl rfl rfl (v_pv rfl) rfl noPan_ret ?_ | refine p_tkn hY rfl rfl rfl (.inl rfl) rfl noPan_ret ?_ | refine p_tkn hY rfl rfl rfl (.inr rfl) rfl noPan_ret ?_ | refine p_done ?_ | refine p_one hY rfl (x_s rfl (.inl rfl) rfl ?_) | refine p_one hY rfl (x_s rfl (.inr rfl) rfl ?_) | refine p_two hY rfl rfl (x_s rfl (.inl rfl) rfl ?_) (x_s rfl (.inl rfl) rfl ?_) | (refine p_sg rfl rfl rfl rfl ?_ ?_ <;> fail_if_success (intro h; cases h; done)) | (refine p_so rfl rfl rfl rfl ?_ ?_ <;> fail_if_success (intro h; cases h; done))
    | refine p_start (id := 11) (by kernel_rfl) [] (.tk 0 (.tk 1 (.tk 2 (.tk 3 (.tk 4 (.tk 5 (.tk 6 (.tk 7 (.tk 8 (.tk 12 (.tk 13 (.one 9 (.tk 10 (.tk 11 (.one 14 (.tk 15 (.tk 16 (.tk 17 .done)))))))))))))))))) (by kernel_rfl) ?_
    | refine o_v hY (v_ia j rfl rfl (.d rfl) rfl rfl hget hsz) rfl ?_ | refine o_v hY (v_ldp rfl rfl hsub) rfl ?_ | refine o_a hY (a_st rfl rfl rfl (.d rfl) hset hsz ?_)
    | refine p_tk hY rfl rfl (v_ldb rfl rfl rfl sub_S2) rfl noPan_ret ?_ | refine p_tk hY rfl rfl (v_ldb rfl rfl rfl sub_S3) rfl noPan_ret ?_
    | (refine p_tk hY rfl rfl (v_cat rfl rfl ?_) rfl noPan_ret ?_
       · ((try simp only [ByteArray.size_append, szl, List.size_toArray, List.length_cons, List.length_nil]); omega))
    | refine p_one hY rfl (x_n rfl ?_) | refine a_call E1 (.cons (.d rfl) .nil) rfl ?_ | refine a_call E2 (.cons (.d rfl) .nil) rfl ?_)
      · have hcat : out ++ pad ++ s ++ (⟨#[91]⟩ : ByteArray) ++ txE a ++ (⟨#[93, 32, 61, 32]⟩ : ByteArray) ++ txE e ++ (⟨#[59, 10]⟩ : ByteArray) = txL pad (l.take (j + 1)) := by
          rw [hnext]
          simp only [txS, lineS, lEq, lNl, show ¬ (2 : Int) = 1 by omega, show ¬ (2 : Int) = 3 by omega, if_true, if_false, ByteArray.append_assoc]
        rw [hcat]
        exact n_lp (l.length - (j+1)) ⟨j+1, txL pad (l.take (j + 1)), by omega, rfl, rfl, rfl⟩ (by omega) (Wk.of ⟨rfl, rfl, rfl, rfl, trivial⟩ trivial rfl)
      · rw [hlen] at h; exact absurd (Int.ofNat_lt.2 hlt) h
    · obtain ⟨o1, p1⟩ := okE_sz ((k4 rfl).1)
      have q1 := tx_size lo o1
      have E1 := specExp_c lo o1 (by omega)
      obtain ⟨o2, p2⟩ := okE_sz ((k4 rfl).2)
      have q2 := tx_size hi o2
      have E2 := specExp_c hi o2 (by omega)
      obtain ⟨g1, g2⟩ := h3 rfl
      have B := ihx (d + 1) (pad ++ ⟨#[32, 32]⟩) (by omega) (by omega) g2 (by omega) (by simp only [ByteArray.size_append, szl, List.size_toArray, List.length_cons, List.length_nil]; omega)
      have q3 := txL_size b (d + 1) (pad ++ ⟨#[32, 32]⟩) (by omega) (by omega) g2 (by simp only [ByteArray.size_append, szl, List.size_toArray, List.length_cons, List.length_nil]; omega)
      repeat' (first
    | refine s_seq ?_ | refine s_block ?_ | refine s_reg ?_ | refine s_skip ?_ | refine s_ret ?_ | refine s_end ?_ | refine n_seq ?_ | refine n_blk ?_ | refine n_nil ?_ | refine s_exit ?_ | refine e_seq ?_ | refine e_lp ?_ | refine e_blk ?_ | refine e_blk' rfl ?_
    | (refine o_v hY (v_wr rfl ?_) rfl ?_; · omega) | refine o_v hY (v_pv rfl) rfl ?_ | refine g_y rfl rfl ?_ | refine g_n hY rfl rfl rfl ?_ | refine g_u hY rfl rfl rfl ?_ | (refine g_s rfl rfl ?_ ?_ <;> fail_if_success (intro h; cases h; done)) | refine c_t rfl ?_ | refine c_f rfl ?_ | refine c_s rfl ?_ ?_
    | (intro h; (try simp only [decide_eq_true_eq, decide_eq_false_iff_not, Bool.not_eq_true', Bool.not_eq_false', beq_iff_eq, bne_iff_ne, beq_eq_false_iff_ne, bne_eq_false_iff_eq, ne_eq, toListI] at h); (try simp only [toListC] at h))
    | refine o_a hY (a_box rfl rfl rfl ?_) | refine o_a hY (a_alz rfl rfl rfl rfl rfl ?_) | refine o_a hY (a_als rfl rfl rfl ?_) | refine o_a hY (a_st rfl rfl rfl (.d rfl) rfl rfl ?_)
    | refine r_of (r_d rfl ?_) | refine r_of (r_c rfl rfl ?_) | refine r_of (r_2 rfl rfl ?_) | refine r_of (r_4 rfl rfl rfl rfl ?_)
    | refine p_tk hY rfl rfl (v_pv rfl) rfl noPan_ret ?_ | refine p_tkg hY rfl rfl rfl rfl (v_pv rfl) rfl noPan_ret ?_ | refine p_tkn hY rfl rfl rfl (.inl rfl) rfl noPan_ret ?_ | refine p_tkn hY rfl rfl rfl (.inr rfl) rfl noPan_ret ?_ | refine p_done ?_ | refine p_one hY rfl (x_s rfl (.inl rfl) rfl ?_) | refine p_one hY rfl (x_s rfl (.inr rfl) rfl ?_) | refine p_two hY rfl rfl (x_s rfl (.inl rfl) rfl ?_) (x_s rfl (.inl rfl) rfl ?_) | (refine p_sg rfl rfl rfl rfl ?_ ?_ <;> fail_if_success (intro h; cases h; done)) | (refine p_so rfl rfl rfl rfl ?_ ?_ <;> fail_if_success (intro h; cases h; done))
    | refine p_start (id := 13) (by kernel_rfl) [] (.tk 0 (.tk 1 (.tk 2 (.tk 3 (.tk 4 (.tk 5 (.tk 6 (.tk 7 (.tk 8 (.tk 9 (.tk 13 (.tk 14 (.tk 18 (.tk 19 (.tk 20 (.tk 21 (.tk 24 (.one 10 (.tk 11 (.tk 12 (.one 15 (.tk 16 (.tk 17 (.one 22 (.tk 23 (.tk 25 (.tk 26 (.tk 27 .done)))))))))))))))))))))))))))) (by kernel_rfl) ?_
    | refine o_v hY (v_ia j rfl rfl (.d rfl) rfl rfl hget hsz) rfl ?_ | refine o_v hY (v_ldp rfl rfl hsub) rfl ?_ | refine o_a hY (a_st rfl rfl rfl (.d rfl) hset hsz ?_)
    | refine p_tk hY rfl rfl (v_ldb rfl rfl rfl sub_S4) rfl noPan_ret ?_ | refine p_tk hY rfl rfl (v_ldb rfl rfl rfl sub_S5) rfl noPan_ret ?_ | refine p_tk hY rfl rfl (v_ldb rfl rfl rfl sub_S6) rfl noPan_ret ?_
    | (refine p_tk hY rfl rfl (v_cat rfl rfl ?_) rfl noPan_ret ?_
       · ((try simp only [ByteArray.size_append, szl, List.size_toArray, List.length_cons, List.length_nil]); omega))
    | refine p_one hY rfl (x_n rfl ?_) | refine a_call E1 (.cons (.d rfl) .nil) rfl ?_ | refine a_call E2 (.cons (.d rfl) .nil) rfl ?_ | refine a_call B (.cons (.d rfl) (.cons (.d rfl) .nil)) rfl ?_)
      · have hcat : out ++ pad ++ (⟨#[102, 111, 114, 32]⟩ : ByteArray) ++ s ++ (⟨#[32, 61, 32]⟩ : ByteArray) ++ txE lo ++ (⟨#[32, 116, 111, 32]⟩ : ByteArray) ++ txE hi ++ (⟨#[32, 123, 10]⟩ : ByteArray) ++ txL (pad ++ (⟨#[32, 32]⟩ : ByteArray)) b ++ pad ++ (⟨#[125, 10]⟩ : ByteArray) = txL pad (l.take (j + 1)) := by
          rw [hnext]
          simp only [txS, lineS, lEq, lNl, show ¬ (3 : Int) = 1 by omega, show ¬ (3 : Int) = 2 by omega, if_true, if_false, ByteArray.append_assoc]
        rw [hcat]
        exact n_lp (l.length - (j+1)) ⟨j+1, txL pad (l.take (j + 1)), by omega, rfl, rfl, rfl⟩ (by omega) (Wk.of ⟨rfl, rfl, rfl, rfl, trivial⟩ trivial rfl)
      · rw [hlen] at h; exact absurd (Int.ofNat_lt.2 hlt) h
    · obtain ⟨o1, p1⟩ := okE_sz (k3 (by omega))
      have q1 := tx_size e o1
      have E1 := specExp_c e o1 (by omega)
      repeat' (first
    | refine s_seq ?_ | refine s_block ?_ | refine s_reg ?_ | refine s_skip ?_ | refine s_ret ?_ | refine s_end ?_ | refine n_seq ?_ | refine n_blk ?_ | refine n_nil ?_ | refine s_exit ?_ | refine e_seq ?_ | refine e_lp ?_ | refine e_blk ?_ | refine e_blk' rfl ?_
    | (refine o_v hY (v_wr rfl ?_) rfl ?_; · omega) | refine o_v hY (v_pv rfl) rfl ?_ | refine g_y rfl rfl ?_ | refine g_n hY rfl rfl rfl ?_ | refine g_u hY rfl rfl rfl ?_ | (refine g_s rfl rfl ?_ ?_ <;> fail_if_success (intro h; cases h; done)) | refine c_t rfl ?_ | refine c_f rfl ?_ | refine c_s rfl ?_ ?_
    | (intro h; (try simp only [decide_eq_true_eq, decide_eq_false_iff_not, Bool.not_eq_true', Bool.not_eq_false', beq_iff_eq, bne_iff_ne, beq_eq_false_iff_ne, bne_eq_false_iff_eq, ne_eq, toListI] at h); (try simp only [toListC] at h))
    | refine o_a hY (a_box rfl rfl rfl ?_) | refine o_a hY (a_alz rfl rfl rfl rfl rfl ?_) | refine o_a hY (a_als rfl rfl rfl ?_) | refine o_a hY (a_st rfl rfl rfl (.d rfl) rfl rfl ?_)
    | refine r_of (r_d rfl ?_) | refine r_of (r_c rfl rfl ?_) | refine r_of (r_2 rfl rfl ?_) | refine r_of (r_4 rfl rfl rfl rfl ?_)
    | refine p_tk hY rfl rfl (v_pv rfl) rfl noPan_ret ?_ | refine p_tkg hY rfl rfl rfl rfl (v_pv rfl) rfl noPan_ret ?_ | refine p_tkn hY rfl rfl rfl (.inl rfl) rfl noPan_ret ?_ | refine p_tkn hY rfl rfl rfl (.inr rfl) rfl noPan_ret ?_ | refine p_done ?_ | refine p_one hY rfl (x_s rfl (.inl rfl) rfl ?_) | refine p_one hY rfl (x_s rfl (.inr rfl) rfl ?_) | refine p_two hY rfl rfl (x_s rfl (.inl rfl) rfl ?_) (x_s rfl (.inl rfl) rfl ?_) | (refine p_sg rfl rfl rfl rfl ?_ ?_ <;> fail_if_success (intro h; cases h; done)) | (refine p_so rfl rfl rfl rfl ?_ ?_ <;> fail_if_success (intro h; cases h; done))
    | refine p_start (id := 7) (by kernel_rfl) [] (.tk 0 (.tk 1 (.tk 2 (.tk 3 (.tk 4 (.tk 5 (.one 6 (.tk 7 (.tk 8 (.tk 9 .done)))))))))) (by kernel_rfl) ?_
    | refine o_v hY (v_ia j rfl rfl (.d rfl) rfl rfl hget hsz) rfl ?_ | refine o_v hY (v_ldp rfl rfl hsub) rfl ?_ | refine o_a hY (a_st rfl rfl rfl (.d rfl) hset hsz ?_)
    | refine p_tk hY rfl rfl (v_ldb rfl rfl rfl sub_S3) rfl noPan_ret ?_
    | (refine p_tk hY rfl rfl (v_cat rfl rfl ?_) rfl noPan_ret ?_
       · ((try simp only [ByteArray.size_append, szl, List.size_toArray, List.length_cons, List.length_nil]); omega))
    | (refine o_v hY (v_cat rfl rfl ?_) rfl ?_
       · ((try simp only [ByteArray.size_append, szl, List.size_toArray, List.length_cons, List.length_nil]); omega))
    | refine o_v hY (v_ldb rfl rfl rfl sub_S3) rfl ?_ | refine o_a hY (a_call E1 (.cons (.d rfl) .nil) rfl ?_)
    | refine p_one hY rfl (x_n rfl ?_) | refine a_call E1 (.cons (.d rfl) .nil) rfl ?_)
      · have hcat : out ++ pad ++ (⟨#[112, 114, 105, 110, 116, 32]⟩ : ByteArray) ++ txE e ++ (⟨#[59, 10]⟩ : ByteArray) = txL pad (l.take (j + 1)) := by
          rw [hnext]
          simp only [txS, lineS, lEq, lNl, show ¬ (4 : Int) = 1 by omega, show ¬ (4 : Int) = 2 by omega, show ¬ (4 : Int) = 3 by omega, if_true, if_false, ByteArray.append_assoc]
        rw [hcat]
        exact n_lp (l.length - (j+1)) ⟨j+1, txL pad (l.take (j + 1)), by omega, rfl, rfl, rfl⟩ (by omega) (Wk.of ⟨rfl, rfl, rfl, rfl, trivial⟩ trivial rfl)
      · rw [hlen] at h; exact absurd (Int.ofNat_lt.2 hlt) h
  · obtain rfl : j = l.length := by omega
    repeat' (first
    | refine s_seq ?_ | refine s_block ?_ | refine s_reg ?_ | refine s_skip ?_ | refine s_ret ?_ | refine s_end ?_ | refine n_seq ?_ | refine n_blk ?_ | refine n_nil ?_ | refine s_exit ?_ | refine e_seq ?_ | refine e_lp ?_ | refine e_blk ?_ | refine e_blk' rfl ?_
    | (refine o_v hY (v_wr rfl ?_) rfl ?_; · omega) | refine o_v hY (v_pv rfl) rfl ?_ | refine g_y rfl rfl ?_ | refine g_n hY rfl rfl rfl ?_ | refine g_u hY rfl rfl rfl ?_ | (refine g_s rfl rfl ?_ ?_ <;> fail_if_success (intro h; cases h; done)) | refine c_t rfl ?_ | refine c_f rfl ?_ | refine c_s rfl ?_ ?_
    | (intro h; (try simp only [decide_eq_true_eq, decide_eq_false_iff_not, Bool.not_eq_true', Bool.not_eq_false', beq_iff_eq, bne_iff_ne, beq_eq_false_iff_ne, bne_eq_false_iff_eq, ne_eq, toListI] at h); (try simp only [toListC] at h))
    | refine o_a hY (a_box rfl rfl rfl ?_) | refine o_a hY (a_alz rfl rfl rfl rfl rfl ?_) | refine o_a hY (a_als rfl rfl rfl ?_) | refine o_a hY (a_st rfl rfl rfl (.d rfl) rfl rfl ?_)
    | refine r_of (r_d rfl ?_) | refine r_of (r_c rfl rfl ?_) | refine r_of (r_2 rfl rfl ?_) | refine r_of (r_4 rfl rfl rfl rfl ?_))
    · rw [hlen] at h; exact absurd h (by omega)
    · refine isR_s ?_
      rw [hout, List.take_length]
theorem specBody_c (l : List Sm) : Cl l := specBody_l l fun x _ => Sm.ind (P := fun x => Cl (bdy x)) (fun k s a e lo hi b ih => specBody_l b ih) x
end Go.Proofs.YtmmdgciefehbcaaGreatDoor.Ax
