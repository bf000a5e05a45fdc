/- Contracts of functions that the claim reaches, over data without addresses, and what follows of them (text Q8). No conditions beside those that each theorem names. -/
import Derived.Test.YtmmdgciefehbcaaGreatDoorQ6
import Derived.Test.YtmmdgciefehbcaaGreatDoorQ7
import Derived.Test.YtmmdgciefehbcaaGreatDoorP26
set_option linter.unusedVariables false
set_option linter.unusedSimpArgs false
namespace Go.Proofs.YtmmdgciefehbcaaGreatDoor.Ax
def txA (x : Ar) : ByteArray := (((⟨#[97, 114, 114, 97, 121, 32]⟩ ++ x.s) ++ ⟨#[32]⟩) ++ numT x.n) ++ ⟨#[59, 10]⟩
def txAs : List Ar → ByteArray
  | [] => ⟨#[]⟩
  | x :: r => txA x ++ txAs r
theorem txAs_app (l m : List Ar) : txAs (l ++ m) = txAs l ++ txAs m := by
  induction l with
  | nil => simp only [List.nil_append, txAs]; exact (ByteArray.empty_append).symm
  | cons x r ih => simp only [List.cons_append, txAs, ih, ByteArray.append_assoc]
theorem txAs_one (l : List Ar) (j : Nat) (h : j < l.length) : txAs (l.take (j + 1)) = txAs (l.take j) ++ txA l[j] := by
  rw [List.take_succ_eq_append_getElem h, txAs_app]
  congr 1
  simp only [txAs]
  exact ByteArray.append_empty
/-- A program's text. -/
def txP (p : Pg) : ByteArray := if progB p = true then txAs p.a ++ txL ⟨#[]⟩ p.b else ⟨#[]⟩
theorem arr_ok {pr : Option ByteArray} {l : List Ar} (h : arrB pr l = true) : ∀ x ∈ l, x.s.size ≤ 6 ∧ 1 ≤ x.n ∧ x.n ≤ 16 := by
  induction l generalizing pr with
  | nil => intro x hx; simp at hx
  | cons z r ih =>
    intro x hx
    simp only [arrB, Bool.and_eq_true, within, decide_eq_true_eq] at h
    obtain ⟨⟨h1, h2, _⟩, h3⟩ := h
    rcases List.mem_cons.1 hx with rfl | hx
    · exact ⟨okName_size h1, h2.1, h2.2⟩
    · exact ih h3 x hx
theorem txA_size {x : Ar} (h : x.s.size ≤ 6 ∧ 1 ≤ x.n ∧ x.n ≤ 16) : (txA x).size ≤ 100 := by
  have := numT_size x.n (by omega) (by omega)
  simp only [txA, ByteArray.size_append, szl, List.size_toArray, List.length_cons, List.length_nil]
  omega
theorem txAs_size {l : List Ar} (h : ∀ x ∈ l, x.s.size ≤ 6 ∧ 1 ≤ x.n ∧ x.n ≤ 16) : (txAs l).size ≤ l.length * 100 := by
  induction l with
  | nil => simp [txAs, szl]
  | cons x r ih =>
    have h1 := txA_size (h x (by simp))
    have h2 := ih fun z hz => h z (by simp [hz])
    simp only [txAs, ByteArray.size_append, List.length_cons]
    omega
/-- What a right program is like. -/
theorem prog_parts {p : Pg} (h : progB p = true) : (∀ x ∈ p.a, x.s.size ≤ 6 ∧ 1 ≤ x.n ∧ x.n ≤ 16) ∧ p.a.length ≤ 4 ∧ rgtL 0 p.b = true ∧ nodL p.b ≤ 40 := by
  simp only [progB, headB, Bool.and_eq_true, decide_eq_true_eq] at h
  obtain ⟨⟨h1, h2, h3, h4, h5⟩, _⟩ := h
  refine ⟨arr_ok h1, by omega, ?_, by omega⟩
  clear h1 h3 h4 h5
  generalize p.b = l at h2
  induction l with
  | nil => rfl
  | cons x r ih =>
    simp only [List.all_cons, Bool.and_eq_true, okS] at h2
    simp only [rgtL, Bool.and_eq_true]
    exact ⟨h2.1.1, ih h2.2⟩
set_option maxHeartbeats 16000000 in
theorem specProgText_c (p : Pg) (hz : szP p ≤ 1048576) : AC Go.Proofs.Tryz.prog 5 [.d (encP p)] [] (isR (.d (.s (txP p)))) := by
  have hla := encAs_len p.a
  have hpz := specProgOk_c p hz
  (refine AC_fn hY Tryz.func5 rfl Tryz.ntmps5 Tryz.results5 rfl (eq_true (by simp)) ?_; simp only [enumT])
  repeat' (first
    | refine s_seq ?_ | refine s_block ?_ | refine s_reg ?_ | refine s_skip ?_ | refine s_ret ?_ | refine s_end ?_ | refine n_seq ?_ | refine n_blk ?_ | refine n_nil ?_ | refine s_exit ?_ | refine e_seq ?_ | refine e_lp ?_ | refine e_blk ?_ | refine e_blk' rfl ?_
    | (refine o_v hY (v_wr rfl ?_) rfl ?_; · omega) | refine o_v hY (v_pv rfl) rfl ?_ | refine g_y rfl rfl ?_ | refine g_n hY rfl rfl rfl ?_ | refine g_u hY rfl rfl rfl ?_ | (refine g_s rfl rfl ?_ ?_ <;> fail_if_success (intro h; cases h; done)) | refine c_t rfl ?_ | refine c_f rfl ?_ | refine c_s rfl ?_ ?_
    | (intro h; (try simp only [decide_eq_true_eq, decide_eq_false_iff_not, Bool.not_eq_true', Bool.not_eq_false', beq_iff_eq, bne_iff_ne, beq_eq_false_iff_ne, bne_eq_false_iff_eq, ne_eq, toListI] at h); (try simp only [toListC] at h))
    | refine o_a hY (a_box rfl rfl rfl ?_) | refine o_a hY (a_alz rfl rfl rfl rfl rfl ?_) | refine o_a hY (a_als rfl rfl rfl ?_) | refine o_a hY (a_st rfl rfl rfl (.d rfl) rfl rfl ?_)
    | refine r_of (r_d rfl ?_) | refine r_of (r_c rfl rfl ?_) | refine r_of (r_2 rfl rfl ?_) | refine r_of (r_4 rfl rfl rfl rfl ?_)
    | refine o_v hY (v_ldb rfl rfl rfl (sub_encP _)) rfl ?_ | refine o_a hY (a_call hpz (.cons (.d rfl) .nil) rfl ?_))
  · exact isR_s (by rw [txP, if_neg (by rw [h]; decide)])
  obtain ⟨ha, hl, hb, hn⟩ := prog_parts h
  have hpr := h
  refine s_loop (fun m τ => ∃ (j : Nat) (out : ByteArray), j ≤ p.a.length ∧ m = p.a.length - j ∧ out = txAs (p.a.take j) ∧ τ = ⟨[(1, .pt (.l 1) 0), (3, .d (.s out)), (4, .d (.i .i64 (j : Int)))], [(1, .var (.d (encP p)))], []⟩) p.a.length ⟨0, _, Nat.zero_le _, rfl, by simp only [List.take_zero, txAs], rfl⟩ (Wk.of ⟨rfl, rfl, rfl, trivial⟩ ⟨rfl, trivial⟩ rfl) ?_
  rintro m τ ⟨j, out, hj, rfl, hout, rfl⟩
  have hos : out.size ≤ 400 := by
    have h1 := txAs_size (l := p.a.take j) (fun x hx => ha x (List.mem_of_mem_take hx))
    rw [← hout, List.length_take] at h1
    omega
  by_cases hlt : j < p.a.length
  · have hx := ha _ (List.getElem_mem hlt)
    have hns := numT_size p.a[j].n (by omega) (by omega)
    have N := specNumText_c p.a[j].n (by omega) (by omega)
    repeat' (first
    | refine s_seq ?_ | refine s_block ?_ | refine s_reg ?_ | refine s_skip ?_ | refine s_ret ?_ | refine s_end ?_ | refine n_seq ?_ | refine n_blk ?_ | refine n_nil ?_ | refine s_exit ?_ | refine e_seq ?_ | refine e_lp ?_ | refine e_blk ?_ | refine e_blk' rfl ?_
    | (refine o_v hY (v_wr rfl ?_) rfl ?_; · omega) | refine o_v hY (v_pv rfl) rfl ?_ | refine g_y rfl rfl ?_ | refine g_n hY rfl rfl rfl ?_ | refine g_u hY rfl rfl rfl ?_ | (refine g_s rfl rfl ?_ ?_ <;> fail_if_success (intro h; cases h; done)) | refine c_t rfl ?_ | refine c_f rfl ?_ | refine c_s rfl ?_ ?_
    | (intro h; (try simp only [decide_eq_true_eq, decide_eq_false_iff_not, Bool.not_eq_true', Bool.not_eq_false', beq_iff_eq, bne_iff_ne, beq_eq_false_iff_ne, bne_eq_false_iff_eq, ne_eq, toListI] at h); (try simp only [toListC] at h))
    | refine o_a hY (a_box rfl rfl rfl ?_) | refine o_a hY (a_alz rfl rfl rfl rfl rfl ?_) | refine o_a hY (a_als rfl rfl rfl ?_) | refine o_a hY (a_st rfl rfl rfl (.d rfl) rfl rfl ?_)
    | refine r_of (r_d rfl ?_) | refine r_of (r_c rfl rfl ?_) | refine r_of (r_2 rfl rfl ?_) | refine r_of (r_4 rfl rfl rfl rfl ?_)
    | refine p_tk hY rfl rfl (v_pv rfl) rfl noPan_ret ?_ | refine p_tkg hY rfl rfl rfl rfl (v_pv rfl) rfl noPan_ret ?_ | refine p_tkn hY rfl rfl rfl (.inl rfl) rfl noPan_ret ?_ | refine p_tkn hY rfl rfl rfl (.inr rfl) rfl noPan_ret ?_ | refine p_done ?_ | refine p_one hY rfl (x_s rfl (.inl rfl) rfl ?_) | refine p_one hY rfl (x_s rfl (.inr rfl) rfl ?_) | refine p_two hY rfl rfl (x_s rfl (.inl rfl) rfl ?_) (x_s rfl (.inl rfl) rfl ?_) | (refine p_sg rfl rfl rfl rfl ?_ ?_ <;> fail_if_success (intro h; cases h; done)) | (refine p_so rfl rfl rfl rfl ?_ ?_ <;> fail_if_success (intro h; cases h; done))
    | refine p_start (id := 7) (by kernel_rfl) [] (.tk 0 (.tk 1 (.tk 2 (.tk 3 (.tk 4 (.tk 5 (.tk 6 (.tk 7 (.tk 8 (.tk 9 (.tk 10 (.tk 11 (.tk 12 (.tk 13 (.tk 14 (.tk 15 (.one 16 (.tk 17 (.tk 18 (.tk 19 .done)))))))))))))))))))) (by kernel_rfl) ?_
    | refine p_tk hY rfl rfl (v_ia j rfl rfl (.d rfl) rfl rfl (encAs_get p.a j hlt) (size_encA _)) rfl noPan_ret ?_
    | refine p_tk hY rfl rfl (v_ldp rfl rfl (sub_sA _)) rfl noPan_ret ?_ | refine p_tk hY rfl rfl (v_ldp rfl rfl (sub_nA _)) rfl noPan_ret ?_
    | (refine p_tk hY rfl rfl (v_cat rfl rfl ?_) rfl noPan_ret ?_
       · ((try simp only [ByteArray.size_append, szl, List.size_toArray, List.length_cons, List.length_nil]); omega))
    | refine p_one hY rfl (x_n rfl ?_) | refine a_call N (.cons (.d rfl) .nil) rfl ?_)
    · have hcat : out ++ (⟨#[97, 114, 114, 97, 121, 32]⟩ : ByteArray) ++ p.a[j].s ++ (⟨#[32]⟩ : ByteArray) ++ numT p.a[j].n ++ (⟨#[59, 10]⟩ : ByteArray) = txAs (p.a.take (j + 1)) := by
        rw [txAs_one p.a j hlt, ← hout]
        simp only [txA, ByteArray.append_assoc]
      rw [hcat]
      exact n_lp (p.a.length - (j+1)) ⟨j+1, txAs (p.a.take (j + 1)), by omega, rfl, rfl, rfl⟩ (by omega) (Wk.of ⟨rfl, rfl, rfl, trivial⟩ ⟨rfl, trivial⟩ rfl)
    · rw [hla] at h; exact absurd (Int.ofNat_lt.2 hlt) h
  · obtain rfl : j = p.a.length := by omega
    have hq := txL_size p.b 0 ⟨#[]⟩ (by omega) (by omega) hb (by decide)
    have BB := specBody_c p.b 0 ⟨#[]⟩ (by omega) (by omega) hb hn (by decide)
    repeat' (first
    | refine s_seq ?_ | refine s_block ?_ | refine s_reg ?_ | refine s_skip ?_ | refine s_ret ?_ | refine s_end ?_ | refine n_seq ?_ | refine n_blk ?_ | refine n_nil ?_ | refine s_exit ?_ | refine e_seq ?_ | refine e_lp ?_ | refine e_blk ?_ | refine e_blk' rfl ?_
    | (refine o_v hY (v_wr rfl ?_) rfl ?_; · omega) | refine o_v hY (v_pv rfl) rfl ?_ | refine g_y rfl rfl ?_ | refine g_n hY rfl rfl rfl ?_ | refine g_u hY rfl rfl rfl ?_ | (refine g_s rfl rfl ?_ ?_ <;> fail_if_success (intro h; cases h; done)) | refine c_t rfl ?_ | refine c_f rfl ?_ | refine c_s rfl ?_ ?_
    | (intro h; (try simp only [decide_eq_true_eq, decide_eq_false_iff_not, Bool.not_eq_true', Bool.not_eq_false', beq_iff_eq, bne_iff_ne, beq_eq_false_iff_ne, bne_eq_false_iff_eq, ne_eq, toListI] at h); (try simp only [toListC] at h))
    | refine o_a hY (a_box rfl rfl rfl ?_) | refine o_a hY (a_alz rfl rfl rfl rfl rfl ?_) | refine o_a hY (a_als rfl rfl rfl ?_) | refine o_a hY (a_st rfl rfl rfl (.d rfl) rfl rfl ?_)
    | refine r_of (r_d rfl ?_) | refine r_of (r_c rfl rfl ?_) | refine r_of (r_2 rfl rfl ?_) | refine r_of (r_4 rfl rfl rfl rfl ?_)
    | refine o_a hY (a_call BB (.cons (.d rfl) (.cons (.d rfl) .nil)) rfl ?_)
    | (refine o_v hY (v_cat rfl rfl ?_) rfl ?_
       · ((try simp only [ByteArray.size_append, szl, List.size_toArray, List.length_cons, List.length_nil]); omega)))
    · rw [hla] at h; exact absurd h (by omega)
    · refine isR_s ?_
      rw [txP, if_pos hpr, hout, List.take_length]
theorem bz : ∃ inf, Go.Proofs.Tryz.prog.info? 47 = some inf ∧ inf.zero = some (.agg #[.pointer none, .slice none 0 0]) := by
  have h : (Go.Proofs.Tryz.prog.info? 47).map (·.zero) = some (some (.agg #[.pointer none, .slice none 0 0])) := by kernel_rfl
  exact Option.map_eq_some_iff.1 h
set_option maxHeartbeats 16000000 in
theorem implProgText_c (p : Pg) (hz : szP p ≤ 1048576) : AC Go.Proofs.Tryz.prog 7 [.d (encP p)] [] (isR (.d (.s (txP p)))) := by
  have hla := encAs_len p.a
  have hpz := implProgOk_c p hz
  rw [← prog_same] at hpz
  obtain ⟨inf, bz1, bz2⟩ := bz
  (refine AC_fn hY Tryz.func7 rfl Tryz.ntmps7 Tryz.results7 rfl (eq_true (by simp)) ?_; simp only [enumT])
  repeat' (first
    | refine s_seq ?_ | refine s_block ?_ | refine s_reg ?_ | refine s_skip ?_ | refine s_ret ?_ | refine s_end ?_ | refine n_seq ?_ | refine n_blk ?_ | refine n_nil ?_ | refine s_exit ?_ | refine e_seq ?_ | refine e_lp ?_ | refine e_blk ?_ | refine e_blk' rfl ?_
    | (refine o_v hY (v_wr rfl ?_) rfl ?_; · omega) | refine o_v hY (v_pv rfl) rfl ?_ | refine g_y rfl rfl ?_ | refine g_n hY rfl rfl rfl ?_ | refine g_u hY rfl rfl rfl ?_ | (refine g_s rfl rfl ?_ ?_ <;> fail_if_success (intro h; cases h; done)) | refine c_t rfl ?_ | refine c_f rfl ?_ | refine c_s rfl ?_ ?_
    | (intro h; (try simp only [decide_eq_true_eq, decide_eq_false_iff_not, Bool.not_eq_true', Bool.not_eq_false', beq_iff_eq, bne_iff_ne, beq_eq_false_iff_ne, bne_eq_false_iff_eq, ne_eq, toListI] at h); (try simp only [toListC] at h))
    | refine o_a hY (a_box rfl rfl rfl ?_) | refine o_a hY (a_alz rfl rfl rfl rfl rfl ?_) | refine o_a hY (a_als rfl rfl rfl ?_) | refine o_a hY (a_st rfl rfl rfl (.d rfl) rfl rfl ?_)
    | refine r_of (r_d rfl ?_) | refine r_of (r_c rfl rfl ?_) | refine r_of (r_2 rfl rfl ?_) | refine r_of (r_4 rfl rfl rfl rfl ?_)
    | refine o_v hY (v_ldb rfl rfl rfl (sub_encP _)) rfl ?_ | refine o_a hY (a_call hpz (.cons (.d rfl) .nil) rfl ?_) | refine o_bnew (e := 5) 1000 bz1 bz2 rfl ?_)
  · exact isR_s (by rw [txP, if_neg (by rw [h]; decide)])
  obtain ⟨ha, hl, hb, hn⟩ := prog_parts h
  have hpr := h
  refine s_loop (fun m τ => ∃ (j : Nat) (y : ByteArray), j ≤ p.a.length ∧ m = p.a.length - j ∧ y = txAs (p.a.take j) ∧ τ = ⟨[(1, .pt (.l 1) 0), (3, .pt (.l 3) 0), (10, .d (.sl (encAs p.a))), (11, .d (.i .i64 ((encAs p.a).length : Int))), (12, .d (.i .i64 (j : Int)))], [(1, .var (.d (encP p))), (3, .bld 47 (.l 1000) y.size), (1000, .row 5 1 (sD y))], []⟩) p.a.length ⟨0, ⟨#[]⟩, Nat.zero_le _, rfl, by simp only [List.take_zero, txAs], rfl⟩ (Wk.of ⟨rfl, rfl, rfl, rfl, rfl, trivial⟩ ⟨rfl, rfl, rfl, trivial⟩ rfl) ?_
  rintro m τ ⟨j, y, hj, rfl, hy, rfl⟩
  have hos : y.size ≤ 400 := by
    have h1 := txAs_size (l := p.a.take j) (fun x hx => ha x (List.mem_of_mem_take hx))
    rw [← hy, List.length_take] at h1
    omega
  by_cases hlt : j < p.a.length
  · have hx := ha _ (List.getElem_mem hlt)
    have hns := numT_size p.a[j].n (by omega) (by omega)
    have N := implNumText_c p.a[j].n (by omega) (by omega)
    repeat' (first
    | refine s_seq ?_ | refine s_block ?_ | refine s_reg ?_ | refine s_skip ?_ | refine s_ret ?_ | refine s_end ?_ | refine n_seq ?_ | refine n_blk ?_ | refine n_nil ?_ | refine s_exit ?_ | refine e_seq ?_ | refine e_lp ?_ | refine e_blk ?_ | refine e_blk' rfl ?_
    | (refine o_v hY (v_wr rfl ?_) rfl ?_; · omega) | refine o_v hY (v_pv rfl) rfl ?_ | refine g_y rfl rfl ?_ | refine g_n hY rfl rfl rfl ?_ | refine g_u hY rfl rfl rfl ?_ | (refine g_s rfl rfl ?_ ?_ <;> fail_if_success (intro h; cases h; done)) | refine c_t rfl ?_ | refine c_f rfl ?_ | refine c_s rfl ?_ ?_
    | (intro h; (try simp only [decide_eq_true_eq, decide_eq_false_iff_not, Bool.not_eq_true', Bool.not_eq_false', beq_iff_eq, bne_iff_ne, beq_eq_false_iff_ne, bne_eq_false_iff_eq, ne_eq, toListI] at h); (try simp only [toListC] at h))
    | refine o_a hY (a_box rfl rfl rfl ?_) | refine o_a hY (a_alz rfl rfl rfl rfl rfl ?_) | refine o_a hY (a_als rfl rfl rfl ?_) | refine o_a hY (a_st rfl rfl rfl (.d rfl) rfl rfl ?_)
    | refine r_of (r_d rfl ?_) | refine r_of (r_c rfl rfl ?_) | refine r_of (r_2 rfl rfl ?_) | refine r_of (r_4 rfl rfl rfl rfl ?_)
    | refine p_tk hY rfl rfl (v_pv rfl) rfl noPan_ret ?_ | refine p_tkg hY rfl rfl rfl rfl (v_pv rfl) rfl noPan_ret ?_ | refine p_tkn hY rfl rfl rfl (.inl rfl) rfl noPan_ret ?_ | refine p_tkn hY rfl rfl rfl (.inr rfl) rfl noPan_ret ?_ | refine p_done ?_ | refine p_one hY rfl (x_s rfl (.inl rfl) rfl ?_) | refine p_one hY rfl (x_s rfl (.inr rfl) rfl ?_) | refine p_two hY rfl rfl (x_s rfl (.inl rfl) rfl ?_) (x_s rfl (.inl rfl) rfl ?_) | (refine p_sg rfl rfl rfl rfl ?_ ?_ <;> fail_if_success (intro h; cases h; done)) | (refine p_so rfl rfl rfl rfl ?_ ?_ <;> fail_if_success (intro h; cases h; done))
    | refine p_start (id := 7) (by kernel_rfl) [] (.tk 0 (.tk 1 (.tk 2 (.tk 3 (.tk 4 (.tk 5 (.one 6 (.tk 7 (.tk 8 (.one 9 .done)))))))))) (by kernel_rfl) ?_
    | refine o_v hY (v_ia j rfl rfl (.d rfl) rfl rfl (encAs_get p.a j hlt) (size_encA _)) rfl ?_ | refine o_v hY (v_ldp rfl rfl (sub_encA _)) rfl ?_ | refine o_a hY (a_st rfl rfl rfl (.d rfl) (set_A _) (size_encA _) ?_)
    | refine p_tk hY rfl rfl (v_ldb rfl rfl rfl (sub_sA _)) rfl noPan_ret ?_ | refine p_tk hY rfl rfl (v_ldb rfl rfl rfl (sub_nA _)) rfl noPan_ret ?_
    | (refine p_tk hY rfl rfl (v_cat rfl rfl ?_) rfl noPan_ret ?_
       · ((try simp only [ByteArray.size_append, szl, List.size_toArray, List.length_cons, List.length_nil]); omega))
    | (refine a_lend [3, 1000] (write_c y _ ?_) (.cons (.p rfl) (.cons (.d rfl) .nil)) ⟨rfl, rfl, trivial⟩ rfl ?_
       · ((try simp only [ByteArray.size_append, szl, List.size_toArray, List.length_cons, List.length_nil]); omega)
       rintro _ _ ⟨rfl, rfl⟩
       refine ⟨rfl, ?_⟩)
    | refine p_one hY rfl (x_n rfl ?_) | refine a_call N (.cons (.d rfl) .nil) rfl ?_)
    · have hcat : y ++ ((⟨#[97, 114, 114, 97, 121, 32]⟩ : ByteArray) ++ p.a[j].s ++ (⟨#[32]⟩ : ByteArray) ++ numT p.a[j].n ++ (⟨#[59, 10]⟩ : ByteArray)) = txAs (p.a.take (j + 1)) := by
        rw [txAs_one p.a j hlt, ← hy]
        simp only [txA, ByteArray.append_assoc]
      rw [hcat]
      exact n_lp (p.a.length - (j+1)) ⟨j+1, txAs (p.a.take (j + 1)), by omega, rfl, rfl, rfl⟩ (by omega) (Wk.of ⟨rfl, rfl, rfl, rfl, rfl, trivial⟩ ⟨rfl, rfl, rfl, trivial⟩ rfl)
    · rw [hla] at h; exact absurd (Int.ofNat_lt.2 hlt) h
  · obtain rfl : j = p.a.length := by omega
    have hq := txL_size p.b 0 ⟨#[]⟩ (by omega) (by omega) hb (by decide)
    repeat' (first
    | refine s_seq ?_ | refine s_block ?_ | refine s_reg ?_ | refine s_skip ?_ | refine s_ret ?_ | refine s_end ?_ | refine n_seq ?_ | refine n_blk ?_ | refine n_nil ?_ | refine s_exit ?_ | refine e_seq ?_ | refine e_lp ?_ | refine e_blk ?_ | refine e_blk' rfl ?_
    | (refine o_v hY (v_wr rfl ?_) rfl ?_; · omega) | refine o_v hY (v_pv rfl) rfl ?_ | refine g_y rfl rfl ?_ | refine g_n hY rfl rfl rfl ?_ | refine g_u hY rfl rfl rfl ?_ | (refine g_s rfl rfl ?_ ?_ <;> fail_if_success (intro h; cases h; done)) | refine c_t rfl ?_ | refine c_f rfl ?_ | refine c_s rfl ?_ ?_
    | (intro h; (try simp only [decide_eq_true_eq, decide_eq_false_iff_not, Bool.not_eq_true', Bool.not_eq_false', beq_iff_eq, bne_iff_ne, beq_eq_false_iff_ne, bne_eq_false_iff_eq, ne_eq, toListI] at h); (try simp only [toListC] at h))
    | refine o_a hY (a_box rfl rfl rfl ?_) | refine o_a hY (a_alz rfl rfl rfl rfl rfl ?_) | refine o_a hY (a_als rfl rfl rfl ?_) | refine o_a hY (a_st rfl rfl rfl (.d rfl) rfl rfl ?_)
    | refine r_of (r_d rfl ?_) | refine r_of (r_c rfl rfl ?_) | refine r_of (r_2 rfl rfl ?_) | refine r_of (r_4 rfl rfl rfl rfl ?_)
    | (refine o_lend [3, 1000] [] (putStmts_c p.b 0 ⟨#[]⟩ y (by omega) (by omega) hb hn (by decide) (by omega)) (.cons (.p rfl) (.cons (.d rfl) (.cons (.d rfl) .nil))) ⟨rfl, rfl, trivial⟩ rfl ?_
       rintro _ _ ⟨rfl, rfl⟩
       refine ⟨rfl, ?_⟩)
    | refine o_bstr strPlain (string_c _) rfl rfl rfl rfl rfl rfl ?_)
    · rw [hla] at h; exact absurd h (by omega)
    · refine isR_s ?_
      rw [txP, if_pos hpr, hy, List.take_length]
end Go.Proofs.YtmmdgciefehbcaaGreatDoor.Ax
