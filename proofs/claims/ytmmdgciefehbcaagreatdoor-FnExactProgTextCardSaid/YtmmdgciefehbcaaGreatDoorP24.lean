/- Contracts of functions that the claim reaches, over data without addresses, and what follows of them (text P24). No conditions beside those that each theorem names. -/
import Derived.Test.YtmmdgciefehbcaaGreatDoorP23
import Derived.Lib.AppendZerosOnto
import Derived.Lib.Walk
import Derived.Lib.SliceRun
set_option linter.unusedVariables false
set_option linter.unusedSimpArgs false
namespace Go.Proofs.YtmmdgciefehbcaaGreatDoor.Ax
open Go.RowKit
set_option maxHeartbeats 4000000 in
set_option maxRecDepth 100000 in
theorem growNil (w : World) : Calls Tryz.prog 92 #[.slice none 0 0, .int .i64 0] w fun e w' => e = .returned (.slice none 0 0) ∧ w' = w := by
  go_enter Tryz.func92, Tryz.ntmps92
  go_wp2
  go_ret
  exact ⟨rfl, rfl⟩
set_option maxHeartbeats 4000000 in
set_option maxRecDepth 100000 in
theorem growSome (w : World) (m : Nat) (h0 : 0 < m) (hm : m * 16 ≤ 140737488355328) : Calls Tryz.prog 92 #[.slice none 0 0, .int .i64 m] w fun e w' => ∃ c, e = .returned (.slice (some ⟨w.heap.size, 0, none⟩) 0 c) ∧ ∃ cur, w' = w.drew.alloc (.cells cur 9) ∧ cur.size = c ∧ c ≤ maxLen := by
  have hle : m ≤ 8796093022208 := by omega
  have hz : ∀ ty, (Builtin.append_ #[64, 3] ty #[.slice none 0 0, .int .i64 (m : Int)]).run Tryz.prog w =
      .ok (.slice (some ⟨w.heap.size, 0, none⟩) m (grownCap w m 0 9)) (w.drew.alloc (.cells (#[] ++ Builtin.zeroCells (Value.string ⟨#[]⟩).cells m ++ Builtin.zeroCells (Value.string ⟨#[]⟩).cells (grownCap w m 0 9 - m)) 9)) := fun ty => by
    obtain ⟨i0, hi0, e2, e3⟩ := hY.info 9 _ Y9
    replace e2 : i0.size = 1 := e2
    replace e3 : i0.bytes = 16 := e3
    obtain ⟨i1, z1, hi1, e1, e4, e5⟩ := hY.zero 9 _ Z9
    rw [hi0] at hi1
    cases hi1
    have hzz : z1 = .string ⟨#[]⟩ := repD_s (e5 w fun _ => 0)
    subst hzz
    have hold : (Builtin.firstCells i0.size 0 (.slice none 0 0)).run Tryz.prog w.drew = .ok (([] : List Value).toArray) w.drew := run_firstCells_none w.drew i0.size 0 0 0
    have h := Lib.run_append_grow_zeros w 64 3 ty 9 i0 _ .i64 .i64 (hY.ky K64) (hY.ky K3) hi0 e1 none 0 0 [] hold m (by first | omega | (rw [e3]; omega)) (by first | omega | (rw [e2]; omega) | (rw [e3]; omega)) (by first | omega | (rw [e3]; omega)) (by first | omega | (rw [e3]; omega)) (by first | omega | (rw [e3]; omega)) (growslice_fits (by omega) (by rw [e3]; omega))
    simpa using h
  have hGn : m ≤ grownCap w m 0 9 := grownCap_ge w _ _ _
  have hG63 := grownCap_le_maxLen w m 0 9 (by unfold maxLen; omega)
  obtain ⟨G, hG⟩ : ∃ G, G = grownCap w m 0 9 := ⟨_, rfl⟩
  rw [← hG] at hz hGn hG63
  clear hG
  have hG64 : G ≤ 9223372036854775807 := by unfold maxLen at hG63; omega
  go_enter Tryz.func92, Tryz.ntmps92
  go_wp2_with (at_builtin; refine Lib.wpList_append_run _ rfl _ _ _ _ rfl _ _ rfl rfl _ _ (hz _) ?_)
  go_ret
  refine ⟨_, rfl, _, rfl, ?_, hG63⟩
  simp only [Array.size_append, size_zeroCells]
  show m * 1 + (G - m) * 1 = G
  omega
/-- A new row of no element comes back. -/
def GrowsR (w : World) (e : Ending) (w' : World) : Prop := ∃ v, e = .returned v ∧ w'.ownsRow w.heap.size 9 1 v 0 [] ∧ w.grownBy w' none
theorem grow_c (w : World) (m : Nat) (hm : m * 16 ≤ 140737488355328) : Calls Tryz.prog 92 #[.slice none 0 0, .int .i64 m] w (GrowsR w) := by
  rcases Nat.eq_zero_or_pos m with rfl | h0
  · refine (growNil w).mono ?_
    rintro e w' ⟨rfl, rfl⟩
    exact ⟨_, rfl, World.ownsRow_nil w' _ 9 1, ⟨rfl, rfl, rfl, Nat.le_refl _, fun _ _ _ => rfl⟩⟩
  · refine (growSome w m h0 hm).mono ?_
    rintro e w' ⟨c, rfl, cur, rfl, hc, hcm⟩
    exact ⟨_, rfl, ⟨rfl, .inr ⟨w.heap.size, c, cur, rfl, Nat.le_refl _, alloc_heap w.drew _, Nat.zero_le _, hcm, by omega, by simp⟩⟩, ⟨rfl, rfl, rfl, by rw [alloc_size]; exact Nat.le_succ _, fun k hk _ => alloc_old w.drew _ hk⟩⟩
theorem o_newR {P : Program} {n : Nat} {Q : Exit → St → Prop} {ops : Array Oper} {r : List Oper} {t : List (Nat × T)} {L : List (Nat × Ob)} {F : List Ob} {i : Nat} {ty : TypeId} {pos : String} {af : Array Edge} {f : FuncId} {args : List Operand} {tys : Array TypeId} (vs : List Value) (hp : Plain P f)
    (hv : ∀ (E : En) (a : Act) (w : World) (I : Im) (β : Be), Rel E ⟨t, L, F⟩ a w I β → args.map a.eval = vs) (hc : ∀ w, Calls P f vs.toArray w (GrowsR w)) (hcl : (⟨t, L, F⟩ : St).cleanB i = true) (hi : dstB n (some i) = true)
    (h : So P n ops r Q ⟨(i, .rw (.l i) 0) :: t, (i, .row 9 1 []) :: L, F⟩) :
    So P n ops (⟨some i, .call ⟨.value (.func f), args.toArray, tys⟩, ty, pos, af, none⟩ :: r) Q ⟨t, L, F⟩ := by
  refine o_sem hp fun E hE a w I β R => ?_
  subst hE
  rw [hv E a w I β R]
  refine (hc w).mono ?_
  rintro e w' ⟨v, rfl, hown, hgr⟩
  have hold : ∀ b, b < w.heap.size → w'.heap[b]? = w.heap[b]? := fun b hb => hgr.block b hb (by simp)
  have hI : ∀ b, v.ownBlock = some b → w.heap.size ≤ b := fun b hb => (hown.lt b hb).1
  have hnew : NewP w I v w' (.rw (.f 0) 0) (.row 9 1 []) I ⟨fun _ => 0, fun _ => hist 0 v⟩ := by
    refine ⟨rfl, ⟨by decide, v, [], rfl, ?_, by simp only [RepL], by simp, fun b hb => R.ob.new b (hI b hb), fun j hj => ?_⟩, by simp [T.keys], rfl, fun b hb => hI b ?_, ⟨hgr.size, fun _ => Nat.le_refl _, fun b o ho => ?_⟩, ⟨hgr.os, hgr.tape, hgr.output, hgr.size, fun b hb _ => ⟨hold b hb, rfl⟩⟩, fun b hb => R.ob.new b (Nat.le_trans hgr.size hb)⟩
    · refine ⟨hown.1, ?_⟩
      rcases hown.2 with h1 | ⟨g, cap, cur, h1, h2, h3⟩
      · exact .inl h1
      · exact .inr ⟨g, cap, cur, h1, Nat.zero_le _, h3⟩
    · simp only [hist]; rw [if_neg (by simp at hj; omega)]
    · simpa [own, hist] using hb
    · rcases Nat.lt_or_ge b w.heap.size with hb | hb
      · exact World.cell?_of_block (w := w) (a := ⟨b, o, none⟩) (hold b hb)
      · rw [R.ob.new b hb] at ho; cases ho
  obtain ⟨β3, R2, hv2, _⟩ := R.newob (R.clean hcl) hnew
  exact ⟨v, I, β3, _, rfl, R2.put (dst := some i) (fun j hj => by cases hj; simpa [dstB] using hi) hv2, h⟩

def encTs (l : List (List ByteArray)) : List D := l.map fun x => .sl (strs x)
theorem encTs_len (l : List (List ByteArray)) : (encTs l).length = l.length := by simp [encTs]
theorem encTs_get (l : List (List ByteArray)) (i : Nat) (h : i < l.length) : (encTs l)[i]? = some (.sl (strs l[i])) := by simp [encTs, h]
theorem flat_take (l : List (List ByteArray)) (j : Nat) (h : j < l.length) : (l.take (j + 1)).flatten = (l.take j).flatten ++ l[j] := by
  rw [← List.take_append_getElem h, List.flatten_append]; simp
theorem flat_le (l : List (List ByteArray)) (j : Nat) : (l.take j).flatten.length ≤ l.flatten.length := by
  conv => rhs; rw [← List.take_append_drop j l, List.flatten_append, List.length_append]
  omega
theorem concat_c (l : List (List ByteArray)) (hl : l.length ≤ 8388608) (hb : l.flatten.length ≤ 100000000) : AC Tryz.prog 66 [.d (.sl (encTs l))] [] (isR (.d (.sl (strs l.flatten)))) := by
  have hlen := encTs_len l
  (refine AC_fn hY Tryz.func66 rfl Tryz.ntmps66 Tryz.results66 rfl (eq_true (by simp)) ?_; simp only [enumT])
  repeat' (first
    | refine s_seq ?_ | refine s_block ?_ | refine s_reg ?_ | refine s_skip ?_ | refine s_ret ?_ | refine s_end ?_ | refine n_seq ?_ | refine n_blk ?_ | refine n_nil ?_ | refine s_exit ?_ | refine e_seq ?_ | refine e_lp ?_ | refine e_blk ?_ | refine e_blk' rfl ?_
    | (refine o_v hY (v_wr rfl ?_) rfl ?_; · omega) | refine o_v hY (v_pv rfl) rfl ?_ | refine g_y rfl rfl ?_ | refine g_n hY rfl rfl rfl ?_ | refine g_u hY rfl rfl rfl ?_ | (refine g_s rfl rfl ?_ ?_ <;> fail_if_success (intro h; cases h; done)) | refine c_t rfl ?_ | refine c_f rfl ?_ | refine c_s rfl ?_ ?_
    | (intro h; (try simp only [decide_eq_true_eq, decide_eq_false_iff_not, Bool.not_eq_true', Bool.not_eq_false', beq_iff_eq, bne_iff_ne, beq_eq_false_iff_ne, bne_eq_false_iff_eq, ne_eq, toListI] at h); (try simp only [toListC] at h))
    | refine o_a hY (a_box rfl rfl rfl ?_) | refine o_a hY (a_alz rfl rfl rfl rfl rfl ?_) | refine o_a hY (a_als rfl rfl rfl ?_) | refine o_a hY (a_st rfl rfl rfl (.d rfl) rfl rfl ?_)
    | refine r_of (r_d rfl ?_) | refine r_of (r_c rfl rfl ?_) | refine r_of (r_2 rfl rfl ?_) | refine r_of (r_4 rfl rfl rfl rfl ?_))
  refine s_loop (fun m τ => ∃ (j : Nat), j ≤ l.length ∧ m = l.length - j ∧ τ = ⟨[(0, .d (.sl (encTs l))), (3, .d (.i .i64 ((l.take j).flatten.length : Int))), (9, .d (.sl (encTs l))), (10, .d (.i .i64 (l.length : Int))), (11, .d (.i .i64 (j : Int)))], [], []⟩) l.length ⟨0, Nat.zero_le _, rfl, rfl⟩ (Wk.of ⟨rfl, rfl, rfl, by rw [← hlen]; rfl, rfl, trivial⟩ trivial rfl) ?_
  rintro m τ ⟨j, hj, rfl, rfl⟩
  have hfl := flat_le l j
  by_cases hlt : j < l.length
  · have hft := flat_take l j hlt
    have hf2 := flat_le l (j + 1)
    have hsl := strs_len l[j]
    have hft2 := congrArg List.length hft
    rw [List.length_append] at hft2
    repeat' (first
    | refine s_seq ?_ | refine s_block ?_ | refine s_reg ?_ | refine s_skip ?_ | refine s_ret ?_ | refine s_end ?_ | refine n_seq ?_ | refine n_blk ?_ | refine n_nil ?_ | refine s_exit ?_ | refine e_seq ?_ | refine e_lp ?_ | refine e_blk ?_ | refine e_blk' rfl ?_
    | (refine o_v hY (v_wr rfl ?_) rfl ?_; · omega) | refine o_v hY (v_pv rfl) rfl ?_ | refine g_y rfl rfl ?_ | refine g_n hY rfl rfl rfl ?_ | refine g_u hY rfl rfl rfl ?_ | (refine g_s rfl rfl ?_ ?_ <;> fail_if_success (intro h; cases h; done)) | refine c_t rfl ?_ | refine c_f rfl ?_ | refine c_s rfl ?_ ?_
    | (intro h; (try simp only [decide_eq_true_eq, decide_eq_false_iff_not, Bool.not_eq_true', Bool.not_eq_false', beq_iff_eq, bne_iff_ne, beq_eq_false_iff_ne, bne_eq_false_iff_eq, ne_eq, toListI] at h); (try simp only [toListC] at h))
    | refine o_a hY (a_box rfl rfl rfl ?_) | refine o_a hY (a_alz rfl rfl rfl rfl rfl ?_) | refine o_a hY (a_als rfl rfl rfl ?_) | refine o_a hY (a_st rfl rfl rfl (.d rfl) rfl rfl ?_)
    | refine r_of (r_d rfl ?_) | refine r_of (r_c rfl rfl ?_) | refine r_of (r_2 rfl rfl ?_) | refine r_of (r_4 rfl rfl rfl rfl ?_)
    | (refine o_v hY (v_ia j rfl rfl (.d rfl) rfl rfl (encTs_get l j ?_) rfl) rfl ?_; · omega))
    · refine n_lp (l.length - (j+1)) ⟨j+1, by omega, rfl, rfl⟩ (by omega) (Wk.of ⟨rfl, ?_, rfl, rfl, rfl, trivial⟩ trivial rfl)
      rw [hft2]
      exact congrArg (fun z => T.d (.i .i64 z)) (by rw [hsl]; omega)
    all_goals (exfalso; omega)
  · obtain rfl : j = l.length := by omega
    rw [List.take_length]
    repeat' (first
    | refine s_seq ?_ | refine s_block ?_ | refine s_reg ?_ | refine s_skip ?_ | refine s_ret ?_ | refine s_end ?_ | refine n_seq ?_ | refine n_blk ?_ | refine n_nil ?_ | refine s_exit ?_ | refine e_seq ?_ | refine e_lp ?_ | refine e_blk ?_ | refine e_blk' rfl ?_
    | (refine o_v hY (v_wr rfl ?_) rfl ?_; · omega) | refine o_v hY (v_pv rfl) rfl ?_ | refine g_y rfl rfl ?_ | refine g_n hY rfl rfl rfl ?_ | refine g_u hY rfl rfl rfl ?_ | (refine g_s rfl rfl ?_ ?_ <;> fail_if_success (intro h; cases h; done)) | refine c_t rfl ?_ | refine c_f rfl ?_ | refine c_s rfl ?_ ?_
    | (intro h; (try simp only [decide_eq_true_eq, decide_eq_false_iff_not, Bool.not_eq_true', Bool.not_eq_false', beq_iff_eq, bne_iff_ne, beq_eq_false_iff_ne, bne_eq_false_iff_eq, ne_eq, toListI] at h); (try simp only [toListC] at h))
    | refine o_a hY (a_box rfl rfl rfl ?_) | refine o_a hY (a_alz rfl rfl rfl rfl rfl ?_) | refine o_a hY (a_als rfl rfl rfl ?_) | refine o_a hY (a_st rfl rfl rfl (.d rfl) rfl rfl ?_)
    | refine r_of (r_d rfl ?_) | refine r_of (r_c rfl rfl ?_) | refine r_of (r_2 rfl rfl ?_) | refine r_of (r_4 rfl rfl rfl rfl ?_)
    | (refine o_newR [.slice none 0 0, .int .i64 (l.flatten.length : Int)] ⟨_, Tryz.func92, rfl, rfl⟩ (fun E a w I β R => ?_) (fun w => grow_c w _ (by omega)) rfl rfl ?_
       · (have h23 := R.get 23; simp only [St.get, look, Option.getD_some] at h23; have := repD_i h23; simp only [List.map_cons, List.map_nil, Act.eval]; rw [this])))
    · exfalso; omega
    refine s_loop (fun m τ => ∃ (j : Nat), j ≤ l.length ∧ m = l.length - j ∧ τ = ⟨[(6, .rw (.l 24) (strs (l.take j).flatten).length), (25, .d (.sl (encTs l))), (26, .d (.i .i64 (l.length : Int))), (27, .d (.i .i64 (j : Int)))], [(24, .row 9 1 (strs (l.take j).flatten))], []⟩) l.length ⟨0, Nat.zero_le _, rfl, rfl⟩ (Wk.of ⟨rfl, rfl, by rw [← hlen]; rfl, rfl, trivial⟩ ⟨rfl, trivial⟩ rfl) ?_
    rintro m τ ⟨j, hj, rfl, rfl⟩
    by_cases hlt : j < l.length
    · have hft := flat_take l j hlt
      have hf2 := flat_le l (j + 1)
      have hap : strs (l.take j).flatten ++ strs l[j] = strs (l.take (j + 1)).flatten := by rw [strs_app, hft]
      repeat' (first
    | refine s_seq ?_ | refine s_block ?_ | refine s_reg ?_ | refine s_skip ?_ | refine s_ret ?_ | refine s_end ?_ | refine n_seq ?_ | refine n_blk ?_ | refine n_nil ?_ | refine s_exit ?_ | refine e_seq ?_ | refine e_lp ?_ | refine e_blk ?_ | refine e_blk' rfl ?_
    | (refine o_v hY (v_wr rfl ?_) rfl ?_; · omega) | refine o_v hY (v_pv rfl) rfl ?_ | refine g_y rfl rfl ?_ | refine g_n hY rfl rfl rfl ?_ | refine g_u hY rfl rfl rfl ?_ | (refine g_s rfl rfl ?_ ?_ <;> fail_if_success (intro h; cases h; done)) | refine c_t rfl ?_ | refine c_f rfl ?_ | refine c_s rfl ?_ ?_
    | (intro h; (try simp only [decide_eq_true_eq, decide_eq_false_iff_not, Bool.not_eq_true', Bool.not_eq_false', beq_iff_eq, bne_iff_ne, beq_eq_false_iff_ne, bne_eq_false_iff_eq, ne_eq, toListI] at h); (try simp only [toListC] at h))
    | refine o_a hY (a_box rfl rfl rfl ?_) | refine o_a hY (a_alz rfl rfl rfl rfl rfl ?_) | refine o_a hY (a_als rfl rfl rfl ?_) | refine o_a hY (a_st rfl rfl rfl (.d rfl) rfl rfl ?_)
    | refine r_of (r_d rfl ?_) | refine r_of (r_c rfl rfl ?_) | refine r_of (r_2 rfl rfl ?_) | refine r_of (r_4 rfl rfl rfl rfl ?_)
    | (refine o_v hY (v_ia j rfl rfl (.d rfl) rfl rfl (encTs_get l j ?_) rfl) rfl ?_; · omega)
    | (refine o_a hY (a_ap' hap rfl rfl rfl rfl (.d rfl) rfl (strs_sz _) rfl rfl rfl ?_ ?_)
       · (simp only [strs_len]; omega)))
      · exact n_lp (l.length - (j+1)) ⟨j+1, by omega, rfl, rfl⟩ (by omega) (Wk.of ⟨rfl, rfl, rfl, rfl, trivial⟩ ⟨rfl, trivial⟩ rfl)
      all_goals (exfalso; omega)
    · obtain rfl : j = l.length := by omega
      rw [List.take_length]
      repeat' (first
    | refine s_seq ?_ | refine s_block ?_ | refine s_reg ?_ | refine s_skip ?_ | refine s_ret ?_ | refine s_end ?_ | refine n_seq ?_ | refine n_blk ?_ | refine n_nil ?_ | refine s_exit ?_ | refine e_seq ?_ | refine e_lp ?_ | refine e_blk ?_ | refine e_blk' rfl ?_
    | (refine o_v hY (v_wr rfl ?_) rfl ?_; · omega) | refine o_v hY (v_pv rfl) rfl ?_ | refine g_y rfl rfl ?_ | refine g_n hY rfl rfl rfl ?_ | refine g_u hY rfl rfl rfl ?_ | (refine g_s rfl rfl ?_ ?_ <;> fail_if_success (intro h; cases h; done)) | refine c_t rfl ?_ | refine c_f rfl ?_ | refine c_s rfl ?_ ?_
    | (intro h; (try simp only [decide_eq_true_eq, decide_eq_false_iff_not, Bool.not_eq_true', Bool.not_eq_false', beq_iff_eq, bne_iff_ne, beq_eq_false_iff_ne, bne_eq_false_iff_eq, ne_eq, toListI] at h); (try simp only [toListC] at h))
    | refine o_a hY (a_box rfl rfl rfl ?_) | refine o_a hY (a_alz rfl rfl rfl rfl rfl ?_) | refine o_a hY (a_als rfl rfl rfl ?_) | refine o_a hY (a_st rfl rfl rfl (.d rfl) rfl rfl ?_)
    | refine r_of (r_d rfl ?_) | refine r_of (r_c rfl rfl ?_) | refine r_of (r_2 rfl rfl ?_) | refine r_of (r_4 rfl rfl rfl rfl ?_))
      · exfalso; omega
      · exact r_of (r_w rfl rfl rfl (isR_sl rfl))
end Go.Proofs.YtmmdgciefehbcaaGreatDoor.Ax
