/- Contracts of functions that the claim reaches, over data without addresses, and what follows of them (text B2). No conditions beside those that each theorem names. -/
import Derived.Test.YtmmdgciefehbcaaGreatDoorB1
set_option linter.unusedVariables false
set_option linter.unusedSimpArgs false
namespace Go.Proofs.YtmmdgciefehbcaaGreatDoor.Ax
open Go.RowKit
theorem copyPlain : Plain Go.Proofs.Tryz.prog 41 := ⟨_, Go.Proofs.Tryz.func41, by kernel_rfl, by kernel_rfl⟩
theorem strPlain : Plain Go.Proofs.Tryz.prog 20 := ⟨_, Go.Proofs.Tryz.func20, by kernel_rfl, by kernel_rfl⟩
theorem bstX : Builder.Extra Go.Proofs.Tryz.prog Go.Proofs.Tryz.bstT_ren where
  sizeBuilder := by kernel_rfl
  liesBuilder := by kernel_rfl
  t5 := Go.Proofs.Tryz.underlying5
  a5 := Go.Proofs.Tryz.isAgg5
  z5 := Go.Proofs.Tryz.sizeOf5
  v5 := Go.Proofs.Tryz.zeroValue5
  infoByte := by kernel_rfl
  cellsByte := by kernel_rfl
  sizeByte := by kernel_rfl
  neB5 := by decide
theorem string_c (bs : ByteArray) (w : World) (B b : Nat) (p v : Value) (h1 : B ≤ w.heap.size) (h2 : B ≤ b) (h3 : w.heap[b]? = some (.cells #[p, v] 47 (0, 0))) (h4 : p = .pointer none ∨ p = .pointer (some ⟨b, 0, none⟩)) (h5 : w.ownsRow B 5 1 v bs.size (Lib.strCells bs)) :
    Calls Go.Proofs.Tryz.prog 20 #[.pointer (some ⟨b, 0, none⟩)] w fun e w' => e = .returned (.string bs) ∧ Below B w w' := by
  have hl : (Lib.byteCells bs.data.toList).length = bs.size := by rw [Lib.byteCells_length, Array.length_toList]; rfl
  have hat : Lib.BuilderAt 47 5 B b p (Lib.byteCells bs.data.toList) w := ⟨h2, v, h3, by rw [hl]; exact h5, Lib.ownBlock_ne h5 h3 (by decide)⟩
  have := Any.Builder_String_any Go.Proofs.Tryz.bstT bstX B b bs.data.toList w (by
    rcases h4 with rfl | rfl
    · exact .inl hat
    · exact .inr hat) h1
  simp only [Array.toArray_toList] at this
  exact this
theorem itoa_c (n : Int) (h0 : -9223372036854775808 ≤ n) (h1 : n ≤ 9223372036854775807) : AC Go.Proofs.Tryz.prog 42 [.d (.i .i64 n)] [] (isR (.d (.s ⟨(Go.Lib.itoa n).toArray⟩))) := by
  unfold AC
  refine ⟨⟨_, Go.Proofs.Tryz.func42, by kernel_rfl, by kernel_rfl⟩, fun w I β vs hgd hfin _ hv => ?_⟩
  obtain ⟨v, rfl⟩ : ∃ v, vs = [v] := by
    have := hv.len
    match vs, this with
    | [v], _ => exact ⟨v, rfl⟩
  have hv := repD_i hv.1
  subst hv
  refine (Any.strconv_Itoa Go.Proofs.Tryz.itoaT n h0 h1 w hgd.1).mono ?_
  rintro e w' ⟨rfl, k, os, rfl⟩
  have hsz : w.heap.size ≤ (Go.Sort.grow (w.drewN k) os).heap.size := by rw [Go.Sort.size_grow]; simp
  have hb : ∀ i, i < w.heap.size → (Go.Sort.grow (w.drewN k) os).heap[i]? = w.heap[i]? := fun i hi => by rw [Go.Sort.heap_grow_old _ _ (by simpa using hi)]; simp
  have e1 : Ext w I (Go.Sort.grow (w.drewN k) os) I := ⟨hsz, fun _ => Nat.le_refl _, fun b o ho => by
    have hlt : b < w.heap.size := by
      rcases Nat.lt_or_ge b w.heap.size with h | h
      · exact h
      · rw [hfin.ob.new b h] at ho; cases ho
    exact World.cell?_of_block (w := w) (a := ⟨b, o, none⟩) (hb b hlt)⟩
  refine ⟨_, .d (.s ⟨(Go.Lib.itoa n).toArray⟩), [], I, β, rfl, ⟨⟨rfl, rfl⟩, by simp [T.keys], repD_of rfl (by simp only [RepC]), ⟨⟨fun k o h => by cases k <;> simp [fobj] at h, fun k k' o o' b h => by cases k <;> simp [fobj] at h, fun b hb => hfin.ob.new b (Nat.le_trans hsz hb)⟩, fun n o h => by simp at h⟩, e1, ⟨rfl, rfl, rfl, hsz, fun b h1 _ => ⟨hb b h1, rfl⟩⟩, Keep.refl _ _, fun n o b h => by simp at h⟩⟩
theorem writeString_c (s : ByteArray) (n : Nat) (xs : List D) (h : n = xs.length) (hb : n + s.size ≤ 140737488355328) :
    AC Go.Proofs.Tryz.prog 17 [.pt (.f 0) 0, .d (.s s)] [.bld 47 (.f 1) n, .row 5 1 xs] fun r Fo => r = .any ∧ Fo = [.bld 47 (.f 1) (n + s.size), .row 5 1 (xs ++ sD s)] := by
  (refine AC_fn hY Tryz.func17 rfl Tryz.ntmps17 Tryz.results17 rfl (eq_true (by simp)) ?_; simp only [enumT])
  repeat' (first
    | refine s_seq ?_ | refine s_block ?_ | refine s_reg ?_ | refine s_skip ?_ | refine s_ret ?_ | refine s_end ?_ | refine n_seq ?_ | refine n_blk ?_ | refine n_nil ?_ | refine s_exit ?_ | refine e_seq ?_ | refine e_lp ?_ | refine e_blk ?_ | refine e_blk' rfl ?_
    | (refine o_v hY (v_wr rfl ?_) rfl ?_; · omega) | refine o_v hY (v_pv rfl) rfl ?_ | refine g_y rfl rfl ?_ | refine g_n hY rfl rfl rfl ?_ | refine g_u hY rfl rfl rfl ?_ | (refine g_s rfl rfl ?_ ?_ <;> fail_if_success (intro h; cases h; done)) | refine c_t rfl ?_ | refine c_f rfl ?_ | refine c_s rfl ?_ ?_
    | (intro h; (try simp only [decide_eq_true_eq, decide_eq_false_iff_not, Bool.not_eq_true', Bool.not_eq_false', beq_iff_eq, bne_iff_ne, beq_eq_false_iff_ne, bne_eq_false_iff_eq, ne_eq, toListI] at h); (try simp only [toListC] at h))
    | refine o_a hY (a_box rfl rfl rfl ?_) | refine o_a hY (a_alz rfl rfl rfl rfl rfl ?_) | refine o_a hY (a_als rfl rfl rfl ?_) | refine o_a hY (a_st rfl rfl rfl (.d rfl) rfl rfl ?_)
    | refine r_of (r_d rfl ?_) | refine r_of (r_c rfl rfl ?_) | refine r_of (r_2 rfl rfl ?_) | refine r_of (r_4 rfl rfl rfl rfl ?_)
    | refine o_v hY (show pval _ _ (.assign (.const .nilIface)) = some T.any from rfl) rfl ?_ | refine o_bcp copyPlain copyCheck_c rfl rfl rfl ?_ | refine o_bld hY rfl rfl rfl rfl rfl ?_ | refine o_bap hY rfl rfl rfl rfl rfl rfl rfl rfl rfl h hb rfl ?_ | (refine o_bst hY rfl rfl rfl rfl rfl ⟨_, _, _, rfl, ?_⟩ ?_; rotate_left) | refine r_of (r_any rfl rfl ?_))
  · exact ⟨rfl, rfl⟩
  · simp [sD_len, h]
/-- A builder that holds the text x. -/
def bob (x : ByteArray) : List Ob := [.bld 47 (.f 1) x.size, .row 5 1 (sD x)]
theorem sD_app (x z : ByteArray) : sD (x ++ z) = sD x ++ sD z := by
  simp [sD]
theorem write_c (x s : ByteArray) (hb : x.size + s.size ≤ 140737488355328) : AC Go.Proofs.Tryz.prog 17 [.pt (.f 0) 0, .d (.s s)] (bob x) fun r Fo => r = .any ∧ Fo = bob (x ++ s) := by
  have := writeString_c s x.size (sD x) (sD_len x).symm hb
  simp only [bob, sD_app, ByteArray.size_append]
  exact this
end Go.Proofs.YtmmdgciefehbcaaGreatDoor.Ax
