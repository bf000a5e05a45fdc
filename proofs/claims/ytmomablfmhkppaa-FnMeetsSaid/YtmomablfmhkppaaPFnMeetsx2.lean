-- The functions of a law as plain Lean functions, each with its contract: written by a program of this session.
import Derived.Test.YtmomablfmhkppaaPFnMeetsx0
import Derived.Test.YtmomablfmhkppaaPFnMeetsx1
namespace Go.Proofs.Ytmomablfmhkppaa.PFnMeets
open Go.RowKit Go.Proofs.YtmomablfmhkppaaW.PrintWords Go.Proofs.YtmomablfmhkppaaW.PrintLast Go.Proofs.YtmomablfmhkppaaW.PrintMore
attribute [local go_sem] max2_int min2_int max_two min_two max_three min_three max_four min_four   -- for this text's walks alone
set_option linter.unusedVariables false
set_option linter.unusedSimpArgs false

/-! ### spec_l9Draw: function 56 -/
def spec_l9Draw.l0 : Nat → List (S56) → List ByteArray → Int → List Int → Int → Int → Option ((List (S56)) × Int × Int)
  | 0, _, _, _, _, _, _ => none
  | k + 1, x3, x4, x5, x1000, x1001, x1002 => if x5 < 3 then ((spec_l1Below.f x1000 x1001 x1002 5).bind fun bt165 => (if 0 ≤ x5 then (if x5 < (x4.length : Int) then ((spec_l1Below.f x1000 bt165.2.1 bt165.2.2 5).bind fun bt169 => (if x3.length < 4398046511104 then (spec_l9Draw.l0 k (x3 ++ [(⟨rdOf ByteArray.empty x4 x5, wrap64 (bt165.1 - 1), wrap64 ((wrap64 (bt165.1 - 1)) + bt169.1)⟩ : S56)]) x4 (wrap64 (x5 + 1)) x1000 bt169.2.1 bt169.2.2) else (none))) else (none)) else (none))) else (some (x3, x1001, x1002))
def spec_l9Draw.f (k : Nat) (s0_0 : List Int) (s0_1 : Int) (s0_2 : Int) : Option ((List (S56)) × Int × Int) := spec_l9Draw.l0 k (([] : List (S56))) (([(⟨#[105]⟩ : ByteArray), (⟨#[106]⟩ : ByteArray), (⟨#[107]⟩ : ByteArray)] : List ByteArray)) 0 s0_0 s0_1 s0_2
theorem spec_l9Draw.mono_l : ∀ k, (∀ y0 y1 y2 y3 y4 y5, LeO (spec_l9Draw.l0 k y0 y1 y2 y3 y4 y5) (spec_l9Draw.l0 (k + 1) y0 y1 y2 y3 y4 y5))
  | 0 => fun _ _ _ _ _ _ r h => by simp [spec_l9Draw.l0] at h
  | k + 1 => by
    have ih0 := spec_l9Draw.mono_l k
    · intro y0 y1 y2 y3 y4 y5
      unfold spec_l9Draw.l0
      repeat' first
      | (with_reducible exact ih0 _ _ _ _ _ _)
      | (with_reducible exact LeO.refl _)
      | (with_reducible exact LeO.none _)
      | (with_reducible refine LeO.ite ?_ ?_)
      | (with_reducible refine LeO.bind ?_ (fun _ => ?_))
      | exact ih0 _ _ _ _ _ _
      | exact LeO.none _
      | refine LeO.ite ?_ ?_
      | refine LeO.bind ?_ (fun _ => ?_)
theorem spec_l9Draw.mono : ∀ a0 a1 a2 k, LeO (spec_l9Draw.f k a0 a1 a2) (spec_l9Draw.f (k + 1) a0 a1 a2) := by
  intro a0 a1 a2 k
  have ih0 := spec_l9Draw.mono_l k
  unfold spec_l9Draw.f
  repeat' first
      | (with_reducible exact ih0 _ _ _ _ _ _)
      | (with_reducible exact LeO.refl _)
      | (with_reducible exact LeO.none _)
      | (with_reducible refine LeO.ite ?_ ?_)
      | (with_reducible refine LeO.bind ?_ (fun _ => ?_))
      | exact ih0 _ _ _ _ _ _
      | exact LeO.none _
      | refine LeO.ite ?_ ?_
      | refine LeO.bind ?_ (fun _ => ?_)
def spec_l9Draw.T7 : Bool × List (List Nat × List Nat) := (true, [([], []), ([], []), ([], []), ([1, 2], [1, 2]), ([3], [3]), ([], []), ([], []), ([], []), ([7], [7]), ([6, 8], [6, 8]), ([4, 5, 9], [4, 5, 9]), ([10], [10]), ([0, 11, 8], [0, 11]), ([12, 12, 0, 1, 2, 3, 4, 5, 6, 7, 8, 9, 10, 11, 12], [0, 12])])
def spec_l9Draw.B7 : List Nat := [0, 0, 0, 6, 14, 0, 0, 0, 128, 448, 1022, 2046, 4095, 8191]
theorem spec_l9Draw.tab7 : rtab .any (opsOf Try.f56 7) = spec_l9Draw.T7 := by kernel_rfl
theorem spec_l9Draw.bits7 : waitsOk spec_l9Draw.T7.2 spec_l9Draw.B7 = true := by kernel_rfl
set_option maxHeartbeats 8000000 in
set_option maxRecDepth 100000 in
theorem spec_l9Draw.calls (k : Nat) (g : Nat) (s0_0 : List Int) (s0_1 : Int) (s0_2 : Int) (r1 : List (S56)) (r2 : Int) (r3 : Int) (w0 w : World) (hI : IsS101 w0 w g s0_0 s0_1 s0_2) (hB : Below w0.heap.size w0 w) (h : spec_l9Draw.f k s0_0 s0_1 s0_2 = some (r1, r2, r3)) :
    Calls Try.prog 56 #[.pointer (some ⟨g, 0, none⟩)] w fun e w' => ∃ v0_ : Value, e = .returned (v0_) ∧ Kd.R k56 56 w' w.heap.size (fun _ => True) v0_ r1 ∧ IsS101 w0 w' g s0_0 r2 r3 ∧ Below w0.heap.size w0 w' ∧ KeepBut w w' g none := by
  have hu56 := Try.underlying56
  have HI0 := mk0 hI
  have HK := mk0 (KeepBut.refl w g none)
  have HL := mk0 hB.size
  clear hI
  have HW0 := mk0 hB.size
  have HB := mk0 hB
  clear hB
  have H : (spec_l9Draw.l0 k (([] : List (S56))) (([(⟨#[105]⟩ : ByteArray), (⟨#[106]⟩ : ByteArray), (⟨#[107]⟩ : ByteArray)] : List ByteArray)) 0 s0_0 s0_1 s0_2) = some (r1, r2, r3) := h
  clear h
  obtain ⟨y159, hy159⟩ : ∃ y_ : List (S56), y_ = (([] : List (S56))) := ⟨_, rfl⟩
  replace H : (spec_l9Draw.l0 k y159 (([(⟨#[105]⟩ : ByteArray), (⟨#[106]⟩ : ByteArray), (⟨#[107]⟩ : ByteArray)] : List ByteArray)) 0 s0_0 s0_1 s0_2) = some (r1, r2, r3) := by first | (rw [hy159]; with_reducible exact H) | (have H2_ := (Option.bind_some _ _).symm.trans H; rw [hy159]; with_reducible exact H2_) | (have H2_ := (Option.bind_some _ _).symm.trans H; with_reducible exact H2_) | with_reducible exact H | (rw [hy159]; exact H) | exact H
  have Ny159 := mk0 hy159
  clear hy159
  obtain ⟨y162, hy162⟩ : ∃ y_ : List ByteArray, y_ = (([(⟨#[105]⟩ : ByteArray), (⟨#[106]⟩ : ByteArray), (⟨#[107]⟩ : ByteArray)] : List ByteArray)) := ⟨_, rfl⟩
  replace H : (spec_l9Draw.l0 k y159 y162 0 s0_0 s0_1 s0_2) = some (r1, r2, r3) := by first | (rw [hy162]; with_reducible exact H) | (have H2_ := (Option.bind_some _ _).symm.trans H; rw [hy162]; with_reducible exact H2_) | (have H2_ := (Option.bind_some _ _).symm.trans H; with_reducible exact H2_) | with_reducible exact H | (rw [hy162]; exact H) | exact H
  have Ny162 := mk0 hy162
  clear hy162
  have H' := mk0 H
  clear H
  go_enter Try.func56, Try.ntmps56
  go_wp2_with (first | ((with_reducible refine gate_dst (N := 7) rfl ?_); refine Kd.R_lit k56 _ 56 ?hg (N := 7) ?hd (xs := ([] : List (S56))) (inner := []) (ok := fun _ => True) (okp := fun _ => True) ?hr ?hp (fun _ hk => hk) trivial (Below.refl _ _) (Nat.le_refl _) (by simp) ?_; (case hd => rfl); (case hg => rfl); (case hr => first | (go_simp; done) | (go_simp; rfl)); (case hp => exact (Reps.none _ _)); intro v160 w2 ho3 hb hg_ hnew_; clear hg_ hnew_; (first | rw [← Ny159.out] at ho3 | (simp only [Int.reduceToNat] at ho3; rw [← Ny159.out] at ho3)); have n0_ := mk0 (Kd.R_lower ho3 (keep_size (w := w) (g := g) (row := none) (by repeat (first | (with_reducible first | exact HK.out | apply KeepBut.set_ | apply keep_drewN | apply keep_drew | apply keep_alloc) | exact HK.out)))); have n1_ := mk0 (IsS101.below (by repeat (first | (with_reducible first | exact HI0.out | apply IsS101.alloc | apply IsS101.drewN | apply IsS101.drew | apply IsS101.set_1 | apply IsS101.set_2) | exact HI0.out)) hb); have n2_ := mk0 (KeepBut.trans (by repeat (first | (with_reducible first | exact HK.out | apply KeepBut.set_ | apply keep_drewN | apply keep_drew | apply keep_alloc) | exact HK.out)) (KeepBut.of_below hb g none) (.inl rfl)); have n3_ := mk0 (below_step (by repeat (first | (with_reducible first | exact HB.out | apply bA | apply bN | apply bD | refine bS ?_ (IsS101.ge HI0.out)) | exact HB.out)) hb); clear HI0; clear HK; clear HB; have HO161 := n0_; have HI0 := n1_; have HK := n2_; have HB := n3_; clear n0_ n1_ n2_ n3_; clear hb ho3) | ((with_reducible refine gate_dst (N := 8) rfl ?_); refine Kd.R_lit Kd.string _ 9 ?hg (N := 8) ?hd (xs := ([(⟨#[105]⟩ : ByteArray), (⟨#[106]⟩ : ByteArray), (⟨#[107]⟩ : ByteArray)] : List ByteArray)) (inner := [.string (⟨#[105]⟩ : ByteArray), .string (⟨#[106]⟩ : ByteArray), .string (⟨#[107]⟩ : ByteArray)]) (ok := fun _ => True) (okp := fun _ => True) ?hr ?hp (fun _ hk => hk) trivial (Below.refl _ _) (Nat.le_refl _) (by simp) ?_; (case hd => rfl); (case hg => rfl); (case hr => first | (go_simp; done) | (go_simp; rfl)); (case hp => exact (Reps.one (show Kd.M Kd.string _ _ _ (⟨#[105]⟩ : ByteArray) [.string (⟨#[105]⟩ : ByteArray)] from rfl) (Reps.one (show Kd.M Kd.string _ _ _ (⟨#[106]⟩ : ByteArray) [.string (⟨#[106]⟩ : ByteArray)] from rfl) (Reps.one (show Kd.M Kd.string _ _ _ (⟨#[107]⟩ : ByteArray) [.string (⟨#[107]⟩ : ByteArray)] from rfl) (Reps.none _ _))))); intro v163 w4 ho5 hb hg_ hnew_; clear hg_ hnew_; (first | rw [← Ny162.out] at ho5 | (simp only [Int.reduceToNat] at ho5; rw [← Ny162.out] at ho5)); have n0_ := mk0 (Kd.R_below (by (with_reducible repeat (first | apply Kd.R_alloc | apply Kd.R_drewN | apply Kd.R_drew)); exact HO161.out) hb); have n1_ := mk0 (Kd.R_lower ho5 (keep_size (w := w) (g := g) (row := none) (by repeat (first | (with_reducible first | exact HK.out | apply KeepBut.set_ | apply keep_drewN | apply keep_drew | apply keep_alloc) | exact HK.out)))); have n2_ := mk0 (IsS101.below (by repeat (first | (with_reducible first | exact HI0.out | apply IsS101.alloc | apply IsS101.drewN | apply IsS101.drew | apply IsS101.set_1 | apply IsS101.set_2) | exact HI0.out)) hb); have n3_ := mk0 (KeepBut.trans (by repeat (first | (with_reducible first | exact HK.out | apply KeepBut.set_ | apply keep_drewN | apply keep_drew | apply keep_alloc) | exact HK.out)) (KeepBut.of_below hb g none) (.inl rfl)); have n4_ := mk0 (below_step (by repeat (first | (with_reducible first | exact HB.out | apply bA | apply bN | apply bD | refine bS ?_ (IsS101.ge HI0.out)) | exact HB.out)) hb); clear HO161; clear HI0; clear HK; clear HB; have HO161 := n0_; have HO164 := n1_; have HI0 := n2_; have HK := n3_; have HB := n4_; clear n0_ n1_ n2_ n3_ n4_; clear hb ho5))
  go_loopg [3, 5] k (fun kq v3 v5 w' => ∃ (x3_1 : List (S56)) (x5_1 : Int) (x1001_1 : Int) (x1002_1 : Int), v5 = .int .i64 x5_1 ∧ Aside0 (spec_l9Draw.l0 kq x3_1 y162 x5_1 s0_0 x1001_1 x1002_1 = some (r1, r2, r3)) ∧ Aside0 (kq ≤ k) ∧ Aside0 (Kd.R k56 56 w' w.heap.size (fun _ => True) v3 x3_1) ∧ Aside0 (Kd.R Kd.string 9 w' w.heap.size (fun _ => True) v163 y162) ∧ Aside0 (IsS101 w0 w' g s0_0 x1001_1 x1002_1) ∧ Aside0 (KeepBut w w' g none) ∧ Aside0 (Below w0.heap.size w0 w'))
  case atStart => exact ⟨(y159), (0), (s0_1), (s0_2), (by first | rfl | (simp; done) | (simp [*]; done)), H', ⟨Nat.le_refl _⟩, ⟨by (with_reducible repeat (first | apply Kd.R_alloc | apply Kd.R_drewN | apply Kd.R_drew)); exact HO161.out⟩, ⟨by (with_reducible repeat (first | apply Kd.R_alloc | apply Kd.R_drewN | apply Kd.R_drew)); exact HO164.out⟩, ⟨by repeat (first | (with_reducible first | exact HI0.out | apply IsS101.alloc | apply IsS101.drewN | apply IsS101.drew | apply IsS101.set_1 | apply IsS101.set_2) | exact HI0.out)⟩, ⟨by repeat (first | (with_reducible first | exact HK.out | apply KeepBut.set_ | apply keep_drewN | apply keep_drew | apply keep_alloc) | exact HK.out)⟩, ⟨by repeat (first | (with_reducible first | exact HB.out | apply bA | apply bN | apply bD | refine bS ?_ (IsS101.ge HI0.out)) | exact HB.out)⟩⟩
  case round =>
    clear H'
    try clear p2
    try clear c5
    obtain ⟨x3_1, x5_1, x1001_1, x1002_1, rfl, HA, HK1, HO_3, HO_4, HI0, HK, HB⟩ := hrel
    cases gk with
    | zero => exact absurd HA.out (by simp [spec_l9Draw.l0])
    | succ k1 =>
      have H := HA.out
      clear HA
      simp only [spec_l9Draw.l0] at H
      by_cases c6 : x5_1 < 3
      · rw [if_pos c6] at H
        have c6b0 : decide (x5_1 < 3) = true := decide_eq_true c6
        clear c6
        replace H := Option.bind_eq_some_iff.mp H
        obtain ⟨⟨t165, t166, t167⟩, A70, H⟩ := H
        replace H : (if 0 ≤ x5_1 then (if x5_1 < (y162.length : Int) then ((spec_l1Below.f s0_0 t166 t167 5).bind fun bt169 => (if x3_1.length < 4398046511104 then (spec_l9Draw.l0 k1 (x3_1 ++ [(⟨rdOf ByteArray.empty y162 x5_1, wrap64 (t165 - 1), wrap64 ((wrap64 (t165 - 1)) + bt169.1)⟩ : S56)]) y162 (wrap64 (x5_1 + 1)) s0_0 bt169.2.1 bt169.2.2) else (none))) else (none)) else (none)) = some (r1, r2, r3) := H
        have A7 := mk0 A70
        clear A70
        by_cases c8 : 0 ≤ x5_1
        · rw [if_pos c8] at H
          have c8b0 : decide (0 ≤ x5_1) = true := decide_eq_true c8
          clear c8
          by_cases c9 : x5_1 < (y162.length : Int)
          · rw [if_pos c9] at H
            have c9b0 : decide (x5_1 < (y162.length : Int)) = true := decide_eq_true c9
            clear c9
            replace H := Option.bind_eq_some_iff.mp H
            obtain ⟨⟨t169, t170, t171⟩, A100, H⟩ := H
            replace H : (if x3_1.length < 4398046511104 then (spec_l9Draw.l0 k1 (x3_1 ++ [(⟨rdOf ByteArray.empty y162 x5_1, wrap64 (t165 - 1), wrap64 ((wrap64 (t165 - 1)) + t169)⟩ : S56)]) y162 (wrap64 (x5_1 + 1)) s0_0 t170 t171) else (none)) = some (r1, r2, r3) := H
            have A10 := mk0 A100
            clear A100
            by_cases c11 : x3_1.length < 4398046511104
            · rw [if_pos c11] at H
              have LMc11 := mk0 c11
              clear c11
              obtain ⟨y172, hy172⟩ : ∃ y_ : List (S56), y_ = (x3_1 ++ [(⟨rdOf ByteArray.empty y162 x5_1, wrap64 (t165 - 1), wrap64 ((wrap64 (t165 - 1)) + t169)⟩ : S56)]) := ⟨_, rfl⟩
              replace H : (spec_l9Draw.l0 k1 y172 y162 (wrap64 (x5_1 + 1)) s0_0 t170 t171) = some (r1, r2, r3) := by first | (rw [hy172]; with_reducible exact H) | (have H2_ := (Option.bind_some _ _).symm.trans H; rw [hy172]; with_reducible exact H2_) | (have H2_ := (Option.bind_some _ _).symm.trans H; with_reducible exact H2_) | with_reducible exact H | (rw [hy172]; exact H) | exact H
              have Ny172 := mk0 hy172
              clear hy172
              have H' := mk0 H
              clear H
              try go_wp2_with (first | ((with_reducible refine gate_callee (f := 80) rfl ?_); refine goesL_ (some 14) rfl rfl Try.func80 (by kernel_rfl) rfl #[.pointer (some ⟨g, 0, none⟩), .int .i64 5] rfl (by (try simp only [List.map_toArray, List.map_cons, List.map_nil]); first | done | rfl) ?_; (with_reducible refine (spec_l1Below.calls g s0_0 x1001_1 x1002_1 5 t165 t166 t167 w0 _ ?side1 ?side2 A7.out).mono ?_); (case side1 => repeat (first | (with_reducible first | exact HI0.out | apply IsS101.alloc | apply IsS101.drewN | apply IsS101.drew | apply IsS101.set_1 | apply IsS101.set_2) | exact HI0.out)); (case side2 => repeat (first | (with_reducible first | exact HB.out | apply bA | apply bN | apply bD | refine bS ?_ (IsS101.ge HI0.out)) | exact HB.out)); rintro e w12 ⟨rfl, hi, hb, hk⟩; refine ⟨_, rfl, ?_⟩; have n0_ := mk0 (Kd.R_mono (Kd.R_keep (IsS101.apart (show IsS101 w0 _ g s0_0 x1001_1 x1002_1 from by repeat (first | (with_reducible first | exact HI0.out | apply IsS101.alloc | apply IsS101.drewN | apply IsS101.drew | apply IsS101.set_1 | apply IsS101.set_2) | exact HI0.out)) (by (with_reducible repeat (first | apply Kd.R_alloc | apply Kd.R_drewN | apply Kd.R_drew)); exact HO_3.out) (by decide)) hk (fun _ h => h.2)) (fun _ h => h.1)); have n1_ := mk0 (Kd.R_mono (Kd.R_keep (IsS101.apart (show IsS101 w0 _ g s0_0 x1001_1 x1002_1 from by repeat (first | (with_reducible first | exact HI0.out | apply IsS101.alloc | apply IsS101.drewN | apply IsS101.drew | apply IsS101.set_1 | apply IsS101.set_2) | exact HI0.out)) (by (with_reducible repeat (first | apply Kd.R_alloc | apply Kd.R_drewN | apply Kd.R_drew)); exact HO_4.out) (by decide)) hk (fun _ h => h.2)) (fun _ h => h.1)); have n2_ := mk0 (KeepBut.trans (by repeat (first | (with_reducible first | exact HK.out | apply KeepBut.set_ | apply keep_drewN | apply keep_drew | apply keep_alloc) | exact HK.out)) hk (.inl rfl)); have n3_ := mk0 (hb); have n4_ := mk0 (hi); clear HO_3; clear HO_4; clear HK; clear HB; clear HI0; have HO_3 := n0_; have HO_4 := n1_; have HK := n2_; have HB := n3_; have HI0 := n4_; clear n0_ n1_ n2_ n3_ n4_; (try clear hb); (try clear hb2); (try clear hk); (try clear hi)))
              have n0_ := mk0 (Kd.R_drew HO_3.out)
              have n1_ := mk0 (Kd.R_drew HO_4.out)
              have n2_ := mk0 (IsS101.drew HI0.out)
              have n3_ := mk0 (keep_drew HK.out)
              have n4_ := mk0 (bD HB.out)
              clear HO_3
              clear HO_4
              clear HI0
              clear HK
              clear HB
              have HO_3 := n0_
              have HO_4 := n1_
              have HI0 := n2_
              have HK := n3_
              have HB := n4_
              clear n0_ n1_ n2_ n3_ n4_
              obtain ⟨Ao14, co14, eo14⟩ := Kd.R_slice HO_4.out
              (first | subst eo14 | (injection eo14 with f1_ f2_ f3_; have f4_ := f1_.symm; have f5_ := f3_.symm; clear f1_ f2_ f3_; subst f4_; subst f5_))
              have p168 : 0 ≤ (x5_1 : Int) := of_decide_eq_true (by first | (with_reducible assumption) | assumption)
              have q168 : x5_1 < (y162.length : Int) := of_decide_eq_true (by first | (with_reducible assumption) | assumption)
              obtain ⟨ad168, e168, hx168_0⟩ := Kd.at_string (Kd.R_reads' HO_4.out).2.2 x5_1 p168 q168
              cases e168
              replace p168 := eq_true p168
              replace q168 := eq_true q168
              refine start_ (n := 14) (S := fun w' => w'.cell? (ad168.add (x5_1).toNat) = some (.string (rdOf ByteArray.empty y162 x5_1))) (ds := [11, 12]) #[false, false, false, false, false, false, false, false, false, false, false, false, false, false] (by kernel_rfl) rfl rfl (hx168_0) (fun hHeld => ?_); refine with_tabW spec_l9Draw.tab7 spec_l9Draw.bits7 (fun HT_ HW_ => ?_)
              generalize w12.drew = w13 at HO_3 HO_4 HI0 HK HB hx168_0 hHeld ⊢
              refine pure_ (i := 0) (N := some 16) (v := ?_) (a' := ?_) #[true, false, false, false, false, false, false, false, false, false, false, false, false, false] rfl rfl (any_of HT_.out (by kernel_rfl)) (fun _ _ _ h => h) (Or.inl ⟨by rfl, ?_⟩) ?_ ?_
              rotate_left
              · intro w'
                go_simp
                with_reducible rfl
              rotate_left
              · simp only [Act.put, List.setIfInBounds_toArray, List.set_cons_zero, List.set_cons_succ, i64_w, i32_w]
                rfl
              refine pure_ (i := 1) (N := some 17) (v := ?_) (a' := ?_) #[true, true, false, false, false, false, false, false, false, false, false, false, false, false] rfl rfl (any_of HT_.out (by kernel_rfl)) (fun _ _ _ h => h) (Or.inl ⟨by rfl, ?_⟩) ?_ ?_
              rotate_left
              · intro w'
                go_simp
                with_reducible rfl
              rotate_left
              · simp only [Act.put, List.setIfInBounds_toArray, List.set_cons_zero, List.set_cons_succ, i64_w, i32_w]
                rfl
              refine pure_ (i := 2) (N := some 18) (v := ?_) (a' := ?_) #[true, true, true, false, false, false, false, false, false, false, false, false, false, false] rfl rfl (any_of HT_.out (by kernel_rfl)) (fun _ _ _ h => h) (Or.inl ⟨by rfl, ?_⟩) ?_ ?_
              rotate_left
              · intro w'
                go_simp
                with_reducible rfl
              rotate_left
              · simp only [Act.put, List.setIfInBounds_toArray, List.set_cons_zero, List.set_cons_succ, i64_w, i32_w]
                rfl
              refine pure_ (i := 3) (N := some 19) (v := ?_) (a' := ?_) #[true, true, true, true, false, false, false, false, false, false, false, false, false, false] rfl rfl (any_of HT_.out (by kernel_rfl)) (fun _ _ _ h => h) (Or.inl ⟨by rfl, ?_⟩) ?_ ?_
              rotate_left
              · intro w'
                go_simp
                with_reducible rfl
              rotate_left
              · simp only [Act.put, List.setIfInBounds_toArray, List.set_cons_zero, List.set_cons_succ, i64_w, i32_w]
                rfl
              refine pure_ (i := 5) (N := some 21) (v := ?_) (a' := ?_) #[true, true, true, true, false, true, false, false, false, false, false, false, false, false] rfl rfl (any_of HT_.out (by kernel_rfl)) (fun _ _ _ h => h) (Or.inl ⟨by rfl, ?_⟩) ?_ ?_
              rotate_left
              · intro w'
                go_simp
                with_reducible rfl
              rotate_left
              · simp only [Act.put, List.setIfInBounds_toArray, List.set_cons_zero, List.set_cons_succ, i64_w, i32_w]
                rfl
              refine pure_ (i := 6) (N := some 22) (v := ?_) (a' := ?_) #[true, true, true, true, false, true, true, false, false, false, false, false, false, false] rfl rfl (any_of HT_.out (by kernel_rfl)) (fun _ _ _ h => h) (Or.inl ⟨by rfl, ?_⟩) ?_ ?_
              rotate_left
              · intro w'
                go_simp
                with_reducible rfl
              rotate_left
              · simp only [Act.put, List.setIfInBounds_toArray, List.set_cons_zero, List.set_cons_succ, i64_w, i32_w]
                rfl
              refine pure_ (i := 7) (N := some 23) (v := ?_) (a' := ?_) #[true, true, true, true, false, true, true, true, false, false, false, false, false, false] rfl rfl (any_of HT_.out (by kernel_rfl)) (fun _ _ _ h => h) (Or.inl ⟨by rfl, ?_⟩) ?_ ?_
              rotate_left
              · intro w'
                go_simp
                with_reducible rfl
              rotate_left
              · simp only [Act.put, List.setIfInBounds_toArray, List.set_cons_zero, List.set_cons_succ, i64_w, i32_w]
                rfl
              refine take_ (i := 4) (N := some 20) (v := ?_) (a' := ?_) #[true, true, true, true, true, true, true, true, false, false, false, false, false, false] rfl rfl (take_ofW HT_.out HW_.out (by kernel_rfl)) (fun _ _ _ h => h) (Or.inl ⟨by rfl, ?_⟩) hHeld ?_ ?_
              rotate_left
              · intro w' s0
                go_simp
                with_reducible rfl
              rotate_left
              · simp only [Act.put, List.setIfInBounds_toArray, List.set_cons_zero, List.set_cons_succ, i64_w, i32_w]
                rfl
              refine one_ (i := 8) (N := some 24) #[true, true, true, true, true, true, true, true, true, false, false, false, false, false] rfl rfl (one_of HT_.out (by kernel_rfl)) (by decide) (fun K hK => ?_)
              refine goes_ Try.func80 (by kernel_rfl) rfl #[.pointer (some ⟨g, 0, none⟩), .int .i64 5] (by rfl) rfl rfl (by (try simp only [List.map_toArray, List.map_cons, List.map_nil]); first | done | rfl) ?_
              with_reducible refine (spec_l1Below.calls g s0_0 t166 t167 5 t169 t170 t171 w0 _ ?side1 ?side2 A10.out).mono ?_
              (case side1 => repeat (first | (with_reducible first | exact HI0.out | apply IsS101.alloc | apply IsS101.drewN | apply IsS101.drew | apply IsS101.set_1 | apply IsS101.set_2) | exact HI0.out))
              (case side2 => repeat (first | (with_reducible first | exact HB.out | apply bA | apply bN | apply bD | refine bS ?_ (IsS101.ge HI0.out)) | exact HB.out))
              rintro e w15 ⟨rfl, hi, hb, hk⟩
              have HS0_ := keep_cell hk (hHeld) (by first | (rw [add_block]; exact Kd.own_blk (IsS101.own_ne HI0.out HO_4.out (by decide))) | (show (Addr.add _ _).block ≠ _; rw [add_block]; exact Kd.own_blk (IsS101.own_ne HI0.out HO_4.out (by decide))) | exact Kd.own_blk (IsS101.own_ne HI0.out HO_4.out (by decide)))
              refine ⟨_, rfl, ?_⟩
              have n0_ := mk0 (Kd.R_mono (Kd.R_keep (IsS101.apart (show IsS101 w0 _ g s0_0 t166 t167 from by repeat (first | (with_reducible first | exact HI0.out | apply IsS101.alloc | apply IsS101.drewN | apply IsS101.drew | apply IsS101.set_1 | apply IsS101.set_2) | exact HI0.out)) (by (with_reducible repeat (first | apply Kd.R_alloc | apply Kd.R_drewN | apply Kd.R_drew)); exact HO_3.out) (by decide)) hk (fun _ h => h.2)) (fun _ h => h.1))
              have n1_ := mk0 (Kd.R_mono (Kd.R_keep (IsS101.apart (show IsS101 w0 _ g s0_0 t166 t167 from by repeat (first | (with_reducible first | exact HI0.out | apply IsS101.alloc | apply IsS101.drewN | apply IsS101.drew | apply IsS101.set_1 | apply IsS101.set_2) | exact HI0.out)) (by (with_reducible repeat (first | apply Kd.R_alloc | apply Kd.R_drewN | apply Kd.R_drew)); exact HO_4.out) (by decide)) hk (fun _ h => h.2)) (fun _ h => h.1))
              have n2_ := mk0 (KeepBut.trans (by repeat (first | (with_reducible first | exact HK.out | apply KeepBut.set_ | apply keep_drewN | apply keep_drew | apply keep_alloc) | exact HK.out)) hk (.inl rfl))
              have n3_ := mk0 (hb)
              have n4_ := mk0 (hi)
              clear HO_3
              clear HO_4
              clear HK
              clear HB
              clear HI0
              have HO_3 := n0_
              have HO_4 := n1_
              have HK := n2_
              have HB := n3_
              have HI0 := n4_
              clear n0_ n1_ n2_ n3_ n4_
              (try clear hb)
              (try clear hb2)
              (try clear hk)
              (try clear hi)
              refine hK.out _ _ (HS0_) (fun hHeld => ?_)
              clear hK K
              refine norm_ (a' := ?_) ?_ ?_
              rotate_left
              · show Act.put _ (some 24) _ = _
                simp only [Act.put, List.setIfInBounds_toArray, List.set_cons_zero, List.set_cons_succ, i64_w, i32_w]
                rfl
              refine pure_ (i := 9) (N := some 25) (v := ?_) (a' := ?_) #[true, true, true, true, true, true, true, true, true, true, false, false, false, false] rfl rfl (any_of HT_.out (by kernel_rfl)) (fun _ _ _ h => h) (Or.inl ⟨by rfl, ?_⟩) ?_ ?_
              rotate_left
              · intro w'
                go_simp
                with_reducible rfl
              rotate_left
              · simp only [Act.put, List.setIfInBounds_toArray, List.set_cons_zero, List.set_cons_succ, i64_w, i32_w]
                rfl
              refine pure_ (i := 10) (N := some 26) (v := ?_) (a' := ?_) #[true, true, true, true, true, true, true, true, true, true, true, false, false, false] rfl rfl (any_of HT_.out (by kernel_rfl)) (fun _ _ _ h => h) (Or.inl ⟨by rfl, ?_⟩) ?_ ?_
              rotate_left
              · intro w'
                go_simp
                with_reducible rfl
              rotate_left
              · simp only [Act.put, List.setIfInBounds_toArray, List.set_cons_zero, List.set_cons_succ, i64_w, i32_w]
                rfl
              refine last_ (i := 11) (N := some 27) #[true, true, true, true, true, true, true, true, true, true, true, true, false, false] rfl rfl (one_of HT_.out (by kernel_rfl)) (by decide) (fun K hK => ?_)
              refine value_ (w1 := ?_) (v := ?_) (by rfl) rfl ?_ ?_
              rotate_left 2
              · go_simp
                constructor
                · rfl
                · rfl
              refine hK.out _ _ ?_
              clear hK K
              refine norm_ (a' := ?_) ?_ ?_
              rotate_left
              · show Act.put _ (some 27) _ = _
                simp only [Act.put, List.setIfInBounds_toArray, List.set_cons_zero, List.set_cons_succ, i64_w, i32_w]
                rfl
              refine last_ (i := 12) (N := some 28) #[true, true, true, true, true, true, true, true, true, true, true, true, true, false] rfl rfl (one_of HT_.out (by kernel_rfl)) (by decide) (fun K hK => ?_)
              refine Kd.R_append_step k56 w.heap.size (by rfl) (.tmp 16) (.tmp 27) 51 56 (.agg #[(.string ⟨#[]⟩), (.int .i64 0), (.int .i64 0)]) 32 rfl Try.underlying51 info56 rfl (by decide) (by omega) u3 x3_1 (⟨rdOf ByteArray.empty y162 x5_1, wrap64 (t165 - 1), wrap64 ((wrap64 (t165 - 1)) + t169)⟩ : S56) [.string (rdOf ByteArray.empty y162 x5_1), .int .i64 (wrap64 (t165 - 1)), .int .i64 (wrap64 ((wrap64 (t165 - 1)) + t169))] (fun _ => True) (fun _ => False) rfl rfl ?aP (fun _ hk => hk.elim) ?aF ?aO (Below.refl _ _) ?aS ?aL ?_
              (case aP => exact k56_mkM _ _ _ (⟨rdOf ByteArray.empty y162 x5_1, wrap64 (t165 - 1), wrap64 ((wrap64 (t165 - 1)) + t169)⟩ : S56))
              (case aF => exact (fun _ _ => trivial))
              (case aO => exact (by (with_reducible repeat (first | apply Kd.R_alloc | apply Kd.R_drewN | apply Kd.R_drew)); exact HO_3.out))
              (case aS => exact (keep_size (w := w) (g := g) (row := none) (by repeat (first | (with_reducible first | exact HK.out | apply KeepBut.set_ | apply keep_drewN | apply keep_drew | apply keep_alloc) | exact HK.out))))
              (case aL => have := LMc11.out; omega)
              intro v173 w16 ho hb hg hat
              rw [← Ny172.out] at ho
              have n0_ := mk0 (Kd.R_over' (by (with_reducible repeat (first | apply Kd.R_alloc | apply Kd.R_drewN | apply Kd.R_drew)); exact HO_4.out) (Kd.R_typed (by (with_reducible repeat (first | apply Kd.R_alloc | apply Kd.R_drewN | apply Kd.R_drew)); exact HO_3.out)) (by decide) hg)
              have n1_ := mk0 (IsS101.grown (by repeat (first | (with_reducible first | exact HI0.out | apply IsS101.alloc | apply IsS101.drewN | apply IsS101.drew | apply IsS101.set_1 | apply IsS101.set_2) | exact HI0.out)) hg (IsS101.own_ne HI0.out HO_3.out (by decide)))
              have n2_ := mk0 (below_weaken (by repeat (first | (with_reducible first | exact HB.out | apply bA | apply bN | apply bD | refine bS ?_ (IsS101.ge HI0.out)) | exact HB.out)) HL.out hb)
              have n3_ := mk0 (KeepBut.trans (by repeat (first | (with_reducible first | exact HK.out | apply KeepBut.set_ | apply keep_drewN | apply keep_drew | apply keep_alloc) | exact HK.out)) (KeepBut.of_grown hg g) (Kd.R_base2 HO_3.out))
              have n4_ := mk0 (ho)
              clear HO_4
              clear HI0
              clear HB
              clear HK
              clear HO_3
              have HO_4 := n0_
              have HI0 := n1_
              have HB := n2_
              have HK := n3_
              have HO174 := n4_
              clear n0_ n1_ n2_ n3_ n4_
              clear ho hb hg hat
              refine hK.out _ _ ?_
              clear hK K
              refine norm_ (a' := ?_) ?_ ?_
              rotate_left
              · show Act.put _ (some 28) _ = _
                simp only [Act.put, List.setIfInBounds_toArray, List.set_cons_zero, List.set_cons_succ, i64_w, i32_w]
                rfl
              refine pure_ (i := 13) (N := some 3) (v := ?_) (a' := ?_) #[true, true, true, true, true, true, true, true, true, true, true, true, true, true] rfl rfl (any_of HT_.out (by kernel_rfl)) (fun _ _ _ h => h) (Or.inl ⟨by rfl, ?_⟩) ?_ ?_
              rotate_left
              · intro w'
                go_simp
                with_reducible rfl
              rotate_left
              · simp only [Act.put, List.setIfInBounds_toArray, List.set_cons_zero, List.set_cons_succ, i64_w, i32_w]
                rfl
              refine done_ (done_of HT_.out (by kernel_rfl)) ?_
              try go_wp2
              go_roundg k1
              case measure => have := HK1.out; omega
              case rel => exact ⟨(y172), (wrap64 (x5_1 + 1)), (t170), (t171), (by first | rfl | (simp; done) | (simp [*]; done)), H', ⟨by have := HK1.out; omega⟩, ⟨by (with_reducible repeat (first | apply Kd.R_alloc | apply Kd.R_drewN | apply Kd.R_drew)); exact HO174.out⟩, ⟨by (with_reducible repeat (first | apply Kd.R_alloc | apply Kd.R_drewN | apply Kd.R_drew)); exact HO_4.out⟩, ⟨by repeat (first | (with_reducible first | exact HI0.out | apply IsS101.alloc | apply IsS101.drewN | apply IsS101.drew | apply IsS101.set_1 | apply IsS101.set_2) | exact HI0.out)⟩, ⟨by repeat (first | (with_reducible first | exact HK.out | apply KeepBut.set_ | apply keep_drewN | apply keep_drew | apply keep_alloc) | exact HK.out)⟩, ⟨by repeat (first | (with_reducible first | exact HB.out | apply bA | apply bN | apply bD | refine bS ?_ (IsS101.ge HI0.out)) | exact HB.out)⟩⟩
            · rw [if_neg c11] at H
              exact absurd H (by simp)
          · rw [if_neg c9] at H
            exact absurd H (by simp)
        · rw [if_neg c8] at H
          exact absurd H (by simp)
      · rw [if_neg c6] at H
        have c6b0 : decide (x5_1 < 3) = false := decide_eq_false c6
        clear c6
        simp only [Option.some.injEq, Prod.mk.injEq] at H
        obtain ⟨rfl, rfl, rfl⟩ := H
        go_wp2
        go_ret
        exact ⟨_, by first | rfl | (simp [errW_none, errW_some] <;> rfl) | (simp [*, errW_none, errW_some] <;> rfl), by (with_reducible repeat (first | apply Kd.R_alloc | apply Kd.R_drewN | apply Kd.R_drew)); exact HO_3.out, by repeat (first | (with_reducible first | exact HI0.out | apply IsS101.alloc | apply IsS101.drewN | apply IsS101.drew | apply IsS101.set_1 | apply IsS101.set_2) | exact HI0.out), by repeat (first | (with_reducible first | exact HB.out | apply bA | apply bN | apply bD | refine bS ?_ (IsS101.ge HI0.out)) | exact HB.out), by repeat (first | (with_reducible first | exact HK.out | apply KeepBut.set_ | apply keep_drewN | apply keep_drew | apply keep_alloc) | exact HK.out)⟩

/-! ### spec_DrawMeets: function 30 -/
def spec_DrawMeets.j0 : Nat → List Int → Int → Int → Int → List (S70) → Int → List (S70) → Option (Int × (List (S70)) × Int × (List (S70)) × (List (S56)))
  | 0, _, _, _, _, _, _, _ => none
  | k + 1, x181000, x181001, x181002, x188000, x188001, x195000, x195001 => (spec_l1Once.f x181000 x181001 x181002 3).bind fun bt204 => (if bt204.1 = true then ((spec_l8Draw.f k x181000 bt204.2.1 bt204.2.2).bind fun bt207 => ((spec_l9Draw.f k x181000 bt207.2.2.1 bt207.2.2.2).bind fun bt213 => (some (x188000, x188001, bt207.1, bt207.2.1, bt213.1)))) else ((spec_l9Draw.f k x181000 bt204.2.1 bt204.2.2).bind fun bt218 => (some (x188000, x188001, x195000, x195001, bt218.1))))
def spec_DrawMeets.f (k : Nat) (l0 : List Int) : Option (Int × (List (S70)) × Int × (List (S70)) × (List (S56))) := (spec_l1New.f k l0).bind fun bt177 => ((spec_l8One.f bt177.1 bt177.2.1 bt177.2.2).bind fun bt181 => ((spec_l8One.f bt177.1 bt181.2.2.1 bt181.2.2.2).bind fun bt188 => ((spec_l1Once.f bt177.1 bt188.2.2.1 bt188.2.2.2 2).bind fun bt195 => (if bt195.1 = true then ((spec_l8Draw.f k bt177.1 bt195.2.1 bt195.2.2).bind fun bt198 => (spec_DrawMeets.j0 k bt177.1 bt198.2.2.1 bt198.2.2.2 bt198.1 bt198.2.1 bt188.1 bt188.2.1)) else (spec_DrawMeets.j0 k bt177.1 bt195.2.1 bt195.2.2 bt181.1 bt181.2.1 bt188.1 bt188.2.1)))))
theorem spec_DrawMeets.mono_l : ∀ k, (∀ y0 y1 y2 y3 y4 y5 y6, LeO (spec_DrawMeets.j0 k y0 y1 y2 y3 y4 y5 y6) (spec_DrawMeets.j0 (k + 1) y0 y1 y2 y3 y4 y5 y6))
  | 0 => fun _ _ _ _ _ _ _ r h => by simp [spec_DrawMeets.j0] at h
  | k + 1 => by
    have ih0 := spec_DrawMeets.mono_l k
    · intro y0 y1 y2 y3 y4 y5 y6
      unfold spec_DrawMeets.j0
      repeat' first
      | (with_reducible exact ih0 _ _ _ _ _ _ _)
      | (with_reducible exact spec_l1New.mono _ _)
      | (with_reducible exact spec_l8Draw.mono _ _ _ _)
      | (with_reducible exact spec_l9Draw.mono _ _ _ _)
      | (with_reducible exact LeO.refl _)
      | (with_reducible exact LeO.none _)
      | (with_reducible refine LeO.ite ?_ ?_)
      | (with_reducible refine LeO.bind ?_ (fun _ => ?_))
      | exact ih0 _ _ _ _ _ _ _
      | exact spec_l1New.mono _ _
      | exact spec_l8Draw.mono _ _ _ _
      | exact spec_l9Draw.mono _ _ _ _
      | exact LeO.none _
      | refine LeO.ite ?_ ?_
      | refine LeO.bind ?_ (fun _ => ?_)
theorem spec_DrawMeets.mono : ∀ a0 k, LeO (spec_DrawMeets.f k a0) (spec_DrawMeets.f (k + 1) a0) := by
  intro a0 k
  have ih0 := spec_DrawMeets.mono_l k
  unfold spec_DrawMeets.f
  repeat' first
      | (with_reducible exact ih0 _ _ _ _ _ _ _)
      | (with_reducible exact spec_l1New.mono _ _)
      | (with_reducible exact spec_l8Draw.mono _ _ _ _)
      | (with_reducible exact spec_l9Draw.mono _ _ _ _)
      | (with_reducible exact LeO.refl _)
      | (with_reducible exact LeO.none _)
      | (with_reducible refine LeO.ite ?_ ?_)
      | (with_reducible refine LeO.bind ?_ (fun _ => ?_))
      | exact ih0 _ _ _ _ _ _ _
      | exact spec_l1New.mono _ _
      | exact spec_l8Draw.mono _ _ _ _
      | exact spec_l9Draw.mono _ _ _ _
      | exact LeO.none _
      | refine LeO.ite ?_ ?_
      | refine LeO.bind ?_ (fun _ => ?_)
set_option maxHeartbeats 8000000 in
set_option maxRecDepth 100000 in
theorem spec_DrawMeets.calls (k : Nat) (A0 : Option Addr) (c0 : Nat) (l0 : List Int) (r1 : Int) (r2 : List (S70)) (r3 : Int) (r4 : List (S70)) (r5 : List (S56)) (w : World) (hr0 : Kd.C (Kd.int .u8) w A0 l0.length l0) (hc0 : l0.length ≤ c0) (h : spec_DrawMeets.f k l0 = some (r1, r2, r3, r4, r5)) :
    Calls Try.prog 30 #[.slice A0 l0.length c0] w fun e w' => ∃ v1_ v3_ v4_ : Value, e = .returned (.tuple #[.agg #[.int .i64 r1, v1_], .agg #[.int .i64 r3, v3_], v4_]) ∧ Kd.R k70 70 w' w.heap.size (fun k_ => some k_ ≠ (v3_ : Value).ownBlock) v1_ r2 ∧ Kd.R k70 70 w' w.heap.size (fun k_ => some k_ ≠ (v1_ : Value).ownBlock) v3_ r4 ∧ Kd.R k56 56 w' w.heap.size (fun _ => True) v4_ r5 ∧ Below w.heap.size w w' := by
  have hu28 := Try.underlying28
  have HR0 := mk0 hr0
  have HC0 := mk0 hc0
  clear hr0 hc0
  have HB := mk0 (Below.refl w.heap.size w)
  have H : ((spec_l1New.f k l0).bind fun bt177 => ((spec_l8One.f bt177.1 bt177.2.1 bt177.2.2).bind fun bt181 => ((spec_l8One.f bt177.1 bt181.2.2.1 bt181.2.2.2).bind fun bt188 => ((spec_l1Once.f bt177.1 bt188.2.2.1 bt188.2.2.2 2).bind fun bt195 => (if bt195.1 = true then ((spec_l8Draw.f k bt177.1 bt195.2.1 bt195.2.2).bind fun bt198 => (spec_DrawMeets.j0 k bt177.1 bt198.2.2.1 bt198.2.2.2 bt198.1 bt198.2.1 bt188.1 bt188.2.1)) else (spec_DrawMeets.j0 k bt177.1 bt195.2.1 bt195.2.2 bt181.1 bt181.2.1 bt188.1 bt188.2.1)))))) = some (r1, r2, r3, r4, r5) := h
  clear h
  replace H := Option.bind_eq_some_iff.mp H
  obtain ⟨⟨t177, t178, t179⟩, A20, H⟩ := H
  replace H : ((spec_l8One.f t177 t178 t179).bind fun bt181 => ((spec_l8One.f t177 bt181.2.2.1 bt181.2.2.2).bind fun bt188 => ((spec_l1Once.f t177 bt188.2.2.1 bt188.2.2.2 2).bind fun bt195 => (if bt195.1 = true then ((spec_l8Draw.f k t177 bt195.2.1 bt195.2.2).bind fun bt198 => (spec_DrawMeets.j0 k t177 bt198.2.2.1 bt198.2.2.2 bt198.1 bt198.2.1 bt188.1 bt188.2.1)) else (spec_DrawMeets.j0 k t177 bt195.2.1 bt195.2.2 bt181.1 bt181.2.1 bt188.1 bt188.2.1))))) = some (r1, r2, r3, r4, r5) := H
  have A2 := mk0 A20
  clear A20
  replace H := Option.bind_eq_some_iff.mp H
  obtain ⟨⟨t181, t182, t185, t186⟩, A30, H⟩ := H
  replace H : ((spec_l8One.f t177 t185 t186).bind fun bt188 => ((spec_l1Once.f t177 bt188.2.2.1 bt188.2.2.2 2).bind fun bt195 => (if bt195.1 = true then ((spec_l8Draw.f k t177 bt195.2.1 bt195.2.2).bind fun bt198 => (spec_DrawMeets.j0 k t177 bt198.2.2.1 bt198.2.2.2 bt198.1 bt198.2.1 bt188.1 bt188.2.1)) else (spec_DrawMeets.j0 k t177 bt195.2.1 bt195.2.2 t181 t182 bt188.1 bt188.2.1)))) = some (r1, r2, r3, r4, r5) := H
  have A3 := mk0 A30
  clear A30
  replace H := Option.bind_eq_some_iff.mp H
  obtain ⟨⟨t188, t189, t192, t193⟩, A40, H⟩ := H
  replace H : ((spec_l1Once.f t177 t192 t193 2).bind fun bt195 => (if bt195.1 = true then ((spec_l8Draw.f k t177 bt195.2.1 bt195.2.2).bind fun bt198 => (spec_DrawMeets.j0 k t177 bt198.2.2.1 bt198.2.2.2 bt198.1 bt198.2.1 t188 t189)) else (spec_DrawMeets.j0 k t177 bt195.2.1 bt195.2.2 t181 t182 t188 t189))) = some (r1, r2, r3, r4, r5) := H
  have A4 := mk0 A40
  clear A40
  replace H := Option.bind_eq_some_iff.mp H
  obtain ⟨⟨t195, t196, t197⟩, A50, H⟩ := H
  replace H : (if t195 = true then ((spec_l8Draw.f k t177 t196 t197).bind fun bt198 => (spec_DrawMeets.j0 k t177 bt198.2.2.1 bt198.2.2.2 bt198.1 bt198.2.1 t188 t189)) else (spec_DrawMeets.j0 k t177 t196 t197 t181 t182 t188 t189)) = some (r1, r2, r3, r4, r5) := H
  have A5 := mk0 A50
  clear A50
  have HC6 := mk0 H
  clear H
  go_enter Try.func30, Try.ntmps30
  go_upto_if 15 with (first | ((with_reducible refine gate_dst (N := 2) rfl ?_); refine box_event ?hg (N := 2) ?hd (cs := #[.int .i64 0, .slice none 0 0]) (t := 28) ?hr ?_; (case hd => rfl); (case hg => rfl); (case hr => first | (go_simp; done) | (go_simp; rfl)); intro gb175 hg w7 hbox hb; have q_ := qB (by repeat (first | (with_reducible first | exact HB.out | apply bA | apply bN | apply bD) | exact HB.out)) hb; have n0_ := mk0 (below_step q_ hb); have n1_ := mk0 (hbox); have n2_ := mk0 (below_size2 q_ hg); have n3_ := n2_; clear HB; have HB := n0_; have BK175 := n1_; have GW175 := n2_; have GE175 := n3_; clear q_ n0_ n1_ n2_ n3_; clear hb hbox hg) | ((with_reducible refine gate_dst (N := 3) rfl ?_); refine box_event ?hg (N := 3) ?hd (cs := #[.int .i64 0, .slice none 0 0]) (t := 28) ?hr ?_; (case hd => rfl); (case hg => rfl); (case hr => first | (go_simp; done) | (go_simp; rfl)); intro gb176 hg w8 hbox hb; have q_ := qB (by repeat (first | (with_reducible first | exact HB.out | apply bA | apply bN | apply bD | refine bS ?_ GE175.out) | exact HB.out)) hb; have n0_ := mk0 (blk_below (by (with_reducible repeat (first | refine kN ?_ _ | refine kD ?_ | refine kA ?_ _)); exact BK175.out) hb); have n1_ := mk0 (below_step q_ hb); have n2_ := mk0 (hbox); have n3_ := mk0 (below_size2 q_ hg); have n4_ := n3_; have n5_ := mk0 ((by rw [hg]; exact Nat.ne_of_lt (blk_lt (by (with_reducible repeat (first | refine kN ?_ _ | refine kD ?_ | refine kA ?_ _)); exact BK175.out)) : gb175 ≠ gb176)); have n6_ := mk0 ((by rw [hg]; exact Nat.ne_of_gt (blk_lt (by (with_reducible repeat (first | refine kN ?_ _ | refine kD ?_ | refine kA ?_ _)); exact BK175.out)) : gb176 ≠ gb175)); clear BK175; clear HB; have BK175 := n0_; have HB := n1_; have BK176 := n2_; have GW176 := n3_; have GE176 := n4_; have NB175_176 := n5_; have NB176_175 := n6_; clear q_ n0_ n1_ n2_ n3_ n4_ n5_ n6_; clear hb hbox hg) | ((with_reducible refine gate_callee (f := 44) rfl ?_); refine goesL_ (some 9) rfl rfl Try.func44 (by kernel_rfl) rfl #[.slice A0 l0.length c0] rfl (by (try simp only [List.map_toArray, List.map_cons, List.map_nil]); first | done | rfl) ?_; (with_reducible refine (spec_l1New.calls k _ _ l0 t177 t178 t179 w _ ?side1 ?side2 ?side3 A2.out).mono ?_); (case side1 => repeat (first | (with_reducible first | exact HB.out | apply bA | apply bN | apply bD | refine bS ?_ GE175.out | refine bS ?_ GE176.out) | exact HB.out)); (case side2 => exact HR0.out); (case side3 => exact HC0.out); rintro e w9 ⟨g180, rfl, hi, hb, hb2⟩; refine ⟨_, rfl, ?_⟩; have n0_ := mk0 (blk_below (by (with_reducible repeat (first | refine kN ?_ _ | refine kD ?_ | refine kA ?_ _)); exact BK175.out) hb2); have n1_ := mk0 (blk_below (by (with_reducible repeat (first | refine kN ?_ _ | refine kD ?_ | refine kA ?_ _)); exact BK176.out) hb2); have n2_ := mk0 (hb); have n3_ := mk0 (hi); have n4_ := mk0 (IsS101.ne_blk hi (blk_below (by (with_reducible repeat (first | refine kN ?_ _ | refine kD ?_ | refine kA ?_ _)); exact BK175.out) hb2) (by decide)); have n5_ := mk0 (Ne.symm (IsS101.ne_blk hi (blk_below (by (with_reducible repeat (first | refine kN ?_ _ | refine kD ?_ | refine kA ?_ _)); exact BK175.out) hb2) (by decide))); have n6_ := mk0 (IsS101.ne_blk hi (blk_below (by (with_reducible repeat (first | refine kN ?_ _ | refine kD ?_ | refine kA ?_ _)); exact BK176.out) hb2) (by decide)); have n7_ := mk0 (Ne.symm (IsS101.ne_blk hi (blk_below (by (with_reducible repeat (first | refine kN ?_ _ | refine kD ?_ | refine kA ?_ _)); exact BK176.out) hb2) (by decide))); clear BK175; clear BK176; clear HB; have BK175 := n0_; have BK176 := n1_; have HB := n2_; have HI180 := n3_; have NB180_175 := n4_; have NB175_180 := n5_; have NB180_176 := n6_; have NB176_180 := n7_; clear n0_ n1_ n2_ n3_ n4_ n5_ n6_ n7_; (try clear hb); (try clear hb2); (try clear hk); (try clear hi)) | ((with_reducible refine gate_callee (f := 54) rfl ?_); refine goesL_ (some 11) rfl rfl Try.func54 (by kernel_rfl) rfl #[.pointer (some ⟨g180, 0, none⟩)] rfl (by (try simp only [List.map_toArray, List.map_cons, List.map_nil]); first | done | rfl) ?_; (with_reducible refine (spec_l8One.calls g180 t177 t178 t179 t181 t182 t185 t186 w _ ?side1 ?side2 A3.out).mono ?_); (case side1 => repeat (first | (with_reducible first | exact HI180.out | apply IsS101.alloc | apply IsS101.drewN | apply IsS101.drew | apply IsS101.set_1 | apply IsS101.set_2 | refine IsS101.far ?_ NB180_175.out _ | refine IsS101.far ?_ NB180_176.out _) | exact HI180.out)); (case side2 => repeat (first | (with_reducible first | exact HB.out | apply bA | apply bN | apply bD | refine bS ?_ (IsS101.ge HI180.out) | refine bS ?_ GE175.out | refine bS ?_ GE176.out) | exact HB.out)); rintro e w10 ⟨v183, rfl, ho0, hi, hb, hk⟩; refine ⟨_, rfl, ?_⟩; have n0_ := mk0 (KeepBut.blk hk (g' := gb175) (o := .cells #[.int .i64 0, .slice none 0 0] 28 (0, 0)) (by (with_reducible repeat (first | refine kN ?_ _ | refine kD ?_ | refine kA ?_ _)); exact BK175.out) NB175_180.out (by simp)); have n1_ := mk0 (KeepBut.blk hk (g' := gb176) (o := .cells #[.int .i64 0, .slice none 0 0] 28 (0, 0)) (by (with_reducible repeat (first | refine kN ?_ _ | refine kD ?_ | refine kA ?_ _)); exact BK176.out) NB176_180.out (by simp)); have n2_ := mk0 (Kd.R_lower ho0 (below_size (by repeat (first | (with_reducible first | exact HB.out | apply bA | apply bN | apply bD | refine bS ?_ (IsS101.ge HI180.out) | refine bS ?_ GE175.out | refine bS ?_ GE176.out) | exact HB.out)))); have n3_ := mk0 (hb); have n4_ := mk0 (hi); clear BK175; clear BK176; clear HB; clear HI180; have BK175 := n0_; have BK176 := n1_; have HO184 := n2_; have HB := n3_; have HI180 := n4_; clear n0_ n1_ n2_ n3_ n4_; (try clear hb); (try clear hb2); (try clear hk); (try clear hi); (try clear ho0)) | ((with_reducible refine gate_dst (N := 6) rfl ?_); refine box_event ?hg (N := 6) ?hd (cs := #[.int .i64 0, .slice none 0 0]) (t := 28) ?hr ?_; (case hd => rfl); (case hg => rfl); (case hr => first | (go_simp; done) | (go_simp; rfl)); intro gb187 hg w11 hbox hb; have n0_ := mk0 (Kd.R_below (by (with_reducible repeat (first | apply Kd.R_alloc | apply Kd.R_drewN | apply Kd.R_drew)); exact HO184.out) hb); have n1_ := mk0 (blk_below (by (with_reducible repeat (first | refine kN ?_ _ | refine kD ?_ | refine kA ?_ _)); exact BK175.out) hb); have n2_ := mk0 (blk_below (by (with_reducible repeat (first | refine kN ?_ _ | refine kD ?_ | refine kA ?_ _)); exact BK176.out) hb); have n3_ := mk0 (IsS101.below (by repeat (first | (with_reducible first | exact HI180.out | apply IsS101.alloc | apply IsS101.drewN | apply IsS101.drew | apply IsS101.set_1 | apply IsS101.set_2 | refine IsS101.far ?_ NB180_175.out _ | refine IsS101.far ?_ NB180_176.out _) | exact HI180.out)) hb); have n4_ := mk0 (below_step (by repeat (first | (with_reducible first | exact HB.out | apply bA | apply bN | apply bD | refine bS ?_ (IsS101.ge HI180.out) | refine bS ?_ GE175.out | refine bS ?_ GE176.out) | exact HB.out)) hb); have n5_ := mk0 (hbox); have n6_ := mk0 ((by rw [hg]; exact (below_size (by repeat (first | (with_reducible first | exact HB.out | apply bA | apply bN | apply bD | refine bS ?_ (IsS101.ge HI180.out) | refine bS ?_ GE175.out | refine bS ?_ GE176.out) | exact HB.out))) : w.heap.size ≤ gb187)); have n7_ := n6_; have n8_ := mk0 ((by rw [hg]; exact Nat.ne_of_lt (blk_lt (by (with_reducible repeat (first | refine kN ?_ _ | refine kD ?_ | refine kA ?_ _)); exact BK175.out)) : gb175 ≠ gb187)); have n9_ := mk0 ((by rw [hg]; exact Nat.ne_of_gt (blk_lt (by (with_reducible repeat (first | refine kN ?_ _ | refine kD ?_ | refine kA ?_ _)); exact BK175.out)) : gb187 ≠ gb175)); have n10_ := mk0 ((by rw [hg]; exact Nat.ne_of_lt (blk_lt (by (with_reducible repeat (first | refine kN ?_ _ | refine kD ?_ | refine kA ?_ _)); exact BK176.out)) : gb176 ≠ gb187)); have n11_ := mk0 ((by rw [hg]; exact Nat.ne_of_gt (blk_lt (by (with_reducible repeat (first | refine kN ?_ _ | refine kD ?_ | refine kA ?_ _)); exact BK176.out)) : gb187 ≠ gb176)); have n12_ := mk0 ((by rw [hg]; exact Nat.ne_of_lt (IsS101.lt (show IsS101 w _ g180 t177 t185 t186 from by repeat (first | (with_reducible first | exact HI180.out | apply IsS101.alloc | apply IsS101.drewN | apply IsS101.drew | apply IsS101.set_1 | apply IsS101.set_2 | refine IsS101.far ?_ NB180_175.out _ | refine IsS101.far ?_ NB180_176.out _) | exact HI180.out))) : g180 ≠ gb187)); have n13_ := mk0 ((by rw [hg]; exact Nat.ne_of_gt (IsS101.lt (show IsS101 w _ g180 t177 t185 t186 from by repeat (first | (with_reducible first | exact HI180.out | apply IsS101.alloc | apply IsS101.drewN | apply IsS101.drew | apply IsS101.set_1 | apply IsS101.set_2 | refine IsS101.far ?_ NB180_175.out _ | refine IsS101.far ?_ NB180_176.out _) | exact HI180.out))) : gb187 ≠ g180)); clear HO184; clear BK175; clear BK176; clear HI180; clear HB; have HO184 := n0_; have BK175 := n1_; have BK176 := n2_; have HI180 := n3_; have HB := n4_; have BK187 := n5_; have GW187 := n6_; have GE187 := n7_; have NB175_187 := n8_; have NB187_175 := n9_; have NB176_187 := n10_; have NB187_176 := n11_; have NB180_187 := n12_; have NB187_180 := n13_; clear n0_ n1_ n2_ n3_ n4_ n5_ n6_ n7_ n8_ n9_ n10_ n11_ n12_ n13_; clear hb hbox hg; have hnb12 := NB187_175.out; have hnc12 := NB175_187.out; have hnb13 := NB187_176.out; have hnc13 := NB176_187.out; have hnb14 := NB187_180.out; have hnc14 := NB180_187.out; have z15 := bc2 BK187.out; obtain ⟨Ao16, co16, eo16⟩ := Kd.R_slice HO184.out; subst eo16) | ((with_reducible refine gate_callee (f := 54) rfl ?_); refine goesL_ (some 13) rfl rfl Try.func54 (by kernel_rfl) rfl #[.pointer (some ⟨g180, 0, none⟩)] rfl (by (try simp only [List.map_toArray, List.map_cons, List.map_nil]); first | done | rfl) ?_; (with_reducible refine (spec_l8One.calls g180 t177 t185 t186 t188 t189 t192 t193 w _ ?side1 ?side2 A4.out).mono ?_); (case side1 => repeat (first | (with_reducible first | exact HI180.out | apply IsS101.alloc | apply IsS101.drewN | apply IsS101.drew | apply IsS101.set_1 | apply IsS101.set_2 | refine IsS101.far ?_ NB180_175.out _ | refine IsS101.far ?_ NB180_176.out _ | refine IsS101.far ?_ NB180_187.out _) | exact HI180.out)); (case side2 => repeat (first | (with_reducible first | exact HB.out | apply bA | apply bN | apply bD | refine bS ?_ (IsS101.ge HI180.out) | refine bS ?_ GE175.out | refine bS ?_ GE176.out | refine bS ?_ GE187.out) | exact HB.out)); rintro e w17 ⟨v190, rfl, ho0, hi, hb, hk⟩; refine ⟨_, rfl, ?_⟩; have n0_ := mk0 (KeepBut.blk hk (g' := gb175) (o := .cells #[.int .i64 0, .slice none 0 0] 28 (0, 0)) (by (with_reducible repeat (first | refine kN ?_ _ | refine kD ?_ | refine kA ?_ _)); refine blk_far ?_ NB175_187.out _; (with_reducible repeat (first | refine kN ?_ _ | refine kD ?_ | refine kA ?_ _)); refine blk_far ?_ NB175_187.out _; (with_reducible repeat (first | refine kN ?_ _ | refine kD ?_ | refine kA ?_ _)); exact BK175.out) NB175_180.out (by simp)); have n1_ := mk0 (KeepBut.blk hk (g' := gb176) (o := .cells #[.int .i64 0, .slice none 0 0] 28 (0, 0)) (by (with_reducible repeat (first | refine kN ?_ _ | refine kD ?_ | refine kA ?_ _)); refine blk_far ?_ NB176_187.out _; (with_reducible repeat (first | refine kN ?_ _ | refine kD ?_ | refine kA ?_ _)); refine blk_far ?_ NB176_187.out _; (with_reducible repeat (first | refine kN ?_ _ | refine kD ?_ | refine kA ?_ _)); exact BK176.out) NB176_180.out (by simp)); have n2_ := mk0 (Kd.R_mono (Kd.R_told (Kd.R_oldK (IsS101.apart (show IsS101 w _ g180 t177 t185 t186 from by repeat (first | (with_reducible first | exact HI180.out | apply IsS101.alloc | apply IsS101.drewN | apply IsS101.drew | apply IsS101.set_1 | apply IsS101.set_2 | refine IsS101.far ?_ NB180_175.out _ | refine IsS101.far ?_ NB180_176.out _ | refine IsS101.far ?_ NB180_187.out _) | exact HI180.out)) (by (with_reducible repeat (first | apply Kd.R_alloc | apply Kd.R_drewN | apply Kd.R_drew)); exact (Kd.R_mono (Kd.R_far (p := ⟨gb187, 1, none⟩) (Kd.R_far (p := ⟨gb187, 0, none⟩) (Kd.R_types HO184.out BK187.out (by decide)) (fun _ hk => hk.2) (.int .i64 t181)) (fun _ hk => hk.2) (.slice Ao16 t182.length co16)) (fun _ h_ => h_.1))) (by decide)) hk) (Kd.R_base ho0)) (fun _ h_ => h_.1)); have n3_ := mk0 (KeepBut.blk hk (g' := gb187) (o := .cells #[.int .i64 t181, .slice Ao16 t182.length co16] 28 (0, 0)) (by (with_reducible repeat (first | refine kN ?_ _ | refine kD ?_ | refine kA ?_ _)); refine blk_put (cs := #[.int .i64 t181, .slice none 0 0]) ?_ 1 _ rfl; (with_reducible repeat (first | refine kN ?_ _ | refine kD ?_ | refine kA ?_ _)); refine blk_put (cs := #[.int .i64 0, .slice none 0 0]) ?_ 0 _ rfl; (with_reducible repeat (first | refine kN ?_ _ | refine kD ?_ | refine kA ?_ _)); exact BK187.out) NB187_180.out (by simp)); have n4_ := mk0 (Kd.R_lower (Kd.R_new' ho0 (Kd.R_lt (by (with_reducible repeat (first | apply Kd.R_alloc | apply Kd.R_drewN | apply Kd.R_drew)); exact (Kd.R_mono (Kd.R_far (p := ⟨gb187, 1, none⟩) (Kd.R_far (p := ⟨gb187, 0, none⟩) (Kd.R_types HO184.out BK187.out (by decide)) (fun _ hk => hk.2) (.int .i64 t181)) (fun _ hk => hk.2) (.slice Ao16 t182.length co16)) (fun _ h_ => h_.1))))) (below_size (by repeat (first | (with_reducible first | exact HB.out | apply bA | apply bN | apply bD | refine bS ?_ (IsS101.ge HI180.out) | refine bS ?_ GE175.out | refine bS ?_ GE176.out | refine bS ?_ GE187.out) | exact HB.out)))); have n5_ := mk0 (hb); have n6_ := mk0 (hi); clear BK175; clear BK176; clear HO184; clear BK187; clear HB; clear HI180; have BK175 := n0_; have BK176 := n1_; have HO184 := n2_; have BK187 := n3_; have HO191 := n4_; have HB := n5_; have HI180 := n6_; clear n0_ n1_ n2_ n3_ n4_ n5_ n6_; (try clear hb); (try clear hb2); (try clear hk); (try clear hi); (try clear ho0)) | ((with_reducible refine gate_dst (N := 7) rfl ?_); refine box_event ?hg (N := 7) ?hd (cs := #[.int .i64 0, .slice none 0 0]) (t := 28) ?hr ?_; (case hd => rfl); (case hg => rfl); (case hr => first | (go_simp; done) | (go_simp; rfl)); intro gb194 hg w18 hbox hb; have n0_ := mk0 (Kd.R_below (by (with_reducible repeat (first | apply Kd.R_alloc | apply Kd.R_drewN | apply Kd.R_drew)); exact HO184.out) hb); have n1_ := mk0 (Kd.R_below (by (with_reducible repeat (first | apply Kd.R_alloc | apply Kd.R_drewN | apply Kd.R_drew)); exact HO191.out) hb); have n2_ := mk0 (blk_below (by (with_reducible repeat (first | refine kN ?_ _ | refine kD ?_ | refine kA ?_ _)); exact BK175.out) hb); have n3_ := mk0 (blk_below (by (with_reducible repeat (first | refine kN ?_ _ | refine kD ?_ | refine kA ?_ _)); exact BK176.out) hb); have n4_ := mk0 (IsS101.below (by repeat (first | (with_reducible first | exact HI180.out | apply IsS101.alloc | apply IsS101.drewN | apply IsS101.drew | apply IsS101.set_1 | apply IsS101.set_2 | refine IsS101.far ?_ NB180_175.out _ | refine IsS101.far ?_ NB180_176.out _ | refine IsS101.far ?_ NB180_187.out _) | exact HI180.out)) hb); have n5_ := mk0 (blk_below (by (with_reducible repeat (first | refine kN ?_ _ | refine kD ?_ | refine kA ?_ _)); exact BK187.out) hb); have n6_ := mk0 (below_step (by repeat (first | (with_reducible first | exact HB.out | apply bA | apply bN | apply bD | refine bS ?_ (IsS101.ge HI180.out) | refine bS ?_ GE175.out | refine bS ?_ GE176.out | refine bS ?_ GE187.out) | exact HB.out)) hb); have n7_ := mk0 (hbox); have n8_ := mk0 ((by rw [hg]; exact (below_size (by repeat (first | (with_reducible first | exact HB.out | apply bA | apply bN | apply bD | refine bS ?_ (IsS101.ge HI180.out) | refine bS ?_ GE175.out | refine bS ?_ GE176.out | refine bS ?_ GE187.out) | exact HB.out))) : w.heap.size ≤ gb194)); have n9_ := n8_; have n10_ := mk0 ((by rw [hg]; exact Nat.ne_of_lt (blk_lt (by (with_reducible repeat (first | refine kN ?_ _ | refine kD ?_ | refine kA ?_ _)); exact BK175.out)) : gb175 ≠ gb194)); have n11_ := mk0 ((by rw [hg]; exact Nat.ne_of_gt (blk_lt (by (with_reducible repeat (first | refine kN ?_ _ | refine kD ?_ | refine kA ?_ _)); exact BK175.out)) : gb194 ≠ gb175)); have n12_ := mk0 ((by rw [hg]; exact Nat.ne_of_lt (blk_lt (by (with_reducible repeat (first | refine kN ?_ _ | refine kD ?_ | refine kA ?_ _)); exact BK176.out)) : gb176 ≠ gb194)); have n13_ := mk0 ((by rw [hg]; exact Nat.ne_of_gt (blk_lt (by (with_reducible repeat (first | refine kN ?_ _ | refine kD ?_ | refine kA ?_ _)); exact BK176.out)) : gb194 ≠ gb176)); have n14_ := mk0 ((by rw [hg]; exact Nat.ne_of_lt (blk_lt (by (with_reducible repeat (first | refine kN ?_ _ | refine kD ?_ | refine kA ?_ _)); exact BK187.out)) : gb187 ≠ gb194)); have n15_ := mk0 ((by rw [hg]; exact Nat.ne_of_gt (blk_lt (by (with_reducible repeat (first | refine kN ?_ _ | refine kD ?_ | refine kA ?_ _)); exact BK187.out)) : gb194 ≠ gb187)); have n16_ := mk0 ((by rw [hg]; exact Nat.ne_of_lt (IsS101.lt (show IsS101 w _ g180 t177 t192 t193 from by repeat (first | (with_reducible first | exact HI180.out | apply IsS101.alloc | apply IsS101.drewN | apply IsS101.drew | apply IsS101.set_1 | apply IsS101.set_2 | refine IsS101.far ?_ NB180_175.out _ | refine IsS101.far ?_ NB180_176.out _ | refine IsS101.far ?_ NB180_187.out _) | exact HI180.out))) : g180 ≠ gb194)); have n17_ := mk0 ((by rw [hg]; exact Nat.ne_of_gt (IsS101.lt (show IsS101 w _ g180 t177 t192 t193 from by repeat (first | (with_reducible first | exact HI180.out | apply IsS101.alloc | apply IsS101.drewN | apply IsS101.drew | apply IsS101.set_1 | apply IsS101.set_2 | refine IsS101.far ?_ NB180_175.out _ | refine IsS101.far ?_ NB180_176.out _ | refine IsS101.far ?_ NB180_187.out _) | exact HI180.out))) : gb194 ≠ g180)); clear HO184; clear HO191; clear BK175; clear BK176; clear HI180; clear BK187; clear HB; have HO184 := n0_; have HO191 := n1_; have BK175 := n2_; have BK176 := n3_; have HI180 := n4_; have BK187 := n5_; have HB := n6_; have BK194 := n7_; have GW194 := n8_; have GE194 := n9_; have NB175_194 := n10_; have NB194_175 := n11_; have NB176_194 := n12_; have NB194_176 := n13_; have NB187_194 := n14_; have NB194_187 := n15_; have NB180_194 := n16_; have NB194_180 := n17_; clear n0_ n1_ n2_ n3_ n4_ n5_ n6_ n7_ n8_ n9_ n10_ n11_ n12_ n13_ n14_ n15_ n16_ n17_; clear hb hbox hg; have hnb19 := NB194_175.out; have hnc19 := NB175_194.out; have hnb20 := NB194_176.out; have hnc20 := NB176_194.out; have hnb21 := NB194_187.out; have hnc21 := NB187_194.out; have hnb22 := NB194_180.out; have hnc22 := NB180_194.out; have z23 := bc2 BK194.out; obtain ⟨Ao24, co24, eo24⟩ := Kd.R_slice HO191.out; subst eo24) | ((with_reducible refine gate_callee (f := 55) rfl ?_); refine goesL_ (some 15) rfl rfl Try.func55 (by kernel_rfl) rfl #[.pointer (some ⟨g180, 0, none⟩), .int .i64 2] rfl (by (try simp only [List.map_toArray, List.map_cons, List.map_nil]); first | done | rfl) ?_; (with_reducible refine (spec_l1Once.calls g180 t177 t192 t193 2 t195 t196 t197 w _ ?side1 ?side2 A5.out).mono ?_); (case side1 => repeat (first | (with_reducible first | exact HI180.out | apply IsS101.alloc | apply IsS101.drewN | apply IsS101.drew | apply IsS101.set_1 | apply IsS101.set_2 | refine IsS101.far ?_ NB180_175.out _ | refine IsS101.far ?_ NB180_176.out _ | refine IsS101.far ?_ NB180_187.out _ | refine IsS101.far ?_ NB180_194.out _) | exact HI180.out)); (case side2 => repeat (first | (with_reducible first | exact HB.out | apply bA | apply bN | apply bD | refine bS ?_ (IsS101.ge HI180.out) | refine bS ?_ GE175.out | refine bS ?_ GE176.out | refine bS ?_ GE187.out | refine bS ?_ GE194.out) | exact HB.out)); rintro e w25 ⟨rfl, hi, hb, hk⟩; refine ⟨_, rfl, ?_⟩; have n0_ := mk0 (KeepBut.blk hk (g' := gb175) (o := .cells #[.int .i64 0, .slice none 0 0] 28 (0, 0)) (by (with_reducible repeat (first | refine kN ?_ _ | refine kD ?_ | refine kA ?_ _)); refine blk_far ?_ NB175_194.out _; (with_reducible repeat (first | refine kN ?_ _ | refine kD ?_ | refine kA ?_ _)); refine blk_far ?_ NB175_194.out _; (with_reducible repeat (first | refine kN ?_ _ | refine kD ?_ | refine kA ?_ _)); exact BK175.out) NB175_180.out (by simp)); have n1_ := mk0 (KeepBut.blk hk (g' := gb176) (o := .cells #[.int .i64 0, .slice none 0 0] 28 (0, 0)) (by (with_reducible repeat (first | refine kN ?_ _ | refine kD ?_ | refine kA ?_ _)); refine blk_far ?_ NB176_194.out _; (with_reducible repeat (first | refine kN ?_ _ | refine kD ?_ | refine kA ?_ _)); refine blk_far ?_ NB176_194.out _; (with_reducible repeat (first | refine kN ?_ _ | refine kD ?_ | refine kA ?_ _)); exact BK176.out) NB176_180.out (by simp)); have n2_ := mk0 (Kd.R_mono (Kd.R_keep (IsS101.apart (show IsS101 w _ g180 t177 t192 t193 from by repeat (first | (with_reducible first | exact HI180.out | apply IsS101.alloc | apply IsS101.drewN | apply IsS101.drew | apply IsS101.set_1 | apply IsS101.set_2 | refine IsS101.far ?_ NB180_175.out _ | refine IsS101.far ?_ NB180_176.out _ | refine IsS101.far ?_ NB180_187.out _ | refine IsS101.far ?_ NB180_194.out _) | exact HI180.out)) (by (with_reducible repeat (first | apply Kd.R_alloc | apply Kd.R_drewN | apply Kd.R_drew)); exact (Kd.R_mono (Kd.R_far (p := ⟨gb194, 1, none⟩) (Kd.R_far (p := ⟨gb194, 0, none⟩) (Kd.R_types HO184.out BK194.out (by decide)) (fun _ hk => hk.2) (.int .i64 t188)) (fun _ hk => hk.2) (.slice Ao24 t189.length co24)) (fun _ h_ => h_.1))) (by decide)) hk (fun _ h => h.2)) (fun _ h => h.1)); have n3_ := mk0 (KeepBut.blk hk (g' := gb187) (o := .cells #[.int .i64 t181, .slice Ao16 t182.length co16] 28 (0, 0)) (by (with_reducible repeat (first | refine kN ?_ _ | refine kD ?_ | refine kA ?_ _)); refine blk_far ?_ NB187_194.out _; (with_reducible repeat (first | refine kN ?_ _ | refine kD ?_ | refine kA ?_ _)); refine blk_far ?_ NB187_194.out _; (with_reducible repeat (first | refine kN ?_ _ | refine kD ?_ | refine kA ?_ _)); exact BK187.out) NB187_180.out (by simp)); have n4_ := mk0 (Kd.R_mono (Kd.R_keep (IsS101.apart (show IsS101 w _ g180 t177 t192 t193 from by repeat (first | (with_reducible first | exact HI180.out | apply IsS101.alloc | apply IsS101.drewN | apply IsS101.drew | apply IsS101.set_1 | apply IsS101.set_2 | refine IsS101.far ?_ NB180_175.out _ | refine IsS101.far ?_ NB180_176.out _ | refine IsS101.far ?_ NB180_187.out _ | refine IsS101.far ?_ NB180_194.out _) | exact HI180.out)) (by (with_reducible repeat (first | apply Kd.R_alloc | apply Kd.R_drewN | apply Kd.R_drew)); exact (Kd.R_mono (Kd.R_far (p := ⟨gb194, 1, none⟩) (Kd.R_far (p := ⟨gb194, 0, none⟩) (Kd.R_types HO191.out BK194.out (by decide)) (fun _ hk => hk.2) (.int .i64 t188)) (fun _ hk => hk.2) (.slice Ao24 t189.length co24)) (fun _ h_ => h_.1))) (by decide)) hk (fun _ h => h.2)) (fun _ h => h.1)); have n5_ := mk0 (KeepBut.blk hk (g' := gb194) (o := .cells #[.int .i64 t188, .slice Ao24 t189.length co24] 28 (0, 0)) (by (with_reducible repeat (first | refine kN ?_ _ | refine kD ?_ | refine kA ?_ _)); refine blk_put (cs := #[.int .i64 t188, .slice none 0 0]) ?_ 1 _ rfl; (with_reducible repeat (first | refine kN ?_ _ | refine kD ?_ | refine kA ?_ _)); refine blk_put (cs := #[.int .i64 0, .slice none 0 0]) ?_ 0 _ rfl; (with_reducible repeat (first | refine kN ?_ _ | refine kD ?_ | refine kA ?_ _)); exact BK194.out) NB194_180.out (by simp)); have n6_ := mk0 (hb); have n7_ := mk0 (hi); clear BK175; clear BK176; clear HO184; clear BK187; clear HO191; clear BK194; clear HB; clear HI180; have BK175 := n0_; have BK176 := n1_; have HO184 := n2_; have BK187 := n3_; have HO191 := n4_; have BK194 := n5_; have HB := n6_; have HI180 := n7_; clear n0_ n1_ n2_ n3_ n4_ n5_ n6_ n7_; (try clear hb); (try clear hb2); (try clear hk); (try clear hi)))
  (try simp only [Act.put, List.setIfInBounds_toArray, List.set_cons_zero, List.set_cons_succ])
  go_cut [] (fun wc => ∃ (kq : Nat) (x181001_5 : Int) (x181002_5 : Int) (x188000_5 : Int) (x188001_5 : List (S70)) (u188001 : Value), Aside0 (spec_DrawMeets.j0 kq t177 x181001_5 x181002_5 x188000_5 x188001_5 t188 t189 = some (r1, r2, r3, r4, r5)) ∧ Aside0 (kq ≤ k) ∧ Aside0 (Kd.R k70 70 wc w.heap.size (fun k_ => some k_ ≠ ((.slice Ao24 t189.length co24) : Value).ownBlock) u188001 x188001_5) ∧ Aside0 (Kd.R k70 70 wc w.heap.size (fun k_ => some k_ ≠ (u188001 : Value).ownBlock) (.slice Ao24 t189.length co24) t189) ∧ Aside0 (wc.heap[gb175]? = some (.cells #[.int .i64 0, (.slice none 0 0)] 28 (0, 0))) ∧ Aside0 (wc.heap[gb176]? = some (.cells #[.int .i64 0, (.slice none 0 0)] 28 (0, 0))) ∧ Aside0 (wc.heap[gb187]? = some (.cells #[.int .i64 x188000_5, u188001] 28 (0, 0))) ∧ Aside0 (wc.heap[gb194]? = some (.cells #[.int .i64 t188, (.slice Ao24 t189.length co24)] 28 (0, 0))) ∧ Aside0 (IsS101 w wc g180 t177 x181001_5 x181002_5) ∧ Aside0 (Below w.heap.size w wc))
  case first =>
    have H := HC6.out
    clear HC6
    by_cases c26 : t195 = true
    · subst c26
      rw [if_pos rfl] at H
      replace H := Option.bind_eq_some_iff.mp H
      obtain ⟨⟨t198, t199, t202, t203⟩, A270, H⟩ := H
      replace H : (spec_DrawMeets.j0 k t177 t202 t203 t198 t199 t188 t189) = some (r1, r2, r3, r4, r5) := H
      have A27 := mk0 A270
      clear A270
      have H' := mk0 H
      clear H
      go_wp2_with (first | ((with_reducible refine gate_callee (f := 45) rfl ?_); refine goesL_ (some 17) rfl rfl Try.func45 (by kernel_rfl) rfl #[.pointer (some ⟨g180, 0, none⟩)] rfl (by (try simp only [List.map_toArray, List.map_cons, List.map_nil]); first | done | rfl) ?_; (with_reducible refine (spec_l8Draw.calls k g180 t177 t196 t197 t198 t199 t202 t203 w _ ?side1 ?side2 A27.out).mono ?_); (case side1 => repeat (first | (with_reducible first | exact HI180.out | apply IsS101.alloc | apply IsS101.drewN | apply IsS101.drew | apply IsS101.set_1 | apply IsS101.set_2 | refine IsS101.far ?_ NB180_175.out _ | refine IsS101.far ?_ NB180_176.out _ | refine IsS101.far ?_ NB180_187.out _ | refine IsS101.far ?_ NB180_194.out _) | exact HI180.out)); (case side2 => repeat (first | (with_reducible first | exact HB.out | apply bA | apply bN | apply bD | refine bS ?_ (IsS101.ge HI180.out) | refine bS ?_ GE175.out | refine bS ?_ GE176.out | refine bS ?_ GE187.out | refine bS ?_ GE194.out) | exact HB.out)); rintro e w28 ⟨v200, rfl, ho0, hi, hb, hk⟩; refine ⟨_, rfl, ?_⟩; have n0_ := mk0 (KeepBut.blk hk (g' := gb175) (o := .cells #[.int .i64 0, .slice none 0 0] 28 (0, 0)) (by (with_reducible repeat (first | refine kN ?_ _ | refine kD ?_ | refine kA ?_ _)); exact BK175.out) NB175_180.out (by simp)); have n1_ := mk0 (KeepBut.blk hk (g' := gb176) (o := .cells #[.int .i64 0, .slice none 0 0] 28 (0, 0)) (by (with_reducible repeat (first | refine kN ?_ _ | refine kD ?_ | refine kA ?_ _)); exact BK176.out) NB176_180.out (by simp)); have n2_ := mk0 (Kd.R_mono (Kd.R_told (Kd.R_oldK (IsS101.apart (show IsS101 w _ g180 t177 t196 t197 from by repeat (first | (with_reducible first | exact HI180.out | apply IsS101.alloc | apply IsS101.drewN | apply IsS101.drew | apply IsS101.set_1 | apply IsS101.set_2 | refine IsS101.far ?_ NB180_175.out _ | refine IsS101.far ?_ NB180_176.out _ | refine IsS101.far ?_ NB180_187.out _ | refine IsS101.far ?_ NB180_194.out _) | exact HI180.out)) (by (with_reducible repeat (first | apply Kd.R_alloc | apply Kd.R_drewN | apply Kd.R_drew)); exact HO184.out) (by decide)) hk) (Kd.R_base ho0)) (fun _ h_ => h_.1)); have n3_ := mk0 (KeepBut.blk hk (g' := gb187) (o := .cells #[.int .i64 t181, .slice Ao16 t182.length co16] 28 (0, 0)) (by (with_reducible repeat (first | refine kN ?_ _ | refine kD ?_ | refine kA ?_ _)); exact BK187.out) NB187_180.out (by simp)); have n4_ := mk0 (Kd.R_mono (Kd.R_told (Kd.R_oldK (IsS101.apart (show IsS101 w _ g180 t177 t196 t197 from by repeat (first | (with_reducible first | exact HI180.out | apply IsS101.alloc | apply IsS101.drewN | apply IsS101.drew | apply IsS101.set_1 | apply IsS101.set_2 | refine IsS101.far ?_ NB180_175.out _ | refine IsS101.far ?_ NB180_176.out _ | refine IsS101.far ?_ NB180_187.out _ | refine IsS101.far ?_ NB180_194.out _) | exact HI180.out)) (by (with_reducible repeat (first | apply Kd.R_alloc | apply Kd.R_drewN | apply Kd.R_drew)); exact HO191.out) (by decide)) hk) (Kd.R_base ho0)) (fun _ h_ => h_.1)); have n5_ := mk0 (KeepBut.blk hk (g' := gb194) (o := .cells #[.int .i64 t188, .slice Ao24 t189.length co24] 28 (0, 0)) (by (with_reducible repeat (first | refine kN ?_ _ | refine kD ?_ | refine kA ?_ _)); exact BK194.out) NB194_180.out (by simp)); have n6_ := mk0 (Kd.R_lower (Kd.R_new' (Kd.R_new' ho0 (Kd.R_lt (by (with_reducible repeat (first | apply Kd.R_alloc | apply Kd.R_drewN | apply Kd.R_drew)); exact HO184.out))) (Kd.R_lt (by (with_reducible repeat (first | apply Kd.R_alloc | apply Kd.R_drewN | apply Kd.R_drew)); exact HO191.out))) (below_size (by repeat (first | (with_reducible first | exact HB.out | apply bA | apply bN | apply bD | refine bS ?_ (IsS101.ge HI180.out) | refine bS ?_ GE175.out | refine bS ?_ GE176.out | refine bS ?_ GE187.out | refine bS ?_ GE194.out) | exact HB.out)))); have n7_ := mk0 (hb); have n8_ := mk0 (hi); clear BK175; clear BK176; clear HO184; clear BK187; clear HO191; clear BK194; clear HB; clear HI180; have BK175 := n0_; have BK176 := n1_; have HO184 := n2_; have BK187 := n3_; have HO191 := n4_; have BK194 := n5_; have HO201 := n6_; have HB := n7_; have HI180 := n8_; clear n0_ n1_ n2_ n3_ n4_ n5_ n6_ n7_ n8_; (try clear hb); (try clear hb2); (try clear hk); (try clear hi); (try clear ho0); have hnb29 := NB187_175.out; have hnc29 := NB175_187.out; have hnb30 := NB187_176.out; have hnc30 := NB176_187.out; have hnb31 := NB187_194.out; have hnc31 := NB194_187.out; have hnb32 := NB187_180.out; have hnc32 := NB180_187.out; have z33 := bc2 BK187.out; obtain ⟨Ao34, co34, eo34⟩ := Kd.R_slice HO201.out; subst eo34))
      go_meet
      case rel => exact ⟨_, (t202), (t203), (t198), (t199), (.slice Ao34 t199.length co34), H', ⟨by first | omega | exact Nat.le_refl _⟩, ⟨by (with_reducible repeat (first | apply Kd.R_alloc | apply Kd.R_drewN | apply Kd.R_drew)); exact Kd.R_mono (Kd.R_far (p := ⟨gb187, 1, none⟩) (Kd.R_far (p := ⟨gb187, 0, none⟩) (Kd.R_types HO201.out BK187.out (by decide)) (fun _ hk => hk.2) (.int .i64 t198)) (fun _ hk => hk.2) (.slice Ao34 t199.length co34)) (fun _ hk => hk.1.2)⟩, ⟨by (with_reducible repeat (first | apply Kd.R_alloc | apply Kd.R_drewN | apply Kd.R_drew)); exact Kd.R_mono (Kd.R_far (p := ⟨gb187, 1, none⟩) (Kd.R_far (p := ⟨gb187, 0, none⟩) (Kd.R_types HO191.out BK187.out (by decide)) (fun _ hk => hk.2) (.int .i64 t198)) (fun _ hk => hk.2) (.slice Ao34 t199.length co34)) (fun _ hk => hk.1.2)⟩, ⟨by (with_reducible repeat (first | refine kN ?_ _ | refine kD ?_ | refine kA ?_ _)); refine blk_far ?_ NB175_187.out _; (with_reducible repeat (first | refine kN ?_ _ | refine kD ?_ | refine kA ?_ _)); refine blk_far ?_ NB175_187.out _; (with_reducible repeat (first | refine kN ?_ _ | refine kD ?_ | refine kA ?_ _)); exact BK175.out⟩, ⟨by (with_reducible repeat (first | refine kN ?_ _ | refine kD ?_ | refine kA ?_ _)); refine blk_far ?_ NB176_187.out _; (with_reducible repeat (first | refine kN ?_ _ | refine kD ?_ | refine kA ?_ _)); refine blk_far ?_ NB176_187.out _; (with_reducible repeat (first | refine kN ?_ _ | refine kD ?_ | refine kA ?_ _)); exact BK176.out⟩, ⟨by (with_reducible repeat (first | refine kN ?_ _ | refine kD ?_ | refine kA ?_ _)); refine blk_put (cs := #[.int .i64 t198, .slice Ao16 t182.length co16]) ?_ 1 _ rfl; (with_reducible repeat (first | refine kN ?_ _ | refine kD ?_ | refine kA ?_ _)); refine blk_put (cs := #[.int .i64 t181, .slice Ao16 t182.length co16]) ?_ 0 _ rfl; (with_reducible repeat (first | refine kN ?_ _ | refine kD ?_ | refine kA ?_ _)); exact BK187.out⟩, ⟨by (with_reducible repeat (first | refine kN ?_ _ | refine kD ?_ | refine kA ?_ _)); refine blk_far ?_ NB194_187.out _; (with_reducible repeat (first | refine kN ?_ _ | refine kD ?_ | refine kA ?_ _)); refine blk_far ?_ NB194_187.out _; (with_reducible repeat (first | refine kN ?_ _ | refine kD ?_ | refine kA ?_ _)); exact BK194.out⟩, ⟨by repeat (first | (with_reducible first | exact HI180.out | apply IsS101.alloc | apply IsS101.drewN | apply IsS101.drew | apply IsS101.set_1 | apply IsS101.set_2 | refine IsS101.far ?_ NB180_175.out _ | refine IsS101.far ?_ NB180_176.out _ | refine IsS101.far ?_ NB180_187.out _ | refine IsS101.far ?_ NB180_194.out _) | exact HI180.out)⟩, ⟨by repeat (first | (with_reducible first | exact HB.out | apply bA | apply bN | apply bD | refine bS ?_ (IsS101.ge HI180.out) | refine bS ?_ GE175.out | refine bS ?_ GE176.out | refine bS ?_ GE187.out | refine bS ?_ GE194.out) | exact HB.out)⟩⟩
    · replace c26 := Bool.eq_false_iff.mpr c26
      subst c26
      rw [if_neg (show ¬ (false = true) by decide)] at H
      have H' := mk0 H
      clear H
      go_wp2
      go_meet
      case rel => exact ⟨_, (t196), (t197), (t181), (t182), (.slice Ao16 t182.length co16), H', ⟨by first | omega | exact Nat.le_refl _⟩, ⟨by (with_reducible repeat (first | apply Kd.R_alloc | apply Kd.R_drewN | apply Kd.R_drew)); exact Kd.R_mono HO184.out (fun _ hk => hk.2)⟩, ⟨by (with_reducible repeat (first | apply Kd.R_alloc | apply Kd.R_drewN | apply Kd.R_drew)); exact Kd.R_mono HO191.out (fun _ hk => hk.2)⟩, ⟨by (with_reducible repeat (first | refine kN ?_ _ | refine kD ?_ | refine kA ?_ _)); exact BK175.out⟩, ⟨by (with_reducible repeat (first | refine kN ?_ _ | refine kD ?_ | refine kA ?_ _)); exact BK176.out⟩, ⟨by (with_reducible repeat (first | refine kN ?_ _ | refine kD ?_ | refine kA ?_ _)); exact BK187.out⟩, ⟨by (with_reducible repeat (first | refine kN ?_ _ | refine kD ?_ | refine kA ?_ _)); exact BK194.out⟩, ⟨by repeat (first | (with_reducible first | exact HI180.out | apply IsS101.alloc | apply IsS101.drewN | apply IsS101.drew | apply IsS101.set_1 | apply IsS101.set_2 | refine IsS101.far ?_ NB180_175.out _ | refine IsS101.far ?_ NB180_176.out _ | refine IsS101.far ?_ NB180_187.out _ | refine IsS101.far ?_ NB180_194.out _) | exact HI180.out)⟩, ⟨by repeat (first | (with_reducible first | exact HB.out | apply bA | apply bN | apply bD | refine bS ?_ (IsS101.ge HI180.out) | refine bS ?_ GE175.out | refine bS ?_ GE176.out | refine bS ?_ GE187.out | refine bS ?_ GE194.out) | exact HB.out)⟩⟩
  case rest =>
    clear HC6
    try clear c1
    try clear c2
    try clear p2
    try clear c3
    try clear c4
    try clear c5
    try clear c12
    try clear c13
    try clear c14
    try clear c19
    try clear c20
    try clear c21
    try clear c22
    try clear c26
    try clear c29
    try clear c30
    try clear c31
    try clear c32
    try clear z15
    try clear z23
    try clear z33
    try clear z15
    try clear z23
    try clear z33
    obtain ⟨kq, x181001_5, x181002_5, x188000_5, x188001_5, u188001, HA, HJ5, HO_188001, HO_195001, BK175, BK176, BK187, BK194, HI180, HB⟩ := hcut
    cases kq with
    | zero => exact absurd HA.out (by simp [spec_DrawMeets.j0])
    | succ kj5 =>
      have H := HA.out
      clear HA
      simp only [spec_DrawMeets.j0] at H
      replace H := Option.bind_eq_some_iff.mp H
      obtain ⟨⟨t204, t205, t206⟩, A350, H⟩ := H
      replace H : (if t204 = true then ((spec_l8Draw.f kj5 t177 t205 t206).bind fun bt207 => ((spec_l9Draw.f kj5 t177 bt207.2.2.1 bt207.2.2.2).bind fun bt213 => (some (x188000_5, x188001_5, bt207.1, bt207.2.1, bt213.1)))) else ((spec_l9Draw.f kj5 t177 t205 t206).bind fun bt218 => (some (x188000_5, x188001_5, t188, t189, bt218.1)))) = some (r1, r2, r3, r4, r5) := H
      have A35 := mk0 A350
      clear A350
      by_cases c36 : t204 = true
      · subst c36
        rw [if_pos rfl] at H
        replace H := Option.bind_eq_some_iff.mp H
        obtain ⟨⟨t207, t208, t211, t212⟩, A370, H⟩ := H
        replace H : ((spec_l9Draw.f kj5 t177 t211 t212).bind fun bt213 => (some (x188000_5, x188001_5, t207, t208, bt213.1))) = some (r1, r2, r3, r4, r5) := H
        have A37 := mk0 A370
        clear A370
        replace H := Option.bind_eq_some_iff.mp H
        obtain ⟨⟨t213, t216, t217⟩, A380, H⟩ := H
        replace H : (some (x188000_5, x188001_5, t207, t208, t213)) = some (r1, r2, r3, r4, r5) := H
        have A38 := mk0 A380
        clear A380
        simp only [Option.some.injEq, Prod.mk.injEq] at H
        obtain ⟨rfl, rfl, rfl, rfl, rfl⟩ := H
        try go_wp2_with (first | ((with_reducible refine gate_callee (f := 55) rfl ?_); refine goesL_ (some 19) rfl rfl Try.func55 (by kernel_rfl) rfl #[.pointer (some ⟨g180, 0, none⟩), .int .i64 3] rfl (by (try simp only [List.map_toArray, List.map_cons, List.map_nil]); first | done | rfl) ?_; (with_reducible refine (spec_l1Once.calls g180 t177 x181001_5 x181002_5 3 true t205 t206 w _ ?side1 ?side2 A35.out).mono ?_); (case side1 => repeat (first | (with_reducible first | exact HI180.out | apply IsS101.alloc | apply IsS101.drewN | apply IsS101.drew | apply IsS101.set_1 | apply IsS101.set_2 | refine IsS101.far ?_ NB180_175.out _ | refine IsS101.far ?_ NB180_176.out _ | refine IsS101.far ?_ NB180_187.out _ | refine IsS101.far ?_ NB180_194.out _) | exact HI180.out)); (case side2 => repeat (first | (with_reducible first | exact HB.out | apply bA | apply bN | apply bD | refine bS ?_ (IsS101.ge HI180.out) | refine bS ?_ GE175.out | refine bS ?_ GE176.out | refine bS ?_ GE187.out | refine bS ?_ GE194.out) | exact HB.out)); rintro e w39 ⟨rfl, hi, hb, hk⟩; refine ⟨_, rfl, ?_⟩; have n0_ := mk0 (Kd.R_mono (Kd.R_keep (IsS101.apart (show IsS101 w _ g180 t177 x181001_5 x181002_5 from by repeat (first | (with_reducible first | exact HI180.out | apply IsS101.alloc | apply IsS101.drewN | apply IsS101.drew | apply IsS101.set_1 | apply IsS101.set_2 | refine IsS101.far ?_ NB180_175.out _ | refine IsS101.far ?_ NB180_176.out _ | refine IsS101.far ?_ NB180_187.out _ | refine IsS101.far ?_ NB180_194.out _) | exact HI180.out)) (by (with_reducible repeat (first | apply Kd.R_alloc | apply Kd.R_drewN | apply Kd.R_drew)); exact HO_188001.out) (by decide)) hk (fun _ h => h.2)) (fun _ h => h.1)); have n1_ := mk0 (Kd.R_mono (Kd.R_keep (IsS101.apart (show IsS101 w _ g180 t177 x181001_5 x181002_5 from by repeat (first | (with_reducible first | exact HI180.out | apply IsS101.alloc | apply IsS101.drewN | apply IsS101.drew | apply IsS101.set_1 | apply IsS101.set_2 | refine IsS101.far ?_ NB180_175.out _ | refine IsS101.far ?_ NB180_176.out _ | refine IsS101.far ?_ NB180_187.out _ | refine IsS101.far ?_ NB180_194.out _) | exact HI180.out)) (by (with_reducible repeat (first | apply Kd.R_alloc | apply Kd.R_drewN | apply Kd.R_drew)); exact HO_195001.out) (by decide)) hk (fun _ h => h.2)) (fun _ h => h.1)); have n2_ := mk0 (KeepBut.blk hk (g' := gb175) (o := .cells #[.int .i64 0, .slice none 0 0] 28 (0, 0)) (by (with_reducible repeat (first | refine kN ?_ _ | refine kD ?_ | refine kA ?_ _)); exact BK175.out) NB175_180.out (by simp)); have n3_ := mk0 (KeepBut.blk hk (g' := gb176) (o := .cells #[.int .i64 0, .slice none 0 0] 28 (0, 0)) (by (with_reducible repeat (first | refine kN ?_ _ | refine kD ?_ | refine kA ?_ _)); exact BK176.out) NB176_180.out (by simp)); have n4_ := mk0 (KeepBut.blk hk (g' := gb187) (o := .cells #[.int .i64 x188000_5, u188001] 28 (0, 0)) (by (with_reducible repeat (first | refine kN ?_ _ | refine kD ?_ | refine kA ?_ _)); exact BK187.out) NB187_180.out (by simp)); have n5_ := mk0 (KeepBut.blk hk (g' := gb194) (o := .cells #[.int .i64 t188, .slice Ao24 t189.length co24] 28 (0, 0)) (by (with_reducible repeat (first | refine kN ?_ _ | refine kD ?_ | refine kA ?_ _)); exact BK194.out) NB194_180.out (by simp)); have n6_ := mk0 (hb); have n7_ := mk0 (hi); clear HO_188001; clear HO_195001; clear BK175; clear BK176; clear BK187; clear BK194; clear HB; clear HI180; have HO_188001 := n0_; have HO_195001 := n1_; have BK175 := n2_; have BK176 := n3_; have BK187 := n4_; have BK194 := n5_; have HB := n6_; have HI180 := n7_; clear n0_ n1_ n2_ n3_ n4_ n5_ n6_ n7_; (try clear hb); (try clear hb2); (try clear hk); (try clear hi)) | ((with_reducible refine gate_callee (f := 45) rfl ?_); refine goesL_ (some 21) rfl rfl Try.func45 (by kernel_rfl) rfl #[.pointer (some ⟨g180, 0, none⟩)] rfl (by (try simp only [List.map_toArray, List.map_cons, List.map_nil]); first | done | rfl) ?_; (with_reducible refine (spec_l8Draw.calls kj5 g180 t177 t205 t206 t207 t208 t211 t212 w _ ?side1 ?side2 A37.out).mono ?_); (case side1 => repeat (first | (with_reducible first | exact HI180.out | apply IsS101.alloc | apply IsS101.drewN | apply IsS101.drew | apply IsS101.set_1 | apply IsS101.set_2 | refine IsS101.far ?_ NB180_175.out _ | refine IsS101.far ?_ NB180_176.out _ | refine IsS101.far ?_ NB180_187.out _ | refine IsS101.far ?_ NB180_194.out _) | exact HI180.out)); (case side2 => repeat (first | (with_reducible first | exact HB.out | apply bA | apply bN | apply bD | refine bS ?_ (IsS101.ge HI180.out) | refine bS ?_ GE175.out | refine bS ?_ GE176.out | refine bS ?_ GE187.out | refine bS ?_ GE194.out) | exact HB.out)); rintro e w40 ⟨v209, rfl, ho0, hi, hb, hk⟩; refine ⟨_, rfl, ?_⟩; have n0_ := mk0 (Kd.R_mono (Kd.R_told (Kd.R_oldK (IsS101.apart (show IsS101 w _ g180 t177 t205 t206 from by repeat (first | (with_reducible first | exact HI180.out | apply IsS101.alloc | apply IsS101.drewN | apply IsS101.drew | apply IsS101.set_1 | apply IsS101.set_2 | refine IsS101.far ?_ NB180_175.out _ | refine IsS101.far ?_ NB180_176.out _ | refine IsS101.far ?_ NB180_187.out _ | refine IsS101.far ?_ NB180_194.out _) | exact HI180.out)) (by (with_reducible repeat (first | apply Kd.R_alloc | apply Kd.R_drewN | apply Kd.R_drew)); exact HO_188001.out) (by decide)) hk) (Kd.R_base ho0)) (fun _ h_ => h_.1)); have n1_ := mk0 (Kd.R_mono (Kd.R_told (Kd.R_oldK (IsS101.apart (show IsS101 w _ g180 t177 t205 t206 from by repeat (first | (with_reducible first | exact HI180.out | apply IsS101.alloc | apply IsS101.drewN | apply IsS101.drew | apply IsS101.set_1 | apply IsS101.set_2 | refine IsS101.far ?_ NB180_175.out _ | refine IsS101.far ?_ NB180_176.out _ | refine IsS101.far ?_ NB180_187.out _ | refine IsS101.far ?_ NB180_194.out _) | exact HI180.out)) (by (with_reducible repeat (first | apply Kd.R_alloc | apply Kd.R_drewN | apply Kd.R_drew)); exact HO_195001.out) (by decide)) hk) (Kd.R_base ho0)) (fun _ h_ => h_.1)); have n2_ := mk0 (KeepBut.blk hk (g' := gb175) (o := .cells #[.int .i64 0, .slice none 0 0] 28 (0, 0)) (by (with_reducible repeat (first | refine kN ?_ _ | refine kD ?_ | refine kA ?_ _)); exact BK175.out) NB175_180.out (by simp)); have n3_ := mk0 (KeepBut.blk hk (g' := gb176) (o := .cells #[.int .i64 0, .slice none 0 0] 28 (0, 0)) (by (with_reducible repeat (first | refine kN ?_ _ | refine kD ?_ | refine kA ?_ _)); exact BK176.out) NB176_180.out (by simp)); have n4_ := mk0 (KeepBut.blk hk (g' := gb187) (o := .cells #[.int .i64 x188000_5, u188001] 28 (0, 0)) (by (with_reducible repeat (first | refine kN ?_ _ | refine kD ?_ | refine kA ?_ _)); exact BK187.out) NB187_180.out (by simp)); have n5_ := mk0 (KeepBut.blk hk (g' := gb194) (o := .cells #[.int .i64 t188, .slice Ao24 t189.length co24] 28 (0, 0)) (by (with_reducible repeat (first | refine kN ?_ _ | refine kD ?_ | refine kA ?_ _)); exact BK194.out) NB194_180.out (by simp)); have n6_ := mk0 (Kd.R_lower (Kd.R_new' (Kd.R_new' ho0 (Kd.R_lt (by (with_reducible repeat (first | apply Kd.R_alloc | apply Kd.R_drewN | apply Kd.R_drew)); exact HO_188001.out))) (Kd.R_lt (by (with_reducible repeat (first | apply Kd.R_alloc | apply Kd.R_drewN | apply Kd.R_drew)); exact HO_195001.out))) (below_size (by repeat (first | (with_reducible first | exact HB.out | apply bA | apply bN | apply bD | refine bS ?_ (IsS101.ge HI180.out) | refine bS ?_ GE175.out | refine bS ?_ GE176.out | refine bS ?_ GE187.out | refine bS ?_ GE194.out) | exact HB.out)))); have n7_ := mk0 (hb); have n8_ := mk0 (hi); clear HO_188001; clear HO_195001; clear BK175; clear BK176; clear BK187; clear BK194; clear HB; clear HI180; have HO_188001 := n0_; have HO_195001 := n1_; have BK175 := n2_; have BK176 := n3_; have BK187 := n4_; have BK194 := n5_; have HO210 := n6_; have HB := n7_; have HI180 := n8_; clear n0_ n1_ n2_ n3_ n4_ n5_ n6_ n7_ n8_; (try clear hb); (try clear hb2); (try clear hk); (try clear hi); (try clear ho0); have hnb41 := NB194_175.out; have hnc41 := NB175_194.out; have hnb42 := NB194_176.out; have hnc42 := NB176_194.out; have hnb43 := NB194_187.out; have hnc43 := NB187_194.out; have hnb44 := NB194_180.out; have hnc44 := NB180_194.out; have z45 := bc2 BK194.out; obtain ⟨Ao46, co46, eo46⟩ := Kd.R_slice HO210.out; subst eo46))
        have n0_ : Aside0 (Kd.R k70 70 ((w40.setCell ⟨gb194, 0, none⟩ (.int .i64 t207)).setCell ⟨gb194, 1, none⟩ (.slice Ao46 t208.length co46)) w.heap.size (fun k_ => some k_ ≠ (.slice Ao24 t189.length co24 : Value).ownBlock ∧ some k_ ≠ (.slice Ao46 t208.length co46 : Value).ownBlock) u188001 x188001_5) := ⟨by (with_reducible repeat (first | apply Kd.R_alloc | apply Kd.R_drewN | apply Kd.R_drew)); exact Kd.R_mono (Kd.R_far (p := ⟨gb194, 1, none⟩) (Kd.R_far (p := ⟨gb194, 0, none⟩) (Kd.R_types HO_188001.out BK194.out (by decide)) (fun _ hk => hk.2) (.int .i64 t207)) (fun _ hk => hk.2) (.slice Ao46 t208.length co46)) (fun _ hk => ⟨hk.1.1, hk.1.2⟩)⟩
        have n1_ : Aside0 (Kd.R k70 70 ((w40.setCell ⟨gb194, 0, none⟩ (.int .i64 t207)).setCell ⟨gb194, 1, none⟩ (.slice Ao46 t208.length co46)) w.heap.size (fun k_ => some k_ ≠ (u188001 : Value).ownBlock ∧ some k_ ≠ (.slice Ao46 t208.length co46 : Value).ownBlock) (.slice Ao24 t189.length co24) t189) := ⟨by (with_reducible repeat (first | apply Kd.R_alloc | apply Kd.R_drewN | apply Kd.R_drew)); exact Kd.R_mono (Kd.R_far (p := ⟨gb194, 1, none⟩) (Kd.R_far (p := ⟨gb194, 0, none⟩) (Kd.R_types HO_195001.out BK194.out (by decide)) (fun _ hk => hk.2) (.int .i64 t207)) (fun _ hk => hk.2) (.slice Ao46 t208.length co46)) (fun _ hk => ⟨hk.1.1, hk.1.2⟩)⟩
        have n2_ : Aside0 (Kd.R k70 70 ((w40.setCell ⟨gb194, 0, none⟩ (.int .i64 t207)).setCell ⟨gb194, 1, none⟩ (.slice Ao46 t208.length co46)) w.heap.size (fun k_ => some k_ ≠ (u188001 : Value).ownBlock ∧ some k_ ≠ (.slice Ao24 t189.length co24 : Value).ownBlock) (.slice Ao46 t208.length co46) t208) := ⟨by (with_reducible repeat (first | apply Kd.R_alloc | apply Kd.R_drewN | apply Kd.R_drew)); exact Kd.R_mono (Kd.R_far (p := ⟨gb194, 1, none⟩) (Kd.R_far (p := ⟨gb194, 0, none⟩) (Kd.R_types HO210.out BK194.out (by decide)) (fun _ hk => hk.2) (.int .i64 t207)) (fun _ hk => hk.2) (.slice Ao46 t208.length co46)) (fun _ hk => ⟨hk.1.1.2, hk.1.2⟩)⟩
        have n3_ : Aside0 (((w40.setCell ⟨gb194, 0, none⟩ (.int .i64 t207)).setCell ⟨gb194, 1, none⟩ (.slice Ao46 t208.length co46)).heap[gb175]? = some (.cells #[.int .i64 0, .slice none 0 0] 28 (0, 0))) := ⟨by (with_reducible repeat (first | refine kN ?_ _ | refine kD ?_ | refine kA ?_ _)); refine blk_far ?_ NB175_194.out _; (with_reducible repeat (first | refine kN ?_ _ | refine kD ?_ | refine kA ?_ _)); refine blk_far ?_ NB175_194.out _; (with_reducible repeat (first | refine kN ?_ _ | refine kD ?_ | refine kA ?_ _)); exact BK175.out⟩
        have n4_ : Aside0 (((w40.setCell ⟨gb194, 0, none⟩ (.int .i64 t207)).setCell ⟨gb194, 1, none⟩ (.slice Ao46 t208.length co46)).heap[gb176]? = some (.cells #[.int .i64 0, .slice none 0 0] 28 (0, 0))) := ⟨by (with_reducible repeat (first | refine kN ?_ _ | refine kD ?_ | refine kA ?_ _)); refine blk_far ?_ NB176_194.out _; (with_reducible repeat (first | refine kN ?_ _ | refine kD ?_ | refine kA ?_ _)); refine blk_far ?_ NB176_194.out _; (with_reducible repeat (first | refine kN ?_ _ | refine kD ?_ | refine kA ?_ _)); exact BK176.out⟩
        have n5_ : Aside0 (((w40.setCell ⟨gb194, 0, none⟩ (.int .i64 t207)).setCell ⟨gb194, 1, none⟩ (.slice Ao46 t208.length co46)).heap[gb187]? = some (.cells #[.int .i64 x188000_5, u188001] 28 (0, 0))) := ⟨by (with_reducible repeat (first | refine kN ?_ _ | refine kD ?_ | refine kA ?_ _)); refine blk_far ?_ NB187_194.out _; (with_reducible repeat (first | refine kN ?_ _ | refine kD ?_ | refine kA ?_ _)); refine blk_far ?_ NB187_194.out _; (with_reducible repeat (first | refine kN ?_ _ | refine kD ?_ | refine kA ?_ _)); exact BK187.out⟩
        have n6_ : Aside0 (((w40.setCell ⟨gb194, 0, none⟩ (.int .i64 t207)).setCell ⟨gb194, 1, none⟩ (.slice Ao46 t208.length co46)).heap[gb194]? = some (.cells #[.int .i64 t207, .slice Ao46 t208.length co46] 28 (0, 0))) := ⟨by (with_reducible repeat (first | refine kN ?_ _ | refine kD ?_ | refine kA ?_ _)); refine blk_put (cs := #[.int .i64 t207, .slice Ao24 t189.length co24]) ?_ 1 _ rfl; (with_reducible repeat (first | refine kN ?_ _ | refine kD ?_ | refine kA ?_ _)); refine blk_put (cs := #[.int .i64 t188, .slice Ao24 t189.length co24]) ?_ 0 _ rfl; (with_reducible repeat (first | refine kN ?_ _ | refine kD ?_ | refine kA ?_ _)); exact BK194.out⟩
        have n7_ : Aside0 (IsS101 w ((w40.setCell ⟨gb194, 0, none⟩ (.int .i64 t207)).setCell ⟨gb194, 1, none⟩ (.slice Ao46 t208.length co46)) g180 t177 t211 t212) := ⟨by repeat (first | (with_reducible first | exact HI180.out | apply IsS101.alloc | apply IsS101.drewN | apply IsS101.drew | apply IsS101.set_1 | apply IsS101.set_2 | refine IsS101.far ?_ NB180_175.out _ | refine IsS101.far ?_ NB180_176.out _ | refine IsS101.far ?_ NB180_187.out _ | refine IsS101.far ?_ NB180_194.out _) | exact HI180.out)⟩
        have n8_ : Aside0 (Below w.heap.size w ((w40.setCell ⟨gb194, 0, none⟩ (.int .i64 t207)).setCell ⟨gb194, 1, none⟩ (.slice Ao46 t208.length co46))) := ⟨by repeat (first | (with_reducible first | exact HB.out | apply bA | apply bN | apply bD | refine bS ?_ (IsS101.ge HI180.out) | refine bS ?_ GE175.out | refine bS ?_ GE176.out | refine bS ?_ GE187.out | refine bS ?_ GE194.out) | exact HB.out)⟩
        (try clear HO_188001)
        (try clear HO_195001)
        (try clear HO210)
        (try clear BK175)
        (try clear BK176)
        (try clear BK187)
        (try clear BK194)
        (try clear HI180)
        (try clear HB)
        generalize ((w40.setCell ⟨gb194, 0, none⟩ (.int .i64 t207)).setCell ⟨gb194, 1, none⟩ (.slice Ao46 t208.length co46)) = w47 at n0_ n1_ n2_ n3_ n4_ n5_ n6_ n7_ n8_ ⊢
        have HO_188001 := n0_
        have HO_195001 := n1_
        have HO210 := n2_
        have BK175 := n3_
        have BK176 := n4_
        have BK187 := n5_
        have BK194 := n6_
        have HI180 := n7_
        have HB := n8_
        clear n0_ n1_ n2_ n3_ n4_ n5_ n6_ n7_ n8_
        have n0_ := mk0 (Kd.R_drew HO_188001.out)
        have n1_ := mk0 (Kd.R_drew HO_195001.out)
        have n2_ := mk0 (Kd.R_drew HO210.out)
        have n3_ := mk0 (kD BK175.out)
        have n4_ := mk0 (kD BK176.out)
        have n5_ := mk0 (kD BK187.out)
        have n6_ := mk0 (kD BK194.out)
        have n7_ := mk0 (IsS101.drew HI180.out)
        have n8_ := mk0 (bD HB.out)
        clear HO_188001
        clear HO_195001
        clear HO210
        clear BK175
        clear BK176
        clear BK187
        clear BK194
        clear HI180
        clear HB
        have HO_188001 := n0_
        have HO_195001 := n1_
        have HO210 := n2_
        have BK175 := n3_
        have BK176 := n4_
        have BK187 := n5_
        have BK194 := n6_
        have HI180 := n7_
        have HB := n8_
        clear n0_ n1_ n2_ n3_ n4_ n5_ n6_ n7_ n8_
        refine start_ (n := 7) (S := fun w' => w'.cell? ⟨gb187, 0, none⟩ = some (.int .i64 x188000_5) ∧ w'.cell? ⟨gb187, 1, none⟩ = some (u188001) ∧ w'.cell? ⟨gb194, 0, none⟩ = some (.int .i64 t207) ∧ w'.cell? ⟨gb194, 1, none⟩ = some (.slice Ao46 t208.length co46)) (ds := []) #[false, false, false, false, false, false, false] (by kernel_rfl) rfl rfl ⟨(blk_cell BK187.out 0).trans rfl, (blk_cell BK187.out 1).trans rfl, (blk_cell BK194.out 0).trans rfl, (blk_cell BK194.out 1).trans rfl⟩ (fun hHeld => ?_)
        generalize w47.drew = w48 at HO_188001 HO_195001 HO210 BK175 BK176 BK187 BK194 HI180 HB hHeld ⊢
        refine pure_ (i := 2) (N := some 24) (v := ?_) (a' := ?_) #[false, false, true, false, false, false, false] rfl rfl (by kernel_rfl) (fun _ _ _ h => h) (Or.inl ⟨by rfl, ?_⟩) ?_ ?_
        rotate_left
        · intro w'
          go_simp
          with_reducible rfl
        rotate_left
        · simp only [Act.put, List.setIfInBounds_toArray, List.set_cons_zero, List.set_cons_succ, i64_w, i32_w]
          rfl
        refine take_ (i := 0) (N := some 22) (v := ?_) (a' := ?_) #[true, false, true, false, false, false, false] rfl rfl (by kernel_rfl) (fun _ _ _ h => h) (Or.inl ⟨by rfl, ?_⟩) hHeld ?_ ?_
        rotate_left
        · rintro w' ⟨s0, s1, s2, s3⟩
          go_simp
          with_reducible rfl
        rotate_left
        · simp only [Act.put, List.setIfInBounds_toArray, List.set_cons_zero, List.set_cons_succ, i64_w, i32_w]
          rfl
        refine take_ (i := 1) (N := some 23) (v := ?_) (a' := ?_) #[true, true, true, false, false, false, false] rfl rfl (by kernel_rfl) (fun _ _ _ h => h) (Or.inl ⟨by rfl, ?_⟩) hHeld ?_ ?_
        rotate_left
        · rintro w' ⟨s0, s1, s2, s3⟩
          go_simp
          with_reducible rfl
        rotate_left
        · simp only [Act.put, List.setIfInBounds_toArray, List.set_cons_zero, List.set_cons_succ, i64_w, i32_w]
          rfl
        refine one_ (i := 3) (N := some 25) #[true, true, true, true, false, false, false] rfl rfl (by kernel_rfl) (by decide) (fun K hK => ?_)
        refine goes_ Try.func56 (by kernel_rfl) rfl #[.pointer (some ⟨g180, 0, none⟩)] (by rfl) rfl rfl (by (try simp only [List.map_toArray, List.map_cons, List.map_nil]); first | done | rfl) ?_
        with_reducible refine (spec_l9Draw.calls kj5 g180 t177 t211 t212 t213 t216 t217 w _ ?side1 ?side2 A38.out).mono ?_
        (case side1 => repeat (first | (with_reducible first | exact HI180.out | apply IsS101.alloc | apply IsS101.drewN | apply IsS101.drew | apply IsS101.set_1 | apply IsS101.set_2 | refine IsS101.far ?_ NB180_175.out _ | refine IsS101.far ?_ NB180_176.out _ | refine IsS101.far ?_ NB180_187.out _ | refine IsS101.far ?_ NB180_194.out _) | exact HI180.out))
        (case side2 => repeat (first | (with_reducible first | exact HB.out | apply bA | apply bN | apply bD | refine bS ?_ (IsS101.ge HI180.out) | refine bS ?_ GE175.out | refine bS ?_ GE176.out | refine bS ?_ GE187.out | refine bS ?_ GE194.out) | exact HB.out))
        rintro e w49 ⟨v214, rfl, ho0, hi, hb, hk⟩
        refine ⟨_, rfl, ?_⟩
        have n0_ := mk0 (Kd.R_mono (Kd.R_keep (IsS101.apart (show IsS101 w _ g180 t177 t211 t212 from by repeat (first | (with_reducible first | exact HI180.out | apply IsS101.alloc | apply IsS101.drewN | apply IsS101.drew | apply IsS101.set_1 | apply IsS101.set_2 | refine IsS101.far ?_ NB180_175.out _ | refine IsS101.far ?_ NB180_176.out _ | refine IsS101.far ?_ NB180_187.out _ | refine IsS101.far ?_ NB180_194.out _) | exact HI180.out)) (by (with_reducible repeat (first | apply Kd.R_alloc | apply Kd.R_drewN | apply Kd.R_drew)); exact HO_188001.out) (by decide)) hk (fun _ h => h.2)) (fun _ h => h.1))
        have n1_ := mk0 (Kd.R_mono (Kd.R_keep (IsS101.apart (show IsS101 w _ g180 t177 t211 t212 from by repeat (first | (with_reducible first | exact HI180.out | apply IsS101.alloc | apply IsS101.drewN | apply IsS101.drew | apply IsS101.set_1 | apply IsS101.set_2 | refine IsS101.far ?_ NB180_175.out _ | refine IsS101.far ?_ NB180_176.out _ | refine IsS101.far ?_ NB180_187.out _ | refine IsS101.far ?_ NB180_194.out _) | exact HI180.out)) (by (with_reducible repeat (first | apply Kd.R_alloc | apply Kd.R_drewN | apply Kd.R_drew)); exact HO_195001.out) (by decide)) hk (fun _ h => h.2)) (fun _ h => h.1))
        have n2_ := mk0 (KeepBut.blk hk (g' := gb175) (o := .cells #[.int .i64 0, .slice none 0 0] 28 (0, 0)) (by (with_reducible repeat (first | refine kN ?_ _ | refine kD ?_ | refine kA ?_ _)); exact BK175.out) NB175_180.out (by simp))
        have n3_ := mk0 (KeepBut.blk hk (g' := gb176) (o := .cells #[.int .i64 0, .slice none 0 0] 28 (0, 0)) (by (with_reducible repeat (first | refine kN ?_ _ | refine kD ?_ | refine kA ?_ _)); exact BK176.out) NB176_180.out (by simp))
        have n4_ := mk0 (KeepBut.blk hk (g' := gb187) (o := .cells #[.int .i64 x188000_5, u188001] 28 (0, 0)) (by (with_reducible repeat (first | refine kN ?_ _ | refine kD ?_ | refine kA ?_ _)); exact BK187.out) NB187_180.out (by simp))
        have n5_ := mk0 (KeepBut.blk hk (g' := gb194) (o := .cells #[.int .i64 t207, .slice Ao46 t208.length co46] 28 (0, 0)) (by (with_reducible repeat (first | refine kN ?_ _ | refine kD ?_ | refine kA ?_ _)); exact BK194.out) NB194_180.out (by simp))
        have n6_ := mk0 (Kd.R_mono (Kd.R_keep (IsS101.apart (show IsS101 w _ g180 t177 t211 t212 from by repeat (first | (with_reducible first | exact HI180.out | apply IsS101.alloc | apply IsS101.drewN | apply IsS101.drew | apply IsS101.set_1 | apply IsS101.set_2 | refine IsS101.far ?_ NB180_175.out _ | refine IsS101.far ?_ NB180_176.out _ | refine IsS101.far ?_ NB180_187.out _ | refine IsS101.far ?_ NB180_194.out _) | exact HI180.out)) (by (with_reducible repeat (first | apply Kd.R_alloc | apply Kd.R_drewN | apply Kd.R_drew)); exact HO210.out) (by decide)) hk (fun _ h => h.2)) (fun _ h => h.1))
        have n7_ := mk0 (Kd.R_lower ho0 (below_size (by repeat (first | (with_reducible first | exact HB.out | apply bA | apply bN | apply bD | refine bS ?_ (IsS101.ge HI180.out) | refine bS ?_ GE175.out | refine bS ?_ GE176.out | refine bS ?_ GE187.out | refine bS ?_ GE194.out) | exact HB.out))))
        have n8_ := mk0 (hb)
        have n9_ := mk0 (hi)
        clear HO_188001
        clear HO_195001
        clear BK175
        clear BK176
        clear BK187
        clear BK194
        clear HO210
        clear HB
        clear HI180
        have HO_188001 := n0_
        have HO_195001 := n1_
        have BK175 := n2_
        have BK176 := n3_
        have BK187 := n4_
        have BK194 := n5_
        have HO210 := n6_
        have HO215 := n7_
        have HB := n8_
        have HI180 := n9_
        clear n0_ n1_ n2_ n3_ n4_ n5_ n6_ n7_ n8_ n9_
        (try clear hb)
        (try clear hb2)
        (try clear hk)
        (try clear hi)
        (try clear ho0)
        obtain ⟨Ao51, co51, eo51⟩ := Kd.R_slice HO_188001.out
        (first | subst eo51 | (injection eo51 with f1_ f2_ f3_; have f4_ := f1_.symm; have f5_ := f3_.symm; clear f1_ f2_ f3_; subst f4_; subst f5_))
        refine hK.out _ _ ⟨(blk_cell BK187.out 0).trans rfl, (blk_cell BK187.out 1).trans rfl, (blk_cell BK194.out 0).trans rfl, (blk_cell BK194.out 1).trans rfl⟩ (fun hHeld => ?_)
        clear hK K
        refine norm_ (a' := ?_) ?_ ?_
        rotate_left
        · show Act.put _ (some 25) _ = _
          simp only [Act.put, List.setIfInBounds_toArray, List.set_cons_zero, List.set_cons_succ, i64_w, i32_w]
          rfl
        refine one_ (i := 4) (N := none) #[true, true, true, true, true, false, false] rfl rfl (by kernel_rfl) (by decide) (fun K hK => ?_)
        have hs50 : w49.cell? ⟨gb175, 0, none⟩ = some (.int .i64 0) := (blk_cell BK175.out 0).trans rfl
        have hfs50 := blk_frozen BK175.out 0
        have hns50_1 := NB176_175.out
        have hns50_2 := NB187_175.out
        have hns50_3 := NB194_175.out
        have hms50_1 := NB175_176.out
        have hms50_2 := NB175_187.out
        have hms50_3 := NB175_194.out
        have hs52 : w49.cell? ⟨gb175, 1, none⟩ = some (.slice none 0 0) := (blk_cell BK175.out 1).trans rfl
        have hfs52 := blk_frozen BK175.out 1
        have hns52_1 := NB176_175.out
        have hns52_2 := NB187_175.out
        have hns52_3 := NB194_175.out
        have hms52_1 := NB175_176.out
        have hms52_2 := NB175_187.out
        have hms52_3 := NB175_194.out
        refine skip_ (w1 := ?_) (by rfl) rfl ?_ ?_
        rotate_left
        · go_simp
          rfl
        refine hK.out _ _ ⟨((cell_far (p := ⟨gb175, _, none⟩) NB187_175.out _).trans (((cell_far (p := ⟨gb175, _, none⟩) NB187_175.out _).trans (hHeld.1)))), ((cell_far (p := ⟨gb175, _, none⟩) NB187_175.out _).trans (((cell_far (p := ⟨gb175, _, none⟩) NB187_175.out _).trans (hHeld.2.1)))), ((cell_far (p := ⟨gb175, _, none⟩) NB194_175.out _).trans (((cell_far (p := ⟨gb175, _, none⟩) NB194_175.out _).trans (hHeld.2.2.1)))), ((cell_far (p := ⟨gb175, _, none⟩) NB194_175.out _).trans (((cell_far (p := ⟨gb175, _, none⟩) NB194_175.out _).trans (hHeld.2.2.2))))⟩ (fun hHeld => ?_)
        clear hK K
        refine one_ (i := 5) (N := none) #[true, true, true, true, true, true, false] rfl rfl (by kernel_rfl) (by decide) (fun K hK => ?_)
        have hs53 : w49.cell? ⟨gb176, 0, none⟩ = some (.int .i64 0) := (blk_cell BK176.out 0).trans rfl
        have hfs53 := blk_frozen BK176.out 0
        have hns53_0 := NB175_176.out
        have hns53_2 := NB187_176.out
        have hns53_3 := NB194_176.out
        have hms53_0 := NB176_175.out
        have hms53_2 := NB176_187.out
        have hms53_3 := NB176_194.out
        have hs54 : w49.cell? ⟨gb176, 1, none⟩ = some (.slice none 0 0) := (blk_cell BK176.out 1).trans rfl
        have hfs54 := blk_frozen BK176.out 1
        have hns54_0 := NB175_176.out
        have hns54_2 := NB187_176.out
        have hns54_3 := NB194_176.out
        have hms54_0 := NB176_175.out
        have hms54_2 := NB176_187.out
        have hms54_3 := NB176_194.out
        refine skip_ (w1 := ?_) (by rfl) rfl ?_ ?_
        rotate_left
        · go_simp
          rfl
        refine hK.out _ _ ⟨((cell_far (p := ⟨gb176, _, none⟩) NB187_176.out _).trans (((cell_far (p := ⟨gb176, _, none⟩) NB187_176.out _).trans (hHeld.1)))), ((cell_far (p := ⟨gb176, _, none⟩) NB187_176.out _).trans (((cell_far (p := ⟨gb176, _, none⟩) NB187_176.out _).trans (hHeld.2.1)))), ((cell_far (p := ⟨gb176, _, none⟩) NB194_176.out _).trans (((cell_far (p := ⟨gb176, _, none⟩) NB194_176.out _).trans (hHeld.2.2.1)))), ((cell_far (p := ⟨gb176, _, none⟩) NB194_176.out _).trans (((cell_far (p := ⟨gb176, _, none⟩) NB194_176.out _).trans (hHeld.2.2.2))))⟩ (fun hHeld => ?_)
        clear hK K
        refine pure_ (i := 6) (N := some 4) (v := ?_) (a' := ?_) #[true, true, true, true, true, true, true] rfl rfl (by kernel_rfl) (fun _ _ _ h => h) (Or.inl ⟨by rfl, ?_⟩) ?_ ?_
        rotate_left
        · intro w'
          go_simp
          with_reducible rfl
        rotate_left
        · simp only [Act.put, List.setIfInBounds_toArray, List.set_cons_zero, List.set_cons_succ, i64_w, i32_w]
          rfl
        refine done_ (by kernel_rfl) ?_
        try go_wp2
        refine bodyPost_ret (results_list (rs := [.cell 2 28, .cell 3 28, .tmp 4]) rfl (by simp) (.cell gb175 28 #[.int .i64 x188000_5, .slice Ao51 x188001_5.length co51] (0, 0) _ rfl (by (with_reducible repeat (first | refine kN ?_ _ | refine kD ?_ | refine kA ?_ _)); refine blk_far ?_ NB175_176.out _; (with_reducible repeat (first | refine kN ?_ _ | refine kD ?_ | refine kA ?_ _)); refine blk_far ?_ NB175_176.out _; (with_reducible repeat (first | refine kN ?_ _ | refine kD ?_ | refine kA ?_ _)); refine blk_put (cs := #[.int .i64 x188000_5, .slice none 0 0]) ?_ 1 _ rfl; (with_reducible repeat (first | refine kN ?_ _ | refine kD ?_ | refine kA ?_ _)); refine blk_put (cs := #[.int .i64 0, .slice none 0 0]) ?_ 0 _ rfl; (with_reducible repeat (first | refine kN ?_ _ | refine kD ?_ | refine kA ?_ _)); exact BK175.out) Try.underlying28 rfl (by kernel_rfl) (.cell gb176 28 #[.int .i64 t207, .slice Ao46 t208.length co46] (0, 0) _ rfl (by (with_reducible repeat (first | refine kN ?_ _ | refine kD ?_ | refine kA ?_ _)); refine blk_put (cs := #[.int .i64 t207, .slice none 0 0]) ?_ 1 _ rfl; (with_reducible repeat (first | refine kN ?_ _ | refine kD ?_ | refine kA ?_ _)); refine blk_put (cs := #[.int .i64 0, .slice none 0 0]) ?_ 0 _ rfl; (with_reducible repeat (first | refine kN ?_ _ | refine kD ?_ | refine kA ?_ _)); refine blk_far ?_ NB176_175.out _; (with_reducible repeat (first | refine kN ?_ _ | refine kD ?_ | refine kA ?_ _)); refine blk_far ?_ NB176_175.out _; (with_reducible repeat (first | refine kN ?_ _ | refine kD ?_ | refine kA ?_ _)); exact BK176.out) Try.underlying28 rfl (by kernel_rfl) (.tmp .nil)))) rfl ?_
        exact ⟨_, _, _, by first | rfl | (simp [errW_none, errW_some] <;> rfl) | (simp [*, errW_none, errW_some] <;> rfl), by (with_reducible repeat (first | apply Kd.R_alloc | apply Kd.R_drewN | apply Kd.R_drew)); exact Kd.R_mono (Kd.R_far (p := ⟨gb176, 1, none⟩) (Kd.R_far (p := ⟨gb176, 0, none⟩) (Kd.R_far (p := ⟨gb175, 1, none⟩) (Kd.R_far (p := ⟨gb175, 0, none⟩) (Kd.R_types (Kd.R_types HO_188001.out BK175.out (by decide)) BK176.out (by decide)) (fun _ hk => hk.1.2) (.int .i64 x188000_5)) (fun _ hk => hk.1.2) (.slice Ao51 x188001_5.length co51)) (fun _ hk => hk.2) (.int .i64 t207)) (fun _ hk => hk.2) (.slice Ao46 t208.length co46)) (fun _ hk => hk.1.1.2), by (with_reducible repeat (first | apply Kd.R_alloc | apply Kd.R_drewN | apply Kd.R_drew)); exact Kd.R_mono (Kd.R_far (p := ⟨gb176, 1, none⟩) (Kd.R_far (p := ⟨gb176, 0, none⟩) (Kd.R_far (p := ⟨gb175, 1, none⟩) (Kd.R_far (p := ⟨gb175, 0, none⟩) (Kd.R_types (Kd.R_types HO210.out BK175.out (by decide)) BK176.out (by decide)) (fun _ hk => hk.1.2) (.int .i64 x188000_5)) (fun _ hk => hk.1.2) (.slice Ao51 x188001_5.length co51)) (fun _ hk => hk.2) (.int .i64 t207)) (fun _ hk => hk.2) (.slice Ao46 t208.length co46)) (fun _ hk => hk.1.1.1), by (with_reducible repeat (first | apply Kd.R_alloc | apply Kd.R_drewN | apply Kd.R_drew)); exact Kd.R_mono (Kd.R_far (p := ⟨gb176, 1, none⟩) (Kd.R_far (p := ⟨gb176, 0, none⟩) (Kd.R_far (p := ⟨gb175, 1, none⟩) (Kd.R_far (p := ⟨gb175, 0, none⟩) (Kd.R_types (Kd.R_types HO215.out BK175.out (by decide)) BK176.out (by decide)) (fun _ hk => hk.1.2) (.int .i64 x188000_5)) (fun _ hk => hk.1.2) (.slice Ao51 x188001_5.length co51)) (fun _ hk => hk.2) (.int .i64 t207)) (fun _ hk => hk.2) (.slice Ao46 t208.length co46)) (fun _ hk => trivial), by repeat (first | (with_reducible first | exact HB.out | apply bA | apply bN | apply bD | refine bS ?_ (IsS101.ge HI180.out) | refine bS ?_ GE175.out | refine bS ?_ GE176.out | refine bS ?_ GE187.out | refine bS ?_ GE194.out) | exact HB.out)⟩
      · replace c36 := Bool.eq_false_iff.mpr c36
        subst c36
        rw [if_neg (show ¬ (false = true) by decide)] at H
        replace H := Option.bind_eq_some_iff.mp H
        obtain ⟨⟨t218, t221, t222⟩, A550, H⟩ := H
        replace H : (some (x188000_5, x188001_5, t188, t189, t218)) = some (r1, r2, r3, r4, r5) := H
        have A55 := mk0 A550
        clear A550
        simp only [Option.some.injEq, Prod.mk.injEq] at H
        obtain ⟨rfl, rfl, rfl, rfl, rfl⟩ := H
        try go_wp2_with (first | ((with_reducible refine gate_callee (f := 55) rfl ?_); refine goesL_ (some 19) rfl rfl Try.func55 (by kernel_rfl) rfl #[.pointer (some ⟨g180, 0, none⟩), .int .i64 3] rfl (by (try simp only [List.map_toArray, List.map_cons, List.map_nil]); first | done | rfl) ?_; (with_reducible refine (spec_l1Once.calls g180 t177 x181001_5 x181002_5 3 false t205 t206 w _ ?side1 ?side2 A35.out).mono ?_); (case side1 => repeat (first | (with_reducible first | exact HI180.out | apply IsS101.alloc | apply IsS101.drewN | apply IsS101.drew | apply IsS101.set_1 | apply IsS101.set_2 | refine IsS101.far ?_ NB180_175.out _ | refine IsS101.far ?_ NB180_176.out _ | refine IsS101.far ?_ NB180_187.out _ | refine IsS101.far ?_ NB180_194.out _) | exact HI180.out)); (case side2 => repeat (first | (with_reducible first | exact HB.out | apply bA | apply bN | apply bD | refine bS ?_ (IsS101.ge HI180.out) | refine bS ?_ GE175.out | refine bS ?_ GE176.out | refine bS ?_ GE187.out | refine bS ?_ GE194.out) | exact HB.out)); rintro e w56 ⟨rfl, hi, hb, hk⟩; refine ⟨_, rfl, ?_⟩; have n0_ := mk0 (Kd.R_mono (Kd.R_keep (IsS101.apart (show IsS101 w _ g180 t177 x181001_5 x181002_5 from by repeat (first | (with_reducible first | exact HI180.out | apply IsS101.alloc | apply IsS101.drewN | apply IsS101.drew | apply IsS101.set_1 | apply IsS101.set_2 | refine IsS101.far ?_ NB180_175.out _ | refine IsS101.far ?_ NB180_176.out _ | refine IsS101.far ?_ NB180_187.out _ | refine IsS101.far ?_ NB180_194.out _) | exact HI180.out)) (by (with_reducible repeat (first | apply Kd.R_alloc | apply Kd.R_drewN | apply Kd.R_drew)); exact HO_188001.out) (by decide)) hk (fun _ h => h.2)) (fun _ h => h.1)); have n1_ := mk0 (Kd.R_mono (Kd.R_keep (IsS101.apart (show IsS101 w _ g180 t177 x181001_5 x181002_5 from by repeat (first | (with_reducible first | exact HI180.out | apply IsS101.alloc | apply IsS101.drewN | apply IsS101.drew | apply IsS101.set_1 | apply IsS101.set_2 | refine IsS101.far ?_ NB180_175.out _ | refine IsS101.far ?_ NB180_176.out _ | refine IsS101.far ?_ NB180_187.out _ | refine IsS101.far ?_ NB180_194.out _) | exact HI180.out)) (by (with_reducible repeat (first | apply Kd.R_alloc | apply Kd.R_drewN | apply Kd.R_drew)); exact HO_195001.out) (by decide)) hk (fun _ h => h.2)) (fun _ h => h.1)); have n2_ := mk0 (KeepBut.blk hk (g' := gb175) (o := .cells #[.int .i64 0, .slice none 0 0] 28 (0, 0)) (by (with_reducible repeat (first | refine kN ?_ _ | refine kD ?_ | refine kA ?_ _)); exact BK175.out) NB175_180.out (by simp)); have n3_ := mk0 (KeepBut.blk hk (g' := gb176) (o := .cells #[.int .i64 0, .slice none 0 0] 28 (0, 0)) (by (with_reducible repeat (first | refine kN ?_ _ | refine kD ?_ | refine kA ?_ _)); exact BK176.out) NB176_180.out (by simp)); have n4_ := mk0 (KeepBut.blk hk (g' := gb187) (o := .cells #[.int .i64 x188000_5, u188001] 28 (0, 0)) (by (with_reducible repeat (first | refine kN ?_ _ | refine kD ?_ | refine kA ?_ _)); exact BK187.out) NB187_180.out (by simp)); have n5_ := mk0 (KeepBut.blk hk (g' := gb194) (o := .cells #[.int .i64 t188, .slice Ao24 t189.length co24] 28 (0, 0)) (by (with_reducible repeat (first | refine kN ?_ _ | refine kD ?_ | refine kA ?_ _)); exact BK194.out) NB194_180.out (by simp)); have n6_ := mk0 (hb); have n7_ := mk0 (hi); clear HO_188001; clear HO_195001; clear BK175; clear BK176; clear BK187; clear BK194; clear HB; clear HI180; have HO_188001 := n0_; have HO_195001 := n1_; have BK175 := n2_; have BK176 := n3_; have BK187 := n4_; have BK194 := n5_; have HB := n6_; have HI180 := n7_; clear n0_ n1_ n2_ n3_ n4_ n5_ n6_ n7_; (try clear hb); (try clear hb2); (try clear hk); (try clear hi)))
        have n0_ := mk0 (Kd.R_drew HO_188001.out)
        have n1_ := mk0 (Kd.R_drew HO_195001.out)
        have n2_ := mk0 (kD BK175.out)
        have n3_ := mk0 (kD BK176.out)
        have n4_ := mk0 (kD BK187.out)
        have n5_ := mk0 (kD BK194.out)
        have n6_ := mk0 (IsS101.drew HI180.out)
        have n7_ := mk0 (bD HB.out)
        clear HO_188001
        clear HO_195001
        clear BK175
        clear BK176
        clear BK187
        clear BK194
        clear HI180
        clear HB
        have HO_188001 := n0_
        have HO_195001 := n1_
        have BK175 := n2_
        have BK176 := n3_
        have BK187 := n4_
        have BK194 := n5_
        have HI180 := n6_
        have HB := n7_
        clear n0_ n1_ n2_ n3_ n4_ n5_ n6_ n7_
        refine start_ (n := 7) (S := fun w' => w'.cell? ⟨gb187, 0, none⟩ = some (.int .i64 x188000_5) ∧ w'.cell? ⟨gb187, 1, none⟩ = some (u188001) ∧ w'.cell? ⟨gb194, 0, none⟩ = some (.int .i64 t188) ∧ w'.cell? ⟨gb194, 1, none⟩ = some (.slice Ao24 t189.length co24)) (ds := []) #[false, false, false, false, false, false, false] (by kernel_rfl) rfl rfl ⟨(blk_cell BK187.out 0).trans rfl, (blk_cell BK187.out 1).trans rfl, (blk_cell BK194.out 0).trans rfl, (blk_cell BK194.out 1).trans rfl⟩ (fun hHeld => ?_)
        generalize w56.drew = w57 at HO_188001 HO_195001 BK175 BK176 BK187 BK194 HI180 HB hHeld ⊢
        refine pure_ (i := 2) (N := some 24) (v := ?_) (a' := ?_) #[false, false, true, false, false, false, false] rfl rfl (by kernel_rfl) (fun _ _ _ h => h) (Or.inl ⟨by rfl, ?_⟩) ?_ ?_
        rotate_left
        · intro w'
          go_simp
          with_reducible rfl
        rotate_left
        · simp only [Act.put, List.setIfInBounds_toArray, List.set_cons_zero, List.set_cons_succ, i64_w, i32_w]
          rfl
        refine take_ (i := 0) (N := some 22) (v := ?_) (a' := ?_) #[true, false, true, false, false, false, false] rfl rfl (by kernel_rfl) (fun _ _ _ h => h) (Or.inl ⟨by rfl, ?_⟩) hHeld ?_ ?_
        rotate_left
        · rintro w' ⟨s0, s1, s2, s3⟩
          go_simp
          with_reducible rfl
        rotate_left
        · simp only [Act.put, List.setIfInBounds_toArray, List.set_cons_zero, List.set_cons_succ, i64_w, i32_w]
          rfl
        refine take_ (i := 1) (N := some 23) (v := ?_) (a' := ?_) #[true, true, true, false, false, false, false] rfl rfl (by kernel_rfl) (fun _ _ _ h => h) (Or.inl ⟨by rfl, ?_⟩) hHeld ?_ ?_
        rotate_left
        · rintro w' ⟨s0, s1, s2, s3⟩
          go_simp
          with_reducible rfl
        rotate_left
        · simp only [Act.put, List.setIfInBounds_toArray, List.set_cons_zero, List.set_cons_succ, i64_w, i32_w]
          rfl
        refine one_ (i := 3) (N := some 25) #[true, true, true, true, false, false, false] rfl rfl (by kernel_rfl) (by decide) (fun K hK => ?_)
        refine goes_ Try.func56 (by kernel_rfl) rfl #[.pointer (some ⟨g180, 0, none⟩)] (by rfl) rfl rfl (by (try simp only [List.map_toArray, List.map_cons, List.map_nil]); first | done | rfl) ?_
        with_reducible refine (spec_l9Draw.calls kj5 g180 t177 t205 t206 t218 t221 t222 w _ ?side1 ?side2 A55.out).mono ?_
        (case side1 => repeat (first | (with_reducible first | exact HI180.out | apply IsS101.alloc | apply IsS101.drewN | apply IsS101.drew | apply IsS101.set_1 | apply IsS101.set_2 | refine IsS101.far ?_ NB180_175.out _ | refine IsS101.far ?_ NB180_176.out _ | refine IsS101.far ?_ NB180_187.out _ | refine IsS101.far ?_ NB180_194.out _) | exact HI180.out))
        (case side2 => repeat (first | (with_reducible first | exact HB.out | apply bA | apply bN | apply bD | refine bS ?_ (IsS101.ge HI180.out) | refine bS ?_ GE175.out | refine bS ?_ GE176.out | refine bS ?_ GE187.out | refine bS ?_ GE194.out) | exact HB.out))
        rintro e w58 ⟨v219, rfl, ho0, hi, hb, hk⟩
        refine ⟨_, rfl, ?_⟩
        have n0_ := mk0 (Kd.R_mono (Kd.R_keep (IsS101.apart (show IsS101 w _ g180 t177 t205 t206 from by repeat (first | (with_reducible first | exact HI180.out | apply IsS101.alloc | apply IsS101.drewN | apply IsS101.drew | apply IsS101.set_1 | apply IsS101.set_2 | refine IsS101.far ?_ NB180_175.out _ | refine IsS101.far ?_ NB180_176.out _ | refine IsS101.far ?_ NB180_187.out _ | refine IsS101.far ?_ NB180_194.out _) | exact HI180.out)) (by (with_reducible repeat (first | apply Kd.R_alloc | apply Kd.R_drewN | apply Kd.R_drew)); exact HO_188001.out) (by decide)) hk (fun _ h => h.2)) (fun _ h => h.1))
        have n1_ := mk0 (Kd.R_mono (Kd.R_keep (IsS101.apart (show IsS101 w _ g180 t177 t205 t206 from by repeat (first | (with_reducible first | exact HI180.out | apply IsS101.alloc | apply IsS101.drewN | apply IsS101.drew | apply IsS101.set_1 | apply IsS101.set_2 | refine IsS101.far ?_ NB180_175.out _ | refine IsS101.far ?_ NB180_176.out _ | refine IsS101.far ?_ NB180_187.out _ | refine IsS101.far ?_ NB180_194.out _) | exact HI180.out)) (by (with_reducible repeat (first | apply Kd.R_alloc | apply Kd.R_drewN | apply Kd.R_drew)); exact HO_195001.out) (by decide)) hk (fun _ h => h.2)) (fun _ h => h.1))
        have n2_ := mk0 (KeepBut.blk hk (g' := gb175) (o := .cells #[.int .i64 0, .slice none 0 0] 28 (0, 0)) (by (with_reducible repeat (first | refine kN ?_ _ | refine kD ?_ | refine kA ?_ _)); exact BK175.out) NB175_180.out (by simp))
        have n3_ := mk0 (KeepBut.blk hk (g' := gb176) (o := .cells #[.int .i64 0, .slice none 0 0] 28 (0, 0)) (by (with_reducible repeat (first | refine kN ?_ _ | refine kD ?_ | refine kA ?_ _)); exact BK176.out) NB176_180.out (by simp))
        have n4_ := mk0 (KeepBut.blk hk (g' := gb187) (o := .cells #[.int .i64 x188000_5, u188001] 28 (0, 0)) (by (with_reducible repeat (first | refine kN ?_ _ | refine kD ?_ | refine kA ?_ _)); exact BK187.out) NB187_180.out (by simp))
        have n5_ := mk0 (KeepBut.blk hk (g' := gb194) (o := .cells #[.int .i64 t188, .slice Ao24 t189.length co24] 28 (0, 0)) (by (with_reducible repeat (first | refine kN ?_ _ | refine kD ?_ | refine kA ?_ _)); exact BK194.out) NB194_180.out (by simp))
        have n6_ := mk0 (Kd.R_lower ho0 (below_size (by repeat (first | (with_reducible first | exact HB.out | apply bA | apply bN | apply bD | refine bS ?_ (IsS101.ge HI180.out) | refine bS ?_ GE175.out | refine bS ?_ GE176.out | refine bS ?_ GE187.out | refine bS ?_ GE194.out) | exact HB.out))))
        have n7_ := mk0 (hb)
        have n8_ := mk0 (hi)
        clear HO_188001
        clear HO_195001
        clear BK175
        clear BK176
        clear BK187
        clear BK194
        clear HB
        clear HI180
        have HO_188001 := n0_
        have HO_195001 := n1_
        have BK175 := n2_
        have BK176 := n3_
        have BK187 := n4_
        have BK194 := n5_
        have HO220 := n6_
        have HB := n7_
        have HI180 := n8_
        clear n0_ n1_ n2_ n3_ n4_ n5_ n6_ n7_ n8_
        (try clear hb)
        (try clear hb2)
        (try clear hk)
        (try clear hi)
        (try clear ho0)
        obtain ⟨Ao60, co60, eo60⟩ := Kd.R_slice HO_188001.out
        (first | subst eo60 | (injection eo60 with f1_ f2_ f3_; have f4_ := f1_.symm; have f5_ := f3_.symm; clear f1_ f2_ f3_; subst f4_; subst f5_))
        refine hK.out _ _ ⟨(blk_cell BK187.out 0).trans rfl, (blk_cell BK187.out 1).trans rfl, (blk_cell BK194.out 0).trans rfl, (blk_cell BK194.out 1).trans rfl⟩ (fun hHeld => ?_)
        clear hK K
        refine norm_ (a' := ?_) ?_ ?_
        rotate_left
        · show Act.put _ (some 25) _ = _
          simp only [Act.put, List.setIfInBounds_toArray, List.set_cons_zero, List.set_cons_succ, i64_w, i32_w]
          rfl
        refine one_ (i := 4) (N := none) #[true, true, true, true, true, false, false] rfl rfl (by kernel_rfl) (by decide) (fun K hK => ?_)
        have hs59 : w58.cell? ⟨gb175, 0, none⟩ = some (.int .i64 0) := (blk_cell BK175.out 0).trans rfl
        have hfs59 := blk_frozen BK175.out 0
        have hns59_1 := NB176_175.out
        have hns59_2 := NB187_175.out
        have hns59_3 := NB194_175.out
        have hms59_1 := NB175_176.out
        have hms59_2 := NB175_187.out
        have hms59_3 := NB175_194.out
        have hs61 : w58.cell? ⟨gb175, 1, none⟩ = some (.slice none 0 0) := (blk_cell BK175.out 1).trans rfl
        have hfs61 := blk_frozen BK175.out 1
        have hns61_1 := NB176_175.out
        have hns61_2 := NB187_175.out
        have hns61_3 := NB194_175.out
        have hms61_1 := NB175_176.out
        have hms61_2 := NB175_187.out
        have hms61_3 := NB175_194.out
        refine skip_ (w1 := ?_) (by rfl) rfl ?_ ?_
        rotate_left
        · go_simp
          rfl
        refine hK.out _ _ ⟨((cell_far (p := ⟨gb175, _, none⟩) NB187_175.out _).trans (((cell_far (p := ⟨gb175, _, none⟩) NB187_175.out _).trans (hHeld.1)))), ((cell_far (p := ⟨gb175, _, none⟩) NB187_175.out _).trans (((cell_far (p := ⟨gb175, _, none⟩) NB187_175.out _).trans (hHeld.2.1)))), ((cell_far (p := ⟨gb175, _, none⟩) NB194_175.out _).trans (((cell_far (p := ⟨gb175, _, none⟩) NB194_175.out _).trans (hHeld.2.2.1)))), ((cell_far (p := ⟨gb175, _, none⟩) NB194_175.out _).trans (((cell_far (p := ⟨gb175, _, none⟩) NB194_175.out _).trans (hHeld.2.2.2))))⟩ (fun hHeld => ?_)
        clear hK K
        refine one_ (i := 5) (N := none) #[true, true, true, true, true, true, false] rfl rfl (by kernel_rfl) (by decide) (fun K hK => ?_)
        have hs62 : w58.cell? ⟨gb176, 0, none⟩ = some (.int .i64 0) := (blk_cell BK176.out 0).trans rfl
        have hfs62 := blk_frozen BK176.out 0
        have hns62_0 := NB175_176.out
        have hns62_2 := NB187_176.out
        have hns62_3 := NB194_176.out
        have hms62_0 := NB176_175.out
        have hms62_2 := NB176_187.out
        have hms62_3 := NB176_194.out
        have hs63 : w58.cell? ⟨gb176, 1, none⟩ = some (.slice none 0 0) := (blk_cell BK176.out 1).trans rfl
        have hfs63 := blk_frozen BK176.out 1
        have hns63_0 := NB175_176.out
        have hns63_2 := NB187_176.out
        have hns63_3 := NB194_176.out
        have hms63_0 := NB176_175.out
        have hms63_2 := NB176_187.out
        have hms63_3 := NB176_194.out
        refine skip_ (w1 := ?_) (by rfl) rfl ?_ ?_
        rotate_left
        · go_simp
          rfl
        refine hK.out _ _ ⟨((cell_far (p := ⟨gb176, _, none⟩) NB187_176.out _).trans (((cell_far (p := ⟨gb176, _, none⟩) NB187_176.out _).trans (hHeld.1)))), ((cell_far (p := ⟨gb176, _, none⟩) NB187_176.out _).trans (((cell_far (p := ⟨gb176, _, none⟩) NB187_176.out _).trans (hHeld.2.1)))), ((cell_far (p := ⟨gb176, _, none⟩) NB194_176.out _).trans (((cell_far (p := ⟨gb176, _, none⟩) NB194_176.out _).trans (hHeld.2.2.1)))), ((cell_far (p := ⟨gb176, _, none⟩) NB194_176.out _).trans (((cell_far (p := ⟨gb176, _, none⟩) NB194_176.out _).trans (hHeld.2.2.2))))⟩ (fun hHeld => ?_)
        clear hK K
        refine pure_ (i := 6) (N := some 4) (v := ?_) (a' := ?_) #[true, true, true, true, true, true, true] rfl rfl (by kernel_rfl) (fun _ _ _ h => h) (Or.inl ⟨by rfl, ?_⟩) ?_ ?_
        rotate_left
        · intro w'
          go_simp
          with_reducible rfl
        rotate_left
        · simp only [Act.put, List.setIfInBounds_toArray, List.set_cons_zero, List.set_cons_succ, i64_w, i32_w]
          rfl
        refine done_ (by kernel_rfl) ?_
        try go_wp2
        refine bodyPost_ret (results_list (rs := [.cell 2 28, .cell 3 28, .tmp 4]) rfl (by simp) (.cell gb175 28 #[.int .i64 x188000_5, .slice Ao60 x188001_5.length co60] (0, 0) _ rfl (by (with_reducible repeat (first | refine kN ?_ _ | refine kD ?_ | refine kA ?_ _)); refine blk_far ?_ NB175_176.out _; (with_reducible repeat (first | refine kN ?_ _ | refine kD ?_ | refine kA ?_ _)); refine blk_far ?_ NB175_176.out _; (with_reducible repeat (first | refine kN ?_ _ | refine kD ?_ | refine kA ?_ _)); refine blk_put (cs := #[.int .i64 x188000_5, .slice none 0 0]) ?_ 1 _ rfl; (with_reducible repeat (first | refine kN ?_ _ | refine kD ?_ | refine kA ?_ _)); refine blk_put (cs := #[.int .i64 0, .slice none 0 0]) ?_ 0 _ rfl; (with_reducible repeat (first | refine kN ?_ _ | refine kD ?_ | refine kA ?_ _)); exact BK175.out) Try.underlying28 rfl (by kernel_rfl) (.cell gb176 28 #[.int .i64 t188, .slice Ao24 t189.length co24] (0, 0) _ rfl (by (with_reducible repeat (first | refine kN ?_ _ | refine kD ?_ | refine kA ?_ _)); refine blk_put (cs := #[.int .i64 t188, .slice none 0 0]) ?_ 1 _ rfl; (with_reducible repeat (first | refine kN ?_ _ | refine kD ?_ | refine kA ?_ _)); refine blk_put (cs := #[.int .i64 0, .slice none 0 0]) ?_ 0 _ rfl; (with_reducible repeat (first | refine kN ?_ _ | refine kD ?_ | refine kA ?_ _)); refine blk_far ?_ NB176_175.out _; (with_reducible repeat (first | refine kN ?_ _ | refine kD ?_ | refine kA ?_ _)); refine blk_far ?_ NB176_175.out _; (with_reducible repeat (first | refine kN ?_ _ | refine kD ?_ | refine kA ?_ _)); exact BK176.out) Try.underlying28 rfl (by kernel_rfl) (.tmp .nil)))) rfl ?_
        exact ⟨_, _, _, by first | rfl | (simp [errW_none, errW_some] <;> rfl) | (simp [*, errW_none, errW_some] <;> rfl), by (with_reducible repeat (first | apply Kd.R_alloc | apply Kd.R_drewN | apply Kd.R_drew)); exact Kd.R_mono (Kd.R_far (p := ⟨gb176, 1, none⟩) (Kd.R_far (p := ⟨gb176, 0, none⟩) (Kd.R_far (p := ⟨gb175, 1, none⟩) (Kd.R_far (p := ⟨gb175, 0, none⟩) (Kd.R_types (Kd.R_types HO_188001.out BK175.out (by decide)) BK176.out (by decide)) (fun _ hk => hk.1.2) (.int .i64 x188000_5)) (fun _ hk => hk.1.2) (.slice Ao60 x188001_5.length co60)) (fun _ hk => hk.2) (.int .i64 t188)) (fun _ hk => hk.2) (.slice Ao24 t189.length co24)) (fun _ hk => hk.1.1), by (with_reducible repeat (first | apply Kd.R_alloc | apply Kd.R_drewN | apply Kd.R_drew)); exact Kd.R_mono (Kd.R_far (p := ⟨gb176, 1, none⟩) (Kd.R_far (p := ⟨gb176, 0, none⟩) (Kd.R_far (p := ⟨gb175, 1, none⟩) (Kd.R_far (p := ⟨gb175, 0, none⟩) (Kd.R_types (Kd.R_types HO_195001.out BK175.out (by decide)) BK176.out (by decide)) (fun _ hk => hk.1.2) (.int .i64 x188000_5)) (fun _ hk => hk.1.2) (.slice Ao60 x188001_5.length co60)) (fun _ hk => hk.2) (.int .i64 t188)) (fun _ hk => hk.2) (.slice Ao24 t189.length co24)) (fun _ hk => hk.1.1), by (with_reducible repeat (first | apply Kd.R_alloc | apply Kd.R_drewN | apply Kd.R_drew)); exact Kd.R_mono (Kd.R_far (p := ⟨gb176, 1, none⟩) (Kd.R_far (p := ⟨gb176, 0, none⟩) (Kd.R_far (p := ⟨gb175, 1, none⟩) (Kd.R_far (p := ⟨gb175, 0, none⟩) (Kd.R_types (Kd.R_types HO220.out BK175.out (by decide)) BK176.out (by decide)) (fun _ hk => hk.1.2) (.int .i64 x188000_5)) (fun _ hk => hk.1.2) (.slice Ao60 x188001_5.length co60)) (fun _ hk => hk.2) (.int .i64 t188)) (fun _ hk => hk.2) (.slice Ao24 t189.length co24)) (fun _ hk => trivial), by repeat (first | (with_reducible first | exact HB.out | apply bA | apply bN | apply bD | refine bS ?_ (IsS101.ge HI180.out) | refine bS ?_ GE175.out | refine bS ?_ GE176.out | refine bS ?_ GE187.out | refine bS ?_ GE194.out) | exact HB.out)⟩
end Go.Proofs.Ytmomablfmhkppaa.PFnMeets
