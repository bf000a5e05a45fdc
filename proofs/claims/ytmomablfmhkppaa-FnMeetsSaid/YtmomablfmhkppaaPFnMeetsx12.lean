-- The functions of a law as plain Lean functions, each with its contract: written by a program of this session.
import Derived.Test.YtmomablfmhkppaaPFnMeetsx0
import Derived.Test.YtmomablfmhkppaaPFnMeetsx3
import Derived.Test.YtmomablfmhkppaaPFnMeetsx10
import Derived.Test.YtmomablfmhkppaaPFnMeetsx11
namespace Go.Proofs.Ytmomablfmhkppaa.PFnMeets
open Go.RowKit Go.Proofs.YtmomablfmhkppaaW.PrintWords Go.Proofs.YtmomablfmhkppaaW.PrintLast Go.Proofs.YtmomablfmhkppaaW.PrintMore
attribute [local go_sem] max2_int min2_int max_two min_two max_three min_three max_four min_four   -- for this text's walks alone
set_option linter.unusedVariables false
set_option linter.unusedSimpArgs false

def impl_MeetAt.wfs (l : List Int) : Bool := l.all fun x => (Lit.int .i64 x).wf
def impl_MeetAt.f (k : Nat) (a0_0 : Int) (l0_1 : List S70) (a1_0 : Int) (l1_1 : List S70) (a2 : ByteArray) (a3 : Int) (a4 : Int) (l5 : List S56) : Option Bool :=
  (impl_Rounds.f k l5).bind fun t1 => if (decide (1 ≤ t1) && decide (t1 ≤ 600)) = true then ((impl_AffOk.f k a0_0 l0_1).bind fun t2 => if t2 = true then ((impl_AffOk.f k a1_0 l1_1).bind fun t3 => if t3 = true then
    ((impl_valuesOf.f k a0_0 l0_1 a2 a3 l5).bind fun xs => (impl_valuesOf.f k a1_0 l1_1 a2 a4 l5).bind fun ys => if (impl_MeetAt.wfs xs && impl_MeetAt.wfs ys && decide (xs.length ≤ 140737488351232) && decide (ys.length ≤ 140737488351232)) = true then some (ys.any fun y => xs.contains y) else none)
    else some false) else some false) else some false
theorem impl_MeetAt.mono : ∀ a0 a1 a2 a3 a4 a5 a6 a7 k, LeO (impl_MeetAt.f k a0 a1 a2 a3 a4 a5 a6 a7) (impl_MeetAt.f (k + 1) a0 a1 a2 a3 a4 a5 a6 a7) := by
  intro a0 a1 a2 a3 a4 a5 a6 a7 k
  unfold impl_MeetAt.f
  repeat' first
      | (with_reducible exact impl_Rounds.mono _ _)
      | (with_reducible exact impl_AffOk.mono _ _ _)
      | (with_reducible exact impl_valuesOf.mono _ _ _ _ _ _)
      | (with_reducible exact LeO.refl _)
      | (with_reducible exact LeO.none _)
      | (with_reducible refine LeO.ite ?_ ?_)
      | (with_reducible refine LeO.bind ?_ (fun _ => ?_))
theorem impl_MeetAt.inR (t : Int) : impl_inRange.f t 1 600 = some (decide (1 ≤ t) && decide (t ≤ 600)) := by
  unfold impl_inRange.f
  by_cases h : t ≥ 1
  · have h' : 1 ≤ t := h
    rw [if_pos h]
    simp [h']
  · have h' : ¬ 1 ≤ t := h
    rw [if_neg h]
    simp [h']
theorem impl_MeetAt.mapBelow {H : Type} {P : Program} {k : TypeId} {R : Value → Option (DataW H × List MemPlace)} {w w' : World} {b n : Nat} {D : DataW H} (h : w.ownsMap P k R b n D) (hb : Below w.heap.size w w') : w'.ownsMap P k R b n D := by
  have hlt := h.lt
  obtain ⟨es, clock, h1, r⟩ := h
  exact ⟨es, clock, (hb.block b hlt).trans h1, r⟩
theorem impl_MeetAt.law3 : Maps.Keyed Try.prog 3 := Maps.int_keyed Try.underlying3
theorem impl_MeetAt.zero3 (w : World) : (zeroValue 3).run Try.prog w = .ok (.int .i64 0) w := by kernel_rfl
theorem impl_MeetAt.key {l : List Int} (h : impl_MeetAt.wfs l = true) {i : Nat} (hi : i < l.length) : keyOf Try.prog 3 (.int .i64 (rd l (i : Int))) = some (.int .i64 (rd l (i : Int))) := by
  refine Maps.keyOf_int_mk Try.underlying3 ?_
  have hm : rd l (i : Int) ∈ l := by
    unfold rd
    rw [Int.toNat_natCast, List.getD_eq_getElem?_getD, List.getElem?_eq_getElem hi]
    exact List.getElem_mem hi
  exact List.all_eq_true.1 h _ hm
theorem impl_MeetAt.take (l : List Int) {i : Nat} (hi : i < l.length) : l.take (i + 1) = l.take i ++ [rd l (i : Int)] := by
  rw [List.take_add_one, List.getElem?_eq_getElem hi]
  simp [rd, List.getElem?_eq_getElem hi]
/-- What the map has behind some rounds: above 0 just at what came. -/
structure impl_MeetAt.Seen (D : DataW Unit) (l : List Int) (n : Nat) : Prop where
  isMap : Maps.IsMap D
  at_ : ∀ x : Int, ∃ c : Int, D.atKey (.int .i64 x) (.lit (.int .i64 0)) = .lit (.int .i64 c) ∧ 0 ≤ c ∧ c ≤ n ∧ (0 < c ↔ x ∈ l)
theorem impl_MeetAt.Seen.nil : impl_MeetAt.Seen (.map []) [] 0 := ⟨⟨_, rfl⟩, fun x => ⟨0, rfl, by omega, by omega, by simp⟩⟩
theorem impl_MeetAt.Seen.put {D : DataW Unit} {l : List Int} {n : Nat} (h : impl_MeetAt.Seen D l n) (hn : n < 140737488351232) {x c : Int} (hc : D.atKey (.int .i64 x) (.lit (.int .i64 0)) = .lit (.int .i64 c)) :
    impl_MeetAt.Seen (D.put (.int .i64 x) (.lit (.int .i64 (wrap64 (c + 1))))) (l ++ [x]) (n + 1) := by
  obtain ⟨c', h1, h2, h3, h4⟩ := h.at_ x
  have e : c = c' := by
    rw [hc] at h1
    injection h1 with h1
    injection h1 with _ h1
  subst e
  have hw : wrap64 (c + 1) = c + 1 := by unfold wrap64; omega
  rw [hw]
  refine ⟨(by obtain ⟨es, rfl⟩ := h.isMap; exact ⟨_, rfl⟩), fun y => ?_⟩
  by_cases hy : y = x
  · subst hy
    exact ⟨c + 1, Maps.atKey_put_same h.isMap (by trivial) _ _, by omega, by omega, by simp; omega⟩
  · obtain ⟨c2, k1, k2, k3, k4⟩ := h.at_ y
    refine ⟨c2, ?_, k2, by omega, ?_⟩
    · rw [Maps.atKey_put_other (fun e => hy (by injection e))]
      exact k1
    · rw [k4]
      simp [hy]

set_option maxHeartbeats 8000000 in
set_option maxRecDepth 100000 in
theorem impl_MeetAt.calls (k : Nat) (a0_0 : Int) (A0_1 : Option Addr) (c0_1 : Nat) (l0_1 : List (S70)) (a1_0 : Int) (A1_1 : Option Addr) (c1_1 : Nat) (l1_1 : List (S70)) (a2 : ByteArray) (a3 : Int) (a4 : Int) (A5 : Option Addr) (c5 : Nat) (l5 : List (S56)) (r : Bool) (w : World) (hr0_1 : Kd.C k70 w A0_1 l0_1.length l0_1) (hc0_1 : l0_1.length ≤ c0_1) (hr1_1 : Kd.C k70 w A1_1 l1_1.length l1_1) (hc1_1 : l1_1.length ≤ c1_1) (hr5 : Kd.C k56 w A5 l5.length l5) (hc5 : l5.length ≤ c5) (h : impl_MeetAt.f k a0_0 l0_1 a1_0 l1_1 a2 a3 a4 l5 = some r) :
    Calls Try.prog 33 #[.agg #[.int .i64 a0_0, .slice A0_1 l0_1.length c0_1], .agg #[.int .i64 a1_0, .slice A1_1 l1_1.length c1_1], .string a2, .int .i64 a3, .int .i64 a4, .slice A5 l5.length c5] w fun e w' => e = .returned (.bool r) ∧ Below w.heap.size w w' := by
  have HC0 := mk0 hc0_1
  have HC1 := mk0 hc1_1
  have HC5 := mk0 hc5
  have HR0 := mk0 hr0_1
  have HR1 := mk0 hr1_1
  have HR5 := mk0 hr5
  clear hc0_1 hc1_1 hc5 hr0_1 hr1_1 hr5
  unfold impl_MeetAt.f at h
  obtain ⟨t1, A1, H⟩ := Option.bind_eq_some_iff.mp h
  clear h
  have A1 := mk0 A1
  obtain ⟨w2, hw2⟩ : ∃ w2, w2 = (w.alloc (.cells #[.int .i64 a0_0, .slice A0_1 l0_1.length c0_1] 28)).alloc (.cells #[.int .i64 a1_0, .slice A1_1 l1_1.length c1_1] 28) := ⟨_, rfl⟩
  have F0 : Aside0 (w2.cell? ⟨w.heap.size, 0, none⟩ = some (.int .i64 a0_0) ∧ w2.cell? ⟨w.heap.size, 1, none⟩ = some (.slice A0_1 l0_1.length c0_1) ∧ w2.cell? ⟨w.heap.size + 1, 0, none⟩ = some (.int .i64 a1_0) ∧ w2.cell? ⟨w.heap.size + 1, 1, none⟩ = some (.slice A1_1 l1_1.length c1_1) ∧ w.heap.size + 1 < w2.heap.size) := by
    subst hw2
    exact ⟨by go_simp, by go_simp, by go_simp, by go_simp, by simp⟩
  have HB2 : Aside0 (Below w.heap.size w w2) := by
    subst hw2
    exact ⟨bA (bA (Below.refl _ _) _) _⟩
  have cellf : ∀ W : World, Below w2.heap.size w2 W → W.cell? ⟨w.heap.size, 0, none⟩ = some (.int .i64 a0_0) ∧ W.cell? ⟨w.heap.size, 1, none⟩ = some (.slice A0_1 l0_1.length c0_1) ∧ W.cell? ⟨w.heap.size + 1, 0, none⟩ = some (.int .i64 a1_0) ∧ W.cell? ⟨w.heap.size + 1, 1, none⟩ = some (.slice A1_1 l1_1.length c1_1) := fun W hb => by
    have h5 := F0.out.2.2.2.2
    exact ⟨(hb.cell (show w.heap.size < w2.heap.size by omega)).trans F0.out.1, (hb.cell (show w.heap.size < w2.heap.size by omega)).trans F0.out.2.1, (hb.cell h5).trans F0.out.2.2.1, (hb.cell h5).trans F0.out.2.2.2.1⟩
  have CELLF := mk0 cellf
  clear cellf
  have hmm := @run_makeMap Try.prog
  have INR := mk0 (impl_MeetAt.inR t1)
  cases e1 : (decide (1 ≤ t1) && decide (t1 ≤ 600)) with
  | false =>
    rw [e1] at H INR
    rw [if_neg (show ¬ (false = true) by decide)] at H
    obtain rfl := Option.some.inj H
    clear H e1
    go_enter Try.func33, Try.ntmps33
    go_wp2_with (first | (go_at_call 68; rw [← hw2]; (with_reducible refine (impl_Rounds.calls k A5 c5 l5 t1 w2 (Kd.C_below HR5.out HB2.out) HC5.out A1.out).mono ?_); rintro e w3 ⟨rfl, hb⟩; have HBF := mk0 hb; clear hb) | (go_at_call 60; (with_reducible refine (impl_inRange.calls t1 1 600 _ _ INR.out).mono ?_); rintro e w' ⟨rfl, ⟨nd, rfl⟩⟩; have n0_ := mk0 (bN HBF.out nd); clear HBF; have HBF := n0_; clear n0_; obtain ⟨hf0, hf1, hf2, hf3⟩ := CELLF.out _ HBF.out))
    go_ret
    exact ⟨rfl, below_step HB2.out HBF.out⟩
  | true =>
    rw [e1] at H INR
    rw [if_pos rfl] at H
    obtain ⟨t2, A2, H⟩ := Option.bind_eq_some_iff.mp H
    have A2 := mk0 A2
    clear e1
    cases t2 with
    | false =>
      rw [if_neg (show ¬ (false = true) by decide)] at H
      obtain rfl := Option.some.inj H
      clear H
      go_enter Try.func33, Try.ntmps33
      go_wp2_with (first | (go_at_call 68; rw [← hw2]; (with_reducible refine (impl_Rounds.calls k A5 c5 l5 t1 w2 (Kd.C_below HR5.out HB2.out) HC5.out A1.out).mono ?_); rintro e w3 ⟨rfl, hb⟩; have HBF := mk0 hb; clear hb) | (go_at_call 60; (with_reducible refine (impl_inRange.calls t1 1 600 _ _ INR.out).mono ?_); rintro e w' ⟨rfl, ⟨nd, rfl⟩⟩; have n0_ := mk0 (bN HBF.out nd); clear HBF; have HBF := n0_; clear n0_; obtain ⟨hf0, hf1, hf2, hf3⟩ := CELLF.out _ HBF.out) | (go_at_call 20; (with_reducible refine (impl_AffOk.calls k a0_0 A0_1 c0_1 l0_1 _ _ (Kd.C_below HR0.out (below_step HB2.out HBF.out)) HC0.out A2.out).mono ?_); rintro e w4 ⟨rfl, hb⟩; have n0_ := mk0 (below_step HBF.out hb); clear HBF; have HBF := n0_; clear n0_ hb; obtain ⟨hf0, hf1, hf2, hf3⟩ := CELLF.out _ HBF.out))
      go_ret
      exact ⟨rfl, below_step HB2.out HBF.out⟩
    | true =>
      rw [if_pos rfl] at H
      obtain ⟨t3, A3, H⟩ := Option.bind_eq_some_iff.mp H
      have A3 := mk0 A3
      cases t3 with
      | false =>
        rw [if_neg (show ¬ (false = true) by decide)] at H
        obtain rfl := Option.some.inj H
        clear H
        go_enter Try.func33, Try.ntmps33
        go_wp2_with (first | (go_at_call 68; rw [← hw2]; (with_reducible refine (impl_Rounds.calls k A5 c5 l5 t1 w2 (Kd.C_below HR5.out HB2.out) HC5.out A1.out).mono ?_); rintro e w3 ⟨rfl, hb⟩; have HBF := mk0 hb; clear hb) | (go_at_call 60; (with_reducible refine (impl_inRange.calls t1 1 600 _ _ INR.out).mono ?_); rintro e w' ⟨rfl, ⟨nd, rfl⟩⟩; have n0_ := mk0 (bN HBF.out nd); clear HBF; have HBF := n0_; clear n0_; obtain ⟨hf0, hf1, hf2, hf3⟩ := CELLF.out _ HBF.out) | (go_at_call 20; (with_reducible refine (impl_AffOk.calls k a0_0 A0_1 c0_1 l0_1 _ _ (Kd.C_below HR0.out (below_step HB2.out HBF.out)) HC0.out A2.out).mono ?_); rintro e w4 ⟨rfl, hb⟩; have n0_ := mk0 (below_step HBF.out hb); clear HBF; have HBF := n0_; clear n0_ hb; obtain ⟨hf0, hf1, hf2, hf3⟩ := CELLF.out _ HBF.out) | (go_at_call 20; (with_reducible refine (impl_AffOk.calls k a1_0 A1_1 c1_1 l1_1 _ _ (Kd.C_below HR1.out (below_step HB2.out HBF.out)) HC1.out A3.out).mono ?_); rintro e w5 ⟨rfl, hb⟩; have n0_ := mk0 (below_step HBF.out hb); clear HBF; have HBF := n0_; clear n0_ hb; obtain ⟨hf0, hf1, hf2, hf3⟩ := CELLF.out _ (bA HBF.out (.map #[] 0))))
        go_ret
        exact ⟨rfl, below_step HB2.out HBF.out⟩
      | true =>
        rw [if_pos rfl] at H
        obtain ⟨xs, A4, H⟩ := Option.bind_eq_some_iff.mp H
        obtain ⟨ys, A5', H⟩ := Option.bind_eq_some_iff.mp H
        have A4 := mk0 A4
        have A5' := mk0 A5'
        go_enter Try.func33, Try.ntmps33
        go_wp2_with (first | (go_at_call 68; rw [← hw2]; (with_reducible refine (impl_Rounds.calls k A5 c5 l5 t1 w2 (Kd.C_below HR5.out HB2.out) HC5.out A1.out).mono ?_); rintro e w3 ⟨rfl, hb⟩; have HBF := mk0 hb; clear hb) | (go_at_call 60; (with_reducible refine (impl_inRange.calls t1 1 600 _ _ INR.out).mono ?_); rintro e w' ⟨rfl, ⟨nd, rfl⟩⟩; have n0_ := mk0 (bN HBF.out nd); clear HBF; have HBF := n0_; clear n0_; obtain ⟨hf0, hf1, hf2, hf3⟩ := CELLF.out _ HBF.out) | (go_at_call 20; (with_reducible refine (impl_AffOk.calls k a0_0 A0_1 c0_1 l0_1 _ _ (Kd.C_below HR0.out (below_step HB2.out HBF.out)) HC0.out A2.out).mono ?_); rintro e w4 ⟨rfl, hb⟩; have n0_ := mk0 (below_step HBF.out hb); clear HBF; have HBF := n0_; clear n0_ hb; obtain ⟨hf0, hf1, hf2, hf3⟩ := CELLF.out _ HBF.out) | (go_at_call 20; (with_reducible refine (impl_AffOk.calls k a1_0 A1_1 c1_1 l1_1 _ _ (Kd.C_below HR1.out (below_step HB2.out HBF.out)) HC1.out A3.out).mono ?_); rintro e w5 ⟨rfl, hb⟩; have n0_ := mk0 (below_step HBF.out hb); clear HBF; have HBF := n0_; clear n0_ hb; obtain ⟨hf0, hf1, hf2, hf3⟩ := CELLF.out _ (bA HBF.out (.map #[] 0))) | (go_at_call 69; (with_reducible refine (impl_valuesOf.calls k a0_0 A0_1 c0_1 l0_1 a2 a3 A5 c5 l5 xs _ (Kd.C_below HR0.out (below_step HB2.out (bA HBF.out (.map #[] 0)))) HC0.out (Kd.C_below HR5.out (below_step HB2.out (bA HBF.out (.map #[] 0)))) HC5.out A4.out).mono ?_); rintro e w6 ⟨v0, rfl, ho, hb⟩; have HO6 := mk0 ho; have HB6 := mk0 hb; clear ho hb; obtain ⟨A6, c6, rfl⟩ := Kd.R_slice HO6.out))
        have hlim : xs.length ≤ 140737488351232 ∧ ys.length ≤ 140737488351232 ∧ impl_MeetAt.wfs xs = true ∧ impl_MeetAt.wfs ys = true ∧ (ys.any fun y => xs.contains y) = r := by
          by_cases hc : (impl_MeetAt.wfs xs && impl_MeetAt.wfs ys && decide (xs.length ≤ 140737488351232) && decide (ys.length ≤ 140737488351232)) = true
          · rw [if_pos hc] at H
            simp only [Bool.and_eq_true, decide_eq_true_eq] at hc
            exact ⟨hc.1.2, hc.2, hc.1.1.1, hc.1.1.2, Option.some.inj H⟩
          · rw [if_neg hc] at H
            exact absurd H (by simp)
        have HLIM := mk0 hlim
        clear hlim H
        have M0 : Aside0 (w6.ownsMap Try.prog 3 (plainElem (H := Unit) Try.prog 3) w5.heap.size 0 (.map [])) := ⟨impl_MeetAt.mapBelow (World.ownsMap_made _ _ _ _) HB6.out⟩
        have B6 : Aside0 (Below w5.heap.size w5 w6) := ⟨by
          have h1 : Below w5.heap.size w5 (w5.alloc (.map #[] 0)) := bA (Below.refl _ _) _
          exact below_step h1 HB6.out⟩
        have O6 : Aside0 ((Kd.int .i64).R 3 w6 w5.heap.size (fun k => w5.heap.size < k) (.slice A6 xs.length c6) xs) := ⟨Kd.R_lower (Kd.R_mono (Kd.R_bound HO6.out) (fun k hk => by
          have := hk.2.1
          simp only [World.size_alloc] at this
          omega)) (by simp)⟩
        clear HB6 HO6
        go_loopw [39] (fun v wr => ∃ i : Nat, i ≤ xs.length ∧ v = .int .i64 i ∧ ∃ D, Aside0 (wr.ownsMap Try.prog 3 (plainElem (H := Unit) Try.prog 3) w5.heap.size i D) ∧ Aside0 (impl_MeetAt.Seen D (xs.take i) i) ∧ Aside0 ((Kd.int .i64).R 3 wr w5.heap.size (fun k => w5.heap.size < k) (.slice A6 xs.length c6) xs) ∧ Aside0 (Below w5.heap.size w5 wr))
          (fun v _ => xs.length - (intOf v).toNat)
        case atStart => exact ⟨0, Nat.zero_le _, rfl, _, M0, ⟨impl_MeetAt.Seen.nil⟩, O6, B6⟩
        case round =>
          obtain ⟨i, hi, rfl, D, MD, SD, OD, BD⟩ := hrel
          by_cases hlt : i < xs.length
          · have c1 : decide ((i : Int) < (xs.length : Int)) = true := decide_eq_true (by omega)
            have p2 : 0 ≤ (i : Int) := by omega
            have q2 : (i : Int) < (xs.length : Int) := by omega
            obtain ⟨A', c', he, hl', hC⟩ := Kd.R_reads OD.out
            obtain ⟨ad, e1, hx⟩ := Kd.at_int hC (i : Int) p2 q2
            injection he with he1 he2 he3
            subst he1
            subst he3
            cases e1
            rw [Int.toNat_natCast] at hx
            have HI := mk0 hlt
            have hreach := HLIM.out.1
            have hw8 : wrap64 ((i : Int) + 1) = (i : Int) + 1 := by unfold wrap64; omega
            have hkey := impl_MeetAt.key HLIM.out.2.2.1 hlt
            replace p2 := eq_true p2
            replace q2 := eq_true q2
            go_wp2_with (first
              | (at_lookup; refine wpList_lookup_own_int _ rfl _ _ 86 rfl 3 3 .i64 impl_MeetAt.law3 Try.underlying86 Try.underlying3 (impl_MeetAt.zero3 _) w5.heap.size i _ rfl MD.out _ _ rfl hkey ?_; intro c hat hwc)
              | (at_mapUpdate; refine wpList_mapUpdate_own _ rfl _ _ _ 86 rfl 3 3 impl_MeetAt.law3 Try.underlying86 _ w5.heap.size i _ rfl MD.out (by have := HLIM.out.1; unfold maxLen; omega) _ _ _ rfl rfl hkey _ [] (plainElem_int Try.underlying3 (wrap64_wf _)) ?_; intro w1 hown1 hgrow1))
            go_roundw
            case rel => exact ⟨i + 1, by have := HI.out; omega, by go_num, _, ⟨hown1⟩, ⟨by rw [impl_MeetAt.take xs HI.out]; exact SD.out.put (by have := HLIM.out.1; have := HI.out; omega) hat⟩, ⟨Kd.R_grown OD.out hgrow1 (fun k hk e => by cases e; omega)⟩, ⟨BD.out.grown hgrow1 BD.out.size (fun j hj => by cases hj; exact Nat.le_refl _)⟩⟩
            case measure => have := HI.out; simp [intOf]; omega
          · have c1 : decide ((i : Int) < (xs.length : Int)) = false := decide_eq_false (by omega)
            obtain rfl : i = xs.length := by omega
            clear hlt hi
            obtain ⟨hf0, hf1, hf2, hf3⟩ := CELLF.out _ (below_step HBF.out BD.out)
            go_wp2_with (first | (go_at_call 69; (with_reducible refine (impl_valuesOf.calls k a1_0 A1_1 c1_1 l1_1 a2 a4 A5 c5 l5 ys _ (Kd.C_below HR1.out (below_step HB2.out (below_step HBF.out BD.out))) HC1.out (Kd.C_below HR5.out (below_step HB2.out (below_step HBF.out BD.out))) HC5.out A5'.out).mono ?_); rintro e w7 ⟨v0, rfl, ho, hb⟩; have HO7 := mk0 ho; have HB7 := mk0 hb; clear ho hb; obtain ⟨A7, c7, rfl⟩ := Kd.R_slice HO7.out))
            have M7 := mk0 (impl_MeetAt.mapBelow MD.out HB7.out)
            have B7 := mk0 (below_step BD.out HB7.out)
            have SD7 : Aside0 (impl_MeetAt.Seen D xs xs.length) := ⟨by simpa using SD.out⟩
            have O7 : Aside0 ((Kd.int .i64).C w7 A7 ys.length ys) := ⟨by
              obtain ⟨A', c', he, hl', hC⟩ := Kd.R_reads HO7.out
              injection he with he1 he2 he3
              subst he1
              exact hC⟩
            clear HB7 HO7 SD
            go_loopw [54] (fun v wr => ∃ j : Nat, j ≤ ys.length ∧ v = .int .i64 j ∧ Aside0 ((ys.take j).any (fun y => xs.contains y) = false) ∧ Aside0 (Below w7.heap.size w7 wr))
              (fun v _ => ys.length - (intOf v).toNat)
            case atStart => exact ⟨0, Nat.zero_le _, rfl, ⟨rfl⟩, ⟨Below.refl _ _⟩⟩
            case round =>
              obtain ⟨j, hj, rfl, NJ, BJ⟩ := hrel
              have MJ := mk0 (impl_MeetAt.mapBelow M7.out BJ.out)
              by_cases hlt2 : j < ys.length
              · have c2 : decide ((j : Int) < (ys.length : Int)) = true := decide_eq_true (by omega)
                have p2 : 0 ≤ (j : Int) := by omega
                have q2 : (j : Int) < (ys.length : Int) := by omega
                obtain ⟨ad2, e2, hx2⟩ := Kd.at_int (Kd.C_below O7.out BJ.out) (j : Int) p2 q2
                cases e2
                rw [Int.toNat_natCast] at hx2
                have HI2 := mk0 hlt2
                have hreach := HLIM.out.2.1
                have hw9 : wrap64 ((j : Int) + 1) = (j : Int) + 1 := by unfold wrap64; omega
                have hkey2 := impl_MeetAt.key HLIM.out.2.2.2.1 hlt2
                have htk := impl_MeetAt.take ys hlt2
                obtain ⟨cc, hc1, hc2, hc3, hc4⟩ := SD7.out.at_ (rd ys (j : Int))
                have HC1' := mk0 hc1
                replace p2 := eq_true p2
                replace q2 := eq_true q2
                clear hc1 hc3
                by_cases hmem : rd ys (j : Int) ∈ xs
                · have hpos : decide (0 < cc) = true := decide_eq_true (hc4.2 hmem)
                  have hr : true = r := by
                    rw [← HLIM.out.2.2.2.2, eq_comm, List.any_eq_true]
                    refine ⟨rd ys (j : Int), ?_, by simpa using hmem⟩
                    have : rd ys (j : Int) ∈ ys.take (j + 1) := by rw [htk]; simp
                    exact List.mem_of_mem_take this
                  subst hr
                  clear hc4 hmem htk hc2
                  go_wp2_with (first
                    | (at_lookup; refine wpList_lookup_own_int _ rfl _ _ 86 rfl 3 3 .i64 impl_MeetAt.law3 Try.underlying86 Try.underlying3 (impl_MeetAt.zero3 _) w5.heap.size _ _ rfl MJ.out _ _ rfl hkey2 ?_; intro c hat hwc; have ecc : c = cc := (by rw [HC1'.out] at hat; injection hat with hat; injection hat with _ hat; exact hat.symm); subst ecc; clear hat hwc))
                  go_ret
                  exact ⟨rfl, below_step HB2.out (below_step HBF.out (below_step B7.out BJ.out))⟩
                · have hpos : decide (0 < cc) = false := decide_eq_false (fun h => hmem (hc4.1 h))
                  have NJ2 : Aside0 ((ys.take (j + 1)).any (fun y => xs.contains y) = false) := ⟨by
                    rw [htk, List.any_append, NJ.out]
                    simpa using hmem⟩
                  clear hc4 hmem htk hc2
                  go_wp2_with (first
                    | (at_lookup; refine wpList_lookup_own_int _ rfl _ _ 86 rfl 3 3 .i64 impl_MeetAt.law3 Try.underlying86 Try.underlying3 (impl_MeetAt.zero3 _) w5.heap.size _ _ rfl MJ.out _ _ rfl hkey2 ?_; intro c hat hwc; have ecc : c = cc := (by rw [HC1'.out] at hat; injection hat with hat; injection hat with _ hat; exact hat.symm); subst ecc; clear hat hwc))
                  go_roundw
                  case rel => exact ⟨j + 1, by have := HI2.out; omega, by go_num, NJ2, BJ⟩
                  case measure => have := HI2.out; simp [intOf]; omega
              · have c2 : decide ((j : Int) < (ys.length : Int)) = false := decide_eq_false (by omega)
                obtain rfl : j = ys.length := by omega
                have hr : false = r := by
                  rw [← HLIM.out.2.2.2.2]
                  have := NJ.out
                  rw [List.take_length] at this
                  exact this.symm
                subst hr
                clear hlt2 hj
                go_wp2
                go_ret
                exact ⟨rfl, below_step HB2.out (below_step HBF.out (below_step B7.out BJ.out))⟩
end Go.Proofs.Ytmomablfmhkppaa.PFnMeets
