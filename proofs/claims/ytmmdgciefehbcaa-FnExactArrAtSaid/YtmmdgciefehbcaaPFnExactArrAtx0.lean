-- The functions of a law as plain Lean functions, each with its contract: written by a program of this session.
import Derived.Test.YtmmdgciefehbcaaProg
import Derived.Below
import Derived.Deep.Draws
import Derived.Deep.AppendLies
import Derived.Maps.AppendAt
import Derived.OwnWalk
import Derived.Laws.BytesArg
import Derived.Laws.MakeOwn
import Derived.Laws.OwnMore
import Derived.Deep.OwnRows
import Derived.Tactics
import Derived.Lib.ConvBytes
import Derived.Laws.Slices
import Derived.WalkKit
import Derived.KernelRfl
import Derived.RowKit3
import Derived.Deep.LoopGhost
import Derived.Deep.QuietTactic
import Derived.BigQuiet
import Derived.WideLaws
import Derived.Deep.DeepCutAuto
import Derived.Deep.CutBlock
import Derived.Deep.RegionHeld3
import Derived.Laws.Rows
import Derived.Lib.AppendStr
import Derived.ArgAppend
import Derived.Laws.IdiomCopy
import Derived.OrdersHeld
import Derived.Laws.BitsLemmas
import Derived.RowKit
import Derived.Test.YtmmdgciefehbcaaWWords
import Derived.Test.YtmmdgciefehbcaaWLast
import Derived.Test.YtmmdgciefehbcaaWTab
import Derived.Test.YtmmdgciefehbcaaWQPut
import Derived.Test.YtmmdgciefehbcaaWApart
import Derived.Test.YtmmdgciefehbcaaWArr
import Derived.Test.YtmmdgciefehbcaaWZeros
import Derived.Test.YtmmdgciefehbcaaWFoot
import Derived.Test.YtmmdgciefehbcaaWKept
import Derived.Test.YtmmdgciefehbcaaWShare
import Derived.Test.YtmmdgciefehbcaaWN
import Derived.Test.YtmmdgciefehbcaaWFootNe
import Derived.Test.YtmmdgciefehbcaaWEqStruct
import Derived.Test.YtmmdgciefehbcaaWRepsOne
import Derived.Test.YtmmdgciefehbcaaWGuard
import Derived.Test.YtmmdgciefehbcaaWNEv
import Derived.Test.YtmmdgciefehbcaaWMore
namespace Go.Proofs.Ytmmdgciefehbcaa.PFnExactArrAt
open Go.RowKit Go.Proofs.YtmmdgciefehbcaaW.PrintWords Go.Proofs.YtmmdgciefehbcaaW.PrintLast Go.Proofs.YtmmdgciefehbcaaW.PrintMore
attribute [local go_sem] max2_int min2_int max_two min_two max_three min_three max_four min_four   -- for this text's walks alone
set_option linter.unusedVariables false
set_option linter.unusedSimpArgs false



def errW : Option Int → Value
 | none => .nilIface
 | some c => .iface 0 (.int .i64 c)
theorem errW_none : errW none = .nilIface := rfl
theorem errW_some (c : Int) : errW (some c) = .iface 0 (.int .i64 c) := rfl

theorem info29 : (Try.prog.info? 29).map (fun i => (i.zero, i.size, i.bytes)) = some (some (.agg #[(.int .i64 0), (.int .i64 0), (.string ⟨#[]⟩), (.slice none 0 0)]), 4, 56) := by kernel_rfl
theorem info50 : (Try.prog.info? 50).map (fun i => (i.zero, i.size, i.bytes)) = some (some (.agg #[(.int .i64 0), (.string ⟨#[]⟩), (.int .i64 0), (.int .i64 0), (.string ⟨#[]⟩), (.slice none 0 0), (.int .i64 0), (.int .i64 0), (.string ⟨#[]⟩), (.slice none 0 0), (.int .i64 0), (.int .i64 0), (.string ⟨#[]⟩), (.slice none 0 0), (.int .i64 0), (.int .i64 0), (.string ⟨#[]⟩), (.slice none 0 0), (.slice none 0 0)]), 19, 272) := by kernel_rfl
theorem info98 : (Try.prog.info? 98).map (fun i => (i.zero, i.size, i.bytes)) = some (some (.agg #[(.string ⟨#[]⟩), (.int .i64 0)]), 2, 24) := by kernel_rfl
-- the values' own types
/-! #### struct type 24, nested in itself -/
structure S24 where
 f0 : Int
 f1 : Int
 f2 : ByteArray
 f3 : (List S24)
def z24 : S24 := ⟨(0 : Int), (0 : Int), (⟨#[]⟩ : ByteArray), ([] : List S24)⟩
def F24 (d : Kd S24) : Kd S24 := Kd.iso (Kd.pair (Kd.int .i64) (Kd.pair (Kd.int .i64) (Kd.pair Kd.string (Kd.slice 24 d)))) (fun x : S24 => (x.f0, x.f1, x.f2, x.f3))
theorem mono24 : Kd.Mono F24 := Kd.mono_iso _ (Kd.mono_pair (Kd.mono_const _) (Kd.mono_pair (Kd.mono_const _) (Kd.mono_pair (Kd.mono_const _) (Kd.mono_slice 24 Kd.mono_id))))
theorem sub24 : Kd.Sub F24 [24] := Kd.sub_iso _ (Kd.sub_pair (Kd.sub_const _ (by decide)) (Kd.sub_pair (Kd.sub_const _ (by decide)) (Kd.sub_pair (Kd.sub_const _ (by decide)) (Kd.sub_slice 24 (by decide) Kd.sub_id))))
theorem sz24 : ∀ n, (Kd.upto F24 4 [24] n).sz = 4 := Kd.upto_sz (fun _ => rfl)
def k24 : Kd S24 := Kd.fix F24 4 [24] sz24 (Kd.upto_E sub24)
theorem k24_open {w : World} {x : S24} {cs : List Value} (h : k24.K w x cs) : ∃ A3 c3, cs = [.int .i64 x.f0, .int .i64 x.f1, .string x.f2, .slice A3 x.f3.length c3] ∧ x.f3.length ≤ c3 ∧ k24.C w A3 x.f3.length x.f3 := by
 obtain ⟨n, h⟩ := h
 cases n with
 | zero => exact h.elim
 | succ n =>
  obtain ⟨_, _, rfl, rfl, ⟨_, _, rfl, rfl, ⟨_, _, rfl, rfl, ⟨A3, c3, rfl, l3, g3⟩⟩⟩⟩ := h
  exact ⟨A3, c3, rfl, l3, Kd.fix_C g3⟩
theorem k24_openM {w : World} {base : Nat} {ok : Nat → Prop} {x : S24} {cs : List Value} (h : k24.M w base ok x cs) : ∃ v3, cs = [.int .i64 x.f0, .int .i64 x.f1, .string x.f2, v3] ∧ k24.R 24 w base ok v3 x.f3 := by
 obtain ⟨n, h⟩ := h
 cases n with
 | zero => exact h.elim
 | succ n =>
  obtain ⟨_, _, rfl, rfl, ⟨_, _, rfl, rfl, ⟨_, _, rfl, rfl, ⟨v3, rfl, g3⟩⟩⟩⟩ := h
  exact ⟨v3, rfl, Kd.fix_R g3⟩
theorem k24_mk (w : World) (x : S24) {A3 : Option Addr} {c3 : Nat} (l3 : x.f3.length ≤ c3) (g3 : k24.C w A3 x.f3.length x.f3) : k24.K w x [.int .i64 x.f0, .int .i64 x.f1, .string x.f2, .slice A3 x.f3.length c3] := by
 obtain ⟨n3, q3⟩ := Kd.fix_C_back mono24 g3
 have r3 := Kd.upto_C_le mono24 sz24 (show n3 ≤ n3 by omega) q3
 exact ⟨n3 + 1, ⟨[.int .i64 x.f0], [.int .i64 x.f1, .string x.f2, .slice A3 x.f3.length c3], rfl, rfl, ⟨[.int .i64 x.f1], [.string x.f2, .slice A3 x.f3.length c3], rfl, rfl, ⟨[.string x.f2], [.slice A3 x.f3.length c3], rfl, rfl, ⟨A3, c3, rfl, l3, r3⟩⟩⟩⟩⟩
theorem k24_mkM (w : World) (base : Nat) (ok : Nat → Prop) (x : S24) {v3 : Value} (g3 : k24.R 24 w base ok v3 x.f3) : k24.M w base ok x [.int .i64 x.f0, .int .i64 x.f1, .string x.f2, v3] := by
 obtain ⟨n3, q3⟩ := Kd.fix_R_back mono24 g3
 have r3 := Kd.upto_R_le mono24 sz24 (show n3 ≤ n3 by omega) q3
 exact ⟨n3 + 1, ⟨[.int .i64 x.f0], [.int .i64 x.f1, .string x.f2, v3], rfl, rfl, ⟨[.int .i64 x.f1], [.string x.f2, v3], rfl, rfl, ⟨[.string x.f2], [v3], rfl, rfl, ⟨v3, rfl, r3⟩⟩⟩⟩⟩
def rd_T24 (xs : List S24) (i : Int) : S24 := xs.getD i.toNat z24
theorem at_T24 {w : World} {A : Option Addr} {n : Nat} {xs : List S24} (h : Kd.C k24 w A n xs) (i : Int) (h0 : 0 ≤ i) (h1 : i < n) : ∃ ad A3 c3, A = some ad ∧ w.cell? (ad.add (i.toNat * 4)) = some (.int .i64 (rd_T24 xs i).f0) ∧ w.cell? ⟨(ad.add (i.toNat * 4)).block, (ad.add (i.toNat * 4)).off + 1, none⟩ = some (.int .i64 (rd_T24 xs i).f1) ∧ w.cell? ⟨(ad.add (i.toNat * 4)).block, (ad.add (i.toNat * 4)).off + 2, none⟩ = some (.string (rd_T24 xs i).f2) ∧ w.cell? ⟨(ad.add (i.toNat * 4)).block, (ad.add (i.toNat * 4)).off + 3, none⟩ = some (.slice A3 (rd_T24 xs i).f3.length c3) ∧ (rd_T24 xs i).f3.length ≤ c3 ∧ k24.C w A3 (rd_T24 xs i).f3.length (rd_T24 xs i).f3 := by
 obtain ⟨ad, c, e, _, hK, hc0⟩ := Kd.C_get h z24 i h0 h1
 have hc : ∀ j u, c[j]? = some u → w.cell? (ad.add (i.toNat * 4 + j)) = some u := hc0
 obtain ⟨A3, c3, rfl, l3, g3⟩ := k24_open hK
 exact ⟨ad, A3, c3, e, hc 0 _ rfl, by rw [← add_field _ _ 1 (by omega)]; exact hc 1 _ rfl, by rw [← add_field _ _ 2 (by omega)]; exact hc 2 _ rfl, by rw [← add_field _ _ 3 (by omega)]; exact hc 3 _ rfl, l3, g3⟩

/-! #### struct type 45, nested in itself -/
structure S45 where
 f0 : Int
 f1 : ByteArray
 f2 : S24
 f3 : S24
 f4 : S24
 f5 : S24
 f6 : (List S45)
def z45 : S45 := ⟨(0 : Int), (⟨#[]⟩ : ByteArray), z24, z24, z24, z24, ([] : List S45)⟩
def F45 (d : Kd S45) : Kd S45 := Kd.iso (Kd.pair (Kd.int .i64) (Kd.pair Kd.string (Kd.pair k24 (Kd.pair k24 (Kd.pair k24 (Kd.pair k24 (Kd.slice 45 d))))))) (fun x : S45 => (x.f0, x.f1, x.f2, x.f3, x.f4, x.f5, x.f6))
theorem mono45 : Kd.Mono F45 := Kd.mono_iso _ (Kd.mono_pair (Kd.mono_const _) (Kd.mono_pair (Kd.mono_const _) (Kd.mono_pair (Kd.mono_const _) (Kd.mono_pair (Kd.mono_const _) (Kd.mono_pair (Kd.mono_const _) (Kd.mono_pair (Kd.mono_const _) (Kd.mono_slice 45 Kd.mono_id)))))))
theorem sub45 : Kd.Sub F45 [24, 45] := Kd.sub_iso _ (Kd.sub_pair (Kd.sub_const _ (by decide)) (Kd.sub_pair (Kd.sub_const _ (by decide)) (Kd.sub_pair (Kd.sub_const _ (by decide)) (Kd.sub_pair (Kd.sub_const _ (by decide)) (Kd.sub_pair (Kd.sub_const _ (by decide)) (Kd.sub_pair (Kd.sub_const _ (by decide)) (Kd.sub_slice 45 (by decide) Kd.sub_id)))))))
theorem sz45 : ∀ n, (Kd.upto F45 19 [24, 45] n).sz = 19 := Kd.upto_sz (fun _ => rfl)
def k45 : Kd S45 := Kd.fix F45 19 [24, 45] sz45 (Kd.upto_E sub45)
theorem k45_open {w : World} {x : S45} {cs : List Value} (h : k45.K w x cs) : ∃ A5 c5 A9 c9 A13 c13 A17 c17 A18 c18, cs = [.int .i64 x.f0, .string x.f1, .int .i64 x.f2.f0, .int .i64 x.f2.f1, .string x.f2.f2, .slice A5 x.f2.f3.length c5, .int .i64 x.f3.f0, .int .i64 x.f3.f1, .string x.f3.f2, .slice A9 x.f3.f3.length c9, .int .i64 x.f4.f0, .int .i64 x.f4.f1, .string x.f4.f2, .slice A13 x.f4.f3.length c13, .int .i64 x.f5.f0, .int .i64 x.f5.f1, .string x.f5.f2, .slice A17 x.f5.f3.length c17, .slice A18 x.f6.length c18] ∧ x.f2.f3.length ≤ c5 ∧ k24.C w A5 x.f2.f3.length x.f2.f3 ∧ x.f3.f3.length ≤ c9 ∧ k24.C w A9 x.f3.f3.length x.f3.f3 ∧ x.f4.f3.length ≤ c13 ∧ k24.C w A13 x.f4.f3.length x.f4.f3 ∧ x.f5.f3.length ≤ c17 ∧ k24.C w A17 x.f5.f3.length x.f5.f3 ∧ x.f6.length ≤ c18 ∧ k45.C w A18 x.f6.length x.f6 := by
 obtain ⟨n, h⟩ := h
 cases n with
 | zero => exact h.elim
 | succ n =>
  obtain ⟨_, _, rfl, rfl, ⟨_, _, rfl, rfl, ⟨_, _, rfl, s2, ⟨_, _, rfl, s6, ⟨_, _, rfl, s10, ⟨_, _, rfl, s14, ⟨A18, c18, rfl, l18, g18⟩⟩⟩⟩⟩⟩⟩ := h
  obtain ⟨A5, c5, rfl, l5, g5⟩ := k24_open s2
  obtain ⟨A9, c9, rfl, l9, g9⟩ := k24_open s6
  obtain ⟨A13, c13, rfl, l13, g13⟩ := k24_open s10
  obtain ⟨A17, c17, rfl, l17, g17⟩ := k24_open s14
  exact ⟨A5, c5, A9, c9, A13, c13, A17, c17, A18, c18, rfl, l5, g5, l9, g9, l13, g13, l17, g17, l18, Kd.fix_C g18⟩
theorem k45_openM {w : World} {base : Nat} {ok : Nat → Prop} {x : S45} {cs : List Value} (h : k45.M w base ok x cs) : ∃ v5 v9 v13 v17 v18, cs = [.int .i64 x.f0, .string x.f1, .int .i64 x.f2.f0, .int .i64 x.f2.f1, .string x.f2.f2, v5, .int .i64 x.f3.f0, .int .i64 x.f3.f1, .string x.f3.f2, v9, .int .i64 x.f4.f0, .int .i64 x.f4.f1, .string x.f4.f2, v13, .int .i64 x.f5.f0, .int .i64 x.f5.f1, .string x.f5.f2, v17, v18] ∧ k24.R 24 w base ok v5 x.f2.f3 ∧ k24.R 24 w base ok v9 x.f3.f3 ∧ k24.R 24 w base ok v13 x.f4.f3 ∧ k24.R 24 w base ok v17 x.f5.f3 ∧ k45.R 45 w base ok v18 x.f6 := by
 obtain ⟨n, h⟩ := h
 cases n with
 | zero => exact h.elim
 | succ n =>
  obtain ⟨_, _, rfl, rfl, ⟨_, _, rfl, rfl, ⟨_, _, rfl, s2, ⟨_, _, rfl, s6, ⟨_, _, rfl, s10, ⟨_, _, rfl, s14, ⟨v18, rfl, g18⟩⟩⟩⟩⟩⟩⟩ := h
  obtain ⟨v5, rfl, g5⟩ := k24_openM s2
  obtain ⟨v9, rfl, g9⟩ := k24_openM s6
  obtain ⟨v13, rfl, g13⟩ := k24_openM s10
  obtain ⟨v17, rfl, g17⟩ := k24_openM s14
  exact ⟨v5, v9, v13, v17, v18, rfl, g5, g9, g13, g17, Kd.fix_R g18⟩
theorem k45_mk (w : World) (x : S45) {A5 : Option Addr} {c5 : Nat} (l5 : x.f2.f3.length ≤ c5) (g5 : k24.C w A5 x.f2.f3.length x.f2.f3) {A9 : Option Addr} {c9 : Nat} (l9 : x.f3.f3.length ≤ c9) (g9 : k24.C w A9 x.f3.f3.length x.f3.f3) {A13 : Option Addr} {c13 : Nat} (l13 : x.f4.f3.length ≤ c13) (g13 : k24.C w A13 x.f4.f3.length x.f4.f3) {A17 : Option Addr} {c17 : Nat} (l17 : x.f5.f3.length ≤ c17) (g17 : k24.C w A17 x.f5.f3.length x.f5.f3) {A18 : Option Addr} {c18 : Nat} (l18 : x.f6.length ≤ c18) (g18 : k45.C w A18 x.f6.length x.f6) : k45.K w x [.int .i64 x.f0, .string x.f1, .int .i64 x.f2.f0, .int .i64 x.f2.f1, .string x.f2.f2, .slice A5 x.f2.f3.length c5, .int .i64 x.f3.f0, .int .i64 x.f3.f1, .string x.f3.f2, .slice A9 x.f3.f3.length c9, .int .i64 x.f4.f0, .int .i64 x.f4.f1, .string x.f4.f2, .slice A13 x.f4.f3.length c13, .int .i64 x.f5.f0, .int .i64 x.f5.f1, .string x.f5.f2, .slice A17 x.f5.f3.length c17, .slice A18 x.f6.length c18] := by
 obtain ⟨n18, q18⟩ := Kd.fix_C_back mono45 g18
 have r18 := Kd.upto_C_le mono45 sz45 (show n18 ≤ n18 by omega) q18
 exact ⟨n18 + 1, ⟨[.int .i64 x.f0], [.string x.f1, .int .i64 x.f2.f0, .int .i64 x.f2.f1, .string x.f2.f2, .slice A5 x.f2.f3.length c5, .int .i64 x.f3.f0, .int .i64 x.f3.f1, .string x.f3.f2, .slice A9 x.f3.f3.length c9, .int .i64 x.f4.f0, .int .i64 x.f4.f1, .string x.f4.f2, .slice A13 x.f4.f3.length c13, .int .i64 x.f5.f0, .int .i64 x.f5.f1, .string x.f5.f2, .slice A17 x.f5.f3.length c17, .slice A18 x.f6.length c18], rfl, rfl, ⟨[.string x.f1], [.int .i64 x.f2.f0, .int .i64 x.f2.f1, .string x.f2.f2, .slice A5 x.f2.f3.length c5, .int .i64 x.f3.f0, .int .i64 x.f3.f1, .string x.f3.f2, .slice A9 x.f3.f3.length c9, .int .i64 x.f4.f0, .int .i64 x.f4.f1, .string x.f4.f2, .slice A13 x.f4.f3.length c13, .int .i64 x.f5.f0, .int .i64 x.f5.f1, .string x.f5.f2, .slice A17 x.f5.f3.length c17, .slice A18 x.f6.length c18], rfl, rfl, ⟨[.int .i64 x.f2.f0, .int .i64 x.f2.f1, .string x.f2.f2, .slice A5 x.f2.f3.length c5], [.int .i64 x.f3.f0, .int .i64 x.f3.f1, .string x.f3.f2, .slice A9 x.f3.f3.length c9, .int .i64 x.f4.f0, .int .i64 x.f4.f1, .string x.f4.f2, .slice A13 x.f4.f3.length c13, .int .i64 x.f5.f0, .int .i64 x.f5.f1, .string x.f5.f2, .slice A17 x.f5.f3.length c17, .slice A18 x.f6.length c18], rfl, (k24_mk w x.f2 l5 g5), ⟨[.int .i64 x.f3.f0, .int .i64 x.f3.f1, .string x.f3.f2, .slice A9 x.f3.f3.length c9], [.int .i64 x.f4.f0, .int .i64 x.f4.f1, .string x.f4.f2, .slice A13 x.f4.f3.length c13, .int .i64 x.f5.f0, .int .i64 x.f5.f1, .string x.f5.f2, .slice A17 x.f5.f3.length c17, .slice A18 x.f6.length c18], rfl, (k24_mk w x.f3 l9 g9), ⟨[.int .i64 x.f4.f0, .int .i64 x.f4.f1, .string x.f4.f2, .slice A13 x.f4.f3.length c13], [.int .i64 x.f5.f0, .int .i64 x.f5.f1, .string x.f5.f2, .slice A17 x.f5.f3.length c17, .slice A18 x.f6.length c18], rfl, (k24_mk w x.f4 l13 g13), ⟨[.int .i64 x.f5.f0, .int .i64 x.f5.f1, .string x.f5.f2, .slice A17 x.f5.f3.length c17], [.slice A18 x.f6.length c18], rfl, (k24_mk w x.f5 l17 g17), ⟨A18, c18, rfl, l18, r18⟩⟩⟩⟩⟩⟩⟩⟩
theorem k45_mkM (w : World) (base : Nat) (ok : Nat → Prop) (x : S45) {v5 : Value} (g5 : k24.R 24 w base ok v5 x.f2.f3) {v9 : Value} (g9 : k24.R 24 w base ok v9 x.f3.f3) {v13 : Value} (g13 : k24.R 24 w base ok v13 x.f4.f3) {v17 : Value} (g17 : k24.R 24 w base ok v17 x.f5.f3) {v18 : Value} (g18 : k45.R 45 w base ok v18 x.f6) : k45.M w base ok x [.int .i64 x.f0, .string x.f1, .int .i64 x.f2.f0, .int .i64 x.f2.f1, .string x.f2.f2, v5, .int .i64 x.f3.f0, .int .i64 x.f3.f1, .string x.f3.f2, v9, .int .i64 x.f4.f0, .int .i64 x.f4.f1, .string x.f4.f2, v13, .int .i64 x.f5.f0, .int .i64 x.f5.f1, .string x.f5.f2, v17, v18] := by
 obtain ⟨n18, q18⟩ := Kd.fix_R_back mono45 g18
 have r18 := Kd.upto_R_le mono45 sz45 (show n18 ≤ n18 by omega) q18
 exact ⟨n18 + 1, ⟨[.int .i64 x.f0], [.string x.f1, .int .i64 x.f2.f0, .int .i64 x.f2.f1, .string x.f2.f2, v5, .int .i64 x.f3.f0, .int .i64 x.f3.f1, .string x.f3.f2, v9, .int .i64 x.f4.f0, .int .i64 x.f4.f1, .string x.f4.f2, v13, .int .i64 x.f5.f0, .int .i64 x.f5.f1, .string x.f5.f2, v17, v18], rfl, rfl, ⟨[.string x.f1], [.int .i64 x.f2.f0, .int .i64 x.f2.f1, .string x.f2.f2, v5, .int .i64 x.f3.f0, .int .i64 x.f3.f1, .string x.f3.f2, v9, .int .i64 x.f4.f0, .int .i64 x.f4.f1, .string x.f4.f2, v13, .int .i64 x.f5.f0, .int .i64 x.f5.f1, .string x.f5.f2, v17, v18], rfl, rfl, ⟨[.int .i64 x.f2.f0, .int .i64 x.f2.f1, .string x.f2.f2, v5], [.int .i64 x.f3.f0, .int .i64 x.f3.f1, .string x.f3.f2, v9, .int .i64 x.f4.f0, .int .i64 x.f4.f1, .string x.f4.f2, v13, .int .i64 x.f5.f0, .int .i64 x.f5.f1, .string x.f5.f2, v17, v18], rfl, (k24_mkM w base ok x.f2 g5), ⟨[.int .i64 x.f3.f0, .int .i64 x.f3.f1, .string x.f3.f2, v9], [.int .i64 x.f4.f0, .int .i64 x.f4.f1, .string x.f4.f2, v13, .int .i64 x.f5.f0, .int .i64 x.f5.f1, .string x.f5.f2, v17, v18], rfl, (k24_mkM w base ok x.f3 g9), ⟨[.int .i64 x.f4.f0, .int .i64 x.f4.f1, .string x.f4.f2, v13], [.int .i64 x.f5.f0, .int .i64 x.f5.f1, .string x.f5.f2, v17, v18], rfl, (k24_mkM w base ok x.f4 g13), ⟨[.int .i64 x.f5.f0, .int .i64 x.f5.f1, .string x.f5.f2, v17], [v18], rfl, (k24_mkM w base ok x.f5 g17), ⟨v18, rfl, r18⟩⟩⟩⟩⟩⟩⟩⟩
def rd_T45 (xs : List S45) (i : Int) : S45 := xs.getD i.toNat z45
theorem at_T45 {w : World} {A : Option Addr} {n : Nat} {xs : List S45} (h : Kd.C k45 w A n xs) (i : Int) (h0 : 0 ≤ i) (h1 : i < n) : ∃ ad A5 c5 A9 c9 A13 c13 A17 c17 A18 c18, A = some ad ∧ w.cell? (ad.add (i.toNat * 19)) = some (.int .i64 (rd_T45 xs i).f0) ∧ w.cell? ⟨(ad.add (i.toNat * 19)).block, (ad.add (i.toNat * 19)).off + 1, none⟩ = some (.string (rd_T45 xs i).f1) ∧ w.cell? ⟨(ad.add (i.toNat * 19)).block, (ad.add (i.toNat * 19)).off + 2, none⟩ = some (.int .i64 (rd_T45 xs i).f2.f0) ∧ w.cell? ⟨(ad.add (i.toNat * 19)).block, (ad.add (i.toNat * 19)).off + 3, none⟩ = some (.int .i64 (rd_T45 xs i).f2.f1) ∧ w.cell? ⟨(ad.add (i.toNat * 19)).block, (ad.add (i.toNat * 19)).off + 4, none⟩ = some (.string (rd_T45 xs i).f2.f2) ∧ w.cell? ⟨(ad.add (i.toNat * 19)).block, (ad.add (i.toNat * 19)).off + 5, none⟩ = some (.slice A5 (rd_T45 xs i).f2.f3.length c5) ∧ w.cell? ⟨(ad.add (i.toNat * 19)).block, (ad.add (i.toNat * 19)).off + 6, none⟩ = some (.int .i64 (rd_T45 xs i).f3.f0) ∧ w.cell? ⟨(ad.add (i.toNat * 19)).block, (ad.add (i.toNat * 19)).off + 7, none⟩ = some (.int .i64 (rd_T45 xs i).f3.f1) ∧ w.cell? ⟨(ad.add (i.toNat * 19)).block, (ad.add (i.toNat * 19)).off + 8, none⟩ = some (.string (rd_T45 xs i).f3.f2) ∧ w.cell? ⟨(ad.add (i.toNat * 19)).block, (ad.add (i.toNat * 19)).off + 9, none⟩ = some (.slice A9 (rd_T45 xs i).f3.f3.length c9) ∧ w.cell? ⟨(ad.add (i.toNat * 19)).block, (ad.add (i.toNat * 19)).off + 10, none⟩ = some (.int .i64 (rd_T45 xs i).f4.f0) ∧ w.cell? ⟨(ad.add (i.toNat * 19)).block, (ad.add (i.toNat * 19)).off + 11, none⟩ = some (.int .i64 (rd_T45 xs i).f4.f1) ∧ w.cell? ⟨(ad.add (i.toNat * 19)).block, (ad.add (i.toNat * 19)).off + 12, none⟩ = some (.string (rd_T45 xs i).f4.f2) ∧ w.cell? ⟨(ad.add (i.toNat * 19)).block, (ad.add (i.toNat * 19)).off + 13, none⟩ = some (.slice A13 (rd_T45 xs i).f4.f3.length c13) ∧ w.cell? ⟨(ad.add (i.toNat * 19)).block, (ad.add (i.toNat * 19)).off + 14, none⟩ = some (.int .i64 (rd_T45 xs i).f5.f0) ∧ w.cell? ⟨(ad.add (i.toNat * 19)).block, (ad.add (i.toNat * 19)).off + 15, none⟩ = some (.int .i64 (rd_T45 xs i).f5.f1) ∧ w.cell? ⟨(ad.add (i.toNat * 19)).block, (ad.add (i.toNat * 19)).off + 16, none⟩ = some (.string (rd_T45 xs i).f5.f2) ∧ w.cell? ⟨(ad.add (i.toNat * 19)).block, (ad.add (i.toNat * 19)).off + 17, none⟩ = some (.slice A17 (rd_T45 xs i).f5.f3.length c17) ∧ w.cell? ⟨(ad.add (i.toNat * 19)).block, (ad.add (i.toNat * 19)).off + 18, none⟩ = some (.slice A18 (rd_T45 xs i).f6.length c18) ∧ (rd_T45 xs i).f2.f3.length ≤ c5 ∧ k24.C w A5 (rd_T45 xs i).f2.f3.length (rd_T45 xs i).f2.f3 ∧ (rd_T45 xs i).f3.f3.length ≤ c9 ∧ k24.C w A9 (rd_T45 xs i).f3.f3.length (rd_T45 xs i).f3.f3 ∧ (rd_T45 xs i).f4.f3.length ≤ c13 ∧ k24.C w A13 (rd_T45 xs i).f4.f3.length (rd_T45 xs i).f4.f3 ∧ (rd_T45 xs i).f5.f3.length ≤ c17 ∧ k24.C w A17 (rd_T45 xs i).f5.f3.length (rd_T45 xs i).f5.f3 ∧ (rd_T45 xs i).f6.length ≤ c18 ∧ k45.C w A18 (rd_T45 xs i).f6.length (rd_T45 xs i).f6 := by
 obtain ⟨ad, c, e, _, hK, hc0⟩ := Kd.C_get h z45 i h0 h1
 have hc : ∀ j u, c[j]? = some u → w.cell? (ad.add (i.toNat * 19 + j)) = some u := hc0
 obtain ⟨A5, c5, A9, c9, A13, c13, A17, c17, A18, c18, rfl, l5, g5, l9, g9, l13, g13, l17, g17, l18, g18⟩ := k45_open hK
 exact ⟨ad, A5, c5, A9, c9, A13, c13, A17, c17, A18, c18, e, hc 0 _ rfl, by rw [← add_field _ _ 1 (by omega)]; exact hc 1 _ rfl, by rw [← add_field _ _ 2 (by omega)]; exact hc 2 _ rfl, by rw [← add_field _ _ 3 (by omega)]; exact hc 3 _ rfl, by rw [← add_field _ _ 4 (by omega)]; exact hc 4 _ rfl, by rw [← add_field _ _ 5 (by omega)]; exact hc 5 _ rfl, by rw [← add_field _ _ 6 (by omega)]; exact hc 6 _ rfl, by rw [← add_field _ _ 7 (by omega)]; exact hc 7 _ rfl, by rw [← add_field _ _ 8 (by omega)]; exact hc 8 _ rfl, by rw [← add_field _ _ 9 (by omega)]; exact hc 9 _ rfl, by rw [← add_field _ _ 10 (by omega)]; exact hc 10 _ rfl, by rw [← add_field _ _ 11 (by omega)]; exact hc 11 _ rfl, by rw [← add_field _ _ 12 (by omega)]; exact hc 12 _ rfl, by rw [← add_field _ _ 13 (by omega)]; exact hc 13 _ rfl, by rw [← add_field _ _ 14 (by omega)]; exact hc 14 _ rfl, by rw [← add_field _ _ 15 (by omega)]; exact hc 15 _ rfl, by rw [← add_field _ _ 16 (by omega)]; exact hc 16 _ rfl, by rw [← add_field _ _ 17 (by omega)]; exact hc 17 _ rfl, by rw [← add_field _ _ 18 (by omega)]; exact hc 18 _ rfl, l5, g5, l9, g9, l13, g13, l17, g17, l18, g18⟩

/-! #### struct type 117 -/
structure S117 where
 f0 : ByteArray
 f1 : Int
def z117 : S117 := ⟨(⟨#[]⟩ : ByteArray), (0 : Int)⟩
def k117 : Kd S117 := Kd.iso (Kd.pair Kd.string (Kd.int .i64)) (fun x : S117 => (x.f0, x.f1))
theorem k117_open {w : World} {x : S117} {cs : List Value} (h : k117.K w x cs) : cs = [.string x.f0, .int .i64 x.f1] := by
 obtain ⟨_, _, rfl, rfl, rfl⟩ := h
 exact rfl
theorem k117_openM {w : World} {base : Nat} {ok : Nat → Prop} {x : S117} {cs : List Value} (h : k117.M w base ok x cs) : cs = [.string x.f0, .int .i64 x.f1] := by
 obtain ⟨_, _, rfl, rfl, rfl⟩ := h
 exact rfl
theorem k117_mk (w : World) (x : S117)  : k117.K w x [.string x.f0, .int .i64 x.f1] := ⟨[.string x.f0], [.int .i64 x.f1], rfl, rfl, rfl⟩
theorem k117_mkM (w : World) (base : Nat) (ok : Nat → Prop) (x : S117)  : k117.M w base ok x [.string x.f0, .int .i64 x.f1] := ⟨[.string x.f0], [.int .i64 x.f1], rfl, rfl, rfl⟩
def rd_T117 (xs : List S117) (i : Int) : S117 := xs.getD i.toNat z117
theorem at_T117 {w : World} {A : Option Addr} {n : Nat} {xs : List S117} (h : Kd.C k117 w A n xs) (i : Int) (h0 : 0 ≤ i) (h1 : i < n) : ∃ ad , A = some ad ∧ w.cell? (ad.add (i.toNat * 2)) = some (.string (rd_T117 xs i).f0) ∧ w.cell? ⟨(ad.add (i.toNat * 2)).block, (ad.add (i.toNat * 2)).off + 1, none⟩ = some (.int .i64 (rd_T117 xs i).f1) := by
 obtain ⟨ad, c, e, _, hK, hc0⟩ := Kd.C_get h z117 i h0 h1
 have hc : ∀ j u, c[j]? = some u → w.cell? (ad.add (i.toNat * 2 + j)) = some u := hc0
 obtain rfl := k117_open hK
 exact ⟨ad, e, hc 0 _ rfl, by rw [← add_field _ _ 1 (by omega)]; exact hc 1 _ rfl⟩

/-! #### struct type 98 -/
structure S98 where
 f0 : ByteArray
 f1 : Int
def z98 : S98 := ⟨(⟨#[]⟩ : ByteArray), (0 : Int)⟩
def k98 : Kd S98 := Kd.iso (Kd.pair Kd.string (Kd.int .i64)) (fun x : S98 => (x.f0, x.f1))
theorem k98_open {w : World} {x : S98} {cs : List Value} (h : k98.K w x cs) : cs = [.string x.f0, .int .i64 x.f1] := by
 obtain ⟨_, _, rfl, rfl, rfl⟩ := h
 exact rfl
theorem k98_openM {w : World} {base : Nat} {ok : Nat → Prop} {x : S98} {cs : List Value} (h : k98.M w base ok x cs) : cs = [.string x.f0, .int .i64 x.f1] := by
 obtain ⟨_, _, rfl, rfl, rfl⟩ := h
 exact rfl
theorem k98_mk (w : World) (x : S98)  : k98.K w x [.string x.f0, .int .i64 x.f1] := ⟨[.string x.f0], [.int .i64 x.f1], rfl, rfl, rfl⟩
theorem k98_mkM (w : World) (base : Nat) (ok : Nat → Prop) (x : S98)  : k98.M w base ok x [.string x.f0, .int .i64 x.f1] := ⟨[.string x.f0], [.int .i64 x.f1], rfl, rfl, rfl⟩
def rd_T98 (xs : List S98) (i : Int) : S98 := xs.getD i.toNat z98
theorem at_T98 {w : World} {A : Option Addr} {n : Nat} {xs : List S98} (h : Kd.C k98 w A n xs) (i : Int) (h0 : 0 ≤ i) (h1 : i < n) : ∃ ad , A = some ad ∧ w.cell? (ad.add (i.toNat * 2)) = some (.string (rd_T98 xs i).f0) ∧ w.cell? ⟨(ad.add (i.toNat * 2)).block, (ad.add (i.toNat * 2)).off + 1, none⟩ = some (.int .i64 (rd_T98 xs i).f1) := by
 obtain ⟨ad, c, e, _, hK, hc0⟩ := Kd.C_get h z98 i h0 h1
 have hc : ∀ j u, c[j]? = some u → w.cell? (ad.add (i.toNat * 2 + j)) = some u := hc0
 obtain rfl := k98_open hK
 exact ⟨ad, e, hc 0 _ rfl, by rw [← add_field _ _ 1 (by omega)]; exact hc 1 _ rfl⟩

/-! #### struct type 29, nested in itself -/
structure S29 where
 f0 : Int
 f1 : Int
 f2 : ByteArray
 f3 : (List S29)
def z29 : S29 := ⟨(0 : Int), (0 : Int), (⟨#[]⟩ : ByteArray), ([] : List S29)⟩
def F29 (d : Kd S29) : Kd S29 := Kd.iso (Kd.pair (Kd.int .i64) (Kd.pair (Kd.int .i64) (Kd.pair Kd.string (Kd.slice 29 d)))) (fun x : S29 => (x.f0, x.f1, x.f2, x.f3))
theorem mono29 : Kd.Mono F29 := Kd.mono_iso _ (Kd.mono_pair (Kd.mono_const _) (Kd.mono_pair (Kd.mono_const _) (Kd.mono_pair (Kd.mono_const _) (Kd.mono_slice 29 Kd.mono_id))))
theorem sub29 : Kd.Sub F29 [29] := Kd.sub_iso _ (Kd.sub_pair (Kd.sub_const _ (by decide)) (Kd.sub_pair (Kd.sub_const _ (by decide)) (Kd.sub_pair (Kd.sub_const _ (by decide)) (Kd.sub_slice 29 (by decide) Kd.sub_id))))
theorem sz29 : ∀ n, (Kd.upto F29 4 [29] n).sz = 4 := Kd.upto_sz (fun _ => rfl)
def k29 : Kd S29 := Kd.fix F29 4 [29] sz29 (Kd.upto_E sub29)
theorem k29_open {w : World} {x : S29} {cs : List Value} (h : k29.K w x cs) : ∃ A3 c3, cs = [.int .i64 x.f0, .int .i64 x.f1, .string x.f2, .slice A3 x.f3.length c3] ∧ x.f3.length ≤ c3 ∧ k29.C w A3 x.f3.length x.f3 := by
 obtain ⟨n, h⟩ := h
 cases n with
 | zero => exact h.elim
 | succ n =>
  obtain ⟨_, _, rfl, rfl, ⟨_, _, rfl, rfl, ⟨_, _, rfl, rfl, ⟨A3, c3, rfl, l3, g3⟩⟩⟩⟩ := h
  exact ⟨A3, c3, rfl, l3, Kd.fix_C g3⟩
theorem k29_openM {w : World} {base : Nat} {ok : Nat → Prop} {x : S29} {cs : List Value} (h : k29.M w base ok x cs) : ∃ v3, cs = [.int .i64 x.f0, .int .i64 x.f1, .string x.f2, v3] ∧ k29.R 29 w base ok v3 x.f3 := by
 obtain ⟨n, h⟩ := h
 cases n with
 | zero => exact h.elim
 | succ n =>
  obtain ⟨_, _, rfl, rfl, ⟨_, _, rfl, rfl, ⟨_, _, rfl, rfl, ⟨v3, rfl, g3⟩⟩⟩⟩ := h
  exact ⟨v3, rfl, Kd.fix_R g3⟩
theorem k29_mk (w : World) (x : S29) {A3 : Option Addr} {c3 : Nat} (l3 : x.f3.length ≤ c3) (g3 : k29.C w A3 x.f3.length x.f3) : k29.K w x [.int .i64 x.f0, .int .i64 x.f1, .string x.f2, .slice A3 x.f3.length c3] := by
 obtain ⟨n3, q3⟩ := Kd.fix_C_back mono29 g3
 have r3 := Kd.upto_C_le mono29 sz29 (show n3 ≤ n3 by omega) q3
 exact ⟨n3 + 1, ⟨[.int .i64 x.f0], [.int .i64 x.f1, .string x.f2, .slice A3 x.f3.length c3], rfl, rfl, ⟨[.int .i64 x.f1], [.string x.f2, .slice A3 x.f3.length c3], rfl, rfl, ⟨[.string x.f2], [.slice A3 x.f3.length c3], rfl, rfl, ⟨A3, c3, rfl, l3, r3⟩⟩⟩⟩⟩
theorem k29_mkM (w : World) (base : Nat) (ok : Nat → Prop) (x : S29) {v3 : Value} (g3 : k29.R 29 w base ok v3 x.f3) : k29.M w base ok x [.int .i64 x.f0, .int .i64 x.f1, .string x.f2, v3] := by
 obtain ⟨n3, q3⟩ := Kd.fix_R_back mono29 g3
 have r3 := Kd.upto_R_le mono29 sz29 (show n3 ≤ n3 by omega) q3
 exact ⟨n3 + 1, ⟨[.int .i64 x.f0], [.int .i64 x.f1, .string x.f2, v3], rfl, rfl, ⟨[.int .i64 x.f1], [.string x.f2, v3], rfl, rfl, ⟨[.string x.f2], [v3], rfl, rfl, ⟨v3, rfl, r3⟩⟩⟩⟩⟩
def rd_T29 (xs : List S29) (i : Int) : S29 := xs.getD i.toNat z29
theorem at_T29 {w : World} {A : Option Addr} {n : Nat} {xs : List S29} (h : Kd.C k29 w A n xs) (i : Int) (h0 : 0 ≤ i) (h1 : i < n) : ∃ ad A3 c3, A = some ad ∧ w.cell? (ad.add (i.toNat * 4)) = some (.int .i64 (rd_T29 xs i).f0) ∧ w.cell? ⟨(ad.add (i.toNat * 4)).block, (ad.add (i.toNat * 4)).off + 1, none⟩ = some (.int .i64 (rd_T29 xs i).f1) ∧ w.cell? ⟨(ad.add (i.toNat * 4)).block, (ad.add (i.toNat * 4)).off + 2, none⟩ = some (.string (rd_T29 xs i).f2) ∧ w.cell? ⟨(ad.add (i.toNat * 4)).block, (ad.add (i.toNat * 4)).off + 3, none⟩ = some (.slice A3 (rd_T29 xs i).f3.length c3) ∧ (rd_T29 xs i).f3.length ≤ c3 ∧ k29.C w A3 (rd_T29 xs i).f3.length (rd_T29 xs i).f3 := by
 obtain ⟨ad, c, e, _, hK, hc0⟩ := Kd.C_get h z29 i h0 h1
 have hc : ∀ j u, c[j]? = some u → w.cell? (ad.add (i.toNat * 4 + j)) = some u := hc0
 obtain ⟨A3, c3, rfl, l3, g3⟩ := k29_open hK
 exact ⟨ad, A3, c3, e, hc 0 _ rfl, by rw [← add_field _ _ 1 (by omega)]; exact hc 1 _ rfl, by rw [← add_field _ _ 2 (by omega)]; exact hc 2 _ rfl, by rw [← add_field _ _ 3 (by omega)]; exact hc 3 _ rfl, l3, g3⟩

/-! #### struct type 50, nested in itself -/
structure S50 where
 f0 : Int
 f1 : ByteArray
 f2 : S29
 f3 : S29
 f4 : S29
 f5 : S29
 f6 : (List S50)
def z50 : S50 := ⟨(0 : Int), (⟨#[]⟩ : ByteArray), z29, z29, z29, z29, ([] : List S50)⟩
def F50 (d : Kd S50) : Kd S50 := Kd.iso (Kd.pair (Kd.int .i64) (Kd.pair Kd.string (Kd.pair k29 (Kd.pair k29 (Kd.pair k29 (Kd.pair k29 (Kd.slice 50 d))))))) (fun x : S50 => (x.f0, x.f1, x.f2, x.f3, x.f4, x.f5, x.f6))
theorem mono50 : Kd.Mono F50 := Kd.mono_iso _ (Kd.mono_pair (Kd.mono_const _) (Kd.mono_pair (Kd.mono_const _) (Kd.mono_pair (Kd.mono_const _) (Kd.mono_pair (Kd.mono_const _) (Kd.mono_pair (Kd.mono_const _) (Kd.mono_pair (Kd.mono_const _) (Kd.mono_slice 50 Kd.mono_id)))))))
theorem sub50 : Kd.Sub F50 [29, 50] := Kd.sub_iso _ (Kd.sub_pair (Kd.sub_const _ (by decide)) (Kd.sub_pair (Kd.sub_const _ (by decide)) (Kd.sub_pair (Kd.sub_const _ (by decide)) (Kd.sub_pair (Kd.sub_const _ (by decide)) (Kd.sub_pair (Kd.sub_const _ (by decide)) (Kd.sub_pair (Kd.sub_const _ (by decide)) (Kd.sub_slice 50 (by decide) Kd.sub_id)))))))
theorem sz50 : ∀ n, (Kd.upto F50 19 [29, 50] n).sz = 19 := Kd.upto_sz (fun _ => rfl)
def k50 : Kd S50 := Kd.fix F50 19 [29, 50] sz50 (Kd.upto_E sub50)
theorem k50_open {w : World} {x : S50} {cs : List Value} (h : k50.K w x cs) : ∃ A5 c5 A9 c9 A13 c13 A17 c17 A18 c18, cs = [.int .i64 x.f0, .string x.f1, .int .i64 x.f2.f0, .int .i64 x.f2.f1, .string x.f2.f2, .slice A5 x.f2.f3.length c5, .int .i64 x.f3.f0, .int .i64 x.f3.f1, .string x.f3.f2, .slice A9 x.f3.f3.length c9, .int .i64 x.f4.f0, .int .i64 x.f4.f1, .string x.f4.f2, .slice A13 x.f4.f3.length c13, .int .i64 x.f5.f0, .int .i64 x.f5.f1, .string x.f5.f2, .slice A17 x.f5.f3.length c17, .slice A18 x.f6.length c18] ∧ x.f2.f3.length ≤ c5 ∧ k29.C w A5 x.f2.f3.length x.f2.f3 ∧ x.f3.f3.length ≤ c9 ∧ k29.C w A9 x.f3.f3.length x.f3.f3 ∧ x.f4.f3.length ≤ c13 ∧ k29.C w A13 x.f4.f3.length x.f4.f3 ∧ x.f5.f3.length ≤ c17 ∧ k29.C w A17 x.f5.f3.length x.f5.f3 ∧ x.f6.length ≤ c18 ∧ k50.C w A18 x.f6.length x.f6 := by
 obtain ⟨n, h⟩ := h
 cases n with
 | zero => exact h.elim
 | succ n =>
  obtain ⟨_, _, rfl, rfl, ⟨_, _, rfl, rfl, ⟨_, _, rfl, s2, ⟨_, _, rfl, s6, ⟨_, _, rfl, s10, ⟨_, _, rfl, s14, ⟨A18, c18, rfl, l18, g18⟩⟩⟩⟩⟩⟩⟩ := h
  obtain ⟨A5, c5, rfl, l5, g5⟩ := k29_open s2
  obtain ⟨A9, c9, rfl, l9, g9⟩ := k29_open s6
  obtain ⟨A13, c13, rfl, l13, g13⟩ := k29_open s10
  obtain ⟨A17, c17, rfl, l17, g17⟩ := k29_open s14
  exact ⟨A5, c5, A9, c9, A13, c13, A17, c17, A18, c18, rfl, l5, g5, l9, g9, l13, g13, l17, g17, l18, Kd.fix_C g18⟩
theorem k50_openM {w : World} {base : Nat} {ok : Nat → Prop} {x : S50} {cs : List Value} (h : k50.M w base ok x cs) : ∃ v5 v9 v13 v17 v18, cs = [.int .i64 x.f0, .string x.f1, .int .i64 x.f2.f0, .int .i64 x.f2.f1, .string x.f2.f2, v5, .int .i64 x.f3.f0, .int .i64 x.f3.f1, .string x.f3.f2, v9, .int .i64 x.f4.f0, .int .i64 x.f4.f1, .string x.f4.f2, v13, .int .i64 x.f5.f0, .int .i64 x.f5.f1, .string x.f5.f2, v17, v18] ∧ k29.R 29 w base ok v5 x.f2.f3 ∧ k29.R 29 w base ok v9 x.f3.f3 ∧ k29.R 29 w base ok v13 x.f4.f3 ∧ k29.R 29 w base ok v17 x.f5.f3 ∧ k50.R 50 w base ok v18 x.f6 := by
 obtain ⟨n, h⟩ := h
 cases n with
 | zero => exact h.elim
 | succ n =>
  obtain ⟨_, _, rfl, rfl, ⟨_, _, rfl, rfl, ⟨_, _, rfl, s2, ⟨_, _, rfl, s6, ⟨_, _, rfl, s10, ⟨_, _, rfl, s14, ⟨v18, rfl, g18⟩⟩⟩⟩⟩⟩⟩ := h
  obtain ⟨v5, rfl, g5⟩ := k29_openM s2
  obtain ⟨v9, rfl, g9⟩ := k29_openM s6
  obtain ⟨v13, rfl, g13⟩ := k29_openM s10
  obtain ⟨v17, rfl, g17⟩ := k29_openM s14
  exact ⟨v5, v9, v13, v17, v18, rfl, g5, g9, g13, g17, Kd.fix_R g18⟩
theorem k50_mk (w : World) (x : S50) {A5 : Option Addr} {c5 : Nat} (l5 : x.f2.f3.length ≤ c5) (g5 : k29.C w A5 x.f2.f3.length x.f2.f3) {A9 : Option Addr} {c9 : Nat} (l9 : x.f3.f3.length ≤ c9) (g9 : k29.C w A9 x.f3.f3.length x.f3.f3) {A13 : Option Addr} {c13 : Nat} (l13 : x.f4.f3.length ≤ c13) (g13 : k29.C w A13 x.f4.f3.length x.f4.f3) {A17 : Option Addr} {c17 : Nat} (l17 : x.f5.f3.length ≤ c17) (g17 : k29.C w A17 x.f5.f3.length x.f5.f3) {A18 : Option Addr} {c18 : Nat} (l18 : x.f6.length ≤ c18) (g18 : k50.C w A18 x.f6.length x.f6) : k50.K w x [.int .i64 x.f0, .string x.f1, .int .i64 x.f2.f0, .int .i64 x.f2.f1, .string x.f2.f2, .slice A5 x.f2.f3.length c5, .int .i64 x.f3.f0, .int .i64 x.f3.f1, .string x.f3.f2, .slice A9 x.f3.f3.length c9, .int .i64 x.f4.f0, .int .i64 x.f4.f1, .string x.f4.f2, .slice A13 x.f4.f3.length c13, .int .i64 x.f5.f0, .int .i64 x.f5.f1, .string x.f5.f2, .slice A17 x.f5.f3.length c17, .slice A18 x.f6.length c18] := by
 obtain ⟨n18, q18⟩ := Kd.fix_C_back mono50 g18
 have r18 := Kd.upto_C_le mono50 sz50 (show n18 ≤ n18 by omega) q18
 exact ⟨n18 + 1, ⟨[.int .i64 x.f0], [.string x.f1, .int .i64 x.f2.f0, .int .i64 x.f2.f1, .string x.f2.f2, .slice A5 x.f2.f3.length c5, .int .i64 x.f3.f0, .int .i64 x.f3.f1, .string x.f3.f2, .slice A9 x.f3.f3.length c9, .int .i64 x.f4.f0, .int .i64 x.f4.f1, .string x.f4.f2, .slice A13 x.f4.f3.length c13, .int .i64 x.f5.f0, .int .i64 x.f5.f1, .string x.f5.f2, .slice A17 x.f5.f3.length c17, .slice A18 x.f6.length c18], rfl, rfl, ⟨[.string x.f1], [.int .i64 x.f2.f0, .int .i64 x.f2.f1, .string x.f2.f2, .slice A5 x.f2.f3.length c5, .int .i64 x.f3.f0, .int .i64 x.f3.f1, .string x.f3.f2, .slice A9 x.f3.f3.length c9, .int .i64 x.f4.f0, .int .i64 x.f4.f1, .string x.f4.f2, .slice A13 x.f4.f3.length c13, .int .i64 x.f5.f0, .int .i64 x.f5.f1, .string x.f5.f2, .slice A17 x.f5.f3.length c17, .slice A18 x.f6.length c18], rfl, rfl, ⟨[.int .i64 x.f2.f0, .int .i64 x.f2.f1, .string x.f2.f2, .slice A5 x.f2.f3.length c5], [.int .i64 x.f3.f0, .int .i64 x.f3.f1, .string x.f3.f2, .slice A9 x.f3.f3.length c9, .int .i64 x.f4.f0, .int .i64 x.f4.f1, .string x.f4.f2, .slice A13 x.f4.f3.length c13, .int .i64 x.f5.f0, .int .i64 x.f5.f1, .string x.f5.f2, .slice A17 x.f5.f3.length c17, .slice A18 x.f6.length c18], rfl, (k29_mk w x.f2 l5 g5), ⟨[.int .i64 x.f3.f0, .int .i64 x.f3.f1, .string x.f3.f2, .slice A9 x.f3.f3.length c9], [.int .i64 x.f4.f0, .int .i64 x.f4.f1, .string x.f4.f2, .slice A13 x.f4.f3.length c13, .int .i64 x.f5.f0, .int .i64 x.f5.f1, .string x.f5.f2, .slice A17 x.f5.f3.length c17, .slice A18 x.f6.length c18], rfl, (k29_mk w x.f3 l9 g9), ⟨[.int .i64 x.f4.f0, .int .i64 x.f4.f1, .string x.f4.f2, .slice A13 x.f4.f3.length c13], [.int .i64 x.f5.f0, .int .i64 x.f5.f1, .string x.f5.f2, .slice A17 x.f5.f3.length c17, .slice A18 x.f6.length c18], rfl, (k29_mk w x.f4 l13 g13), ⟨[.int .i64 x.f5.f0, .int .i64 x.f5.f1, .string x.f5.f2, .slice A17 x.f5.f3.length c17], [.slice A18 x.f6.length c18], rfl, (k29_mk w x.f5 l17 g17), ⟨A18, c18, rfl, l18, r18⟩⟩⟩⟩⟩⟩⟩⟩
theorem k50_mkM (w : World) (base : Nat) (ok : Nat → Prop) (x : S50) {v5 : Value} (g5 : k29.R 29 w base ok v5 x.f2.f3) {v9 : Value} (g9 : k29.R 29 w base ok v9 x.f3.f3) {v13 : Value} (g13 : k29.R 29 w base ok v13 x.f4.f3) {v17 : Value} (g17 : k29.R 29 w base ok v17 x.f5.f3) {v18 : Value} (g18 : k50.R 50 w base ok v18 x.f6) : k50.M w base ok x [.int .i64 x.f0, .string x.f1, .int .i64 x.f2.f0, .int .i64 x.f2.f1, .string x.f2.f2, v5, .int .i64 x.f3.f0, .int .i64 x.f3.f1, .string x.f3.f2, v9, .int .i64 x.f4.f0, .int .i64 x.f4.f1, .string x.f4.f2, v13, .int .i64 x.f5.f0, .int .i64 x.f5.f1, .string x.f5.f2, v17, v18] := by
 obtain ⟨n18, q18⟩ := Kd.fix_R_back mono50 g18
 have r18 := Kd.upto_R_le mono50 sz50 (show n18 ≤ n18 by omega) q18
 exact ⟨n18 + 1, ⟨[.int .i64 x.f0], [.string x.f1, .int .i64 x.f2.f0, .int .i64 x.f2.f1, .string x.f2.f2, v5, .int .i64 x.f3.f0, .int .i64 x.f3.f1, .string x.f3.f2, v9, .int .i64 x.f4.f0, .int .i64 x.f4.f1, .string x.f4.f2, v13, .int .i64 x.f5.f0, .int .i64 x.f5.f1, .string x.f5.f2, v17, v18], rfl, rfl, ⟨[.string x.f1], [.int .i64 x.f2.f0, .int .i64 x.f2.f1, .string x.f2.f2, v5, .int .i64 x.f3.f0, .int .i64 x.f3.f1, .string x.f3.f2, v9, .int .i64 x.f4.f0, .int .i64 x.f4.f1, .string x.f4.f2, v13, .int .i64 x.f5.f0, .int .i64 x.f5.f1, .string x.f5.f2, v17, v18], rfl, rfl, ⟨[.int .i64 x.f2.f0, .int .i64 x.f2.f1, .string x.f2.f2, v5], [.int .i64 x.f3.f0, .int .i64 x.f3.f1, .string x.f3.f2, v9, .int .i64 x.f4.f0, .int .i64 x.f4.f1, .string x.f4.f2, v13, .int .i64 x.f5.f0, .int .i64 x.f5.f1, .string x.f5.f2, v17, v18], rfl, (k29_mkM w base ok x.f2 g5), ⟨[.int .i64 x.f3.f0, .int .i64 x.f3.f1, .string x.f3.f2, v9], [.int .i64 x.f4.f0, .int .i64 x.f4.f1, .string x.f4.f2, v13, .int .i64 x.f5.f0, .int .i64 x.f5.f1, .string x.f5.f2, v17, v18], rfl, (k29_mkM w base ok x.f3 g9), ⟨[.int .i64 x.f4.f0, .int .i64 x.f4.f1, .string x.f4.f2, v13], [.int .i64 x.f5.f0, .int .i64 x.f5.f1, .string x.f5.f2, v17, v18], rfl, (k29_mkM w base ok x.f4 g13), ⟨[.int .i64 x.f5.f0, .int .i64 x.f5.f1, .string x.f5.f2, v17], [v18], rfl, (k29_mkM w base ok x.f5 g17), ⟨v18, rfl, r18⟩⟩⟩⟩⟩⟩⟩⟩
def rd_T50 (xs : List S50) (i : Int) : S50 := xs.getD i.toNat z50
theorem at_T50 {w : World} {A : Option Addr} {n : Nat} {xs : List S50} (h : Kd.C k50 w A n xs) (i : Int) (h0 : 0 ≤ i) (h1 : i < n) : ∃ ad A5 c5 A9 c9 A13 c13 A17 c17 A18 c18, A = some ad ∧ w.cell? (ad.add (i.toNat * 19)) = some (.int .i64 (rd_T50 xs i).f0) ∧ w.cell? ⟨(ad.add (i.toNat * 19)).block, (ad.add (i.toNat * 19)).off + 1, none⟩ = some (.string (rd_T50 xs i).f1) ∧ w.cell? ⟨(ad.add (i.toNat * 19)).block, (ad.add (i.toNat * 19)).off + 2, none⟩ = some (.int .i64 (rd_T50 xs i).f2.f0) ∧ w.cell? ⟨(ad.add (i.toNat * 19)).block, (ad.add (i.toNat * 19)).off + 3, none⟩ = some (.int .i64 (rd_T50 xs i).f2.f1) ∧ w.cell? ⟨(ad.add (i.toNat * 19)).block, (ad.add (i.toNat * 19)).off + 4, none⟩ = some (.string (rd_T50 xs i).f2.f2) ∧ w.cell? ⟨(ad.add (i.toNat * 19)).block, (ad.add (i.toNat * 19)).off + 5, none⟩ = some (.slice A5 (rd_T50 xs i).f2.f3.length c5) ∧ w.cell? ⟨(ad.add (i.toNat * 19)).block, (ad.add (i.toNat * 19)).off + 6, none⟩ = some (.int .i64 (rd_T50 xs i).f3.f0) ∧ w.cell? ⟨(ad.add (i.toNat * 19)).block, (ad.add (i.toNat * 19)).off + 7, none⟩ = some (.int .i64 (rd_T50 xs i).f3.f1) ∧ w.cell? ⟨(ad.add (i.toNat * 19)).block, (ad.add (i.toNat * 19)).off + 8, none⟩ = some (.string (rd_T50 xs i).f3.f2) ∧ w.cell? ⟨(ad.add (i.toNat * 19)).block, (ad.add (i.toNat * 19)).off + 9, none⟩ = some (.slice A9 (rd_T50 xs i).f3.f3.length c9) ∧ w.cell? ⟨(ad.add (i.toNat * 19)).block, (ad.add (i.toNat * 19)).off + 10, none⟩ = some (.int .i64 (rd_T50 xs i).f4.f0) ∧ w.cell? ⟨(ad.add (i.toNat * 19)).block, (ad.add (i.toNat * 19)).off + 11, none⟩ = some (.int .i64 (rd_T50 xs i).f4.f1) ∧ w.cell? ⟨(ad.add (i.toNat * 19)).block, (ad.add (i.toNat * 19)).off + 12, none⟩ = some (.string (rd_T50 xs i).f4.f2) ∧ w.cell? ⟨(ad.add (i.toNat * 19)).block, (ad.add (i.toNat * 19)).off + 13, none⟩ = some (.slice A13 (rd_T50 xs i).f4.f3.length c13) ∧ w.cell? ⟨(ad.add (i.toNat * 19)).block, (ad.add (i.toNat * 19)).off + 14, none⟩ = some (.int .i64 (rd_T50 xs i).f5.f0) ∧ w.cell? ⟨(ad.add (i.toNat * 19)).block, (ad.add (i.toNat * 19)).off + 15, none⟩ = some (.int .i64 (rd_T50 xs i).f5.f1) ∧ w.cell? ⟨(ad.add (i.toNat * 19)).block, (ad.add (i.toNat * 19)).off + 16, none⟩ = some (.string (rd_T50 xs i).f5.f2) ∧ w.cell? ⟨(ad.add (i.toNat * 19)).block, (ad.add (i.toNat * 19)).off + 17, none⟩ = some (.slice A17 (rd_T50 xs i).f5.f3.length c17) ∧ w.cell? ⟨(ad.add (i.toNat * 19)).block, (ad.add (i.toNat * 19)).off + 18, none⟩ = some (.slice A18 (rd_T50 xs i).f6.length c18) ∧ (rd_T50 xs i).f2.f3.length ≤ c5 ∧ k29.C w A5 (rd_T50 xs i).f2.f3.length (rd_T50 xs i).f2.f3 ∧ (rd_T50 xs i).f3.f3.length ≤ c9 ∧ k29.C w A9 (rd_T50 xs i).f3.f3.length (rd_T50 xs i).f3.f3 ∧ (rd_T50 xs i).f4.f3.length ≤ c13 ∧ k29.C w A13 (rd_T50 xs i).f4.f3.length (rd_T50 xs i).f4.f3 ∧ (rd_T50 xs i).f5.f3.length ≤ c17 ∧ k29.C w A17 (rd_T50 xs i).f5.f3.length (rd_T50 xs i).f5.f3 ∧ (rd_T50 xs i).f6.length ≤ c18 ∧ k50.C w A18 (rd_T50 xs i).f6.length (rd_T50 xs i).f6 := by
 obtain ⟨ad, c, e, _, hK, hc0⟩ := Kd.C_get h z50 i h0 h1
 have hc : ∀ j u, c[j]? = some u → w.cell? (ad.add (i.toNat * 19 + j)) = some u := hc0
 obtain ⟨A5, c5, A9, c9, A13, c13, A17, c17, A18, c18, rfl, l5, g5, l9, g9, l13, g13, l17, g17, l18, g18⟩ := k50_open hK
 exact ⟨ad, A5, c5, A9, c9, A13, c13, A17, c17, A18, c18, e, hc 0 _ rfl, by rw [← add_field _ _ 1 (by omega)]; exact hc 1 _ rfl, by rw [← add_field _ _ 2 (by omega)]; exact hc 2 _ rfl, by rw [← add_field _ _ 3 (by omega)]; exact hc 3 _ rfl, by rw [← add_field _ _ 4 (by omega)]; exact hc 4 _ rfl, by rw [← add_field _ _ 5 (by omega)]; exact hc 5 _ rfl, by rw [← add_field _ _ 6 (by omega)]; exact hc 6 _ rfl, by rw [← add_field _ _ 7 (by omega)]; exact hc 7 _ rfl, by rw [← add_field _ _ 8 (by omega)]; exact hc 8 _ rfl, by rw [← add_field _ _ 9 (by omega)]; exact hc 9 _ rfl, by rw [← add_field _ _ 10 (by omega)]; exact hc 10 _ rfl, by rw [← add_field _ _ 11 (by omega)]; exact hc 11 _ rfl, by rw [← add_field _ _ 12 (by omega)]; exact hc 12 _ rfl, by rw [← add_field _ _ 13 (by omega)]; exact hc 13 _ rfl, by rw [← add_field _ _ 14 (by omega)]; exact hc 14 _ rfl, by rw [← add_field _ _ 15 (by omega)]; exact hc 15 _ rfl, by rw [← add_field _ _ 16 (by omega)]; exact hc 16 _ rfl, by rw [← add_field _ _ 17 (by omega)]; exact hc 17 _ rfl, by rw [← add_field _ _ 18 (by omega)]; exact hc 18 _ rfl, l5, g5, l9, g9, l13, g13, l17, g17, l18, g18⟩

def RowAt (w : World) (ad : Addr) : Nat → List Value → Prop
 | _, [] => True
 | j, v :: vs => w.cell? (ad.add j) = some v ∧ RowAt w ad (j + 1) vs
theorem RowAt.get {w : World} {ad : Addr} : ∀ {cs : List Value} {k : Nat}, RowAt w ad k cs → ∀ j v, cs[j]? = some v → w.cell? (ad.add (k + j)) = some v
 | [], _, _, j, v, hv => by simp at hv
 | c :: cs, k, h, 0, v, hv => by
  obtain rfl : c = v := by simpa using hv
  exact h.1
 | c :: cs, k, h, j + 1, v, hv => by
  have := RowAt.get h.2 j v (by simpa using hv)
  rwa [show k + 1 + j = k + (j + 1) by omega] at this
theorem cellJ {w : World} {ad : Addr} {j : Nat} {v : Value} (h : w.cell? ⟨ad.block, ad.off + (j + 1), none⟩ = some v) : w.cell? (ad.add (j + 1)) = some v := by
 have e : ad.add (j + 1) = ⟨ad.block, ad.off + (j + 1), none⟩ := by simp [Addr.add]
 rw [e]
 exact h
theorem cellZ {w : World} {ad : Addr} {v : Value} (h : w.cell? ad = some v) : w.cell? (ad.add 0) = some v := by
 have e : ad.add 0 = ad := by simp [Addr.add]
 rw [e]
 exact h
theorem ldRow {P : Program} {ops : Array Oper} {rest : List Oper} {op : Oper} {a : Act} {w : World} {Q : Exit → Act → World → Prop} (hgd : op.guard = none) (ty : TypeId) (x : Operand) (ho : op.op = .load ty x)
  (ad : Addr) (hx : a.eval x = .pointer (some ad)) (cs : List Value) (hc : ∀ j v, cs[j]? = some v → w.cell? (ad.add j) = some v) (fs : Array Field)
  (hu : P.underlying ty = some (.struct fs)) (hi : (P.info? ty).map (·.size) = some cs.length)
  (h : wpList P ops Q rest (a.put op.dst (.agg cs.toArray)) w) : wpList P ops Q (op :: rest) a w := by
 have hl : (loadCells ad cs.length).run P w = .ok cs.toArray w := run_loadCells_list (P := P) w ad cs hc
 have hv : (loadVar ty ad).run P w = .ok (.agg cs.toArray) w := by
  cases hq : P.info? ty with
  | none => simp [hq] at hi
  | some i =>
   have hs : i.size = cs.length := by simpa [hq] using hi
   have hagg : (isAgg ty).run P w = .ok true w := by
    unfold isAgg
    rw [Sem.run_bind, run_underlying hu w]
    simp
   simp [loadVar, Sem.run_bind, hagg, sizeOf, typeInfo, hq, hs, hl]
 refine wpList_plain hgd fun _ hK => ?_
 unfold Oper.wp execOp
 simp only [ho, hx, Instr.loadAt, Instr.sureAddr, Sem.run_bind, Sem.run_pure, Result.andThen_ok, hv]
 exact hK _ _ h
theorem ldRun {P : Program} {op : Oper} {a : Act} {w : World} (ty : TypeId) (x : Operand) (ho : op.op = .load ty x)
  (ad : Addr) (hx : a.eval x = .pointer (some ad)) (cs : List Value) (hc : ∀ j v, cs[j]? = some v → w.cell? (ad.add j) = some v) (fs : Array Field)
  (hu : P.underlying ty = some (.struct fs)) (hi : (P.info? ty).map (·.size) = some cs.length) : (execOp a.eval op).run P w = .ok (.value (.agg cs.toArray)) w := by
 have hl : (loadCells ad cs.length).run P w = .ok cs.toArray w := run_loadCells_list (P := P) w ad cs hc
 have hv : (loadVar ty ad).run P w = .ok (.agg cs.toArray) w := by
  cases hq : P.info? ty with
  | none => simp [hq] at hi
  | some i =>
   have hs : i.size = cs.length := by simpa [hq] using hi
   have hagg : (isAgg ty).run P w = .ok true w := by
    unfold isAgg
    rw [Sem.run_bind, run_underlying hu w]
    simp
   simp [loadVar, Sem.run_bind, hagg, Go.sizeOf, typeInfo, hq, hs, hl]
 unfold execOp
 simp only [ho, hx, Instr.loadAt, Instr.sureAddr, Sem.run_bind, Sem.run_pure, Result.andThen_ok, hv]
theorem row19 {w : World} {ad : Addr} {a0 a1 a2 a3 a4 a5 a6 a7 a8 a9 a10 a11 a12 a13 a14 a15 a16 a17 a18 : Value} (h0 : w.cell? ad = some a0) (h1 : w.cell? ⟨ad.block, ad.off + 1, none⟩ = some a1) (h2 : w.cell? ⟨ad.block, ad.off + 2, none⟩ = some a2) (h3 : w.cell? ⟨ad.block, ad.off + 3, none⟩ = some a3) (h4 : w.cell? ⟨ad.block, ad.off + 4, none⟩ = some a4) (h5 : w.cell? ⟨ad.block, ad.off + 5, none⟩ = some a5) (h6 : w.cell? ⟨ad.block, ad.off + 6, none⟩ = some a6) (h7 : w.cell? ⟨ad.block, ad.off + 7, none⟩ = some a7) (h8 : w.cell? ⟨ad.block, ad.off + 8, none⟩ = some a8) (h9 : w.cell? ⟨ad.block, ad.off + 9, none⟩ = some a9) (h10 : w.cell? ⟨ad.block, ad.off + 10, none⟩ = some a10) (h11 : w.cell? ⟨ad.block, ad.off + 11, none⟩ = some a11) (h12 : w.cell? ⟨ad.block, ad.off + 12, none⟩ = some a12) (h13 : w.cell? ⟨ad.block, ad.off + 13, none⟩ = some a13) (h14 : w.cell? ⟨ad.block, ad.off + 14, none⟩ = some a14) (h15 : w.cell? ⟨ad.block, ad.off + 15, none⟩ = some a15) (h16 : w.cell? ⟨ad.block, ad.off + 16, none⟩ = some a16) (h17 : w.cell? ⟨ad.block, ad.off + 17, none⟩ = some a17) (h18 : w.cell? ⟨ad.block, ad.off + 18, none⟩ = some a18) : ∀ j v, [a0, a1, a2, a3, a4, a5, a6, a7, a8, a9, a10, a11, a12, a13, a14, a15, a16, a17, a18][j]? = some v → w.cell? (ad.add j) = some v := fun j v hj => by
 have := RowAt.get (w := w) (ad := ad) (k := 0) (cs := [a0, a1, a2, a3, a4, a5, a6, a7, a8, a9, a10, a11, a12, a13, a14, a15, a16, a17, a18]) ⟨cellZ h0, cellJ h1, cellJ h2, cellJ h3, cellJ h4, cellJ h5, cellJ h6, cellJ h7, cellJ h8, cellJ h9, cellJ h10, cellJ h11, cellJ h12, cellJ h13, cellJ h14, cellJ h15, cellJ h16, cellJ h17, cellJ h18, trivial⟩ j v hj
 rwa [Nat.zero_add] at this

theorem bigAdd (g off j : Nat) : (⟨g, off, none⟩ : Addr).add j = ⟨g, off + j, none⟩ := by
 unfold Addr.add
 split <;> simp_all
theorem run_storeSeg {P : Program} (g off : Nat) : ∀ (vs : List Value) (i : Nat) (w : World), (∀ j, j < vs.length → (w.cell? ⟨g, off + i + j, none⟩).isSome = true ∧ w.frozen? ⟨g, off + i + j, none⟩ = false) → (vs.all (·.oneCell')) = true →
  (storeCells ⟨g, off, none⟩ vs i).run P w = .ok () (w.setCells g (off + i) vs)
 | [], i, w, _, _ => rfl
 | v :: r, i, w, hc, h1 => by
  have h0 := hc 0 (by simp)
  simp only [Nat.add_zero] at h0
  obtain ⟨u, hu⟩ := Option.isSome_iff_exists.1 h0.1
  have h1' : v.oneCell' = true ∧ r.all (·.oneCell') = true := by simpa using h1
  have hst : (store ((⟨g, off, none⟩ : Addr).add i) v).run P w = .ok () (w.setCell ⟨g, off + i, none⟩ v) := by
   rw [bigAdd, run_store P w _ v _ h1'.1, hu]
   simp [h0.2]
  have ih := run_storeSeg (P := P) g off r (i + 1) (w.setCell ⟨g, off + i, none⟩ v) (fun j hj => by
   have := hc (j + 1) (by simp; omega)
   rw [show off + i + (j + 1) = off + (i + 1) + j by omega] at this
   obtain ⟨u', hu'⟩ := Option.isSome_iff_exists.1 this.1
   obtain ⟨v', hv'⟩ := cell?_setCell_some (p := ⟨g, off + i, none⟩) (x := v) hu'
   exact ⟨by rw [hv']; rfl, (World.frozen?_setCell _ _ _ _).trans this.2⟩) h1'.2
  simp only [storeCells, Sem.run_bind, hst, Result.andThen_ok, ih, World.setCells, Nat.add_assoc]
theorem hrSeg {P : Program} {o : Oper} {a : Act} {w w1 : World} (ty : TypeId) (x y : Operand) (ho : o.op = .store ty x y) (g off : Nat) (hx : a.eval x = .pointer (some ⟨g, off, none⟩)) (vs : List Value) (hy : (a.eval y).cells = vs.toArray) (hi : (P.info? ty).map (·.size) = some vs.length)
  (h1 : (vs.all (·.oneCell')) = true) (hc : ∀ j, j < vs.length → (w.cell? ⟨g, off + j, none⟩).isSome = true ∧ w.frozen? ⟨g, off + j, none⟩ = false) (e : w.setCells g off vs = w1) : (execOp a.eval o).run P w = .ok .skip w1 := by
 subst e
 have hs := run_storeSeg (P := P) g off vs 0 w (by simpa using hc) h1
 have hv : (storeVar ty ⟨g, off, none⟩ (a.eval y)).run P w = .ok () (w.setCells g off vs) := by
  cases hq : P.info? ty with
  | none => simp [hq] at hi
  | some i =>
   have hs2 : i.size = vs.length := by simpa [hq] using hi
   simp [storeVar, Go.sizeOf, typeInfo, hq, hy, hs2, hs]
 unfold execOp
 simp only [ho, hx, Instr.storeAt, Instr.sureAddr, Sem.run_bind, Sem.run_pure, Result.andThen_ok, hv]
theorem hrBox {P : Program} {o : Oper} {a : Act} {w w1 : World} (ty : TypeId) (x y : Operand) (ho : o.op = .store ty x y) (g off : Nat) (hx : a.eval x = .pointer (some ⟨g, off, none⟩)) (vs : List Value) (hy : (a.eval y).cells = vs.toArray) (hi : (P.info? ty).map (·.size) = some vs.length)
  (h1 : (vs.all (·.oneCell')) = true) {l : List Value} {tb : TypeId} (hb : w.heap[g]? = some (.cells l.toArray tb (0, 0))) (hl : off + vs.length ≤ l.length) (e : w.setCells g off vs = w1) : (execOp a.eval o).run P w = .ok .skip w1 :=
 hrSeg ty x y ho g off hx vs hy hi h1 (fun j hj => ⟨by rw [blk_cell hb, List.getElem?_toArray, List.getElem?_eq_getElem (by omega)]; rfl, blk_frozen hb _⟩) e
theorem ldBox {P : Program} {ops : Array Oper} {rest : List Oper} {op : Oper} {a : Act} {w : World} {Q : Exit → Act → World → Prop} (hgd : op.guard = none) (ty : TypeId) (x : Operand) (ho : op.op = .load ty x)
  (g off : Nat) (hx : a.eval x = .pointer (some ⟨g, off, none⟩)) {l : List Value} {tb : TypeId} (hb : w.heap[g]? = some (.cells l.toArray tb (0, 0))) (vs : List Value) (hv : (l.drop off).take vs.length = vs) (fs : Array Field)
  (hu : P.underlying ty = some (.struct fs)) (hi : (P.info? ty).map (·.size) = some vs.length)
  (h : wpList P ops Q rest (a.put op.dst (.agg vs.toArray)) w) : wpList P ops Q (op :: rest) a w := by
 have hl : (loadCells ⟨g, off, none⟩ vs.length).run P w = .ok vs.toArray w := run_loadCells_list (P := P) w _ vs (fun j v hj => by
  rw [bigAdd, blk_cell hb, List.getElem?_toArray]
  rw [← hv, List.getElem?_take, List.getElem?_drop] at hj
  split at hj
  ·exact hj
  ·cases hj)
 have hv : (loadVar ty ⟨g, off, none⟩).run P w = .ok (.agg vs.toArray) w := by
  cases hq : P.info? ty with
  | none => simp [hq] at hi
  | some i =>
   have hs : i.size = vs.length := by simpa [hq] using hi
   have hagg : (isAgg ty).run P w = .ok true w := by
    unfold isAgg
    rw [Sem.run_bind, run_underlying hu w]
    simp
   simp [loadVar, Sem.run_bind, hagg, Go.sizeOf, typeInfo, hq, hs, hl]
 refine wpList_plain hgd fun _ hK => ?_
 unfold Oper.wp execOp
 simp only [ho, hx, Instr.loadAt, Instr.sureAddr, Sem.run_bind, Sem.run_pure, Result.andThen_ok, hv]
 exact hK _ _ h
theorem ldOne {P : Program} {ops : Array Oper} {rest : List Oper} {op : Oper} {a : Act} {w : World} {Q : Exit → Act → World → Prop} (hgd : op.guard = none) (ty : TypeId) (x : Operand) (ho : op.op = .load ty x)
  (g off : Nat) (hx : a.eval x = .pointer (some ⟨g, off, none⟩)) {l : List Value} {tb : TypeId} (hb : w.heap[g]? = some (.cells l.toArray tb (0, 0))) (v : Value) (hv : l[off]? = some v)
  (hagg : ∀ w : World, (isAgg ty).run P w = .ok false w)
  (h : wpList P ops Q rest (a.put op.dst v) w) : wpList P ops Q (op :: rest) a w := by
 have hc : w.cell? ⟨g, off, none⟩ = some v := by rw [blk_cell hb, List.getElem?_toArray, hv]
 have hv : (loadVar ty ⟨g, off, none⟩).run P w = .ok v w := by
  simp [loadVar, Sem.run_bind, hagg, hc]
 refine wpList_plain hgd fun _ hK => ?_
 unfold Oper.wp execOp
 simp only [ho, hx, Instr.loadAt, Instr.sureAddr, Sem.run_bind, Sem.run_pure, Result.andThen_ok, hv]
 exact hK _ _ h
theorem segHC {w : World} {g b sz off n : Nat} {c : List Value} (hcl : c.length = sz) (hcc : ∀ j u, c[j]? = some u → w.cell? ⟨g, b + j, none⟩ = some u) (hfr : ∀ j, w.frozen? ⟨g, b + j, none⟩ = false) (h : off + n ≤ sz) :
  ∀ j, j < n → (w.cell? ⟨g, b + off + j, none⟩).isSome = true ∧ w.frozen? ⟨g, b + off + j, none⟩ = false := fun j hj => by
 have h1 := hcc (off + j) _ (List.getElem?_eq_getElem (by omega))
 have h2 := hfr (off + j)
 rw [← Nat.add_assoc] at h1 h2
 exact ⟨by rw [h1]; rfl, h2⟩
theorem normW {P : Program} {ops : Array Oper} {l : List Oper} {Q : Exit → Act → World → Prop} {a a' : Act} {w : World} (h : wpList P ops Q l a' w) (e : a = a') : wpList P ops Q l a w := e ▸ h

theorem bindA {α β : Type} {x : Option α} {f : α → Option β} {r : β} (h : x.bind f = some r) : ∃ a, Aside0 (x = some a) ∧ f a = some r := by
 obtain ⟨a, h1, h2⟩ := Option.bind_eq_some_iff.mp h
 exact ⟨a, ⟨h1⟩, h2⟩
theorem below_size2 {w W : World} {g : Nat} (h : Below w.heap.size w W) (hg : g = W.heap.size) : w.heap.size ≤ g := hg ▸ h.size
theorem hbc {w W : World} {a : Addr} {v : Value} (hb : Below w.heap.size w W) (h : w.cell? a = some v) : W.cell? a = some v := (hb.cell (World.block_lt_of_cell? w a h)).trans h
theorem qB {w W w1 : World} (h : Below w.heap.size w W) (hb : Below W.heap.size W w1) : Below w.heap.size w W := h
/-- A world that has grown out of another one. -/
class Peel (w' : World) (w : outParam World) : Prop where
 h : Below w.heap.size w w'
instance (priority := low) peel0 (w : World) : Peel w w := ⟨Below.refl _ _⟩
instance peelA (w' w : World) (o : Obj) [p : Peel w' w] : Peel (w'.alloc o) w := ⟨below_alloc p.h o⟩
instance peelN (w' w : World) (n : Nat) [p : Peel w' w] : Peel (w'.drewN n) w := ⟨pw_below_drewN p.h n⟩
instance peelD (w' w : World) [p : Peel w' w] : Peel w'.drew w := ⟨below_drew1 p.h⟩
theorem kX {w' w : World} {g : Nat} {o : Obj} [p : Peel w' w] (h : w.heap[g]? = some o) : w'.heap[g]? = some o := blk_below h p.h
theorem rX {α : Type} {d : Kd α} {e base : Nat} {ok : Nat → Prop} {v : Value} {xs : List α} {w' w : World} [p : Peel w' w] (h : d.R e w base ok v xs) : d.R e w' base ok v xs := Kd.R_below h p.h
theorem bA {w W : World} (h : Below w.heap.size w W) (o : Obj) : Below w.heap.size w (W.alloc o) := below_alloc h o
theorem bN {B : Nat} {w W : World} (h : Below B w W) (n : Nat) : Below B w (W.drewN n) := pw_below_drewN h n
theorem bD {base : Nat} {w W : World} (h : Below base w W) : Below base w W.drew := below_drew1 h
theorem bS {w W : World} {g j : Nat} {v : Value} (h : Below w.heap.size w W) (hg : w.heap.size ≤ g) : Below w.heap.size w (W.setCell ⟨g, j, none⟩ v) := below_set h hg
theorem cA {α : Type} {d : Kd α} {w : World} {xs : List α} {A : Option Addr} {n : Nat} (h : d.C w A n xs) (o : Obj) : d.C (w.alloc o) A n xs := Kd.C_alloc h o
theorem cN {α : Type} {d : Kd α} {w : World} {xs : List α} {A : Option Addr} {n : Nat} (h : d.C w A n xs) (m : Nat) : d.C (w.drewN m) A n xs := Kd.C_drewN h m
theorem cD {α : Type} {d : Kd α} {w : World} {xs : List α} {A : Option Addr} {n : Nat} (h : d.C w A n xs) : d.C w.drew A n xs := Kd.C_drew h
theorem kN {w : World} {g : Nat} {o : Obj} (h : w.heap[g]? = some o) (n : Nat) : (w.drewN n).heap[g]? = some o := blk_drewN h n
theorem kD {w : World} {g : Nat} {o : Obj} (h : w.heap[g]? = some o) : w.drew.heap[g]? = some o := blk_drew h
theorem kA {w : World} {g : Nat} {o : Obj} (h : w.heap[g]? = some o) (o' : Obj) : (w.alloc o').heap[g]? = some o := blk_alloc h o'
theorem mk0 {p : Prop} (h : p) : Aside0 p := Aside0.mk h
theorem kO {α β : Type} {d : Kd α} {d' : Kd β} {e e' base N : Nat} {ok ok' : Nat → Prop} {w1 w2 : World} {u v : Value} {xs : List α} {ys : List β} (h : d.R e w1 base (fun k => ok k ∧ k < N) u xs) (ho : d'.R e' w2 N ok' v ys) : d.R e w1 base (fun k => (ok k ∧ some k ≠ v.ownBlock) ∧ k < N) u xs := Kd.R_told h (Kd.R_base ho)
theorem kE {α β : Type} {d : Kd α} {d' : Kd β} {e e' base : Nat} {ok ok' : Nat → Prop} {w1 W : World} {u v : Value} {xs : List α} {ys : List β} (h : d.R e w1 W.heap.size ok v xs) (ho : d'.R e' W base ok' u ys) : d.R e w1 W.heap.size (fun k => ok k ∧ some k ≠ u.ownBlock) v xs := Kd.R_new' h (Kd.R_lt ho)
theorem kM {α : Type} {d : Kd α} {e base : Nat} {ok ok2 : Nat → Prop} {w : World} {v : Value} {xs : List α} (h : d.R e w base (fun k => ok k ∧ ok2 k) v xs) : d.R e w base ok v xs := Kd.R_mono h (fun _ h_ => h_.1)
theorem bc2 {w : World} {g : Nat} {t : TypeId} {a0 a1 : Value} (h : w.heap[g]? = some (.cells #[a0, a1] t (0, 0))) : w.cell? ⟨g, 0, none⟩ = some a0 ∧ w.cell? ⟨g, 1, none⟩ = some a1 ∧ w.frozen? ⟨g, 0, none⟩ = false ∧ w.frozen? ⟨g, 1, none⟩ = false := ⟨(blk_cell h 0).trans rfl, (blk_cell h 1).trans rfl, blk_frozen h 0, blk_frozen h 1⟩
theorem bc4 {w : World} {g : Nat} {t : TypeId} {a0 a1 a2 a3 : Value} (h : w.heap[g]? = some (.cells #[a0, a1, a2, a3] t (0, 0))) : w.cell? ⟨g, 0, none⟩ = some a0 ∧ w.cell? ⟨g, 1, none⟩ = some a1 ∧ w.cell? ⟨g, 2, none⟩ = some a2 ∧ w.cell? ⟨g, 3, none⟩ = some a3 ∧ w.frozen? ⟨g, 0, none⟩ = false ∧ w.frozen? ⟨g, 1, none⟩ = false ∧ w.frozen? ⟨g, 2, none⟩ = false ∧ w.frozen? ⟨g, 3, none⟩ = false := ⟨(blk_cell h 0).trans rfl, (blk_cell h 1).trans rfl, (blk_cell h 2).trans rfl, (blk_cell h 3).trans rfl, blk_frozen h 0, blk_frozen h 1, blk_frozen h 2, blk_frozen h 3⟩
end Go.Proofs.Ytmmdgciefehbcaa.PFnExactArrAt
