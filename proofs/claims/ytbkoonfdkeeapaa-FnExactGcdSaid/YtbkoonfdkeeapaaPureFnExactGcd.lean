/- The pure statement of FnExactGcd: what the printed functions compute makes the law answer true. Conditions: those in the statement. -/
import Derived.Test.YtbkoonfdkeeapaaLem
import Derived.Test.YtbkoonfdkeeapaaPFnExactGcdx0
import Derived.Test.YtbkoonfdkeeapaaPFnExactGcdx1
namespace Go.Proofs.Ytbkoonfdkeeapaa.Pure
open Go.RowKit Go.Proofs.Ytbkoonfdkeeapaa.PFnExactGcd Go.Proofs.YtbkoonfdkeeapaaW.PrintWords Go.Proofs.YtbkoonfdkeeapaaW.PrintLast Go.Proofs.YtbkoonfdkeeapaaW.PrintMore Go.Proofs.Ytbkoonfdkeeapaa.Lem
set_option linter.unusedVariables false
set_option linter.unusedSimpArgs false

theorem impl_Wrap_eq (a : Int) : impl_Wrap.f a = some (wrap32 a) := by
  unfold impl_Wrap.f
  simp only [wrap64, wrap32]
  congr 1
  omega
theorem spec_Wrap_eq (a : Int) : spec_Wrap.f a = some (wrap32 a) := by
  unfold spec_Wrap.f
  rw [bits_and32]
  simp only [wrap64, wrap32]
  split <;> · congr 1; omega
theorem wrap32_range (a : Int) : -2147483648 ≤ wrap32 a ∧ wrap32 a ≤ 2147483647 := by
  unfold wrap32
  omega
theorem spec_l1Abs_eq (a : Int) (h : -2147483648 ≤ a ∧ a ≤ 2147483647) : spec_l1Abs.f a = some ((a.natAbs : Nat) : Int) := by
  unfold spec_l1Abs.f
  rw [w64 (by omega) (by omega)]
  split <;> · congr 1; omega
theorem impl_size_eq (a : Int) (h : -2147483648 ≤ a ∧ a ≤ 2147483647) : impl_size.f a = some ((a.natAbs : Nat) : Int) := by
  unfold impl_size.f mx
  rw [w64 (by omega) (by omega)]
  congr 1
  split <;> omega
theorem tmod_nat (a b : Nat) : Int.tmod (a : Int) (b : Int) = ((a % b : Nat) : Int) := by
  rw [Int.tmod_eq_emod_of_nonneg (by omega)]
  exact (Int.natCast_emod a b).symm
theorem spec_Gcd_l0_ev : ∀ (b a : Nat), Ev (fun k => spec_Gcd.l0 k (a : Int) (b : Int)) ((Nat.gcd b a : Nat) : Int) := by
  intro b
  induction b using Nat.strongRecOn with
  | ind b ih =>
    intro a
    refine Ev.step (fun k => by rw [spec_Gcd.l0]) ?_
    by_cases c : b = 0
    · subst c
      simp only [Int.natCast_zero, if_true, Nat.gcd_zero_left]
      exact Ev.now _
    · have c' : ¬ (b : Int) = 0 := by omega
      simp only [c', if_false, tmod_nat]
      have := ih (a % b) (Nat.mod_lt _ (by omega)) b
      rwa [← Nat.gcd_rec b a] at this
theorem impl_Gcd_l0_ev : ∀ (b a : Nat), Ev (fun k => impl_Gcd.l0 k (a : Int) (b : Int)) ((Nat.gcd b a : Nat) : Int) := by
  intro b
  induction b using Nat.strongRecOn with
  | ind b ih =>
    intro a
    refine Ev.step (fun k => by rw [impl_Gcd.l0]) ?_
    by_cases c : b = 0
    · subst c
      simp only [Int.natCast_zero, if_true, Nat.gcd_zero_left]
      exact Ev.now _
    · have c' : ¬ (b : Int) = 0 := by omega
      simp only [c', if_false, tmod_nat]
      have := ih (a % b) (Nat.mod_lt _ (by omega)) b
      rwa [← Nat.gcd_rec b a] at this
def gcdS (a b : Int) : Int := ((Nat.gcd (wrap32 b).natAbs (wrap32 a).natAbs : Nat) : Int)
theorem spec_Gcd_ev (a b : Int) : Ev (fun k => spec_Gcd.f k a b) (gcdS a b) := by
  unfold spec_Gcd.f
  simp only [spec_Wrap_eq, Option.bind_some, spec_l1Abs_eq _ (wrap32_range _)]
  exact spec_Gcd_l0_ev _ _
theorem impl_Gcd_ev (a b : Int) : Ev (fun k => impl_Gcd.f k a b) (gcdS a b) := by
  unfold impl_Gcd.f
  simp only [impl_Wrap_eq, Option.bind_some, impl_size_eq _ (wrap32_range _)]
  exact impl_Gcd_l0_ev _ _
theorem FnExactGcd : laws_FnExactGcd.Pure := by
  intro a0 a1 _ _
  apply Ev.rounds
  unfold laws_FnExactGcd.f
  refine Ev.then (spec_Gcd_ev a0 a1) (Ev.then (impl_Gcd_ev a0 a1) ?_)
  simp only [if_true]
  exact Ev.now _

end Go.Proofs.Ytbkoonfdkeeapaa.Pure
