/- The pure statement of FnExactSubW: what the printed functions compute makes the law answer true. Conditions: those in the statement. -/
import Derived.Test.YtbkoonfdkeeapaaLem
import Derived.Test.YtbkoonfdkeeapaaPFnExactSubWx0
import Derived.Test.YtbkoonfdkeeapaaPFnExactSubWx1
namespace Go.Proofs.Ytbkoonfdkeeapaa.Pure
open Go.RowKit Go.Proofs.Ytbkoonfdkeeapaa.PFnExactSubW Go.Proofs.YtbkoonfdkeeapaaW.PrintWords Go.Proofs.YtbkoonfdkeeapaaW.PrintLast Go.Proofs.YtbkoonfdkeeapaaW.PrintMore Go.Proofs.Ytbkoonfdkeeapaa.Lem
set_option linter.unusedVariables false
set_option linter.unusedSimpArgs false

theorem impl_Wrap_eq (a : Int) : impl_Wrap.f a = some (wrap32 a) := by
  unfold impl_Wrap.f
  simp only [wrap64, wrap32]
  congr 1
  omega
theorem spec_Wrap_eq (a : Int) : spec_Wrap.f a = some (wrap32 a) := by
  unfold spec_Wrap.f
  rw [bits_and32]
  simp only [wrap64, wrap32]
  split <;> · congr 1; omega
theorem FnExactSubW : laws_FnExactSubW.Pure := by
  intro a0 a1 _ _
  unfold laws_FnExactSubW.f spec_SubW.f impl_SubW.f
  simp only [spec_Wrap_eq, impl_Wrap_eq, Option.bind_some, if_true]

end Go.Proofs.Ytbkoonfdkeeapaa.Pure
