/- The pure statement of FnExactConstants: what the printed functions compute makes the law answer true. Conditions: those in the statement. -/
import Derived.Test.YtbkoonfdkeeapaaLem
import Derived.Test.YtbkoonfdkeeapaaPFnExactConstantsx0
import Derived.Test.YtbkoonfdkeeapaaPFnExactConstantsx1
namespace Go.Proofs.Ytbkoonfdkeeapaa.Pure
open Go.RowKit Go.Proofs.Ytbkoonfdkeeapaa.PFnExactConstants Go.Proofs.YtbkoonfdkeeapaaW.PrintWords Go.Proofs.YtbkoonfdkeeapaaW.PrintLast Go.Proofs.YtbkoonfdkeeapaaW.PrintMore Go.Proofs.Ytbkoonfdkeeapaa.Lem
set_option linter.unusedVariables false
set_option linter.unusedSimpArgs false

theorem FnExactConstants : laws_FnExactConstants.Pure := rfl

end Go.Proofs.Ytbkoonfdkeeapaa.Pure
