/- Proved: the constants law answers true. Conditions: none. -/
import Derived.Test.YtnonfdhkmoihaaaPFnExactConstantsx1
namespace Go.Proofs.Ytnonfdhkmoihaaa.Pure
open Go.RowKit Go.Proofs.Ytnonfdhkmoihaaa.PFnExactConstants Go.Proofs.YtnonfdhkmoihaaaW.PrintWords Go.Proofs.YtnonfdhkmoihaaaW.PrintLast

theorem FnExactConstants : laws_FnExactConstants.Pure := by
  rfl

end Go.Proofs.Ytnonfdhkmoihaaa.Pure
