/- Plain functions that the loaded code comes to, and that it does. Conditions: none. -/
import Derived.Test.YtdacfaincamliaaGreatEvGen
import Derived.Test.YtdacfaincamliaaGreatProg
namespace Go.Proofs.YtdacfaincamliaaGreat.Ev
open Go Go.Proofs
theorem mixed : Tryz.prog.follows .mixedOrders = true := by kernel_rfl
end Go.Proofs.YtdacfaincamliaaGreat.Ev
