/- What all printed texts lean on: orders that are mixed. Conditions: none. -/
import Derived.Test.YtdacfaincamliaaEvGen
import Derived.Test.YtdacfaincamliaaProg
namespace Go.Proofs.Ytdacfaincamliaa.Ev
open Go Go.Proofs
theorem mixed : Try.prog.follows .mixedOrders = true := by kernel_rfl
end Go.Proofs.Ytdacfaincamliaa.Ev
