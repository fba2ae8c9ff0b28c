/- What all printed texts lean on: orders that are mixed. Conditions: none. -/
import Derived.Test.YtaehbfaldofmbaaEvGen
import Derived.Test.YtaehbfaldofmbaaProg
namespace Go.Proofs.Ytaehbfaldofmbaa.Ev
open Go Go.Proofs
theorem mixed : Try.prog.follows .mixedOrders = true := by kernel_rfl
end Go.Proofs.Ytaehbfaldofmbaa.Ev
