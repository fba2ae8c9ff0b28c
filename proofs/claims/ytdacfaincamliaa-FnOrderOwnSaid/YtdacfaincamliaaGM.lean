/- Plain functions that the loaded code comes to, and that it does. Conditions: none. -/
import Derived.Test.YtdacfaincamliaaEvGen
import Derived.Test.YtdacfaincamliaaProg
namespace Go.Proofs.Ytdacfaincamliaa.Ev
open Go Go.Proofs
abbrev yP : Ty := .rs 57 (.rs 59 (.pair (.int .i64) (.pair (.int .i64) (.int .i64))))
abbrev yD : Ty := .pair (.int .i64) (.pair (.int .i64) (.int .i64))
abbrev yE : Ty := .pair (.int .i64) (.pair (.int .i64) .bool)
abbrev yX : Ty := .pair (.rs 3 (.int .i64)) (.rs 25 (.rs 3 (.int .i64)))
abbrev kI : LK := .c false (.v true (.int .i64))
abbrev kB : LK := .c false (.v true .bool)
theorem mixed : Try.prog.follows .mixedOrders = true := by kernel_rfl
end Go.Proofs.Ytdacfaincamliaa.Ev
