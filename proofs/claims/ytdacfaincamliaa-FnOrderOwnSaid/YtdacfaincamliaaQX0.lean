/- Ways as data. Conditions: none. -/
import Derived.Test.YtdacfaincamliaaQA
namespace Go.Proofs.Ytdacfaincamliaa.Ev
open Go
abbrev Xn := List Int × List (List Int)
def SmallI (xs : List (List Int)) : Prop := xs.length ≤ 1048576 ∧ ∀ t ∈ xs, t.length ≤ 1048576
end Go.Proofs.Ytdacfaincamliaa.Ev
