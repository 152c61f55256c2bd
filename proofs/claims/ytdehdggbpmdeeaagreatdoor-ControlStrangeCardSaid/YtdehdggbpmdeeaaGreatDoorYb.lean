/- curve.X's run. -/
import Derived.Test.YtdehdggbpmdeeaaGreatDoorYa
set_option linter.all false
set_option maxRecDepth 100000
namespace Go.X
open Go Go.RowKit Go.Proofs
theorem x_run (k u : Nat → Int) : resV (runB btX 42 [kv k,kv u] H.e) = some (kv (xL k u)):=by kernel_rfl
end Go.X
