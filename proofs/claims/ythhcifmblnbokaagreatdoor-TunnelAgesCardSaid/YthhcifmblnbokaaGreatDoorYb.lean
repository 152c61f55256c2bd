/- curve.X's run. -/
import Derived.Test.YthhcifmblnbokaaGreatDoorYa
set_option linter.all false
set_option maxRecDepth 100000
noncomputable section
namespace Go.X
open Go Go.RowKit Go.Proofs
theorem x_run (k u : Nat → Int) : U2s (J5k btX 25 [kv k,kv u] H.e) = some (kv (xL k u)):=by kernel_rfl
end Go.X
end
