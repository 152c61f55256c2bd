/- One case of ControlStrange, run by the kernel. -/
import Derived.Test.YtdehdggbpmdeeaaGreatDoorSW
set_option linter.all false
set_option maxRecDepth 100000
namespace Go.X
open Go Go.RowKit Go.Proofs
theorem strange21 : okB (runL btV 3 [.z 0 3074,.z 0 3073] H.e) = true:=by kernel_rfl
end Go.X
