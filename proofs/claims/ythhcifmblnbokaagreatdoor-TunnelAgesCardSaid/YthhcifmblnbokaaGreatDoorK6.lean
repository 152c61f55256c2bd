/- Pieces of the loop, each run by the kernel. -/
import Derived.Test.YthhcifmblnbokaaGreatDoorKs
set_option linter.all false
set_option maxRecDepth 100000
noncomputable section
namespace Go.X
open Go Go.RowKit Go.Proofs
theorem q2_t : tlC (stE 3 260 87) 24199 Q0w = true:=by kernel_rfl
theorem p3_1 : pcB 59 (stE 4 1 1) 1872 L1 (stE 4 60 15) 4801 s3_60 = true:=by kernel_rfl
theorem p3_60 : pcB 24 (stE 4 60 15) 4801 s3_60 (stE 4 84 21) 7022 s3_84 = true:=by kernel_rfl
theorem p3_84 : pcB 36 (stE 4 84 21) 7022 s3_84 (stE 4 120 30) 9079 Q0v = true:=by kernel_rfl
theorem p3_120 : pcB 24 (stE 4 120 30) 9079 Q0v (stE 4 144 36) 11300 Q0u = true:=by kernel_rfl
theorem p3_144 : pcB 36 (stE 4 144 36) 11300 Q0u (stE 4 180 45) 13357 Q0t = true:=by kernel_rfl
theorem p3_180 : pcB 24 (stE 4 180 45) 13357 Q0t (stE 4 204 51) 15578 Q0s = true:=by kernel_rfl
end Go.X
end
