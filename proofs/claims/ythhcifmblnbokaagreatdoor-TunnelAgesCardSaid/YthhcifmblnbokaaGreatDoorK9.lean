/- Pieces of the loop, each run by the kernel. -/
import Derived.Test.YthhcifmblnbokaaGreatDoorKs
set_option linter.all false
set_option maxRecDepth 100000
noncomputable section
namespace Go.X
open Go Go.RowKit Go.Proofs
theorem p5_89 : pcB 31 (stE 6 89 15) 5791 s5_89 (stE 6 120 20) 7011 Q0j = true:=by kernel_rfl
theorem p5_120 : pcB 29 (stE 6 120 20) 7011 Q0j (stE 6 149 25) 9026 Q0i = true:=by kernel_rfl
theorem p5_149 : pcB 31 (stE 6 149 25) 9026 Q0i (stE 6 180 30) 10246 Q0h = true:=by kernel_rfl
theorem p5_180 : pcB 29 (stE 6 180 30) 10246 Q0h (stE 6 209 35) 12261 Q0g = true:=by kernel_rfl
theorem p5_209 : pcB 31 (stE 6 209 35) 12261 Q0g (stE 6 240 40) 13481 Q0f = true:=by kernel_rfl
theorem p5_240 : pcB 20 (stE 6 240 40) 13481 Q0f (stE 6 260 44) 15276 Q0e = true:=by kernel_rfl
theorem q5_t : tlC (stE 6 260 44) 15276 Q0e = true:=by kernel_rfl
end Go.X
end
