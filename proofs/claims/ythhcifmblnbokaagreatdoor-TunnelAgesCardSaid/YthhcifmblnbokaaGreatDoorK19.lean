/- Pieces of the loop, each run by the kernel. -/
import Derived.Test.YthhcifmblnbokaaGreatDoorKs
set_option linter.all false
set_option maxRecDepth 100000
noncomputable section
namespace Go.X
open Go Go.RowKit Go.Proofs
theorem Q5j : pcB 4 (stE 16 256 16) 8523 W8t (stE 16 260 17) 9669 W8s = true:=by kernel_rfl
theorem q15_t : tlC (stE 16 260 17) 9669 W8s = true:=by kernel_rfl
theorem p16_1 : pcB 84 (stE 17 1 1) 1872 L1 (stE 17 85 5) 3713 Q1q = true:=by kernel_rfl
theorem p16_85 : pcB 58 (stE 17 85 5) 3713 Q1q (stE 17 143 9) 5698 W8r = true:=by kernel_rfl
theorem Q5i : pcB 61 (stE 17 143 9) 5698 W8r (stE 17 204 12) 6544 W8q = true:=by kernel_rfl
theorem Q5h : pcB 56 (stE 17 204 12) 6544 W8q (stE 17 260 16) 8527 W8p = true:=by kernel_rfl
theorem q16_t : tlC (stE 17 260 16) 8527 W8p = true:=by kernel_rfl
end Go.X
end
