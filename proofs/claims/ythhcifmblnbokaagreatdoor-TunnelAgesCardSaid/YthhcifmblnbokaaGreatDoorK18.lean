/- Pieces of the loop, each run by the kernel. -/
import Derived.Test.YthhcifmblnbokaaGreatDoorKs
set_option linter.all false
set_option maxRecDepth 100000
noncomputable section
namespace Go.X
open Go Go.RowKit Go.Proofs
theorem Q5n : pcB 59 (stE 15 196 14) 7889 W8y (stE 15 255 17) 9664 W8x = true:=by kernel_rfl
theorem Q5m : pcB 5 (stE 15 255 17) 9664 W8x (stE 15 260 18) 9880 W8w = true:=by kernel_rfl
theorem q14_t : tlC (stE 15 260 18) 9880 W8w = true:=by kernel_rfl
theorem p15_1 : pcB 79 (stE 16 1 1) 1872 L1 (stE 16 80 5) 3708 Q1r = true:=by kernel_rfl
theorem p15_80 : pcB 58 (stE 16 80 5) 3708 Q1r (stE 16 138 9) 5693 W8v = true:=by kernel_rfl
theorem Q5l : pcB 58 (stE 16 138 9) 5693 W8v (stE 16 196 13) 7678 W8u = true:=by kernel_rfl
theorem Q5k : pcB 60 (stE 16 196 13) 7678 W8u (stE 16 256 16) 8523 W8t = true:=by kernel_rfl
end Go.X
end
