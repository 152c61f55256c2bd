/- Pieces of the loop, each run by the kernel. -/
import Derived.Test.YthhcifmblnbokaaGreatDoorKs
set_option linter.all false
set_option maxRecDepth 100000
noncomputable section
namespace Go.X
open Go Go.RowKit Go.Proofs
theorem Q5r : pcB 56 (stE 14 140 10) 4963 W9d (stE 14 196 14) 6946 W9c = true:=by kernel_rfl
theorem Q5q : pcB 56 (stE 14 196 14) 6946 W9c (stE 14 252 18) 8929 W9b = true:=by kernel_rfl
theorem Q5p : pcB 8 (stE 14 252 18) 8929 W9b (stE 14 260 19) 9142 W9a = true:=by kernel_rfl
theorem q13_t : tlC (stE 14 260 19) 9142 W9a = true:=by kernel_rfl
theorem p14_1 : pcB 79 (stE 15 1 1) 1872 L1 (stE 15 80 6) 3919 Q1s = true:=by kernel_rfl
theorem p14_80 : pcB 58 (stE 15 80 6) 3919 Q1s (stE 15 138 10) 5904 W8z = true:=by kernel_rfl
theorem Q5o : pcB 58 (stE 15 138 10) 5904 W8z (stE 15 196 14) 7889 W8y = true:=by kernel_rfl
end Go.X
end
