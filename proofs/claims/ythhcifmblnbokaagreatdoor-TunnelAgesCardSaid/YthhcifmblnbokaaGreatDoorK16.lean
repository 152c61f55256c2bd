/- Pieces of the loop, each run by the kernel. -/
import Derived.Test.YthhcifmblnbokaaGreatDoorKs
set_option linter.all false
set_option maxRecDepth 100000
noncomputable section
namespace Go.X
open Go Go.RowKit Go.Proofs
theorem p12_78 : pcB 52 (stE 13 78 6) 3911 Q1u (stE 13 130 10) 4953 W9h = true:=by kernel_rfl
theorem Q5u : pcB 52 (stE 13 130 10) 4953 W9h (stE 13 182 14) 6932 W9g = true:=by kernel_rfl
theorem Q5t : pcB 52 (stE 13 182 14) 6932 W9g (stE 13 234 18) 8911 W9f = true:=by kernel_rfl
theorem Q5s : pcB 26 (stE 13 234 18) 8911 W9f (stE 13 260 20) 9347 W9e = true:=by kernel_rfl
theorem q12_t : tlC (stE 13 260 20) 9347 W9e = true:=by kernel_rfl
theorem p13_1 : pcB 79 (stE 14 1 1) 1872 L1 (stE 14 80 6) 3913 Q1t = true:=by kernel_rfl
theorem p13_80 : pcB 60 (stE 14 80 6) 3913 Q1t (stE 14 140 10) 4963 W9d = true:=by kernel_rfl
end Go.X
end
