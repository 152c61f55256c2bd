/- Pieces of the loop, each run by the kernel. -/
import Derived.Test.YthhcifmblnbokaaGreatDoorKs
set_option linter.all false
set_option maxRecDepth 100000
noncomputable section
namespace Go.X
open Go Go.RowKit Go.Proofs
theorem q9_t : tlC (stE 10 260 26) 11538 G9m = true:=by kernel_rfl
theorem p10_1 : pcB 65 (stE 11 1 1) 1872 L1 (stE 11 66 6) 2962 Q1w = true:=by kernel_rfl
theorem p10_66 : pcB 44 (stE 11 66 6) 2962 Q1w (stE 11 110 10) 4939 W9p = true:=by kernel_rfl
theorem Q6a : pcB 45 (stE 11 110 10) 4939 W9p (stE 11 155 15) 6958 W9o = true:=by kernel_rfl
theorem Q5z : pcB 54 (stE 11 155 15) 6958 W9o (stE 11 209 19) 8933 W9n = true:=by kernel_rfl
theorem Q5y : pcB 51 (stE 11 209 19) 8933 W9n (stE 11 260 24) 10185 W9m = true:=by kernel_rfl
theorem q10_t : tlC (stE 11 260 24) 10185 W9m = true:=by kernel_rfl
end Go.X
end
