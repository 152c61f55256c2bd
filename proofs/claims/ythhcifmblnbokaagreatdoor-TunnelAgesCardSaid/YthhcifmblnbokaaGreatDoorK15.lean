/- Pieces of the loop, each run by the kernel. -/
import Derived.Test.YthhcifmblnbokaaGreatDoorKs
set_option linter.all false
set_option maxRecDepth 100000
noncomputable section
namespace Go.X
open Go Go.RowKit Go.Proofs
theorem p11_1 : pcB 71 (stE 12 1 1) 1872 L1 (stE 12 72 6) 3905 Q1v = true:=by kernel_rfl
theorem p11_72 : pcB 48 (stE 12 72 6) 3905 Q1v (stE 12 120 10) 4949 W9l = true:=by kernel_rfl
theorem Q5x : pcB 48 (stE 12 120 10) 4949 W9l (stE 12 168 14) 6930 W9k = true:=by kernel_rfl
theorem Q5w : pcB 48 (stE 12 168 14) 6930 W9k (stE 12 216 18) 8911 W9j = true:=by kernel_rfl
theorem Q5v : pcB 44 (stE 12 216 18) 8911 W9j (stE 12 260 22) 10718 W9i = true:=by kernel_rfl
theorem q11_t : tlC (stE 12 260 22) 10718 W9i = true:=by kernel_rfl
theorem p12_1 : pcB 77 (stE 13 1 1) 1872 L1 (stE 13 78 6) 3911 Q1u = true:=by kernel_rfl
end Go.X
end
