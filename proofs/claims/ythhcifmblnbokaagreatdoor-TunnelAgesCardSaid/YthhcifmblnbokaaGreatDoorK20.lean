/- Pieces of the loop, each run by the kernel. -/
import Derived.Test.YthhcifmblnbokaaGreatDoorKs
set_option linter.all false
set_option maxRecDepth 100000
noncomputable section
namespace Go.X
open Go Go.RowKit Go.Proofs
theorem p17_1 : pcB 88 (stE 18 1 1) 1872 L1 (stE 18 89 5) 3717 Q1p = true:=by kernel_rfl
theorem p17_89 : pcB 58 (stE 18 89 5) 3717 Q1p (stE 18 147 9) 5696 W8o = true:=by kernel_rfl
theorem Q5g : pcB 69 (stE 18 147 9) 5696 W8o (stE 18 216 12) 6544 W8n = true:=by kernel_rfl
theorem Q5f : pcB 44 (stE 18 216 12) 6544 W8n (stE 18 260 15) 8304 W8m = true:=by kernel_rfl
theorem q17_t : tlC (stE 18 260 15) 8304 W8m = true:=by kernel_rfl
theorem p18_1 : pcB 88 (stE 19 1 1) 1872 L1 (stE 19 89 5) 3717 Q1o = true:=by kernel_rfl
theorem p18_89 : pcB 63 (stE 19 89 5) 3717 Q1o (stE 19 152 8) 4559 W8l = true:=by kernel_rfl
end Go.X
end
