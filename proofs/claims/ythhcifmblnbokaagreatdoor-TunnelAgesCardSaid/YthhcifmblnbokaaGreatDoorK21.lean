/- Pieces of the loop, each run by the kernel. -/
import Derived.Test.YthhcifmblnbokaaGreatDoorKs
set_option linter.all false
set_option maxRecDepth 100000
noncomputable section
namespace Go.X
open Go Go.RowKit Go.Proofs
theorem Q5e : pcB 58 (stE 19 152 8) 4559 W8l (stE 19 210 12) 6538 W8k = true:=by kernel_rfl
theorem Q5d : pcB 50 (stE 19 210 12) 6538 W8k (stE 19 260 14) 8099 W8j = true:=by kernel_rfl
theorem q18_t : tlC (stE 19 260 14) 8099 W8j = true:=by kernel_rfl
theorem p19_1 : pcB 88 (stE 20 1 1) 1872 L1 (stE 20 89 5) 3723 Q1n = true:=by kernel_rfl
theorem p19_89 : pcB 60 (stE 20 89 5) 3723 Q1n (stE 20 149 8) 5505 W8i = true:=by kernel_rfl
theorem Q5c : pcB 60 (stE 20 149 8) 5505 W8i (stE 20 209 11) 7287 W8h = true:=by kernel_rfl
theorem Q5b : pcB 51 (stE 20 209 11) 7287 W8h (stE 20 260 13) 8849 W8g = true:=by kernel_rfl
end Go.X
end
