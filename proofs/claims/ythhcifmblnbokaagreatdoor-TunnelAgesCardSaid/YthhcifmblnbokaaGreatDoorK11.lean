/- Pieces of the loop, each run by the kernel. -/
import Derived.Test.YthhcifmblnbokaaGreatDoorKs
set_option linter.all false
set_option maxRecDepth 100000
noncomputable section
namespace Go.X
open Go Go.RowKit Go.Proofs
theorem q6_t : tlC (stE 7 260 38) 14016 G9z = true:=by kernel_rfl
theorem p7_1 : pcB 63 (stE 8 1 1) 1872 L1 (stE 8 64 8) 3370 s7_64 = true:=by kernel_rfl
theorem p7_64 : pcB 32 (stE 8 64 8) 3370 s7_64 (stE 8 96 12) 5341 s7_96 = true:=by kernel_rfl
theorem p7_96 : pcB 41 (stE 8 96 12) 5341 s7_96 (stE 8 137 18) 7555 G9y = true:=by kernel_rfl
theorem p7_137 : pcB 55 (stE 8 137 18) 7555 G9y (stE 8 192 24) 9016 G9x = true:=by kernel_rfl
theorem p7_192 : pcB 32 (stE 8 192 24) 9016 G9x (stE 8 224 28) 10987 G9w = true:=by kernel_rfl
theorem p7_224 : pcB 36 (stE 8 224 28) 10987 G9w (stE 8 260 33) 12985 G9v = true:=by kernel_rfl
end Go.X
end
