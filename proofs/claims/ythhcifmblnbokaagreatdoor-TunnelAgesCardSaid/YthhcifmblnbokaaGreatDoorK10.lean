/- Pieces of the loop, each run by the kernel. -/
import Derived.Test.YthhcifmblnbokaaGreatDoorKs
set_option linter.all false
set_option maxRecDepth 100000
noncomputable section
namespace Go.X
open Go Go.RowKit Go.Proofs
theorem p6_1 : pcB 62 (stE 7 1 1) 1872 L1 (stE 7 63 9) 3574 s6_63 = true:=by kernel_rfl
theorem p6_63 : pcB 28 (stE 7 63 9) 3574 s6_63 (stE 7 91 13) 5541 s6_91 = true:=by kernel_rfl
theorem p6_91 : pcB 41 (stE 7 91 13) 5541 s6_91 (stE 7 132 19) 7749 Q0d = true:=by kernel_rfl
theorem p6_132 : pcB 57 (stE 7 132 19) 7749 Q0d (stE 7 189 27) 9628 Q0c = true:=by kernel_rfl
theorem p6_189 : pcB 28 (stE 7 189 27) 9628 Q0c (stE 7 217 31) 11595 Q0b = true:=by kernel_rfl
theorem p6_217 : pcB 41 (stE 7 217 31) 11595 Q0b (stE 7 258 37) 13803 Q0a = true:=by kernel_rfl
theorem p6_258 : pcB 2 (stE 7 258 37) 13803 Q0a (stE 7 260 38) 14016 G9z = true:=by kernel_rfl
end Go.X
end
