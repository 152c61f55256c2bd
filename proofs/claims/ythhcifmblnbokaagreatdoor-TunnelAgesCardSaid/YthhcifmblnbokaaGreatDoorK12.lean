/- Pieces of the loop, each run by the kernel. -/
import Derived.Test.YthhcifmblnbokaaGreatDoorKs
set_option linter.all false
set_option maxRecDepth 100000
noncomputable section
namespace Go.X
open Go Go.RowKit Go.Proofs
theorem q7_t : tlC (stE 8 260 33) 12985 G9v = true:=by kernel_rfl
theorem p8_1 : pcB 62 (stE 9 1 1) 1872 L1 (stE 9 63 7) 3164 s8_63 = true:=by kernel_rfl
theorem p8_63 : pcB 36 (stE 9 63 7) 3164 s8_63 (stE 9 99 11) 5133 s8_99 = true:=by kernel_rfl
theorem p8_99 : pcB 45 (stE 9 99 11) 5133 s8_99 (stE 9 144 16) 7146 G9u = true:=by kernel_rfl
theorem p8_144 : pcB 45 (stE 9 144 16) 7146 G9u (stE 9 189 21) 8386 G9t = true:=by kernel_rfl
theorem p8_189 : pcB 36 (stE 9 189 21) 8386 G9t (stE 9 225 25) 10355 G9s = true:=by kernel_rfl
theorem p8_225 : pcB 35 (stE 9 225 25) 10355 G9s (stE 9 260 29) 12147 G9r = true:=by kernel_rfl
end Go.X
end
