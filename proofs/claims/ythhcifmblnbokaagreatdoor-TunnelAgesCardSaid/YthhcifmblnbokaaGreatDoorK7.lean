/- Pieces of the loop, each run by the kernel. -/
import Derived.Test.YthhcifmblnbokaaGreatDoorKs
set_option linter.all false
set_option maxRecDepth 100000
noncomputable section
namespace Go.X
open Go Go.RowKit Go.Proofs
theorem p3_204 : pcB 36 (stE 4 204 51) 15578 Q0s (stE 4 240 60) 17635 Q0r = true:=by kernel_rfl
theorem p3_240 : pcB 20 (stE 4 240 60) 17635 Q0r (stE 4 260 65) 19641 Q0q = true:=by kernel_rfl
theorem q3_t : tlC (stE 4 260 65) 19641 Q0q = true:=by kernel_rfl
theorem p4_1 : pcB 59 (stE 5 1 1) 1872 L1 (stE 5 60 12) 4186 s4_60 = true:=by kernel_rfl
theorem p4_60 : pcB 29 (stE 5 60 12) 4186 s4_60 (stE 5 89 18) 6412 s4_89 = true:=by kernel_rfl
theorem p4_89 : pcB 31 (stE 5 89 18) 6412 s4_89 (stE 5 120 24) 7837 Q0p = true:=by kernel_rfl
theorem p4_120 : pcB 29 (stE 5 120 24) 7837 Q0p (stE 5 149 30) 10063 Q0o = true:=by kernel_rfl
end Go.X
end
