/- Pieces of the loop, each run by the kernel. -/
import Derived.Test.YthhcifmblnbokaaGreatDoorKs
set_option linter.all false
set_option maxRecDepth 100000
noncomputable section
namespace Go.X
open Go Go.RowKit Go.Proofs
theorem p0_1 : pcB 18 (stE 1 1 1) 1872 L1 (stE 1 19 19) 5580 s0_19 = true:=by kernel_rfl
theorem p0_19 : pcB 18 (stE 1 19 19) 5580 s0_19 (stE 1 37 37) 9288 s0_37 = true:=by kernel_rfl
theorem p0_37 : pcB 18 (stE 1 37 37) 9288 s0_37 (stE 1 55 55) 12996 s0_55 = true:=by kernel_rfl
theorem p0_55 : pcB 6 (stE 1 55 55) 12996 s0_55 (stE 1 61 61) 15169 s0_61 = true:=by kernel_rfl
theorem p0_61 : pcB 18 (stE 1 61 61) 15169 s0_61 (stE 1 79 79) 18985 s0_79 = true:=by kernel_rfl
theorem p0_79 : pcB 16 (stE 1 79 79) 18985 s0_79 (stE 1 95 95) 22511 s0_95 = true:=by kernel_rfl
theorem p0_95 : pcB 18 (stE 1 95 95) 22511 s0_95 (stE 1 113 113) 26219 Q2i = true:=by kernel_rfl
end Go.X
end
