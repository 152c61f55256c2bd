/- Pieces of the loop, each run by the kernel. -/
import Derived.Test.YthhcifmblnbokaaGreatDoorKs
set_option linter.all false
set_option maxRecDepth 100000
noncomputable section
namespace Go.X
open Go Go.RowKit Go.Proofs
theorem p0_113 : pcB 7 (stE 1 113 113) 26219 Q2i (stE 1 120 120) 27661 Q2h = true:=by kernel_rfl
theorem p0_120 : pcB 6 (stE 1 120 120) 27661 Q2h (stE 1 126 126) 29864 Q2g = true:=by kernel_rfl
theorem p0_126 : pcB 18 (stE 1 126 126) 29864 Q2g (stE 1 144 144) 33680 Q2f = true:=by kernel_rfl
theorem p0_144 : pcB 16 (stE 1 144 144) 33680 Q2f (stE 1 160 160) 37176 Q2e = true:=by kernel_rfl
theorem p0_160 : pcB 18 (stE 1 160 160) 37176 Q2e (stE 1 178 178) 40884 Q2d = true:=by kernel_rfl
theorem p0_178 : pcB 6 (stE 1 178 178) 40884 Q2d (stE 1 184 184) 43075 Q2c = true:=by kernel_rfl
theorem p0_184 : pcB 18 (stE 1 184 184) 43075 Q2c (stE 1 202 202) 46891 Q2b = true:=by kernel_rfl
end Go.X
end
