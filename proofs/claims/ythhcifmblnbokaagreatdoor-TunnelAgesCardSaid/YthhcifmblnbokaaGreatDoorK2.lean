/- Pieces of the loop, each run by the kernel. -/
import Derived.Test.YthhcifmblnbokaaGreatDoorKs
set_option linter.all false
set_option maxRecDepth 100000
noncomputable section
namespace Go.X
open Go Go.RowKit Go.Proofs
theorem p0_202 : pcB 16 (stE 1 202 202) 46891 Q2b (stE 1 218 218) 50399 Q2a = true:=by kernel_rfl
theorem p0_218 : pcB 18 (stE 1 218 218) 50399 Q2a (stE 1 236 236) 54107 Q1z = true:=by kernel_rfl
theorem p0_236 : pcB 6 (stE 1 236 236) 54107 Q1z (stE 1 242 242) 56286 Q1y = true:=by kernel_rfl
theorem p0_242 : pcB 18 (stE 1 242 242) 56286 Q1y (stE 1 260 260) 60102 Q1x = true:=by kernel_rfl
theorem q0_t : tlC (stE 1 260 260) 60102 Q1x = true:=by kernel_rfl
theorem p1_1 : pcB 35 (stE 2 1 1) 1872 L1 (stE 2 36 18) 5392 s1_36 = true:=by kernel_rfl
theorem p1_36 : pcB 24 (stE 2 36 18) 5392 s1_36 (stE 2 60 30) 7876 s1_60 = true:=by kernel_rfl
end Go.X
end
