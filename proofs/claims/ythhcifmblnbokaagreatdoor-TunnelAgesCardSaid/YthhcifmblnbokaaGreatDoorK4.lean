/- Pieces of the loop, each run by the kernel. -/
import Derived.Test.YthhcifmblnbokaaGreatDoorKs
set_option linter.all false
set_option maxRecDepth 100000
noncomputable section
namespace Go.X
open Go Go.RowKit Go.Proofs
theorem p1_192 : pcB 32 (stE 2 192 96) 24875 Q1h (stE 2 224 112) 28405 Q1g = true:=by kernel_rfl
theorem p1_224 : pcB 16 (stE 2 224 112) 28405 Q1g (stE 2 240 120) 30061 Q1f = true:=by kernel_rfl
theorem p1_240 : pcB 12 (stE 2 240 120) 30061 Q1f (stE 2 252 126) 32270 Q1e = true:=by kernel_rfl
theorem p1_252 : pcB 8 (stE 2 252 126) 32270 Q1e (stE 2 260 130) 33122 Q1d = true:=by kernel_rfl
theorem q1_t : tlC (stE 2 260 130) 33122 Q1d = true:=by kernel_rfl
theorem p2_1 : pcB 53 (stE 3 1 1) 1872 L1 (stE 3 54 18) 5410 s2_54 = true:=by kernel_rfl
theorem p2_54 : pcB 18 (stE 3 54 18) 5410 s2_54 (stE 3 72 24) 7613 s2_72 = true:=by kernel_rfl
end Go.X
end
