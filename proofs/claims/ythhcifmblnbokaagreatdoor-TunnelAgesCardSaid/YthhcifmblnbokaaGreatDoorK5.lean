/- Pieces of the loop, each run by the kernel. -/
import Derived.Test.YthhcifmblnbokaaGreatDoorKs
set_option linter.all false
set_option maxRecDepth 100000
noncomputable section
namespace Go.X
open Go Go.RowKit Go.Proofs
theorem p2_72 : pcB 45 (stE 3 72 24) 7613 s2_72 (stE 3 117 39) 10933 Q1c = true:=by kernel_rfl
theorem p2_117 : pcB 18 (stE 3 117 39) 10933 Q1c (stE 3 135 45) 13142 Q1b = true:=by kernel_rfl
theorem p2_135 : pcB 45 (stE 3 135 45) 13142 Q1b (stE 3 180 60) 16456 Q1a = true:=by kernel_rfl
theorem p2_180 : pcB 18 (stE 3 180 60) 16456 Q1a (stE 3 198 66) 18671 Q0z = true:=by kernel_rfl
theorem p2_198 : pcB 42 (stE 3 198 66) 18671 Q0z (stE 3 240 80) 21771 Q0y = true:=by kernel_rfl
theorem p2_240 : pcB 18 (stE 3 240 80) 21771 Q0y (stE 3 258 86) 23986 Q0x = true:=by kernel_rfl
theorem p2_258 : pcB 2 (stE 3 258 86) 23986 Q0x (stE 3 260 87) 24199 Q0w = true:=by kernel_rfl
end Go.X
end
