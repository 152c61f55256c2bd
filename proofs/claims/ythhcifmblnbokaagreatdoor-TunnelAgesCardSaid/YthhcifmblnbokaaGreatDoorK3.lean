/- Pieces of the loop, each run by the kernel. -/
import Derived.Test.YthhcifmblnbokaaGreatDoorKs
set_option linter.all false
set_option maxRecDepth 100000
noncomputable section
namespace Go.X
open Go Go.RowKit Go.Proofs
theorem p1_60 : pcB 12 (stE 2 60 30) 7876 s1_60 (stE 2 72 36) 10085 s1_72 = true:=by kernel_rfl
theorem p1_72 : pcB 32 (stE 2 72 36) 10085 s1_72 (stE 2 104 52) 13615 Q1m = true:=by kernel_rfl
theorem p1_104 : pcB 16 (stE 2 104 52) 13615 Q1m (stE 2 120 60) 15271 Q1l = true:=by kernel_rfl
theorem p1_120 : pcB 12 (stE 2 120 60) 15271 Q1l (stE 2 132 66) 17480 Q1k = true:=by kernel_rfl
theorem p1_132 : pcB 32 (stE 2 132 66) 17480 Q1k (stE 2 164 82) 21010 Q1j = true:=by kernel_rfl
theorem p1_164 : pcB 16 (stE 2 164 82) 21010 Q1j (stE 2 180 90) 22666 Q1i = true:=by kernel_rfl
theorem p1_180 : pcB 12 (stE 2 180 90) 22666 Q1i (stE 2 192 96) 24875 Q1h = true:=by kernel_rfl
end Go.X
end
