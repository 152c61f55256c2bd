/- Pieces of the loop, each run by the kernel. -/
import Derived.Test.YthhcifmblnbokaaGreatDoorKs
set_option linter.all false
set_option maxRecDepth 100000
noncomputable section
namespace Go.X
open Go Go.RowKit Go.Proofs
theorem p4_149 : pcB 31 (stE 5 149 30) 10063 Q0o (stE 5 180 36) 11488 Q0n = true:=by kernel_rfl
theorem p4_180 : pcB 29 (stE 5 180 36) 11488 Q0n (stE 5 209 42) 13714 Q0m = true:=by kernel_rfl
theorem p4_209 : pcB 31 (stE 5 209 42) 13714 Q0m (stE 5 240 48) 15139 Q0l = true:=by kernel_rfl
theorem p4_240 : pcB 20 (stE 5 240 48) 15139 Q0l (stE 5 260 52) 16934 Q0k = true:=by kernel_rfl
theorem q4_t : tlC (stE 5 260 52) 16934 Q0k = true:=by kernel_rfl
theorem p5_1 : pcB 59 (stE 6 1 1) 1872 L1 (stE 6 60 10) 3776 s5_60 = true:=by kernel_rfl
theorem p5_60 : pcB 29 (stE 6 60 10) 3776 s5_60 (stE 6 89 15) 5791 s5_89 = true:=by kernel_rfl
end Go.X
end
