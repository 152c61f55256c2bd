/- Pieces of the loop, each run by the kernel. -/
import Derived.Test.YthhcifmblnbokaaGreatDoorKs
set_option linter.all false
set_option maxRecDepth 100000
noncomputable section
namespace Go.X
open Go Go.RowKit Go.Proofs
theorem q8_t : tlC (stE 9 260 29) 12147 G9r = true:=by kernel_rfl
theorem p9_1 : pcB 59 (stE 10 1 1) 1872 L1 (stE 10 60 6) 2956 s9_60 = true:=by kernel_rfl
theorem p9_60 : pcB 40 (stE 10 60 6) 2956 s9_60 (stE 10 100 10) 4929 G9q = true:=by kernel_rfl
theorem p9_100 : pcB 49 (stE 10 100 10) 4929 G9q (stE 10 149 15) 6952 G9p = true:=by kernel_rfl
theorem p9_149 : pcB 41 (stE 10 149 15) 6952 G9p (stE 10 190 19) 8914 G9o = true:=by kernel_rfl
theorem p9_190 : pcB 50 (stE 10 190 19) 8914 G9o (stE 10 240 24) 10165 G9n = true:=by kernel_rfl
theorem p9_240 : pcB 20 (stE 10 240 24) 10165 G9n (stE 10 260 26) 11538 G9m = true:=by kernel_rfl
end Go.X
end
