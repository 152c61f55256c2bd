/- The cases. -/
import Derived.Test.YthhcifmblnbokaaGreatDoorK0
import Derived.Test.YthhcifmblnbokaaGreatDoorK1
import Derived.Test.YthhcifmblnbokaaGreatDoorK2
import Derived.Test.YthhcifmblnbokaaGreatDoorK3
import Derived.Test.YthhcifmblnbokaaGreatDoorK4
import Derived.Test.YthhcifmblnbokaaGreatDoorK5
import Derived.Test.YthhcifmblnbokaaGreatDoorK6
import Derived.Test.YthhcifmblnbokaaGreatDoorK7
import Derived.Test.YthhcifmblnbokaaGreatDoorK8
import Derived.Test.YthhcifmblnbokaaGreatDoorK9
import Derived.Test.YthhcifmblnbokaaGreatDoorK10
import Derived.Test.YthhcifmblnbokaaGreatDoorK11
import Derived.Test.YthhcifmblnbokaaGreatDoorK12
import Derived.Test.YthhcifmblnbokaaGreatDoorK13
import Derived.Test.YthhcifmblnbokaaGreatDoorK14
import Derived.Test.YthhcifmblnbokaaGreatDoorK15
import Derived.Test.YthhcifmblnbokaaGreatDoorK16
import Derived.Test.YthhcifmblnbokaaGreatDoorK17
import Derived.Test.YthhcifmblnbokaaGreatDoorK18
import Derived.Test.YthhcifmblnbokaaGreatDoorK19
import Derived.Test.YthhcifmblnbokaaGreatDoorK20
import Derived.Test.YthhcifmblnbokaaGreatDoorK21
import Derived.Test.YthhcifmblnbokaaGreatDoorK22
set_option linter.all false
set_option maxRecDepth 100000
noncomputable section
namespace Go.X
open Go Go.RowKit Go.Proofs
theorem case0 {x : Int} (hx : x % 20 = 0) (w0 : World) : Calls Tryz.prog 3 #[.int .i64 x] w0 fun e w1=>e = .returned (.bool true) ∧ Below w0.heap.size w0 w1 :=
 J1z (s:=0) (by decide) hx pre0 w0 fun a w hA=>⟨_,U2u (first 0) hA fun a w hA=>pcs p0_1 hA fun a w hA=>pcs p0_19 hA fun a w hA=>pcs p0_37 hA fun a w hA=>pcs p0_55 hA fun a w hA=>pcs p0_61 hA fun a w hA=>pcs p0_79 hA fun a w hA=>pcs p0_95 hA fun a w hA=>pcs p0_113 hA fun a w hA=>pcs p0_120 hA fun a w hA=>pcs p0_126 hA fun a w hA=>pcs p0_144 hA fun a w hA=>pcs p0_160 hA fun a w hA=>pcs p0_178 hA fun a w hA=>pcs p0_184 hA fun a w hA=>pcs p0_202 hA fun a w hA=>pcs p0_218 hA fun a w hA=>pcs p0_236 hA fun a w hA=>pcs p0_242 hA fun a w hA=>tls q0_t hA⟩
theorem case1 {x : Int} (hx : x % 20 = 1) (w0 : World) : Calls Tryz.prog 3 #[.int .i64 x] w0 fun e w1=>e = .returned (.bool true) ∧ Below w0.heap.size w0 w1 :=
 J1z (s:=1) (by decide) hx pre1 w0 fun a w hA=>⟨_,U2u (first 1) hA fun a w hA=>pcs p1_1 hA fun a w hA=>pcs p1_36 hA fun a w hA=>pcs p1_60 hA fun a w hA=>pcs p1_72 hA fun a w hA=>pcs p1_104 hA fun a w hA=>pcs p1_120 hA fun a w hA=>pcs p1_132 hA fun a w hA=>pcs p1_164 hA fun a w hA=>pcs p1_180 hA fun a w hA=>pcs p1_192 hA fun a w hA=>pcs p1_224 hA fun a w hA=>pcs p1_240 hA fun a w hA=>pcs p1_252 hA fun a w hA=>tls q1_t hA⟩
theorem case2 {x : Int} (hx : x % 20 = 2) (w0 : World) : Calls Tryz.prog 3 #[.int .i64 x] w0 fun e w1=>e = .returned (.bool true) ∧ Below w0.heap.size w0 w1 :=
 J1z (s:=2) (by decide) hx pre2 w0 fun a w hA=>⟨_,U2u (first 2) hA fun a w hA=>pcs p2_1 hA fun a w hA=>pcs p2_54 hA fun a w hA=>pcs p2_72 hA fun a w hA=>pcs p2_117 hA fun a w hA=>pcs p2_135 hA fun a w hA=>pcs p2_180 hA fun a w hA=>pcs p2_198 hA fun a w hA=>pcs p2_240 hA fun a w hA=>pcs p2_258 hA fun a w hA=>tls q2_t hA⟩
theorem case3 {x : Int} (hx : x % 20 = 3) (w0 : World) : Calls Tryz.prog 3 #[.int .i64 x] w0 fun e w1=>e = .returned (.bool true) ∧ Below w0.heap.size w0 w1 :=
 J1z (s:=3) (by decide) hx pre3 w0 fun a w hA=>⟨_,U2u (first 3) hA fun a w hA=>pcs p3_1 hA fun a w hA=>pcs p3_60 hA fun a w hA=>pcs p3_84 hA fun a w hA=>pcs p3_120 hA fun a w hA=>pcs p3_144 hA fun a w hA=>pcs p3_180 hA fun a w hA=>pcs p3_204 hA fun a w hA=>pcs p3_240 hA fun a w hA=>tls q3_t hA⟩
theorem case4 {x : Int} (hx : x % 20 = 4) (w0 : World) : Calls Tryz.prog 3 #[.int .i64 x] w0 fun e w1=>e = .returned (.bool true) ∧ Below w0.heap.size w0 w1 :=
 J1z (s:=4) (by decide) hx pre4 w0 fun a w hA=>⟨_,U2u (first 4) hA fun a w hA=>pcs p4_1 hA fun a w hA=>pcs p4_60 hA fun a w hA=>pcs p4_89 hA fun a w hA=>pcs p4_120 hA fun a w hA=>pcs p4_149 hA fun a w hA=>pcs p4_180 hA fun a w hA=>pcs p4_209 hA fun a w hA=>pcs p4_240 hA fun a w hA=>tls q4_t hA⟩
theorem case5 {x : Int} (hx : x % 20 = 5) (w0 : World) : Calls Tryz.prog 3 #[.int .i64 x] w0 fun e w1=>e = .returned (.bool true) ∧ Below w0.heap.size w0 w1 :=
 J1z (s:=5) (by decide) hx pre5 w0 fun a w hA=>⟨_,U2u (first 5) hA fun a w hA=>pcs p5_1 hA fun a w hA=>pcs p5_60 hA fun a w hA=>pcs p5_89 hA fun a w hA=>pcs p5_120 hA fun a w hA=>pcs p5_149 hA fun a w hA=>pcs p5_180 hA fun a w hA=>pcs p5_209 hA fun a w hA=>pcs p5_240 hA fun a w hA=>tls q5_t hA⟩
theorem case6 {x : Int} (hx : x % 20 = 6) (w0 : World) : Calls Tryz.prog 3 #[.int .i64 x] w0 fun e w1=>e = .returned (.bool true) ∧ Below w0.heap.size w0 w1 :=
 J1z (s:=6) (by decide) hx pre6 w0 fun a w hA=>⟨_,U2u (first 6) hA fun a w hA=>pcs p6_1 hA fun a w hA=>pcs p6_63 hA fun a w hA=>pcs p6_91 hA fun a w hA=>pcs p6_132 hA fun a w hA=>pcs p6_189 hA fun a w hA=>pcs p6_217 hA fun a w hA=>pcs p6_258 hA fun a w hA=>tls q6_t hA⟩
theorem case7 {x : Int} (hx : x % 20 = 7) (w0 : World) : Calls Tryz.prog 3 #[.int .i64 x] w0 fun e w1=>e = .returned (.bool true) ∧ Below w0.heap.size w0 w1 :=
 J1z (s:=7) (by decide) hx pre7 w0 fun a w hA=>⟨_,U2u (first 7) hA fun a w hA=>pcs p7_1 hA fun a w hA=>pcs p7_64 hA fun a w hA=>pcs p7_96 hA fun a w hA=>pcs p7_137 hA fun a w hA=>pcs p7_192 hA fun a w hA=>pcs p7_224 hA fun a w hA=>tls q7_t hA⟩
theorem case8 {x : Int} (hx : x % 20 = 8) (w0 : World) : Calls Tryz.prog 3 #[.int .i64 x] w0 fun e w1=>e = .returned (.bool true) ∧ Below w0.heap.size w0 w1 :=
 J1z (s:=8) (by decide) hx pre8 w0 fun a w hA=>⟨_,U2u (first 8) hA fun a w hA=>pcs p8_1 hA fun a w hA=>pcs p8_63 hA fun a w hA=>pcs p8_99 hA fun a w hA=>pcs p8_144 hA fun a w hA=>pcs p8_189 hA fun a w hA=>pcs p8_225 hA fun a w hA=>tls q8_t hA⟩
theorem case9 {x : Int} (hx : x % 20 = 9) (w0 : World) : Calls Tryz.prog 3 #[.int .i64 x] w0 fun e w1=>e = .returned (.bool true) ∧ Below w0.heap.size w0 w1 :=
 J1z (s:=9) (by decide) hx pre9 w0 fun a w hA=>⟨_,U2u (first 9) hA fun a w hA=>pcs p9_1 hA fun a w hA=>pcs p9_60 hA fun a w hA=>pcs p9_100 hA fun a w hA=>pcs p9_149 hA fun a w hA=>pcs p9_190 hA fun a w hA=>pcs p9_240 hA fun a w hA=>tls q9_t hA⟩
theorem case10 {x : Int} (hx : x % 20 = 10) (w0 : World) : Calls Tryz.prog 3 #[.int .i64 x] w0 fun e w1=>e = .returned (.bool true) ∧ Below w0.heap.size w0 w1 :=
 J1z (s:=10) (by decide) hx pre10 w0 fun a w hA=>⟨_,U2u (first 10) hA fun a w hA=>pcs p10_1 hA fun a w hA=>pcs p10_66 hA fun a w hA=>pcs Q6a hA fun a w hA=>pcs Q5z hA fun a w hA=>pcs Q5y hA fun a w hA=>tls q10_t hA⟩
theorem case11 {x : Int} (hx : x % 20 = 11) (w0 : World) : Calls Tryz.prog 3 #[.int .i64 x] w0 fun e w1=>e = .returned (.bool true) ∧ Below w0.heap.size w0 w1 :=
 J1z (s:=11) (by decide) hx pre11 w0 fun a w hA=>⟨_,U2u (first 11) hA fun a w hA=>pcs p11_1 hA fun a w hA=>pcs p11_72 hA fun a w hA=>pcs Q5x hA fun a w hA=>pcs Q5w hA fun a w hA=>pcs Q5v hA fun a w hA=>tls q11_t hA⟩
theorem case12 {x : Int} (hx : x % 20 = 12) (w0 : World) : Calls Tryz.prog 3 #[.int .i64 x] w0 fun e w1=>e = .returned (.bool true) ∧ Below w0.heap.size w0 w1 :=
 J1z (s:=12) (by decide) hx pre12 w0 fun a w hA=>⟨_,U2u (first 12) hA fun a w hA=>pcs p12_1 hA fun a w hA=>pcs p12_78 hA fun a w hA=>pcs Q5u hA fun a w hA=>pcs Q5t hA fun a w hA=>pcs Q5s hA fun a w hA=>tls q12_t hA⟩
theorem case13 {x : Int} (hx : x % 20 = 13) (w0 : World) : Calls Tryz.prog 3 #[.int .i64 x] w0 fun e w1=>e = .returned (.bool true) ∧ Below w0.heap.size w0 w1 :=
 J1z (s:=13) (by decide) hx pre13 w0 fun a w hA=>⟨_,U2u (first 13) hA fun a w hA=>pcs p13_1 hA fun a w hA=>pcs p13_80 hA fun a w hA=>pcs Q5r hA fun a w hA=>pcs Q5q hA fun a w hA=>pcs Q5p hA fun a w hA=>tls q13_t hA⟩
theorem case14 {x : Int} (hx : x % 20 = 14) (w0 : World) : Calls Tryz.prog 3 #[.int .i64 x] w0 fun e w1=>e = .returned (.bool true) ∧ Below w0.heap.size w0 w1 :=
 J1z (s:=14) (by decide) hx pre14 w0 fun a w hA=>⟨_,U2u (first 14) hA fun a w hA=>pcs p14_1 hA fun a w hA=>pcs p14_80 hA fun a w hA=>pcs Q5o hA fun a w hA=>pcs Q5n hA fun a w hA=>pcs Q5m hA fun a w hA=>tls q14_t hA⟩
theorem case15 {x : Int} (hx : x % 20 = 15) (w0 : World) : Calls Tryz.prog 3 #[.int .i64 x] w0 fun e w1=>e = .returned (.bool true) ∧ Below w0.heap.size w0 w1 :=
 J1z (s:=15) (by decide) hx pre15 w0 fun a w hA=>⟨_,U2u (first 15) hA fun a w hA=>pcs p15_1 hA fun a w hA=>pcs p15_80 hA fun a w hA=>pcs Q5l hA fun a w hA=>pcs Q5k hA fun a w hA=>pcs Q5j hA fun a w hA=>tls q15_t hA⟩
theorem case16 {x : Int} (hx : x % 20 = 16) (w0 : World) : Calls Tryz.prog 3 #[.int .i64 x] w0 fun e w1=>e = .returned (.bool true) ∧ Below w0.heap.size w0 w1 :=
 J1z (s:=16) (by decide) hx pre16 w0 fun a w hA=>⟨_,U2u (first 16) hA fun a w hA=>pcs p16_1 hA fun a w hA=>pcs p16_85 hA fun a w hA=>pcs Q5i hA fun a w hA=>pcs Q5h hA fun a w hA=>tls q16_t hA⟩
theorem case17 {x : Int} (hx : x % 20 = 17) (w0 : World) : Calls Tryz.prog 3 #[.int .i64 x] w0 fun e w1=>e = .returned (.bool true) ∧ Below w0.heap.size w0 w1 :=
 J1z (s:=17) (by decide) hx pre17 w0 fun a w hA=>⟨_,U2u (first 17) hA fun a w hA=>pcs p17_1 hA fun a w hA=>pcs p17_89 hA fun a w hA=>pcs Q5g hA fun a w hA=>pcs Q5f hA fun a w hA=>tls q17_t hA⟩
theorem case18 {x : Int} (hx : x % 20 = 18) (w0 : World) : Calls Tryz.prog 3 #[.int .i64 x] w0 fun e w1=>e = .returned (.bool true) ∧ Below w0.heap.size w0 w1 :=
 J1z (s:=18) (by decide) hx pre18 w0 fun a w hA=>⟨_,U2u (first 18) hA fun a w hA=>pcs p18_1 hA fun a w hA=>pcs p18_89 hA fun a w hA=>pcs Q5e hA fun a w hA=>pcs Q5d hA fun a w hA=>tls q18_t hA⟩
theorem case19 {x : Int} (hx : x % 20 = 19) (w0 : World) : Calls Tryz.prog 3 #[.int .i64 x] w0 fun e w1=>e = .returned (.bool true) ∧ Below w0.heap.size w0 w1 :=
 J1z (s:=19) (by decide) hx pre19 w0 fun a w hA=>⟨_,U2u (first 19) hA fun a w hA=>pcs p19_1 hA fun a w hA=>pcs p19_89 hA fun a w hA=>pcs Q5c hA fun a w hA=>pcs Q5b hA fun a w hA=>tls q19_t hA⟩
end Go.X
end
