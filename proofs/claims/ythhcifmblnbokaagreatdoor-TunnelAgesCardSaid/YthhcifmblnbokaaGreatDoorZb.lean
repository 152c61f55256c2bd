/- BLAKE2s, ChaCha20 and the keys out of keys on numbers, as the kernel reckons quickly. -/
import Derived.Test.YthhcifmblnbokaaGreatDoorZa
import Derived.Test.YthhcifmblnbokaaGreatDoorYc
set_option linter.all false
set_option maxRecDepth 100000
noncomputable section
namespace Go.X
open Go Go.RowKit Go.Proofs
def J4g (a b : Nat) : Nat:=Nat.mod (Nat.add a b) 4294967296
def rtN (x a b : Nat) : Nat:=Nat.add (Nat.div x a) (Nat.mul (Nat.mod x a) b)
structure WN where
 (w0 w1 w2 w3 w4 w5 w6 w7 w8 w9 w10 w11 w12 w13 w14 w15 : Nat)
structure HN where
 (h0 h1 h2 h3 h4 h5 h6 h7 : Nat)
def G4s {α : Type} (a b c d x y : Nat) (K : Nat → Nat → Nat → Nat → α) : α :=
 (fun a1=>(fun d1=>(fun c1=>(fun b1=>(fun a2=>(fun d2=>(fun c2=>K a2 (rtN (Nat.xor b1 c2) 128 33554432) c2 d2) (J4g c1 d2)) (rtN (Nat.xor d1 a2) 256 16777216)) (J4g (Nat.add a1 b1) y)) (rtN (Nat.xor b c1) 4096 1048576)) (J4g c d1)) (rtN (Nat.xor d a1) 65536 65536)) (J4g (Nat.add a b) x)
def brN {α : Type} (x v : WN) (K : WN → α) : α :=
 WN.rec (motive:=fun _=>α) (fun v0 v1 v2 v3 v4 v5 v6 v7 v8 v9 v10 v11 v12 v13 v14 v15=>G4s v0 v4 v8 v12 x.w0 x.w1 fun v0 v4 v8 v12=>G4s v1 v5 v9 v13 x.w2 x.w3 fun v1 v5 v9 v13=>G4s v2 v6 v10 v14 x.w4 x.w5 fun v2 v6 v10 v14=>G4s v3 v7 v11 v15 x.w6 x.w7 fun v3 v7 v11 v15=>G4s v0 v5 v10 v15 x.w8 x.w9 fun v0 v5 v10 v15=>G4s v1 v6 v11 v12 x.w10 x.w11 fun v1 v6 v11 v12=>G4s v2 v7 v8 v13 x.w12 x.w13 fun v2 v7 v8 v13=>G4s v3 v4 v9 v14 x.w14 x.w15 fun v3 v4 v9 v14=>K ⟨v0,v1,v2,v3,v4,v5,v6,v7,v8,v9,v10,v11,v12,v13,v14,v15⟩) v
def rsN {α : Type} (m v : WN) (K : WN → α) : α :=
 brN ⟨m.w0,m.w1,m.w2,m.w3,m.w4,m.w5,m.w6,m.w7,m.w8,m.w9,m.w10,m.w11,m.w12,m.w13,m.w14,m.w15⟩ v fun v=>brN ⟨m.w14,m.w10,m.w4,m.w8,m.w9,m.w15,m.w13,m.w6,m.w1,m.w12,m.w0,m.w2,m.w11,m.w7,m.w5,m.w3⟩ v fun v=>brN ⟨m.w11,m.w8,m.w12,m.w0,m.w5,m.w2,m.w15,m.w13,m.w10,m.w14,m.w3,m.w6,m.w7,m.w1,m.w9,m.w4⟩ v fun v=>brN ⟨m.w7,m.w9,m.w3,m.w1,m.w13,m.w12,m.w11,m.w14,m.w2,m.w6,m.w5,m.w10,m.w4,m.w0,m.w15,m.w8⟩ v fun v=>brN ⟨m.w9,m.w0,m.w5,m.w7,m.w2,m.w4,m.w10,m.w15,m.w14,m.w1,m.w11,m.w12,m.w6,m.w8,m.w3,m.w13⟩ v fun v=>brN ⟨m.w2,m.w12,m.w6,m.w10,m.w0,m.w11,m.w8,m.w3,m.w4,m.w13,m.w7,m.w5,m.w15,m.w14,m.w1,m.w9⟩ v fun v=>brN ⟨m.w12,m.w5,m.w1,m.w15,m.w14,m.w13,m.w4,m.w10,m.w0,m.w7,m.w6,m.w3,m.w9,m.w2,m.w8,m.w11⟩ v fun v=>brN ⟨m.w13,m.w11,m.w7,m.w14,m.w12,m.w1,m.w3,m.w9,m.w5,m.w0,m.w15,m.w4,m.w8,m.w6,m.w2,m.w10⟩ v fun v=>brN ⟨m.w6,m.w15,m.w14,m.w9,m.w11,m.w3,m.w0,m.w8,m.w12,m.w2,m.w13,m.w7,m.w1,m.w4,m.w10,m.w5⟩ v fun v=>brN ⟨m.w10,m.w2,m.w8,m.w4,m.w7,m.w6,m.w1,m.w5,m.w15,m.w11,m.w9,m.w14,m.w3,m.w12,m.w13,m.w0⟩ v fun v=>K v
def cpN {α : Type} (h : HN) (m : WN) (t : Nat) (last : Bool) (K : HN → α) : α :=
 rsN m ⟨h.h0,h.h1,h.h2,h.h3,h.h4,h.h5,h.h6,h.h7,1779033703,3144134277,1013904242,2773480762,Nat.xor 1359893119 (Nat.mod t 4294967296),Nat.xor 2600822924 (Nat.mod (Nat.div t 4294967296) 4294967296),Bool.rec 528734635 3766232660 last,1541459225⟩ fun v =>
  frc (Nat.xor h.h0 (Nat.xor v.w0 v.w8)) fun x0=>frc (Nat.xor h.h1 (Nat.xor v.w1 v.w9)) fun x1=>frc (Nat.xor h.h2 (Nat.xor v.w2 v.w10)) fun x2=>frc (Nat.xor h.h3 (Nat.xor v.w3 v.w11)) fun x3=>frc (Nat.xor h.h4 (Nat.xor v.w4 v.w12)) fun x4=>frc (Nat.xor h.h5 (Nat.xor v.w5 v.w13)) fun x5=>frc (Nat.xor h.h6 (Nat.xor v.w6 v.w14)) fun x6=>frc (Nat.xor h.h7 (Nat.xor v.w7 v.w15)) fun x7=>K ⟨x0,x1,x2,x3,x4,x5,x6,x7⟩
def ivN : HN:=⟨1795745351,3144134277,1013904242,2773480762,1359893119,2600822924,528734635,1541459225⟩
def wdN (n i : Nat) : Nat:=Nat.mod (Nat.shiftRight n i) 4294967296
def kiN (k : Nat) : WN:=⟨Nat.xor (wdN k 0) 909522486,Nat.xor (wdN k 32) 909522486,Nat.xor (wdN k 64) 909522486,Nat.xor (wdN k 96) 909522486,Nat.xor (wdN k 128) 909522486,Nat.xor (wdN k 160) 909522486,Nat.xor (wdN k 192) 909522486,Nat.xor (wdN k 224) 909522486,909522486,909522486,909522486,909522486,909522486,909522486,909522486,909522486⟩
def koN (k : Nat) : WN:=⟨Nat.xor (wdN k 0) 1549556828,Nat.xor (wdN k 32) 1549556828,Nat.xor (wdN k 64) 1549556828,Nat.xor (wdN k 96) 1549556828,Nat.xor (wdN k 128) 1549556828,Nat.xor (wdN k 160) 1549556828,Nat.xor (wdN k 192) 1549556828,Nat.xor (wdN k 224) 1549556828,1549556828,1549556828,1549556828,1549556828,1549556828,1549556828,1549556828,1549556828⟩
def hwN (h : HN) (x : Nat) : WN:=⟨h.h0,h.h1,h.h2,h.h3,h.h4,h.h5,h.h6,h.h7,x,0,0,0,0,0,0,0⟩
def mwN (m : Nat) : WN:=⟨wdN m 0,wdN m 32,wdN m 64,wdN m 96,wdN m 128,wdN m 160,wdN m 192,wdN m 224,0,0,0,0,0,0,0,0⟩
def oneW : WN:=⟨1,0,0,0,0,0,0,0,0,0,0,0,0,0,0,0⟩
def nmN (h : HN) : Nat:=Nat.add h.h0 (Nat.mul 4294967296 (Nat.add h.h1 (Nat.mul 4294967296 (Nat.add h.h2 (Nat.mul 4294967296 (Nat.add h.h3 (Nat.mul 4294967296 (Nat.add h.h4 (Nat.mul 4294967296 (Nat.add h.h5 (Nat.mul 4294967296 (Nat.add h.h6 (Nat.mul 4294967296 h.h7)))))))))))))
def exN {α : Type} (k m : Nat) (K : HN → α) : α:=cpN ivN (kiN k) 64 false fun i=>cpN i (mwN m) 96 true fun d=>cpN ivN (koN k) 64 false fun o=>cpN o (hwN d 0) 96 true K
def ex0N {α : Type} (k : Nat) (K : HN → α) : α:=cpN ivN (kiN k) 64 true fun d=>cpN ivN (koN k) 64 false fun o=>cpN o (hwN d 0) 96 true K
def twoN {α : Type} (p : HN) (K : HN → HN → α) : α :=
 frc (nmN p) fun k=>cpN ivN (kiN k) 64 false fun i=>cpN ivN (koN k) 64 false fun o=>cpN i oneW 65 true fun d=>cpN o (hwN d 0) 96 true fun a=>cpN i (hwN a 2) 97 true fun d=>cpN o (hwN d 0) 96 true fun b=>K a b
def thrN {α : Type} (p : HN) (K : HN → HN → HN → α) : α :=
 frc (nmN p) fun k=>cpN ivN (kiN k) 64 false fun i=>cpN ivN (koN k) 64 false fun o=>cpN i oneW 65 true fun d=>cpN o (hwN d 0) 96 true fun a=>cpN i (hwN a 2) 97 true fun d=>cpN o (hwN d 0) 96 true fun b=>cpN i (hwN b 3) 97 true fun d=>cpN o (hwN d 0) 96 true fun c=>K a b c
def hV (h : HN) : V:=.ag (frc (nmN h) (toV 32))
def qrN {α : Type} (a b c d : Nat) (K : Nat → Nat → Nat → Nat → α) : α :=
 (fun a1=>(fun d1=>(fun c1=>(fun b1=>(fun a2=>(fun d2=>(fun c2=>K a2 (rtN (Nat.xor b1 c2) 33554432 128) c2 d2) (J4g c1 d2)) (rtN (Nat.xor d1 a2) 16777216 256)) (J4g a1 b1)) (rtN (Nat.xor b c1) 1048576 4096)) (J4g c d1)) (rtN (Nat.xor d a1) 65536 65536)) (J4g a b)
def drN {α : Type} (v : WN) (K : WN → α) : α:=WN.rec (motive:=fun _=>α) (fun v0 v1 v2 v3 v4 v5 v6 v7 v8 v9 v10 v11 v12 v13 v14 v15=>qrN v0 v4 v8 v12 fun v0 v4 v8 v12=>qrN v1 v5 v9 v13 fun v1 v5 v9 v13=>qrN v2 v6 v10 v14 fun v2 v6 v10 v14=>qrN v3 v7 v11 v15 fun v3 v7 v11 v15=>qrN v0 v5 v10 v15 fun v0 v5 v10 v15=>qrN v1 v6 v11 v12 fun v1 v6 v11 v12=>qrN v2 v7 v8 v13 fun v2 v7 v8 v13=>qrN v3 v4 v9 v14 fun v3 v4 v9 v14=>K ⟨v0,v1,v2,v3,v4,v5,v6,v7,v8,v9,v10,v11,v12,v13,v14,v15⟩) v
def rdN {α : Type} (v : WN) (K : WN → α) : α:=drN v fun v=>drN v fun v=>drN v fun v=>drN v fun v=>drN v fun v=>drN v fun v=>drN v fun v=>drN v fun v=>drN v fun v=>drN v fun v=>K v
def G6f (k c n : Nat) : WN:=⟨1634760805,857760878,2036477234,1797285236,wdN k 0,wdN k 32,wdN k 64,wdN k 96,wdN k 128,wdN k 160,wdN k 192,wdN k 224,c,wdN n 0,wdN n 32,wdN n 64⟩
def blN (s v : WN) : Nat:=Nat.add (J4g v.w0 s.w0) (Nat.mul 4294967296 (Nat.add (J4g v.w1 s.w1) (Nat.mul 4294967296 (Nat.add (J4g v.w2 s.w2) (Nat.mul 4294967296 (Nat.add (J4g v.w3 s.w3) (Nat.mul 4294967296 (Nat.add (J4g v.w4 s.w4) (Nat.mul 4294967296 (Nat.add (J4g v.w5 s.w5) (Nat.mul 4294967296 (Nat.add (J4g v.w6 s.w6) (Nat.mul 4294967296 (Nat.add (J4g v.w7 s.w7) (Nat.mul 4294967296 (Nat.add (J4g v.w8 s.w8) (Nat.mul 4294967296 (Nat.add (J4g v.w9 s.w9) (Nat.mul 4294967296 (Nat.add (J4g v.w10 s.w10) (Nat.mul 4294967296 (Nat.add (J4g v.w11 s.w11) (Nat.mul 4294967296 (Nat.add (J4g v.w12 s.w12) (Nat.mul 4294967296 (Nat.add (J4g v.w13 s.w13) (Nat.mul 4294967296 (Nat.add (J4g v.w14 s.w14) (Nat.mul 4294967296 (J4g v.w15 s.w15))))))))))))))))))))))))))))))
def blkN (k c n : Nat) : Nat:=(fun s=>rdN s fun v=>blN s v) (G6f k c n)
def blkG (vs : List V) : Option V :=
 match vs with
 | [.ag k,.i .u32 (.ofNat c),.ag n]=>Bool.rec none (some (.ag (frc (leV k) fun k=>frc (leV n) fun n=>frc (blkN k c n) (toV 64)))) (U1m 32 k && (U1m 12 n && Nat.ble c 4294967295))
 | _=>none
end Go.X
namespace Go.X
open Go Go.RowKit Go.Proofs
theorem J0u (a b : Nat) : J4c (.ofNat a) (.ofNat b) = .ofNat ((a + b) % 4294967296):=J5u .u32 (a + b) rfl
theorem J0r {a b : Nat} (ha : a < 4294967296) (hb : b < 4294967296) : J6e (.ofNat a) (.ofNat b) = .ofNat (a ^^^ b) :=
 J1q (op:=.xor) (k:=.u32) (by show a ≤ 4294967295; omega) (by show b ≤ 4294967295; omega)
theorem J0l {a b : Nat} (ha : a < 4294967296) (hb : b < 4294967296) : a ^^^ b < 4294967296:=Nat.xor_lt_two_pow (n:=32) ha hb
theorem J2y {a b : Nat} (ha : a < 4294967296) (hb : b < 4294967296) : orW (.ofNat a) (.ofNat b) = .ofNat (a ||| b) :=
 J1q (op:=.or) (k:=.u32) (by show a ≤ 4294967295; omega) (by show b ≤ 4294967295; omega)
theorem J2b {a n : Nat} (hn : n ≤ 32) : Q4l (.ofNat a) n = .ofNat ((a <<< n) % 4294967296):=by
 have e : Q4l (.ofNat a) n = wrY .u32 (.ofNat (a <<< n)):=J8y (k:=.u32) hn
 rw [e]; exact J5u .u32 _ rfl
theorem J3h {a n : Nat} (hn : n ≤ 32) : Q4j (.ofNat a) n = .ofNat (a >>> n):=J6i (k:=.u32) hn
theorem J4d (a b : Nat) : J4g a b < 4294967296:=Nat.mod_lt _ (by decide)
theorem J6a (a b : Nat) : J4g a b = (a + b) % 4294967296:=rfl
theorem addW3 (a b x : Nat) : J4c (.ofNat a) (J4c (.ofNat b) (.ofNat x)) = .ofNat (J4g (Nat.add a b) x):=by
 rw [J0u,J0u,J6a]
 have e : (a + (b + x) % 4294967296) % 4294967296 = (Nat.add a b + x) % 4294967296:=by
  rw [show Nat.add a b = a + b from rfl]; omega
 rw [e]
theorem J3i (x a b : Nat) : rtN x a b = x / a + x % a * b:=rfl
theorem rot16 {a : Nat} (ha : a < 4294967296) : U1q (.ofNat a) 16 16 = .ofNat (rtN a 65536 65536) ∧ rtN a 65536 65536 < 4294967296:=by
 have h2 : rtN a 65536 65536 < 4294967296:=by rw [J3i]; omega
 refine ⟨?_,h2⟩
 unfold U1q
 rw [J2b (by omega),J3h (by omega),Nat.shiftLeft_eq,Nat.shiftRight_eq_div_pow]
 have e1 : a * 2 ^ 16 % 4294967296 = (a % 65536) * 2 ^ 16:=by omega
 have e2 : a / 2 ^ 16 < 2 ^ 16:=by omega
 rw [e1,J2y (by omega) (by omega),← Nat.shiftLeft_eq,← Nat.shiftLeft_add_eq_or_of_lt e2,Nat.shiftLeft_eq,J3i]
 congr 1
 omega
theorem rot20 {a : Nat} (ha : a < 4294967296) : U1q (.ofNat a) 20 12 = .ofNat (rtN a 4096 1048576) ∧ rtN a 4096 1048576 < 4294967296:=by
 have h2 : rtN a 4096 1048576 < 4294967296:=by rw [J3i]; omega
 refine ⟨?_,h2⟩
 unfold U1q
 rw [J2b (by omega),J3h (by omega),Nat.shiftLeft_eq,Nat.shiftRight_eq_div_pow]
 have e1 : a * 2 ^ 20 % 4294967296 = (a % 4096) * 2 ^ 20:=by omega
 have e2 : a / 2 ^ 12 < 2 ^ 20:=by omega
 rw [e1,J2y (by omega) (by omega),← Nat.shiftLeft_eq,← Nat.shiftLeft_add_eq_or_of_lt e2,Nat.shiftLeft_eq,J3i]
 congr 1
 omega
theorem rot24 {a : Nat} (ha : a < 4294967296) : U1q (.ofNat a) 24 8 = .ofNat (rtN a 256 16777216) ∧ rtN a 256 16777216 < 4294967296:=by
 have h2 : rtN a 256 16777216 < 4294967296:=by rw [J3i]; omega
 refine ⟨?_,h2⟩
 unfold U1q
 rw [J2b (by omega),J3h (by omega),Nat.shiftLeft_eq,Nat.shiftRight_eq_div_pow]
 have e1 : a * 2 ^ 24 % 4294967296 = (a % 256) * 2 ^ 24:=by omega
 have e2 : a / 2 ^ 8 < 2 ^ 24:=by omega
 rw [e1,J2y (by omega) (by omega),← Nat.shiftLeft_eq,← Nat.shiftLeft_add_eq_or_of_lt e2,Nat.shiftLeft_eq,J3i]
 congr 1
 omega
theorem rot25 {a : Nat} (ha : a < 4294967296) : U1q (.ofNat a) 25 7 = .ofNat (rtN a 128 33554432) ∧ rtN a 128 33554432 < 4294967296:=by
 have h2 : rtN a 128 33554432 < 4294967296:=by rw [J3i]; omega
 refine ⟨?_,h2⟩
 unfold U1q
 rw [J2b (by omega),J3h (by omega),Nat.shiftLeft_eq,Nat.shiftRight_eq_div_pow]
 have e1 : a * 2 ^ 25 % 4294967296 = (a % 128) * 2 ^ 25:=by omega
 have e2 : a / 2 ^ 7 < 2 ^ 25:=by omega
 rw [e1,J2y (by omega) (by omega),← Nat.shiftLeft_eq,← Nat.shiftLeft_add_eq_or_of_lt e2,Nat.shiftLeft_eq,J3i]
 congr 1
 omega
theorem rot12 {a : Nat} (ha : a < 4294967296) : U1q (.ofNat a) 12 20 = .ofNat (rtN a 1048576 4096) ∧ rtN a 1048576 4096 < 4294967296:=by
 have h2 : rtN a 1048576 4096 < 4294967296:=by rw [J3i]; omega
 refine ⟨?_,h2⟩
 unfold U1q
 rw [J2b (by omega),J3h (by omega),Nat.shiftLeft_eq,Nat.shiftRight_eq_div_pow]
 have e1 : a * 2 ^ 12 % 4294967296 = (a % 1048576) * 2 ^ 12:=by omega
 have e2 : a / 2 ^ 20 < 2 ^ 12:=by omega
 rw [e1,J2y (by omega) (by omega),← Nat.shiftLeft_eq,← Nat.shiftLeft_add_eq_or_of_lt e2,Nat.shiftLeft_eq,J3i]
 congr 1
 omega
theorem rot8 {a : Nat} (ha : a < 4294967296) : U1q (.ofNat a) 8 24 = .ofNat (rtN a 16777216 256) ∧ rtN a 16777216 256 < 4294967296:=by
 have h2 : rtN a 16777216 256 < 4294967296:=by rw [J3i]; omega
 refine ⟨?_,h2⟩
 unfold U1q
 rw [J2b (by omega),J3h (by omega),Nat.shiftLeft_eq,Nat.shiftRight_eq_div_pow]
 have e1 : a * 2 ^ 8 % 4294967296 = (a % 16777216) * 2 ^ 8:=by omega
 have e2 : a / 2 ^ 24 < 2 ^ 8:=by omega
 rw [e1,J2y (by omega) (by omega),← Nat.shiftLeft_eq,← Nat.shiftLeft_add_eq_or_of_lt e2,Nat.shiftLeft_eq,J3i]
 congr 1
 omega
theorem rot7 {a : Nat} (ha : a < 4294967296) : U1q (.ofNat a) 7 25 = .ofNat (rtN a 33554432 128) ∧ rtN a 33554432 128 < 4294967296:=by
 have h2 : rtN a 33554432 128 < 4294967296:=by rw [J3i]; omega
 refine ⟨?_,h2⟩
 unfold U1q
 rw [J2b (by omega),J3h (by omega),Nat.shiftLeft_eq,Nat.shiftRight_eq_div_pow]
 have e1 : a * 2 ^ 7 % 4294967296 = (a % 33554432) * 2 ^ 7:=by omega
 have e2 : a / 2 ^ 25 < 2 ^ 7:=by omega
 rw [e1,J2y (by omega) (by omega),← Nat.shiftLeft_eq,← Nat.shiftLeft_add_eq_or_of_lt e2,Nat.shiftLeft_eq,J3i]
 congr 1
 omega
theorem J8l {a b c d x y : Nat} (ha : a < 4294967296) (hb : b < 4294967296) (hc : c < 4294967296) (hd : d < 4294967296) (hx : x < 4294967296) (hy : y < 4294967296) : ∃ a' b' c' d',(a' < 4294967296 ∧ b' < 4294967296 ∧ c' < 4294967296 ∧ d' < 4294967296) ∧ (∀ {α : Type} (K : Int → Int → Int → Int → α),G4t (.ofNat a) (.ofNat b) (.ofNat c) (.ofNat d) (.ofNat x) (.ofNat y) K = K (.ofNat a') (.ofNat b') (.ofNat c') (.ofNat d')) ∧ (∀ {α : Type} (K : Nat → Nat → Nat → Nat → α),G4s a b c d x y K = K a' b' c' d'):=by
 generalize e1 : J4g (Nat.add a b) x = a1
 have k1 : a1 < 4294967296:=by rw [← e1]; exact J4d _ _
 obtain ⟨r1,q1⟩:=rot16 (J0l hd k1)
 generalize e2 : (rtN (d ^^^ a1) 65536 65536) = d1 at r1 q1
 generalize e3 : J4g c d1 = c1
 have k3 : c1 < 4294967296:=by rw [← e3]; exact J4d _ _
 obtain ⟨r2,q2⟩:=rot20 (J0l hb k3)
 generalize e4 : (rtN (b ^^^ c1) 4096 1048576) = b1 at r2 q2
 generalize e5 : J4g (Nat.add a1 b1) y = a2
 have k5 : a2 < 4294967296:=by rw [← e5]; exact J4d _ _
 obtain ⟨r3,q3⟩:=rot24 (J0l q1 k5)
 generalize e6 : (rtN (d1 ^^^ a2) 256 16777216) = d2 at r3 q3
 generalize e7 : J4g c1 d2 = c2
 have k7 : c2 < 4294967296:=by rw [← e7]; exact J4d _ _
 obtain ⟨r4,q4⟩:=rot25 (J0l q2 k7)
 generalize e8 : (rtN (b1 ^^^ c2) 128 33554432) = b2 at r4 q4
 refine ⟨a2,b2,c2,d2,⟨k5,q4,k7,q3⟩,fun K=>?_,fun K=>?_⟩
 ·unfold G4t
  simp only
  have f1 : J4c (.ofNat a) (J4c (.ofNat b) (.ofNat x)) = .ofNat a1:=by rw [← e1]; exact addW3 a b x
  have f5 : J4c (.ofNat a1) (J4c (.ofNat b1) (.ofNat y)) = .ofNat a2:=by rw [← e5]; exact addW3 a1 b1 y
  have f3 : J4c (.ofNat c) (.ofNat d1) = .ofNat c1:=by rw [J0u,← e3,J6a]
  have f7 : J4c (.ofNat c1) (.ofNat d2) = .ofNat c2:=by rw [J0u,← e7,J6a]
  rw [f1,J0r hd k1,r1,f3,J0r hb k3,r2,f5,J0r q1 k5,r3,f7,J0r q2 k7,r4]
 ·unfold G4s
  simp only
  have g2 : (rtN (Nat.xor d a1) 65536 65536) = d1:=e2
  have g4 : (rtN (Nat.xor b c1) 4096 1048576) = b1:=e4
  have g6 : (rtN (Nat.xor d1 a2) 256 16777216) = d2:=e6
  have g8 : (rtN (Nat.xor b1 c2) 128 33554432) = b2:=e8
  rw [e1,g2,e3,g4,e5,g6,e7,g8]
theorem U6k {a b c d : Nat} (ha : a < 4294967296) (hb : b < 4294967296) (hc : c < 4294967296) (hd : d < 4294967296) : ∃ a' b' c' d',(a' < 4294967296 ∧ b' < 4294967296 ∧ c' < 4294967296 ∧ d' < 4294967296) ∧ (∀ {α : Type} (K : Int → Int → Int → Int → α),qrI (.ofNat a) (.ofNat b) (.ofNat c) (.ofNat d) K = K (.ofNat a') (.ofNat b') (.ofNat c') (.ofNat d')) ∧ (∀ {α : Type} (K : Nat → Nat → Nat → Nat → α),qrN a b c d K = K a' b' c' d'):=by
 generalize e1 : J4g a b = a1
 have k1 : a1 < 4294967296:=by rw [← e1]; exact J4d _ _
 obtain ⟨r1,q1⟩:=rot16 (J0l hd k1)
 generalize e2 : (rtN (d ^^^ a1) 65536 65536) = d1 at r1 q1
 generalize e3 : J4g c d1 = c1
 have k3 : c1 < 4294967296:=by rw [← e3]; exact J4d _ _
 obtain ⟨r2,q2⟩:=rot12 (J0l hb k3)
 generalize e4 : (rtN (b ^^^ c1) 1048576 4096) = b1 at r2 q2
 generalize e5 : J4g a1 b1 = a2
 have k5 : a2 < 4294967296:=by rw [← e5]; exact J4d _ _
 obtain ⟨r3,q3⟩:=rot8 (J0l q1 k5)
 generalize e6 : (rtN (d1 ^^^ a2) 16777216 256) = d2 at r3 q3
 generalize e7 : J4g c1 d2 = c2
 have k7 : c2 < 4294967296:=by rw [← e7]; exact J4d _ _
 obtain ⟨r4,q4⟩:=rot7 (J0l q2 k7)
 generalize e8 : (rtN (b1 ^^^ c2) 33554432 128) = b2 at r4 q4
 refine ⟨a2,b2,c2,d2,⟨k5,q4,k7,q3⟩,fun K=>?_,fun K=>?_⟩
 ·unfold qrI
  simp only
  have f1 : J4c (.ofNat a) (.ofNat b) = .ofNat a1:=by rw [J0u,← e1,J6a]
  have f5 : J4c (.ofNat a1) (.ofNat b1) = .ofNat a2:=by rw [J0u,← e5,J6a]
  have f3 : J4c (.ofNat c) (.ofNat d1) = .ofNat c1:=by rw [J0u,← e3,J6a]
  have f7 : J4c (.ofNat c1) (.ofNat d2) = .ofNat c2:=by rw [J0u,← e7,J6a]
  rw [f1,J0r hd k1,r1,f3,J0r hb k3,r2,f5,J0r q1 k5,r3,f7,J0r q2 k7,r4]
 ·unfold qrN
  simp only
  have g2 : (rtN (Nat.xor d a1) 65536 65536) = d1:=e2
  have g4 : (rtN (Nat.xor b c1) 1048576 4096) = b1:=e4
  have g6 : (rtN (Nat.xor d1 a2) 16777216 256) = d2:=e6
  have g8 : (rtN (Nat.xor b1 c2) 33554432 128) = b2:=e8
  rw [e1,g2,e3,g4,e5,g6,e7,g8]
def WN.i (n : WN) : WI:=⟨.ofNat n.w0,.ofNat n.w1,.ofNat n.w2,.ofNat n.w3,.ofNat n.w4,.ofNat n.w5,.ofNat n.w6,.ofNat n.w7,.ofNat n.w8,.ofNat n.w9,.ofNat n.w10,.ofNat n.w11,.ofNat n.w12,.ofNat n.w13,.ofNat n.w14,.ofNat n.w15⟩
structure WN.ok (n : WN) : Prop where
 k0 : n.w0 < 4294967296
 k1 : n.w1 < 4294967296
 k2 : n.w2 < 4294967296
 k3 : n.w3 < 4294967296
 k4 : n.w4 < 4294967296
 k5 : n.w5 < 4294967296
 k6 : n.w6 < 4294967296
 k7 : n.w7 < 4294967296
 k8 : n.w8 < 4294967296
 k9 : n.w9 < 4294967296
 k10 : n.w10 < 4294967296
 k11 : n.w11 < 4294967296
 k12 : n.w12 < 4294967296
 k13 : n.w13 < 4294967296
 k14 : n.w14 < 4294967296
 k15 : n.w15 < 4294967296
def HN.i (n : HN) : HI:=⟨.ofNat n.h0,.ofNat n.h1,.ofNat n.h2,.ofNat n.h3,.ofNat n.h4,.ofNat n.h5,.ofNat n.h6,.ofNat n.h7⟩
structure HN.ok (n : HN) : Prop where
 k0 : n.h0 < 4294967296
 k1 : n.h1 < 4294967296
 k2 : n.h2 < 4294967296
 k3 : n.h3 < 4294967296
 k4 : n.h4 < 4294967296
 k5 : n.h5 < 4294967296
 k6 : n.h6 < 4294967296
 k7 : n.h7 < 4294967296
theorem U2h {x v : WN} (hx : x.ok) (hv : v.ok) : ∃ v' : WN,v'.ok ∧ brI x.i v.i = v'.i ∧ ∀ {α : Type} (K : WN → α),brN x v K = K v':=by
 obtain ⟨v0,v1,v2,v3,v4,v5,v6,v7,v8,v9,v10,v11,v12,v13,v14,v15⟩:=v
 obtain ⟨m0,m1,m2,m3,m4,m5,m6,m7,m8,m9,m10,m11,m12,m13,m14,m15⟩:=x
 obtain ⟨hv0,hv1,hv2,hv3,hv4,hv5,hv6,hv7,hv8,hv9,hv10,hv11,hv12,hv13,hv14,hv15⟩:=hv
 obtain ⟨hm0,hm1,hm2,hm3,hm4,hm5,hm6,hm7,hm8,hm9,hm10,hm11,hm12,hm13,hm14,hm15⟩:=hx
 simp only at *
 obtain ⟨y0_0,y0_1,y0_2,y0_3,⟨hy0_0,hy0_1,hy0_2,hy0_3⟩,I0,N0⟩:=J8l hv0 hv4 hv8 hv12 hm0 hm1
 obtain ⟨y1_0,y1_1,y1_2,y1_3,⟨hy1_0,hy1_1,hy1_2,hy1_3⟩,I1,N1⟩:=J8l hv1 hv5 hv9 hv13 hm2 hm3
 obtain ⟨y2_0,y2_1,y2_2,y2_3,⟨hy2_0,hy2_1,hy2_2,hy2_3⟩,I2,N2⟩:=J8l hv2 hv6 hv10 hv14 hm4 hm5
 obtain ⟨y3_0,y3_1,y3_2,y3_3,⟨hy3_0,hy3_1,hy3_2,hy3_3⟩,I3,N3⟩:=J8l hv3 hv7 hv11 hv15 hm6 hm7
 obtain ⟨y4_0,y4_1,y4_2,y4_3,⟨hy4_0,hy4_1,hy4_2,hy4_3⟩,I4,N4⟩:=J8l hy0_0 hy1_1 hy2_2 hy3_3 hm8 hm9
 obtain ⟨y5_0,y5_1,y5_2,y5_3,⟨hy5_0,hy5_1,hy5_2,hy5_3⟩,I5,N5⟩:=J8l hy1_0 hy2_1 hy3_2 hy0_3 hm10 hm11
 obtain ⟨y6_0,y6_1,y6_2,y6_3,⟨hy6_0,hy6_1,hy6_2,hy6_3⟩,I6,N6⟩:=J8l hy2_0 hy3_1 hy0_2 hy1_3 hm12 hm13
 obtain ⟨y7_0,y7_1,y7_2,y7_3,⟨hy7_0,hy7_1,hy7_2,hy7_3⟩,I7,N7⟩:=J8l hy3_0 hy0_1 hy1_2 hy2_3 hm14 hm15
 refine ⟨⟨y4_0,y5_0,y6_0,y7_0,y7_1,y4_1,y5_1,y6_1,y6_2,y7_2,y4_2,y5_2,y5_3,y6_3,y7_3,y4_3⟩,⟨hy4_0,hy5_0,hy6_0,hy7_0,hy7_1,hy4_1,hy5_1,hy6_1,hy6_2,hy7_2,hy4_2,hy5_2,hy5_3,hy6_3,hy7_3,hy4_3⟩,?_,fun K=>?_⟩
 ·unfold brI WN.i
  simp only
  rw [I0,I1,I2,I3,I4,I5,I6,I7]
 ·simp only [brN]
  rw [N0,N1,N2,N3,N4,N5,N6,N7]
theorem U2e {v : WN} (hv : v.ok) : ∃ v' : WN,v'.ok ∧ drI v.i = v'.i ∧ ∀ {α : Type} (K : WN → α),drN v K = K v':=by
 obtain ⟨v0,v1,v2,v3,v4,v5,v6,v7,v8,v9,v10,v11,v12,v13,v14,v15⟩:=v
 obtain ⟨hv0,hv1,hv2,hv3,hv4,hv5,hv6,hv7,hv8,hv9,hv10,hv11,hv12,hv13,hv14,hv15⟩:=hv
 simp only at *
 obtain ⟨y0_0,y0_1,y0_2,y0_3,⟨hy0_0,hy0_1,hy0_2,hy0_3⟩,I0,N0⟩:=U6k hv0 hv4 hv8 hv12
 obtain ⟨y1_0,y1_1,y1_2,y1_3,⟨hy1_0,hy1_1,hy1_2,hy1_3⟩,I1,N1⟩:=U6k hv1 hv5 hv9 hv13
 obtain ⟨y2_0,y2_1,y2_2,y2_3,⟨hy2_0,hy2_1,hy2_2,hy2_3⟩,I2,N2⟩:=U6k hv2 hv6 hv10 hv14
 obtain ⟨y3_0,y3_1,y3_2,y3_3,⟨hy3_0,hy3_1,hy3_2,hy3_3⟩,I3,N3⟩:=U6k hv3 hv7 hv11 hv15
 obtain ⟨y4_0,y4_1,y4_2,y4_3,⟨hy4_0,hy4_1,hy4_2,hy4_3⟩,I4,N4⟩:=U6k hy0_0 hy1_1 hy2_2 hy3_3
 obtain ⟨y5_0,y5_1,y5_2,y5_3,⟨hy5_0,hy5_1,hy5_2,hy5_3⟩,I5,N5⟩:=U6k hy1_0 hy2_1 hy3_2 hy0_3
 obtain ⟨y6_0,y6_1,y6_2,y6_3,⟨hy6_0,hy6_1,hy6_2,hy6_3⟩,I6,N6⟩:=U6k hy2_0 hy3_1 hy0_2 hy1_3
 obtain ⟨y7_0,y7_1,y7_2,y7_3,⟨hy7_0,hy7_1,hy7_2,hy7_3⟩,I7,N7⟩:=U6k hy3_0 hy0_1 hy1_2 hy2_3
 refine ⟨⟨y4_0,y5_0,y6_0,y7_0,y7_1,y4_1,y5_1,y6_1,y6_2,y7_2,y4_2,y5_2,y5_3,y6_3,y7_3,y4_3⟩,⟨hy4_0,hy5_0,hy6_0,hy7_0,hy7_1,hy4_1,hy5_1,hy6_1,hy6_2,hy7_2,hy4_2,hy5_2,hy5_3,hy6_3,hy7_3,hy4_3⟩,?_,fun K=>?_⟩
 ·unfold drI WN.i
  simp only
  rw [I0,I1,I2,I3,I4,I5,I6,I7]
 ·simp only [drN]
  rw [N0,N1,N2,N3,N4,N5,N6,N7]
theorem rs_ok {m v : WN} (hm : m.ok) (hv : v.ok) : ∃ v' : WN,v'.ok ∧ rsI m.i v.i = v'.i ∧ ∀ {α : Type} (K : WN → α),rsN m v K = K v':=by
 obtain ⟨v0,hv0,I0,N0⟩:=U2h (x:=⟨m.w0,m.w1,m.w2,m.w3,m.w4,m.w5,m.w6,m.w7,m.w8,m.w9,m.w10,m.w11,m.w12,m.w13,m.w14,m.w15⟩) ⟨hm.k0,hm.k1,hm.k2,hm.k3,hm.k4,hm.k5,hm.k6,hm.k7,hm.k8,hm.k9,hm.k10,hm.k11,hm.k12,hm.k13,hm.k14,hm.k15⟩ hv
 obtain ⟨v1,hv1,I1,N1⟩:=U2h (x:=⟨m.w14,m.w10,m.w4,m.w8,m.w9,m.w15,m.w13,m.w6,m.w1,m.w12,m.w0,m.w2,m.w11,m.w7,m.w5,m.w3⟩) ⟨hm.k14,hm.k10,hm.k4,hm.k8,hm.k9,hm.k15,hm.k13,hm.k6,hm.k1,hm.k12,hm.k0,hm.k2,hm.k11,hm.k7,hm.k5,hm.k3⟩ hv0
 obtain ⟨v2,hv2,I2,N2⟩:=U2h (x:=⟨m.w11,m.w8,m.w12,m.w0,m.w5,m.w2,m.w15,m.w13,m.w10,m.w14,m.w3,m.w6,m.w7,m.w1,m.w9,m.w4⟩) ⟨hm.k11,hm.k8,hm.k12,hm.k0,hm.k5,hm.k2,hm.k15,hm.k13,hm.k10,hm.k14,hm.k3,hm.k6,hm.k7,hm.k1,hm.k9,hm.k4⟩ hv1
 obtain ⟨v3,hv3,I3,N3⟩:=U2h (x:=⟨m.w7,m.w9,m.w3,m.w1,m.w13,m.w12,m.w11,m.w14,m.w2,m.w6,m.w5,m.w10,m.w4,m.w0,m.w15,m.w8⟩) ⟨hm.k7,hm.k9,hm.k3,hm.k1,hm.k13,hm.k12,hm.k11,hm.k14,hm.k2,hm.k6,hm.k5,hm.k10,hm.k4,hm.k0,hm.k15,hm.k8⟩ hv2
 obtain ⟨v4,hv4,I4,N4⟩:=U2h (x:=⟨m.w9,m.w0,m.w5,m.w7,m.w2,m.w4,m.w10,m.w15,m.w14,m.w1,m.w11,m.w12,m.w6,m.w8,m.w3,m.w13⟩) ⟨hm.k9,hm.k0,hm.k5,hm.k7,hm.k2,hm.k4,hm.k10,hm.k15,hm.k14,hm.k1,hm.k11,hm.k12,hm.k6,hm.k8,hm.k3,hm.k13⟩ hv3
 obtain ⟨v5,hv5,I5,N5⟩:=U2h (x:=⟨m.w2,m.w12,m.w6,m.w10,m.w0,m.w11,m.w8,m.w3,m.w4,m.w13,m.w7,m.w5,m.w15,m.w14,m.w1,m.w9⟩) ⟨hm.k2,hm.k12,hm.k6,hm.k10,hm.k0,hm.k11,hm.k8,hm.k3,hm.k4,hm.k13,hm.k7,hm.k5,hm.k15,hm.k14,hm.k1,hm.k9⟩ hv4
 obtain ⟨v6,hv6,I6,N6⟩:=U2h (x:=⟨m.w12,m.w5,m.w1,m.w15,m.w14,m.w13,m.w4,m.w10,m.w0,m.w7,m.w6,m.w3,m.w9,m.w2,m.w8,m.w11⟩) ⟨hm.k12,hm.k5,hm.k1,hm.k15,hm.k14,hm.k13,hm.k4,hm.k10,hm.k0,hm.k7,hm.k6,hm.k3,hm.k9,hm.k2,hm.k8,hm.k11⟩ hv5
 obtain ⟨v7,hv7,I7,N7⟩:=U2h (x:=⟨m.w13,m.w11,m.w7,m.w14,m.w12,m.w1,m.w3,m.w9,m.w5,m.w0,m.w15,m.w4,m.w8,m.w6,m.w2,m.w10⟩) ⟨hm.k13,hm.k11,hm.k7,hm.k14,hm.k12,hm.k1,hm.k3,hm.k9,hm.k5,hm.k0,hm.k15,hm.k4,hm.k8,hm.k6,hm.k2,hm.k10⟩ hv6
 obtain ⟨v8,hv8,I8,N8⟩:=U2h (x:=⟨m.w6,m.w15,m.w14,m.w9,m.w11,m.w3,m.w0,m.w8,m.w12,m.w2,m.w13,m.w7,m.w1,m.w4,m.w10,m.w5⟩) ⟨hm.k6,hm.k15,hm.k14,hm.k9,hm.k11,hm.k3,hm.k0,hm.k8,hm.k12,hm.k2,hm.k13,hm.k7,hm.k1,hm.k4,hm.k10,hm.k5⟩ hv7
 obtain ⟨v9,hv9,I9,N9⟩:=U2h (x:=⟨m.w10,m.w2,m.w8,m.w4,m.w7,m.w6,m.w1,m.w5,m.w15,m.w11,m.w9,m.w14,m.w3,m.w12,m.w13,m.w0⟩) ⟨hm.k10,hm.k2,hm.k8,hm.k4,hm.k7,hm.k6,hm.k1,hm.k5,hm.k15,hm.k11,hm.k9,hm.k14,hm.k3,hm.k12,hm.k13,hm.k0⟩ hv8
 refine ⟨v9,hv9,?_,fun K=>?_⟩
 ·unfold rsI
  have J0 : brI ⟨m.i.w0,m.i.w1,m.i.w2,m.i.w3,m.i.w4,m.i.w5,m.i.w6,m.i.w7,m.i.w8,m.i.w9,m.i.w10,m.i.w11,m.i.w12,m.i.w13,m.i.w14,m.i.w15⟩ v.i = v0.i:=I0
  have J1 : brI ⟨m.i.w14,m.i.w10,m.i.w4,m.i.w8,m.i.w9,m.i.w15,m.i.w13,m.i.w6,m.i.w1,m.i.w12,m.i.w0,m.i.w2,m.i.w11,m.i.w7,m.i.w5,m.i.w3⟩ v0.i = v1.i:=I1
  have J2 : brI ⟨m.i.w11,m.i.w8,m.i.w12,m.i.w0,m.i.w5,m.i.w2,m.i.w15,m.i.w13,m.i.w10,m.i.w14,m.i.w3,m.i.w6,m.i.w7,m.i.w1,m.i.w9,m.i.w4⟩ v1.i = v2.i:=I2
  have J3 : brI ⟨m.i.w7,m.i.w9,m.i.w3,m.i.w1,m.i.w13,m.i.w12,m.i.w11,m.i.w14,m.i.w2,m.i.w6,m.i.w5,m.i.w10,m.i.w4,m.i.w0,m.i.w15,m.i.w8⟩ v2.i = v3.i:=I3
  have J4 : brI ⟨m.i.w9,m.i.w0,m.i.w5,m.i.w7,m.i.w2,m.i.w4,m.i.w10,m.i.w15,m.i.w14,m.i.w1,m.i.w11,m.i.w12,m.i.w6,m.i.w8,m.i.w3,m.i.w13⟩ v3.i = v4.i:=I4
  have J5 : brI ⟨m.i.w2,m.i.w12,m.i.w6,m.i.w10,m.i.w0,m.i.w11,m.i.w8,m.i.w3,m.i.w4,m.i.w13,m.i.w7,m.i.w5,m.i.w15,m.i.w14,m.i.w1,m.i.w9⟩ v4.i = v5.i:=I5
  have J6 : brI ⟨m.i.w12,m.i.w5,m.i.w1,m.i.w15,m.i.w14,m.i.w13,m.i.w4,m.i.w10,m.i.w0,m.i.w7,m.i.w6,m.i.w3,m.i.w9,m.i.w2,m.i.w8,m.i.w11⟩ v5.i = v6.i:=I6
  have J7 : brI ⟨m.i.w13,m.i.w11,m.i.w7,m.i.w14,m.i.w12,m.i.w1,m.i.w3,m.i.w9,m.i.w5,m.i.w0,m.i.w15,m.i.w4,m.i.w8,m.i.w6,m.i.w2,m.i.w10⟩ v6.i = v7.i:=I7
  have J8 : brI ⟨m.i.w6,m.i.w15,m.i.w14,m.i.w9,m.i.w11,m.i.w3,m.i.w0,m.i.w8,m.i.w12,m.i.w2,m.i.w13,m.i.w7,m.i.w1,m.i.w4,m.i.w10,m.i.w5⟩ v7.i = v8.i:=I8
  have J9 : brI ⟨m.i.w10,m.i.w2,m.i.w8,m.i.w4,m.i.w7,m.i.w6,m.i.w1,m.i.w5,m.i.w15,m.i.w11,m.i.w9,m.i.w14,m.i.w3,m.i.w12,m.i.w13,m.i.w0⟩ v8.i = v9.i:=I9
  rw [J0,J1,J2,J3,J4,J5,J6,J7,J8,J9]
 ·unfold rsN
  rw [N0,N1,N2,N3,N4,N5,N6,N7,N8,N9]
theorem last6 (last : Bool) : (Bool.rec 528734635 3766232660 last : Nat) < 4294967296:=by cases last <;> decide
theorem cp_ok {h : HN} {m : WN} {t : Nat} (last : Bool) (hh : h.ok) (hm : m.ok) (ht : t < 18446744073709551616) : ∃ h' : HN,h'.ok ∧ cpI h.i m.i (.ofNat t) last = h'.i ∧ ∀ {α : Type} (K : HN → α),cpN h m t last K = K h':=by
 have t1 : t % 4294967296 < 4294967296:=Nat.mod_lt _ (by decide)
 have t2 : t / 4294967296 % 4294967296 < 4294967296:=Nat.mod_lt _ (by decide)
 obtain ⟨v,hv,I,N⟩:=rs_ok (m:=m) (v:=⟨h.h0,h.h1,h.h2,h.h3,h.h4,h.h5,h.h6,h.h7,1779033703,3144134277,1013904242,2773480762,1359893119 ^^^ (t % 4294967296),2600822924 ^^^ (t / 4294967296 % 4294967296),Bool.rec 528734635 3766232660 last,1541459225⟩) hm ⟨hh.k0,hh.k1,hh.k2,hh.k3,hh.k4,hh.k5,hh.k6,hh.k7,(by decide : (1779033703 : Nat) < 4294967296),(by decide : (3144134277 : Nat) < 4294967296),(by decide : (1013904242 : Nat) < 4294967296),(by decide : (2773480762 : Nat) < 4294967296),J0l (by decide) t1,J0l (by decide) t2,last6 last,(by decide : (1541459225 : Nat) < 4294967296)⟩
 refine ⟨⟨h.h0 ^^^ (v.w0 ^^^ v.w8),h.h1 ^^^ (v.w1 ^^^ v.w9),h.h2 ^^^ (v.w2 ^^^ v.w10),h.h3 ^^^ (v.w3 ^^^ v.w11),h.h4 ^^^ (v.w4 ^^^ v.w12),h.h5 ^^^ (v.w5 ^^^ v.w13),h.h6 ^^^ (v.w6 ^^^ v.w14),h.h7 ^^^ (v.w7 ^^^ v.w15)⟩,⟨J0l hh.k0 (J0l hv.k0 hv.k8),J0l hh.k1 (J0l hv.k1 hv.k9),J0l hh.k2 (J0l hv.k2 hv.k10),J0l hh.k3 (J0l hv.k3 hv.k11),J0l hh.k4 (J0l hv.k4 hv.k12),J0l hh.k5 (J0l hv.k5 hv.k13),J0l hh.k6 (J0l hv.k6 hv.k14),J0l hh.k7 (J0l hv.k7 hv.k15)⟩,?_,fun K=>?_⟩
 ·have e4 : J6e (.ofNat 1359893119) (wrY .u32 (.ofNat t)) = .ofNat (1359893119 ^^^ (t % 4294967296)):=by
   rw [J5u .u32 t rfl]; exact J0r (by decide) t1
  have e5 : J6e (.ofNat 2600822924) (wrY .u32 (J6j (.ofNat t) 32)) = .ofNat (2600822924 ^^^ (t / 4294967296 % 4294967296)):=by
   rw [W7h,J5u .u32 _ rfl]; exact J0r (by decide) t2
  have e6 : (Bool.rec (.ofNat 528734635) (U5u .xor .u32 (if IntKind.u32.signed then -1 else IntKind.u32.max) (.ofNat 528734635)) last : Int) = .ofNat (Bool.rec 528734635 3766232660 last):=by
   cases last
   ·rfl
   ·decide +kernel
  unfold cpI
  rw [e4,e5,e6]
  have J : rsI m.i ⟨h.i.h0,h.i.h1,h.i.h2,h.i.h3,h.i.h4,h.i.h5,h.i.h6,h.i.h7,(.ofNat 1779033703),(.ofNat 3144134277),(.ofNat 1013904242),(.ofNat 2773480762),.ofNat (1359893119 ^^^ (t % 4294967296)),.ofNat (2600822924 ^^^ (t / 4294967296 % 4294967296)),.ofNat (Bool.rec 528734635 3766232660 last),(.ofNat 1541459225)⟩ = v.i:=I
  rw [J]
  unfold HN.i WN.i
  simp only
  rw [J0r hv.k0 hv.k8,J0r hh.k0 (J0l hv.k0 hv.k8),J0r hv.k1 hv.k9,J0r hh.k1 (J0l hv.k1 hv.k9),J0r hv.k2 hv.k10,J0r hh.k2 (J0l hv.k2 hv.k10),J0r hv.k3 hv.k11,J0r hh.k3 (J0l hv.k3 hv.k11),J0r hv.k4 hv.k12,J0r hh.k4 (J0l hv.k4 hv.k12),J0r hv.k5 hv.k13,J0r hh.k5 (J0l hv.k5 hv.k13),J0r hv.k6 hv.k14,J0r hh.k6 (J0l hv.k6 hv.k14),J0r hv.k7 hv.k15,J0r hh.k7 (J0l hv.k7 hv.k15)]
 ·unfold cpN
  have J : ∀ {α : Type} (K : WN → α),rsN m ⟨h.h0,h.h1,h.h2,h.h3,h.h4,h.h5,h.h6,h.h7,1779033703,3144134277,1013904242,2773480762,Nat.xor 1359893119 (Nat.mod t 4294967296),Nat.xor 2600822924 (Nat.mod (Nat.div t 4294967296) 4294967296),Bool.rec 528734635 3766232660 last,1541459225⟩ K = K v:=N
  rw [J]
  simp only [J3u]
  rfl
theorem rd_ok {v : WN} (hv : v.ok) : ∃ v' : WN,v'.ok ∧ rdI 10 v.i = v'.i ∧ ∀ {α : Type} (K : WN → α),rdN v K = K v':=by
 obtain ⟨v0,hv0,I0,N0⟩:=U2e hv
 obtain ⟨v1,hv1,I1,N1⟩:=U2e hv0
 obtain ⟨v2,hv2,I2,N2⟩:=U2e hv1
 obtain ⟨v3,hv3,I3,N3⟩:=U2e hv2
 obtain ⟨v4,hv4,I4,N4⟩:=U2e hv3
 obtain ⟨v5,hv5,I5,N5⟩:=U2e hv4
 obtain ⟨v6,hv6,I6,N6⟩:=U2e hv5
 obtain ⟨v7,hv7,I7,N7⟩:=U2e hv6
 obtain ⟨v8,hv8,I8,N8⟩:=U2e hv7
 obtain ⟨v9,hv9,I9,N9⟩:=U2e hv8
 refine ⟨v9,hv9,?_,fun K=>?_⟩
 ·show drI (drI (drI (drI (drI (drI (drI (drI (drI (drI v.i))))))))) = _
  rw [I0,I1,I2,I3,I4,I5,I6,I7,I8,I9]
 ·unfold rdN
  rw [N0,N1,N2,N3,N4,N5,N6,N7,N8,N9]
end Go.X
namespace Go.X
open Go Go.RowKit Go.Proofs
theorem Q6v {m n : Nat} {f g : Nat → Nat} (h : ∀ i,i < n → f i = g i) : leS m f n = leS m g n:=by
 induction n with
 | zero=>rfl
 | succ n ih =>
  show 2 ^ (m * n) * f n + leS m f n = 2 ^ (m * n) * g n + leS m g n
  rw [h n (by omega),ih fun i hi=>h i (by omega)]
theorem Q6t {m n : Nat} (hm : 0 < m) {f g : Nat → Nat} (hf : ∀ i,i < n → f i < 2 ^ m) (hg : ∀ i,i < n → g i < 2 ^ m) : leS m (fun k=>f k ^^^ g k) n = leS m f n ^^^ leS m g n:=by
 have hx : ∀ i,i < n → f i ^^^ g i < 2 ^ m:=fun i hi=>Nat.xor_lt_two_pow (hf i hi) (hg i hi)
 apply Nat.eq_of_testBit_eq
 intro j
 rw [Nat.testBit_xor]
 by_cases hj : j < m * n
 ·have h1 : j / m < n:=(Nat.div_lt_iff_lt_mul hm).2 (by rwa [Nat.mul_comm])
  have h2 : j % m < m:=Nat.mod_lt _ hm
  have e : m * (j / m) + j % m = j:=Nat.div_add_mod _ _
  have k1:=J2h hx (j / m) (j % m) h1 h2
  have k2:=J2h hf (j / m) (j % m) h1 h2
  have k3:=J2h hg (j / m) (j % m) h1 h2
  rw [e] at k1 k2 k3
  rw [k1,k2,k3,Nat.testBit_xor]
 ·have hle : 2 ^ (m * n) ≤ 2 ^ j:=Nat.pow_le_pow_right (by decide) (by omega)
  rw [Nat.testBit_lt_two_pow (Nat.lt_of_lt_of_le (J6w hx) hle),Nat.testBit_lt_two_pow (Nat.lt_of_lt_of_le (J6w hf) hle),Nat.testBit_lt_two_pow (Nat.lt_of_lt_of_le (J6w hg) hle)]
  rfl
theorem Q6u {n p i q : Nat} {f : Nat → Nat} (hf : ∀ i,i < n → f i < 2 ^ p) {m : Nat} (hmq : m = p * q) (hp : 0 < p) (hi : q * i + q ≤ n) : (leS p f n >>> (m * i)) % 2 ^ m = leS p (fun k=>f (q * i + k)) q:=by
 subst hmq
 have hg : ∀ k,k < q → f (q * i + k) < 2 ^ p:=fun k hk=>hf _ (by omega)
 apply Nat.eq_of_testBit_eq
 intro j
 rw [Nat.testBit_mod_two_pow,Nat.testBit_shiftRight]
 by_cases hj : j < p * q
 ·have h1 : j / p < q:=(Nat.div_lt_iff_lt_mul hp).2 (by rwa [Nat.mul_comm])
  have h2 : j % p < p:=Nat.mod_lt _ hp
  have e : p * (j / p) + j % p = j:=Nat.div_add_mod _ _
  have k1:=J2h hf (q * i + j / p) (j % p) (by omega) h2
  have k2:=J2h hg (j / p) (j % p) h1 h2
  rw [e] at k2
  have e2 : p * (q * i + j / p) + j % p = p * q * i + j:=by rw [Nat.mul_add,Nat.mul_assoc]; omega
  rw [e2] at k1
  rw [k1,k2]; simp [hj]
 ·have hle : 2 ^ (p * q) ≤ 2 ^ j:=Nat.pow_le_pow_right (by decide) (by omega)
  rw [Nat.testBit_lt_two_pow (Nat.lt_of_lt_of_le (J6w hg) hle)]
  simp [hj]
theorem G1h {n p q j : Nat} {f : Nat → Nat} {m : Nat} (hmq : m = p * q) (hq : 0 < q) (hf : ∀ i,i < n → f i < 2 ^ m) (hj : j < q * n) : (leS m f n >>> (p * j)) % 2 ^ p = (f (j / q) >>> (p * (j % q))) % 2 ^ p:=by
 subst hmq
 apply Nat.eq_of_testBit_eq
 intro t
 rw [Nat.testBit_mod_two_pow,Nat.testBit_mod_two_pow,Nat.testBit_shiftRight,Nat.testBit_shiftRight]
 by_cases ht : t < p
 ·have h1 : j / q < n:=(Nat.div_lt_iff_lt_mul hq).2 (by rwa [Nat.mul_comm])
  have h2 : j % q < q:=Nat.mod_lt _ hq
  have h3 : p * (j % q) + t < p * q:=by
   have : p * (j % q + 1) ≤ p * q:=Nat.mul_le_mul_left _ h2
   rw [Nat.mul_add,Nat.mul_one] at this; omega
  have k:=J2h hf (j / q) (p * (j % q) + t) h1 h3
  have e : p * q * (j / q) + (p * (j % q) + t) = p * j + t:=by
   have:=Nat.div_add_mod j q
   rw [Nat.mul_assoc,← Nat.add_assoc,← Nat.mul_add,this]
  rw [e] at k
  rw [k]
 ·simp [ht]
theorem G0l {a b n : Nat} (hb : b < 2 ^ n) : b ||| (a <<< n) = a * 2 ^ n + b:=by
 rw [Nat.or_comm,← Nat.shiftLeft_add_eq_or_of_lt hb,Nat.shiftLeft_eq]
theorem leS4 (f : Nat → Nat) : leS 8 f 4 = f 3 * 16777216 + (f 2 * 65536 + (f 1 * 256 + f 0)):=by
 show 2 ^ (8 * 3) * f 3 + (2 ^ (8 * 2) * f 2 + (2 ^ (8 * 1) * f 1 + (2 ^ (8 * 0) * f 0 + 0))) = _
 have e1 : (2 : Nat) ^ (8 * 1) = 256:=by decide
 have e2 : (2 : Nat) ^ (8 * 2) = 65536:=by decide
 have e3 : (2 : Nat) ^ (8 * 3) = 16777216:=by decide
 have e0 : (2 : Nat) ^ (8 * 0) = 1:=by decide
 rw [e0,e1,e2,e3]
 omega
theorem wrW8 {a : Nat} (h : a < 256) : wrY .u32 (.ofNat a) = .ofNat a:=J2o .u32 a (by show a ≤ 4294967295; omega)
theorem J9l {b : Nat → Int} {o : Nat} {f : Nat → Nat} (h : ∀ k,k < 4 → b (Nat.add o k) = .ofNat (f k) ∧ f k < 256) : J0v b o = .ofNat (leS 8 f 4):=by
 obtain ⟨e0,h0⟩:=h 0 (by decide)
 obtain ⟨e1,h1⟩:=h 1 (by decide)
 obtain ⟨e2,h2⟩:=h 2 (by decide)
 obtain ⟨e3,h3⟩:=h 3 (by decide)
 have e0' : b o = .ofNat (f 0):=e0
 unfold J0v
 rw [e0',e1,e2,e3,wrW8 h0,wrW8 h1,wrW8 h2,wrW8 h3]
 rw [J2b (by omega),J2b (by omega),J2b (by omega),J2b (by omega)]
 have s0 : f 0 <<< 0 % 4294967296 = f 0:=by rw [Nat.shiftLeft_zero]; omega
 have s1 : f 1 <<< 8 % 4294967296 = f 1 <<< 8:=by rw [Nat.shiftLeft_eq]; omega
 have s2 : f 2 <<< 16 % 4294967296 = f 2 <<< 16:=by rw [Nat.shiftLeft_eq]; omega
 have s3 : f 3 <<< 24 % 4294967296 = f 3 <<< 24:=by rw [Nat.shiftLeft_eq]; omega
 have l1 : f 1 <<< 8 < 4294967296:=by rw [Nat.shiftLeft_eq]; omega
 have l2 : f 2 <<< 16 < 4294967296:=by rw [Nat.shiftLeft_eq]; omega
 have l3 : f 3 <<< 24 < 4294967296:=by rw [Nat.shiftLeft_eq]; omega
 have t1 : orW (.ofNat 0) (.ofNat (f 0)) = .ofNat (f 0):=by rw [J2y (by decide) (by omega),Nat.zero_or]
 have t2 : orW (.ofNat (f 0)) (.ofNat (f 1 <<< 8)) = .ofNat (f 1 * 256 + f 0):=by
  rw [J2y (by omega) l1,G0l (n:=8) h0]
 have t3 : orW (.ofNat (f 1 * 256 + f 0)) (.ofNat (f 2 <<< 16)) = .ofNat (f 2 * 65536 + (f 1 * 256 + f 0)):=by
  rw [J2y (by omega) l2,G0l (n:=16) (by show _ < 65536; omega)]
 have t4 : orW (.ofNat (f 2 * 65536 + (f 1 * 256 + f 0))) (.ofNat (f 3 <<< 24)) = .ofNat (f 3 * 16777216 + (f 2 * 65536 + (f 1 * 256 + f 0))):=by
  rw [J2y (by omega) l3,G0l (n:=24) (by show _ < 16777216; omega)]
 rw [s0,s1,s2,s3,t1,t2,t3,t4,leS4]
theorem wdN_lt (a b : Nat) : wdN a b < 4294967296:=Nat.mod_lt _ (by decide)
theorem Q6w {f : Nat → Nat} (h : ∀ k,k < 4 → f k < 256) : leS 8 f 4 < 4294967296:=J6w (m:=8) (n:=4) h
theorem W0y {f : Nat → Nat} {n : Nat} (hf : ∀ i,i < n → f i < 256) (i : Nat) (hi : 4 * i + 4 ≤ n) : wdN (leS 8 f n) (32 * i) = leS 8 (fun k=>f (4 * i + k)) 4:=Q6u (p:=8) (q:=4) (m:=32) hf rfl (by decide) hi
def wG (g : Nat → Nat) (w : Nat) : Nat:=leS 8 (fun k=>g (4 * w + k)) 4
def WG (g : Nat → Nat) : WN:=⟨wG g 0,wG g 1,wG g 2,wG g 3,wG g 4,wG g 5,wG g 6,wG g 7,wG g 8,wG g 9,wG g 10,wG g 11,wG g 12,wG g 13,wG g 14,wG g 15⟩
theorem J5d {g : Nat → Nat} (h : ∀ i,i < 64 → g i < 256) (w : Nat) (hw : w < 16) : wG g w < 4294967296:=Q6w fun k hk=>h _ (by omega)
theorem WG_ok {g : Nat → Nat} (h : ∀ i,i < 64 → g i < 256) : (WG g).ok:=⟨J5d h 0 (by decide),J5d h 1 (by decide),J5d h 2 (by decide),J5d h 3 (by decide),J5d h 4 (by decide),J5d h 5 (by decide),J5d h 6 (by decide),J5d h 7 (by decide),J5d h 8 (by decide),J5d h 9 (by decide),J5d h 10 (by decide),J5d h 11 (by decide),J5d h 12 (by decide),J5d h 13 (by decide),J5d h 14 (by decide),J5d h 15 (by decide)⟩
theorem J7s {b : Nat → Int} {g : Nat → Nat} (h : ∀ i,i < 64 → b i = .ofNat (g i) ∧ g i < 256) : wmI b = (WG g).i:=by
 have key : ∀ w,w < 16 → J0v b (4 * w) = .ofNat (wG g w):=fun w hw=>J9l fun k hk=>h (4 * w + k) (by omega)
 unfold wmI WG WN.i
 simp only
 rw [show J0v b 0 = _ from key 0 (by decide),show J0v b 4 = _ from key 1 (by decide),show J0v b 8 = _ from key 2 (by decide),show J0v b 12 = _ from key 3 (by decide),show J0v b 16 = _ from key 4 (by decide),show J0v b 20 = _ from key 5 (by decide),show J0v b 24 = _ from key 6 (by decide),show J0v b 28 = _ from key 7 (by decide),show J0v b 32 = _ from key 8 (by decide),show J0v b 36 = _ from key 9 (by decide),show J0v b 40 = _ from key 10 (by decide),show J0v b 44 = _ from key 11 (by decide),show J0v b 48 = _ from key 12 (by decide),show J0v b 52 = _ from key 13 (by decide),show J0v b 56 = _ from key 14 (by decide),show J0v b 60 = _ from key 15 (by decide)]
def WN.at (v : WN) (k : Nat) : Nat:=match k with | 0=>v.w0 | 1=>v.w1 | 2=>v.w2 | 3=>v.w3 | 4=>v.w4 | 5=>v.w5 | 6=>v.w6 | 7=>v.w7 | 8=>v.w8 | 9=>v.w9 | 10=>v.w10 | 11=>v.w11 | 12=>v.w12 | 13=>v.w13 | 14=>v.w14 | _=>v.w15
theorem WN.at_i (v : WN) : ∀ k,k < 16 → v.i.at k = .ofNat (v.at k)
 | 0,_=>rfl
 | 1,_=>rfl
 | 2,_=>rfl
 | 3,_=>rfl
 | 4,_=>rfl
 | 5,_=>rfl
 | 6,_=>rfl
 | 7,_=>rfl
 | 8,_=>rfl
 | 9,_=>rfl
 | 10,_=>rfl
 | 11,_=>rfl
 | 12,_=>rfl
 | 13,_=>rfl
 | 14,_=>rfl
 | 15,_=>rfl
 | k + 16,h=>absurd h (by omega)
theorem WN.at_lt {v : WN} (h : v.ok) : ∀ k,k < 16 → v.at k < 4294967296
 | 0,_=>h.k0
 | 1,_=>h.k1
 | 2,_=>h.k2
 | 3,_=>h.k3
 | 4,_=>h.k4
 | 5,_=>h.k5
 | 6,_=>h.k6
 | 7,_=>h.k7
 | 8,_=>h.k8
 | 9,_=>h.k9
 | 10,_=>h.k10
 | 11,_=>h.k11
 | 12,_=>h.k12
 | 13,_=>h.k13
 | 14,_=>h.k14
 | 15,_=>h.k15
 | k + 16,h=>absurd h (by omega)
theorem byteW {w s : Nat} (hs : s ≤ 32) : wrY .u8 (Q4j (.ofNat w) s) = .ofNat ((w >>> s) % 256):=by
 rw [J3h hs]; exact J5u .u8 _ rfl
theorem blN_le (s v : WN) : blN s v = leS 32 (fun i=>J4g (v.at i) (s.at i)) 16:=by
 simp only [leS,WN.at]
 unfold blN
 simp only [Nat.add_eq,Nat.mul_eq]
 omega
theorem Q4g {k n : Nat → Int} {f g : Nat → Nat} {c : Nat} (hk : BY k f 32) (hn : BY n g 12) (hc : c < 4294967296) : stI k (.ofNat c) n = (G6f (leS 8 f 32) c (leS 8 g 12)).i ∧ (G6f (leS 8 f 32) c (leS 8 g 12)).ok:=by
 have kw : ∀ w,w < 8 → J0v k (4 * w) = .ofNat (wdN (leS 8 f 32) (32 * w)):=fun w hw=>by
  rw [W0y (fun i hi=>(hk i hi).2) w (by omega)]
  exact J9l fun j hj=>hk (4 * w + j) (by omega)
 have nw : ∀ w,w < 3 → J0v n (4 * w) = .ofNat (wdN (leS 8 g 12) (32 * w)):=fun w hw=>by
  rw [W0y (fun i hi=>(hn i hi).2) w (by omega)]
  exact J9l fun j hj=>hn (4 * w + j) (by omega)
 constructor
 ·unfold stI G6f WN.i
  simp only
  rw [show J0v k 0 = _ from kw 0 (by decide),show J0v k 4 = _ from kw 1 (by decide),show J0v k 8 = _ from kw 2 (by decide),show J0v k 12 = _ from kw 3 (by decide),show J0v k 16 = _ from kw 4 (by decide),show J0v k 20 = _ from kw 5 (by decide),show J0v k 24 = _ from kw 6 (by decide),show J0v k 28 = _ from kw 7 (by decide),show J0v n 0 = _ from nw 0 (by decide),show J0v n 4 = _ from nw 1 (by decide),show J0v n 8 = _ from nw 2 (by decide)]
 ·unfold G6f
  refine ⟨?_,?_,?_,?_,?_,?_,?_,?_,?_,?_,?_,?_,?_,?_,?_,?_⟩ <;> simp only <;> first | exact wdN_lt _ _ | exact hc | decide
theorem Q4h (v s : WN) (j : Nat) (hj : j < 16) : (smI v.i s.i).at j = .ofNat (J4g (v.at j) (s.at j)):=by
 have : j = 0 ∨ j = 1 ∨ j = 2 ∨ j = 3 ∨ j = 4 ∨ j = 5 ∨ j = 6 ∨ j = 7 ∨ j = 8 ∨ j = 9 ∨ j = 10 ∨ j = 11 ∨ j = 12 ∨ j = 13 ∨ j = 14 ∨ j = 15:=by omega
 rcases this with rfl | rfl | rfl | rfl | rfl | rfl | rfl | rfl | rfl | rfl | rfl | rfl | rfl | rfl | rfl | rfl
 ·exact J0u v.w0 s.w0
 ·exact J0u v.w1 s.w1
 ·exact J0u v.w2 s.w2
 ·exact J0u v.w3 s.w3
 ·exact J0u v.w4 s.w4
 ·exact J0u v.w5 s.w5
 ·exact J0u v.w6 s.w6
 ·exact J0u v.w7 s.w7
 ·exact J0u v.w8 s.w8
 ·exact J0u v.w9 s.w9
 ·exact J0u v.w10 s.w10
 ·exact J0u v.w11 s.w11
 ·exact J0u v.w12 s.w12
 ·exact J0u v.w13 s.w13
 ·exact J0u v.w14 s.w14
 ·exact J0u v.w15 s.w15
theorem G8n {k n : Nat → Int} {f g : Nat → Nat} {c : Nat} (hk : BY k f 32) (hn : BY n g 12) (hc : c < 4294967296) (j : Nat) (hj : j < 64) : blkI k (.ofNat c) n j = .ofNat ((blkN (leS 8 f 32) c (leS 8 g 12) >>> (8 * j)) % 256):=by
 obtain ⟨e,hs⟩:=Q4g hk hn hc
 obtain ⟨v,hv,I,N⟩:=rd_ok hs
 have e1 : blkI k (.ofNat c) n j = wrY .u8 (Q4j (WI.at (smI (rdI 10 (stI k (.ofNat c) n)) (stI k (.ofNat c) n)) (Nat.div j 4)) (Nat.mul 8 (Nat.mod j 4))):=rfl
 have e2 : blkN (leS 8 f 32) c (leS 8 g 12) = blN (G6f (leS 8 f 32) c (leS 8 g 12)) v:=by
  have : blkN (leS 8 f 32) c (leS 8 g 12) = rdN (G6f (leS 8 f 32) c (leS 8 g 12)) fun v=>blN (G6f (leS 8 f 32) c (leS 8 g 12)) v:=rfl
  rw [this,N]
 rw [e1,e,I,e2,blN_le]
 have h1 : Nat.div j 4 = j / 4:=rfl
 have h2 : Nat.mul 8 (Nat.mod j 4) = 8 * (j % 4):=rfl
 rw [h1,h2,Q4h _ _ _ (by omega),byteW (by omega)]
 have hd:=G1h (p:=8) (q:=4) (m:=32) (n:=16) (j:=j) (f:=fun i=>J4g (v.at i) ((G6f (leS 8 f 32) c (leS 8 g 12)).at i)) rfl (by decide) (fun i _=>by rw [show (2 : Nat) ^ 32 = 4294967296 by decide]; exact J4d _ _) (by omega)
 rw [show (2 : Nat) ^ 8 = 256 by decide] at hd
 exact congrArg Int.ofNat hd.symm
theorem kvN_of {m : Nat} {F : Nat → Int} {r : Nat} (h : ∀ j,j < m → F j = .ofNat ((r >>> (8 * j)) % 256)) : kvN m F = .ag (toV m r):=by
 have:=W6m (r:=r) m 0 F fun j _ hj=>h j (by omega)
 unfold kvN
 rw [this]; rfl
theorem Q7y : PG 268 blkG:=by
 intro n0 vs v h he
 unfold blkG at he
 split at he
 ·rename_i k c n
  cases hb : (U1m 32 k && (U1m 12 n && Nat.ble c 4294967295)) <;> rw [hb] at he
  ·cases he
  rw [Bool.and_eq_true,Bool.and_eq_true] at hb
  obtain ⟨f,f1,f2,f3⟩:=J1p 32 0 k hb.1
  obtain ⟨g,g1,g2,g3⟩:=J1p 12 0 n hb.2.1
  have hc:=Nat.le_of_ble_eq_true hb.2.2
  have ek : V.ag k = kv fun i=>.ofNat (f i):=by rw [f2]; rfl
  have en : V.ag n = kvN 12 fun i=>.ofNat (g i):=by rw [g2]; rfl
  have hk : BY (fun i=>.ofNat (f i)) f 32:=fun i hi=>⟨rfl,f1 i hi⟩
  have hn : BY (fun i=>.ofNat (g i)) g 12:=fun i hi=>⟨rfl,g1 i hi⟩
  have hrun:=run_pure BG.nil (Q7x (fun i=>.ofNat (f i)) (.ofNat c) (fun i=>.ofNat (g i))) (VPs.cons (U1x _) (VPs.cons (.i _ _) (VPs.cons (VP.ag (W1e (fun i=>VP.i _ _) 12 0)) VPs.nil))) (VP.ag (W1e (fun i=>VP.i _ _) 64 0)) n0 h
  rw [kvN_of (fun j hj=>G8n hk hn (by omega) j hj),← ek,← en,← f3,← g3] at hrun
  have hv : V.ag (frc (leV k) fun k=>frc (leV n) fun n=>frc (blkN k c n) (toV 64)) = v:=Option.some.inj he
  rw [J3u,J3u,J3u] at hv
  rw [← hv]; exact hrun
 ·cases he
end Go.X
end
