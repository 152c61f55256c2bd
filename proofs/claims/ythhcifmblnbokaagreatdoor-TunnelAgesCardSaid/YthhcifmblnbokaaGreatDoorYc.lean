/- blake's press, word by word. -/
import Derived.Test.YthhcifmblnbokaaGreatDoorYa
set_option linter.all false
set_option maxRecDepth 100000
noncomputable section
namespace Go.X
open Go Go.RowKit Go.Proofs
def G4t {α : Type} (a b c d x y : Int) (K : Int → Int → Int → Int → α) : α :=
 (fun a1=>(fun d1=>(fun c1=>(fun b1=>(fun a2=>(fun d2=>(fun c2=>K a2 (U1q (J6e b1 c2) 25 7) c2 d2) (J4c c1 d2)) (U1q (J6e d1 a2) 24 8)) (J4c a1 (J4c b1 y))) (U1q (J6e b c1) 20 12)) (J4c c d1)) (U1q (J6e d a1) 16 16)) (J4c a (J4c b x))
def brI (x v : WI) : WI :=
 G4t v.w0 v.w4 v.w8 v.w12 x.w0 x.w1 fun x0 x1 x2 x3=>G4t v.w1 v.w5 v.w9 v.w13 x.w2 x.w3 fun x4 x5 x6 x7=>G4t v.w2 v.w6 v.w10 v.w14 x.w4 x.w5 fun x8 x9 x10 x11=>G4t v.w3 v.w7 v.w11 v.w15 x.w6 x.w7 fun x12 x13 x14 x15=>G4t x0 x5 x10 x15 x.w8 x.w9 fun x16 x17 x18 x19=>G4t x4 x9 x14 x3 x.w10 x.w11 fun x20 x21 x22 x23=>G4t x8 x13 x2 x7 x.w12 x.w13 fun x24 x25 x26 x27=>G4t x12 x1 x6 x11 x.w14 x.w15 fun x28 x29 x30 x31=>⟨x16,x20,x24,x28,x29,x17,x21,x25,x26,x30,x18,x22,x23,x27,x31,x19⟩
def rsI (m v : WI) : WI :=
 (brI ⟨m.w10,m.w2,m.w8,m.w4,m.w7,m.w6,m.w1,m.w5,m.w15,m.w11,m.w9,m.w14,m.w3,m.w12,m.w13,m.w0⟩ (brI ⟨m.w6,m.w15,m.w14,m.w9,m.w11,m.w3,m.w0,m.w8,m.w12,m.w2,m.w13,m.w7,m.w1,m.w4,m.w10,m.w5⟩ (brI ⟨m.w13,m.w11,m.w7,m.w14,m.w12,m.w1,m.w3,m.w9,m.w5,m.w0,m.w15,m.w4,m.w8,m.w6,m.w2,m.w10⟩ (brI ⟨m.w12,m.w5,m.w1,m.w15,m.w14,m.w13,m.w4,m.w10,m.w0,m.w7,m.w6,m.w3,m.w9,m.w2,m.w8,m.w11⟩ (brI ⟨m.w2,m.w12,m.w6,m.w10,m.w0,m.w11,m.w8,m.w3,m.w4,m.w13,m.w7,m.w5,m.w15,m.w14,m.w1,m.w9⟩ (brI ⟨m.w9,m.w0,m.w5,m.w7,m.w2,m.w4,m.w10,m.w15,m.w14,m.w1,m.w11,m.w12,m.w6,m.w8,m.w3,m.w13⟩ (brI ⟨m.w7,m.w9,m.w3,m.w1,m.w13,m.w12,m.w11,m.w14,m.w2,m.w6,m.w5,m.w10,m.w4,m.w0,m.w15,m.w8⟩ (brI ⟨m.w11,m.w8,m.w12,m.w0,m.w5,m.w2,m.w15,m.w13,m.w10,m.w14,m.w3,m.w6,m.w7,m.w1,m.w9,m.w4⟩ (brI ⟨m.w14,m.w10,m.w4,m.w8,m.w9,m.w15,m.w13,m.w6,m.w1,m.w12,m.w0,m.w2,m.w11,m.w7,m.w5,m.w3⟩ (brI ⟨m.w0,m.w1,m.w2,m.w3,m.w4,m.w5,m.w6,m.w7,m.w8,m.w9,m.w10,m.w11,m.w12,m.w13,m.w14,m.w15⟩ v))))))))))
structure HI where
 (h0 h1 h2 h3 h4 h5 h6 h7 : Int)
def cpI (h : HI) (m : WI) (t : Int) (last : Bool) : HI :=
 (fun v=>⟨J6e h.h0 (J6e v.w0 v.w8),J6e h.h1 (J6e v.w1 v.w9),J6e h.h2 (J6e v.w2 v.w10),J6e h.h3 (J6e v.w3 v.w11),J6e h.h4 (J6e v.w4 v.w12),J6e h.h5 (J6e v.w5 v.w13),J6e h.h6 (J6e v.w6 v.w14),J6e h.h7 (J6e v.w7 v.w15)⟩) (rsI m ⟨h.h0,h.h1,h.h2,h.h3,h.h4,h.h5,h.h6,h.h7,(.ofNat 1779033703),(.ofNat 3144134277),(.ofNat 1013904242),(.ofNat 2773480762),J6e (.ofNat 1359893119) (wrY .u32 t),J6e (.ofNat 2600822924) (wrY .u32 (J6j t 32)),Bool.rec (.ofNat 528734635) (U5u .xor .u32 (if IntKind.u32.signed then -1 else IntKind.u32.max) (.ofNat 528734635)) last,(.ofNat 1541459225)⟩)
def wmI (b : Nat → Int) : WI:=⟨J0v b 0,J0v b 4,J0v b 8,J0v b 12,J0v b 16,J0v b 20,J0v b 24,J0v b 28,J0v b 32,J0v b 36,J0v b 40,J0v b 44,J0v b 48,J0v b 52,J0v b 56,J0v b 60⟩
def hshC (s : Int) (h : HI) (b : Nat → Int) (n t : Int) (r0 r1 r2 r3 r4 : V) (q : Nat → A1) : C :=
 .l2 ⟨⟨.i .i64 s,.i .u32 h.h0,.i .u32 h.h1,.i .u32 h.h2,.i .u32 h.h3,.i .u32 h.h4,.i .u32 h.h5,.i .u32 h.h6,.i .u32 h.h7,bI (b 0),bI (b 1),bI (b 2),bI (b 3),bI (b 4),bI (b 5),bI (b 6)⟩,
  ⟨bI (b 7),bI (b 8),bI (b 9),bI (b 10),bI (b 11),bI (b 12),bI (b 13),bI (b 14),bI (b 15),bI (b 16),bI (b 17),bI (b 18),bI (b 19),bI (b 20),bI (b 21),bI (b 22)⟩,
  ⟨bI (b 23),bI (b 24),bI (b 25),bI (b 26),bI (b 27),bI (b 28),bI (b 29),bI (b 30),bI (b 31),bI (b 32),bI (b 33),bI (b 34),bI (b 35),bI (b 36),bI (b 37),bI (b 38)⟩,
  ⟨bI (b 39),bI (b 40),bI (b 41),bI (b 42),bI (b 43),bI (b 44),bI (b 45),bI (b 46),bI (b 47),bI (b 48),bI (b 49),bI (b 50),bI (b 51),bI (b 52),bI (b 53),bI (b 54)⟩,
  ⟨bI (b 55),bI (b 56),bI (b 57),bI (b 58),bI (b 59),bI (b 60),bI (b 61),bI (b 62),bI (b 63),.i .i64 n,.i .u64 t,r0,r1,r2,r3,r4⟩,
  q 5,q 6,q 7,q 8,q 9,q 10,q 11,q 12,q 13,q 14,q 15⟩
theorem G6u (s : Int) (h : HI) (b : Nat → Int) (n t many : Int) (r0 r1 r2 r3 r4 : V) (q : Nat → A1) (z : Bool) :
  (fun x=>RC.rec (motive:=fun _=>Option (V × O)) (fun v h=>some (v,h.get 0)) (fun _ _=>none) none x) (J5k bt0 267 [.p 0 0,.i .i64 many,.b false] (H.one (.cells 75 (hshC s h b n t r0 r1 r2 r3 r4 q) z))) =
   some (.tu [],.cells 75 (hshC s (cpI h (wmI b) (J2e t (wrY .u64 many)) false) b n (J2e t (wrY .u64 many)) r0 r1 r2 r3 r4 q) z):=by kernel_rfl
theorem G6t (s : Int) (h : HI) (b : Nat → Int) (n t many : Int) (r0 r1 r2 r3 r4 : V) (q : Nat → A1) (z : Bool) :
  (fun x=>RC.rec (motive:=fun _=>Option (V × O)) (fun v h=>some (v,h.get 0)) (fun _ _=>none) none x) (J5k bt0 267 [.p 0 0,.i .i64 many,.b true] (H.one (.cells 75 (hshC s h b n t r0 r1 r2 r3 r4 q) z))) =
   some (.tu [],.cells 75 (hshC s (cpI h (wmI b) (J2e t (wrY .u64 many)) true) b n (J2e t (wrY .u64 many)) r0 r1 r2 r3 r4 q) z):=by kernel_rfl
end Go.X
namespace Go.X
open Go Go.RowKit Go.Proofs
def pay (v : V) : Int:=match v with | .i _ n=>n | _=>.ofNat 0
def isK (k : IntKind) (v : V) : Bool:=match v with | .i k' _=>Nat.beq (kno k') (kno k) | _=>false
theorem J0e {k : IntKind} {v : V} (h : isK k v = true) : v = .i k (pay v):=by
 unfold isK at h
 split at h
 ·rename_i k' n
  have:=J1c (Nat.eq_of_beq_eq_true h)
  subst this; rfl
 ·cases h
def okR0 (t : A1) : Bool:=(isK .i64 t.c0 && (isK .u32 t.c1 && (isK .u32 t.c2 && (isK .u32 t.c3 && (isK .u32 t.c4 && (isK .u32 t.c5 && (isK .u32 t.c6 && (isK .u32 t.c7 && (isK .u32 t.c8 && (isK .u8 t.c9 && (isK .u8 t.c10 && (isK .u8 t.c11 && (isK .u8 t.c12 && (isK .u8 t.c13 && (isK .u8 t.c14 && isK .u8 t.c15)))))))))))))))
def okR1 (t : A1) : Bool:=(isK .u8 t.c0 && (isK .u8 t.c1 && (isK .u8 t.c2 && (isK .u8 t.c3 && (isK .u8 t.c4 && (isK .u8 t.c5 && (isK .u8 t.c6 && (isK .u8 t.c7 && (isK .u8 t.c8 && (isK .u8 t.c9 && (isK .u8 t.c10 && (isK .u8 t.c11 && (isK .u8 t.c12 && (isK .u8 t.c13 && (isK .u8 t.c14 && isK .u8 t.c15)))))))))))))))
def okR2 (t : A1) : Bool:=(isK .u8 t.c0 && (isK .u8 t.c1 && (isK .u8 t.c2 && (isK .u8 t.c3 && (isK .u8 t.c4 && (isK .u8 t.c5 && (isK .u8 t.c6 && (isK .u8 t.c7 && (isK .u8 t.c8 && (isK .u8 t.c9 && (isK .u8 t.c10 && (isK .u8 t.c11 && (isK .u8 t.c12 && (isK .u8 t.c13 && (isK .u8 t.c14 && isK .u8 t.c15)))))))))))))))
def okR3 (t : A1) : Bool:=(isK .u8 t.c0 && (isK .u8 t.c1 && (isK .u8 t.c2 && (isK .u8 t.c3 && (isK .u8 t.c4 && (isK .u8 t.c5 && (isK .u8 t.c6 && (isK .u8 t.c7 && (isK .u8 t.c8 && (isK .u8 t.c9 && (isK .u8 t.c10 && (isK .u8 t.c11 && (isK .u8 t.c12 && (isK .u8 t.c13 && (isK .u8 t.c14 && isK .u8 t.c15)))))))))))))))
def okR4 (t : A1) : Bool:=(isK .u8 t.c0 && (isK .u8 t.c1 && (isK .u8 t.c2 && (isK .u8 t.c3 && (isK .u8 t.c4 && (isK .u8 t.c5 && (isK .u8 t.c6 && (isK .u8 t.c7 && (isK .u8 t.c8 && (isK .i64 t.c9 && isK .u64 t.c10))))))))))
def okH (t : A2) : Bool:=okR0 t.c0 && (okR1 t.c1 && (okR2 t.c2 && (okR3 t.c3 && okR4 t.c4)))
def hOf (t : A2) : HI:=⟨pay t.c0.c1,pay t.c0.c2,pay t.c0.c3,pay t.c0.c4,pay t.c0.c5,pay t.c0.c6,pay t.c0.c7,pay t.c0.c8⟩
def bOf (t : A2) (i : Nat) : Int:=pay (C.at2 t (qp (Nat.add 9 i)))
def sOfH (t : A2) : Int:=pay t.c0.c0
def nOf (t : A2) : Int:=pay t.c4.c9
def tOf (t : A2) : Int:=pay t.c4.c10
def qOf (t : A2) (i : Nat) : A1:=Bool.rec (Bool.rec (Bool.rec (Bool.rec (Bool.rec (Bool.rec (Bool.rec (Bool.rec (Bool.rec (Bool.rec (t.c15) t.c14 (Nat.beq i 14)) t.c13 (Nat.beq i 13)) t.c12 (Nat.beq i 12)) t.c11 (Nat.beq i 11)) t.c10 (Nat.beq i 10)) t.c9 (Nat.beq i 9)) t.c8 (Nat.beq i 8)) t.c7 (Nat.beq i 7)) t.c6 (Nat.beq i 6)) t.c5 (Nat.beq i 5)
def hshO (t : A2) (h : HI) (tt : Int) : C:=hshC (sOfH t) h (bOf t) (nOf t) tt t.c4.c11 t.c4.c12 t.c4.c13 t.c4.c14 t.c4.c15 (qOf t)
theorem U6s {t : A1} (h : okR0 t = true) : t.c0 = .i .i64 (pay t.c0) ∧ t.c1 = .i .u32 (pay t.c1) ∧ t.c2 = .i .u32 (pay t.c2) ∧ t.c3 = .i .u32 (pay t.c3) ∧ t.c4 = .i .u32 (pay t.c4) ∧ t.c5 = .i .u32 (pay t.c5) ∧ t.c6 = .i .u32 (pay t.c6) ∧ t.c7 = .i .u32 (pay t.c7) ∧ t.c8 = .i .u32 (pay t.c8) ∧ t.c9 = .i .u8 (pay t.c9) ∧ t.c10 = .i .u8 (pay t.c10) ∧ t.c11 = .i .u8 (pay t.c11) ∧ t.c12 = .i .u8 (pay t.c12) ∧ t.c13 = .i .u8 (pay t.c13) ∧ t.c14 = .i .u8 (pay t.c14) ∧ t.c15 = .i .u8 (pay t.c15):=by
 simp only [okR0,Bool.and_eq_true] at h
 obtain ⟨h0,h1,h2,h3,h4,h5,h6,h7,h8,h9,h10,h11,h12,h13,h14,h15⟩:=h
 exact ⟨J0e h0,J0e h1,J0e h2,J0e h3,J0e h4,J0e h5,J0e h6,J0e h7,J0e h8,J0e h9,J0e h10,J0e h11,J0e h12,J0e h13,J0e h14,J0e h15⟩
theorem U6r {t : A1} (h : okR1 t = true) : t.c0 = .i .u8 (pay t.c0) ∧ t.c1 = .i .u8 (pay t.c1) ∧ t.c2 = .i .u8 (pay t.c2) ∧ t.c3 = .i .u8 (pay t.c3) ∧ t.c4 = .i .u8 (pay t.c4) ∧ t.c5 = .i .u8 (pay t.c5) ∧ t.c6 = .i .u8 (pay t.c6) ∧ t.c7 = .i .u8 (pay t.c7) ∧ t.c8 = .i .u8 (pay t.c8) ∧ t.c9 = .i .u8 (pay t.c9) ∧ t.c10 = .i .u8 (pay t.c10) ∧ t.c11 = .i .u8 (pay t.c11) ∧ t.c12 = .i .u8 (pay t.c12) ∧ t.c13 = .i .u8 (pay t.c13) ∧ t.c14 = .i .u8 (pay t.c14) ∧ t.c15 = .i .u8 (pay t.c15):=by
 simp only [okR1,Bool.and_eq_true] at h
 obtain ⟨h0,h1,h2,h3,h4,h5,h6,h7,h8,h9,h10,h11,h12,h13,h14,h15⟩:=h
 exact ⟨J0e h0,J0e h1,J0e h2,J0e h3,J0e h4,J0e h5,J0e h6,J0e h7,J0e h8,J0e h9,J0e h10,J0e h11,J0e h12,J0e h13,J0e h14,J0e h15⟩
theorem U6q {t : A1} (h : okR2 t = true) : t.c0 = .i .u8 (pay t.c0) ∧ t.c1 = .i .u8 (pay t.c1) ∧ t.c2 = .i .u8 (pay t.c2) ∧ t.c3 = .i .u8 (pay t.c3) ∧ t.c4 = .i .u8 (pay t.c4) ∧ t.c5 = .i .u8 (pay t.c5) ∧ t.c6 = .i .u8 (pay t.c6) ∧ t.c7 = .i .u8 (pay t.c7) ∧ t.c8 = .i .u8 (pay t.c8) ∧ t.c9 = .i .u8 (pay t.c9) ∧ t.c10 = .i .u8 (pay t.c10) ∧ t.c11 = .i .u8 (pay t.c11) ∧ t.c12 = .i .u8 (pay t.c12) ∧ t.c13 = .i .u8 (pay t.c13) ∧ t.c14 = .i .u8 (pay t.c14) ∧ t.c15 = .i .u8 (pay t.c15):=by
 simp only [okR2,Bool.and_eq_true] at h
 obtain ⟨h0,h1,h2,h3,h4,h5,h6,h7,h8,h9,h10,h11,h12,h13,h14,h15⟩:=h
 exact ⟨J0e h0,J0e h1,J0e h2,J0e h3,J0e h4,J0e h5,J0e h6,J0e h7,J0e h8,J0e h9,J0e h10,J0e h11,J0e h12,J0e h13,J0e h14,J0e h15⟩
theorem U6p {t : A1} (h : okR3 t = true) : t.c0 = .i .u8 (pay t.c0) ∧ t.c1 = .i .u8 (pay t.c1) ∧ t.c2 = .i .u8 (pay t.c2) ∧ t.c3 = .i .u8 (pay t.c3) ∧ t.c4 = .i .u8 (pay t.c4) ∧ t.c5 = .i .u8 (pay t.c5) ∧ t.c6 = .i .u8 (pay t.c6) ∧ t.c7 = .i .u8 (pay t.c7) ∧ t.c8 = .i .u8 (pay t.c8) ∧ t.c9 = .i .u8 (pay t.c9) ∧ t.c10 = .i .u8 (pay t.c10) ∧ t.c11 = .i .u8 (pay t.c11) ∧ t.c12 = .i .u8 (pay t.c12) ∧ t.c13 = .i .u8 (pay t.c13) ∧ t.c14 = .i .u8 (pay t.c14) ∧ t.c15 = .i .u8 (pay t.c15):=by
 simp only [okR3,Bool.and_eq_true] at h
 obtain ⟨h0,h1,h2,h3,h4,h5,h6,h7,h8,h9,h10,h11,h12,h13,h14,h15⟩:=h
 exact ⟨J0e h0,J0e h1,J0e h2,J0e h3,J0e h4,J0e h5,J0e h6,J0e h7,J0e h8,J0e h9,J0e h10,J0e h11,J0e h12,J0e h13,J0e h14,J0e h15⟩
theorem U6o {t : A1} (h : okR4 t = true) : t.c0 = .i .u8 (pay t.c0) ∧ t.c1 = .i .u8 (pay t.c1) ∧ t.c2 = .i .u8 (pay t.c2) ∧ t.c3 = .i .u8 (pay t.c3) ∧ t.c4 = .i .u8 (pay t.c4) ∧ t.c5 = .i .u8 (pay t.c5) ∧ t.c6 = .i .u8 (pay t.c6) ∧ t.c7 = .i .u8 (pay t.c7) ∧ t.c8 = .i .u8 (pay t.c8) ∧ t.c9 = .i .i64 (pay t.c9) ∧ t.c10 = .i .u64 (pay t.c10):=by
 simp only [okR4,Bool.and_eq_true] at h
 obtain ⟨h0,h1,h2,h3,h4,h5,h6,h7,h8,h9,h10⟩:=h
 exact ⟨J0e h0,J0e h1,J0e h2,J0e h3,J0e h4,J0e h5,J0e h6,J0e h7,J0e h8,J0e h9,J0e h10⟩
theorem G7b {t : A2} (h : okH t = true) : C.l2 t = hshO t (hOf t) (tOf t):=by
 simp only [okH,Bool.and_eq_true] at h
 obtain ⟨h0,h1,h2,h3,h4⟩:=h
 obtain ⟨e0,e1,e2,e3,e4,e5,e6,e7,e8,e9,e10,e11,e12,e13,e14,e15⟩:=U6s h0
 obtain ⟨e16,e17,e18,e19,e20,e21,e22,e23,e24,e25,e26,e27,e28,e29,e30,e31⟩:=U6r h1
 obtain ⟨e32,e33,e34,e35,e36,e37,e38,e39,e40,e41,e42,e43,e44,e45,e46,e47⟩:=U6q h2
 obtain ⟨e48,e49,e50,e51,e52,e53,e54,e55,e56,e57,e58,e59,e60,e61,e62,e63⟩:=U6p h3
 obtain ⟨e64,e65,e66,e67,e68,e69,e70,e71,e72,e73,e74⟩:=U6o h4
 show C.l2 t = C.l2 ⟨⟨.i .i64 (pay t.c0.c0),.i .u32 (pay t.c0.c1),.i .u32 (pay t.c0.c2),.i .u32 (pay t.c0.c3),.i .u32 (pay t.c0.c4),.i .u32 (pay t.c0.c5),.i .u32 (pay t.c0.c6),.i .u32 (pay t.c0.c7),.i .u32 (pay t.c0.c8),.i .u8 (pay t.c0.c9),.i .u8 (pay t.c0.c10),.i .u8 (pay t.c0.c11),.i .u8 (pay t.c0.c12),.i .u8 (pay t.c0.c13),.i .u8 (pay t.c0.c14),.i .u8 (pay t.c0.c15)⟩,⟨.i .u8 (pay t.c1.c0),.i .u8 (pay t.c1.c1),.i .u8 (pay t.c1.c2),.i .u8 (pay t.c1.c3),.i .u8 (pay t.c1.c4),.i .u8 (pay t.c1.c5),.i .u8 (pay t.c1.c6),.i .u8 (pay t.c1.c7),.i .u8 (pay t.c1.c8),.i .u8 (pay t.c1.c9),.i .u8 (pay t.c1.c10),.i .u8 (pay t.c1.c11),.i .u8 (pay t.c1.c12),.i .u8 (pay t.c1.c13),.i .u8 (pay t.c1.c14),.i .u8 (pay t.c1.c15)⟩,⟨.i .u8 (pay t.c2.c0),.i .u8 (pay t.c2.c1),.i .u8 (pay t.c2.c2),.i .u8 (pay t.c2.c3),.i .u8 (pay t.c2.c4),.i .u8 (pay t.c2.c5),.i .u8 (pay t.c2.c6),.i .u8 (pay t.c2.c7),.i .u8 (pay t.c2.c8),.i .u8 (pay t.c2.c9),.i .u8 (pay t.c2.c10),.i .u8 (pay t.c2.c11),.i .u8 (pay t.c2.c12),.i .u8 (pay t.c2.c13),.i .u8 (pay t.c2.c14),.i .u8 (pay t.c2.c15)⟩,⟨.i .u8 (pay t.c3.c0),.i .u8 (pay t.c3.c1),.i .u8 (pay t.c3.c2),.i .u8 (pay t.c3.c3),.i .u8 (pay t.c3.c4),.i .u8 (pay t.c3.c5),.i .u8 (pay t.c3.c6),.i .u8 (pay t.c3.c7),.i .u8 (pay t.c3.c8),.i .u8 (pay t.c3.c9),.i .u8 (pay t.c3.c10),.i .u8 (pay t.c3.c11),.i .u8 (pay t.c3.c12),.i .u8 (pay t.c3.c13),.i .u8 (pay t.c3.c14),.i .u8 (pay t.c3.c15)⟩,⟨.i .u8 (pay t.c4.c0),.i .u8 (pay t.c4.c1),.i .u8 (pay t.c4.c2),.i .u8 (pay t.c4.c3),.i .u8 (pay t.c4.c4),.i .u8 (pay t.c4.c5),.i .u8 (pay t.c4.c6),.i .u8 (pay t.c4.c7),.i .u8 (pay t.c4.c8),.i .i64 (pay t.c4.c9),.i .u64 (pay t.c4.c10),t.c4.c11,t.c4.c12,t.c4.c13,t.c4.c14,t.c4.c15⟩,t.c5,t.c6,t.c7,t.c8,t.c9,t.c10,t.c11,t.c12,t.c13,t.c14,t.c15⟩
 rw [← e0,← e1,← e2,← e3,← e4,← e5,← e6,← e7,← e8,← e9,← e10,← e11,← e12,← e13,← e14,← e15,← e16,← e17,← e18,← e19,← e20,← e21,← e22,← e23,← e24,← e25,← e26,← e27,← e28,← e29,← e30,← e31,← e32,← e33,← e34,← e35,← e36,← e37,← e38,← e39,← e40,← e41,← e42,← e43,← e44,← e45,← e46,← e47,← e48,← e49,← e50,← e51,← e52,← e53,← e54,← e55,← e56,← e57,← e58,← e59,← e60,← e61,← e62,← e63,← e64,← e65,← e66,← e67,← e68,← e69,← e70,← e71,← e72,← e73,← e74]
theorem Q2t (s : Int) (h : HI) (b : Nat → Int) (n t : Int) (r0 r1 r2 r3 r4 : V) (q : Nat → A1) : ∀ i,i < 75 → VP (C.at_ (hshC s h b n t r0 r1 r2 r3 r4 q) i)
 | 0,_=>VP.i _ _
 | 1,_=>VP.i _ _
 | 2,_=>VP.i _ _
 | 3,_=>VP.i _ _
 | 4,_=>VP.i _ _
 | 5,_=>VP.i _ _
 | 6,_=>VP.i _ _
 | 7,_=>VP.i _ _
 | 8,_=>VP.i _ _
 | 9,_=>VP.i _ _
 | 10,_=>VP.i _ _
 | 11,_=>VP.i _ _
 | 12,_=>VP.i _ _
 | 13,_=>VP.i _ _
 | 14,_=>VP.i _ _
 | 15,_=>VP.i _ _
 | 16,_=>VP.i _ _
 | 17,_=>VP.i _ _
 | 18,_=>VP.i _ _
 | 19,_=>VP.i _ _
 | 20,_=>VP.i _ _
 | 21,_=>VP.i _ _
 | 22,_=>VP.i _ _
 | 23,_=>VP.i _ _
 | 24,_=>VP.i _ _
 | 25,_=>VP.i _ _
 | 26,_=>VP.i _ _
 | 27,_=>VP.i _ _
 | 28,_=>VP.i _ _
 | 29,_=>VP.i _ _
 | 30,_=>VP.i _ _
 | 31,_=>VP.i _ _
 | 32,_=>VP.i _ _
 | 33,_=>VP.i _ _
 | 34,_=>VP.i _ _
 | 35,_=>VP.i _ _
 | 36,_=>VP.i _ _
 | 37,_=>VP.i _ _
 | 38,_=>VP.i _ _
 | 39,_=>VP.i _ _
 | 40,_=>VP.i _ _
 | 41,_=>VP.i _ _
 | 42,_=>VP.i _ _
 | 43,_=>VP.i _ _
 | 44,_=>VP.i _ _
 | 45,_=>VP.i _ _
 | 46,_=>VP.i _ _
 | 47,_=>VP.i _ _
 | 48,_=>VP.i _ _
 | 49,_=>VP.i _ _
 | 50,_=>VP.i _ _
 | 51,_=>VP.i _ _
 | 52,_=>VP.i _ _
 | 53,_=>VP.i _ _
 | 54,_=>VP.i _ _
 | 55,_=>VP.i _ _
 | 56,_=>VP.i _ _
 | 57,_=>VP.i _ _
 | 58,_=>VP.i _ _
 | 59,_=>VP.i _ _
 | 60,_=>VP.i _ _
 | 61,_=>VP.i _ _
 | 62,_=>VP.i _ _
 | 63,_=>VP.i _ _
 | 64,_=>VP.i _ _
 | 65,_=>VP.i _ _
 | 66,_=>VP.i _ _
 | 67,_=>VP.i _ _
 | 68,_=>VP.i _ _
 | 69,_=>VP.i _ _
 | 70,_=>VP.i _ _
 | 71,_=>VP.i _ _
 | 72,_=>VP.i _ _
 | 73,_=>VP.i _ _
 | 74,_=>VP.i _ _
 | i + 75,h=>absurd h (by omega)
def Q4w (vs : List V) (h : H) : Option (V × H) :=
 match vs with
 | [.p b o,.i .i64 many,.b last]=>Bool.rec none (match h.get b with
  | .cells n c z=>Bool.rec none (match c with
   | .l2 t=>Bool.rec none (some (.tu [],h.upd b (.cells 75 (hshO t (cpI (hOf t) (wmI (bOf t)) (J2e (tOf t) (wrY .u64 many)) last) (J2e (tOf t) (wrY .u64 many))) z))) (okH t)
   | _=>none) (Nat.beq n 75)
  | _=>none) (Nat.beq o 0)
 | _=>none
theorem G0f (n0 : Nat) (vs : List V) (h : H) (v : V) (h' : H) (he : rcB (.h Q4w) vs h = .ok v h') : CallOK Tryz.prog (bsG n0) 267 vs h (.ok v h'):=by
 have he2 : rcO (Q4w vs h) = .ok v h':=he
 unfold Q4w at he2
 split at he2
 ·rename_i b o many last
  cases ho : Nat.beq o 0 <;> rw [ho] at he2
  ·cases he2
  simp only at he2
  split at he2
  ·rename_i n c z hb
   cases hn : Nat.beq n 75 <;> rw [hn] at he2
   ·cases he2
   simp only at he2
   split at he2
   ·rename_i t
    cases hk : okH t <;> rw [hk] at he2
    ·cases he2
    cases he2
    have e1:=Nat.eq_of_beq_eq_true ho
    have e2:=Nat.eq_of_beq_eq_true hn
    subst e1; subst e2
    rw [G7b hk] at hb
    have hrun : ∃ h0,J5k bt0 267 [.p 0 0,.i .i64 many,.b last] (H.one (.cells 75 (hshO t (hOf t) (tOf t)) z)) = .ok (.tu []) h0 ∧ h0.get 0 = .cells 75 (hshO t (cpI (hOf t) (wmI (bOf t)) (J2e (tOf t) (wrY .u64 many)) last) (J2e (tOf t) (wrY .u64 many))) z:=by
     have key : ∀ {x : RC} {v : V} {o : O},(fun x=>RC.rec (motive:=fun _=>Option (V × O)) (fun v h=>some (v,h.get 0)) (fun _ _=>none) none x) x = some (v,o) → ∃ h0,x = .ok v h0 ∧ h0.get 0 = o:=by
      intro x v o hx
      cases x with
      | ok v' h'=>cases hx; exact ⟨h',rfl,rfl⟩
      | pn _ _=>cases hx
      | bad=>cases hx
     cases last
     ·exact key (G6u _ _ _ _ _ _ _ _ _ _ _ _ _)
     ·exact key (G6t _ _ _ _ _ _ _ _ _ _ _ _ _)
    obtain ⟨h0,g1,g2⟩:=hrun
    have hc:=J6l BG.nil g1 n0
    refine hc.frame1 hb (by simp) (by simp) (OI.cells id fun i hi μ μ' y=>Q2t _ _ _ _ _ _ _ _ _ _ _ i hi μ μ' y) g2 (OI.cells id fun i hi μ μ' y=>Q2t _ _ _ _ _ _ _ _ _ _ _ i hi μ μ' y) ?_ (VP.tu VPs.nil)
    intro μ y hy
    obtain ⟨x1,x2,x3,rfl,k1,k2,k3⟩:=vrs3 hy
    refine VRs.cons_mk ?_ (VRs.cons_mk (VP.i _ _ _ _ _ k2) (VRs.cons_mk (VP.b _ _ _ _ k3) (VRs.nil_iff.2 rfl)))
    simp only [VR] at k1 ⊢
    obtain ⟨g,q,m1,m2⟩:=k1
    exact ⟨g,q,by simpa [M.one] using m1,m2⟩
   ·cases he2
  ·cases he2
 ·cases he2
end Go.X
namespace Go.X
open Go Go.RowKit Go.Proofs
def HI.at (v : HI) (k : Nat) : Int:=Nat.rec (motive:=fun _=>Int) v.h0 (fun k _=>Nat.rec (motive:=fun _=>Int) v.h1 (fun k _=>Nat.rec (motive:=fun _=>Int) v.h2 (fun k _=>Nat.rec (motive:=fun _=>Int) v.h3 (fun k _=>Nat.rec (motive:=fun _=>Int) v.h4 (fun k _=>Nat.rec (motive:=fun _=>Int) v.h5 (fun k _=>Nat.rec (motive:=fun _=>Int) v.h6 (fun k _=>v.h7) k) k) k) k) k) k) k
structure HT2 where
 h : HI
 t : Int
def stepS (f : Nat → Int) (j : Nat) (s : HT2) : HT2:=⟨cpI s.h (wmI fun i=>f (Nat.add (Nat.mul 64 j) i)) (J2e s.t (wrY .u64 (.ofNat 64))) false,J2e s.t (wrY .u64 (.ofNat 64))⟩
def stepsS (f : Nat → Int) (n : Nat) (s : HT2) : HT2:=Nat.rec (motive:=fun _=>HT2) s (fun j ih=>stepS f j ih) n
def ivS : HT2:=⟨⟨.ofNat 1795745351,.ofNat 3144134277,.ofNat 1013904242,.ofNat 2773480762,.ofNat 1359893119,.ofNat 2600822924,.ofNat 528734635,.ofNat 1541459225⟩,.ofNat 0⟩
def sumI (f : Nat → Int) (T : Nat) : Nat → Int :=
 (fun nb=>(fun many=>(fun s=>(fun h j=>wrY .u8 (Q4j (HI.at h (Nat.div j 4)) (Nat.mul 8 (Nat.mod j 4)))) (cpI s.h (wmI fun i=>Bool.rec (.ofNat 0) (f (Nat.add (Nat.mul 64 nb) i)) (Nat.ble (Nat.succ i) many)) (J2e s.t (wrY .u64 (.ofNat many))) true)) (stepsS f nb ivS)) (Nat.sub T (Nat.mul 64 nb))) (Nat.div (Nat.sub T 1) 64)
def G6y (key : Nat → Int) (kl : Nat) (by_ : Nat) (f : Nat → Int) (l : Nat) : Nat → Int :=
 sumI (fun i=>Bool.rec (f (Nat.sub i 64)) (J5q .xor .u8 (Bool.rec (.ofNat 0) (key i) (Nat.ble (Nat.succ i) kl)) (.ofNat by_)) (Nat.ble (Nat.succ i) 64)) (Nat.add 64 l)
def J8s (key : Nat → Int) (kl : Nat) (f : Nat → Int) (l : Nat) : Nat → Int:=G6y key kl 92 (G6y key kl 54 f l) 32
def G9g (prk : Nat → Int) : Nat → Int:=J8s prk 32 (fun _=>.ofNat 1) 1
def G9f (prk last : Nat → Int) (k : Nat) : Nat → Int:=J8s prk 32 (fun i=>Bool.rec (.ofNat k) (last i) (Nat.ble (Nat.succ i) 32)) 33
def J9s (m : Nat → Int) : C:=.l2 ⟨⟨bI (m 0),bI (m 1),bI (m 2),bI (m 3),bI (m 4),bI (m 5),bI (m 6),bI (m 7),bI (m 8),bI (m 9),bI (m 10),bI (m 11),bI (m 12),bI (m 13),bI (m 14),bI (m 15)⟩,⟨bI (m 16),bI (m 17),bI (m 18),bI (m 19),bI (m 20),bI (m 21),bI (m 22),bI (m 23),bI (m 24),bI (m 25),bI (m 26),bI (m 27),bI (m 28),bI (m 29),bI (m 30),bI (m 31)⟩,A1.nil,A1.nil,A1.nil,A1.nil,A1.nil,A1.nil,A1.nil,A1.nil,A1.nil,A1.nil,A1.nil,A1.nil,A1.nil,A1.nil⟩
def btK : BT:=btC 267 (.h Q4w) bt0
theorem G3q : BG btK:=BG.nil.cons G0f
def G6s (x : RC) : Option (V × O):=RC.rec (motive:=fun _=>Option (V × O)) (fun v h=>some (v,h.get 0)) (fun _ _=>none) none x
def twoI (prk : Nat → Int) : V:=(fun a=>.tu [kv a,kv (G9f prk a 2)]) (G9g prk)
def W1b (prk : Nat → Int) : V:=(fun a=>(fun b=>.tu [kv a,kv b,kv (G9f prk b 3)]) (G9f prk a 2)) (G9g prk)
theorem G5t (k : Nat → Int) : U2s (J5k btK 273 [kv k,.sn] H.e) = some (twoI (J8s k 32 (fun _=>.ofNat 0) 0)):=by kernel_rfl
theorem Q3w (k m : Nat → Int) (cap : Nat) (ex z : Bool) : G6s (J5k btK 273 [kv k,.sl 0 0 32 cap ex] (H.one (.cells 32 (J9s m) z))) = some (twoI (J8s k 32 m 32),.cells 32 (J9s m) z):=by kernel_rfl
theorem W6p (k m : Nat → Int) (cap : Nat) (ex z : Bool) : G6s (J5k btK 296 [kv k,.sl 0 0 32 cap ex] (H.one (.cells 32 (J9s m) z))) = some (W1b (J8s k 32 m 32),.cells 32 (J9s m) z):=by kernel_rfl
end Go.X
end
