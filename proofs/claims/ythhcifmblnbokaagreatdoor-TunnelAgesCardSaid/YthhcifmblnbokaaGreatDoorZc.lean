/- Plain law: tags under keys, keys out of keys, on numbers. -/
import Derived.Test.YthhcifmblnbokaaGreatDoorZb
import Derived.Lib.BytesEntry
import Derived.Test.YthhcifmblnbokaaGreatDoorXj
set_option linter.all false
set_option maxRecDepth 100000
noncomputable section
namespace Go.X
open Go Go.RowKit Go.Proofs
def cpF (h : HN) (m : WN) (t : Nat) (last : Bool) : HN:=cpN h m t last fun x=>x
theorem J5p {h : HN} {m : WN} {t : Nat} (last : Bool) (hh : h.ok) (hm : m.ok) (ht : t < 18446744073709551616) : (cpF h m t last).ok ∧ cpI h.i m.i (.ofNat t) last = (cpF h m t last).i ∧ ∀ {α : Type} (K : HN → α),cpN h m t last K = K (cpF h m t last):=by
 obtain ⟨h',h1,h2,h3⟩:=cp_ok last hh hm ht
 have e : cpF h m t last = h':=h3 fun x=>x
 rw [e]
 exact ⟨h1,h2,h3⟩
def dgI (h : HI) (j : Nat) : Int:=wrY .u8 (Q4j (HI.at h (Nat.div j 4)) (Nat.mul 8 (Nat.mod j 4)))
def HN.at (v : HN) (k : Nat) : Nat:=match k with | 0=>v.h0 | 1=>v.h1 | 2=>v.h2 | 3=>v.h3 | 4=>v.h4 | 5=>v.h5 | 6=>v.h6 | _=>v.h7
theorem HN.at_i (v : HN) : ∀ k,k < 8 → v.i.at k = .ofNat (v.at k)
 | 0,_=>rfl
 | 1,_=>rfl
 | 2,_=>rfl
 | 3,_=>rfl
 | 4,_=>rfl
 | 5,_=>rfl
 | 6,_=>rfl
 | 7,_=>rfl
 | k + 8,h=>absurd h (by omega)
theorem HN.at_lt {v : HN} (h : v.ok) : ∀ k,k < 8 → v.at k < 4294967296
 | 0,_=>h.k0
 | 1,_=>h.k1
 | 2,_=>h.k2
 | 3,_=>h.k3
 | 4,_=>h.k4
 | 5,_=>h.k5
 | 6,_=>h.k6
 | 7,_=>h.k7
 | k + 8,h=>absurd h (by omega)
def dgF (h : HN) (j : Nat) : Nat:=(h.at (j / 4) >>> (8 * (j % 4))) % 256
theorem G2u (h : HN) : BY (dgI h.i) (dgF h) 32:=by
 intro j hj
 refine ⟨?_,Nat.mod_lt _ (by decide)⟩
 have h1 : Nat.div j 4 = j / 4:=rfl
 have h2 : Nat.mul 8 (Nat.mod j 4) = 8 * (j % 4):=rfl
 unfold dgI dgF
 rw [h1,h2,HN.at_i _ _ (by omega),byteW (by omega)]
theorem dig4 {x : Nat} (hx : x < 4294967296) : leS 8 (fun k=>(x >>> (8 * k)) % 256) 4 = x:=by
 rw [leS4]
 simp only [Nat.shiftRight_eq_div_pow]
 have e1 : (2 : Nat) ^ (8 * 1) = 256:=by decide
 have e2 : (2 : Nat) ^ (8 * 2) = 65536:=by decide
 have e3 : (2 : Nat) ^ (8 * 3) = 16777216:=by decide
 have e0 : (2 : Nat) ^ (8 * 0) = 1:=by decide
 rw [e0,e1,e2,e3]
 omega
theorem W3e {g g' : Nat → Nat} {w : Nat} (h : ∀ k,k < 4 → g (4 * w + k) = g' k) : wG g w = leS 8 g' 4:=Q6v h
theorem wG_dg {h : HN} (hh : h.ok) {g : Nat → Nat} {w : Nat} (hw : w < 8) (hg : ∀ k,k < 4 → g (4 * w + k) = dgF h (4 * w + k)) : wG g w = h.at w:=by
 rw [W3e (g':=fun k=>(h.at w >>> (8 * k)) % 256) fun k hk=>?_]
 ·exact dig4 (HN.at_lt hh w hw)
 ·rw [hg k hk]
  unfold dgF
  rw [show (4 * w + k) / 4 = w by omega,show (4 * w + k) % 4 = k by omega]
theorem wG_0 {g : Nat → Nat} {w : Nat} (hg : ∀ k,k < 4 → g (4 * w + k) = 0) : wG g w = 0:=by
 rw [W3e (g':=fun _=>0) hg]; decide
def xF (f : Nat → Nat) (p i : Nat) : Nat:=(if i < 32 then f i else 0) ^^^ p
def mF (g : Nat → Nat) (l i : Nat) : Nat:=if i < l then g i else 0
theorem U8h {f : Nat → Nat} (hf : ∀ i,i < 32 → f i < 256) {p P : Nat} (hp : p < 256) (hP : leS 8 (fun _=>p) 4 = P) {w : Nat} (hw : w < 8) : wG (xF f p) w = Nat.xor (wdN (leS 8 f 32) (32 * w)) P:=by
 rw [W0y hf w (by omega),W3e (g':=fun k=>f (4 * w + k) ^^^ p) fun k hk=>by unfold xF; rw [if_pos (by omega)]]
 rw [← hP]
 exact Q6t (by decide) (fun i hi=>hf _ (by omega)) (fun _ _=>hp)
theorem U8g {f : Nat → Nat} {p P : Nat} (hP : leS 8 (fun _=>p) 4 = P) {w : Nat} (hw : 8 ≤ w) : wG (xF f p) w = P:=by
 rw [W3e (g':=fun _=>p) fun k hk=>by unfold xF; rw [if_neg (by omega),Nat.zero_xor],hP]
theorem P54 : leS 8 (fun _=>54) 4 = 909522486:=by decide
theorem P92 : leS 8 (fun _=>92) 4 = 1549556828:=by decide
theorem G4f {f : Nat → Nat} (hf : ∀ i,i < 32 → f i < 256) : WG (xF f 54) = kiN (leS 8 f 32):=by
 unfold WG kiN
 rw [show wG (xF f 54) 0 = Nat.xor (wdN (leS 8 f 32) 0) 909522486 from U8h hf (by decide) P54 (w:=0) (by decide),show wG (xF f 54) 1 = Nat.xor (wdN (leS 8 f 32) 32) 909522486 from U8h hf (by decide) P54 (w:=1) (by decide),show wG (xF f 54) 2 = Nat.xor (wdN (leS 8 f 32) 64) 909522486 from U8h hf (by decide) P54 (w:=2) (by decide),show wG (xF f 54) 3 = Nat.xor (wdN (leS 8 f 32) 96) 909522486 from U8h hf (by decide) P54 (w:=3) (by decide),show wG (xF f 54) 4 = Nat.xor (wdN (leS 8 f 32) 128) 909522486 from U8h hf (by decide) P54 (w:=4) (by decide),show wG (xF f 54) 5 = Nat.xor (wdN (leS 8 f 32) 160) 909522486 from U8h hf (by decide) P54 (w:=5) (by decide),show wG (xF f 54) 6 = Nat.xor (wdN (leS 8 f 32) 192) 909522486 from U8h hf (by decide) P54 (w:=6) (by decide),show wG (xF f 54) 7 = Nat.xor (wdN (leS 8 f 32) 224) 909522486 from U8h hf (by decide) P54 (w:=7) (by decide),U8g (f:=f) P54 (w:=8) (by decide),U8g (f:=f) P54 (w:=9) (by decide),U8g (f:=f) P54 (w:=10) (by decide),U8g (f:=f) P54 (w:=11) (by decide),U8g (f:=f) P54 (w:=12) (by decide),U8g (f:=f) P54 (w:=13) (by decide),U8g (f:=f) P54 (w:=14) (by decide),U8g (f:=f) P54 (w:=15) (by decide)]
theorem Q8n {f : Nat → Nat} (hf : ∀ i,i < 32 → f i < 256) : WG (xF f 92) = koN (leS 8 f 32):=by
 unfold WG koN
 rw [show wG (xF f 92) 0 = Nat.xor (wdN (leS 8 f 32) 0) 1549556828 from U8h hf (by decide) P92 (w:=0) (by decide),show wG (xF f 92) 1 = Nat.xor (wdN (leS 8 f 32) 32) 1549556828 from U8h hf (by decide) P92 (w:=1) (by decide),show wG (xF f 92) 2 = Nat.xor (wdN (leS 8 f 32) 64) 1549556828 from U8h hf (by decide) P92 (w:=2) (by decide),show wG (xF f 92) 3 = Nat.xor (wdN (leS 8 f 32) 96) 1549556828 from U8h hf (by decide) P92 (w:=3) (by decide),show wG (xF f 92) 4 = Nat.xor (wdN (leS 8 f 32) 128) 1549556828 from U8h hf (by decide) P92 (w:=4) (by decide),show wG (xF f 92) 5 = Nat.xor (wdN (leS 8 f 32) 160) 1549556828 from U8h hf (by decide) P92 (w:=5) (by decide),show wG (xF f 92) 6 = Nat.xor (wdN (leS 8 f 32) 192) 1549556828 from U8h hf (by decide) P92 (w:=6) (by decide),show wG (xF f 92) 7 = Nat.xor (wdN (leS 8 f 32) 224) 1549556828 from U8h hf (by decide) P92 (w:=7) (by decide),U8g (f:=f) P92 (w:=8) (by decide),U8g (f:=f) P92 (w:=9) (by decide),U8g (f:=f) P92 (w:=10) (by decide),U8g (f:=f) P92 (w:=11) (by decide),U8g (f:=f) P92 (w:=12) (by decide),U8g (f:=f) P92 (w:=13) (by decide),U8g (f:=f) P92 (w:=14) (by decide),U8g (f:=f) P92 (w:=15) (by decide)]
theorem G9d {g : Nat → Nat} (hg : ∀ i,i < 32 → g i < 256) {w : Nat} (hw : w < 8) : wG (mF g 32) w = wdN (leS 8 g 32) (32 * w):=by
 rw [W0y hg w (by omega)]
 exact W3e fun k hk=>by unfold mF; rw [if_pos (by omega)]
theorem J4e {g : Nat → Nat} {l w : Nat} (hw : l ≤ 4 * w) : wG (mF g l) w = 0:=wG_0 fun k hk=>by unfold mF; rw [if_neg (by omega)]
theorem WG_m {g : Nat → Nat} (hg : ∀ i,i < 32 → g i < 256) : WG (mF g 32) = mwN (leS 8 g 32):=by
 unfold WG mwN
 rw [show wG (mF g 32) 0 = wdN (leS 8 g 32) 0 from G9d hg (w:=0) (by decide),show wG (mF g 32) 1 = wdN (leS 8 g 32) 32 from G9d hg (w:=1) (by decide),show wG (mF g 32) 2 = wdN (leS 8 g 32) 64 from G9d hg (w:=2) (by decide),show wG (mF g 32) 3 = wdN (leS 8 g 32) 96 from G9d hg (w:=3) (by decide),show wG (mF g 32) 4 = wdN (leS 8 g 32) 128 from G9d hg (w:=4) (by decide),show wG (mF g 32) 5 = wdN (leS 8 g 32) 160 from G9d hg (w:=5) (by decide),show wG (mF g 32) 6 = wdN (leS 8 g 32) 192 from G9d hg (w:=6) (by decide),show wG (mF g 32) 7 = wdN (leS 8 g 32) 224 from G9d hg (w:=7) (by decide),J4e (g:=g) (l:=32) (w:=8) (by decide),J4e (g:=g) (l:=32) (w:=9) (by decide),J4e (g:=g) (l:=32) (w:=10) (by decide),J4e (g:=g) (l:=32) (w:=11) (by decide),J4e (g:=g) (l:=32) (w:=12) (by decide),J4e (g:=g) (l:=32) (w:=13) (by decide),J4e (g:=g) (l:=32) (w:=14) (by decide),J4e (g:=g) (l:=32) (w:=15) (by decide)]
theorem wG_1 {g : Nat → Nat} {l w x : Nat} (hl : l = 4 * w + 1) (hx : g (4 * w) = x) : wG (mF g l) w = x:=by
 rw [W3e (g':=fun k=>if k = 0 then x else 0) fun k hk=>?_]
 ·rw [leS4]; simp
 ·unfold mF
  by_cases e : k = 0
  ·subst e; rw [if_pos (by omega),if_pos rfl]; exact hx
  ·rw [if_neg (by omega),if_neg e]
theorem WG_d {h : HN} (hh : h.ok) : WG (mF (dgF h) 32) = hwN h 0:=by
 have key : ∀ w,w < 8 → wG (mF (dgF h) 32) w = h.at w:=fun w hw=>wG_dg hh hw fun k hk=>by unfold mF; rw [if_pos (by omega)]
 unfold WG hwN
 rw [key 0 (by decide),key 1 (by decide),key 2 (by decide),key 3 (by decide),key 4 (by decide),key 5 (by decide),key 6 (by decide),key 7 (by decide),J4e (g:=dgF h) (l:=32) (w:=8) (by decide),J4e (g:=dgF h) (l:=32) (w:=9) (by decide),J4e (g:=dgF h) (l:=32) (w:=10) (by decide),J4e (g:=dgF h) (l:=32) (w:=11) (by decide),J4e (g:=dgF h) (l:=32) (w:=12) (by decide),J4e (g:=dgF h) (l:=32) (w:=13) (by decide),J4e (g:=dgF h) (l:=32) (w:=14) (by decide),J4e (g:=dgF h) (l:=32) (w:=15) (by decide)]
 rfl
theorem WG_e {h : HN} (hh : h.ok) {g : Nat → Nat} {x : Nat} (hg : ∀ i,i < 32 → g i = dgF h i) (hx : g 32 = x) : WG (mF g 33) = hwN h x:=by
 have key : ∀ w,w < 8 → wG (mF g 33) w = h.at w:=fun w hw=>wG_dg hh hw fun k hk=>by unfold mF; rw [if_pos (by omega)]; exact hg _ (by omega)
 unfold WG hwN
 rw [key 0 (by decide),key 1 (by decide),key 2 (by decide),key 3 (by decide),key 4 (by decide),key 5 (by decide),key 6 (by decide),key 7 (by decide),wG_1 (w:=8) (x:=x) rfl hx,J4e (g:=g) (l:=33) (w:=9) (by decide),J4e (g:=g) (l:=33) (w:=10) (by decide),J4e (g:=g) (l:=33) (w:=11) (by decide),J4e (g:=g) (l:=33) (w:=12) (by decide),J4e (g:=g) (l:=33) (w:=13) (by decide),J4e (g:=g) (l:=33) (w:=14) (by decide),J4e (g:=g) (l:=33) (w:=15) (by decide)]
 rfl
theorem WG_o : WG (mF (fun _=>1) 1) = oneW:=by
 unfold WG oneW
 rw [wG_1 (w:=0) (x:=1) rfl rfl,J4e (g:=fun _=>1) (l:=1) (w:=1) (by decide),J4e (g:=fun _=>1) (l:=1) (w:=2) (by decide),J4e (g:=fun _=>1) (l:=1) (w:=3) (by decide),J4e (g:=fun _=>1) (l:=1) (w:=4) (by decide),J4e (g:=fun _=>1) (l:=1) (w:=5) (by decide),J4e (g:=fun _=>1) (l:=1) (w:=6) (by decide),J4e (g:=fun _=>1) (l:=1) (w:=7) (by decide),J4e (g:=fun _=>1) (l:=1) (w:=8) (by decide),J4e (g:=fun _=>1) (l:=1) (w:=9) (by decide),J4e (g:=fun _=>1) (l:=1) (w:=10) (by decide),J4e (g:=fun _=>1) (l:=1) (w:=11) (by decide),J4e (g:=fun _=>1) (l:=1) (w:=12) (by decide),J4e (g:=fun _=>1) (l:=1) (w:=13) (by decide),J4e (g:=fun _=>1) (l:=1) (w:=14) (by decide),J4e (g:=fun _=>1) (l:=1) (w:=15) (by decide)]
theorem W3d {f : Nat → Nat} (hf : ∀ i,i < 32 → f i < 256) {p : Nat} (hp : p < 256) (i : Nat) : xF f p i < 256:=by
 unfold xF
 split
 ·exact Nat.xor_lt_two_pow (n:=8) (hf _ (by omega)) hp
 ·rw [Nat.zero_xor]; exact hp
theorem G1c {g : Nat → Nat} {l : Nat} (hg : ∀ i,i < l → g i < 256) (i : Nat) : mF g l i < 256:=by
 unfold mF
 split
 ·exact hg _ (by omega)
 ·decide
def U4r (key : Nat → Int) (p : Nat) (msg : Nat → Int) (i : Nat) : Int:=Bool.rec (msg (Nat.sub i 64)) (J5q .xor .u8 (Bool.rec (.ofNat 0) (key i) (Nat.ble (Nat.succ i) 32)) (.ofNat p)) (Nat.ble (Nat.succ i) 64)
theorem G1z : ivS.h = ivN.i:=rfl
theorem U3g : ivN.ok:=⟨by decide,by decide,by decide,by decide,by decide,by decide,by decide,by decide⟩
theorem t64 : J2e (.ofNat 0) (wrY .u64 (.ofNat 64)) = .ofNat 64:=by decide +kernel
theorem t65 : J2e (J2e (.ofNat 0) (wrY .u64 (.ofNat 64))) (wrY .u64 (.ofNat 1)) = .ofNat 65:=by decide +kernel
theorem t96 : J2e (J2e (.ofNat 0) (wrY .u64 (.ofNat 64))) (wrY .u64 (.ofNat 32)) = .ofNat 96:=by decide +kernel
theorem t97 : J2e (J2e (.ofNat 0) (wrY .u64 (.ofNat 64))) (wrY .u64 (.ofNat 33)) = .ofNat 97:=by decide +kernel
theorem sum64 (key : Nat → Int) (p : Nat) (msg : Nat → Int) (j : Nat) : G6y key 32 p msg 0 j = dgI (cpI ivS.h (wmI fun i=>Bool.rec (.ofNat 0) (U4r key p msg (Nat.add (Nat.mul 64 0) i)) (Nat.ble (Nat.succ i) 64)) (J2e (.ofNat 0) (wrY .u64 (.ofNat 64))) true) j:=by kernel_rfl
theorem sum65 (key : Nat → Int) (p : Nat) (msg : Nat → Int) (j : Nat) : G6y key 32 p msg 1 j = dgI (cpI (cpI ivS.h (wmI fun i=>U4r key p msg (Nat.add (Nat.mul 64 0) i)) (J2e (.ofNat 0) (wrY .u64 (.ofNat 64))) false) (wmI fun i=>Bool.rec (.ofNat 0) (U4r key p msg (Nat.add (Nat.mul 64 1) i)) (Nat.ble (Nat.succ i) 1)) (J2e (J2e (.ofNat 0) (wrY .u64 (.ofNat 64))) (wrY .u64 (.ofNat 1))) true) j:=by kernel_rfl
theorem sum96 (key : Nat → Int) (p : Nat) (msg : Nat → Int) (j : Nat) : G6y key 32 p msg 32 j = dgI (cpI (cpI ivS.h (wmI fun i=>U4r key p msg (Nat.add (Nat.mul 64 0) i)) (J2e (.ofNat 0) (wrY .u64 (.ofNat 64))) false) (wmI fun i=>Bool.rec (.ofNat 0) (U4r key p msg (Nat.add (Nat.mul 64 1) i)) (Nat.ble (Nat.succ i) 32)) (J2e (J2e (.ofNat 0) (wrY .u64 (.ofNat 64))) (wrY .u64 (.ofNat 32))) true) j:=by kernel_rfl
theorem sum97 (key : Nat → Int) (p : Nat) (msg : Nat → Int) (j : Nat) : G6y key 32 p msg 33 j = dgI (cpI (cpI ivS.h (wmI fun i=>U4r key p msg (Nat.add (Nat.mul 64 0) i)) (J2e (.ofNat 0) (wrY .u64 (.ofNat 64))) false) (wmI fun i=>Bool.rec (.ofNat 0) (U4r key p msg (Nat.add (Nat.mul 64 1) i)) (Nat.ble (Nat.succ i) 33)) (J2e (J2e (.ofNat 0) (wrY .u64 (.ofNat 64))) (wrY .u64 (.ofNat 33))) true) j:=by kernel_rfl
theorem G8o {a b : Nat} (h : b < a) : Nat.ble a b = false:=by
 cases hb : Nat.ble a b with
 | false=>rfl
 | true=>have:=Nat.le_of_ble_eq_true hb; omega
theorem U4s {key : Nat → Int} {f : Nat → Nat} (hk : BY key f 32) {p : Nat} (hp : p < 256) (msg : Nat → Int) {i : Nat} (hi : i < 64) : U4r key p msg i = .ofNat (xF f p i) ∧ xF f p i < 256:=by
 refine ⟨?_,W3d (fun i hi=>(hk i hi).2) hp i⟩
 unfold U4r xF
 rw [Nat.ble_eq_true_of_le (show Nat.succ i ≤ 64 by omega)]
 by_cases h : i < 32
 ·rw [Nat.ble_eq_true_of_le (show Nat.succ i ≤ 32 by omega),if_pos h]
  obtain ⟨e,hl⟩:=hk i h
  show J5q .xor .u8 (key i) (.ofNat p) = _
  rw [e]
  exact J1q (op:=.xor) (k:=.u8) (by show _ ≤ 255; omega) (by show _ ≤ 255; omega)
 ·rw [G8o (show 32 < Nat.succ i by omega),if_neg h]
  show J5q .xor .u8 (.ofNat 0) (.ofNat p) = _
  exact J1q (op:=.xor) (k:=.u8) (by decide) (by show _ ≤ 255; omega)
theorem W1q {key msg : Nat → Int} {g : Nat → Nat} {l p : Nat} (hm : BY msg g l) {i : Nat} (hi : i < 64) : (Bool.rec (.ofNat 0) (U4r key p msg (Nat.add (Nat.mul 64 1) i)) (Nat.ble (Nat.succ i) l) : Int) = .ofNat (mF g l i) ∧ mF g l i < 256:=by
 refine ⟨?_,G1c (fun i hi=>(hm i hi).2) i⟩
 unfold mF
 by_cases h : i < l
 ·rw [Nat.ble_eq_true_of_le (show Nat.succ i ≤ l by omega),if_pos h]
  show U4r key p msg (64 + i) = _
  unfold U4r
  rw [G8o (show 64 < Nat.succ (64 + i) by omega)]
  show msg (64 + i - 64) = _
  rw [show 64 + i - 64 = i by omega]
  exact (hm i h).1
 ·rw [G8o (show l < Nat.succ i by omega),if_neg h]
def iF (k : Nat) : HN:=cpF ivN (kiN k) 64 false
def oF (k : Nat) : HN:=cpF ivN (koN k) 64 false
theorem WGo {g : Nat → Nat} (h : ∀ i,g i < 256) : (WG g).ok:=WG_ok fun i _=>h i
section
variable {key msg : Nat → Int} {f g : Nat → Nat} (hk : BY key f 32)
include hk
theorem kf : ∀ i,i < 32 → f i < 256:=fun i hi=>(hk i hi).2
theorem iF_ok : (iF (leS 8 f 32)).ok ∧ cpI ivS.h (wmI fun i=>U4r key 54 msg (Nat.add (Nat.mul 64 0) i)) (.ofNat 64) false = (iF (leS 8 f 32)).i:=by
 have hw : (kiN (leS 8 f 32)).ok:=by rw [← G4f (kf hk)]; exact WGo (W3d (kf hk) (by decide))
 obtain ⟨h1,h2,_⟩:=J5p (t:=64) false U3g hw (by decide)
 refine ⟨h1,?_⟩
 have e : wmI (fun i=>U4r key 54 msg (Nat.add (Nat.mul 64 0) i)) = (WG (xF f 54)).i:=J7s fun i hi=>by
  have : Nat.add (Nat.mul 64 0) i = i:=by show 64 * 0 + i = i; omega
  rw [this]; exact U4s hk (by decide) msg hi
 rw [e,G4f (kf hk),G1z,h2]; rfl
theorem oF_ok : (oF (leS 8 f 32)).ok ∧ cpI ivS.h (wmI fun i=>U4r key 92 msg (Nat.add (Nat.mul 64 0) i)) (.ofNat 64) false = (oF (leS 8 f 32)).i:=by
 have hw : (koN (leS 8 f 32)).ok:=by rw [← Q8n (kf hk)]; exact WGo (W3d (kf hk) (by decide))
 obtain ⟨h1,h2,_⟩:=J5p (t:=64) false U3g hw (by decide)
 refine ⟨h1,?_⟩
 have e : wmI (fun i=>U4r key 92 msg (Nat.add (Nat.mul 64 0) i)) = (WG (xF f 92)).i:=J7s fun i hi=>by
  have : Nat.add (Nat.mul 64 0) i = i:=by show 64 * 0 + i = i; omega
  rw [this]; exact U4s hk (by decide) msg hi
 rw [e,Q8n (kf hk),G1z,h2]; rfl
theorem U7j {l : Nat} (hl : l = 1 ∨ l = 32 ∨ l = 33) (hm : BY msg g l) (j : Nat) : G6y key 32 54 msg l j = dgI (cpF (iF (leS 8 f 32)) (WG (mF g l)) (64 + l) true).i j ∧ (cpF (iF (leS 8 f 32)) (WG (mF g l)) (64 + l) true).ok:=by
 obtain ⟨h1,h2⟩:=iF_ok (msg:=msg) hk
 have hw : (WG (mF g l)).ok:=WGo (G1c fun i hi=>(hm i hi).2)
 obtain ⟨h3,h4,_⟩:=J5p (t:=64 + l) true h1 hw (by omega)
 refine ⟨?_,h3⟩
 have e : wmI (fun i=>Bool.rec (.ofNat 0) (U4r key 54 msg (Nat.add (Nat.mul 64 1) i)) (Nat.ble (Nat.succ i) l)) = (WG (mF g l)).i:=J7s fun i hi=>W1q hm hi
 rcases hl with rfl | rfl | rfl
 ·rw [sum65,t65,t64,h2,e,h4]
 ·rw [sum96,t96,t64,h2,e,h4]
 ·rw [sum97,t97,t64,h2,e,h4]
theorem W0d (j : Nat) : G6y key 32 54 msg 0 j = dgI (cpF ivN (kiN (leS 8 f 32)) 64 true).i j ∧ (cpF ivN (kiN (leS 8 f 32)) 64 true).ok:=by
 have hw : (kiN (leS 8 f 32)).ok:=by rw [← G4f (kf hk)]; exact WGo (W3d (kf hk) (by decide))
 obtain ⟨h1,h2,_⟩:=J5p (t:=64) true U3g hw (by decide)
 refine ⟨?_,h1⟩
 have e : wmI (fun i=>Bool.rec (.ofNat 0) (U4r key 54 msg (Nat.add (Nat.mul 64 0) i)) (Nat.ble (Nat.succ i) 64)) = (WG (xF f 54)).i:=J7s fun i hi=>by
  have : Nat.add (Nat.mul 64 0) i = i:=by show 64 * 0 + i = i; omega
  rw [this,Nat.ble_eq_true_of_le (show Nat.succ i ≤ 64 by omega)]; exact U4s hk (by decide) msg hi
 rw [sum64,t64,e,G4f (kf hk),G1z,h2]
theorem G0k {d : HN} (hd : d.ok) {inn : Nat → Int} (hi : ∀ j,inn j = dgI d.i j) : ∃ t : HN,t = cpF (oF (leS 8 f 32)) (hwN d 0) 96 true ∧ t.ok ∧ ∀ j,G6y key 32 92 inn 32 j = dgI t.i j:=by
 refine ⟨_,rfl,?_⟩
 have hm : BY inn (dgF d) 32:=fun j hj=>by rw [hi]; exact G2u d j hj
 obtain ⟨h1,h2⟩:=oF_ok (msg:=inn) hk
 have hw : (WG (mF (dgF d) 32)).ok:=WGo (G1c fun i hi=>(hm i hi).2)
 obtain ⟨h3,h4,_⟩:=J5p (t:=96) true h1 hw (by decide)
 rw [← WG_d hd]
 refine ⟨h3,fun j=>?_⟩
 have e : wmI (fun i=>Bool.rec (.ofNat 0) (U4r key 92 inn (Nat.add (Nat.mul 64 1) i)) (Nat.ble (Nat.succ i) 32)) = (WG (mF (dgF d) 32)).i:=J7s fun i hi=>W1q hm hi
 rw [sum96,t96,t64,h2,e,h4]
end
end Go.X
namespace Go.X
open Go Go.RowKit Go.Proofs
theorem Q2o (h : HN) : nmN h = leS 32 h.at 8:=by
 simp only [leS,HN.at]
 unfold nmN
 simp only [Nat.add_eq,Nat.mul_eq]
 omega
theorem G2v (h : HN) : ∀ i,i < 32 → dgF h i < 256:=fun i _=>Nat.mod_lt _ (by decide)
theorem dg_le {h : HN} (hh : h.ok) : leS 8 (dgF h) 32 = nmN h:=by
 rw [Q2o]
 apply Nat.eq_of_testBit_eq
 intro j
 by_cases hj : j < 256
 ·have k1:=J2h (m:=8) (n:=32) (f:=dgF h) (G2v h) (j / 8) (j % 8) (by omega) (by omega)
  have k2:=J2h (m:=32) (n:=8) (f:=h.at) (HN.at_lt hh) (j / 32) (j % 32) (by omega) (by omega)
  rw [show 8 * (j / 8) + j % 8 = j by omega] at k1
  rw [show 32 * (j / 32) + j % 32 = j by omega] at k2
  rw [k1,k2]
  unfold dgF
  rw [show (256 : Nat) = 2 ^ 8 by decide,Nat.testBit_mod_two_pow,Nat.testBit_shiftRight,show j / 8 / 4 = j / 32 by omega,show 8 * (j / 8 % 4) + j % 8 = j % 32 by omega]
  have : j % 8 < 8:=by omega
  simp [this]
 ·have h1 : (2 : Nat) ^ 256 ≤ 2 ^ j:=Nat.pow_le_pow_right (by decide) (by omega)
  have h2 : leS 8 (dgF h) 32 < 2 ^ 256:=J6w (m:=8) (n:=32) (G2v h)
  have h3 : leS 32 h.at 8 < 2 ^ 256:=J6w (m:=32) (n:=8) (HN.at_lt hh)
  rw [Nat.testBit_lt_two_pow (Nat.lt_of_lt_of_le h2 h1),Nat.testBit_lt_two_pow (Nat.lt_of_lt_of_le h3 h1)]
theorem G2h {h : HN} (hh : h.ok) {F : Nat → Int} (hF : ∀ j,F j = dgI h.i j) : kv F = hV h:=by
 have key : kv F = .ag (toV 32 (nmN h)):=kv_of fun j hj=>by
  rw [hF,(G2u h j hj).1,Q2o]
  have hd:=G1h (p:=8) (q:=4) (m:=32) (n:=8) (j:=j) (f:=h.at) rfl (by decide) (fun i hi=>by rw [show (2 : Nat) ^ 32 = 4294967296 by decide]; exact HN.at_lt hh i hi) (by omega)
  rw [show (2 : Nat) ^ 8 = 256 by decide] at hd
  exact congrArg Int.ofNat hd.symm
 rw [key]
 unfold hV
 rw [J3u]
section
variable {key msg : Nat → Int} {f g : Nat → Nat} (hk : BY key f 32)
include hk
theorem G2f {l : Nat} (hl : l = 1 ∨ l = 32 ∨ l = 33) (hm : BY msg g l) : ∃ t : HN,t = cpF (oF (leS 8 f 32)) (hwN (cpF (iF (leS 8 f 32)) (WG (mF g l)) (64 + l) true) 0) 96 true ∧ t.ok ∧ ∀ j,J8s key 32 msg l j = dgI t.i j :=
 G0k hk (U7j hk hl hm 0).2 fun j=>(U7j hk hl hm j).1
theorem Q7k : ∃ t : HN,t = cpF (oF (leS 8 f 32)) (hwN (cpF ivN (kiN (leS 8 f 32)) 64 true) 0) 96 true ∧ t.ok ∧ ∀ j,J8s key 32 msg 0 j = dgI t.i j :=
 G0k hk (W0d (msg:=msg) hk 0).2 fun j=>(W0d hk j).1
theorem Q2q : (kiN (leS 8 f 32)).ok:=by rw [← G4f (kf hk)]; exact WGo (W3d (kf hk) (by decide))
theorem koW_ok : (koN (leS 8 f 32)).ok:=by rw [← Q8n (kf hk)]; exact WGo (W3d (kf hk) (by decide))
theorem iK {α : Type} (K : HN → α) : cpN ivN (kiN (leS 8 f 32)) 64 false K = K (iF (leS 8 f 32)):=(J5p (t:=64) false U3g (Q2q hk) (by decide)).2.2 K
theorem oK {α : Type} (K : HN → α) : cpN ivN (koN (leS 8 f 32)) 64 false K = K (oF (leS 8 f 32)):=(J5p (t:=64) false U3g (koW_ok hk) (by decide)).2.2 K
theorem hw_ok {d : HN} (hd : d.ok) : (hwN d 0).ok:=by rw [← WG_d hd]; exact WGo (G1c (G2v d))
theorem o2K {d : HN} (hd : d.ok) {α : Type} (K : HN → α) : cpN (oF (leS 8 f 32)) (hwN d 0) 96 true K = K (cpF (oF (leS 8 f 32)) (hwN d 0) 96 true):=(J5p (t:=96) true (oF_ok (msg:=fun _=>.ofNat 0) hk).1 (hw_ok hk hd) (by decide)).2.2 K
theorem i2K {l : Nat} (hl : l = 1 ∨ l = 32 ∨ l = 33) (hm : BY msg g l) {α : Type} (K : HN → α) : cpN (iF (leS 8 f 32)) (WG (mF g l)) (64 + l) true K = K (cpF (iF (leS 8 f 32)) (WG (mF g l)) (64 + l) true) :=
 (J5p (t:=64 + l) true (iF_ok (msg:=msg) hk).1 (WGo (G1c fun i hi=>(hm i hi).2)) (by omega)).2.2 K
end
theorem G2p {key msg : Nat → Int} {f g : Nat → Nat} (hk : BY key f 32) (hm : BY msg g 32) : ∃ t : HN,t.ok ∧ (∀ j,J8s key 32 msg 32 j = dgI t.i j) ∧ ∀ {α : Type} (K : HN → α),exN (leS 8 f 32) (leS 8 g 32) K = K t:=by
 obtain ⟨t,e,h1,h2⟩:=G2f hk (.inr (.inl rfl)) hm
 refine ⟨t,h1,h2,fun K=>?_⟩
 unfold exN
 rw [iK hk]
 have:=i2K hk (.inr (.inl rfl)) hm (fun d=>cpN ivN (koN (leS 8 f 32)) 64 false fun o=>cpN o (hwN d 0) 96 true K)
 rw [WG_m (fun i hi=>(hm i hi).2)] at this e
 rw [this,oK hk,o2K hk,e]
 rw [← WG_m (fun i hi=>(hm i hi).2)]
 exact (U7j hk (.inr (.inl rfl)) hm 0).2
theorem Q7q {key : Nat → Int} (msg : Nat → Int) {f : Nat → Nat} (hk : BY key f 32) : ∃ t : HN,t.ok ∧ (∀ j,J8s key 32 msg 0 j = dgI t.i j) ∧ ∀ {α : Type} (K : HN → α),ex0N (leS 8 f 32) K = K t:=by
 obtain ⟨t,e,h1,h2⟩:=Q7k (msg:=msg) hk
 refine ⟨t,h1,h2,fun K=>?_⟩
 unfold ex0N
 rw [(J5p (t:=64) true U3g (Q2q hk) (by decide)).2.2,oK hk,o2K hk (W0d (msg:=msg) hk 0).2,e]
theorem U4i {prk last : Nat → Int} {f : Nat → Nat} (hk : BY prk f 32) {a : HN} (ha : a.ok) (hl : ∀ j,last j = dgI a.i j) {x : Nat} (hx : x < 256) : ∃ t : HN,t.ok ∧ (∀ j,G9f prk last x j = dgI t.i j) ∧ ∀ {α : Type} (K : HN → α),(cpN (iF (leS 8 f 32)) (hwN a x) 97 true fun d=>cpN (oF (leS 8 f 32)) (hwN d 0) 96 true K) = K t:=by
 have hm : BY (fun i=>Bool.rec (.ofNat x) (last i) (Nat.ble (Nat.succ i) 32)) (fun i=>if i < 32 then dgF a i else x) 33:=by
  intro i hi
  simp only
  by_cases h : i < 32
  ·rw [Nat.ble_eq_true_of_le (show Nat.succ i ≤ 32 by omega),if_pos h]
   show last i = _ ∧ _
   rw [hl]; exact G2u a i h
  ·rw [G8o (show 32 < Nat.succ i by omega),if_neg h]
   exact ⟨rfl,hx⟩
 have ew : WG (mF (fun i=>if i < 32 then dgF a i else x) 33) = hwN a x:=WG_e ha (fun i hi=>by rw [if_pos hi]) (by rw [if_neg (by decide)])
 obtain ⟨t,e,h1,h2⟩:=G2f hk (.inr (.inr rfl)) hm
 refine ⟨t,h1,h2,fun K=>?_⟩
 have h3:=i2K hk (.inr (.inr rfl)) hm (fun d=>cpN (oF (leS 8 f 32)) (hwN d 0) 96 true K)
 have h4:=(U7j hk (.inr (.inr rfl)) hm 0).2
 rw [ew] at h3 e h4
 have h5 : cpN (iF (leS 8 f 32)) (hwN a x) 97 true (fun d=>cpN (oF (leS 8 f 32)) (hwN d 0) 96 true K) = _:=h3
 rw [h5,o2K hk h4,e]
theorem W1d {prk : Nat → Int} {f : Nat → Nat} (hk : BY prk f 32) : ∃ t : HN,t.ok ∧ (∀ j,G9g prk j = dgI t.i j) ∧ ∀ {α : Type} (K : HN → α),(cpN (iF (leS 8 f 32)) oneW 65 true fun d=>cpN (oF (leS 8 f 32)) (hwN d 0) 96 true K) = K t:=by
 have hm : BY (fun _=>.ofNat 1) (fun _=>1) 1:=fun i hi=>⟨rfl,(by decide : 1 < 256)⟩
 obtain ⟨t,e,h1,h2⟩:=G2f hk (.inl rfl) hm
 refine ⟨t,h1,h2,fun K=>?_⟩
 have h3:=i2K hk (.inl rfl) hm (fun d=>cpN (oF (leS 8 f 32)) (hwN d 0) 96 true K)
 have h4:=(U7j hk (.inl rfl) hm 0).2
 rw [WG_o] at h3 e h4
 have h5 : cpN (iF (leS 8 f 32)) oneW 65 true (fun d=>cpN (oF (leS 8 f 32)) (hwN d 0) 96 true K) = _:=h3
 rw [h5,o2K hk h4,e]
theorem W6l {prk : Nat → Int} {p : HN} (hp : p.ok) (h : ∀ j,prk j = dgI p.i j) : ∃ a b : HN,twoI prk = .tu [hV a,hV b] ∧ ∀ {α : Type} (K : HN → HN → α),twoN p K = K a b:=by
 have hk : BY prk (dgF p) 32:=fun j hj=>by rw [h]; exact G2u p j hj
 obtain ⟨a,a1,a2,a3⟩:=W1d hk
 obtain ⟨b,b1,b2,b3⟩:=U4i hk a1 a2 (x:=2) (by decide)
 refine ⟨a,b,?_,fun K=>?_⟩
 ·show V.tu [kv (G9g prk),kv (G9f prk (G9g prk) 2)] = _
  rw [G2h a1 a2,G2h b1 b2]
 ·unfold twoN
  rw [J3u,← dg_le hp,iK hk,oK hk,a3,b3]
theorem U6a {prk : Nat → Int} {p : HN} (hp : p.ok) (h : ∀ j,prk j = dgI p.i j) : ∃ a b c : HN,W1b prk = .tu [hV a,hV b,hV c] ∧ ∀ {α : Type} (K : HN → HN → HN → α),thrN p K = K a b c:=by
 have hk : BY prk (dgF p) 32:=fun j hj=>by rw [h]; exact G2u p j hj
 obtain ⟨a,a1,a2,a3⟩:=W1d hk
 obtain ⟨b,b1,b2,b3⟩:=U4i hk a1 a2 (x:=2) (by decide)
 obtain ⟨c,c1,c2,c3⟩:=U4i hk b1 b2 (x:=3) (by decide)
 refine ⟨a,b,c,?_,fun K=>?_⟩
 ·show V.tu [kv (G9g prk),kv (G9f prk (G9g prk) 2),kv (G9f prk (G9f prk (G9g prk) 2) 3)] = _
  rw [G2h a1 a2,G2h b1 b2,G2h c1 c2]
 ·unfold thrN
  rw [J3u,← dg_le hp,iK hk,oK hk,a3,b3,c3]
def sl32 {α : Type} (vs : List V) (h : H) (z0 : List V → α) (z1 : List V → List V → α) (no : α) : α :=
 match vs with
 | [.ag k,.sn]=>Bool.rec no (z0 k) (U1m 32 k)
 | [.ag k,.sl b o l cap ex]=>Bool.rec no (match h.get b with
  | .cells n c z=>Bool.rec no (z1 k (C.list c 32 0)) (Nat.beq n 32 && U1m 32 (C.list c 32 0))
  | _=>no) (Nat.beq o 0 && (Nat.beq l 32 && U1m 32 k))
 | _=>no
def twoG (vs : List V) (h : H) : Option (V × H) :=
 sl32 vs h (fun k=>ex0N (leV k) fun p=>twoN p fun a b=>some (.tu [hV a,hV b],h)) (fun k m=>exN (leV k) (leV m) fun p=>twoN p fun a b=>some (.tu [hV a,hV b],h)) none
def U6b (vs : List V) (h : H) : Option (V × H) :=
 sl32 vs h (fun k=>none) (fun k m=>exN (leV k) (leV m) fun p=>thrN p fun a b c=>some (.tu [hV a,hV b,hV c],h)) none
theorem vrs2 {μ : M} {a b : V} {ys : List Value} (h : VRs μ [a,b] ys) : ∃ x y,ys = [x,y] ∧ VR μ a x ∧ VR μ b y:=by
 obtain ⟨x,xs,rfl,h1,h2⟩:=VRs.cons_iff.1 h
 obtain ⟨y,ys,rfl,h3,h4⟩:=VRs.cons_iff.1 h2
 rw [VRs.nil_iff.1 h4]
 exact ⟨x,y,rfl,h1,h3⟩
theorem U9t (f : Nat → V) : ∀ (n i j : Nat),j < n → (tab f n i)[j]? = some (f (i + j))
 | 0,_,_,h=>by omega
 | n + 1,i,0,_=>rfl
 | n + 1,i,j + 1,h=>by
  show (tab f n (i + 1))[j]? = _
  rw [U9t f n (i + 1) j (by omega),show i + 1 + j = i + (j + 1) by omega]
theorem W1l (m : Nat → Int) : ∀ i,i < 32 → C.at_ (J9s m) i = bI (m i)
 | 0,_=>rfl
 | 1,_=>rfl
 | 2,_=>rfl
 | 3,_=>rfl
 | 4,_=>rfl
 | 5,_=>rfl
 | 6,_=>rfl
 | 7,_=>rfl
 | 8,_=>rfl
 | 9,_=>rfl
 | 10,_=>rfl
 | 11,_=>rfl
 | 12,_=>rfl
 | 13,_=>rfl
 | 14,_=>rfl
 | 15,_=>rfl
 | 16,_=>rfl
 | 17,_=>rfl
 | 18,_=>rfl
 | 19,_=>rfl
 | 20,_=>rfl
 | 21,_=>rfl
 | 22,_=>rfl
 | 23,_=>rfl
 | 24,_=>rfl
 | 25,_=>rfl
 | 26,_=>rfl
 | 27,_=>rfl
 | 28,_=>rfl
 | 29,_=>rfl
 | 30,_=>rfl
 | 31,_=>rfl
 | i + 32,h=>absurd h (by omega)
theorem U2b (h : HN) : VP (hV h):=by
 unfold hV
 rw [J3u]
 refine VP.ag ?_
 generalize nmN h = n
 have : ∀ k n,VPs (toV k n):=by
  intro k
  induction k with
  | zero=>exact fun n=>VPs.nil
  | succ k ih=>exact fun n=>VPs.cons (VP.i _ _) (ih _)
 exact this 32 n
theorem U2p {f : Nat} {res : (Nat → Int) → (Nat → Int) → V} (hrun : ∀ (k m : Nat → Int) (cap : Nat) (ex z : Bool),G6s (J5k btK f [kv k,.sl 0 0 32 cap ex] (H.one (.cells 32 (J9s m) z))) = some (res k m,.cells 32 (J9s m) z)) {n0 : Nat} {h : H} {k : Nat → Int} {b cap : Nat} {ex z : Bool} {c : C} (hb : h.get b = .cells 32 c z) {m : Nat → Int} (hm : ∀ i,i < 32 → C.at_ c i = bI (m i)) (hv : VP (res k m)) :
  CallOK Tryz.prog (bsG n0) f [kv k,.sl b 0 32 cap ex] h (.ok (res k m) h):=by
 have h1:=hrun k m cap ex z
 obtain ⟨h0,g1,g2⟩ : ∃ h0,J5k btK f [kv k,.sl 0 0 32 cap ex] (H.one (.cells 32 (J9s m) z)) = .ok (res k m) h0 ∧ h0.get 0 = .cells 32 (J9s m) z:=by
  unfold G6s at h1
  cases hx : J5k btK f [kv k,.sl 0 0 32 cap ex] (H.one (.cells 32 (J9s m) z)) with
  | ok v h' =>
   rw [hx] at h1
   have h2 : some (v,h'.get 0) = some (res k m,.cells 32 (J9s m) z):=h1
   simp only [Option.some.injEq,Prod.mk.injEq] at h2
   exact ⟨h',by rw [h2.1],h2.2⟩
  | pn _ _=>rw [hx] at h1; cases h1
  | bad=>rw [hx] at h1; cases h1
 have hc:=J6l G3q g1 n0
 refine CallOK.keep hb ?_
 refine hc.frame1 hb (by simp) (by simp) (OI.cells id fun i hi μ μ' y=>?_) g2 (OI.cells id fun i hi μ μ' y=>?_) ?_ hv
 ·rw [hm i hi,W1l m i hi]; exact VP.i _ _ μ μ' y
 ·rw [hm i hi,W1l m i hi]; exact VP.i _ _ μ μ' y
 ·intro μ y hy
  obtain ⟨x1,x2,rfl,k1,k2⟩:=vrs2 hy
  refine VRs.cons_mk (U1x k _ _ _ k1) (VRs.cons_mk ?_ (VRs.nil_iff.2 rfl))
  simp only [VR] at k2 ⊢
  obtain ⟨g,q,cc,m1,m2,m3,m4,m5⟩:=k2
  exact ⟨g,q,cc,by simpa [M.one] using m1,m2,m3,m4,fun he=>by have:=m5 he; simpa [M.one] using this⟩
theorem G1g {c : C} {f : Nat → Nat} (h : C.list c 32 0 = tab (fun j=>bI (.ofNat (f (j - 0)))) 32 0) : ∀ i,i < 32 → C.at_ c i = bI (.ofNat (f i)):=by
 intro i hi
 have h1:=C.list_get c 32 0 i hi
 have h2:=U9t (fun j=>bI (.ofNat (f (j - 0)))) 32 0 i hi
 rw [← h,h1] at h2
 have h3:=Option.some.inj h2
 rw [Nat.zero_add] at h3
 exact h3
theorem Q3x (n0 : Nat) (vs : List V) (h : H) (v : V) (h' : H) (he : rcB (.h twoG) vs h = .ok v h') : CallOK Tryz.prog (bsG n0) 273 vs h (.ok v h'):=by
 have he2 : rcO (twoG vs h) = .ok v h':=he
 unfold twoG sl32 at he2
 split at he2
 ·rename_i k
  cases hk : U1m 32 k <;> rw [hk] at he2
  ·cases he2
  obtain ⟨f,f1,f2,f3⟩:=J1p 32 0 k hk
  have ek : V.ag k = kv fun i=>.ofNat (f i):=by rw [f2]; rfl
  have hkb : BY (fun i=>.ofNat (f i)) f 32:=fun i hi=>⟨rfl,f1 i hi⟩
  obtain ⟨p,p1,p2,p3⟩:=Q7q (fun _=>.ofNat 0) hkb
  obtain ⟨a,b,q1,q2⟩:=W6l p1 p2
  have he3 : rcO (ex0N (leV k) fun p=>twoN p fun a b=>some (V.tu [hV a,hV b],h)) = .ok v h':=he2
  rw [f3,p3,q2] at he3
  cases he3
  have hvp : VP (.tu [hV a,hV b]):=VP.tu (VPs.cons (U2b a) (VPs.cons (U2b b) VPs.nil))
  have:=run_pure G3q (G5t fun i=>.ofNat (f i)) (VPs.cons (U1x _) (VPs.cons VP.sn VPs.nil)) (by rw [q1]; exact hvp) n0 h
  rw [q1,← ek] at this
  exact this
 ·rename_i k b o l cap ex
  cases hok : (Nat.beq o 0 && (Nat.beq l 32 && U1m 32 k)) <;> rw [hok] at he2
  ·cases he2
  simp only at he2
  split at he2
  ·rename_i n c z hb
   cases hok2 : (Nat.beq n 32 && U1m 32 (C.list c 32 0)) <;> rw [hok2] at he2
   ·cases he2
   simp only [Bool.and_eq_true] at hok hok2
   have e1:=Nat.eq_of_beq_eq_true hok.1
   have e2:=Nat.eq_of_beq_eq_true hok.2.1
   have e3:=Nat.eq_of_beq_eq_true hok2.1
   subst e1; subst e2; subst e3
   obtain ⟨f,f1,f2,f3⟩:=J1p 32 0 k hok.2.2
   obtain ⟨g,g1,g2,g3⟩:=J1p 32 0 _ hok2.2
   have ek : V.ag k = kv fun i=>.ofNat (f i):=by rw [f2]; rfl
   have hkb : BY (fun i=>.ofNat (f i)) f 32:=fun i hi=>⟨rfl,f1 i hi⟩
   have hmb : BY (fun i=>.ofNat (g i)) g 32:=fun i hi=>⟨rfl,g1 i hi⟩
   obtain ⟨p,p1,p2,p3⟩:=G2p hkb hmb
   obtain ⟨a,b',q1,q2⟩:=W6l p1 p2
   have he3 : rcO (exN (leV k) (leV (C.list c 32 0)) fun p=>twoN p fun a b=>some (V.tu [hV a,hV b],h)) = .ok v h':=he2
   rw [f3,g3,p3,q2] at he3
   cases he3
   have hvp : VP (.tu [hV a,hV b']):=VP.tu (VPs.cons (U2b a) (VPs.cons (U2b b') VPs.nil))
   have:=U2p (f:=273) (res:=fun k m=>twoI (J8s k 32 m 32)) Q3w (n0:=n0) (k:=fun i=>.ofNat (f i)) (cap:=cap) (ex:=ex) hb (G1g g2) (by rw [q1]; exact hvp)
   rw [q1,← ek] at this
   exact this
  ·cases he2
 ·cases he2
theorem W6r (n0 : Nat) (vs : List V) (h : H) (v : V) (h' : H) (he : rcB (.h U6b) vs h = .ok v h') : CallOK Tryz.prog (bsG n0) 296 vs h (.ok v h'):=by
 have he2 : rcO (U6b vs h) = .ok v h':=he
 unfold U6b sl32 at he2
 split at he2
 ·rename_i k
  cases hk : U1m 32 k <;> rw [hk] at he2 <;> cases he2
 ·rename_i k b o l cap ex
  cases hok : (Nat.beq o 0 && (Nat.beq l 32 && U1m 32 k)) <;> rw [hok] at he2
  ·cases he2
  simp only at he2
  split at he2
  ·rename_i n c z hb
   cases hok2 : (Nat.beq n 32 && U1m 32 (C.list c 32 0)) <;> rw [hok2] at he2
   ·cases he2
   simp only [Bool.and_eq_true] at hok hok2
   have e1:=Nat.eq_of_beq_eq_true hok.1
   have e2:=Nat.eq_of_beq_eq_true hok.2.1
   have e3:=Nat.eq_of_beq_eq_true hok2.1
   subst e1; subst e2; subst e3
   obtain ⟨f,f1,f2,f3⟩:=J1p 32 0 k hok.2.2
   obtain ⟨g,g1,g2,g3⟩:=J1p 32 0 _ hok2.2
   have ek : V.ag k = kv fun i=>.ofNat (f i):=by rw [f2]; rfl
   have hkb : BY (fun i=>.ofNat (f i)) f 32:=fun i hi=>⟨rfl,f1 i hi⟩
   have hmb : BY (fun i=>.ofNat (g i)) g 32:=fun i hi=>⟨rfl,g1 i hi⟩
   obtain ⟨p,p1,p2,p3⟩:=G2p hkb hmb
   obtain ⟨a,b',c',q1,q2⟩:=U6a p1 p2
   have he3 : rcO (exN (leV k) (leV (C.list c 32 0)) fun p=>thrN p fun a b c=>some (V.tu [hV a,hV b,hV c],h)) = .ok v h':=he2
   rw [f3,g3,p3,q2] at he3
   cases he3
   have hvp : VP (.tu [hV a,hV b',hV c']):=VP.tu (VPs.cons (U2b a) (VPs.cons (U2b b') (VPs.cons (U2b c') VPs.nil)))
   have:=U2p (f:=296) (res:=fun k m=>W1b (J8s k 32 m 32)) W6p (n0:=n0) (k:=fun i=>.ofNat (f i)) (cap:=cap) (ex:=ex) hb (G1g g2) (by rw [q1]; exact hvp)
   rw [q1,← ek] at this
   exact this
  ·cases he2
 ·cases he2
end Go.X
namespace Go.X
open Go Go.RowKit Go.Proofs
def isR (k : IntKind) (v : V) : Bool:=match v with | .i k' (.ofNat n)=>Nat.beq (kno k') (kno k) && Nat.ble n (lim k) | _=>false
theorem J0b {k : IntKind} {v : V} (h : isR k v = true) : v = .i k (.ofNat (nuV v)) ∧ nuV v ≤ lim k ∧ pay v = .ofNat (nuV v) ∧ isK k v = true:=by
 unfold isR at h
 split at h
 ·rename_i k' n
  rw [Bool.and_eq_true] at h
  have e:=J1c (Nat.eq_of_beq_eq_true h.1)
  subst e
  exact ⟨rfl,Nat.le_of_ble_eq_true h.2,rfl,h.1⟩
 ·cases h
def rgR0 (t : A1) : Bool:=(isK .i64 t.c0 && (isR .u32 t.c1 && (isR .u32 t.c2 && (isR .u32 t.c3 && (isR .u32 t.c4 && (isR .u32 t.c5 && (isR .u32 t.c6 && (isR .u32 t.c7 && (isR .u32 t.c8 && (isR .u8 t.c9 && (isR .u8 t.c10 && (isR .u8 t.c11 && (isR .u8 t.c12 && (isR .u8 t.c13 && (isR .u8 t.c14 && isR .u8 t.c15)))))))))))))))
theorem Q4s {t : A1} (h : rgR0 t = true) : okR0 t = true:=by
 simp only [rgR0,Bool.and_eq_true] at h
 obtain ⟨h0,h1,h2,h3,h4,h5,h6,h7,h8,h9,h10,h11,h12,h13,h14,h15⟩:=h
 simp only [okR0,Bool.and_eq_true]
 exact ⟨h0,(J0b h1).2.2.2,(J0b h2).2.2.2,(J0b h3).2.2.2,(J0b h4).2.2.2,(J0b h5).2.2.2,(J0b h6).2.2.2,(J0b h7).2.2.2,(J0b h8).2.2.2,(J0b h9).2.2.2,(J0b h10).2.2.2,(J0b h11).2.2.2,(J0b h12).2.2.2,(J0b h13).2.2.2,(J0b h14).2.2.2,(J0b h15).2.2.2⟩
theorem G0a {t : A1} (h : rgR0 t = true) : (pay t.c1 = .ofNat (nuV t.c1) ∧ nuV t.c1 ≤ lim .u32) ∧ (pay t.c2 = .ofNat (nuV t.c2) ∧ nuV t.c2 ≤ lim .u32) ∧ (pay t.c3 = .ofNat (nuV t.c3) ∧ nuV t.c3 ≤ lim .u32) ∧ (pay t.c4 = .ofNat (nuV t.c4) ∧ nuV t.c4 ≤ lim .u32) ∧ (pay t.c5 = .ofNat (nuV t.c5) ∧ nuV t.c5 ≤ lim .u32) ∧ (pay t.c6 = .ofNat (nuV t.c6) ∧ nuV t.c6 ≤ lim .u32) ∧ (pay t.c7 = .ofNat (nuV t.c7) ∧ nuV t.c7 ≤ lim .u32) ∧ (pay t.c8 = .ofNat (nuV t.c8) ∧ nuV t.c8 ≤ lim .u32) ∧ (pay t.c9 = .ofNat (nuV t.c9) ∧ nuV t.c9 ≤ lim .u8) ∧ (pay t.c10 = .ofNat (nuV t.c10) ∧ nuV t.c10 ≤ lim .u8) ∧ (pay t.c11 = .ofNat (nuV t.c11) ∧ nuV t.c11 ≤ lim .u8) ∧ (pay t.c12 = .ofNat (nuV t.c12) ∧ nuV t.c12 ≤ lim .u8) ∧ (pay t.c13 = .ofNat (nuV t.c13) ∧ nuV t.c13 ≤ lim .u8) ∧ (pay t.c14 = .ofNat (nuV t.c14) ∧ nuV t.c14 ≤ lim .u8) ∧ (pay t.c15 = .ofNat (nuV t.c15) ∧ nuV t.c15 ≤ lim .u8):=by
 simp only [rgR0,Bool.and_eq_true] at h
 obtain ⟨h0,h1,h2,h3,h4,h5,h6,h7,h8,h9,h10,h11,h12,h13,h14,h15⟩:=h
 exact ⟨⟨(J0b h1).2.2.1,(J0b h1).2.1⟩,⟨(J0b h2).2.2.1,(J0b h2).2.1⟩,⟨(J0b h3).2.2.1,(J0b h3).2.1⟩,⟨(J0b h4).2.2.1,(J0b h4).2.1⟩,⟨(J0b h5).2.2.1,(J0b h5).2.1⟩,⟨(J0b h6).2.2.1,(J0b h6).2.1⟩,⟨(J0b h7).2.2.1,(J0b h7).2.1⟩,⟨(J0b h8).2.2.1,(J0b h8).2.1⟩,⟨(J0b h9).2.2.1,(J0b h9).2.1⟩,⟨(J0b h10).2.2.1,(J0b h10).2.1⟩,⟨(J0b h11).2.2.1,(J0b h11).2.1⟩,⟨(J0b h12).2.2.1,(J0b h12).2.1⟩,⟨(J0b h13).2.2.1,(J0b h13).2.1⟩,⟨(J0b h14).2.2.1,(J0b h14).2.1⟩,⟨(J0b h15).2.2.1,(J0b h15).2.1⟩⟩
def rgR1 (t : A1) : Bool:=(isR .u8 t.c0 && (isR .u8 t.c1 && (isR .u8 t.c2 && (isR .u8 t.c3 && (isR .u8 t.c4 && (isR .u8 t.c5 && (isR .u8 t.c6 && (isR .u8 t.c7 && (isR .u8 t.c8 && (isR .u8 t.c9 && (isR .u8 t.c10 && (isR .u8 t.c11 && (isR .u8 t.c12 && (isR .u8 t.c13 && (isR .u8 t.c14 && isR .u8 t.c15)))))))))))))))
theorem Q4r {t : A1} (h : rgR1 t = true) : okR1 t = true:=by
 simp only [rgR1,Bool.and_eq_true] at h
 obtain ⟨h0,h1,h2,h3,h4,h5,h6,h7,h8,h9,h10,h11,h12,h13,h14,h15⟩:=h
 simp only [okR1,Bool.and_eq_true]
 exact ⟨(J0b h0).2.2.2,(J0b h1).2.2.2,(J0b h2).2.2.2,(J0b h3).2.2.2,(J0b h4).2.2.2,(J0b h5).2.2.2,(J0b h6).2.2.2,(J0b h7).2.2.2,(J0b h8).2.2.2,(J0b h9).2.2.2,(J0b h10).2.2.2,(J0b h11).2.2.2,(J0b h12).2.2.2,(J0b h13).2.2.2,(J0b h14).2.2.2,(J0b h15).2.2.2⟩
theorem W9z {t : A1} (h : rgR1 t = true) : (pay t.c0 = .ofNat (nuV t.c0) ∧ nuV t.c0 ≤ lim .u8) ∧ (pay t.c1 = .ofNat (nuV t.c1) ∧ nuV t.c1 ≤ lim .u8) ∧ (pay t.c2 = .ofNat (nuV t.c2) ∧ nuV t.c2 ≤ lim .u8) ∧ (pay t.c3 = .ofNat (nuV t.c3) ∧ nuV t.c3 ≤ lim .u8) ∧ (pay t.c4 = .ofNat (nuV t.c4) ∧ nuV t.c4 ≤ lim .u8) ∧ (pay t.c5 = .ofNat (nuV t.c5) ∧ nuV t.c5 ≤ lim .u8) ∧ (pay t.c6 = .ofNat (nuV t.c6) ∧ nuV t.c6 ≤ lim .u8) ∧ (pay t.c7 = .ofNat (nuV t.c7) ∧ nuV t.c7 ≤ lim .u8) ∧ (pay t.c8 = .ofNat (nuV t.c8) ∧ nuV t.c8 ≤ lim .u8) ∧ (pay t.c9 = .ofNat (nuV t.c9) ∧ nuV t.c9 ≤ lim .u8) ∧ (pay t.c10 = .ofNat (nuV t.c10) ∧ nuV t.c10 ≤ lim .u8) ∧ (pay t.c11 = .ofNat (nuV t.c11) ∧ nuV t.c11 ≤ lim .u8) ∧ (pay t.c12 = .ofNat (nuV t.c12) ∧ nuV t.c12 ≤ lim .u8) ∧ (pay t.c13 = .ofNat (nuV t.c13) ∧ nuV t.c13 ≤ lim .u8) ∧ (pay t.c14 = .ofNat (nuV t.c14) ∧ nuV t.c14 ≤ lim .u8) ∧ (pay t.c15 = .ofNat (nuV t.c15) ∧ nuV t.c15 ≤ lim .u8):=by
 simp only [rgR1,Bool.and_eq_true] at h
 obtain ⟨h0,h1,h2,h3,h4,h5,h6,h7,h8,h9,h10,h11,h12,h13,h14,h15⟩:=h
 exact ⟨⟨(J0b h0).2.2.1,(J0b h0).2.1⟩,⟨(J0b h1).2.2.1,(J0b h1).2.1⟩,⟨(J0b h2).2.2.1,(J0b h2).2.1⟩,⟨(J0b h3).2.2.1,(J0b h3).2.1⟩,⟨(J0b h4).2.2.1,(J0b h4).2.1⟩,⟨(J0b h5).2.2.1,(J0b h5).2.1⟩,⟨(J0b h6).2.2.1,(J0b h6).2.1⟩,⟨(J0b h7).2.2.1,(J0b h7).2.1⟩,⟨(J0b h8).2.2.1,(J0b h8).2.1⟩,⟨(J0b h9).2.2.1,(J0b h9).2.1⟩,⟨(J0b h10).2.2.1,(J0b h10).2.1⟩,⟨(J0b h11).2.2.1,(J0b h11).2.1⟩,⟨(J0b h12).2.2.1,(J0b h12).2.1⟩,⟨(J0b h13).2.2.1,(J0b h13).2.1⟩,⟨(J0b h14).2.2.1,(J0b h14).2.1⟩,⟨(J0b h15).2.2.1,(J0b h15).2.1⟩⟩
def rgR2 (t : A1) : Bool:=(isR .u8 t.c0 && (isR .u8 t.c1 && (isR .u8 t.c2 && (isR .u8 t.c3 && (isR .u8 t.c4 && (isR .u8 t.c5 && (isR .u8 t.c6 && (isR .u8 t.c7 && (isR .u8 t.c8 && (isR .u8 t.c9 && (isR .u8 t.c10 && (isR .u8 t.c11 && (isR .u8 t.c12 && (isR .u8 t.c13 && (isR .u8 t.c14 && isR .u8 t.c15)))))))))))))))
theorem Q4q {t : A1} (h : rgR2 t = true) : okR2 t = true:=by
 simp only [rgR2,Bool.and_eq_true] at h
 obtain ⟨h0,h1,h2,h3,h4,h5,h6,h7,h8,h9,h10,h11,h12,h13,h14,h15⟩:=h
 simp only [okR2,Bool.and_eq_true]
 exact ⟨(J0b h0).2.2.2,(J0b h1).2.2.2,(J0b h2).2.2.2,(J0b h3).2.2.2,(J0b h4).2.2.2,(J0b h5).2.2.2,(J0b h6).2.2.2,(J0b h7).2.2.2,(J0b h8).2.2.2,(J0b h9).2.2.2,(J0b h10).2.2.2,(J0b h11).2.2.2,(J0b h12).2.2.2,(J0b h13).2.2.2,(J0b h14).2.2.2,(J0b h15).2.2.2⟩
theorem W9y {t : A1} (h : rgR2 t = true) : (pay t.c0 = .ofNat (nuV t.c0) ∧ nuV t.c0 ≤ lim .u8) ∧ (pay t.c1 = .ofNat (nuV t.c1) ∧ nuV t.c1 ≤ lim .u8) ∧ (pay t.c2 = .ofNat (nuV t.c2) ∧ nuV t.c2 ≤ lim .u8) ∧ (pay t.c3 = .ofNat (nuV t.c3) ∧ nuV t.c3 ≤ lim .u8) ∧ (pay t.c4 = .ofNat (nuV t.c4) ∧ nuV t.c4 ≤ lim .u8) ∧ (pay t.c5 = .ofNat (nuV t.c5) ∧ nuV t.c5 ≤ lim .u8) ∧ (pay t.c6 = .ofNat (nuV t.c6) ∧ nuV t.c6 ≤ lim .u8) ∧ (pay t.c7 = .ofNat (nuV t.c7) ∧ nuV t.c7 ≤ lim .u8) ∧ (pay t.c8 = .ofNat (nuV t.c8) ∧ nuV t.c8 ≤ lim .u8) ∧ (pay t.c9 = .ofNat (nuV t.c9) ∧ nuV t.c9 ≤ lim .u8) ∧ (pay t.c10 = .ofNat (nuV t.c10) ∧ nuV t.c10 ≤ lim .u8) ∧ (pay t.c11 = .ofNat (nuV t.c11) ∧ nuV t.c11 ≤ lim .u8) ∧ (pay t.c12 = .ofNat (nuV t.c12) ∧ nuV t.c12 ≤ lim .u8) ∧ (pay t.c13 = .ofNat (nuV t.c13) ∧ nuV t.c13 ≤ lim .u8) ∧ (pay t.c14 = .ofNat (nuV t.c14) ∧ nuV t.c14 ≤ lim .u8) ∧ (pay t.c15 = .ofNat (nuV t.c15) ∧ nuV t.c15 ≤ lim .u8):=by
 simp only [rgR2,Bool.and_eq_true] at h
 obtain ⟨h0,h1,h2,h3,h4,h5,h6,h7,h8,h9,h10,h11,h12,h13,h14,h15⟩:=h
 exact ⟨⟨(J0b h0).2.2.1,(J0b h0).2.1⟩,⟨(J0b h1).2.2.1,(J0b h1).2.1⟩,⟨(J0b h2).2.2.1,(J0b h2).2.1⟩,⟨(J0b h3).2.2.1,(J0b h3).2.1⟩,⟨(J0b h4).2.2.1,(J0b h4).2.1⟩,⟨(J0b h5).2.2.1,(J0b h5).2.1⟩,⟨(J0b h6).2.2.1,(J0b h6).2.1⟩,⟨(J0b h7).2.2.1,(J0b h7).2.1⟩,⟨(J0b h8).2.2.1,(J0b h8).2.1⟩,⟨(J0b h9).2.2.1,(J0b h9).2.1⟩,⟨(J0b h10).2.2.1,(J0b h10).2.1⟩,⟨(J0b h11).2.2.1,(J0b h11).2.1⟩,⟨(J0b h12).2.2.1,(J0b h12).2.1⟩,⟨(J0b h13).2.2.1,(J0b h13).2.1⟩,⟨(J0b h14).2.2.1,(J0b h14).2.1⟩,⟨(J0b h15).2.2.1,(J0b h15).2.1⟩⟩
def rgR3 (t : A1) : Bool:=(isR .u8 t.c0 && (isR .u8 t.c1 && (isR .u8 t.c2 && (isR .u8 t.c3 && (isR .u8 t.c4 && (isR .u8 t.c5 && (isR .u8 t.c6 && (isR .u8 t.c7 && (isR .u8 t.c8 && (isR .u8 t.c9 && (isR .u8 t.c10 && (isR .u8 t.c11 && (isR .u8 t.c12 && (isR .u8 t.c13 && (isR .u8 t.c14 && isR .u8 t.c15)))))))))))))))
theorem Q4p {t : A1} (h : rgR3 t = true) : okR3 t = true:=by
 simp only [rgR3,Bool.and_eq_true] at h
 obtain ⟨h0,h1,h2,h3,h4,h5,h6,h7,h8,h9,h10,h11,h12,h13,h14,h15⟩:=h
 simp only [okR3,Bool.and_eq_true]
 exact ⟨(J0b h0).2.2.2,(J0b h1).2.2.2,(J0b h2).2.2.2,(J0b h3).2.2.2,(J0b h4).2.2.2,(J0b h5).2.2.2,(J0b h6).2.2.2,(J0b h7).2.2.2,(J0b h8).2.2.2,(J0b h9).2.2.2,(J0b h10).2.2.2,(J0b h11).2.2.2,(J0b h12).2.2.2,(J0b h13).2.2.2,(J0b h14).2.2.2,(J0b h15).2.2.2⟩
theorem W9x {t : A1} (h : rgR3 t = true) : (pay t.c0 = .ofNat (nuV t.c0) ∧ nuV t.c0 ≤ lim .u8) ∧ (pay t.c1 = .ofNat (nuV t.c1) ∧ nuV t.c1 ≤ lim .u8) ∧ (pay t.c2 = .ofNat (nuV t.c2) ∧ nuV t.c2 ≤ lim .u8) ∧ (pay t.c3 = .ofNat (nuV t.c3) ∧ nuV t.c3 ≤ lim .u8) ∧ (pay t.c4 = .ofNat (nuV t.c4) ∧ nuV t.c4 ≤ lim .u8) ∧ (pay t.c5 = .ofNat (nuV t.c5) ∧ nuV t.c5 ≤ lim .u8) ∧ (pay t.c6 = .ofNat (nuV t.c6) ∧ nuV t.c6 ≤ lim .u8) ∧ (pay t.c7 = .ofNat (nuV t.c7) ∧ nuV t.c7 ≤ lim .u8) ∧ (pay t.c8 = .ofNat (nuV t.c8) ∧ nuV t.c8 ≤ lim .u8) ∧ (pay t.c9 = .ofNat (nuV t.c9) ∧ nuV t.c9 ≤ lim .u8) ∧ (pay t.c10 = .ofNat (nuV t.c10) ∧ nuV t.c10 ≤ lim .u8) ∧ (pay t.c11 = .ofNat (nuV t.c11) ∧ nuV t.c11 ≤ lim .u8) ∧ (pay t.c12 = .ofNat (nuV t.c12) ∧ nuV t.c12 ≤ lim .u8) ∧ (pay t.c13 = .ofNat (nuV t.c13) ∧ nuV t.c13 ≤ lim .u8) ∧ (pay t.c14 = .ofNat (nuV t.c14) ∧ nuV t.c14 ≤ lim .u8) ∧ (pay t.c15 = .ofNat (nuV t.c15) ∧ nuV t.c15 ≤ lim .u8):=by
 simp only [rgR3,Bool.and_eq_true] at h
 obtain ⟨h0,h1,h2,h3,h4,h5,h6,h7,h8,h9,h10,h11,h12,h13,h14,h15⟩:=h
 exact ⟨⟨(J0b h0).2.2.1,(J0b h0).2.1⟩,⟨(J0b h1).2.2.1,(J0b h1).2.1⟩,⟨(J0b h2).2.2.1,(J0b h2).2.1⟩,⟨(J0b h3).2.2.1,(J0b h3).2.1⟩,⟨(J0b h4).2.2.1,(J0b h4).2.1⟩,⟨(J0b h5).2.2.1,(J0b h5).2.1⟩,⟨(J0b h6).2.2.1,(J0b h6).2.1⟩,⟨(J0b h7).2.2.1,(J0b h7).2.1⟩,⟨(J0b h8).2.2.1,(J0b h8).2.1⟩,⟨(J0b h9).2.2.1,(J0b h9).2.1⟩,⟨(J0b h10).2.2.1,(J0b h10).2.1⟩,⟨(J0b h11).2.2.1,(J0b h11).2.1⟩,⟨(J0b h12).2.2.1,(J0b h12).2.1⟩,⟨(J0b h13).2.2.1,(J0b h13).2.1⟩,⟨(J0b h14).2.2.1,(J0b h14).2.1⟩,⟨(J0b h15).2.2.1,(J0b h15).2.1⟩⟩
def rgR4 (t : A1) : Bool:=(isR .u8 t.c0 && (isR .u8 t.c1 && (isR .u8 t.c2 && (isR .u8 t.c3 && (isR .u8 t.c4 && (isR .u8 t.c5 && (isR .u8 t.c6 && (isR .u8 t.c7 && (isR .u8 t.c8 && (isK .i64 t.c9 && isR .u64 t.c10))))))))))
theorem Q4o {t : A1} (h : rgR4 t = true) : okR4 t = true:=by
 simp only [rgR4,Bool.and_eq_true] at h
 obtain ⟨h0,h1,h2,h3,h4,h5,h6,h7,h8,h9,h10⟩:=h
 simp only [okR4,Bool.and_eq_true]
 exact ⟨(J0b h0).2.2.2,(J0b h1).2.2.2,(J0b h2).2.2.2,(J0b h3).2.2.2,(J0b h4).2.2.2,(J0b h5).2.2.2,(J0b h6).2.2.2,(J0b h7).2.2.2,(J0b h8).2.2.2,h9,(J0b h10).2.2.2⟩
theorem W9w {t : A1} (h : rgR4 t = true) : (pay t.c0 = .ofNat (nuV t.c0) ∧ nuV t.c0 ≤ lim .u8) ∧ (pay t.c1 = .ofNat (nuV t.c1) ∧ nuV t.c1 ≤ lim .u8) ∧ (pay t.c2 = .ofNat (nuV t.c2) ∧ nuV t.c2 ≤ lim .u8) ∧ (pay t.c3 = .ofNat (nuV t.c3) ∧ nuV t.c3 ≤ lim .u8) ∧ (pay t.c4 = .ofNat (nuV t.c4) ∧ nuV t.c4 ≤ lim .u8) ∧ (pay t.c5 = .ofNat (nuV t.c5) ∧ nuV t.c5 ≤ lim .u8) ∧ (pay t.c6 = .ofNat (nuV t.c6) ∧ nuV t.c6 ≤ lim .u8) ∧ (pay t.c7 = .ofNat (nuV t.c7) ∧ nuV t.c7 ≤ lim .u8) ∧ (pay t.c8 = .ofNat (nuV t.c8) ∧ nuV t.c8 ≤ lim .u8) ∧ (pay t.c10 = .ofNat (nuV t.c10) ∧ nuV t.c10 ≤ lim .u64):=by
 simp only [rgR4,Bool.and_eq_true] at h
 obtain ⟨h0,h1,h2,h3,h4,h5,h6,h7,h8,h9,h10⟩:=h
 exact ⟨⟨(J0b h0).2.2.1,(J0b h0).2.1⟩,⟨(J0b h1).2.2.1,(J0b h1).2.1⟩,⟨(J0b h2).2.2.1,(J0b h2).2.1⟩,⟨(J0b h3).2.2.1,(J0b h3).2.1⟩,⟨(J0b h4).2.2.1,(J0b h4).2.1⟩,⟨(J0b h5).2.2.1,(J0b h5).2.1⟩,⟨(J0b h6).2.2.1,(J0b h6).2.1⟩,⟨(J0b h7).2.2.1,(J0b h7).2.1⟩,⟨(J0b h8).2.2.1,(J0b h8).2.1⟩,⟨(J0b h10).2.2.1,(J0b h10).2.1⟩⟩
def rgH (t : A2) : Bool:=rgR0 t.c0 && (rgR1 t.c1 && (rgR2 t.c2 && (rgR3 t.c3 && rgR4 t.c4)))
def hnOf (t : A2) : HN:=⟨nuV t.c0.c1,nuV t.c0.c2,nuV t.c0.c3,nuV t.c0.c4,nuV t.c0.c5,nuV t.c0.c6,nuV t.c0.c7,nuV t.c0.c8⟩
def wnOf (t : A2) : WN:=⟨Nat.add (nuV t.c0.c9) (Nat.mul 256 (Nat.add (nuV t.c0.c10) (Nat.mul 256 (Nat.add (nuV t.c0.c11) (Nat.mul 256 (nuV t.c0.c12)))))),
 Nat.add (nuV t.c0.c13) (Nat.mul 256 (Nat.add (nuV t.c0.c14) (Nat.mul 256 (Nat.add (nuV t.c0.c15) (Nat.mul 256 (nuV t.c1.c0)))))),
 Nat.add (nuV t.c1.c1) (Nat.mul 256 (Nat.add (nuV t.c1.c2) (Nat.mul 256 (Nat.add (nuV t.c1.c3) (Nat.mul 256 (nuV t.c1.c4)))))),
 Nat.add (nuV t.c1.c5) (Nat.mul 256 (Nat.add (nuV t.c1.c6) (Nat.mul 256 (Nat.add (nuV t.c1.c7) (Nat.mul 256 (nuV t.c1.c8)))))),
 Nat.add (nuV t.c1.c9) (Nat.mul 256 (Nat.add (nuV t.c1.c10) (Nat.mul 256 (Nat.add (nuV t.c1.c11) (Nat.mul 256 (nuV t.c1.c12)))))),
 Nat.add (nuV t.c1.c13) (Nat.mul 256 (Nat.add (nuV t.c1.c14) (Nat.mul 256 (Nat.add (nuV t.c1.c15) (Nat.mul 256 (nuV t.c2.c0)))))),
 Nat.add (nuV t.c2.c1) (Nat.mul 256 (Nat.add (nuV t.c2.c2) (Nat.mul 256 (Nat.add (nuV t.c2.c3) (Nat.mul 256 (nuV t.c2.c4)))))),
 Nat.add (nuV t.c2.c5) (Nat.mul 256 (Nat.add (nuV t.c2.c6) (Nat.mul 256 (Nat.add (nuV t.c2.c7) (Nat.mul 256 (nuV t.c2.c8)))))),
 Nat.add (nuV t.c2.c9) (Nat.mul 256 (Nat.add (nuV t.c2.c10) (Nat.mul 256 (Nat.add (nuV t.c2.c11) (Nat.mul 256 (nuV t.c2.c12)))))),
 Nat.add (nuV t.c2.c13) (Nat.mul 256 (Nat.add (nuV t.c2.c14) (Nat.mul 256 (Nat.add (nuV t.c2.c15) (Nat.mul 256 (nuV t.c3.c0)))))),
 Nat.add (nuV t.c3.c1) (Nat.mul 256 (Nat.add (nuV t.c3.c2) (Nat.mul 256 (Nat.add (nuV t.c3.c3) (Nat.mul 256 (nuV t.c3.c4)))))),
 Nat.add (nuV t.c3.c5) (Nat.mul 256 (Nat.add (nuV t.c3.c6) (Nat.mul 256 (Nat.add (nuV t.c3.c7) (Nat.mul 256 (nuV t.c3.c8)))))),
 Nat.add (nuV t.c3.c9) (Nat.mul 256 (Nat.add (nuV t.c3.c10) (Nat.mul 256 (Nat.add (nuV t.c3.c11) (Nat.mul 256 (nuV t.c3.c12)))))),
 Nat.add (nuV t.c3.c13) (Nat.mul 256 (Nat.add (nuV t.c3.c14) (Nat.mul 256 (Nat.add (nuV t.c3.c15) (Nat.mul 256 (nuV t.c4.c0)))))),
 Nat.add (nuV t.c4.c1) (Nat.mul 256 (Nat.add (nuV t.c4.c2) (Nat.mul 256 (Nat.add (nuV t.c4.c3) (Nat.mul 256 (nuV t.c4.c4)))))),
 Nat.add (nuV t.c4.c5) (Nat.mul 256 (Nat.add (nuV t.c4.c6) (Nat.mul 256 (Nat.add (nuV t.c4.c7) (Nat.mul 256 (nuV t.c4.c8))))))⟩
def gOf (t : A2) (i : Nat) : Nat:=nuV (C.at2 t (qp (Nat.add 9 i)))
def nwT (t : A2) (h : HN) (x : Nat) : A2:=⟨⟨t.c0.c0,.i .u32 (.ofNat h.h0),.i .u32 (.ofNat h.h1),.i .u32 (.ofNat h.h2),.i .u32 (.ofNat h.h3),.i .u32 (.ofNat h.h4),.i .u32 (.ofNat h.h5),.i .u32 (.ofNat h.h6),.i .u32 (.ofNat h.h7),t.c0.c9,t.c0.c10,t.c0.c11,t.c0.c12,t.c0.c13,t.c0.c14,t.c0.c15⟩,t.c1,t.c2,t.c3,⟨t.c4.c0,t.c4.c1,t.c4.c2,t.c4.c3,t.c4.c4,t.c4.c5,t.c4.c6,t.c4.c7,t.c4.c8,t.c4.c9,.i .u64 (.ofNat x),t.c4.c11,t.c4.c12,t.c4.c13,t.c4.c14,t.c4.c15⟩,t.c5,t.c6,t.c7,t.c8,t.c9,t.c10,t.c11,t.c12,t.c13,t.c14,t.c15⟩
def prsF (vs : List V) (h : H) : Option (V × H) :=
 match vs with
 | [.p b o,.i .i64 (.ofNat many),.b last]=>Bool.rec none (match h.get b with
  | .cells n c z=>Bool.rec none (match c with
   | .l2 t=>Bool.rec none (frc (Nat.mod (Nat.add (nuV t.c4.c10) many) 18446744073709551616) fun x=>cpN (hnOf t) (wnOf t) x last fun g=>some (.tu [],h.upd b (.cells 75 (.l2 (nwT t g x)) z))) (rgH t)
   | _=>none) (Nat.beq n 75)
  | _=>none) (Nat.beq o 0 && Nat.ble many 64)
 | _=>none
theorem J6m {t : A2} (h : rgH t = true) : okH t = true ∧ (pay t.c0.c1 = .ofNat (nuV t.c0.c1) ∧ nuV t.c0.c1 ≤ lim .u32) ∧ (pay t.c0.c2 = .ofNat (nuV t.c0.c2) ∧ nuV t.c0.c2 ≤ lim .u32) ∧ (pay t.c0.c3 = .ofNat (nuV t.c0.c3) ∧ nuV t.c0.c3 ≤ lim .u32) ∧ (pay t.c0.c4 = .ofNat (nuV t.c0.c4) ∧ nuV t.c0.c4 ≤ lim .u32) ∧ (pay t.c0.c5 = .ofNat (nuV t.c0.c5) ∧ nuV t.c0.c5 ≤ lim .u32) ∧ (pay t.c0.c6 = .ofNat (nuV t.c0.c6) ∧ nuV t.c0.c6 ≤ lim .u32) ∧ (pay t.c0.c7 = .ofNat (nuV t.c0.c7) ∧ nuV t.c0.c7 ≤ lim .u32) ∧ (pay t.c0.c8 = .ofNat (nuV t.c0.c8) ∧ nuV t.c0.c8 ≤ lim .u32) ∧ (pay t.c0.c9 = .ofNat (nuV t.c0.c9) ∧ nuV t.c0.c9 ≤ lim .u8) ∧ (pay t.c0.c10 = .ofNat (nuV t.c0.c10) ∧ nuV t.c0.c10 ≤ lim .u8) ∧ (pay t.c0.c11 = .ofNat (nuV t.c0.c11) ∧ nuV t.c0.c11 ≤ lim .u8) ∧ (pay t.c0.c12 = .ofNat (nuV t.c0.c12) ∧ nuV t.c0.c12 ≤ lim .u8) ∧ (pay t.c0.c13 = .ofNat (nuV t.c0.c13) ∧ nuV t.c0.c13 ≤ lim .u8) ∧ (pay t.c0.c14 = .ofNat (nuV t.c0.c14) ∧ nuV t.c0.c14 ≤ lim .u8) ∧ (pay t.c0.c15 = .ofNat (nuV t.c0.c15) ∧ nuV t.c0.c15 ≤ lim .u8) ∧ (pay t.c1.c0 = .ofNat (nuV t.c1.c0) ∧ nuV t.c1.c0 ≤ lim .u8) ∧ (pay t.c1.c1 = .ofNat (nuV t.c1.c1) ∧ nuV t.c1.c1 ≤ lim .u8) ∧ (pay t.c1.c2 = .ofNat (nuV t.c1.c2) ∧ nuV t.c1.c2 ≤ lim .u8) ∧ (pay t.c1.c3 = .ofNat (nuV t.c1.c3) ∧ nuV t.c1.c3 ≤ lim .u8) ∧ (pay t.c1.c4 = .ofNat (nuV t.c1.c4) ∧ nuV t.c1.c4 ≤ lim .u8) ∧ (pay t.c1.c5 = .ofNat (nuV t.c1.c5) ∧ nuV t.c1.c5 ≤ lim .u8) ∧ (pay t.c1.c6 = .ofNat (nuV t.c1.c6) ∧ nuV t.c1.c6 ≤ lim .u8) ∧ (pay t.c1.c7 = .ofNat (nuV t.c1.c7) ∧ nuV t.c1.c7 ≤ lim .u8) ∧ (pay t.c1.c8 = .ofNat (nuV t.c1.c8) ∧ nuV t.c1.c8 ≤ lim .u8) ∧ (pay t.c1.c9 = .ofNat (nuV t.c1.c9) ∧ nuV t.c1.c9 ≤ lim .u8) ∧ (pay t.c1.c10 = .ofNat (nuV t.c1.c10) ∧ nuV t.c1.c10 ≤ lim .u8) ∧ (pay t.c1.c11 = .ofNat (nuV t.c1.c11) ∧ nuV t.c1.c11 ≤ lim .u8) ∧ (pay t.c1.c12 = .ofNat (nuV t.c1.c12) ∧ nuV t.c1.c12 ≤ lim .u8) ∧ (pay t.c1.c13 = .ofNat (nuV t.c1.c13) ∧ nuV t.c1.c13 ≤ lim .u8) ∧ (pay t.c1.c14 = .ofNat (nuV t.c1.c14) ∧ nuV t.c1.c14 ≤ lim .u8) ∧ (pay t.c1.c15 = .ofNat (nuV t.c1.c15) ∧ nuV t.c1.c15 ≤ lim .u8) ∧ (pay t.c2.c0 = .ofNat (nuV t.c2.c0) ∧ nuV t.c2.c0 ≤ lim .u8) ∧ (pay t.c2.c1 = .ofNat (nuV t.c2.c1) ∧ nuV t.c2.c1 ≤ lim .u8) ∧ (pay t.c2.c2 = .ofNat (nuV t.c2.c2) ∧ nuV t.c2.c2 ≤ lim .u8) ∧ (pay t.c2.c3 = .ofNat (nuV t.c2.c3) ∧ nuV t.c2.c3 ≤ lim .u8) ∧ (pay t.c2.c4 = .ofNat (nuV t.c2.c4) ∧ nuV t.c2.c4 ≤ lim .u8) ∧ (pay t.c2.c5 = .ofNat (nuV t.c2.c5) ∧ nuV t.c2.c5 ≤ lim .u8) ∧ (pay t.c2.c6 = .ofNat (nuV t.c2.c6) ∧ nuV t.c2.c6 ≤ lim .u8) ∧ (pay t.c2.c7 = .ofNat (nuV t.c2.c7) ∧ nuV t.c2.c7 ≤ lim .u8) ∧ (pay t.c2.c8 = .ofNat (nuV t.c2.c8) ∧ nuV t.c2.c8 ≤ lim .u8) ∧ (pay t.c2.c9 = .ofNat (nuV t.c2.c9) ∧ nuV t.c2.c9 ≤ lim .u8) ∧ (pay t.c2.c10 = .ofNat (nuV t.c2.c10) ∧ nuV t.c2.c10 ≤ lim .u8) ∧ (pay t.c2.c11 = .ofNat (nuV t.c2.c11) ∧ nuV t.c2.c11 ≤ lim .u8) ∧ (pay t.c2.c12 = .ofNat (nuV t.c2.c12) ∧ nuV t.c2.c12 ≤ lim .u8) ∧ (pay t.c2.c13 = .ofNat (nuV t.c2.c13) ∧ nuV t.c2.c13 ≤ lim .u8) ∧ (pay t.c2.c14 = .ofNat (nuV t.c2.c14) ∧ nuV t.c2.c14 ≤ lim .u8) ∧ (pay t.c2.c15 = .ofNat (nuV t.c2.c15) ∧ nuV t.c2.c15 ≤ lim .u8) ∧ (pay t.c3.c0 = .ofNat (nuV t.c3.c0) ∧ nuV t.c3.c0 ≤ lim .u8) ∧ (pay t.c3.c1 = .ofNat (nuV t.c3.c1) ∧ nuV t.c3.c1 ≤ lim .u8) ∧ (pay t.c3.c2 = .ofNat (nuV t.c3.c2) ∧ nuV t.c3.c2 ≤ lim .u8) ∧ (pay t.c3.c3 = .ofNat (nuV t.c3.c3) ∧ nuV t.c3.c3 ≤ lim .u8) ∧ (pay t.c3.c4 = .ofNat (nuV t.c3.c4) ∧ nuV t.c3.c4 ≤ lim .u8) ∧ (pay t.c3.c5 = .ofNat (nuV t.c3.c5) ∧ nuV t.c3.c5 ≤ lim .u8) ∧ (pay t.c3.c6 = .ofNat (nuV t.c3.c6) ∧ nuV t.c3.c6 ≤ lim .u8) ∧ (pay t.c3.c7 = .ofNat (nuV t.c3.c7) ∧ nuV t.c3.c7 ≤ lim .u8) ∧ (pay t.c3.c8 = .ofNat (nuV t.c3.c8) ∧ nuV t.c3.c8 ≤ lim .u8) ∧ (pay t.c3.c9 = .ofNat (nuV t.c3.c9) ∧ nuV t.c3.c9 ≤ lim .u8) ∧ (pay t.c3.c10 = .ofNat (nuV t.c3.c10) ∧ nuV t.c3.c10 ≤ lim .u8) ∧ (pay t.c3.c11 = .ofNat (nuV t.c3.c11) ∧ nuV t.c3.c11 ≤ lim .u8) ∧ (pay t.c3.c12 = .ofNat (nuV t.c3.c12) ∧ nuV t.c3.c12 ≤ lim .u8) ∧ (pay t.c3.c13 = .ofNat (nuV t.c3.c13) ∧ nuV t.c3.c13 ≤ lim .u8) ∧ (pay t.c3.c14 = .ofNat (nuV t.c3.c14) ∧ nuV t.c3.c14 ≤ lim .u8) ∧ (pay t.c3.c15 = .ofNat (nuV t.c3.c15) ∧ nuV t.c3.c15 ≤ lim .u8) ∧ (pay t.c4.c0 = .ofNat (nuV t.c4.c0) ∧ nuV t.c4.c0 ≤ lim .u8) ∧ (pay t.c4.c1 = .ofNat (nuV t.c4.c1) ∧ nuV t.c4.c1 ≤ lim .u8) ∧ (pay t.c4.c2 = .ofNat (nuV t.c4.c2) ∧ nuV t.c4.c2 ≤ lim .u8) ∧ (pay t.c4.c3 = .ofNat (nuV t.c4.c3) ∧ nuV t.c4.c3 ≤ lim .u8) ∧ (pay t.c4.c4 = .ofNat (nuV t.c4.c4) ∧ nuV t.c4.c4 ≤ lim .u8) ∧ (pay t.c4.c5 = .ofNat (nuV t.c4.c5) ∧ nuV t.c4.c5 ≤ lim .u8) ∧ (pay t.c4.c6 = .ofNat (nuV t.c4.c6) ∧ nuV t.c4.c6 ≤ lim .u8) ∧ (pay t.c4.c7 = .ofNat (nuV t.c4.c7) ∧ nuV t.c4.c7 ≤ lim .u8) ∧ (pay t.c4.c8 = .ofNat (nuV t.c4.c8) ∧ nuV t.c4.c8 ≤ lim .u8) ∧ (pay t.c4.c10 = .ofNat (nuV t.c4.c10) ∧ nuV t.c4.c10 ≤ lim .u64):=by
 simp only [rgH,Bool.and_eq_true] at h
 obtain ⟨h0,h1,h2,h3,h4⟩:=h
 obtain ⟨e1,e2,e3,e4,e5,e6,e7,e8,e9,e10,e11,e12,e13,e14,e15⟩:=G0a h0
 obtain ⟨e16,e17,e18,e19,e20,e21,e22,e23,e24,e25,e26,e27,e28,e29,e30,e31⟩:=W9z h1
 obtain ⟨e32,e33,e34,e35,e36,e37,e38,e39,e40,e41,e42,e43,e44,e45,e46,e47⟩:=W9y h2
 obtain ⟨e48,e49,e50,e51,e52,e53,e54,e55,e56,e57,e58,e59,e60,e61,e62,e63⟩:=W9x h3
 obtain ⟨e64,e65,e66,e67,e68,e69,e70,e71,e72,e74⟩:=W9w h4
 refine ⟨?_,e1,e2,e3,e4,e5,e6,e7,e8,e9,e10,e11,e12,e13,e14,e15,e16,e17,e18,e19,e20,e21,e22,e23,e24,e25,e26,e27,e28,e29,e30,e31,e32,e33,e34,e35,e36,e37,e38,e39,e40,e41,e42,e43,e44,e45,e46,e47,e48,e49,e50,e51,e52,e53,e54,e55,e56,e57,e58,e59,e60,e61,e62,e63,e64,e65,e66,e67,e68,e69,e70,e71,e72,e74⟩
 simp only [okH,Bool.and_eq_true]
 exact ⟨Q4s h0,Q4r h1,Q4q h2,Q4p h3,Q4o h4⟩
theorem Q7l {t : A2} (h : rgH t = true) : hOf t = (hnOf t).i ∧ (hnOf t).ok:=by
 obtain ⟨_,⟨e1,l1⟩,⟨e2,l2⟩,⟨e3,l3⟩,⟨e4,l4⟩,⟨e5,l5⟩,⟨e6,l6⟩,⟨e7,l7⟩,⟨e8,l8⟩,⟨e9,l9⟩,⟨e10,l10⟩,⟨e11,l11⟩,⟨e12,l12⟩,⟨e13,l13⟩,⟨e14,l14⟩,⟨e15,l15⟩,⟨e16,l16⟩,⟨e17,l17⟩,⟨e18,l18⟩,⟨e19,l19⟩,⟨e20,l20⟩,⟨e21,l21⟩,⟨e22,l22⟩,⟨e23,l23⟩,⟨e24,l24⟩,⟨e25,l25⟩,⟨e26,l26⟩,⟨e27,l27⟩,⟨e28,l28⟩,⟨e29,l29⟩,⟨e30,l30⟩,⟨e31,l31⟩,⟨e32,l32⟩,⟨e33,l33⟩,⟨e34,l34⟩,⟨e35,l35⟩,⟨e36,l36⟩,⟨e37,l37⟩,⟨e38,l38⟩,⟨e39,l39⟩,⟨e40,l40⟩,⟨e41,l41⟩,⟨e42,l42⟩,⟨e43,l43⟩,⟨e44,l44⟩,⟨e45,l45⟩,⟨e46,l46⟩,⟨e47,l47⟩,⟨e48,l48⟩,⟨e49,l49⟩,⟨e50,l50⟩,⟨e51,l51⟩,⟨e52,l52⟩,⟨e53,l53⟩,⟨e54,l54⟩,⟨e55,l55⟩,⟨e56,l56⟩,⟨e57,l57⟩,⟨e58,l58⟩,⟨e59,l59⟩,⟨e60,l60⟩,⟨e61,l61⟩,⟨e62,l62⟩,⟨e63,l63⟩,⟨e64,l64⟩,⟨e65,l65⟩,⟨e66,l66⟩,⟨e67,l67⟩,⟨e68,l68⟩,⟨e69,l69⟩,⟨e70,l70⟩,⟨e71,l71⟩,⟨e72,l72⟩,⟨e74,l74⟩⟩:=J6m h
 constructor
 ·unfold hOf hnOf HN.i
  rw [e1,e2,e3,e4,e5,e6,e7,e8]
 ·unfold hnOf
  refine ⟨Nat.lt_succ_of_le l1,Nat.lt_succ_of_le l2,Nat.lt_succ_of_le l3,Nat.lt_succ_of_le l4,Nat.lt_succ_of_le l5,Nat.lt_succ_of_le l6,Nat.lt_succ_of_le l7,Nat.lt_succ_of_le l8⟩
theorem G3v {t : A2} (h : rgH t = true) : ∀ i,i < 64 → bOf t i = .ofNat (gOf t i) ∧ gOf t i < 256:=by
 obtain ⟨_,⟨e1,l1⟩,⟨e2,l2⟩,⟨e3,l3⟩,⟨e4,l4⟩,⟨e5,l5⟩,⟨e6,l6⟩,⟨e7,l7⟩,⟨e8,l8⟩,⟨e9,l9⟩,⟨e10,l10⟩,⟨e11,l11⟩,⟨e12,l12⟩,⟨e13,l13⟩,⟨e14,l14⟩,⟨e15,l15⟩,⟨e16,l16⟩,⟨e17,l17⟩,⟨e18,l18⟩,⟨e19,l19⟩,⟨e20,l20⟩,⟨e21,l21⟩,⟨e22,l22⟩,⟨e23,l23⟩,⟨e24,l24⟩,⟨e25,l25⟩,⟨e26,l26⟩,⟨e27,l27⟩,⟨e28,l28⟩,⟨e29,l29⟩,⟨e30,l30⟩,⟨e31,l31⟩,⟨e32,l32⟩,⟨e33,l33⟩,⟨e34,l34⟩,⟨e35,l35⟩,⟨e36,l36⟩,⟨e37,l37⟩,⟨e38,l38⟩,⟨e39,l39⟩,⟨e40,l40⟩,⟨e41,l41⟩,⟨e42,l42⟩,⟨e43,l43⟩,⟨e44,l44⟩,⟨e45,l45⟩,⟨e46,l46⟩,⟨e47,l47⟩,⟨e48,l48⟩,⟨e49,l49⟩,⟨e50,l50⟩,⟨e51,l51⟩,⟨e52,l52⟩,⟨e53,l53⟩,⟨e54,l54⟩,⟨e55,l55⟩,⟨e56,l56⟩,⟨e57,l57⟩,⟨e58,l58⟩,⟨e59,l59⟩,⟨e60,l60⟩,⟨e61,l61⟩,⟨e62,l62⟩,⟨e63,l63⟩,⟨e64,l64⟩,⟨e65,l65⟩,⟨e66,l66⟩,⟨e67,l67⟩,⟨e68,l68⟩,⟨e69,l69⟩,⟨e70,l70⟩,⟨e71,l71⟩,⟨e72,l72⟩,⟨e74,l74⟩⟩:=J6m h
 intro i hi
 match i,hi with
 | 0,_=>exact ⟨e9,Nat.lt_succ_of_le l9⟩
 | 1,_=>exact ⟨e10,Nat.lt_succ_of_le l10⟩
 | 2,_=>exact ⟨e11,Nat.lt_succ_of_le l11⟩
 | 3,_=>exact ⟨e12,Nat.lt_succ_of_le l12⟩
 | 4,_=>exact ⟨e13,Nat.lt_succ_of_le l13⟩
 | 5,_=>exact ⟨e14,Nat.lt_succ_of_le l14⟩
 | 6,_=>exact ⟨e15,Nat.lt_succ_of_le l15⟩
 | 7,_=>exact ⟨e16,Nat.lt_succ_of_le l16⟩
 | 8,_=>exact ⟨e17,Nat.lt_succ_of_le l17⟩
 | 9,_=>exact ⟨e18,Nat.lt_succ_of_le l18⟩
 | 10,_=>exact ⟨e19,Nat.lt_succ_of_le l19⟩
 | 11,_=>exact ⟨e20,Nat.lt_succ_of_le l20⟩
 | 12,_=>exact ⟨e21,Nat.lt_succ_of_le l21⟩
 | 13,_=>exact ⟨e22,Nat.lt_succ_of_le l22⟩
 | 14,_=>exact ⟨e23,Nat.lt_succ_of_le l23⟩
 | 15,_=>exact ⟨e24,Nat.lt_succ_of_le l24⟩
 | 16,_=>exact ⟨e25,Nat.lt_succ_of_le l25⟩
 | 17,_=>exact ⟨e26,Nat.lt_succ_of_le l26⟩
 | 18,_=>exact ⟨e27,Nat.lt_succ_of_le l27⟩
 | 19,_=>exact ⟨e28,Nat.lt_succ_of_le l28⟩
 | 20,_=>exact ⟨e29,Nat.lt_succ_of_le l29⟩
 | 21,_=>exact ⟨e30,Nat.lt_succ_of_le l30⟩
 | 22,_=>exact ⟨e31,Nat.lt_succ_of_le l31⟩
 | 23,_=>exact ⟨e32,Nat.lt_succ_of_le l32⟩
 | 24,_=>exact ⟨e33,Nat.lt_succ_of_le l33⟩
 | 25,_=>exact ⟨e34,Nat.lt_succ_of_le l34⟩
 | 26,_=>exact ⟨e35,Nat.lt_succ_of_le l35⟩
 | 27,_=>exact ⟨e36,Nat.lt_succ_of_le l36⟩
 | 28,_=>exact ⟨e37,Nat.lt_succ_of_le l37⟩
 | 29,_=>exact ⟨e38,Nat.lt_succ_of_le l38⟩
 | 30,_=>exact ⟨e39,Nat.lt_succ_of_le l39⟩
 | 31,_=>exact ⟨e40,Nat.lt_succ_of_le l40⟩
 | 32,_=>exact ⟨e41,Nat.lt_succ_of_le l41⟩
 | 33,_=>exact ⟨e42,Nat.lt_succ_of_le l42⟩
 | 34,_=>exact ⟨e43,Nat.lt_succ_of_le l43⟩
 | 35,_=>exact ⟨e44,Nat.lt_succ_of_le l44⟩
 | 36,_=>exact ⟨e45,Nat.lt_succ_of_le l45⟩
 | 37,_=>exact ⟨e46,Nat.lt_succ_of_le l46⟩
 | 38,_=>exact ⟨e47,Nat.lt_succ_of_le l47⟩
 | 39,_=>exact ⟨e48,Nat.lt_succ_of_le l48⟩
 | 40,_=>exact ⟨e49,Nat.lt_succ_of_le l49⟩
 | 41,_=>exact ⟨e50,Nat.lt_succ_of_le l50⟩
 | 42,_=>exact ⟨e51,Nat.lt_succ_of_le l51⟩
 | 43,_=>exact ⟨e52,Nat.lt_succ_of_le l52⟩
 | 44,_=>exact ⟨e53,Nat.lt_succ_of_le l53⟩
 | 45,_=>exact ⟨e54,Nat.lt_succ_of_le l54⟩
 | 46,_=>exact ⟨e55,Nat.lt_succ_of_le l55⟩
 | 47,_=>exact ⟨e56,Nat.lt_succ_of_le l56⟩
 | 48,_=>exact ⟨e57,Nat.lt_succ_of_le l57⟩
 | 49,_=>exact ⟨e58,Nat.lt_succ_of_le l58⟩
 | 50,_=>exact ⟨e59,Nat.lt_succ_of_le l59⟩
 | 51,_=>exact ⟨e60,Nat.lt_succ_of_le l60⟩
 | 52,_=>exact ⟨e61,Nat.lt_succ_of_le l61⟩
 | 53,_=>exact ⟨e62,Nat.lt_succ_of_le l62⟩
 | 54,_=>exact ⟨e63,Nat.lt_succ_of_le l63⟩
 | 55,_=>exact ⟨e64,Nat.lt_succ_of_le l64⟩
 | 56,_=>exact ⟨e65,Nat.lt_succ_of_le l65⟩
 | 57,_=>exact ⟨e66,Nat.lt_succ_of_le l66⟩
 | 58,_=>exact ⟨e67,Nat.lt_succ_of_le l67⟩
 | 59,_=>exact ⟨e68,Nat.lt_succ_of_le l68⟩
 | 60,_=>exact ⟨e69,Nat.lt_succ_of_le l69⟩
 | 61,_=>exact ⟨e70,Nat.lt_succ_of_le l70⟩
 | 62,_=>exact ⟨e71,Nat.lt_succ_of_le l71⟩
 | 63,_=>exact ⟨e72,Nat.lt_succ_of_le l72⟩
 | i + 64,h=>exact absurd h (by omega)
theorem J5c (a b c d : Nat) : Nat.add a (Nat.mul 256 (Nat.add b (Nat.mul 256 (Nat.add c (Nat.mul 256 d))))) = d * 16777216 + (c * 65536 + (b * 256 + a)):=by
 simp only [Nat.add_eq,Nat.mul_eq]; omega
theorem Q3p (t : A2) : wnOf t = WG (gOf t):=by
 unfold wnOf WG
 have key : ∀ w,wG (gOf t) w = gOf t (4 * w + 3) * 16777216 + (gOf t (4 * w + 2) * 65536 + (gOf t (4 * w + 1) * 256 + gOf t (4 * w))):=fun w=>leS4 _
 rw [J5c (nuV t.c0.c9),J5c (nuV t.c0.c13),J5c (nuV t.c1.c1),J5c (nuV t.c1.c5),J5c (nuV t.c1.c9),J5c (nuV t.c1.c13),J5c (nuV t.c2.c1),J5c (nuV t.c2.c5),J5c (nuV t.c2.c9),J5c (nuV t.c2.c13),J5c (nuV t.c3.c1),J5c (nuV t.c3.c5),J5c (nuV t.c3.c9),J5c (nuV t.c3.c13),J5c (nuV t.c4.c1),J5c (nuV t.c4.c5)]
 rw [key 0,key 1,key 2,key 3,key 4,key 5,key 6,key 7,key 8,key 9,key 10,key 11,key 12,key 13,key 14,key 15]
 rfl
theorem nwT_eq {t : A2} (h : rgH t = true) (g : HN) (x : Nat) : C.l2 (nwT t g x) = hshO t g.i (.ofNat x):=by
 obtain ⟨hk,_⟩:=J6m h
 simp only [okH,Bool.and_eq_true] at hk
 obtain ⟨h0,h1,h2,h3,h4⟩:=hk
 obtain ⟨e0,e1,e2,e3,e4,e5,e6,e7,e8,e9,e10,e11,e12,e13,e14,e15⟩:=U6s h0
 obtain ⟨e16,e17,e18,e19,e20,e21,e22,e23,e24,e25,e26,e27,e28,e29,e30,e31⟩:=U6r h1
 obtain ⟨e32,e33,e34,e35,e36,e37,e38,e39,e40,e41,e42,e43,e44,e45,e46,e47⟩:=U6q h2
 obtain ⟨e48,e49,e50,e51,e52,e53,e54,e55,e56,e57,e58,e59,e60,e61,e62,e63⟩:=U6p h3
 obtain ⟨e64,e65,e66,e67,e68,e69,e70,e71,e72,e73,e74⟩:=U6o h4
 show C.l2 (nwT t g x) = C.l2 ⟨⟨.i .i64 (pay t.c0.c0),.i .u32 (.ofNat g.h0),.i .u32 (.ofNat g.h1),.i .u32 (.ofNat g.h2),.i .u32 (.ofNat g.h3),.i .u32 (.ofNat g.h4),.i .u32 (.ofNat g.h5),.i .u32 (.ofNat g.h6),.i .u32 (.ofNat g.h7),.i .u8 (pay t.c0.c9),.i .u8 (pay t.c0.c10),.i .u8 (pay t.c0.c11),.i .u8 (pay t.c0.c12),.i .u8 (pay t.c0.c13),.i .u8 (pay t.c0.c14),.i .u8 (pay t.c0.c15)⟩,⟨.i .u8 (pay t.c1.c0),.i .u8 (pay t.c1.c1),.i .u8 (pay t.c1.c2),.i .u8 (pay t.c1.c3),.i .u8 (pay t.c1.c4),.i .u8 (pay t.c1.c5),.i .u8 (pay t.c1.c6),.i .u8 (pay t.c1.c7),.i .u8 (pay t.c1.c8),.i .u8 (pay t.c1.c9),.i .u8 (pay t.c1.c10),.i .u8 (pay t.c1.c11),.i .u8 (pay t.c1.c12),.i .u8 (pay t.c1.c13),.i .u8 (pay t.c1.c14),.i .u8 (pay t.c1.c15)⟩,⟨.i .u8 (pay t.c2.c0),.i .u8 (pay t.c2.c1),.i .u8 (pay t.c2.c2),.i .u8 (pay t.c2.c3),.i .u8 (pay t.c2.c4),.i .u8 (pay t.c2.c5),.i .u8 (pay t.c2.c6),.i .u8 (pay t.c2.c7),.i .u8 (pay t.c2.c8),.i .u8 (pay t.c2.c9),.i .u8 (pay t.c2.c10),.i .u8 (pay t.c2.c11),.i .u8 (pay t.c2.c12),.i .u8 (pay t.c2.c13),.i .u8 (pay t.c2.c14),.i .u8 (pay t.c2.c15)⟩,⟨.i .u8 (pay t.c3.c0),.i .u8 (pay t.c3.c1),.i .u8 (pay t.c3.c2),.i .u8 (pay t.c3.c3),.i .u8 (pay t.c3.c4),.i .u8 (pay t.c3.c5),.i .u8 (pay t.c3.c6),.i .u8 (pay t.c3.c7),.i .u8 (pay t.c3.c8),.i .u8 (pay t.c3.c9),.i .u8 (pay t.c3.c10),.i .u8 (pay t.c3.c11),.i .u8 (pay t.c3.c12),.i .u8 (pay t.c3.c13),.i .u8 (pay t.c3.c14),.i .u8 (pay t.c3.c15)⟩,⟨.i .u8 (pay t.c4.c0),.i .u8 (pay t.c4.c1),.i .u8 (pay t.c4.c2),.i .u8 (pay t.c4.c3),.i .u8 (pay t.c4.c4),.i .u8 (pay t.c4.c5),.i .u8 (pay t.c4.c6),.i .u8 (pay t.c4.c7),.i .u8 (pay t.c4.c8),.i .i64 (pay t.c4.c9),.i .u64 (.ofNat x),t.c4.c11,t.c4.c12,t.c4.c13,t.c4.c14,t.c4.c15⟩,t.c5,t.c6,t.c7,t.c8,t.c9,t.c10,t.c11,t.c12,t.c13,t.c14,t.c15⟩
 rw [← e0,← e9,← e10,← e11,← e12,← e13,← e14,← e15,← e16,← e17,← e18,← e19,← e20,← e21,← e22,← e23,← e24,← e25,← e26,← e27,← e28,← e29,← e30,← e31,← e32,← e33,← e34,← e35,← e36,← e37,← e38,← e39,← e40,← e41,← e42,← e43,← e44,← e45,← e46,← e47,← e48,← e49,← e50,← e51,← e52,← e53,← e54,← e55,← e56,← e57,← e58,← e59,← e60,← e61,← e62,← e63,← e64,← e65,← e66,← e67,← e68,← e69,← e70,← e71,← e72,← e73]
 rfl
theorem prsF_G {vs : List V} {h : H} {r : V × H} (he : prsF vs h = some r) : Q4w vs h = some r:=by
 unfold prsF at he
 split at he
 ·rename_i b o many last
  cases ho : (Nat.beq o 0 && Nat.ble many 64) <;> rw [ho] at he
  ·cases he
  rw [Bool.and_eq_true] at ho
  simp only at he
  split at he
  ·rename_i n c z hb
   cases hn : Nat.beq n 75 <;> rw [hn] at he
   ·cases he
   simp only at he
   split at he
   ·rename_i t
    cases hk : rgH t <;> rw [hk] at he
    ·cases he
    have hmany:=Nat.le_of_ble_eq_true ho.2
    have hok:=(J6m hk).1
    obtain ⟨h1,h2⟩:=Q7l hk
    have h3:=J7s (G3v hk)
    have h4 : (WG (gOf t)).ok:=WG_ok fun i hi=>(G3v hk i hi).2
    have ht : tOf t = .ofNat (nuV t.c4.c10) ∧ nuV t.c4.c10 ≤ 18446744073709551615:=by
     obtain ⟨_,⟨e1,l1⟩,⟨e2,l2⟩,⟨e3,l3⟩,⟨e4,l4⟩,⟨e5,l5⟩,⟨e6,l6⟩,⟨e7,l7⟩,⟨e8,l8⟩,⟨e9,l9⟩,⟨e10,l10⟩,⟨e11,l11⟩,⟨e12,l12⟩,⟨e13,l13⟩,⟨e14,l14⟩,⟨e15,l15⟩,⟨e16,l16⟩,⟨e17,l17⟩,⟨e18,l18⟩,⟨e19,l19⟩,⟨e20,l20⟩,⟨e21,l21⟩,⟨e22,l22⟩,⟨e23,l23⟩,⟨e24,l24⟩,⟨e25,l25⟩,⟨e26,l26⟩,⟨e27,l27⟩,⟨e28,l28⟩,⟨e29,l29⟩,⟨e30,l30⟩,⟨e31,l31⟩,⟨e32,l32⟩,⟨e33,l33⟩,⟨e34,l34⟩,⟨e35,l35⟩,⟨e36,l36⟩,⟨e37,l37⟩,⟨e38,l38⟩,⟨e39,l39⟩,⟨e40,l40⟩,⟨e41,l41⟩,⟨e42,l42⟩,⟨e43,l43⟩,⟨e44,l44⟩,⟨e45,l45⟩,⟨e46,l46⟩,⟨e47,l47⟩,⟨e48,l48⟩,⟨e49,l49⟩,⟨e50,l50⟩,⟨e51,l51⟩,⟨e52,l52⟩,⟨e53,l53⟩,⟨e54,l54⟩,⟨e55,l55⟩,⟨e56,l56⟩,⟨e57,l57⟩,⟨e58,l58⟩,⟨e59,l59⟩,⟨e60,l60⟩,⟨e61,l61⟩,⟨e62,l62⟩,⟨e63,l63⟩,⟨e64,l64⟩,⟨e65,l65⟩,⟨e66,l66⟩,⟨e67,l67⟩,⟨e68,l68⟩,⟨e69,l69⟩,⟨e70,l70⟩,⟨e71,l71⟩,⟨e72,l72⟩,⟨e74,l74⟩⟩:=J6m hk
     exact ⟨e74,l74⟩
    have hx : J2e (tOf t) (wrY .u64 (.ofNat many)) = .ofNat ((nuV t.c4.c10 + many) % 18446744073709551616):=by
     rw [ht.1,J2o .u64 many (by show many ≤ 18446744073709551615; omega)]
     exact J5u .u64 _ rfl
    have hlt : (nuV t.c4.c10 + many) % 18446744073709551616 < 18446744073709551616:=Nat.mod_lt _ (by decide)
    have he2 : (frc ((nuV t.c4.c10 + many) % 18446744073709551616) fun x=>cpN (hnOf t) (wnOf t) x last fun g=>some (V.tu [],h.upd b (.cells 75 (.l2 (nwT t g x)) z))) = some r:=he
    generalize (nuV t.c4.c10 + many) % 18446744073709551616 = x at hx he2 hlt
    obtain ⟨g,g1,g2,g3⟩:=cp_ok last h2 h4 hlt
    rw [J3u,Q3p,g3,nwT_eq hk] at he2
    unfold Q4w
    simp only
    rw [ho.1,hb]
    simp only
    rw [hn,hok,hx,h1,h3,g2]
    exact he2
   ·cases he
  ·cases he
 ·cases he
theorem Q4x (n0 : Nat) (vs : List V) (h : H) (v : V) (h' : H) (he : rcB (.h prsF) vs h = .ok v h') : CallOK Tryz.prog (bsG n0) 267 vs h (.ok v h'):=by
 have he2 : rcO (prsF vs h) = .ok v h':=he
 cases hp : prsF vs h with
 | none=>rw [hp] at he2; cases he2
 | some r =>
  refine G0f n0 vs h v h' ?_
  rw [hp] at he2
  show rcO (Q4w vs h) = _
  rw [prsF_G hp]; exact he2
end Go.X
namespace Go.X
open Go Go.RowKit Go.Proofs
def a64R (vs : List V) : Option V :=
 match vs with
 | [.i .u64 (.ofNat x),.i .u64 (.ofNat y),.i .u64 (.ofNat c)]=>Bool.rec none (some ((fun s=>.tu [uI (.ofNat (Nat.mod s mW)),uI (.ofNat (Nat.div s mW))]) (Nat.add (Nat.add x y) c))) (Nat.ble c 1)
 | _=>none
theorem Q8m : PG 106 a64R:=by
 intro n0 vs v h he
 unfold a64R at he
 split at he
 ·rename_i x y c
  cases hc : Nat.ble c 1 <;> rw [hc] at he
  ·cases he
  cases he
  exact J9i (x:=.ofNat x) (y:=.ofNat y) (c:=.ofNat c) (Nat.le_of_ble_eq_true hc) fun μ ys hy=>by
   obtain ⟨a,b,d,rfl,h1,h2,h3⟩:=vrs3 hy
   rw [VR.i_iff] at h1 h2 h3
   rw [h1,h2,h3]
 ·cases he
def m64R (vs : List V) : Option V :=
 match vs with
 | [.i .u64 (.ofNat x),.i .u64 (.ofNat y)]=>Bool.rec none (some ((fun s=>.tu [uI (.ofNat (Nat.div s mW)),uI (.ofNat (Nat.mod s mW))]) (Nat.mul x y))) (Nat.ble x 18446744073709551615 && Nat.ble y 18446744073709551615)
 | _=>none
theorem Q6o : PG 182 m64R:=by
 intro n0 vs v h he
 unfold m64R at he
 split at he
 ·rename_i x y
  cases hc : (Nat.ble x 18446744073709551615 && Nat.ble y 18446744073709551615) <;> rw [hc] at he
  ·cases he
  rw [Bool.and_eq_true] at hc
  have hx:=Nat.le_of_ble_eq_true hc.1
  have hy:=Nat.le_of_ble_eq_true hc.2
  have h1:=run_pure BG.nil (U6v (.ofNat x) (.ofNat y)) (VPs.cons (.i _ _) (VPs.cons (.i _ _) VPs.nil)) (VP.tu (VPs.cons (.i _ _) (VPs.cons (.i _ _) VPs.nil))) n0 h
  rw [W2f (by omega) (by omega),W1w] at h1
  have hv : V.tu [uI (.ofNat (x * y / 18446744073709551616)),uI (.ofNat (x * y % 18446744073709551616))] = v:=Option.some.inj he
  rw [← hv]; exact h1
 ·cases he
def idxN (c : Nat) (l : List Nat) : Nat → Int:=List.rec (motive:=fun _=>Nat → Int) (fun _=>.negSucc 0) (fun x _ ih k=>Bool.rec (ih (Nat.succ k)) (.ofNat k) (Nat.beq x c)) l
theorem G2e (c : UInt8) : ∀ (l : List UInt8) (k : Nat),idxN c.toNat (l.map (·.toNat)) k = if Lib.indexByte l c = -1 then -1 else (k : Int) + Lib.indexByte l c
 | [],k=>rfl
 | x::l,k=>by
  show (Bool.rec (motive:=fun _=>Int) (idxN c.toNat (l.map (·.toNat)) (k + 1)) (.ofNat k) (Nat.beq x.toNat c.toNat)) = _
  unfold Lib.indexByte
  cases hb : Nat.beq x.toNat c.toNat with
  | true =>
   have hx : x = c:=UInt8.toNat_inj.1 (Nat.eq_of_beq_eq_true hb)
   subst hx
   simp
  | false =>
   have hx : ¬ x = c:=by intro e; rw [e,Nat.beq_refl] at hb; cases hb
   have hbq : (x == c) = false:=by simpa using hx
   rw [hbq]
   show idxN c.toNat (l.map (·.toNat)) (k + 1) = _
   rw [G2e c l (k + 1)]
   have hge:=Lib.indexByte_ge l c
   by_cases h1 : Lib.indexByte l c = -1
   ·simp [h1]
   ·have h2 : (Lib.indexByte l c == -1) = false:=by simpa using h1
    simp only [h1,h2,if_false,Bool.false_eq_true]
    rw [if_neg (by omega)]
    omega
def ixbG (vs : List V) : Option V :=
 match vs with
 | [.s l,.i .u8 (.ofNat c)]=>Bool.rec none (some (.i .i64 (idxN c l 0))) (Nat.ble c 255)
 | _=>none
theorem Q7b : PG 326 ixbG:=by
 intro n0 vs v h he
 unfold ixbG at he
 split at he
 ·rename_i l c
  cases hc : Nat.ble c 255 <;> rw [hc] at he
  ·cases he
  have hc2:=Nat.le_of_ble_eq_true hc
  cases he
  refine .inr ⟨_,h,rfl,fun μ w args r ha=>?_⟩
  obtain ⟨x,y,e,h1,h2⟩:=vrs2 ha
  simp only [VR] at h1
  rw [VR.i_iff] at h2
  obtain ⟨s,e1,e2⟩:=h1
  have ea : args = #[.string s,.int .u8 (.ofNat c)]:=Array.ext' (by rw [e,e1,h2])
  subst ea
  refine ⟨.int .i64 (Lib.indexByte s.data.toList (Int.ofNat c).toNat.toUInt8),w,μ,?_,?_,r,Ext.refl _ _ _⟩
  ·rw [run_callFunc_extern (fn:=Tryz.f326) (by kernel_rfl) (by kernel_rfl) (by kernel_rfl) (by kernel_rfl) (e:=Extern.BytealgIndexByte.indexByte) (by kernel_rfl),Lib.run_indexByteString]
   rfl
  ·rw [VR.i_iff]
   have hcn : ((Int.ofNat c).toNat.toUInt8).toNat = c:=by
    show (UInt8.ofNat c).toNat = c
    rw [UInt8.toNat_ofNat']; omega
   have:=G2e (Int.ofNat c).toNat.toUInt8 s.data.toList 0
   rw [hcn] at this
   have e3 : s.data.toList.map (·.toNat) = l:=e2
   rw [e3] at this
   rw [this]
   congr 1
   split <;> simp_all
 ·cases he
def cmpN (a : List Nat) : List Nat → Int :=
 List.rec (motive:=fun _=>List Nat → Int) (fun b=>List.rec (motive:=fun _=>Int) (.ofNat 0) (fun _ _ _=>.negSucc 0) b)
  (fun x _ ih b=>List.rec (motive:=fun _=>Int) (.ofNat 1) (fun y t _=>Bool.rec (Bool.rec (.ofNat 1) (.negSucc 0) (Nat.ble x y)) (ih t) (Nat.beq x y)) b) a
theorem G3d : ∀ (a b : List UInt8),cmpN (a.map (·.toNat)) (b.map (·.toNat)) = Lib.compareBytes a b
 | [],[]=>rfl
 | [],_::_=>rfl
 | _::_,[]=>rfl
 | x::a,y::b=>by
  show (Bool.rec (motive:=fun _=>Int) (Bool.rec (motive:=fun _=>Int) (.ofNat 1) (.negSucc 0) (Nat.ble x.toNat y.toNat)) (cmpN (a.map (·.toNat)) (b.map (·.toNat))) (Nat.beq x.toNat y.toNat)) = _
  rw [G3d a b]
  have e : Lib.compareBytes (x::a) (y::b) = if x < y then -1 else if y < x then 1 else Lib.compareBytes a b:=by rw [Lib.compareBytes]
  rw [e]
  cases hb : Nat.beq x.toNat y.toNat with
  | true =>
   have hx : x = y:=UInt8.toNat_inj.1 (Nat.eq_of_beq_eq_true hb)
   subst hx
   simp
  | false =>
   have hx : x.toNat ≠ y.toNat:=by intro e; rw [e,Nat.beq_refl] at hb; cases hb
   cases hl : Nat.ble x.toNat y.toNat with
   | true =>
    have h1:=Nat.le_of_ble_eq_true hl
    have h2 : x < y:=by rw [UInt8.lt_iff_toNat_lt]; omega
    simp [h2]
   | false =>
    have h1 : ¬ x.toNat ≤ y.toNat:=by intro h; rw [Nat.ble_eq_true_of_le h] at hl; cases hl
    have h2 : ¬ x < y:=by rw [UInt8.lt_iff_toNat_lt]; omega
    have h3 : y < x:=by rw [UInt8.lt_iff_toNat_lt]; omega
    simp [h2,h3]
def byL (l : List V) : Option (List Nat):=List.rec (motive:=fun _=>Option (List Nat)) (some []) (fun x _ ih=>match ih with | some t=>Bool.rec none (some (nuV x::t)) (isY x) | none=>none) l
def bsl (h : H) (x : V) : Option (List Nat) :=
 match x with
 | .sn=>some []
 | .se=>some []
 | .sl b o l _ _=>match h.get b with
  | .cells n c _=>Bool.rec none (byL (C.list c l o)) (Nat.ble (Nat.add o l) n)
  | _=>none
 | _=>none
theorem W2s : ∀ (l : List V) (t : List Nat),byL l = some t → t.length = l.length ∧ ∀ (j : Nat) (x : V),l[j]? = some x → ∃ m,t[j]? = some m ∧ x = bI (.ofNat m) ∧ m < 256
 | [],t,h=>by cases h; exact ⟨rfl,by simp⟩
 | x::l,t,h=>by
  have h2 : (match byL l with | some t=>Bool.rec none (some (nuV x::t)) (isY x) | none=>none : Option (List Nat)) = some t:=h
  cases h3 : byL l with
  | none=>rw [h3] at h2; cases h2
  | some t0 =>
   rw [h3] at h2
   cases hx : isY x <;> rw [hx] at h2
   ·cases h2
   cases h2
   obtain ⟨e1,e2⟩:=W2s l t0 h3
   refine ⟨by simp [e1],fun j y hj=>?_⟩
   cases j with
   | zero =>
    obtain ⟨m,rfl,hm⟩:=W2d hx
    simp at hj; subst hj
    exact ⟨m,rfl,rfl,hm⟩
   | succ j =>
    simp at hj
    obtain ⟨m,k1,k2⟩:=e2 j y hj
    exact ⟨m,by simpa using k1,k2⟩
theorem G3s {P : Program} {B : Bs} {μ : M} {h : H} {w : World} (r : HR B μ h w) {x : V} {y : Value} (hx : VR μ x y) {L : List Nat} (hL : bsl h x = some L) :
  ∃ u : List UInt8,u.map (·.toNat) = L ∧ (Extern.Bytes.bytesOf y).run P w = .ok ⟨u.toArray⟩ w:=by
 cases x <;> simp only [bsl] at hL <;> try (cases hL; done)
 ·rename_i b o l cap ex
  split at hL
  ·rename_i n c z hb
   cases hle : Nat.ble (Nat.add o l) n <;> rw [hle] at hL
   ·cases hL
   have hon : o + l ≤ n:=Nat.le_of_ble_eq_true hle
   obtain ⟨e1,e2⟩:=W2s _ _ hL
   rw [C.list_length] at e1
   simp only [VR] at hx
   obtain ⟨g,q,cc,hm,rfl,_⟩:=hx
   refine ⟨L.map UInt8.ofNat,?_,?_⟩
   ·rw [List.map_map]
    have key : ∀ m ∈ L,((fun x : UInt8=>x.toNat) ∘ UInt8.ofNat) m = m:=by
     intro m hm
     obtain ⟨j,hj⟩:=List.mem_iff_getElem?.1 hm
     have hjl : j < L.length:=(List.getElem?_eq_some_iff.1 hj).1
     obtain ⟨m',k1,_,k3⟩:=e2 j _ (C.list_get c l o j (by omega))
     rw [hj] at k1; cases k1
     show (UInt8.ofNat m).toNat = m
     rw [UInt8.toNat_ofNat']; omega
    rw [List.map_congr_left key,List.map_id']
   ·have hl:=Lib.run_loadBytesX (P:=P) w (L.map fun m=>(Int.ofNat m)) ⟨g,q + o,none⟩ .empty (fun j v hj=>by
     have hjl : j < L.length:=by have:=(List.getElem?_eq_some_iff.1 hj).1; simpa using this
     obtain ⟨m,k1,k2,k3⟩:=e2 j _ (C.list_get c l o j (by omega))
     obtain ⟨g',q',v',c1,c2,_,c4,_⟩:=r.cell hb (o:=o + j) (by omega)
     rw [hm] at c1; cases c1
     rw [k2,VR.i_iff] at c4
     have e : (⟨g,q + o,none⟩ : Addr).add j = ⟨g,q + (o + j),none⟩:=by unfold Addr.add; split <;> simp_all [Nat.add_assoc]
     rw [e,c2,c4]
     simp only [List.getElem?_map,k1,Option.map_some,Option.some.injEq] at hj
     rw [← hj])
    rw [List.length_map] at hl
    show (Extern.Bytes.loadBytes ⟨g,q + o,none⟩ l .empty).run P w = _
    rw [← e1,hl]
    congr 1
    apply ByteArray.ext
    show (#[] : Array UInt8) ++ (Lib.bytesOf (L.map fun m=>Int.ofNat m)).toArray = (L.map UInt8.ofNat).toArray
    simp [Lib.bytesOf]
  ·cases hL
 ·cases hL
  simp only [VR] at hx
  obtain ⟨g,q,c,rfl⟩:=hx
  exact ⟨[],rfl,rfl⟩
 ·cases hL
  simp only [VR] at hx
  subst hx
  exact ⟨[],rfl,rfl⟩
def cmpG (vs : List V) (h : H) : Option (V × H) :=
 match vs with
 | [a,b]=>(match bsl h a with | some x=>(match bsl h b with | some y=>some (.i .i64 (cmpN x y),h) | none=>none) | none=>none)
 | _=>none
theorem Q7u (n0 : Nat) (vs : List V) (h : H) (v : V) (h' : H) (he : rcB (.h cmpG) vs h = .ok v h') : CallOK Tryz.prog (bsG n0) 246 vs h (.ok v h'):=by
 have he2 : rcO (cmpG vs h) = .ok v h':=he
 unfold cmpG at he2
 split at he2
 ·rename_i a b
  cases ha : bsl h a with
  | none=>rw [ha] at he2; cases he2
  | some x =>
   rw [ha] at he2
   simp only at he2
   cases hb : bsl h b with
   | none=>rw [hb] at he2; cases he2
   | some y =>
    rw [hb] at he2
    cases he2
    refine .inr ⟨_,h,rfl,fun μ w args r hv=>?_⟩
    obtain ⟨va,vb,e,h1,h2⟩:=vrs2 hv
    obtain ⟨u,u1,u2⟩:=G3s (P:=Tryz.prog) r h1 ha
    obtain ⟨u',u1',u2'⟩:=G3s (P:=Tryz.prog) r h2 hb
    have ea : args = #[va,vb]:=Array.ext' (by rw [e])
    subst ea
    refine ⟨.int .i64 (Lib.compareBytes u u'),w,μ,?_,?_,r,Ext.refl _ _ _⟩
    ·rw [run_callFunc_extern (fn:=Tryz.f246) (by kernel_rfl) (by kernel_rfl) (by kernel_rfl) (by kernel_rfl) (e:=Extern.BytealgCompare.compare) (by kernel_rfl)]
     have : (Extern.BytealgCompare.compare #[va,vb]).run Tryz.prog w = .ok (.int .i64 (Lib.compareBytes u u')) w:=by
      show Sem.run Tryz.prog (do pure (goInt (Extern.BytealgCompare.cmp (← Extern.Bytes.bytesOf va) (← Extern.Bytes.bytesOf vb)))) w = _
      simp only [Sem.run_bind,u2,u2',Result.andThen,Sem.run_pure]
      rw [Lib.cmp_eq]
      rfl
     rw [this]; rfl
    ·rw [VR.i_iff,← u1,← u1',G3d]
 ·cases he2
end Go.X
namespace Go.X
open Go Go.RowKit Go.Proofs
def ksW (m : Nat → Int) (n : Nat) : Nat → List (Nat × V):=Nat.rec (motive:=fun _=>Nat → List (Nat × V)) (fun _=>[]) (fun _ ih i=>(Nat.add 132 i,bI (m i))::ih (Nat.add i 1)) n
def seW (x : RC) : Option (V × OB):=RC.rec (motive:=fun _=>Option (V × OB)) (fun v h=>some (v,obO (h.get 65536001))) (fun _ _=>none) none x
theorem W3f (k m : Nat → Int) (x : Nat → V) (cap : Nat) (ex z : Bool) : seW (J5k btK 296 [kv k,.sl 65536001 132 32 cap ex] (J2v 65536002 [(65536001,(U4f 230 (ksW m 32 0) z).pre x)])) = some (W1b (J8s k 32 m 32),(U4f 230 (ksW m 32 0) z).post x):=by kernel_rfl
theorem ksW_ok (m : Nat → Int) (z : Bool) : (U4f 230 (ksW m 32 0) z).okB = true:=by kernel_rfl
theorem chkW {c : C} {m : Nat → Int} : ∀ n i,(∀ j,j < n → C.at_ c (132 + (i + j)) = bI (m (i + j))) → G3k c (ksW m n i) = true
 | 0,_,_=>rfl
 | n + 1,i,h=>by
  show (Bool.rec false (G3k c (ksW m n (i + 1))) (veq 100 (C.at_ c (132 + i)) (bI (m i))) : Bool) = true
  have e:=h 0 (by omega)
  rw [Nat.add_zero] at e
  rw [e]
  have e2 : veq 100 (bI (m i)) (bI (m i)) = true:=by
   show (Nat.beq (kno .u8) (kno .u8) && eqI (m i) (m i)) = true
   rw [J1x]; simp [kno]
  rw [e2]
  exact chkW n (i + 1) fun j hj=>by have:=h (j + 1) (by omega); rw [show i + 1 + j = i + (j + 1) by omega]; exact this
def W1a (vs : List V) (h : H) : Option (V × H) :=
 match vs with
 | [.ag k,.sl b o l cap ex]=>Bool.rec none (match h.get b with
  | .cells n c z=>Bool.rec none (exN (leV k) (leV (C.list c 32 132)) fun p=>thrN p fun a b c=>some (.tu [hV a,hV b,hV c],h)) (Nat.beq n 230 && U1m 32 (C.list c 32 132))
  | _=>none) (Nat.beq o 132 && (Nat.beq l 32 && (U1m 32 k && (Nat.ble h.next 65536000 && Nat.ble (Nat.add b 1) 65536000))))
 | _=>none
theorem W6q (n0 : Nat) (vs : List V) (h : H) (v : V) (h' : H) (he : W1a vs h = some (v,h')) : CallOK Tryz.prog (bsG n0) 296 vs h (.ok v h'):=by
 unfold W1a at he
 split at he
 ·rename_i k b o l cap ex
  cases hok : (Nat.beq o 132 && (Nat.beq l 32 && (U1m 32 k && (Nat.ble h.next 65536000 && Nat.ble (Nat.add b 1) 65536000)))) <;> rw [hok] at he
  ·cases he
  simp only at he
  split at he
  ·rename_i n c z hb
   cases hok2 : (Nat.beq n 230 && U1m 32 (C.list c 32 132)) <;> rw [hok2] at he
   ·cases he
   simp only [Bool.and_eq_true] at hok hok2
   obtain ⟨q1,q2,q3,q4,q5⟩:=hok
   have e1:=Nat.eq_of_beq_eq_true q1
   have e2:=Nat.eq_of_beq_eq_true q2
   have e3:=Nat.eq_of_beq_eq_true hok2.1
   subst e1; subst e2; subst e3
   obtain ⟨f,f1,f2,f3⟩:=J1p 32 0 k q3
   obtain ⟨g,g1,g2,g3⟩:=J1p 32 0 _ hok2.2
   have ek : V.ag k = kv fun i=>.ofNat (f i):=by rw [f2]; rfl
   have hkb : BY (fun i=>.ofNat (f i)) f 32:=fun i hi=>⟨rfl,f1 i hi⟩
   have hmb : BY (fun i=>.ofNat (g i)) g 32:=fun i hi=>⟨rfl,g1 i hi⟩
   obtain ⟨p,p1,p2,p3⟩:=G2p hkb hmb
   obtain ⟨a,b',c',r1,r2⟩:=U6a p1 p2
   have he3 : (exN (leV k) (leV (C.list c 32 132)) fun p=>thrN p fun a b c=>some (V.tu [hV a,hV b,hV c],h)) = some (v,h'):=he
   rw [f3,g3,p3,r2] at he3
   cases he3
   have hvp : VP (.tu [hV a,hV b',hV c']):=VP.tu (VPs.cons (U2b a) (VPs.cons (U2b b') (VPs.cons (U2b c') VPs.nil)))
   have hat : ∀ j,j < 32 → C.at_ c (132 + (0 + j)) = bI (.ofNat (g (0 + j))):=by
    intro j hj
    have h1:=C.list_get c 32 132 j hj
    have h2:=U9t (fun j=>bI (.ofNat (g (j - 0)))) 32 0 j hj
    rw [← g2,h1] at h2
    have h3:=Option.some.inj h2
    rw [Nat.zero_add]
    rw [Nat.zero_add] at h3
    exact h3
   have:=CallOK.win (P:=Tryz.prog) (B:=bsG n0) (f:=296) (a1:=[kv fun i=>.ofNat (f i)]) (o:=132) (l:=32) (cap:=cap) (ex:=ex) (z:=z) (b:=b) (ks:=ksW (fun i=>.ofNat (g i)) 32 0) (v:=.tu [hV a,hV b',hV c']) (n:=230) (c:=c) (h:=h) (fun x=>by
    have h1:=W3f (fun i=>.ofNat (f i)) (fun i=>.ofNat (g i)) x cap ex z
    rw [r1] at h1
    cases hx : J5k btK 296 [kv fun i=>.ofNat (f i),.sl 65536001 132 32 cap ex] (J2v 65536002 [(65536001,(U4f 230 (ksW (fun i=>.ofNat (g i)) 32 0) z).pre x)]) with
    | ok v1 hh =>
     rw [hx] at h1
     have h2 : some (v1,obO (hh.get 65536001)) = some (V.tu [hV a,hV b',hV c'],(U4f 230 (ksW (fun i=>.ofNat (g i)) 32 0) z).post x):=h1
     simp only [Option.some.injEq,Prod.mk.injEq] at h2
     exact ⟨hh,by have:=J6l G3q hx n0; rw [h2.1] at this; exact this,h2.2⟩
    | pn _ _=>rw [hx] at h1; cases h1
    | bad=>rw [hx] at h1; cases h1) hb (chkW 32 0 hat) (ksW_ok _ z) (by have:=Nat.le_of_ble_eq_true q4; unfold K0; exact this) (by have:=Nat.le_of_ble_eq_true q5; unfold K0; exact this) hvp
   rw [← ek] at this
   exact this
  ·cases he
 ·cases he
end Go.X
namespace Go.X
open Go Go.RowKit Go.Proofs
def Q2n (m : Nat → Int) (i : Nat) (x : Int) : Int:=J5q .or .u64 x (G6j .u64 (wrY .u64 (m i)) (Nat.mul 8 i))
def numI (m : Nat → Int) : Int:=Q2n m 7 (Q2n m 6 (Q2n m 5 (Q2n m 4 (Q2n m 3 (Q2n m 2 (Q2n m 1 (Q2n m 0 (.ofNat 0))))))))
def ksN (m : Nat → Int) (o n : Nat) : Nat → List (Nat × V):=Nat.rec (motive:=fun _=>Nat → List (Nat × V)) (fun _=>[]) (fun _ ih i=>(Nat.add o i,bI (m i))::ih (Nat.add i 1)) n
def U6g (n o : Nat) : Prop:=∀ (m : Nat → Int) (x : Nat → V) (z : Bool),seW (J5k (fun _=>none) 305 [.sl 65536001 o (n - o) (n - o) true] (J2v 65536002 [(65536001,(U4f n (ksN m o 8 0) z).pre x)])) = some (.i .u64 (numI m),(U4f n (ksN m o 8 0) z).post x)
theorem n17_0 : U6g 17 0:=fun m x z=>by kernel_rfl
theorem n17_8 : U6g 17 8:=fun m x z=>by kernel_rfl
theorem n32_0 : U6g 32 0:=fun m x z=>by kernel_rfl
theorem n32_8 : U6g 32 8:=fun m x z=>by kernel_rfl
theorem n32_16 : U6g 32 16:=fun m x z=>by kernel_rfl
theorem n32_24 : U6g 32 24:=fun m x z=>by kernel_rfl
theorem ksN_ok (m : Nat → Int) (o n : Nat) (z : Bool) (h : U6g n o) (ho : (n = 17 ∧ (o = 0 ∨ o = 8)) ∨ (n = 32 ∧ (o = 0 ∨ o = 8 ∨ o = 16 ∨ o = 24))) : (U4f n (ksN m o 8 0) z).okB = true:=by
 rcases ho with ⟨rfl,rfl | rfl⟩ | ⟨rfl,rfl | rfl | rfl | rfl⟩ <;> kernel_rfl
def U6m (v : V) : Int:=match v with | .i _ n=>n | _=>0
def isBy (v : V) : Bool:=match v with | .i k _=>Nat.beq (kno k) 4 | _=>false
theorem G2a {v : V} (h : isBy v = true) : v = bI (U6m v):=by
 cases v <;> simp only [isBy] at h <;> try (cases h; done)
 rename_i k n
 rw [J1c (Nat.eq_of_beq_eq_true h : kno k = kno .u8)]; rfl
def G8r (c : C) (n : Nat) : Nat → Bool:=Nat.rec (motive:=fun _=>Nat → Bool) (fun _=>true) (fun _ ih i=>Bool.rec false (ih (Nat.add i 1)) (isBy (C.at_ c i))) n
theorem U3y {c : C} : ∀ {n i : Nat},G8r c n i = true → ∀ j,j < n → isBy (C.at_ c (i + j)) = true
 | 0,_,_,j,hj=>by omega
 | n + 1,i,h,j,hj=>by
  have h2 : (Bool.rec false (G8r c n (i + 1)) (isBy (C.at_ c i)) : Bool) = true:=h
  cases hb : isBy (C.at_ c i) <;> rw [hb] at h2
  ·cases h2
  cases j with
  | zero=>exact hb
  | succ j=>have:=U3y h2 j (by omega); rw [show i + (j + 1) = i + 1 + j by omega]; exact this
theorem chkN {c : C} {m : Nat → Int} {o : Nat} : ∀ n i,(∀ j,j < n → C.at_ c (o + (i + j)) = bI (m (i + j))) → G3k c (ksN m o n i) = true
 | 0,_,_=>rfl
 | n + 1,i,h=>by
  show (Bool.rec false (G3k c (ksN m o n (i + 1))) (veq 100 (C.at_ c (o + i)) (bI (m i))) : Bool) = true
  have e:=h 0 (by omega)
  rw [Nat.add_zero] at e
  rw [e]
  have e2 : veq 100 (bI (m i)) (bI (m i)) = true:=by
   show (Nat.beq (kno .u8) (kno .u8) && eqI (m i) (m i)) = true
   rw [J1x]; simp [kno]
  rw [e2]
  exact chkN n (i + 1) fun j hj=>by have:=h (j + 1) (by omega); rw [show i + 1 + j = i + (j + 1) by omega]; exact this
def shN (n o : Nat) : Bool:=(Nat.beq n 17 && (Nat.beq o 0 || Nat.beq o 8)) || (Nat.beq n 32 && (Nat.beq o 0 || (Nat.beq o 8 || (Nat.beq o 16 || Nat.beq o 24))))
theorem G6k {n o : Nat} (h : shN n o = true) : U6g n o ∧ ((n = 17 ∧ (o = 0 ∨ o = 8)) ∨ (n = 32 ∧ (o = 0 ∨ o = 8 ∨ o = 16 ∨ o = 24))):=by
 simp only [shN,Bool.or_eq_true,Bool.and_eq_true,Nat.beq_eq] at h
 rcases h with ⟨rfl,rfl | rfl⟩ | ⟨rfl,rfl | rfl | rfl | rfl⟩
 ·exact ⟨n17_0,by simp⟩
 ·exact ⟨n17_8,by simp⟩
 ·exact ⟨n32_0,by simp⟩
 ·exact ⟨n32_8,by simp⟩
 ·exact ⟨n32_16,by simp⟩
 ·exact ⟨n32_24,by simp⟩
def numG (vs : List V) (h : H) : Option (V × H) :=
 match vs with
 | [.sl b o l cap ex]=>(match h.get b with
  | .cells n c z=>Bool.rec none (some (.i .u64 (numI fun i=>U6m (C.at_ c (Nat.add o i))),h)) (shN n o && (Nat.beq l (Nat.sub n o) && (Nat.beq cap (Nat.sub n o) && (ex && (G8r c 8 o && (Nat.ble h.next 65536000 && Nat.ble (Nat.add b 1) 65536000))))))
  | _=>none)
 | _=>none
theorem Q6i (n0 : Nat) (vs : List V) (h : H) (v : V) (h' : H) (he : numG vs h = some (v,h')) : CallOK Tryz.prog (bsG n0) 305 vs h (.ok v h'):=by
 unfold numG at he
 split at he
 ·rename_i b o l cap ex
  split at he
  ·rename_i n c z hb
   cases hok : (shN n o && (Nat.beq l (Nat.sub n o) && (Nat.beq cap (Nat.sub n o) && (ex && (G8r c 8 o && (Nat.ble h.next 65536000 && Nat.ble (Nat.add b 1) 65536000)))))) <;> rw [hok] at he
   ·cases he
   cases he
   simp only [Bool.and_eq_true] at hok
   obtain ⟨q1,q2,q3,q4,q5,q6,q7⟩:=hok
   have e1:=Nat.eq_of_beq_eq_true q2
   have e2:=Nat.eq_of_beq_eq_true q3
   have e1' : l = n - o:=e1
   have e2' : cap = n - o:=e2
   subst e1'; subst e2'; subst q4
   obtain ⟨hs,ho⟩:=G6k q1
   have hat : ∀ j,j < 8 → C.at_ c (o + (0 + j)) = bI (U6m (C.at_ c (o + (0 + j)))):=by
    intro j hj
    have:=G2a (U3y q5 j hj)
    rw [Nat.zero_add]; exact this
   exact CallOK.win (P:=Tryz.prog) (B:=bsG n0) (f:=305) (a1:=[]) (o:=o) (l:=n - o) (cap:=n - o) (ex:=true) (z:=z) (b:=b) (ks:=ksN (fun i=>U6m (C.at_ c (o + i))) o 8 0) (n:=n) (c:=c) (h:=h) (fun x=>by
    have h1:=hs (fun i=>U6m (C.at_ c (o + i))) x z
    cases hx : J5k (fun _=>none) 305 [.sl 65536001 o (n - o) (n - o) true] (J2v 65536002 [(65536001,(U4f n (ksN (fun i=>U6m (C.at_ c (o + i))) o 8 0) z).pre x)]) with
    | ok v1 hh =>
     rw [hx] at h1
     have h2 : some (v1,obO (hh.get 65536001)) = some (V.i .u64 (numI fun i=>U6m (C.at_ c (o + i))),(U4f n (ksN (fun i=>U6m (C.at_ c (o + i))) o 8 0) z).post x):=h1
     simp only [Option.some.injEq,Prod.mk.injEq] at h2
     exact ⟨hh,by have:=J6l BG.nil hx n0; rw [h2.1] at this; exact this,h2.2⟩
    | pn _ _=>rw [hx] at h1; cases h1
    | bad=>rw [hx] at h1; cases h1) hb (chkN 8 0 hat) (ksN_ok _ o n z hs ho) (by have:=Nat.le_of_ble_eq_true q6; unfold K0; exact this) (by have:=Nat.le_of_ble_eq_true q7; unfold K0; exact this) (VP.i _ _)
  ·cases he
 ·cases he
end Go.X
end
