/- Runs of the abstract machine over unknown numbers: what the program's field functions reckon, limb by limb. -/
import Derived.Test.YthhcifmblnbokaaGreatDoorXi
import Derived.KernelRfl
import Derived.Laws.Externs
import Derived.Test.YthhcifmblnbokaaGreatDoorProg
set_option linter.all false
set_option maxRecDepth 100000
noncomputable section
namespace Go.X
open Go Go.RowKit Go.Proofs
def ftG : Nat → Option FE:=ftP Tryz.prog
def ltG : Nat → Option LC:=ltP Tryz.prog
def J5k (bt : BT) (f : Nat) (vs : List V) (h : H) : RC:=U0y ftG bt (U5e ftG ltG bt 100000) f vs h
def U2s (x : RC) : Option V:=RC.rec (motive:=fun _=>Option V) (fun v _=>some v) (fun _ _=>none) none x
theorem G0b {x : RC} {v : V} (h : U2s x = some v) : ∃ h',x = .ok v h':=by
 cases x with
 | ok v' h'=>exact ⟨h',by cases h; rfl⟩
 | pn _ _=>cases h
 | bad=>cases h
theorem G7i : ∀ fn ∈ (Tryz.prog).funcs.toList, (fn.name == "runtime.NumGoroutine") = false := by decide +kernel
theorem st_ok : chkSt Tryz.prog = true:=by decide +kernel
theorem J8k : TTok Tryz.prog (ttP Tryz.prog):=ttP_ok _ st_ok
theorem Q2v : G4h Tryz.prog (ttP Tryz.prog) ftG:=G0x G7i
theorem W2b : LTok Tryz.prog (ttP Tryz.prog) ltG:=ltP_ok _
abbrev bsG (n0 : Nat) : Bs:=bsL Tryz.prog (ttP Tryz.prog) n0
def BG (bt : BT) : Prop:=∀ n0,BTok Tryz.prog (bsG n0) bt
theorem BG.nil : BG (fun _=>none):=fun n0 f g h=>by cases h
def btC (f : Nat) (g : BF) (bt : BT) : BT:=fun i=>Bool.rec (bt i) (some g) (Nat.beq i f)
theorem BG.cons {bt : BT} (hb : BG bt) {f : Nat} {g : BF} (hg : ∀ n0 vs h v h',rcB g vs h = .ok v h' → CallOK Tryz.prog (bsG n0) f vs h (.ok v h')) : BG (btC f g bt):=by
 intro n0 f' g' he
 have he2 : (Bool.rec (bt f') (some g) (Nat.beq f' f) : Option BF) = some g':=he
 cases hx : Nat.beq f' f <;> rw [hx] at he2
 ·exact hb n0 f' g' he2
 ·cases he2
  have:=Nat.eq_of_beq_eq_true hx; subst this
  exact hg n0
def PG (f : Nat) (g : List V → Option V) : Prop:=∀ n0 vs v h,g vs = some v → CallOK Tryz.prog (bsG n0) f vs h (.ok v h)
theorem BG.p {bt : BT} (hb : BG bt) {f : Nat} {g : List V → Option V} (hg : PG f g) : BG (btC f (.p g) bt):=by
 refine hb.cons fun n0 vs h v h' he=>?_
 simp only [rcB] at he
 split at he
 ·rename_i v' hv
  cases he
  exact hg n0 vs _ _ hv
 ·cases he
theorem J4a : (Tryz.prog).follows .mixedOrders = true:=by kernel_rfl
theorem J6l {bt : BT} (hb : BG bt) {f : Nat} {vs : List V} {h h' : H} {v : V} (hr : J5k bt f vs h = .ok v h') (n0 : Nat) : CallOK Tryz.prog (bsG n0) f vs h (.ok v h') :=
 Q2j J8k J4a Q2v W2b (hb n0) hr
theorem run_pure {bt : BT} (hb : BG bt) {f : Nat} {vs : List V} {v : V} (hr : U2s (J5k bt f vs H.e) = some v) (hvs : VPs vs) (hv : VP v) (n0 : Nat) (h : H) : CallOK Tryz.prog (bsG n0) f vs h (.ok v h):=by
 obtain ⟨h',e⟩:=G0b hr
 exact (J6l hb e n0).frame0 hvs hv h
theorem CallOK.less {B : Bs} {f : Nat} {vs : List V} {h h' : H} {v v' : V} (hc : CallOK Tryz.prog B f vs h (.ok v h')) (hv : ∀ μ y,VR μ v y → VR μ v' y) : CallOK Tryz.prog B f vs h (.ok v' h'):=by
 rcases hc with ⟨hb,hr⟩ | ⟨v1,h1,e,hr⟩
 ·refine .inl ⟨hb,fun μ w args r ha=>(hr μ w args r ha).mono ?_⟩
  rintro e w' ⟨y,μ',e1,g1,g2,g3⟩
  exact ⟨y,μ',e1,hv _ _ g1,g2,g3⟩
 ·cases e
  refine .inr ⟨v',h',rfl,fun μ w args r ha=>?_⟩
  obtain ⟨y,w',μ',g0,g1,g2,g3⟩:=hr μ w args r ha
  exact ⟨y,w',μ',g0,hv _ _ g1,g2,g3⟩
theorem CallOK.args {B : Bs} {f : Nat} {vs vs' : List V} {h : H} {x : RC} (hc : CallOK Tryz.prog B f vs h x) (hv : ∀ μ y,VRs μ vs' y → VRs μ vs y) : CallOK Tryz.prog B f vs' h x:=by
 rcases hc with ⟨hb,hr⟩ | ⟨v1,h1,e,hr⟩
 ·exact .inl ⟨hb,fun μ w args r ha=>hr μ w args r (hv _ _ ha)⟩
 ·exact .inr ⟨v1,h1,e,fun μ w args r ha=>hr μ w args r (hv _ _ ha)⟩
abbrev mW : Nat:=18446744073709551616
abbrev uI (n : Int) : V:=.i .u64 n
def toN (n : Int) : Nat:=Int.rec (motive:=fun _=>Nat) (fun m=>m) (fun _=>0) n
theorem W0z (n : Int) : toN n = n.toNat:=by cases n <;> rfl
def J2e (a b : Int) : Int:=wrY .u64 (addI a b)
def subU (a b : Int) : Int:=wrY .u64 (subI a b)
def W4f (a b : Int) : Int:=wrY .u64 (mulI a b)
def U1k (a b : Int) : Int:=J5q .and .u64 a b
def xorU (a b : Int) : Int:=J5q .xor .u64 a b
def orU (a b : Int) : Int:=J5q .or .u64 a b
def J6j (a : Int) (n : Nat) : Int:=G6i .u64 a n
def Q4m (a : Int) (n : Nat) : Int:=G6j .u64 a n
structure L5 where
 (a b c d e : Int)
def L5.v (x : L5) : V:=.ag [uI x.a,uI x.b,uI x.c,uI x.d,uI x.e]
theorem L5.vp (x : L5) : VP x.v:=VP.ag (VPs.cons (.i _ _) (VPs.cons (.i _ _) (VPs.cons (.i _ _) (VPs.cons (.i _ _) (VPs.cons (.i _ _) VPs.nil)))))
def l5 (v : V) : Option L5 :=
 match v with
 | .ag [.i .u64 a,.i .u64 b,.i .u64 c,.i .u64 d,.i .u64 e]=>some ⟨a,b,c,d,e⟩
 | _=>none
theorem U0e {v : V} {x : L5} (h : l5 v = some x) : v = x.v:=by
 unfold l5 at h
 split at h
 ·cases h; rfl
 ·cases h
def g1 (g : L5 → V) (vs : List V) : Option V:=match vs with | [a]=>(match l5 a with | some x=>some (g x) | none=>none) | _=>none
def g2 (g : L5 → L5 → V) (vs : List V) : Option V:=match vs with | [a,b]=>(match l5 a with | some x=>(match l5 b with | some y=>some (g x y) | none=>none) | none=>none) | _=>none
theorem PG.g1 {bt : BT} (hb : BG bt) {f : Nat} {g : L5 → V} (hr : ∀ x : L5,U2s (J5k bt f [x.v] H.e) = some (g x)) (hg : ∀ x,VP (g x)) : PG f (g1 g):=by
 intro n0 vs v h he
 unfold Go.X.g1 at he
 split at he
 ·rename_i a
  cases ha : l5 a with
  | none=>rw [ha] at he; cases he
  | some x =>
   rw [ha] at he
   cases he
   rw [U0e ha]
   exact run_pure hb (hr x) (VPs.cons x.vp VPs.nil) (hg x) n0 h
 ·cases he
theorem PG.g2 {bt : BT} (hb : BG bt) {f : Nat} {g : L5 → L5 → V} (hr : ∀ x y : L5,U2s (J5k bt f [x.v,y.v] H.e) = some (g x y)) (hg : ∀ x y,VP (g x y)) : PG f (g2 g):=by
 intro n0 vs v h he
 unfold Go.X.g2 at he
 split at he
 ·rename_i a b
  cases ha : l5 a with
  | none=>rw [ha] at he; cases he
  | some x =>
   rw [ha] at he
   simp only at he
   cases hb' : l5 b with
   | none=>rw [hb'] at he; cases he
   | some y =>
    rw [hb'] at he
    cases he
    rw [U0e ha,U0e hb']
    exact run_pure hb (hr x y) (VPs.cons x.vp (VPs.cons y.vp VPs.nil)) (hg x y) n0 h
 ·cases he
def W4g : Int:=.ofNat 2251799813685247
def U9f (x : L5) : L5 :=
 ⟨J2e (U1k x.a W4g) (W4f (.ofNat 19) (J6j x.e 51)),J2e (U1k x.b W4g) (J6j x.a 51),J2e (U1k x.c W4g) (J6j x.b 51),J2e (U1k x.d W4g) (J6j x.c 51),J2e (U1k x.e W4g) (J6j x.d 51)⟩
def G5a (x y : L5) : L5:=U9f ⟨J2e x.a y.a,J2e x.b y.b,J2e x.c y.c,J2e x.d y.d,J2e x.e y.e⟩
def Q4f (a b : Int) : Int:=J2e a (subU (.ofNat 9007199254740988) b)
def W6v (x y : L5) : L5:=U9f ⟨subU (Q4f x.a y.a) (.ofNat 72),Q4f x.b y.b,Q4f x.c y.c,Q4f x.d y.d,Q4f x.e y.e⟩
def J2p (n : Int) : L5:=⟨wrY .u64 n,.ofNat 0,.ofNat 0,.ofNat 0,.ofNat 0⟩
def W1f (bit : Int) : Int:=wr .u64 (Int.sub 0 (wrY .u64 (J5q .and .i64 bit (.ofNat 1))))
def G6c (m a b : Int) : Int:=xorU a (U1k m (xorU a b))
def G6b (m a b : Int) : Int:=xorU b (U1k m (xorU a b))
def G9i (m : Int) (x y : L5) : L5:=⟨G6c m x.a y.a,G6c m x.b y.b,G6c m x.c y.c,G6c m x.d y.d,G6c m x.e y.e⟩
def G9h (m : Int) (x y : L5) : L5:=⟨G6b m x.a y.a,G6b m x.b y.b,G6b m x.c y.c,G6b m x.d y.d,G6b m x.e y.e⟩
def bt0 : BT:=fun _=>none
theorem Q8f (x y : L5) : U2s (J5k bt0 102 [x.v,y.v] H.e) = some (G5a x y).v:=by kernel_rfl
theorem Q4c (x y : L5) : U2s (J5k bt0 103 [x.v,y.v] H.e) = some (W6v x y).v:=by kernel_rfl
theorem W6y (n : Int) : U2s (J5k bt0 53 [.i .u32 n] H.e) = some (J2p n).v:=by kernel_rfl
theorem G6d (x y : L5) (bit : Int) : U2s (J5k bt0 101 [x.v,y.v,.i .i64 bit] H.e) = some (.tu [(G9i (W1f bit) x y).v,(G9h (W1f bit) x y).v]):=by kernel_rfl
def hi64 (x y : Int) : Int :=
 (fun x0 x1 y0 y1=>(fun t=>J2e (J2e (W4f x1 y1) (J6j t 32)) (J6j (J2e (U1k t (.ofNat 4294967295)) (W4f x0 y1)) 32)) (J2e (W4f x1 y0) (J6j (W4f x0 y0) 32))) (U1k x (.ofNat 4294967295)) (J6j x 32) (U1k y (.ofNat 4294967295)) (J6j y 32)
theorem U6v (x y : Int) : U2s (J5k bt0 182 [uI x,uI y] H.e) = some (.tu [uI (hi64 x y),uI (W4f x y)]):=by kernel_rfl
end Go.X
namespace Go.X
open Go Go.RowKit Go.Proofs
theorem U5x (n : Int) : 0 ≤ wrY .u64 n ∧ wrY .u64 n < 18446744073709551616:=by
 rw [U2l,J6f]
 simp only [IntKind.wrap,IntKind.bits,IntKind.signed]
 simp
 omega
theorem zU {n : Int} (h0 : 0 ≤ n) (h1 : n < 18446744073709551616) {μ : M} {y : Value} (h : VR μ (uI n) y) : VR μ (.z mW (toN n)) y:=by
 rw [VR.i_iff] at h
 rw [VR.z_iff (show mW ≠ 0 by decide),h,W0z]
 have : ((n.toNat % mW : Nat) : Int) = n:=by
  show ((n.toNat % 18446744073709551616 : Nat) : Int) = n
  omega
 show Value.int .u64 n = .int .u64 ((n.toNat % mW : Nat) : Int)
 rw [this]
def uu (f : Int → Int → V) (vs : List V) : Option V:=match vs with | [.i .u64 a,.i .u64 b]=>some (f a b) | _=>none
theorem Q3r {f : Int → Int → V} {vs : List V} {v : V} (h : uu f vs = some v) : ∃ a b,vs = [uI a,uI b] ∧ v = f a b:=by
 unfold uu at h
 split at h
 ·cases h; exact ⟨_,_,rfl,rfl⟩
 ·cases h
def m64z (a b : Int) : V:=.tu [uI (hi64 a b),.z mW (toN (W4f a b))]
theorem Q6n : PG 182 (uu m64z):=by
 intro n0 vs v h he
 obtain ⟨a,b,rfl,rfl⟩:=Q3r he
 have h1:=run_pure BG.nil (U6v a b) (VPs.cons (.i _ _) (VPs.cons (.i _ _) VPs.nil)) (VP.tu (VPs.cons (.i _ _) (VPs.cons (.i _ _) VPs.nil))) n0 h
 refine h1.less fun μ y hy=>?_
 unfold m64z
 simp only [VR] at hy ⊢
 obtain ⟨cs,e,h2⟩:=hy
 refine ⟨cs,e,?_⟩
 obtain ⟨y1,ys,e1,k1,k2⟩:=VRs.cons_iff.1 h2
 obtain ⟨y2,ys2,e2,k3,k4⟩:=VRs.cons_iff.1 k2
 exact VRs.cons_iff.2 ⟨y1,ys,e1,k1,VRs.cons_iff.2 ⟨y2,ys2,e2,zU (U5x _).1 (U5x _).2 k3,k4⟩⟩
theorem G4c (x y c : Int) (hc : c.toNat ≤ 1) (w : World) :
  (callFunc 106 #[.int .u64 x,.int .u64 y,.int .u64 c]).run Tryz.prog w = .ok (.value (.tuple #[.int .u64 (Int.ofNat ((x.toNat + y.toNat + c.toNat) % mW)),.int .u64 (Int.ofNat ((x.toNat + y.toNat + c.toNat) / mW))])) w:=by
 rw [run_callFunc_extern (fn:=Tryz.f106) (by kernel_rfl) (by kernel_rfl) (by kernel_rfl) (by kernel_rfl) (e:=add64Entry) (by kernel_rfl)]
 have key : (add64Entry #[.int .u64 x,.int .u64 y,.int .u64 c]).run Tryz.prog w =
   .ok (Extern.MathBitsCarry.pair ((x.toNat + y.toNat + c.toNat) % Extern.MathBitsCarry.m64) ((x.toNat + y.toNat + c.toNat) / Extern.MathBitsCarry.m64)) w:=by
  cases c with
  | negSucc n=>rfl
  | ofNat n =>
   have hn : n ≤ 1:=hc
   have : n = 0 ∨ n = 1:=by omega
   rcases this with rfl | rfl <;> rfl
 rw [key]
 rfl
theorem J9i {n0 : Nat} {h : H} {vs : List V} {x y c : Int} (hc : c.toNat ≤ 1) (hv : ∀ μ ys,VRs μ vs ys → ys = [.int .u64 x,.int .u64 y,.int .u64 c]) :
  CallOK Tryz.prog (bsG n0) 106 vs h (.ok (.tu [uI (.ofNat ((x.toNat + y.toNat + c.toNat) % mW)),uI (.ofNat ((x.toNat + y.toNat + c.toNat) / mW))]) h):=by
 refine .inr ⟨_,h,rfl,fun μ w args r ha=>?_⟩
 have e : args = #[.int .u64 x,.int .u64 y,.int .u64 c]:=Array.ext' (hv μ _ ha)
 subst e
 refine ⟨_,w,μ,G4c x y c hc w,?_,r,Ext.refl _ _ _⟩
 simp only [VR]
 exact ⟨_,rfl,VRs.cons_mk (by rw [VR.i_iff]) (VRs.cons_mk (by rw [VR.i_iff]) (VRs.nil_iff.2 rfl))⟩
def Q8j (x y : Nat) : V:=.tu [.z mW (Nat.add (Nat.mod x mW) (Nat.mod y mW)),.z 2 (Nat.div (Nat.add (Nat.mod x mW) (Nat.mod y mW)) mW)]
def Q3f (x y : Int) (c : Nat) : V:=.tu [uI (.ofNat (Nat.mod (Nat.add (Nat.add (toN x) (toN y)) (Nat.mod c 2)) mW)),uI (.ofNat (Nat.div (Nat.add (Nat.add (toN x) (toN y)) (Nat.mod c 2)) mW))]
def a64z (vs : List V) : Option V :=
 match vs with
 | [.z m x,.z m' y,.i .u64 (.ofNat 0)]=>Bool.rec none (Bool.rec none (some (Q8j x y)) (Nat.beq m' mW)) (Nat.beq m mW)
 | [.z m x,.i .u64 (.ofNat 0),.i .u64 (.ofNat 0)]=>Bool.rec none (some (Q8j x 0)) (Nat.beq m mW)
 | [.i .u64 x,.i .u64 y,.z m c]=>Bool.rec none (some (Q3f x y c)) (Nat.beq m 2)
 | _=>none
theorem vrs3 {μ : M} {a b c : V} {ys : List Value} (h : VRs μ [a,b,c] ys) : ∃ x y z,ys = [x,y,z] ∧ VR μ a x ∧ VR μ b y ∧ VR μ c z:=by
 obtain ⟨x,xs,rfl,h1,h2⟩:=VRs.cons_iff.1 h
 obtain ⟨y,ys,rfl,h3,h4⟩:=VRs.cons_iff.1 h2
 obtain ⟨z,zs,rfl,h5,h6⟩:=VRs.cons_iff.1 h4
 rw [VRs.nil_iff.1 h6]
 exact ⟨x,y,z,rfl,h1,h3,h5⟩
theorem vr_tu2 {μ : M} {a b a' b' : V} {y : Value} (h : VR μ (.tu [a,b]) y) (ha : ∀ y,VR μ a y → VR μ a' y) (hb : ∀ y,VR μ b y → VR μ b' y) : VR μ (.tu [a',b']) y:=by
 simp only [VR] at h ⊢
 obtain ⟨cs,e,h2⟩:=h
 refine ⟨cs,e,?_⟩
 obtain ⟨y1,ys,e1,k1,k2⟩:=VRs.cons_iff.1 h2
 obtain ⟨y2,ys2,e2,k3,k4⟩:=VRs.cons_iff.1 k2
 exact VRs.cons_iff.2 ⟨y1,ys,e1,ha _ k1,VRs.cons_iff.2 ⟨y2,ys2,e2,hb _ k3,k4⟩⟩
theorem W2v {n0 : Nat} {h : H} {vs : List V} {x y : Nat} (hv : ∀ μ ys,VRs μ vs ys → ys = [.int .u64 (Int.ofNat (x % mW)),.int .u64 (Int.ofNat (y % mW)),.int .u64 (Int.ofNat 0)]) : CallOK Tryz.prog (bsG n0) 106 vs h (.ok (Q8j x y) h):=by
 refine (J9i (c:=Int.ofNat 0) (by decide) hv).less fun μ y' hy=>vr_tu2 hy ?_ ?_
 ·intro v hv
  rw [VR.i_iff] at hv
  rw [VR.z_iff (show mW ≠ 0 by decide),hv]
  rfl
 ·intro v hv
  rw [VR.i_iff] at hv
  rw [VR.z_iff (show (2 : Nat) ≠ 0 by decide),hv]
  have h1 : x % mW < mW:=Nat.mod_lt _ (by decide)
  have h2 : y % mW < mW:=Nat.mod_lt _ (by decide)
  have h3 : (x % mW + y % mW) / mW < 2:=Nat.div_lt_of_lt_mul (by omega)
  have h4 : (x % mW + y % mW) / mW % 2 = (x % mW + y % mW) / mW:=Nat.mod_eq_of_lt h3
  show Value.int .u64 (Int.ofNat ((x % mW + y % mW + 0) / mW)) = .int .u64 (Int.ofNat ((x % mW + y % mW) / mW % 2))
  rw [h4,Nat.add_zero]
theorem Q8k : PG 106 a64z:=by
 intro n0 vs v h he
 unfold a64z at he
 split at he
 ·rename_i m x m' y
  cases hm : Nat.beq m mW <;> rw [hm] at he
  ·cases he
  cases hm' : Nat.beq m' mW <;> rw [hm'] at he
  ·cases he
  cases he
  have e1:=Nat.eq_of_beq_eq_true hm
  have e2:=Nat.eq_of_beq_eq_true hm'
  subst e1; subst e2
  refine W2v fun μ ys hy=>?_
  obtain ⟨a,b,c,rfl,h1,h2,h3⟩:=vrs3 hy
  rw [VR.z_iff (show mW ≠ 0 by decide)] at h1 h2
  rw [VR.i_iff] at h3
  rw [h1,h2,h3]
 ·rename_i m x
  cases hm : Nat.beq m mW <;> rw [hm] at he
  ·cases he
  cases he
  have e1:=Nat.eq_of_beq_eq_true hm
  subst e1
  refine W2v fun μ ys hy=>?_
  obtain ⟨a,b,c,rfl,h1,h2,h3⟩:=vrs3 hy
  rw [VR.z_iff (show mW ≠ 0 by decide)] at h1
  rw [VR.i_iff] at h2 h3
  rw [h1,h2,h3]; rfl
 ·rename_i x y m c
  cases hm : Nat.beq m 2 <;> rw [hm] at he
  ·cases he
  cases he
  have e1:=Nat.eq_of_beq_eq_true hm
  subst e1
  have hc : (Int.ofNat (c % 2)).toNat = c % 2:=rfl
  have:=J9i (n0:=n0) (h:=h) (vs:=[.i .u64 x,.i .u64 y,.z 2 c]) (x:=x) (y:=y) (c:=Int.ofNat (c % 2)) (by rw [hc]; omega) (fun μ ys hy=>by
   obtain ⟨a,b,d,rfl,h1,h2,h3⟩:=vrs3 hy
   rw [VR.i_iff] at h1 h2
   rw [VR.z_iff (show (2 : Nat) ≠ 0 by decide)] at h3
   rw [h1,h2,h3])
  unfold Q3f
  rw [W0z,W0z]
  exact this
 ·cases he
structure W2 where
 hi : Int
 lo : Nat
def W2.v (w : W2) : V:=.ag [uI w.hi,.z mW w.lo]
theorem W2.vp (w : W2) : VP w.v:=by
 refine VP.ag (VPs.cons (.i _ _) (VPs.cons ?_ VPs.nil))
 intro μ μ' y h
 simpa only [VR] using h
def U9x (hi : Int) (lo : Nat) (a b : Int) : W2 :=
 ⟨.ofNat (Nat.mod (Nat.add (Nat.add (toN (hi64 a b)) (toN hi)) (Nat.mod (Nat.div (Nat.add (Nat.mod (toN (W4f a b)) mW) (Nat.mod lo mW)) mW) 2)) mW),Nat.add (Nat.mod (toN (W4f a b)) mW) (Nat.mod lo mW)⟩
def btP : BT:=btC 106 (.p a64z) (btC 182 (.p (uu m64z)) bt0)
theorem Q3b : BG btP:=(BG.nil.p Q6n).p Q8k
theorem G6v (hi : Int) (lo : Nat) (a b : Int) : U2s (J5k btP 105 [.ag [uI hi,.z mW lo],uI a,uI b] H.e) = some (U9x hi lo a b).v:=by kernel_rfl
theorem G0i (a b : Int) : U2s (J5k btP 105 [.ag [uI (.ofNat 0),uI (.ofNat 0)],uI a,uI b] H.e) = some (U9x (.ofNat 0) 0 a b).v:=by kernel_rfl
def Q5a (vs : List V) : Option V :=
 match vs with
 | [.ag [.i .u64 hi,.z m lo],.i .u64 a,.i .u64 b]=>Bool.rec none (some (U9x hi lo a b).v) (Nat.beq m mW)
 | [.ag [.i .u64 (.ofNat 0),.i .u64 (.ofNat 0)],.i .u64 a,.i .u64 b]=>some (U9x (.ofNat 0) 0 a b).v
 | _=>none
theorem VP.z (m n : Nat) : VP (.z m n):=fun μ μ' y h=>by simpa only [VR] using h
theorem G6w : PG 105 Q5a:=by
 intro n0 vs v h he
 unfold Q5a at he
 split at he
 ·rename_i hi m lo a b
  cases hm : Nat.beq m mW <;> rw [hm] at he
  ·cases he
  cases he
  have e1:=Nat.eq_of_beq_eq_true hm
  subst e1
  exact run_pure Q3b (G6v hi lo a b) (VPs.cons (VP.ag (VPs.cons (.i _ _) (VPs.cons (.z _ _) VPs.nil))) (VPs.cons (.i _ _) (VPs.cons (.i _ _) VPs.nil))) (W2.vp _) n0 h
 ·rename_i a b
  cases he
  exact run_pure Q3b (G0i a b) (VPs.cons (VP.ag (VPs.cons (.i _ _) (VPs.cons (.i _ _) VPs.nil))) (VPs.cons (.i _ _) (VPs.cons (.i _ _) VPs.nil))) (W2.vp _) n0 h
 ·cases he
end Go.X
namespace Go.X
open Go Go.RowKit Go.Proofs
def a64zi (x : Nat) (y : Int) : V:=.tu [uI (.ofNat (Nat.mod (Nat.add (Nat.mod x mW) (toN y)) mW)),uI (.ofNat (Nat.div (Nat.add (Nat.mod x mW) (toN y)) mW))]
def a64m (vs : List V) : Option V :=
 match vs with
 | [.z m x,.i .u64 y,.i .u64 (.ofNat 0)]=>Bool.rec none (some (a64zi x y)) (Nat.beq m mW)
 | _=>none
theorem Q8l : PG 106 a64m:=by
 intro n0 vs v h he
 unfold a64m at he
 split at he
 ·rename_i m x y
  cases hm : Nat.beq m mW <;> rw [hm] at he
  ·cases he
  cases he
  have e1:=Nat.eq_of_beq_eq_true hm
  subst e1
  have:=J9i (n0:=n0) (h:=h) (vs:=[.z mW x,.i .u64 y,.i .u64 (.ofNat 0)]) (x:=Int.ofNat (x % mW)) (y:=y) (c:=Int.ofNat 0) (by decide) (fun μ ys hy=>by
   obtain ⟨a,b,d,rfl,h1,h2,h3⟩:=vrs3 hy
   rw [VR.i_iff] at h2 h3
   rw [VR.z_iff (show mW ≠ 0 by decide)] at h1
   rw [h1,h2,h3])
  unfold a64zi
  rw [W0z]
  exact this
 ·cases he
def btM : BT:=btC 105 (.p Q5a) (btC 106 (.p a64m) bt0)
theorem btM_ok : BG btM:=(BG.nil.p Q8l).p G6w
def pz0 (a b : Int) : W2:=U9x (.ofNat 0) 0 a b
def pzz (w : W2) (a b : Int) : W2:=U9x w.hi w.lo a b
def Q4b (a0 b0 a1 b1 a2 b2 a3 b3 a4 b4 : Int) : W2:=pzz (pzz (pzz (pzz (pz0 a0 b0) a1 b1) a2 b2) a3 b3) a4 b4
def cyL (w : W2) (c : Int) : Int:=.ofNat (Nat.mod (Nat.add (Nat.mod w.lo mW) (toN c)) mW)
def cyH (w : W2) (c : Int) : Int:=J2e w.hi (.ofNat (Nat.div (Nat.add (Nat.mod w.lo mW) (toN c)) mW))
def cyK (w : W2) (c : Int) : Int:=U1k (cyL w c) W4g
def cyC (w : W2) (c : Int) : Int:=orU (Q4m (cyH w c) 13) (J6j (cyL w c) 51)
def x19 (a : Int) : Int:=W4f (.ofNat 19) a
def W2p (w0 w1 w2 w3 w4 : W2) : L5 :=
 (fun c0=>(fun c1=>(fun c2=>(fun c3=>(fun c4=>⟨J2e (cyK w0 (.ofNat 0)) (x19 c4),cyK w1 c0,cyK w2 c1,cyK w3 c2,cyK w4 c3⟩) (cyC w4 c3)) (cyC w3 c2)) (cyC w2 c1)) (cyC w1 c0)) (cyC w0 (.ofNat 0))
def U2y (x y : L5) : L5 :=
 U9f (W2p
  (Q4b x.a y.a x.b (x19 y.e) x.c (x19 y.d) x.d (x19 y.c) x.e (x19 y.b))
  (Q4b x.a y.b x.b y.a x.c (x19 y.e) x.d (x19 y.d) x.e (x19 y.c))
  (Q4b x.a y.c x.b y.b x.c y.a x.d (x19 y.e) x.e (x19 y.d))
  (Q4b x.a y.d x.b y.c x.c y.b x.d y.a x.e (x19 y.e))
  (Q4b x.a y.e x.b y.d x.c y.c x.d y.b x.e y.a))
theorem Q6l (x y : L5) : U2s (J5k btM 56 [x.v,y.v] H.e) = some (U2y x y).v:=by kernel_rfl
end Go.X
namespace Go.X
open Go Go.RowKit Go.Proofs
def btI : BT:=btC 56 (.p (g2 fun x y=>(U2y x y).v)) bt0
theorem G0z : PG 56 (g2 fun x y=>(U2y x y).v):=PG.g2 btM_ok Q6l fun _ _=>L5.vp _
theorem Q3c : BG btI:=BG.nil.p G0z
def invS (a : L5) (i : Nat) (r : L5) : L5:=Bool.rec (U2y (U2y r r) a) (U2y r r) (Nat.beq i 2 || Nat.beq i 4)
def invR (a : L5) (n : Nat) : L5 → L5:=Nat.rec (motive:=fun _=>L5 → L5) (fun r=>r) (fun i ih r=>ih (invS a i r)) n
def Q7f (a : L5) : L5:=invR a 255 (J2p (.ofNat 1))
theorem Q7d (x : L5) : U2s (J5k btI 57 [x.v] H.e) = some (Q7f x).v:=by kernel_rfl
abbrev bI (n : Int) : V:=.i .u8 n
def tab (f : Nat → V) (n : Nat) : Nat → List V:=Nat.rec (motive:=fun _=>Nat → List V) (fun _=>[]) (fun _ ih i=>f i::ih (Nat.succ i)) n
def kv (k : Nat → Int) : V:=.ag (tab (fun i=>bI (k i)) 32 0)
def bit1 (b : Nat → Int) (i : Nat) : Int:=wrY .u64 (J5q .and .u8 (G6i .u8 (b (Nat.div i 8)) (Nat.mod i 8)) (.ofNat 1))
def limb (b : Nat → Int) (o : Nat) (n : Nat) : Int:=Nat.rec (motive:=fun _=>Int) (.ofNat 0) (fun t acc=>orU acc (Q4m (bit1 b (Nat.add o t)) t)) n
def J8u (b : Nat → Int) : L5:=U9f ⟨limb b 0 51,limb b 51 51,limb b 102 51,limb b 153 51,limb b 204 51⟩
theorem G7s (b : Nat → Int) : U2s (J5k bt0 52 [kv b] H.e) = some (J8u b).v:=by kernel_rfl
def L5.at (l : L5) (k : Nat) : Int:=Nat.rec (motive:=fun _=>Int) l.a (fun k _=>Nat.rec (motive:=fun _=>Int) l.b (fun k _=>Nat.rec (motive:=fun _=>Int) l.c (fun k _=>Nat.rec (motive:=fun _=>Int) l.d (fun _ _=>l.e) k) k) k) k
def outB (l : L5) (o : Nat) (n : Nat) : Int:=Nat.rec (motive:=fun _=>Int) (.ofNat 0) (fun t acc=>J5q .or .u8 acc (G6j .u8 (wrY .u8 (U1k (J6j (l.at (Nat.div (Nat.add o t) 51)) (Nat.mod (Nat.add o t) 51)) (.ofNat 1))) t)) n
def redL (l : L5) : L5 :=
 (fun q=>(fun c0=>(fun l0=>(fun c1=>(fun l1=>(fun c2=>(fun l2=>(fun c3=>(fun l3=>(fun c4=>(fun l4=>⟨U1k l0 W4g,U1k l1 W4g,U1k l2 W4g,U1k l3 W4g,U1k l4 W4g⟩) (J2e l.e c4)) (J6j l3 51)) (J2e l.d c3)) (J6j l2 51)) (J2e l.c c2)) (J6j l1 51)) (J2e l.b c1)) (J6j l0 51)) (J2e l.a c0)) (W4f (.ofNat 19) q))
  (J6j (J2e l.e (J6j (J2e l.d (J6j (J2e l.c (J6j (J2e l.b (J6j (J2e l.a (.ofNat 19)) 51)) 51)) 51)) 51)) 51)
def U3u (a : L5) (j : Nat) : Int:=(fun l=>outB l (Nat.mul 8 j) (Bool.rec 8 7 (Nat.beq j 31))) (redL (U9f (U9f a)))
theorem G3n (a : L5) : U2s (J5k bt0 58 [a.v] H.e) = some (kv (U3u a)):=by kernel_rfl
def J7i (k : Nat → Int) (j : Nat) : Int:=Bool.rec (Bool.rec (k j) (J5q .or .u8 (J5q .and .u8 (k 31) (.ofNat 127)) (.ofNat 64)) (Nat.beq j 31)) (J5q .and .u8 (k 0) (.ofNat 248)) (Nat.beq j 0)
theorem G3g (k : Nat → Int) : U2s (J5k bt0 51 [kv k] H.e) = some (kv (J7i k)):=by kernel_rfl
end Go.X
namespace Go.X
open Go Go.RowKit Go.Proofs
theorem W1e {f : Nat → V} (hf : ∀ i,VP (f i)) : ∀ n i,VPs (tab f n i)
 | 0,i=>VPs.nil
 | n + 1,i=>VPs.cons (hf i) (W1e hf n (i + 1))
theorem U1x (k : Nat → Int) : VP (kv k):=VP.ag (W1e (fun i=>VP.i _ _) 32 0)
def hdB (l : List V) : Int:=match l with | .i .u8 n::_=>n | _=>.ofNat 0
def tlB (l : List V) : List V:=List.rec (motive:=fun _=>List V) [] (fun _ t _=>t) l
def nthB (l : List V) (n : Nat) : Int:=Nat.rec (motive:=fun _=>List V → Int) hdB (fun _ ih l=>ih (tlB l)) n l
def isB (x : V) : Bool:=match x with | .i .u8 _=>true | _=>false
def allB (n : Nat) : List V → Bool:=Nat.rec (motive:=fun _=>List V → Bool) (fun l=>List.rec (motive:=fun _=>Bool) true (fun _ _ _=>false) l) (fun _ ih l=>List.rec (motive:=fun _=>Bool) false (fun x t _=>Bool.rec false (ih t) (isB x)) l) n
theorem U8b : ∀ (n i : Nat) (l : List V) (f : Nat → Int),allB n l = true → (∀ j,j < n → f (i + j) = nthB l j) → l = tab (fun i=>bI (f i)) n i
 | 0,i,l,f,h,_=>by
  cases l with
  | nil=>rfl
  | cons _ _=>cases h
 | n + 1,i,l,f,h,hf=>by
  cases l with
  | nil=>cases h
  | cons x t =>
   have h2 : (Bool.rec false (allB n t) (isB x) : Bool) = true:=h
   cases hx : isB x <;> rw [hx] at h2
   ·cases h2
   have ht:=U8b n (i + 1) t f h2 fun j hj=>by
    have:=hf (j + 1) (by omega)
    rw [show i + 1 + j = i + (j + 1) by omega,this]; rfl
   show x::t = bI (f i)::tab (fun i=>bI (f i)) n (i + 1)
   rw [← ht]
   have hx2 : ∃ m,x = bI m:=by
    unfold isB at hx
    split at hx
    ·exact ⟨_,rfl⟩
    ·cases hx
   obtain ⟨m,rfl⟩:=hx2
   have:=hf 0 (by omega)
   rw [Nat.add_zero] at this
   rw [this]; rfl
def kB (v : V) : Option (Nat → Int):=match v with | .ag l=>Bool.rec none (some (nthB l)) (allB 32 l) | _=>none
theorem G1y {v : V} {k : Nat → Int} (h : kB v = some k) : v = kv k:=by
 unfold kB at h
 split at h
 ·rename_i l
  cases hl : allB 32 l <;> rw [hl] at h
  ·cases h
  cases h
  unfold kv
  rw [← U8b 32 0 l (nthB l) hl (fun j _=>by rw [Nat.zero_add])]
 ·cases h
def Q7n (vs : List V) : Option V:=match vs with | [a]=>(match kB a with | some b=>some (J8u b).v | none=>none) | _=>none
theorem G7u : PG 52 Q7n:=by
 intro n0 vs v h he
 unfold Q7n at he
 split at he
 ·rename_i a
  cases ha : kB a with
  | none=>rw [ha] at he; cases he
  | some b =>
   rw [ha] at he
   cases he
   rw [G1y ha]
   exact run_pure BG.nil (G7s b) (VPs.cons (U1x b) VPs.nil) (L5.vp _) n0 h
 ·cases he
def G3j (vs : List V) : Option V:=match vs with | [a]=>(match kB a with | some b=>some (kv (J7i b)) | none=>none) | _=>none
theorem G3i : PG 51 G3j:=by
 intro n0 vs v h he
 unfold G3j at he
 split at he
 ·rename_i a
  cases ha : kB a with
  | none=>rw [ha] at he; cases he
  | some b =>
   rw [ha] at he
   cases he
   rw [G1y ha]
   exact run_pure BG.nil (G3g b) (VPs.cons (U1x b) VPs.nil) (U1x _) n0 h
 ·cases he
def W7a (vs : List V) : Option V:=match vs with | [.i .u32 n]=>some (J2p n).v | _=>none
theorem W6z : PG 53 W7a:=by
 intro n0 vs v h he
 unfold W7a at he
 split at he
 ·cases he
  exact run_pure BG.nil (W6y _) (VPs.cons (.i _ _) VPs.nil) (L5.vp _) n0 h
 ·cases he
def swapV (bit : Int) (x y : L5) : V:=.tu [(G9i (W1f bit) x y).v,(G9h (W1f bit) x y).v]
def Q4a (vs : List V) : Option V:=match vs with | [a,b,.i .i64 bit]=>(match l5 a with | some x=>(match l5 b with | some y=>some (swapV bit x y) | none=>none) | none=>none) | _=>none
theorem G6e : PG 101 Q4a:=by
 intro n0 vs v h he
 unfold Q4a at he
 split at he
 ·rename_i a b bit
  cases ha : l5 a with
  | none=>rw [ha] at he; cases he
  | some x =>
   rw [ha] at he
   simp only at he
   cases hb' : l5 b with
   | none=>rw [hb'] at he; cases he
   | some y =>
    rw [hb'] at he
    cases he
    rw [U0e ha,U0e hb']
    exact run_pure BG.nil (G6d x y bit) (VPs.cons x.vp (VPs.cons y.vp (VPs.cons (.i _ _) VPs.nil))) (VP.tu (VPs.cons (L5.vp _) (VPs.cons (L5.vp _) VPs.nil))) n0 h
 ·cases he
theorem Q8h : PG 102 (g2 fun x y=>(G5a x y).v):=PG.g2 BG.nil Q8f fun _ _=>L5.vp _
theorem Q4e : PG 103 (g2 fun x y=>(W6v x y).v):=PG.g2 BG.nil Q4c fun _ _=>L5.vp _
theorem Q7g : PG 57 (g1 fun x=>(Q7f x).v):=PG.g1 Q3c Q7d fun _=>L5.vp _
theorem G3o : PG 58 (g1 fun x=>kv (U3u x)):=PG.g1 BG.nil G3n fun _=>U1x _
def sqL (a : L5) : L5:=U2y a a
theorem sq_run (x : L5) : U2s (J5k btI 104 [x.v] H.e) = some (sqL x).v:=by kernel_rfl
theorem sqG_ok : PG 104 (g1 fun x=>(sqL x).v):=PG.g1 Q3c sq_run fun _=>L5.vp _
def btX : BT :=
 btC 104 (.p (g1 fun x=>(sqL x).v)) <|
 btC 56 (.p (g2 fun x y=>(U2y x y).v)) (btC 102 (.p (g2 fun x y=>(G5a x y).v)) (btC 103 (.p (g2 fun x y=>(W6v x y).v)) (btC 101 (.p Q4a) (btC 53 (.p W7a)
  (btC 57 (.p (g1 fun x=>(Q7f x).v)) (btC 58 (.p (g1 fun x=>kv (U3u x))) (btC 52 (.p Q7n) (btC 51 (.p G3j) bt0))))))))
theorem btX_ok : BG btX:=(((((((((BG.nil.p G3i).p G7u).p G3o).p Q7g).p W6z).p G6e).p Q4e).p Q8h).p G0z).p sqG_ok
structure PQ where
 (px pz qx qz : L5)
def G6a (bit : Int) (s : PQ) : PQ:=⟨G9i (W1f bit) s.px s.qx,G9i (W1f bit) s.pz s.qz,G9h (W1f bit) s.px s.qx,G9h (W1f bit) s.pz s.qz⟩
def ladL (u : L5) (s : PQ) : PQ :=
 (fun sum less=>(fun da cb aa bb=>(fun e=>⟨U2y aa bb,U2y e (G5a aa (U2y (J2p (.ofNat 121665)) e)),sqL (G5a da cb),U2y u (sqL (W6v da cb))⟩) (W6v aa bb))
  (U2y (W6v s.qx s.qz) sum) (U2y (G5a s.qx s.qz) less) (sqL sum) (sqL less)) (G5a s.px s.pz) (W6v s.px s.pz)
def bitX (k : Nat → Int) (i : Nat) : Int:=wrY .i64 (J5q .and .u8 (G6i .u8 (k (Nat.div i 8)) (Nat.mod i 8)) (.ofNat 1))
def G4u (k : Nat → Int) (u : L5) (n : Nat) : Int → PQ → PQ:=Nat.rec (motive:=fun _=>Int → PQ → PQ) (fun last s=>G6a last s) (fun i ih last s=>ih (bitX k i) (ladL u (G6a (J5q .xor .i64 (bitX k i) last) s))) n
def xL (k u : Nat → Int) : Nat → Int :=
 (fun x=>(fun s=>U3u (U2y s.px (Q7f s.pz))) (G4u (J7i k) x 255 (.ofNat 0) ⟨J2p (.ofNat 1),⟨.ofNat 0,.ofNat 0,.ofNat 0,.ofNat 0,.ofNat 0⟩,x,J2p (.ofNat 1)⟩)) (J8u u)
end Go.X
namespace Go.X
open Go Go.RowKit Go.Proofs
def J4c (a b : Int) : Int:=wrY .u32 (addI a b)
def J6e (a b : Int) : Int:=J5q .xor .u32 a b
def orW (a b : Int) : Int:=J5q .or .u32 a b
def Q4l (a : Int) (n : Nat) : Int:=G6j .u32 a n
def Q4j (a : Int) (n : Nat) : Int:=G6i .u32 a n
def U1q (a : Int) (n m : Nat) : Int:=orW (Q4l a n) (Q4j a m)
def J0v (b : Nat → Int) (o : Nat) : Int:=orW (orW (orW (orW (.ofNat 0) (Q4l (wrY .u32 (b o)) 0)) (Q4l (wrY .u32 (b (Nat.add o 1))) 8)) (Q4l (wrY .u32 (b (Nat.add o 2))) 16)) (Q4l (wrY .u32 (b (Nat.add o 3))) 24)
structure WI where
 (w0 w1 w2 w3 w4 w5 w6 w7 w8 w9 w10 w11 w12 w13 w14 w15 : Int)
def qrI {α : Type} (a b c d : Int) (K : Int → Int → Int → Int → α) : α :=
 (fun a1=>(fun d1=>(fun c1=>(fun b1=>(fun a2=>(fun d2=>(fun c2=>K a2 (U1q (J6e b1 c2) 7 25) c2 d2) (J4c c1 d2)) (U1q (J6e d1 a2) 8 24)) (J4c a1 b1)) (U1q (J6e b c1) 12 20)) (J4c c d1)) (U1q (J6e d a1) 16 16)) (J4c a b)
def drI (v : WI) : WI :=
 qrI v.w0 v.w4 v.w8 v.w12 fun x0 x1 x2 x3=>qrI v.w1 v.w5 v.w9 v.w13 fun x4 x5 x6 x7=>qrI v.w2 v.w6 v.w10 v.w14 fun x8 x9 x10 x11=>qrI v.w3 v.w7 v.w11 v.w15 fun x12 x13 x14 x15=>qrI x0 x5 x10 x15 fun x16 x17 x18 x19=>qrI x4 x9 x14 x3 fun x20 x21 x22 x23=>qrI x8 x13 x2 x7 fun x24 x25 x26 x27=>qrI x12 x1 x6 x11 fun x28 x29 x30 x31=>⟨x16,x20,x24,x28,x29,x17,x21,x25,x26,x30,x18,x22,x23,x27,x31,x19⟩
def rdI (n : Nat) : WI → WI:=Nat.rec (motive:=fun _=>WI → WI) (fun v=>v) (fun _ ih v=>ih (drI v)) n
def WI.at (v : WI) (k : Nat) : Int:=Nat.rec (motive:=fun _=>Int) v.w0 (fun k _=>Nat.rec (motive:=fun _=>Int) v.w1 (fun k _=>Nat.rec (motive:=fun _=>Int) v.w2 (fun k _=>Nat.rec (motive:=fun _=>Int) v.w3 (fun k _=>Nat.rec (motive:=fun _=>Int) v.w4 (fun k _=>Nat.rec (motive:=fun _=>Int) v.w5 (fun k _=>Nat.rec (motive:=fun _=>Int) v.w6 (fun k _=>Nat.rec (motive:=fun _=>Int) v.w7 (fun k _=>Nat.rec (motive:=fun _=>Int) v.w8 (fun k _=>Nat.rec (motive:=fun _=>Int) v.w9 (fun k _=>Nat.rec (motive:=fun _=>Int) v.w10 (fun k _=>Nat.rec (motive:=fun _=>Int) v.w11 (fun k _=>Nat.rec (motive:=fun _=>Int) v.w12 (fun k _=>Nat.rec (motive:=fun _=>Int) v.w13 (fun k _=>Nat.rec (motive:=fun _=>Int) v.w14 (fun k _=>v.w15) k) k) k) k) k) k) k) k) k) k) k) k) k) k) k
def stI (k : Nat → Int) (c : Int) (n : Nat → Int) : WI:=⟨(.ofNat 1634760805),(.ofNat 857760878),(.ofNat 2036477234),(.ofNat 1797285236),(J0v k 0),(J0v k 4),(J0v k 8),(J0v k 12),(J0v k 16),(J0v k 20),(J0v k 24),(J0v k 28),c,(J0v n 0),(J0v n 4),(J0v n 8)⟩
def smI (v s : WI) : WI:=⟨J4c v.w0 s.w0,J4c v.w1 s.w1,J4c v.w2 s.w2,J4c v.w3 s.w3,J4c v.w4 s.w4,J4c v.w5 s.w5,J4c v.w6 s.w6,J4c v.w7 s.w7,J4c v.w8 s.w8,J4c v.w9 s.w9,J4c v.w10 s.w10,J4c v.w11 s.w11,J4c v.w12 s.w12,J4c v.w13 s.w13,J4c v.w14 s.w14,J4c v.w15 s.w15⟩
def blkI (k : Nat → Int) (c : Int) (n : Nat → Int) : Nat → Int:=(fun s=>(fun f j=>wrY .u8 (Q4j (WI.at f (Nat.div j 4)) (Nat.mul 8 (Nat.mod j 4)))) (smI (rdI 10 s) s)) (stI k c n)
def kvN (m : Nat) (k : Nat → Int) : V:=.ag (tab (fun i=>bI (k i)) m 0)
theorem Q7x (k : Nat → Int) (c : Int) (n : Nat → Int) : U2s (J5k bt0 268 [kv k,.i .u32 c,kvN 12 n] H.e) = some (kvN 64 (blkI k c n)):=by kernel_rfl
end Go.X
end
