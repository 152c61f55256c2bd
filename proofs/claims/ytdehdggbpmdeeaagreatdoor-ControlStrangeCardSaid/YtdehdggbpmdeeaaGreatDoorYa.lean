/- Runs of the abstract machine over unknown numbers: what the program's field functions reckon, limb by limb. -/
import Derived.Test.YtdehdggbpmdeeaaGreatDoorXi
import Derived.KernelRfl
import Derived.Laws.Externs
import Derived.Test.YtdehdggbpmdeeaaGreatDoorProg
set_option linter.all false
set_option maxRecDepth 100000
namespace Go.X
open Go Go.RowKit Go.Proofs
noncomputable def ftG : Nat → Option FE:=ftP Tryz.prog
noncomputable def ltG : Nat → Option LC:=ltP Tryz.prog
noncomputable def runB (bt : BT) (f : Nat) (vs : List V) (h : H) : RC:=callF ftG bt (exec ftG ltG bt 100000) f vs h
noncomputable def resV (x : RC) : Option V:=RC.rec (motive:=fun _=>Option V) (fun v _=>some v) (fun _ _=>none) none x
theorem resV_some {x : RC} {v : V} (h : resV x = some v) : ∃ h',x = .ok v h':=by
 cases x with
 | ok v' h'=>exact ⟨h',by cases h; rfl⟩
 | pn _ _=>cases h
 | bad=>cases h
theorem names_ok : ∀ fn ∈ (Tryz.prog).funcs.toList, (fn.name == "runtime.NumGoroutine") = false := by decide +kernel
theorem st_ok : chkSt Tryz.prog = true:=by decide +kernel
theorem ttG_ok : TTok Tryz.prog (ttP Tryz.prog):=ttP_ok _ st_ok
theorem ftG_ok : FTok Tryz.prog (ttP Tryz.prog) ftG:=names_all names_ok
theorem ltG_ok : LTok Tryz.prog (ttP Tryz.prog) ltG:=ltP_ok _
noncomputable abbrev bsG (n0 : Nat) : Bs:=bsL Tryz.prog (ttP Tryz.prog) n0
def BG (bt : BT) : Prop:=∀ n0,BTok Tryz.prog (bsG n0) bt
theorem BG.nil : BG (fun _=>none):=fun n0 f g h=>by cases h
noncomputable def btC (f : Nat) (g : BF) (bt : BT) : BT:=fun i=>Bool.rec (bt i) (some g) (Nat.beq i f)
theorem BG.cons {bt : BT} (hb : BG bt) {f : Nat} {g : BF} (hg : ∀ n0 vs h v h',rcB g vs h = .ok v h' → CallOK Tryz.prog (bsG n0) f vs h (.ok v h')) : BG (btC f g bt):=by
 intro n0 f' g' he
 have he2 : (Bool.rec (bt f') (some g) (Nat.beq f' f) : Option BF) = some g':=he
 cases hx : Nat.beq f' f <;> rw [hx] at he2
 ·exact hb n0 f' g' he2
 ·cases he2
  have:=Nat.eq_of_beq_eq_true hx; subst this
  exact hg n0
def PG (f : Nat) (g : List V → Option V) : Prop:=∀ n0 vs v h,g vs = some v → CallOK Tryz.prog (bsG n0) f vs h (.ok v h)
theorem BG.p {bt : BT} (hb : BG bt) {f : Nat} {g : List V → Option V} (hg : PG f g) : BG (btC f (.p g) bt):=by
 refine hb.cons fun n0 vs h v h' he=>?_
 simp only [rcB] at he
 split at he
 ·rename_i v' hv
  cases he
  exact hg n0 vs _ _ hv
 ·cases he
theorem mixed_ok : (Tryz.prog).follows .mixedOrders = true:=by kernel_rfl
theorem run_call {bt : BT} (hb : BG bt) {f : Nat} {vs : List V} {h h' : H} {v : V} (hr : runB bt f vs h = .ok v h') (n0 : Nat) : CallOK Tryz.prog (bsG n0) f vs h (.ok v h') :=
 run_ok ttG_ok mixed_ok ftG_ok ltG_ok (hb n0) hr
theorem run_pure {bt : BT} (hb : BG bt) {f : Nat} {vs : List V} {v : V} (hr : resV (runB bt f vs H.e) = some v) (hvs : VPs vs) (hv : VP v) (n0 : Nat) (h : H) : CallOK Tryz.prog (bsG n0) f vs h (.ok v h):=by
 obtain ⟨h',e⟩:=resV_some hr
 exact (run_call hb e n0).frame0 hvs hv h
theorem CallOK.less {B : Bs} {f : Nat} {vs : List V} {h h' : H} {v v' : V} (hc : CallOK Tryz.prog B f vs h (.ok v h')) (hv : ∀ μ y,VR μ v y → VR μ v' y) : CallOK Tryz.prog B f vs h (.ok v' h'):=by
 rcases hc with ⟨hb,hr⟩ | ⟨v1,h1,e,hr⟩
 ·refine .inl ⟨hb,fun μ w args r ha=>(hr μ w args r ha).mono ?_⟩
  rintro e w' ⟨y,μ',e1,g1,g2,g3⟩
  exact ⟨y,μ',e1,hv _ _ g1,g2,g3⟩
 ·cases e
  refine .inr ⟨v',h',rfl,fun μ w args r ha=>?_⟩
  obtain ⟨y,w',μ',g0,g1,g2,g3⟩:=hr μ w args r ha
  exact ⟨y,w',μ',g0,hv _ _ g1,g2,g3⟩
theorem CallOK.args {B : Bs} {f : Nat} {vs vs' : List V} {h : H} {x : RC} (hc : CallOK Tryz.prog B f vs h x) (hv : ∀ μ y,VRs μ vs' y → VRs μ vs y) : CallOK Tryz.prog B f vs' h x:=by
 rcases hc with ⟨hb,hr⟩ | ⟨v1,h1,e,hr⟩
 ·exact .inl ⟨hb,fun μ w args r ha=>hr μ w args r (hv _ _ ha)⟩
 ·exact .inr ⟨v1,h1,e,fun μ w args r ha=>hr μ w args r (hv _ _ ha)⟩
abbrev mW : Nat:=18446744073709551616
abbrev uI (n : Int) : V:=.i .u64 n
noncomputable def toN (n : Int) : Nat:=Int.rec (motive:=fun _=>Nat) (fun m=>m) (fun _=>0) n
theorem toN_eq (n : Int) : toN n = n.toNat:=by cases n <;> rfl
noncomputable def addU (a b : Int) : Int:=wrY .u64 (addI a b)
noncomputable def subU (a b : Int) : Int:=wrY .u64 (subI a b)
noncomputable def mulU (a b : Int) : Int:=wrY .u64 (mulI a b)
noncomputable def andU (a b : Int) : Int:=bitY .and .u64 a b
noncomputable def xorU (a b : Int) : Int:=bitY .xor .u64 a b
noncomputable def orU (a b : Int) : Int:=bitY .or .u64 a b
noncomputable def shrU (a : Int) (n : Nat) : Int:=shrY .u64 a n
noncomputable def shlU (a : Int) (n : Nat) : Int:=shlY .u64 a n
structure L5 where
 (a b c d e : Int)
noncomputable def L5.v (x : L5) : V:=.ag [uI x.a,uI x.b,uI x.c,uI x.d,uI x.e]
theorem L5.vp (x : L5) : VP x.v:=VP.ag (VPs.cons (.i _ _) (VPs.cons (.i _ _) (VPs.cons (.i _ _) (VPs.cons (.i _ _) (VPs.cons (.i _ _) VPs.nil)))))
noncomputable def l5 (v : V) : Option L5 :=
 match v with
 | .ag [.i .u64 a,.i .u64 b,.i .u64 c,.i .u64 d,.i .u64 e]=>some ⟨a,b,c,d,e⟩
 | _=>none
theorem l5_spec {v : V} {x : L5} (h : l5 v = some x) : v = x.v:=by
 unfold l5 at h
 split at h
 ·cases h; rfl
 ·cases h
noncomputable def g1 (g : L5 → V) (vs : List V) : Option V:=match vs with | [a]=>(match l5 a with | some x=>some (g x) | none=>none) | _=>none
noncomputable def g2 (g : L5 → L5 → V) (vs : List V) : Option V:=match vs with | [a,b]=>(match l5 a with | some x=>(match l5 b with | some y=>some (g x y) | none=>none) | none=>none) | _=>none
theorem PG.g1 {bt : BT} (hb : BG bt) {f : Nat} {g : L5 → V} (hr : ∀ x : L5,resV (runB bt f [x.v] H.e) = some (g x)) (hg : ∀ x,VP (g x)) : PG f (g1 g):=by
 intro n0 vs v h he
 unfold Go.X.g1 at he
 split at he
 ·rename_i a
  cases ha : l5 a with
  | none=>rw [ha] at he; cases he
  | some x =>
   rw [ha] at he
   cases he
   rw [l5_spec ha]
   exact run_pure hb (hr x) (VPs.cons x.vp VPs.nil) (hg x) n0 h
 ·cases he
theorem PG.g2 {bt : BT} (hb : BG bt) {f : Nat} {g : L5 → L5 → V} (hr : ∀ x y : L5,resV (runB bt f [x.v,y.v] H.e) = some (g x y)) (hg : ∀ x y,VP (g x y)) : PG f (g2 g):=by
 intro n0 vs v h he
 unfold Go.X.g2 at he
 split at he
 ·rename_i a b
  cases ha : l5 a with
  | none=>rw [ha] at he; cases he
  | some x =>
   rw [ha] at he
   simp only at he
   cases hb' : l5 b with
   | none=>rw [hb'] at he; cases he
   | some y =>
    rw [hb'] at he
    cases he
    rw [l5_spec ha,l5_spec hb']
    exact run_pure hb (hr x y) (VPs.cons x.vp (VPs.cons y.vp VPs.nil)) (hg x y) n0 h
 ·cases he
noncomputable def mk51 : Int:=.ofNat 2251799813685247
noncomputable def carI (x : L5) : L5 :=
 ⟨addU (andU x.a mk51) (mulU (.ofNat 19) (shrU x.e 51)),addU (andU x.b mk51) (shrU x.a 51),addU (andU x.c mk51) (shrU x.b 51),addU (andU x.d mk51) (shrU x.c 51),addU (andU x.e mk51) (shrU x.d 51)⟩
noncomputable def addL (x y : L5) : L5:=carI ⟨addU x.a y.a,addU x.b y.b,addU x.c y.c,addU x.d y.d,addU x.e y.e⟩
noncomputable def sub1 (a b : Int) : Int:=addU a (subU (.ofNat 9007199254740988) b)
noncomputable def subL (x y : L5) : L5:=carI ⟨subU (sub1 x.a y.a) (.ofNat 72),sub1 x.b y.b,sub1 x.c y.c,sub1 x.d y.d,sub1 x.e y.e⟩
noncomputable def smallI (n : Int) : L5:=⟨wrY .u64 n,.ofNat 0,.ofNat 0,.ofNat 0,.ofNat 0⟩
noncomputable def swpM (bit : Int) : Int:=wr .u64 (Int.sub 0 (wrY .u64 (bitY .and .i64 bit (.ofNat 1))))
noncomputable def swpA (m a b : Int) : Int:=xorU a (andU m (xorU a b))
noncomputable def swpB (m a b : Int) : Int:=xorU b (andU m (xorU a b))
noncomputable def swpX (m : Int) (x y : L5) : L5:=⟨swpA m x.a y.a,swpA m x.b y.b,swpA m x.c y.c,swpA m x.d y.d,swpA m x.e y.e⟩
noncomputable def swpY (m : Int) (x y : L5) : L5:=⟨swpB m x.a y.a,swpB m x.b y.b,swpB m x.c y.c,swpB m x.d y.d,swpB m x.e y.e⟩
noncomputable def bt0 : BT:=fun _=>none
theorem car_run (x : L5) : resV (runB bt0 144 [x.v] H.e) = some (carI x).v:=by kernel_rfl
theorem add_run (x y : L5) : resV (runB bt0 146 [x.v,y.v] H.e) = some (addL x y).v:=by kernel_rfl
theorem sub_run (x y : L5) : resV (runB bt0 147 [x.v,y.v] H.e) = some (subL x y).v:=by kernel_rfl
theorem small_run (n : Int) : resV (runB bt0 89 [.i .u32 n] H.e) = some (smallI n).v:=by kernel_rfl
theorem swap_run (x y : L5) (bit : Int) : resV (runB bt0 145 [x.v,y.v,.i .i64 bit] H.e) = some (.tu [(swpX (swpM bit) x y).v,(swpY (swpM bit) x y).v]):=by kernel_rfl
noncomputable def hi64 (x y : Int) : Int :=
 (fun x0 x1 y0 y1=>(fun t=>addU (addU (mulU x1 y1) (shrU t 32)) (shrU (addU (andU t (.ofNat 4294967295)) (mulU x0 y1)) 32)) (addU (mulU x1 y0) (shrU (mulU x0 y0) 32))) (andU x (.ofNat 4294967295)) (shrU x 32) (andU y (.ofNat 4294967295)) (shrU y 32)
theorem mul64_run (x y : Int) : resV (runB bt0 214 [uI x,uI y] H.e) = some (.tu [uI (hi64 x y),uI (mulU x y)]):=by kernel_rfl
end Go.X
namespace Go.X
open Go Go.RowKit Go.Proofs
theorem wrU_range (n : Int) : 0 ≤ wrY .u64 n ∧ wrY .u64 n < 18446744073709551616:=by
 rw [wrY_eq,wr_eq]
 simp only [IntKind.wrap,IntKind.bits,IntKind.signed]
 simp
 omega
theorem zU {n : Int} (h0 : 0 ≤ n) (h1 : n < 18446744073709551616) {μ : M} {y : Value} (h : VR μ (uI n) y) : VR μ (.z mW (toN n)) y:=by
 rw [VR.i_iff] at h
 rw [VR.z_iff (show mW ≠ 0 by decide),h,toN_eq]
 have : ((n.toNat % mW : Nat) : Int) = n:=by
  show ((n.toNat % 18446744073709551616 : Nat) : Int) = n
  omega
 show Value.int .u64 n = .int .u64 ((n.toNat % mW : Nat) : Int)
 rw [this]
noncomputable def uu (f : Int → Int → V) (vs : List V) : Option V:=match vs with | [.i .u64 a,.i .u64 b]=>some (f a b) | _=>none
theorem uu_spec {f : Int → Int → V} {vs : List V} {v : V} (h : uu f vs = some v) : ∃ a b,vs = [uI a,uI b] ∧ v = f a b:=by
 unfold uu at h
 split at h
 ·cases h; exact ⟨_,_,rfl,rfl⟩
 ·cases h
noncomputable def m64z (a b : Int) : V:=.tu [uI (hi64 a b),.z mW (toN (mulU a b))]
theorem m64z_ok : PG 214 (uu m64z):=by
 intro n0 vs v h he
 obtain ⟨a,b,rfl,rfl⟩:=uu_spec he
 have h1:=run_pure BG.nil (mul64_run a b) (VPs.cons (.i _ _) (VPs.cons (.i _ _) VPs.nil)) (VP.tu (VPs.cons (.i _ _) (VPs.cons (.i _ _) VPs.nil))) n0 h
 refine h1.less fun μ y hy=>?_
 unfold m64z
 simp only [VR] at hy ⊢
 obtain ⟨cs,e,h2⟩:=hy
 refine ⟨cs,e,?_⟩
 obtain ⟨y1,ys,e1,k1,k2⟩:=VRs.cons_iff.1 h2
 obtain ⟨y2,ys2,e2,k3,k4⟩:=VRs.cons_iff.1 k2
 exact VRs.cons_iff.2 ⟨y1,ys,e1,k1,VRs.cons_iff.2 ⟨y2,ys2,e2,zU (wrU_range _).1 (wrU_range _).2 k3,k4⟩⟩
theorem add64_run (x y c : Int) (hc : c.toNat ≤ 1) (w : World) :
  (callFunc 150 #[.int .u64 x,.int .u64 y,.int .u64 c]).run Tryz.prog w = .ok (.value (.tuple #[.int .u64 (Int.ofNat ((x.toNat + y.toNat + c.toNat) % mW)),.int .u64 (Int.ofNat ((x.toNat + y.toNat + c.toNat) / mW))])) w:=by
 rw [run_callFunc_extern (fn:=Tryz.f150) (by kernel_rfl) (by kernel_rfl) (by kernel_rfl) (by kernel_rfl) (e:=add64Entry) (by kernel_rfl)]
 have key : (add64Entry #[.int .u64 x,.int .u64 y,.int .u64 c]).run Tryz.prog w =
   .ok (Extern.MathBitsCarry.pair ((x.toNat + y.toNat + c.toNat) % Extern.MathBitsCarry.m64) ((x.toNat + y.toNat + c.toNat) / Extern.MathBitsCarry.m64)) w:=by
  cases c with
  | negSucc n=>rfl
  | ofNat n =>
   have hn : n ≤ 1:=hc
   have : n = 0 ∨ n = 1:=by omega
   rcases this with rfl | rfl <;> rfl
 rw [key]
 rfl
theorem a64_call {n0 : Nat} {h : H} {vs : List V} {x y c : Int} (hc : c.toNat ≤ 1) (hv : ∀ μ ys,VRs μ vs ys → ys = [.int .u64 x,.int .u64 y,.int .u64 c]) :
  CallOK Tryz.prog (bsG n0) 150 vs h (.ok (.tu [uI (.ofNat ((x.toNat + y.toNat + c.toNat) % mW)),uI (.ofNat ((x.toNat + y.toNat + c.toNat) / mW))]) h):=by
 refine .inr ⟨_,h,rfl,fun μ w args r ha=>?_⟩
 have e : args = #[.int .u64 x,.int .u64 y,.int .u64 c]:=Array.ext' (hv μ _ ha)
 subst e
 refine ⟨_,w,μ,add64_run x y c hc w,?_,r,Ext.refl _ _ _⟩
 simp only [VR]
 exact ⟨_,rfl,VRs.cons_mk (by rw [VR.i_iff]) (VRs.cons_mk (by rw [VR.i_iff]) (VRs.nil_iff.2 rfl))⟩
noncomputable def a64zz (x y : Nat) : V:=.tu [.z mW (Nat.add (Nat.mod x mW) (Nat.mod y mW)),.z 2 (Nat.div (Nat.add (Nat.mod x mW) (Nat.mod y mW)) mW)]
noncomputable def a64iiz (x y : Int) (c : Nat) : V:=.tu [uI (.ofNat (Nat.mod (Nat.add (Nat.add (toN x) (toN y)) (Nat.mod c 2)) mW)),uI (.ofNat (Nat.div (Nat.add (Nat.add (toN x) (toN y)) (Nat.mod c 2)) mW))]
noncomputable def a64z (vs : List V) : Option V :=
 match vs with
 | [.z m x,.z m' y,.i .u64 (.ofNat 0)]=>Bool.rec none (Bool.rec none (some (a64zz x y)) (Nat.beq m' mW)) (Nat.beq m mW)
 | [.z m x,.i .u64 (.ofNat 0),.i .u64 (.ofNat 0)]=>Bool.rec none (some (a64zz x 0)) (Nat.beq m mW)
 | [.i .u64 x,.i .u64 y,.z m c]=>Bool.rec none (some (a64iiz x y c)) (Nat.beq m 2)
 | _=>none
theorem vrs3 {μ : M} {a b c : V} {ys : List Value} (h : VRs μ [a,b,c] ys) : ∃ x y z,ys = [x,y,z] ∧ VR μ a x ∧ VR μ b y ∧ VR μ c z:=by
 obtain ⟨x,xs,rfl,h1,h2⟩:=VRs.cons_iff.1 h
 obtain ⟨y,ys,rfl,h3,h4⟩:=VRs.cons_iff.1 h2
 obtain ⟨z,zs,rfl,h5,h6⟩:=VRs.cons_iff.1 h4
 rw [VRs.nil_iff.1 h6]
 exact ⟨x,y,z,rfl,h1,h3,h5⟩
theorem vr_tu2 {μ : M} {a b a' b' : V} {y : Value} (h : VR μ (.tu [a,b]) y) (ha : ∀ y,VR μ a y → VR μ a' y) (hb : ∀ y,VR μ b y → VR μ b' y) : VR μ (.tu [a',b']) y:=by
 simp only [VR] at h ⊢
 obtain ⟨cs,e,h2⟩:=h
 refine ⟨cs,e,?_⟩
 obtain ⟨y1,ys,e1,k1,k2⟩:=VRs.cons_iff.1 h2
 obtain ⟨y2,ys2,e2,k3,k4⟩:=VRs.cons_iff.1 k2
 exact VRs.cons_iff.2 ⟨y1,ys,e1,ha _ k1,VRs.cons_iff.2 ⟨y2,ys2,e2,hb _ k3,k4⟩⟩
theorem a64zz_ok {n0 : Nat} {h : H} {vs : List V} {x y : Nat} (hv : ∀ μ ys,VRs μ vs ys → ys = [.int .u64 (Int.ofNat (x % mW)),.int .u64 (Int.ofNat (y % mW)),.int .u64 (Int.ofNat 0)]) : CallOK Tryz.prog (bsG n0) 150 vs h (.ok (a64zz x y) h):=by
 refine (a64_call (c:=Int.ofNat 0) (by decide) hv).less fun μ y' hy=>vr_tu2 hy ?_ ?_
 ·intro v hv
  rw [VR.i_iff] at hv
  rw [VR.z_iff (show mW ≠ 0 by decide),hv]
  rfl
 ·intro v hv
  rw [VR.i_iff] at hv
  rw [VR.z_iff (show (2 : Nat) ≠ 0 by decide),hv]
  have h1 : x % mW < mW:=Nat.mod_lt _ (by decide)
  have h2 : y % mW < mW:=Nat.mod_lt _ (by decide)
  have h3 : (x % mW + y % mW) / mW < 2:=Nat.div_lt_of_lt_mul (by omega)
  have h4 : (x % mW + y % mW) / mW % 2 = (x % mW + y % mW) / mW:=Nat.mod_eq_of_lt h3
  show Value.int .u64 (Int.ofNat ((x % mW + y % mW + 0) / mW)) = .int .u64 (Int.ofNat ((x % mW + y % mW) / mW % 2))
  rw [h4,Nat.add_zero]
theorem a64z_ok : PG 150 a64z:=by
 intro n0 vs v h he
 unfold a64z at he
 split at he
 ·rename_i m x m' y
  cases hm : Nat.beq m mW <;> rw [hm] at he
  ·cases he
  cases hm' : Nat.beq m' mW <;> rw [hm'] at he
  ·cases he
  cases he
  have e1:=Nat.eq_of_beq_eq_true hm
  have e2:=Nat.eq_of_beq_eq_true hm'
  subst e1; subst e2
  refine a64zz_ok fun μ ys hy=>?_
  obtain ⟨a,b,c,rfl,h1,h2,h3⟩:=vrs3 hy
  rw [VR.z_iff (show mW ≠ 0 by decide)] at h1 h2
  rw [VR.i_iff] at h3
  rw [h1,h2,h3]
 ·rename_i m x
  cases hm : Nat.beq m mW <;> rw [hm] at he
  ·cases he
  cases he
  have e1:=Nat.eq_of_beq_eq_true hm
  subst e1
  refine a64zz_ok fun μ ys hy=>?_
  obtain ⟨a,b,c,rfl,h1,h2,h3⟩:=vrs3 hy
  rw [VR.z_iff (show mW ≠ 0 by decide)] at h1
  rw [VR.i_iff] at h2 h3
  rw [h1,h2,h3]; rfl
 ·rename_i x y m c
  cases hm : Nat.beq m 2 <;> rw [hm] at he
  ·cases he
  cases he
  have e1:=Nat.eq_of_beq_eq_true hm
  subst e1
  have hc : (Int.ofNat (c % 2)).toNat = c % 2:=rfl
  have:=a64_call (n0:=n0) (h:=h) (vs:=[.i .u64 x,.i .u64 y,.z 2 c]) (x:=x) (y:=y) (c:=Int.ofNat (c % 2)) (by rw [hc]; omega) (fun μ ys hy=>by
   obtain ⟨a,b,d,rfl,h1,h2,h3⟩:=vrs3 hy
   rw [VR.i_iff] at h1 h2
   rw [VR.z_iff (show (2 : Nat) ≠ 0 by decide)] at h3
   rw [h1,h2,h3])
  unfold a64iiz
  rw [toN_eq,toN_eq]
  exact this
 ·cases he
structure W2 where
 hi : Int
 lo : Nat
noncomputable def W2.v (w : W2) : V:=.ag [uI w.hi,.z mW w.lo]
theorem W2.vp (w : W2) : VP w.v:=by
 refine VP.ag (VPs.cons (.i _ _) (VPs.cons ?_ VPs.nil))
 intro μ μ' y h
 simpa only [VR] using h
noncomputable def plusZ (hi : Int) (lo : Nat) (a b : Int) : W2 :=
 ⟨.ofNat (Nat.mod (Nat.add (Nat.add (toN (hi64 a b)) (toN hi)) (Nat.mod (Nat.div (Nat.add (Nat.mod (toN (mulU a b)) mW) (Nat.mod lo mW)) mW) 2)) mW),Nat.add (Nat.mod (toN (mulU a b)) mW) (Nat.mod lo mW)⟩
noncomputable def btP : BT:=btC 150 (.p a64z) (btC 214 (.p (uu m64z)) bt0)
theorem btP_ok : BG btP:=(BG.nil.p m64z_ok).p a64z_ok
theorem plus_run (hi : Int) (lo : Nat) (a b : Int) : resV (runB btP 149 [.ag [uI hi,.z mW lo],uI a,uI b] H.e) = some (plusZ hi lo a b).v:=by kernel_rfl
theorem plus_run0 (a b : Int) : resV (runB btP 149 [.ag [uI (.ofNat 0),uI (.ofNat 0)],uI a,uI b] H.e) = some (plusZ (.ofNat 0) 0 a b).v:=by kernel_rfl
noncomputable def plusG (vs : List V) : Option V :=
 match vs with
 | [.ag [.i .u64 hi,.z m lo],.i .u64 a,.i .u64 b]=>Bool.rec none (some (plusZ hi lo a b).v) (Nat.beq m mW)
 | [.ag [.i .u64 (.ofNat 0),.i .u64 (.ofNat 0)],.i .u64 a,.i .u64 b]=>some (plusZ (.ofNat 0) 0 a b).v
 | _=>none
theorem VP.z (m n : Nat) : VP (.z m n):=fun μ μ' y h=>by simpa only [VR] using h
theorem plusG_ok : PG 149 plusG:=by
 intro n0 vs v h he
 unfold plusG at he
 split at he
 ·rename_i hi m lo a b
  cases hm : Nat.beq m mW <;> rw [hm] at he
  ·cases he
  cases he
  have e1:=Nat.eq_of_beq_eq_true hm
  subst e1
  exact run_pure btP_ok (plus_run hi lo a b) (VPs.cons (VP.ag (VPs.cons (.i _ _) (VPs.cons (.z _ _) VPs.nil))) (VPs.cons (.i _ _) (VPs.cons (.i _ _) VPs.nil))) (W2.vp _) n0 h
 ·rename_i a b
  cases he
  exact run_pure btP_ok (plus_run0 a b) (VPs.cons (VP.ag (VPs.cons (.i _ _) (VPs.cons (.i _ _) VPs.nil))) (VPs.cons (.i _ _) (VPs.cons (.i _ _) VPs.nil))) (W2.vp _) n0 h
 ·cases he
end Go.X
namespace Go.X
open Go Go.RowKit Go.Proofs
noncomputable def a64zi (x : Nat) (y : Int) : V:=.tu [uI (.ofNat (Nat.mod (Nat.add (Nat.mod x mW) (toN y)) mW)),uI (.ofNat (Nat.div (Nat.add (Nat.mod x mW) (toN y)) mW))]
noncomputable def a64m (vs : List V) : Option V :=
 match vs with
 | [.z m x,.i .u64 y,.i .u64 (.ofNat 0)]=>Bool.rec none (some (a64zi x y)) (Nat.beq m mW)
 | _=>none
theorem a64m_ok : PG 150 a64m:=by
 intro n0 vs v h he
 unfold a64m at he
 split at he
 ·rename_i m x y
  cases hm : Nat.beq m mW <;> rw [hm] at he
  ·cases he
  cases he
  have e1:=Nat.eq_of_beq_eq_true hm
  subst e1
  have:=a64_call (n0:=n0) (h:=h) (vs:=[.z mW x,.i .u64 y,.i .u64 (.ofNat 0)]) (x:=Int.ofNat (x % mW)) (y:=y) (c:=Int.ofNat 0) (by decide) (fun μ ys hy=>by
   obtain ⟨a,b,d,rfl,h1,h2,h3⟩:=vrs3 hy
   rw [VR.i_iff] at h2 h3
   rw [VR.z_iff (show mW ≠ 0 by decide)] at h1
   rw [h1,h2,h3])
  unfold a64zi
  rw [toN_eq]
  exact this
 ·cases he
noncomputable def btM : BT:=btC 149 (.p plusG) (btC 150 (.p a64m) bt0)
theorem btM_ok : BG btM:=(BG.nil.p a64m_ok).p plusG_ok
noncomputable def pz0 (a b : Int) : W2:=plusZ (.ofNat 0) 0 a b
noncomputable def pzz (w : W2) (a b : Int) : W2:=plusZ w.hi w.lo a b
noncomputable def sum5 (a0 b0 a1 b1 a2 b2 a3 b3 a4 b4 : Int) : W2:=pzz (pzz (pzz (pzz (pz0 a0 b0) a1 b1) a2 b2) a3 b3) a4 b4
noncomputable def cyL (w : W2) (c : Int) : Int:=.ofNat (Nat.mod (Nat.add (Nat.mod w.lo mW) (toN c)) mW)
noncomputable def cyH (w : W2) (c : Int) : Int:=addU w.hi (.ofNat (Nat.div (Nat.add (Nat.mod w.lo mW) (toN c)) mW))
noncomputable def cyK (w : W2) (c : Int) : Int:=andU (cyL w c) mk51
noncomputable def cyC (w : W2) (c : Int) : Int:=orU (shlU (cyH w c) 13) (shrU (cyL w c) 51)
noncomputable def x19 (a : Int) : Int:=mulU (.ofNat 19) a
noncomputable def carry5 (w0 w1 w2 w3 w4 : W2) : L5 :=
 (fun c0=>(fun c1=>(fun c2=>(fun c3=>(fun c4=>⟨addU (cyK w0 (.ofNat 0)) (x19 c4),cyK w1 c0,cyK w2 c1,cyK w3 c2,cyK w4 c3⟩) (cyC w4 c3)) (cyC w3 c2)) (cyC w2 c1)) (cyC w1 c0)) (cyC w0 (.ofNat 0))
noncomputable def mulL (x y : L5) : L5 :=
 carI (carry5
  (sum5 x.a y.a x.b (x19 y.e) x.c (x19 y.d) x.d (x19 y.c) x.e (x19 y.b))
  (sum5 x.a y.b x.b y.a x.c (x19 y.e) x.d (x19 y.d) x.e (x19 y.c))
  (sum5 x.a y.c x.b y.b x.c y.a x.d (x19 y.e) x.e (x19 y.d))
  (sum5 x.a y.d x.b y.c x.c y.b x.d y.a x.e (x19 y.e))
  (sum5 x.a y.e x.b y.d x.c y.c x.d y.b x.e y.a))
theorem mul_run (x y : L5) : resV (runB btM 92 [x.v,y.v] H.e) = some (mulL x y).v:=by kernel_rfl
end Go.X
namespace Go.X
open Go Go.RowKit Go.Proofs
noncomputable def btI : BT:=btC 92 (.p (g2 fun x y=>(mulL x y).v)) bt0
theorem mulG_ok : PG 92 (g2 fun x y=>(mulL x y).v):=PG.g2 btM_ok mul_run fun _ _=>L5.vp _
theorem btI_ok : BG btI:=BG.nil.p mulG_ok
noncomputable def invS (a : L5) (i : Nat) (r : L5) : L5:=Bool.rec (mulL (mulL r r) a) (mulL r r) (Nat.beq i 2 || Nat.beq i 4)
noncomputable def invR (a : L5) (n : Nat) : L5 → L5:=Nat.rec (motive:=fun _=>L5 → L5) (fun r=>r) (fun i ih r=>ih (invS a i r)) n
noncomputable def invL (a : L5) : L5:=invR a 255 (smallI (.ofNat 1))
theorem inv_run (x : L5) : resV (runB btI 93 [x.v] H.e) = some (invL x).v:=by kernel_rfl
abbrev bI (n : Int) : V:=.i .u8 n
noncomputable def tab (f : Nat → V) (n : Nat) : Nat → List V:=Nat.rec (motive:=fun _=>Nat → List V) (fun _=>[]) (fun _ ih i=>f i::ih (Nat.succ i)) n
noncomputable def kv (k : Nat → Int) : V:=.ag (tab (fun i=>bI (k i)) 32 0)
noncomputable def bit1 (b : Nat → Int) (i : Nat) : Int:=wrY .u64 (bitY .and .u8 (shrY .u8 (b (Nat.div i 8)) (Nat.mod i 8)) (.ofNat 1))
noncomputable def limb (b : Nat → Int) (o : Nat) (n : Nat) : Int:=Nat.rec (motive:=fun _=>Int) (.ofNat 0) (fun t acc=>orU acc (shlU (bit1 b (Nat.add o t)) t)) n
noncomputable def fromI (b : Nat → Int) : L5:=carI ⟨limb b 0 51,limb b 51 51,limb b 102 51,limb b 153 51,limb b 204 51⟩
theorem from_run (b : Nat → Int) : resV (runB bt0 88 [kv b] H.e) = some (fromI b).v:=by kernel_rfl
noncomputable def L5.at (l : L5) (k : Nat) : Int:=Nat.rec (motive:=fun _=>Int) l.a (fun k _=>Nat.rec (motive:=fun _=>Int) l.b (fun k _=>Nat.rec (motive:=fun _=>Int) l.c (fun k _=>Nat.rec (motive:=fun _=>Int) l.d (fun _ _=>l.e) k) k) k) k
noncomputable def outB (l : L5) (o : Nat) (n : Nat) : Int:=Nat.rec (motive:=fun _=>Int) (.ofNat 0) (fun t acc=>bitY .or .u8 acc (shlY .u8 (wrY .u8 (andU (shrU (l.at (Nat.div (Nat.add o t) 51)) (Nat.mod (Nat.add o t) 51)) (.ofNat 1))) t)) n
noncomputable def redL (l : L5) : L5 :=
 (fun q=>(fun c0=>(fun l0=>(fun c1=>(fun l1=>(fun c2=>(fun l2=>(fun c3=>(fun l3=>(fun c4=>(fun l4=>⟨andU l0 mk51,andU l1 mk51,andU l2 mk51,andU l3 mk51,andU l4 mk51⟩) (addU l.e c4)) (shrU l3 51)) (addU l.d c3)) (shrU l2 51)) (addU l.c c2)) (shrU l1 51)) (addU l.b c1)) (shrU l0 51)) (addU l.a c0)) (mulU (.ofNat 19) q))
  (shrU (addU l.e (shrU (addU l.d (shrU (addU l.c (shrU (addU l.b (shrU (addU l.a (.ofNat 19)) 51)) 51)) 51)) 51)) 51)
noncomputable def bytesI (a : L5) (j : Nat) : Int:=(fun l=>outB l (Nat.mul 8 j) (Bool.rec 8 7 (Nat.beq j 31))) (redL (carI (carI a)))
theorem bytes_run (a : L5) : resV (runB bt0 94 [a.v] H.e) = some (kv (bytesI a)):=by kernel_rfl
noncomputable def clampI (k : Nat → Int) (j : Nat) : Int:=Bool.rec (Bool.rec (k j) (bitY .or .u8 (bitY .and .u8 (k 31) (.ofNat 127)) (.ofNat 64)) (Nat.beq j 31)) (bitY .and .u8 (k 0) (.ofNat 248)) (Nat.beq j 0)
theorem clamp_run (k : Nat → Int) : resV (runB bt0 87 [kv k] H.e) = some (kv (clampI k)):=by kernel_rfl
end Go.X
namespace Go.X
open Go Go.RowKit Go.Proofs
theorem tab_vp {f : Nat → V} (hf : ∀ i,VP (f i)) : ∀ n i,VPs (tab f n i)
 | 0,i=>VPs.nil
 | n + 1,i=>VPs.cons (hf i) (tab_vp hf n (i + 1))
theorem kv_vp (k : Nat → Int) : VP (kv k):=VP.ag (tab_vp (fun i=>VP.i _ _) 32 0)
noncomputable def hdB (l : List V) : Int:=match l with | .i .u8 n::_=>n | _=>.ofNat 0
noncomputable def tlB (l : List V) : List V:=List.rec (motive:=fun _=>List V) [] (fun _ t _=>t) l
noncomputable def nthB (l : List V) (n : Nat) : Int:=Nat.rec (motive:=fun _=>List V → Int) hdB (fun _ ih l=>ih (tlB l)) n l
noncomputable def isB (x : V) : Bool:=match x with | .i .u8 _=>true | _=>false
noncomputable def allB (n : Nat) : List V → Bool:=Nat.rec (motive:=fun _=>List V → Bool) (fun l=>List.rec (motive:=fun _=>Bool) true (fun _ _ _=>false) l) (fun _ ih l=>List.rec (motive:=fun _=>Bool) false (fun x t _=>Bool.rec false (ih t) (isB x)) l) n
theorem allB_spec : ∀ (n i : Nat) (l : List V) (f : Nat → Int),allB n l = true → (∀ j,j < n → f (i + j) = nthB l j) → l = tab (fun i=>bI (f i)) n i
 | 0,i,l,f,h,_=>by
  cases l with
  | nil=>rfl
  | cons _ _=>cases h
 | n + 1,i,l,f,h,hf=>by
  cases l with
  | nil=>cases h
  | cons x t =>
   have h2 : (Bool.rec false (allB n t) (isB x) : Bool) = true:=h
   cases hx : isB x <;> rw [hx] at h2
   ·cases h2
   have ht:=allB_spec n (i + 1) t f h2 fun j hj=>by
    have:=hf (j + 1) (by omega)
    rw [show i + 1 + j = i + (j + 1) by omega,this]; rfl
   show x::t = bI (f i)::tab (fun i=>bI (f i)) n (i + 1)
   rw [← ht]
   have hx2 : ∃ m,x = bI m:=by
    unfold isB at hx
    split at hx
    ·exact ⟨_,rfl⟩
    ·cases hx
   obtain ⟨m,rfl⟩:=hx2
   have:=hf 0 (by omega)
   rw [Nat.add_zero] at this
   rw [this]; rfl
noncomputable def kB (v : V) : Option (Nat → Int):=match v with | .ag l=>Bool.rec none (some (nthB l)) (allB 32 l) | _=>none
theorem kB_spec {v : V} {k : Nat → Int} (h : kB v = some k) : v = kv k:=by
 unfold kB at h
 split at h
 ·rename_i l
  cases hl : allB 32 l <;> rw [hl] at h
  ·cases h
  cases h
  unfold kv
  rw [← allB_spec 32 0 l (nthB l) hl (fun j _=>by rw [Nat.zero_add])]
 ·cases h
noncomputable def fromG (vs : List V) : Option V:=match vs with | [a]=>(match kB a with | some b=>some (fromI b).v | none=>none) | _=>none
theorem fromG_ok : PG 88 fromG:=by
 intro n0 vs v h he
 unfold fromG at he
 split at he
 ·rename_i a
  cases ha : kB a with
  | none=>rw [ha] at he; cases he
  | some b =>
   rw [ha] at he
   cases he
   rw [kB_spec ha]
   exact run_pure BG.nil (from_run b) (VPs.cons (kv_vp b) VPs.nil) (L5.vp _) n0 h
 ·cases he
noncomputable def clampG (vs : List V) : Option V:=match vs with | [a]=>(match kB a with | some b=>some (kv (clampI b)) | none=>none) | _=>none
theorem clampG_ok : PG 87 clampG:=by
 intro n0 vs v h he
 unfold clampG at he
 split at he
 ·rename_i a
  cases ha : kB a with
  | none=>rw [ha] at he; cases he
  | some b =>
   rw [ha] at he
   cases he
   rw [kB_spec ha]
   exact run_pure BG.nil (clamp_run b) (VPs.cons (kv_vp b) VPs.nil) (kv_vp _) n0 h
 ·cases he
noncomputable def smallG (vs : List V) : Option V:=match vs with | [.i .u32 n]=>some (smallI n).v | _=>none
theorem smallG_ok : PG 89 smallG:=by
 intro n0 vs v h he
 unfold smallG at he
 split at he
 ·cases he
  exact run_pure BG.nil (small_run _) (VPs.cons (.i _ _) VPs.nil) (L5.vp _) n0 h
 ·cases he
noncomputable def swapV (bit : Int) (x y : L5) : V:=.tu [(swpX (swpM bit) x y).v,(swpY (swpM bit) x y).v]
noncomputable def swapG (vs : List V) : Option V:=match vs with | [a,b,.i .i64 bit]=>(match l5 a with | some x=>(match l5 b with | some y=>some (swapV bit x y) | none=>none) | none=>none) | _=>none
theorem swapG_ok : PG 145 swapG:=by
 intro n0 vs v h he
 unfold swapG at he
 split at he
 ·rename_i a b bit
  cases ha : l5 a with
  | none=>rw [ha] at he; cases he
  | some x =>
   rw [ha] at he
   simp only at he
   cases hb' : l5 b with
   | none=>rw [hb'] at he; cases he
   | some y =>
    rw [hb'] at he
    cases he
    rw [l5_spec ha,l5_spec hb']
    exact run_pure BG.nil (swap_run x y bit) (VPs.cons x.vp (VPs.cons y.vp (VPs.cons (.i _ _) VPs.nil))) (VP.tu (VPs.cons (L5.vp _) (VPs.cons (L5.vp _) VPs.nil))) n0 h
 ·cases he
theorem addG_ok : PG 146 (g2 fun x y=>(addL x y).v):=PG.g2 BG.nil add_run fun _ _=>L5.vp _
theorem subG_ok : PG 147 (g2 fun x y=>(subL x y).v):=PG.g2 BG.nil sub_run fun _ _=>L5.vp _
theorem invG_ok : PG 93 (g1 fun x=>(invL x).v):=PG.g1 btI_ok inv_run fun _=>L5.vp _
theorem bytesG_ok : PG 94 (g1 fun x=>kv (bytesI x)):=PG.g1 BG.nil bytes_run fun _=>kv_vp _
noncomputable def sqL (a : L5) : L5:=mulL a a
theorem sq_run (x : L5) : resV (runB btI 148 [x.v] H.e) = some (sqL x).v:=by kernel_rfl
theorem sqG_ok : PG 148 (g1 fun x=>(sqL x).v):=PG.g1 btI_ok sq_run fun _=>L5.vp _
noncomputable def btX : BT :=
 btC 148 (.p (g1 fun x=>(sqL x).v)) <|
 btC 92 (.p (g2 fun x y=>(mulL x y).v)) (btC 146 (.p (g2 fun x y=>(addL x y).v)) (btC 147 (.p (g2 fun x y=>(subL x y).v)) (btC 145 (.p swapG) (btC 89 (.p smallG)
  (btC 93 (.p (g1 fun x=>(invL x).v)) (btC 94 (.p (g1 fun x=>kv (bytesI x))) (btC 88 (.p fromG) (btC 87 (.p clampG) bt0))))))))
theorem btX_ok : BG btX:=(((((((((BG.nil.p clampG_ok).p fromG_ok).p bytesG_ok).p invG_ok).p smallG_ok).p swapG_ok).p subG_ok).p addG_ok).p mulG_ok).p sqG_ok
structure PQ where
 (px pz qx qz : L5)
noncomputable def swpL (bit : Int) (s : PQ) : PQ:=⟨swpX (swpM bit) s.px s.qx,swpX (swpM bit) s.pz s.qz,swpY (swpM bit) s.px s.qx,swpY (swpM bit) s.pz s.qz⟩
noncomputable def ladL (u : L5) (s : PQ) : PQ :=
 (fun sum less=>(fun da cb aa bb=>(fun e=>⟨mulL aa bb,mulL e (addL aa (mulL (smallI (.ofNat 121665)) e)),sqL (addL da cb),mulL u (sqL (subL da cb))⟩) (subL aa bb))
  (mulL (subL s.qx s.qz) sum) (mulL (addL s.qx s.qz) less) (sqL sum) (sqL less)) (addL s.px s.pz) (subL s.px s.pz)
noncomputable def bitX (k : Nat → Int) (i : Nat) : Int:=wrY .i64 (bitY .and .u8 (shrY .u8 (k (Nat.div i 8)) (Nat.mod i 8)) (.ofNat 1))
noncomputable def lopL (k : Nat → Int) (u : L5) (n : Nat) : Int → PQ → PQ:=Nat.rec (motive:=fun _=>Int → PQ → PQ) (fun last s=>swpL last s) (fun i ih last s=>ih (bitX k i) (ladL u (swpL (bitY .xor .i64 (bitX k i) last) s))) n
noncomputable def xL (k u : Nat → Int) : Nat → Int :=
 (fun x=>(fun s=>bytesI (mulL s.px (invL s.pz))) (lopL (clampI k) x 255 (.ofNat 0) ⟨smallI (.ofNat 1),⟨.ofNat 0,.ofNat 0,.ofNat 0,.ofNat 0,.ofNat 0⟩,x,smallI (.ofNat 1)⟩)) (fromI u)
end Go.X
namespace Go.X
open Go Go.RowKit Go.Proofs
noncomputable def addW (a b : Int) : Int:=wrY .u32 (addI a b)
noncomputable def xorW (a b : Int) : Int:=bitY .xor .u32 a b
noncomputable def orW (a b : Int) : Int:=bitY .or .u32 a b
noncomputable def shlW (a : Int) (n : Nat) : Int:=shlY .u32 a n
noncomputable def shrW (a : Int) (n : Nat) : Int:=shrY .u32 a n
noncomputable def rotW (a : Int) (n m : Nat) : Int:=orW (shlW a n) (shrW a m)
noncomputable def wordI (b : Nat → Int) (o : Nat) : Int:=orW (orW (orW (orW (.ofNat 0) (shlW (wrY .u32 (b o)) 0)) (shlW (wrY .u32 (b (Nat.add o 1))) 8)) (shlW (wrY .u32 (b (Nat.add o 2))) 16)) (shlW (wrY .u32 (b (Nat.add o 3))) 24)
structure WI where
 (w0 w1 w2 w3 w4 w5 w6 w7 w8 w9 w10 w11 w12 w13 w14 w15 : Int)
noncomputable def qrI {α : Type} (a b c d : Int) (K : Int → Int → Int → Int → α) : α :=
 (fun a1=>(fun d1=>(fun c1=>(fun b1=>(fun a2=>(fun d2=>(fun c2=>K a2 (rotW (xorW b1 c2) 7 25) c2 d2) (addW c1 d2)) (rotW (xorW d1 a2) 8 24)) (addW a1 b1)) (rotW (xorW b c1) 12 20)) (addW c d1)) (rotW (xorW d a1) 16 16)) (addW a b)
noncomputable def drI (v : WI) : WI :=
 qrI v.w0 v.w4 v.w8 v.w12 fun x0 x1 x2 x3=>qrI v.w1 v.w5 v.w9 v.w13 fun x4 x5 x6 x7=>qrI v.w2 v.w6 v.w10 v.w14 fun x8 x9 x10 x11=>qrI v.w3 v.w7 v.w11 v.w15 fun x12 x13 x14 x15=>qrI x0 x5 x10 x15 fun x16 x17 x18 x19=>qrI x4 x9 x14 x3 fun x20 x21 x22 x23=>qrI x8 x13 x2 x7 fun x24 x25 x26 x27=>qrI x12 x1 x6 x11 fun x28 x29 x30 x31=>⟨x16,x20,x24,x28,x29,x17,x21,x25,x26,x30,x18,x22,x23,x27,x31,x19⟩
noncomputable def rdI (n : Nat) : WI → WI:=Nat.rec (motive:=fun _=>WI → WI) (fun v=>v) (fun _ ih v=>ih (drI v)) n
noncomputable def WI.at (v : WI) (k : Nat) : Int:=Nat.rec (motive:=fun _=>Int) v.w0 (fun k _=>Nat.rec (motive:=fun _=>Int) v.w1 (fun k _=>Nat.rec (motive:=fun _=>Int) v.w2 (fun k _=>Nat.rec (motive:=fun _=>Int) v.w3 (fun k _=>Nat.rec (motive:=fun _=>Int) v.w4 (fun k _=>Nat.rec (motive:=fun _=>Int) v.w5 (fun k _=>Nat.rec (motive:=fun _=>Int) v.w6 (fun k _=>Nat.rec (motive:=fun _=>Int) v.w7 (fun k _=>Nat.rec (motive:=fun _=>Int) v.w8 (fun k _=>Nat.rec (motive:=fun _=>Int) v.w9 (fun k _=>Nat.rec (motive:=fun _=>Int) v.w10 (fun k _=>Nat.rec (motive:=fun _=>Int) v.w11 (fun k _=>Nat.rec (motive:=fun _=>Int) v.w12 (fun k _=>Nat.rec (motive:=fun _=>Int) v.w13 (fun k _=>Nat.rec (motive:=fun _=>Int) v.w14 (fun k _=>v.w15) k) k) k) k) k) k) k) k) k) k) k) k) k) k) k
noncomputable def stI (k : Nat → Int) (c : Int) (n : Nat → Int) : WI:=⟨(.ofNat 1634760805),(.ofNat 857760878),(.ofNat 2036477234),(.ofNat 1797285236),(wordI k 0),(wordI k 4),(wordI k 8),(wordI k 12),(wordI k 16),(wordI k 20),(wordI k 24),(wordI k 28),c,(wordI n 0),(wordI n 4),(wordI n 8)⟩
noncomputable def smI (v s : WI) : WI:=⟨addW v.w0 s.w0,addW v.w1 s.w1,addW v.w2 s.w2,addW v.w3 s.w3,addW v.w4 s.w4,addW v.w5 s.w5,addW v.w6 s.w6,addW v.w7 s.w7,addW v.w8 s.w8,addW v.w9 s.w9,addW v.w10 s.w10,addW v.w11 s.w11,addW v.w12 s.w12,addW v.w13 s.w13,addW v.w14 s.w14,addW v.w15 s.w15⟩
noncomputable def blkI (k : Nat → Int) (c : Int) (n : Nat → Int) : Nat → Int:=(fun s=>(fun f j=>wrY .u8 (shrW (WI.at f (Nat.div j 4)) (Nat.mul 8 (Nat.mod j 4)))) (smI (rdI 10 s) s)) (stI k c n)
noncomputable def kvN (m : Nat) (k : Nat → Int) : V:=.ag (tab (fun i=>bI (k i)) m 0)
theorem blk_run (k : Nat → Int) (c : Int) (n : Nat → Int) : resV (runB bt0 247 [kv k,.i .u32 c,kvN 12 n] H.e) = some (kvN 64 (blkI k c n)):=by kernel_rfl
end Go.X
