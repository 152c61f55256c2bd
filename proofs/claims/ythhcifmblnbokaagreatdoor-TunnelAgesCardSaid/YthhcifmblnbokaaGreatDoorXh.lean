/- Functions of the abstract machine: the table, and the soundness of a run. -/
import Derived.Test.YthhcifmblnbokaaGreatDoorXg
import Derived.RangeFuncRecord
import Derived.OrdersIn
set_option linter.all false
set_option maxRecDepth 100000
noncomputable section
namespace Go.X
open Go.RowKit
structure Mk where
 m : Nat
 l : List Nat
def mark (t : Nat) (x : Mk) : Mk:=Bool.rec ⟨Nat.lor x.m (Nat.shiftLeft 1 t),t::x.l⟩ x (Nat.beq (Nat.land (Nat.shiftRight x.m t) 1) 1)
def rdO (defs : List (Option Nat)) (l : List Operand) (m : Mk) : Mk :=
 List.rec (motive:=fun _=>Mk → Mk) (fun m=>m) (fun o _ ih m=>match o with
  | .tmp t=>match idx defs t with | some _=>ih m | none=>ih (mark t m)
  | _=>ih m) l m
def gdO (all : List Oper) (o : Oper) : List Operand:=match gdst all o with | some t=>[.tmp t] | none=>[]
def dfO (o : Oper) : List Operand:=match o.op with | .defer c=>(match c.callee with | .value f=>f::c.args.toList | _=>c.args.toList) | _=>[]
def rdR (tt : TT) (N : Nat) (all : List Oper) (os : List Oper) : List (Option Nat) → Mk → Mk :=
 List.rec (motive:=fun _=>List (Option Nat) → Mk → Mk) (fun _ m=>m) (fun o _ ih defs m=>ih (o.dst::defs) (rdO defs (gdO all o ++ ((J0t tt N o).2 ++ dfO o)) m)) os
def rdC (tt : TT) (N : Nat) (c : Code) : Mk → Mk :=
 Code.rec (motive:=fun _=>Mk → Mk) (fun m=>m) (fun _ ops _ m=>rdR tt N ops.toList ops.toList [] m) (fun _ _ a b m=>b (a m)) (fun c _ _ a b m=>b (a (rdO [] [c] m)))
  (fun _ _ a=>a) (fun _ a=>a) (fun f _ _ _ a b m=>b (a (rdO [] [f] m))) (fun _ m=>m) (fun _ a=>a) (fun _ m=>m) (fun _ m=>m) (fun m=>m) (fun _ m=>m) c
def rdV (l : List ResultVar) (m : Mk) : Mk :=
 List.rec (motive:=fun _=>Mk → Mk) (fun m=>m) (fun o _ ih m=>match o with | .tmp t=>ih (mark t m) | .cell t _=>ih (mark t m)) l m
def U9w (l : List Nat) (t : Nat) : Option Nat:=List.rec (motive:=fun _=>Option Nat) none (fun x _ ih=>Bool.rec (match ih with | some k=>some (Nat.succ k) | none=>none) (some 0) (Nat.beq x t)) l
def sOf (k : Nat) : Option S:=Bool.rec (Bool.rec none (some (.b (Nat.sub k 16))) (Nat.ble k 60000)) (some (.a (D.ofR k))) (Nat.ble k 15)
def J1d (l : List Nat) (t : Nat) : Option S:=match U9w l t with | some k=>sOf k | none=>none
theorem U4q : ∀ (l : List Nat) (t k : Nat),U9w l t = some k → l[k]? = some t
 | [],t,k,h=>by cases h
 | x::l,t,k,h=>by
  have h2 : (Bool.rec (match U9w l t with | some k=>some (Nat.succ k) | none=>none) (some 0) (Nat.beq x t) : Option Nat) = some k:=h
  cases hb : Nat.beq x t <;> rw [hb] at h2
  ·simp only at h2
   cases hp : U9w l t with
   | none=>rw [hp] at h2; cases h2
   | some j=>rw [hp] at h2; cases h2; exact U4q l t j hp
  ·cases h2
   have:=Nat.eq_of_beq_eq_true hb
   subst this; rfl
theorem W8f {k : Nat} {s : S} (h : sOf k = some s) : (k ≤ 15 ∧ s = .a (D.ofR k)) ∨ (16 ≤ k ∧ k ≤ 60000 ∧ s = .b (k - 16)):=by
 unfold sOf at h
 cases h1 : Nat.ble k 15 <;> rw [h1] at h
 ·have hk : ¬ k ≤ 15:=fun hk=>by rw [Nat.ble_eq_true_of_le hk] at h1; cases h1
  cases h2 : Nat.ble k 60000 <;> rw [h2] at h
  ·cases h
  ·have:=Nat.le_of_ble_eq_true h2
   simp only [Option.some.injEq] at h
   exact .inr ⟨by omega,this,h.symm⟩
 ·simp only [Option.some.injEq] at h
  exact .inl ⟨Nat.le_of_ble_eq_true h1,h.symm⟩
theorem J1e (l : List Nat) : TK (J1d l):=by
 constructor
 ·intro s t x h1 h2
  unfold J1d at h1 h2
  cases h3 : U9w l s with
  | none=>rw [h3] at h1; cases h1
  | some i =>
   cases h4 : U9w l t with
   | none=>rw [h4] at h2; cases h2
   | some j =>
    rw [h3] at h1
    rw [h4] at h2
    simp only at h1 h2
    have h5:=U4q l s i h3
    have h6:=U4q l t j h4
    have hij : i = j:=by
     rcases W8f h1 with ⟨g1,rfl⟩ | ⟨g1,g2,rfl⟩ <;> rcases W8f h2 with ⟨k1,k2⟩ | ⟨k1,k2,k3⟩
     ·have e1:=D.ofR_num i (by omega)
      have e2:=D.ofR_num j (by omega)
      have : D.ofR i = D.ofR j:=S.a.inj k2
      rw [this] at e1; omega
     ·cases k3
     ·cases k2
     ·have : i - 16 = j - 16:=S.b.inj k3
      omega
    subst hij
    rw [h5] at h6
    exact Option.some.inj h6
 ·intro t x h
  unfold J1d at h
  cases h3 : U9w l t with
  | none=>rw [h3] at h; cases h
  | some i =>
   rw [h3] at h
   rcases W8f h with ⟨_,rfl⟩ | ⟨g1,g2,rfl⟩
   ·trivial
   ·show i - 16 < 65536; omega
inductive RO where
 | t (o : Od) | c (o : Od) (m : Option Nat)
inductive ZC where
 | y (c : YC)
 | seq (a b : ZC)
 | block (id : Nat) (a : ZC)
 | cond (c : Dn) (a b : ZC)
 | dfr (o : Fn) (wl : List (Dn × S)) (f : Dn) (xs : List Dn)
 | rng (g : Dn) (id : Nat)
 | bad
structure FE where
 code : YC
 N : Nat
 ws : List (Option S)
 rs : Option (List RO)
 sp : Option ZC
 rc : Option (Option S × YC)
structure LC where
 ps : List (Option S)
 assign : YC
 body : YC
def U5q (trk : Nat → Option S) (n : Nat) : Nat → List (Option S) :=
 Nat.rec (motive:=fun _=>Nat → List (Option S)) (fun _=>[]) (fun _ ih i=>trk i::ih (Nat.add i 1)) n
def roOf (tt : TT) (trk : Nat → Option S) (x : ResultVar) : Option RO :=
 match x with
 | .tmp t=>some (.t (U1r trk [] t))
 | .cell t ty=>match tt ty with | some (d,i)=>some (.c (U1r trk [] t) (J9v d i.size)) | none=>none
def J0k (tt : TT) (fn : Func) (c : Code) : List Nat:=(rdV fn.results.toList (rdC tt fn.ntmps c ⟨0,[]⟩)).l.reverse
def Q7c (o : Oper) : Bool:=match o.op with | .defer _=>true | _=>false
def J7y (l : List Oper) : Bool:=List.rec (motive:=fun _=>Bool) true (fun o _ ih=>Bool.rec ih false (Q7c o)) l
def J2x (c : Code) : Bool :=
 Code.rec (motive:=fun _=>Bool) true (fun _ ops _=>J7y ops.toList) (fun _ _ a b=>a && b) (fun _ _ _ a b=>a && b) (fun _ _ a=>a) (fun _ a=>a)
  (fun _ _ _ _ _ _=>false) (fun _=>true) (fun _ _=>true) (fun _=>true) (fun _=>true) true (fun _=>true) c
def spl (l : List Oper) : List Oper × Option Oper :=
 List.rec (motive:=fun _=>List Oper × Option Oper) ([],none) (fun o _ ih=>match ih with | (pre,some x)=>(o::pre,some x) | (_,none)=>([],some o)) l
def key (ps : List Tmp) : Nat:=match ps with | t::_=>t | []=>4095
def dfrZ (tt : TT) (trk : Nat → Option S) (N : Nat) (ops : List Oper) : ZC :=
 match spl ops with
 | (pre,some o)=>match o.op with
  | .defer c=>match c.callee with
   | .value f=>match o.guard,o.dst with
    | none,none=>Bool.rec .bad (.dfr (ytL (wpL trk (J0f pre [])) (J8c tt pre (J1t tt trk N ops pre []))) (wlY trk (J0f pre []) 0) (J0d (J2c trk (J0f pre []) f)) (c.args.toList.map fun x=>J0d (J2c trk (J0f pre []) x))) (J7y pre)
    | _,_=>.bad
   | _=>.bad
  | _=>.bad
 | _=>.bad
def J4i (tt : TT) (trk : Nat → Option S) (N fid : Nat) (c : Code) : ZC :=
 Code.rec (motive:=fun _=>ZC) (.y .skip)
  (fun id ops draw=>Bool.rec (Bool.rec (dfrZ tt trk N ops.toList) .bad draw) (.y (J0y tt trk N (.region id ops draw))) (J7y ops.toList))
  (fun a b za zb=>Bool.rec (.seq za zb) (.y (J0y tt trk N (.seq a b))) (J2x (.seq a b)))
  (fun c a b za zb=>Bool.rec (.cond (J0d (J2c trk [] c)) za zb) (.y (J0y tt trk N (.cond c a b))) (J2x (.cond c a b)))
  (fun id a za=>Bool.rec (.block id za) (.y (J0y tt trk N (.block id a))) (J2x (.block id a)))
  (fun a _=>Bool.rec .bad (.y (J0y tt trk N (.loop a))) (J2x (.loop a)))
  (fun g ps _ _ _ _=>.rng (J0d (J2c trk [] g)) (Nat.add (Nat.mul fid 4096) (key ps.toList))) (fun id=>.y (.exit id)) (fun _ _=>.bad) (fun _=>.bad) (fun _=>.bad) (.y .ret) (fun _=>.bad) c
def J1l (c : Code) : List (List Tmp × Code × Code) :=
 Code.rec (motive:=fun _=>List (List Tmp × Code × Code)) [] (fun _ _ _=>[]) (fun _ _ a b=>a ++ b) (fun _ _ _ a b=>a ++ b) (fun _ _ a=>a) (fun _ _=>[])
  (fun _ ps a b _ _=>[(ps.toList,a,b)]) (fun _=>[]) (fun _ _=>[]) (fun _=>[]) (fun _=>[]) [] (fun _=>[]) c
def W5a (l : List (List Tmp × Code × Code)) (k : Nat) : Option (List Tmp × Code × Code) :=
 List.rec (motive:=fun _=>Option (List Tmp × Code × Code)) none (fun x _ ih=>Bool.rec ih (some x) (Nat.beq (key x.1) k)) l
def G8j (l : List (List Tmp × Code × Code)) : Bool :=
 List.rec (motive:=fun _=>Bool) true (fun x l ih=>(Nat.ble (Nat.succ (key x.1)) 4096 && (match W5a l (key x.1) with | none=>true | some _=>false)) && ih) l
def G7y (c : Code) (k : Nat) : Option (List Tmp × Code × Code):=W5a (J1l c) k
def rcOf (tt : TT) (trk : Nat → Option S) (N : Nat) (c : Code) : Option (Option S × YC) :=
 match c with
 | .seq (.region _ ops false) b=>match ops.toList with
  | [o]=>match o.op with
   | .call c=>match c.callee with
    | .builtin .recover=>match o.guard,o.dst with
     | none,some t=>Bool.rec none (some (trk t,J0y tt trk N b)) (Nat.ble (t + 1) N)
     | _,_=>none
    | _=>none
   | _=>none
  | _=>none
 | _=>none
def J1o (tt : TT) (fid : Nat) (fn : Func) (c : Code) : FE :=
 ⟨J0y tt (J1d (J0k tt fn c)) fn.ntmps c,fn.ntmps,U5q (J1d (J0k tt fn c)) fn.ntmps 0,J3d (roOf tt (J1d (J0k tt fn c))) fn.results.toList,
  Bool.rec (some (Bool.rec .bad (J4i tt (J1d (J0k tt fn c)) fn.ntmps fid c) (G8j (J1l c)))) none (J2x c),rcOf tt (J1d (J0k tt fn c)) fn.ntmps c⟩
def W5e (tt : TT) (fn : Func) (c : Code) (x : List Tmp × Code × Code) : LC :=
 ⟨x.1.map (fun t=>Bool.rec none (J1d (J0k tt fn c) t) (Nat.ble (Nat.succ t) fn.ntmps)),J0y tt (J1d (J0k tt fn c)) fn.ntmps x.2.1,J0y tt (J1d (J0k tt fn c)) fn.ntmps x.2.2⟩
def J1m (ws : List (Option S)) : List V → E → E :=
 List.rec (motive:=fun _=>List V → E → E) (fun _ e=>e) (fun w _ ih args e=>match args with
  | []=>e
  | v::args=>match w with
   | some s=>ih args (wrS s v e)
   | none=>ih args e) ws
def roV (e : E) (h : H) (o : RO) : Option V:=match o with | .t o=>some (odV [] e o) | .c o m=>ldV h m (odV [] e o)
def resF (e : E) (h : H) (l : List RO) : Option (List V):=J3d (roV e h) l
def rvS (a : Act) (x : ResultVar) : Sem Value:=match x with | .tmp t=>pure (a.tmps.getD t undef) | .cell t ty=>do loadVar ty (← asAddr (a.tmps.getD t undef))
def mkR (l : List V) : V:=match l with | [v]=>v | l=>.tu l
def fin (F : FE) (e : E) (h : H) : RC :=
 match F.rs with
 | some rs=>match resF e h rs with
  | some l=>.ok (mkR l) h
  | none=>.bad
 | none=>.bad
def pnF (v : V) (h : H) : RC:=match v with | .ifc t y=>.pn (.ifc t y) h | _=>.bad
abbrev DF:=List (V × List V)
inductive RZ where
 | n (e : E) (h : H) (df : DF) | x (id : Nat) (e : E) (h : H) (df : DF) | r (e : E) (h : H) (df : DF) | pn (v : V) (e : E) (h : H) (df : DF) | bad
def rzR (df : DF) (r : R) : RZ:=R.rec (motive:=fun _=>RZ) (fun e h=>.n e h df) (fun id e h=>.x id e h df) (fun e h=>.r e h df) (fun v e h=>.pn v e h df) .bad r
def endR (b : Nat) (e : E) (h : H) (df : DF) : RZ :=
 match H.get h b with
 | .lp _ _ st j=>Bool.rec (match j with | 0=>.n e (H.upd h b .dead) df | 1=>.r e (H.upd h b .dead) df | k + 2=>.x k e (H.upd h b .dead) df) .bad (Nat.beq st 1)
 | _=>.bad
def G0e (v : V) (e : E) (h : H) (df : DF) : RZ:=match v with | .tu l=>(match l with | f::xs=>(match f with | .fn g _ _=>(match g with | .func _=>.n e h ((f,xs)::df) | _=>.bad) | _=>.bad) | []=>.bad) | _=>.bad
def zx (z : ZC) : FC → U8d → E → H → DF → RZ :=
 ZC.rec (motive:=fun _=>FC → U8d → E → H → DF → RZ)
  (fun c fc self e h df=>rzR df (yx c fc self e h))
  (fun _ _ a b fc self e h df=>RZ.rec (motive:=fun _=>RZ) (fun e h df=>b fc self e h df) (fun id e h df=>.x id e h df) (fun e h df=>.r e h df) (fun v e h df=>.pn v e h df) .bad (a fc self e h df))
  (fun id _ a fc self e h df=>RZ.rec (motive:=fun _=>RZ) (fun e h df=>.n e h df) (fun i e h df=>Bool.rec (.x i e h df) (.n e h df) (Nat.beq i id)) (fun e h df=>.r e h df) (fun v e h df=>.pn v e h df) .bad (a fc self e h df))
  (fun c _ _ a b fc self e h df=>match ydV c [] e with | .b x=>Bool.rec (b fc self e h df) (a fc self e h df) x | _=>.bad)
  (fun o wl f xs fc _ e h df=>R.rec (motive:=fun _=>RZ) (fun _ _=>.bad) (fun _ _ _=>.bad) (fun _ _=>.bad) (fun v e h=>G0e v e h df) .bad (o.run fc e [] h fun res h=>.pn (.tu (f.get res e::ydL xs res e)) (wbY wl res e) h))
  (fun g id fc _ e h df=>match ydV g [] e with | .fn g0 a c=>(match g0 with | .func f=>Bool.rec .bad (RC.rec (motive:=fun _=>RZ) (fun _ h'=>endR h.next e h' df) (fun _ _=>.bad) .bad (fc.call f (a ++ (.yl h.next::c)) (H.new h (.lp id e 0 0)))) (fc.ent f) | _=>.bad) | _=>.bad)
  (fun _ _ _ _ _=>.bad) z
structure SLF where
 y : U8d
 z : ZC → E → H → RZ
def W5d (ft : Nat → Option FE) (self : SLF) (call : Nat → List V → H → RC) (mode : Option V) (f : V) (xs : List V) (h : H) : Option (Option V × H) :=
 match f with
 | .fn g a c=>match g with
  | .func g=>match ft g with
   | some F=>match F.rc with
    | some (t,y)=>Bool.rec none (R.rec (motive:=fun _=>Option (Option V × H)) (fun e h=>match fin F e h with | .ok _ h=>some (none,h) | _=>none) (fun _ _ _=>none) (fun e h=>match fin F e h with | .ok _ h=>some (none,h) | _=>none) (fun _ _ _=>none) none
      (self.y y (match t with | some s=>wrS s (mode.getD .inil) (J1m F.ws (a ++ (xs ++ c)) E.nil) | none=>J1m F.ws (a ++ (xs ++ c)) E.nil) h)) (Nat.ble (a ++ (xs ++ c)).length F.N)
    | none=>match call g (a ++ (xs ++ c)) h with | .ok _ h=>some (mode,h) | _=>none
   | none=>none
  | _=>none
 | _=>none
def W0a (ft : Nat → Option FE) (self : SLF) (call : Nat → List V → H → RC) (F : FE) (e : E) (df : DF) : Option V → H → RC :=
 List.rec (motive:=fun _=>Option V → H → RC) (fun mode h=>match mode with | none=>fin F e h | some v=>pnF v h)
  (fun d _ ih mode h=>match W5d ft self call mode d.1 d.2 h with | some (mode,h)=>ih mode h | none=>.bad) df
def W5g (ft : Nat → Option FE) (self : SLF) (call : Nat → List V → H → RC) (F : FE) (args : List V) (h : H) : RC :=
 Bool.rec .bad (match F.sp with
  | none=>R.rec (motive:=fun _=>RC) (fun e h=>fin F e h) (fun _ _ _=>.bad) (fun e h=>fin F e h) (fun v _ h=>pnF v h) .bad (self.y F.code (J1m F.ws args E.nil) h)
  | some z=>RZ.rec (motive:=fun _=>RC) (fun e h df=>W0a ft self call F e df none h) (fun _ _ _ _=>.bad) (fun e h df=>W0a ft self call F e df none h) (fun v e h df=>W0a ft self call F e df (some v) h) .bad
   (self.z z (J1m F.ws args E.nil) h)) (Nat.ble args.length F.N)
def J7j (ft : Nat → Option FE) (self : SLF) (f : Nat) (args : List V) (h : H) : RC :=
 match ft f with
 | some F=>match F.sp with
  | none=>Bool.rec .bad (R.rec (motive:=fun _=>RC) (fun e h=>fin F e h) (fun _ _ _=>.bad) (fun e h=>fin F e h) (fun v _ h=>pnF v h) .bad (self.y F.code (J1m F.ws args E.nil) h)) (Nat.ble args.length F.N)
  | some _=>.bad
 | none=>.bad
inductive BF where
 | p (g : List V → Option V)
 | h (g : List V → H → Option (V × H))
abbrev BT:=Nat → Option BF
def rcB (b : BF) (args : List V) (h : H) : RC :=
 match b with
 | .p g=>(match g args with | some v=>.ok v h | none=>.bad)
 | .h g=>rcO (g args h)
def purB (bt : BT) (f : Nat) : Bool:=match bt f with | some b=>(match b with | .p _=>true | .h _=>false) | none=>false
def U0y (ft : Nat → Option FE) (bt : BT) (self : SLF) (f : Nat) (args : List V) (h : H) : RC :=
 match bt f with
 | some g=>rcB g args h
 | none=>match ft f with
  | some F=>W5g ft self (J7j ft self) F args h
  | none=>.bad
def Q7r (b : Nat) (j : Nat) (h : H) : RC :=
 match H.get h b with
 | .lp id e _ _=>.ok (.b (Nat.beq j 0)) (H.upd h b (.lp id e (Bool.rec 2 0 (Nat.beq j 0)) j))
 | _=>.bad
def Q7w (self : SLF) (L : LC) (b : Nat) (e : E) (h : H) : RC :=
 match H.get h b with
 | .lp id e' st j=>Bool.rec .bad (R.rec (motive:=fun _=>RC) (fun _ h=>Q7r b 0 h) (fun k _ h=>Q7r b (k + 2) h) (fun _ h=>Q7r b 1 h) (fun _ _ _=>.bad) .bad (self.y L.body e (H.upd h b (.lp id e' 1 j)))) (Nat.beq st 0)
 | _=>.bad
def J9k (lt : Nat → Option LC) (self : SLF) (b : Nat) (args : List V) (h : H) : RC :=
 match H.get h b with
 | .lp id e st _=>match lt id with
  | some L=>Bool.rec .bad (R.rec (motive:=fun _=>RC) (fun e h=>Q7w self L b e h) (fun _ _ _=>.bad) (fun _ _=>.bad) (fun _ _ _=>.bad) .bad (self.y L.assign (J1m L.ps args e) h)) (Nat.beq args.length L.ps.length)
  | none=>.bad
 | _=>.bad
def W5s (ft : Nat → Option FE) (lt : Nat → Option LC) (bt : BT) (self : SLF) : FC:=⟨U0y ft bt self,J9k lt self,fun f=>match ft f with | some _=>true | none=>false,purB bt⟩
def U5e (ft : Nat → Option FE) (lt : Nat → Option LC) (bt : BT) (n : Nat) : SLF :=
 Nat.rec (motive:=fun _=>SLF) ⟨fun _ _ _=>.bad,fun _ _ _=>.bad⟩ (fun _ ih=>⟨fun c e h=>yx c (W5s ft lt bt ih) ih.y e h,fun z e h=>zx z (W5s ft lt bt ih) ih.y e h []⟩) n
end Go.X
namespace Go.X
open Go.RowKit
inductive T (α : Type) where
 | e | n (l : T α) (v : α) (r : T α)
namespace T
variable {α : Type} (d : α)
def at_ (t : T α) : Nat → α :=
 T.rec (motive:=fun _=>Nat → α) (fun _=>d) (fun _ v _ ihl ihr k =>
  Bool.rec (Bool.rec (ihr (Nat.sub (Nat.div k 2) 1)) (ihl (Nat.div k 2)) (Nat.beq (Nat.mod k 2) 1)) v (Nat.beq k 0)) t
def put (t : T α) : Nat → α → T α :=
 T.rec (motive:=fun _=>Nat → α → T α) (fun k x=>Bool.rec .e (.n .e x .e) (Nat.beq k 0)) (fun l v r ihl ihr k x =>
  Bool.rec (Bool.rec (.n l v (ihr (Nat.sub (Nat.div k 2) 1) x)) (.n (ihl (Nat.div k 2) x) v r) (Nat.beq (Nat.mod k 2) 1)) (.n l x r) (Nat.beq k 0)) t
theorem at_e (k : Nat) : at_ d .e k = d:=rfl
theorem W0s (l r : T α) (v : α) (k : Nat) : at_ d (.n l v r) (2 * k + 1) = at_ d l k:=by
 show Bool.rec (motive:=fun _=>_) (Bool.rec (motive:=fun _=>_) (at_ d r ((2 * k + 1) / 2 - 1)) (at_ d l ((2 * k + 1) / 2)) (Nat.beq ((2 * k + 1) % 2) 1)) v (Nat.beq (2 * k + 1) 0) = _
 have h1 : (2 * k + 1) % 2 = 1:=by omega
 have h2 : (2 * k + 1) / 2 = k:=by omega
 have h3 : Nat.beq (2 * k + 1) 0 = false:=rfl
 rw [h1,h2,h3]; rfl
theorem W0r (l r : T α) (v : α) (k : Nat) : at_ d (.n l v r) (2 * k + 2) = at_ d r k:=by
 show Bool.rec (motive:=fun _=>_) (Bool.rec (motive:=fun _=>_) (at_ d r ((2 * k + 2) / 2 - 1)) (at_ d l ((2 * k + 2) / 2)) (Nat.beq ((2 * k + 2) % 2) 1)) v (Nat.beq (2 * k + 2) 0) = _
 have h1 : (2 * k + 2) % 2 = 0:=by omega
 have h2 : (2 * k + 2) / 2 - 1 = k:=by omega
 have h3 : Nat.beq (2 * k + 2) 0 = false:=rfl
 rw [h1,h2,h3]; rfl
theorem put_n0 (l r : T α) (v x : α) : put (.n l v r) 0 x = .n l x r:=rfl
theorem put_n1 (l r : T α) (v x : α) (k : Nat) : put (.n l v r) (2 * k + 1) x = .n (put l k x) v r:=by
 show Bool.rec (motive:=fun _=>_) (Bool.rec (motive:=fun _=>_) (T.n l v (put r ((2 * k + 1) / 2 - 1) x)) (T.n (put l ((2 * k + 1) / 2) x) v r) (Nat.beq ((2 * k + 1) % 2) 1)) (T.n l x r) (Nat.beq (2 * k + 1) 0) = _
 have h1 : (2 * k + 1) % 2 = 1:=by omega
 have h2 : (2 * k + 1) / 2 = k:=by omega
 have h3 : Nat.beq (2 * k + 1) 0 = false:=rfl
 rw [h1,h2,h3]; rfl
theorem put_n2 (l r : T α) (v x : α) (k : Nat) : put (.n l v r) (2 * k + 2) x = .n l v (put r k x):=by
 show Bool.rec (motive:=fun _=>_) (Bool.rec (motive:=fun _=>_) (T.n l v (put r ((2 * k + 2) / 2 - 1) x)) (T.n (put l ((2 * k + 2) / 2) x) v r) (Nat.beq ((2 * k + 2) % 2) 1)) (T.n l x r) (Nat.beq (2 * k + 2) 0) = _
 have h1 : (2 * k + 2) % 2 = 0:=by omega
 have h2 : (2 * k + 2) / 2 - 1 = k:=by omega
 have h3 : Nat.beq (2 * k + 2) 0 = false:=rfl
 rw [h1,h2,h3]; rfl
theorem J3q (k : Nat) : k = 0 ∨ (∃ m,k = 2 * m + 1) ∨ (∃ m,k = 2 * m + 2):=by
 by_cases h0 : k = 0
 ·exact .inl h0
 ·by_cases h1 : k % 2 = 1
  ·exact .inr (.inl ⟨k / 2,by omega⟩)
  ·exact .inr (.inr ⟨k / 2 - 1,by omega⟩)
theorem at_put (t : T α) : ∀ (k : Nat) (x : α) (j : Nat),at_ d (put t k x) j = d ∨ (j = k ∧ at_ d (put t k x) j = x) ∨ (j ≠ k ∧ at_ d (put t k x) j = at_ d t j):=by
 induction t with
 | e =>
  intro k x j
  rcases J3q k with rfl | ⟨m,rfl⟩ | ⟨m,rfl⟩
  ·rcases J3q j with rfl | ⟨i,rfl⟩ | ⟨i,rfl⟩
   ·exact .inr (.inl ⟨rfl,rfl⟩)
   ·left; show at_ d (.n .e x .e) _ = d; rw [W0s]; rfl
   ·left; show at_ d (.n .e x .e) _ = d; rw [W0r]; rfl
  ·left; rfl
  ·left; rfl
 | n l v r ihl ihr =>
  intro k x j
  rcases J3q k with rfl | ⟨m,rfl⟩ | ⟨m,rfl⟩
  ·rw [put_n0]
   rcases J3q j with rfl | ⟨i,rfl⟩ | ⟨i,rfl⟩
   ·exact .inr (.inl ⟨rfl,rfl⟩)
   ·rw [W0s,W0s]; exact .inr (.inr ⟨by omega,rfl⟩)
   ·rw [W0r,W0r]; exact .inr (.inr ⟨by omega,rfl⟩)
  ·rw [put_n1]
   rcases J3q j with rfl | ⟨i,rfl⟩ | ⟨i,rfl⟩
   ·exact .inr (.inr ⟨by omega,rfl⟩)
   ·rw [W0s,W0s]
    rcases ihl m x i with h | ⟨h,h2⟩ | ⟨h,h2⟩
    ·exact .inl h
    ·exact .inr (.inl ⟨by omega,h2⟩)
    ·exact .inr (.inr ⟨by omega,h2⟩)
   ·rw [W0r,W0r]; exact .inr (.inr ⟨by omega,rfl⟩)
  ·rw [put_n2]
   rcases J3q j with rfl | ⟨i,rfl⟩ | ⟨i,rfl⟩
   ·exact .inr (.inr ⟨by omega,rfl⟩)
   ·rw [W0s,W0s]; exact .inr (.inr ⟨by omega,rfl⟩)
   ·rw [W0r,W0r]
    rcases ihr m x i with h | ⟨h,h2⟩ | ⟨h,h2⟩
    ·exact .inl h
    ·exact .inr (.inl ⟨by omega,h2⟩)
    ·exact .inr (.inr ⟨by omega,h2⟩)
def puts (l : List α) : Nat → T α → T α :=
 List.rec (motive:=fun _=>Nat → T α → T α) (fun _ t=>t) (fun x _ ih k t=>ih (Nat.add k 1) (put t k x)) l
theorem J9t (x : α) (l : List α) (k : Nat) (t : T α) : puts (x::l) k t = puts l (k + 1) (put t k x):=rfl
theorem at_puts (l : List α) : ∀ (k : Nat) (t : T α) (j : Nat),at_ d (puts l k t) j = d ∨ (∃ x,k ≤ j ∧ l[j - k]? = some x ∧ at_ d (puts l k t) j = x) ∨ (¬ (k ≤ j ∧ j < k + l.length) ∧ at_ d (puts l k t) j = at_ d t j):=by
 induction l with
 | nil=>intro k t j; exact .inr (.inr ⟨by simp,rfl⟩)
 | cons x l ih =>
  intro k t j
  rw [J9t]
  rcases ih (k + 1) (put t k x) j with h | ⟨y,h1,h2,h3⟩ | ⟨h1,h2⟩
  ·exact .inl h
  ·refine .inr (.inl ⟨y,by omega,?_,h3⟩)
   rw [show j - k = (j - (k + 1)) + 1 by omega]
   simpa using h2
  ·rcases at_put d t k x j with h | ⟨h,h4⟩ | ⟨h,h4⟩
   ·exact .inl (h2.trans h)
   ·refine .inr (.inl ⟨x,by omega,?_,h2.trans h4⟩)
    rw [show j - k = 0 by omega]; rfl
   ·refine .inr (.inr ⟨?_,h2.trans h4⟩)
    simp only [List.length_cons]
    omega
end T
def tyT (P : Program) : T (Option TypeInfo):=T.puts (P.types.toList.map some) 0 .e
def ttP (P : Program) : TT:=fun t =>
 match T.at_ none (tyT P) t with
 | some i=>match i.desc with
  | .named _ u=>match T.at_ none (tyT P) u with
   | some j=>some (j.desc,i)
   | none=>none
  | d=>some (d,i)
 | none=>none
def fnT (P : Program) : T (Option Func):=T.puts (P.funcs.toList.map some) 0 .e
def ftP (P : Program) : Nat → Option FE:=fun f =>
 match T.at_ none (fnT P) f with
 | some fn=>match fn.body with
  | some c=>some (J1o (ttP P) f fn c)
  | none=>none
 | none=>none
theorem J6o {α : Type} (l : List α) (t : Nat) {x : α} (h : T.at_ none (T.puts (l.map some) 0 .e) t = some x) : l[t]? = some x:=by
 rcases T.at_puts none (l.map some) 0 .e t with h1 | ⟨y,_,h2,h3⟩ | ⟨_,h2⟩
 ·rw [h1] at h; cases h
 ·rw [h3] at h; subst h
  simp at h2
  exact h2
 ·rw [h2] at h; cases h
theorem Q3y (P : Program) : ∀ t d i,ttP P t = some (d,i) → P.underlying t = some d ∧ P.info? t = some i:=by
 have hi : ∀ t i,T.at_ none (tyT P) t = some i → P.info? t = some i:=by
  intro t i h
  have:=J6o _ _ h
  have e : P.types[t]? = some i:=by simpa using this
  show P.toTables.info? t = some i
  unfold Tables.info?
  have hlt : t < P.toTables.types.size:=(Array.getElem?_eq_some_iff.1 e).1
  rw [if_pos hlt]; exact e
 intro t d i h
 unfold ttP at h
 cases h1 : T.at_ none (tyT P) t with
 | none=>rw [h1] at h; cases h
 | some i' =>
  rw [h1] at h
  simp only at h
  have h2:=hi _ _ h1
  split at h
  ·rename_i nm u hdu
   cases h3 : T.at_ none (tyT P) u with
   | none=>rw [h3] at h; cases h
   | some j =>
    rw [h3] at h
    simp only [Option.some.injEq,Prod.mk.injEq] at h
    obtain ⟨rfl,rfl⟩:=h
    refine ⟨?_,h2⟩
    have h4:=hi _ _ h3
    obtain ⟨desc,_⟩:=i'
    simp only at hdu
    subst hdu
    simp only [Program.underlying,h2,h4]; rfl
  ·rename_i hdu
   simp only [Option.some.injEq,Prod.mk.injEq] at h
   obtain ⟨rfl,rfl⟩:=h
   refine ⟨?_,h2⟩
   unfold Program.underlying
   rw [h2]
   split
   ·rename_i e
    simp only [Option.some.injEq] at e
    exact absurd (congrArg TypeInfo.desc e) (hdu _ _)
   ·rename_i e
    simp only [Option.some.injEq] at e
    rw [e]
   ·rename_i e; cases e
def chkSt (P : Program) : Bool :=
 (List.range P.types.size).all fun t => !(stT (ttP P) t || (stK (ttP P) t).isSome) || ((match P.underlying t with | some (.struct fs) => fs.toList.all (fun f => f.name != "_") | _ => true) && (!P.stoodInHeld t && !P.eqGuardType P.depth t))
theorem G9e {P : Program} {t : Nat} {x : TypeDesc × TypeInfo} (h : ttP P t = some x) : t < P.types.size:=by
 unfold ttP at h
 cases h3 : T.at_ none (tyT P) t with
 | none=>rw [h3] at h; cases h
 | some i =>
  have h4:=J6o _ _ h3
  have e : P.types[t]? = some i:=by simpa using h4
  exact (Array.getElem?_eq_some_iff.1 e).1
theorem ttP_ok (P : Program) (hc : chkSt P = true) : TTok P (ttP P):=by
 refine ⟨Q3y P,fun t fs h1 h2=>?_,fun t fs ks h1 h2=>?_⟩
 ·have hlt : t < P.types.size:=by
   unfold stT at h1
   cases h3 : ttP P t with
   | none=>rw [h3] at h1; cases h1
   | some i=>exact G9e h3
  have h3:=List.all_eq_true.1 hc t (List.mem_range.2 hlt)
  simp only [h1,h2,Bool.true_or,Bool.not_true,Bool.false_or,Bool.and_eq_true,Bool.not_eq_true',List.all_eq_true] at h3
  exact ⟨fun f hf=>by simpa using h3.1 f hf,h3.2.1,h3.2.2⟩
 ·have hlt : t < P.types.size:=by
   unfold stK at h1
   cases h3 : ttP P t with
   | none=>rw [h3] at h1; cases h1
   | some i=>exact G9e h3
  have h3:=List.all_eq_true.1 hc t (List.mem_range.2 hlt)
  simp only [h1,h2,Option.isSome_some,Bool.or_true,Bool.not_true,Bool.false_or,Bool.and_eq_true,Bool.not_eq_true',List.all_eq_true] at h3
  exact ⟨fun f hf=>by simpa using h3.1 f hf,h3.2.1,h3.2.2⟩
def ltP (P : Program) : Nat → Option LC:=fun id =>
 match T.at_ none (fnT P) (Nat.div id 4096) with
 | some fn=>match fn.body with
  | some c=>match G7y c (Nat.mod id 4096) with
   | some x=>some (W5e (ttP P) fn c x)
   | none=>none
  | none=>none
 | none=>none
end Go.X
namespace Go.X
open Go.RowKit
section
variable {P : Program} {B : Bs} {tt : TT} {trk : Nat → Option S} {N : Nat} {ft : Nat → Option FE} {lt : Nat → Option LC} {bt : BT}
def G4h (P : Program) (tt : TT) (ft : Nat → Option FE) : Prop :=
 ∀ f F, ft f = some F → ∃ fn c, P.funcs[f]? = some fn ∧ (fn.name == "runtime.NumGoroutine") = false ∧ fn.body = some c ∧ F = J1o tt f fn c
def LTok (P : Program) (tt : TT) (lt : Nat → Option LC) : Prop :=
 ∀ id L,lt id = some L → ∃ fn c x,P.funcs[id / 4096]? = some fn ∧ fn.body = some c ∧ G7y c (id % 4096) = some x ∧ L = W5e tt fn c x
theorem U0j (hN : TK trk) : ∀ (n i : Nat) (args : List V) (e : E) (t : Nat) (s : S),args.length ≤ n → trk t = some s →
  rdS s (J1m (U5q trk n i) args e) = if i ≤ t ∧ t < i + args.length then (args[t - i]?).getD .u else rdS s e
 | 0,i,[],e,t,s,_,_=>by
  rw [if_neg (by simp)]; rfl
 | 0,i,_::_,e,t,s,h,_=>by simp at h
 | n + 1,i,[],e,t,s,_,_=>by
  rw [if_neg (by simp)]; rfl
 | n + 1,i,v::args,e,t,s,h,ht=>by
  simp only [List.length_cons] at h ⊢
  cases hi : trk i with
  | none =>
   have hdef : J1m (U5q trk (n + 1) i) (v::args) e = J1m (U5q trk n (i + 1)) args e:=by
    show (match trk i with
     | some s=>J1m (U5q trk n (i + 1)) args (wrS s v e)
     | none=>J1m (U5q trk n (i + 1)) args e) = _
    rw [hi]
   have hne : t ≠ i:=by intro e; rw [e,hi] at ht; cases ht
   rw [hdef,U0j hN n (i + 1) args e t s (by omega) ht]
   by_cases c : i + 1 ≤ t ∧ t < i + 1 + args.length
   ·rw [if_pos c,if_pos (by omega),show t - i = (t - (i + 1)) + 1 by omega,List.getElem?_cons_succ]
   ·rw [if_neg c,if_neg (by omega)]
  | some s' =>
   have hdef : J1m (U5q trk (n + 1) i) (v::args) e = J1m (U5q trk n (i + 1)) args (wrS s' v e):=by
    show (match trk i with
     | some s=>J1m (U5q trk n (i + 1)) args (wrS s v e)
     | none=>J1m (U5q trk n (i + 1)) args e) = _
    rw [hi]
   rw [hdef,U0j hN n (i + 1) args _ t s (by omega) ht]
   by_cases c : i + 1 ≤ t ∧ t < i + 1 + args.length
   ·rw [if_pos c,if_pos (by omega),show t - i = (t - (i + 1)) + 1 by omega,List.getElem?_cons_succ]
   ·rw [if_neg c]
    by_cases hti : t = i
    ·subst hti
     rw [hi] at ht; cases ht
     rw [if_pos (by omega),Nat.sub_self,U2t (hN.ok _ _ hi)]; rfl
    ·rw [if_neg (by omega),W1m (hN.ok _ _ hi)]
     intro e'; subst e'; exact hti (hN.inj _ _ _ ht hi)
theorem SR.init (hN : TK trk) {μ : M} {vs : List V} {args : Array Value} (hv : VRs μ vs args.toList) (hn : vs.length ≤ N) (df : List Deferred) :
  SR μ trk N [] [] (J1m (U5q trk N 0) vs E.nil) { tmps:=args ++ Array.replicate (N - args.size) undef,defers:=df }:=by
 have hlen : args.size = vs.length:=by have:=hv.len; simpa using this
 refine ⟨fun t=>?_,by simp; omega⟩
 show VR μ (odV [] _ (J4l trk t)) _
 unfold J4l
 cases ht : trk t with
 | none=>exact VR.u _
 | some s =>
  show VR μ (rdS s (J1m (U5q trk N 0) vs E.nil)) _
  rw [U0j hN N 0 vs E.nil t s hn ht]
  by_cases c : 0 ≤ t ∧ t < 0 + vs.length
  ·rw [if_pos c]
   have hlt : t < vs.length:=by omega
   obtain ⟨y,h1,h2⟩:=hv.get t vs[t] (List.getElem?_eq_getElem hlt)
   rw [Nat.sub_zero,List.getElem?_eq_getElem hlt]
   have e : Act.eval { tmps:=args ++ Array.replicate (N - args.size) undef,defers:=df } (.tmp t) = y:=by
    show (args ++ Array.replicate (N - args.size) undef).getD t undef = y
    have h3 : args[t]? = some y:=by simpa using h1
    have h4 : t < args.size:=by omega
    have h5 : (args ++ Array.replicate (N - args.size) undef)[t]? = some y:=by rw [Array.getElem?_append_left h4]; exact h3
    rw [Array.getD_eq_getD_getElem?,h5]; rfl
   rw [e]; exact h2
  ·rw [if_neg c,rd_nil]; exact VR.u _
theorem Q6x {μ : M} {h : H} {w : World} (r : HR B μ h w) {t : TypeId} {d : TypeDesc} {i : TypeInfo} (ht : P.underlying t = some d) (hi : P.info? t = some i) {b : Nat} {o g q : Nat} {v : V} (hm : μ b = some (g,q)) (he : ldV h (J9v d i.size) (.p b o) = some v) :
  ∃ z,(loadVar t ⟨g,q + o,none⟩).run P w = .ok z w ∧ VR μ v z:=by
 unfold J9v at he
 cases hag : Q2s d <;> rw [hag] at he <;> simp only [ldV] at he
 ·cases hb : h.get b <;> rw [hb] at he <;> simp only at he <;> try (cases he; done)
  rename_i n c z
  cases hlt : Nat.ble (o + 1) n <;> rw [hlt] at he
  ·cases he
  ·simp at he; subst he
   obtain ⟨g',q',v,h1,h2,_,h4,_⟩:=r.cell hb (o:=o) (Nat.le_of_ble_eq_true hlt)
   rw [hm] at h1; cases h1
   exact ⟨v,U0d (by rw [J6k ht,hag]) h2,h4⟩
 ·cases hb : h.get b <;> rw [hb] at he <;> simp only at he <;> try (cases he; done)
  rename_i n c z
  cases hlt : (Nat.ble (o + i.size) n && Nat.ble 1 i.size) <;> rw [hlt] at he
  ·cases he
  ·simp only [cond_true,Option.some.injEq] at he; subst he
   simp only [Bool.and_eq_true] at hlt
   obtain ⟨g',q',vs,h1,h2,h3⟩:=r.loads (P:=P) hb (Nat.le_of_ble_eq_true hlt.1) (Nat.le_of_ble_eq_true hlt.2)
   rw [hm] at h1; cases h1
   refine ⟨.agg vs,?_,?_⟩
   ·simp only [loadVar,Sem.run_bind,J6k ht,hag,Result.andThen_ok,if_true,J0w hi,h2,Sem.run_pure]
   ·simp only [VR]; exact ⟨vs,rfl,h3⟩
theorem G6r (hT : TTok P tt) {μ : M} {h : H} {w : World} {e : E} {a : Act} (hs : SR μ trk N [] [] e a) (r : HR B μ h w) {x : ResultVar} {o : RO} (ho : roOf tt trk x = some o) {v : V}
  (hv : roV e h o = some v) : ∃ y,(rvS a x).run P w = .ok y w ∧ VR μ v y:=by
 cases x with
 | tmp t =>
  simp only [roOf,Option.some.injEq] at ho; subst ho
  simp only [roV,Option.some.injEq] at hv; subst hv
  exact ⟨_,rfl,hs.val t⟩
 | cell t ty =>
  simp only [roOf] at ho
  cases hd : tt ty with
  | none=>rw [hd] at ho; cases ho
  | some di =>
   obtain ⟨d,i⟩:=di
   rw [hd] at ho
   simp only [Option.some.injEq] at ho; subst ho
   simp only [roV] at hv
   obtain ⟨h3,h4⟩:=hT _ _ _ hd
   have hx:=hs.val t
   have hp : ∃ b o,odV [] e (U1r trk [] t) = .p b o:=by
    cases hq : odV [] e (U1r trk [] t) <;> rw [hq] at hv <;> simp only [ldV] at hv <;> first | (cases hv; done) | exact ⟨_,_,rfl⟩
   obtain ⟨b,o,hp⟩:=hp
   rw [hp] at hx hv
   simp only [VR] at hx
   obtain ⟨g,q,hm,hx⟩:=hx
   obtain ⟨z,z1,z2⟩:=Q6x (P:=P) r h3 h4 hm hv
   refine ⟨z,?_,z2⟩
   have e1 : a.tmps.getD t undef = .pointer (some ⟨g,q + o,none⟩):=hx
   simp only [rvS,e1,asAddr,Sem.run_bind,Sem.run_pure,Result.andThen_ok]
   exact z1
theorem U4o (hT : TTok P tt) {μ : M} {h : H} {w : World} {e : E} {a : Act} (hs : SR μ trk N [] [] e a) (r : HR B μ h w) {fn : Func} {rs : List RO} (hrs : J3d (roOf tt trk) fn.results.toList = some rs) {l : List V} (hl : resF e h rs = some l) :
  ∃ y,(results fn a.tmps).run P w = .ok y w ∧ VR μ (mkR l) y:=by
 have main : ∀ (xs : List ResultVar) (rs : List RO) (l : List V),J3d (roOf tt trk) xs = some rs → resF e h rs = some l →
   ∃ ys : List Value,(xs.mapM (rvS a)).run P w = .ok ys w ∧ VRs μ l ys:=by
  intro xs
  induction xs with
  | nil =>
   intro rs l h1 h2
   rw [J6u h1] at h2
   have : l = []:=(Option.some.inj h2).symm
   subst this
   exact ⟨[],rfl,VRs.nil_iff.2 rfl⟩
  | cons x xs ih =>
   intro rs l h1 h2
   obtain ⟨o,os,h3,h4,rfl⟩:=J3s h1
   obtain ⟨v,vs,h5,h6,rfl⟩:=J3s h2
   obtain ⟨y,y1,y2⟩:=G6r (P:=P) hT hs r h3 h5
   obtain ⟨ys,z1,z2⟩:=ih os vs h4 h6
   refine ⟨y::ys,?_,VRs.cons_mk y2 z2⟩
   rw [List.mapM_cons,Sem.run_bind,y1]
   simp only [Result.andThen_ok,Sem.run_bind,z1,Sem.run_pure]
 obtain ⟨ys,h1,h2⟩:=main _ _ _ hrs hl
 have hres : (results fn a.tmps).run P w = .ok (if hh : ys.toArray.size = 1 then ys.toArray[0] else .tuple ys.toArray) w:=by
  have h0 : results fn a.tmps = (fn.results.mapM (rvS a) >>= fun vs=>pure (if hh : vs.size = 1 then vs[0] else .tuple vs)):=by
   unfold results
   congr 1
  rw [h0,Array.mapM_eq_mapM_toList]
  simp only [map_eq_pure_bind,Sem.run_bind,h1,Result.andThen_ok,Sem.run_pure]
 refine ⟨_,hres,?_⟩
 rcases l with _ | ⟨v,_ | ⟨v2,l⟩⟩
 ·rw [VRs.nil_iff] at h2; subst h2
  simp only [mkR,VR]
  exact ⟨#[],rfl,VRs.nil_iff.2 rfl⟩
 ·obtain ⟨y,rfl,h3⟩:=VRs.one_iff.1 h2
  exact h3
 ·have hlen:=h2.len
  simp only [List.length_cons] at hlen
  rw [dif_neg (by simp; omega)]
  simp only [mkR,VR]
  exact ⟨ys.toArray,rfl,by simpa using h2⟩
end
end Go.X
namespace Go.X
open Go.RowKit
section
variable {B : Bs} {μ : M} {h : H} {w : World}
theorem HR.off (r : HR B μ h w) {l : Nat} (hf : ∀ b q,h.get b ≠ .dead → μ b ≠ some (l,q)) (o : Obj) : HR B μ h (w.putObj l o):=by
 refine ⟨by rw [World.putObj_size]; exact r.base,r.dom,?_,r.inj⟩
 intro b hb
 obtain ⟨g,q,h1,h2,h3⟩:=r.obj b hb
 refine ⟨g,q,h1,h2,h3.mono (M.le_refl _) (World.putObj_heap_other ?_)⟩
 intro e; subst e; exact hf b q hb h1
theorem Ext.off {μ0 : M} {h0 : H} {w0 : World} (e : Ext μ0 h0 w0 μ h w) {l : Nat} (hl : w0.heap.size ≤ l) (o : Obj) : Ext μ0 h0 w0 μ h (w.putObj l o) :=
 ⟨e.le,e.next,e.os,e.tape,e.output,by rw [World.putObj_size]; exact e.size,fun g hg hn=>(World.putObj_heap_other (by omega)).trans (e.frame g hg hn),e.catch_,e.old⟩
inductive DRel (μ : M) (h : H) (w : World) (w0 : Nat) : DF → List Deferred → Prop
 | nil : DRel μ h w w0 [] []
 | mark {df : DF} {ds : List Deferred} {r : Nat} : w0 ≤ r → w.heap[r]? = some (.deferred (some [])) → (∀ b q,h.get b ≠ .dead → μ b ≠ some (r,q)) → (∀ d ∈ ds,d.target ≠ .collected r) →
   DRel μ h w w0 df ds → DRel μ h w w0 df ({ target:=.collected r,args:=#[] }::ds)
 | call {df : DF} {ds : List Deferred} {g : Nat} {a c xs : List V} {first cap args : Array Value} : VRs μ a first.toList → VRs μ c cap.toList → VRs μ xs args.toList →
   DRel μ h w w0 df ds → DRel μ h w w0 ((.fn (.func g) a c,xs)::df) ({ target:=.fn (.func g) cap,args:=first ++ args }::ds)
theorem DRel.step {w0 : Nat} {df : DF} {ds : List Deferred} (d : DRel μ h w w0 df ds) {μ' : M} {h' : H} {w' : World} (e : Ext μ h w μ' h' w') : DRel μ' h' w' w0 df ds:=by
 induction d with
 | nil=>exact .nil
 | mark h1 h2 h3 h4 _ ih =>
  have hlt:=(Array.getElem?_eq_some_iff.1 h2).1
  refine .mark h1 ((e.frame _ hlt h3).trans h2) ?_ h4 ih
  intro b q hb hm
  obtain ⟨b0,q0,k1,k2⟩:=e.catch_ b _ q hb hm hlt
  exact h3 b0 q0 k1 k2
 | call h1 h2 h3 _ ih=>exact .call (VRs.mono e.le _ _ h1) (VRs.mono e.le _ _ h2) (VRs.mono e.le _ _ h3) ih
theorem DRel.off {w0 : Nat} {df : DF} {ds : List Deferred} (d : DRel μ h w w0 df ds) {l : Nat} (hl : ∀ x ∈ ds,x.target ≠ .collected l) (o : Obj) : DRel μ h (w.putObj l o) w0 df ds:=by
 induction d with
 | nil=>exact .nil
 | mark h1 h2 h3 h4 _ ih =>
  refine .mark h1 ((World.putObj_heap_other ?_).trans h2) h3 h4 (ih fun x hx=>hl x (List.mem_cons_of_mem _ hx))
  intro e; subst e
  exact hl _ List.mem_cons_self rfl
 | call h1 h2 h3 _ ih=>exact .call h1 h2 h3 (ih fun x hx=>hl x (List.mem_cons_of_mem _ hx))
theorem DRel.lt {w0 : Nat} {df : DF} {ds : List Deferred} (d : DRel μ h w w0 df ds) : ∀ x ∈ ds,∀ r,x.target = .collected r → r < w.heap.size:=by
 induction d with
 | nil=>intro x hx; cases hx
 | mark h1 h2 h3 h4 _ ih =>
  intro x hx r hr
  rcases List.mem_cons.1 hx with rfl | hx
  ·cases hr; exact (Array.getElem?_eq_some_iff.1 h2).1
  ·exact ih x hx r hr
 | call h1 h2 h3 _ ih =>
  intro x hx r hr
  rcases List.mem_cons.1 hx with rfl | hx
  ·cases hr
  ·exact ih x hx r hr
end
def okL (P : Program) (tt : TT) (μ : M) (id : Nat) (e : E) (r : Loop) : Prop :=
 ∃ fn c x,P.funcs[id / 4096]? = some fn ∧ fn.body = some c ∧ G7y c (id % 4096) = some x ∧ r.params.toList = x.1 ∧ r.assign = x.2.1 ∧ r.body = x.2.2 ∧
  SR μ (J1d (J0k tt fn c)) fn.ntmps [] [] e { tmps:=r.tmps,defers:=[] }
def bsL (P : Program) (tt : TT) (n : Nat) : Bs where
 n:=n
 ok:=okL P tt
 mono:=fun hm ⟨fn,c,x,h1,h2,h3,h4,h5,h6,h7⟩=>⟨fn,c,x,h1,h2,h3,h4,h5,h6,h7.mono hm⟩
 same:=fun st pd ⟨fn,c,x,h1,h2,h3,h4,h5,h6,h7⟩=>⟨fn,c,x,h1,h2,h3,h4,h5,h6,h7⟩
theorem U7u : ∀ {l : List (List Tmp × Code × Code)},G8j l = true → ∀ x ∈ l,key x.1 < 4096 ∧ W5a l (key x.1) = some x
 | [],_,x,hx=>by cases hx
 | y::l,h,x,hx=>by
  have h2 : ((Nat.ble (Nat.succ (key y.1)) 4096 && (match W5a l (key y.1) with | none=>true | some _=>false)) && G8j l) = true:=h
  simp only [Bool.and_eq_true] at h2
  obtain ⟨⟨h3,h4⟩,h5⟩:=h2
  have hdef : ∀ k,W5a (y::l) k = (Bool.rec (W5a l k) (some y) (Nat.beq (key y.1) k) : Option (List Tmp × Code × Code)):=fun _=>rfl
  rcases List.mem_cons.1 hx with rfl | hx
  ·refine ⟨Nat.le_of_ble_eq_true h3,?_⟩
   rw [hdef,Nat.beq_refl]
  ·obtain ⟨k1,k2⟩:=U7u h5 x hx
   refine ⟨k1,?_⟩
   rw [hdef]
   cases hb : Nat.beq (key y.1) (key x.1) with
   | false=>exact k2
   | true =>
    have e:=Nat.eq_of_beq_eq_true hb
    rw [e,k2] at h4; cases h4
theorem G9l : ∀ {l pre : List Oper} {o : Oper},spl l = (pre,some o) → l = pre ++ [o]
 | [],pre,o,h=>by cases h
 | x::l,pre,o,h=>by
  have h2 : (match spl l with | (pre,some y)=>(x::pre,some y) | (_,none)=>([],some x)) = (pre,some o):=h
  rcases hs : spl l with ⟨p,_ | y⟩
  ·rw [hs] at h2
   simp only [Prod.mk.injEq,Option.some.injEq] at h2
   obtain ⟨rfl,rfl⟩:=h2
   cases l with
   | nil=>rfl
   | cons z l =>
    have h3 : (match spl l with | (pre,some y)=>(z::pre,some y) | (_,none)=>([],some z)) = (p,none):=hs
    rcases hs2 : spl l with ⟨p2,_ | y2⟩ <;> rw [hs2] at h3 <;> simp at h3
  ·rw [hs] at h2
   simp only [Prod.mk.injEq,Option.some.injEq] at h2
   obtain ⟨rfl,rfl⟩:=h2
   rw [G9l hs]; rfl
section
variable {P : Program} {n0 : Nat} {tt : TT} {trk : Nat → Option S} {N : Nat} {fc : FC} {Q Q' : Exit → Act → World → Prop} {ro : Option Nat}
theorem Oper.wpIn_mono2 {F : Fence} {n : Nat} {o : Oper} {a : Act} {w : World} {K K' : Act → World → Prop} (h : ∀ a w,K a w → K' a w) (hp : ∀ ch a w,Q (.panic ch) a w → Q' (.panic ch) a w) (ho : ∀ a w,Q .outgrown a w → Q' .outgrown a w)
  (hw : o.wpIn F n P a w K Q) : o.wpIn F n P a w K' Q':=by
 refine ⟨hw.1,?_⟩
 have h2:=hw.2
 generalize (o.semAt F.round a.eval).run P w = r at *
 unfold Oper.uponIn at h2 ⊢
 split at h2
 ·exact h _ _ h2
 ·exact h _ _ h2
 ·exact h _ _ h2
 ·refine ⟨h2.1,CallsIn.mono h2.2 fun e w' he=>?_⟩
  cases e with
  | returned v=>exact h _ _ he
  | panicked ch=>exact hp _ _ _ he
  | outgrown=>obtain ⟨a1,w1,h3⟩:=he; exact ⟨a1,w1,ho _ _ h3⟩
 ·exact ⟨h2.1,RowsIn.mono h2.2 fun v w' he=>h _ _ he⟩
 ·refine ⟨h2.1,RoundIn.mono h2.2 fun e w' he=>?_⟩
  cases e with
  | returned v=>exact h _ _ he
  | panicked ch=>exact hp _ _ _ he
  | outgrown=>obtain ⟨a1,w1,h3⟩:=he; exact ⟨a1,w1,ho _ _ h3⟩
 ·exact hp _ _ _ h2
 ·exact h2.elim
theorem J3x {F : Fence} {n : Nat} {ops : Array Oper} {tl : List Nat} (hn : ∀ a w,Q .normal a w → wpOpsIn F n P ops Q' tl a w) (hp : ∀ ch a w,Q (.panic ch) a w → Q' (.panic ch) a w) (ho : ∀ a w,Q .outgrown a w → Q' .outgrown a w) :
  ∀ (l : List Nat) (a : Act) (w : World),wpOpsIn F n P ops Q l a w → wpOpsIn F n P ops Q' (l ++ tl) a w
 | [],a,w,h=>hn a w h
 | i::l,a,w,h=>by
  show wpOpsIn F n P ops Q' (i::(l ++ tl)) a w
  unfold wpOpsIn at h ⊢
  cases hi : ops[i]? with
  | none=>rw [hi] at h; exact J3x hn hp ho l a w h
  | some o =>
   rw [hi] at h
   simp only at h ⊢
   split
   ·rename_i hw
    rw [if_pos hw] at h
    exact Oper.wpIn_mono2 (fun a w=>J3x hn hp ho l a w) hp ho h
   ·rename_i hw
    rw [if_neg hw] at h
    exact ⟨h.1,J3x hn hp ho l _ w h.2⟩
def EndsZ (Q : Exit → Act → World → Prop) (B : Bs) (trk : Nat → Option S) (N : Nat) (μ : M) (h : H) (w : World) (w0 : Nat) : RZ → Prop
 | .n e h' df=>∀ a' w' μ',SR μ' trk N [] [] e a' → HR B μ' h' w' → Ext μ h w μ' h' w' → DRel μ' h' w' w0 df a'.defers → Q .normal a' w'
 | .x id e h' df=>∀ a' w' μ',SR μ' trk N [] [] e a' → HR B μ' h' w' → Ext μ h w μ' h' w' → DRel μ' h' w' w0 df a'.defers → Q (.exit id) a' w'
 | .r e h' df=>∀ a' w' μ',SR μ' trk N [] [] e a' → HR B μ' h' w' → Ext μ h w μ' h' w' → DRel μ' h' w' w0 df a'.defers → Q .ret a' w'
 | .pn v e h' df=>∀ a' w' μ' y,SR μ' trk N [] [] e a' → HR B μ' h' w' → Ext μ h w μ' h' w' → DRel μ' h' w' w0 df a'.defers → VR μ' v y → Q (.panic (chn y)) a' w'
 | .bad=>False
theorem EndsZ.mono {B : Bs} {μ μ1 : M} {h h1 : H} {w w1 : World} {w0 : Nat} (he : Ext μ h w μ1 h1 w1) : ∀ {r : RZ},EndsZ Q B trk N μ h w w0 r → EndsZ Q B trk N μ1 h1 w1 w0 r
 | .n _ _ _,hr=>fun a' w' μ' g1 g2 g3 g4=>hr a' w' μ' g1 g2 (he.trans g3) g4
 | .x _ _ _ _,hr=>fun a' w' μ' g1 g2 g3 g4=>hr a' w' μ' g1 g2 (he.trans g3) g4
 | .r _ _ _,hr=>fun a' w' μ' g1 g2 g3 g4=>hr a' w' μ' g1 g2 (he.trans g3) g4
 | .pn _ _ _ _,hr=>fun a' w' μ' y g1 g2 g3 g4 g5=>hr a' w' μ' y g1 g2 (he.trans g3) g4 g5
 | .bad,hr=>hr
theorem J3g {B : Bs} (hT : TTok P tt) (hF : FOK P B fc) (hm : P.follows .mixedOrders = true) (hN : TK trk) {self : U8d} {n : Nat} (hself : J7m P B tt trk N n self)
  (c : Code) {e : E} {h : H} {a : Act} {w : World} {μ : M} {df : DF} {w0 : Nat} (hs : SR μ trk N [] [] e a) (r : HR B μ h w) (d : DRel μ h w w0 df a.defers) (hr : EndsZ Q B trk N μ h w w0 (rzR df (yx (J0y tt trk N c) fc self e h))) : c.wpIn (FW ro) 0 P Q a w:=by
 refine J1r hT hF hm hN hself c hs r ?_
 cases hx : yx (J0y tt trk N c) fc self e h with
 | n e1 h1=>rw [hx] at hr; exact fun a' w' μ' g1 g2 g3 g4=>hr a' w' μ' g1 g2 g3 (by rw [g4]; exact d.step g3)
 | x id e1 h1=>rw [hx] at hr; exact fun a' w' μ' g1 g2 g3 g4=>hr a' w' μ' g1 g2 g3 (by rw [g4]; exact d.step g3)
 | r e1 h1=>rw [hx] at hr; exact fun a' w' μ' g1 g2 g3 g4=>hr a' w' μ' g1 g2 g3 (by rw [g4]; exact d.step g3)
 | pn v e1 h1=>rw [hx] at hr; exact fun a' w' μ' y g1 g2 g3 g4 g5=>hr a' w' μ' y g1 g2 g3 (by rw [g4]; exact d.step g3) g5
 | bad=>rw [hx] at hr; exact hr.elim
end
end Go.X
namespace Go.X
open Go.RowKit
section
variable {P : Program} {n0 : Nat} {tt : TT} {fc : FC} {Q : Exit → Act → World → Prop}
theorem G6q {B : Bs} (hF : FOK P B fc) {k : RK} {l : List V} {h h' : H} {v : V} (he : J6c fc k l h = .pn v h') : ∃ t y,v = .ifc t y:=by
 cases k with
 | op k =>
  have he2 : rcO (opK k h l) = .pn v h':=he
  unfold rcO at he2
  split at he2 <;> cases he2
 | call f=>exact hF.pni f l h v h' (.inl he)
 | clo =>
  cases l with
  | nil=>cases he
  | cons x l =>
   cases x with
   | fn g a c =>
    cases g with
    | func g=>exact hF.pni g _ h v h' (.inl he)
    | _=>cases he
   | yl b=>exact hF.pni b l h v h' (.inr he)
   | _=>cases he
 | pan =>
  rcases l with _ | ⟨x,_ | ⟨y,l⟩⟩
  ·cases he
  ·cases x with
   | ifc t y =>
    have he2 : RC.pn (.ifc t y) h = .pn v h':=he
    cases he2; exact ⟨t,y,rfl⟩
   | _=>cases he
  ·cases he
 | bad=>cases he
theorem J9a {B : Bs} (hF : FOK P B fc) {env : E} : ∀ {l : List AO} {res : List V} {h h' : H} {v : V},U5s fc env l res h = .pn v h' → ∃ t y,v = .ifc t y
 | [],res,h,h',v,he=>by cases he
 | o::l,res,h,h',v,he=>by
  rw [J9r] at he
  have hstep : ∀ x : RC,x = J6c fc o.k (o.xs.map (odV res env)) h → (match x with
    | .ok v h=>U5s fc env l (v::res) h
    | .pn v h=>.pn v h
    | .bad=>.bad) = RL.pn v h' → ∃ t y,v = .ifc t y:=by
   intro x hx he
   cases x with
   | ok v1 h1=>exact J9a hF he
   | pn v1 h1=>cases he; exact G6q hF hx.symm
   | bad=>cases he
  cases hg : o.g with
  | none=>rw [hg] at he; exact hstep _ rfl he
  | some gw =>
   obtain ⟨g,want⟩:=gw
   rw [hg] at he
   simp only at he
   cases hb : odV res env g with
   | b b =>
    rw [hb] at he
    simp only at he
    cases hw : eqB b want <;> rw [hw] at he
    ·exact J9a hF he
    ·exact hstep _ rfl he
   | tu l'=>rw [hb] at he; exact J9a hF he
   | _=>rw [hb] at he; cases he
theorem G2w {B : Bs} {trk : Nat → Option S} {N : Nat} (hT : TTok P tt) (hF : FOK P B fc) (hN : TK trk) {id : Nat} {ops : Array Oper} {e : E} {h : H} {a : Act} {w : World} {μ : M} {df : DF} {w0 : Nat} {self : U8d}
  (hs : SR μ trk N [] [] e a) (r : HR B μ h w) (d : DRel μ h w w0 df a.defers) (hr : EndsZ Q B trk N μ h w w0 (zx (dfrZ tt trk N ops.toList) fc self e h df)) : (Code.region id ops false).wpIn (FW none) 0 P Q a w:=by
 unfold dfrZ at hr
 rcases hsp : spl ops.toList with ⟨pre,_ | o⟩ <;> rw [hsp] at hr
 ·exact hr.elim
 simp only at hr
 have hops:=G9l hsp
 obtain ⟨dst,op,type,pos,after,guard⟩:=o
 cases op <;> simp only at hr <;> try exact hr.elim
 rename_i c
 obtain ⟨callee,args,argTypes⟩:=c
 cases callee <;> simp only at hr <;> try exact hr.elim
 rename_i f
 cases guard <;> cases dst <;> simp only at hr <;> try exact hr.elim
 cases hnd : J7y pre <;> rw [hnd] at hr
 ·exact hr.elim
 simp only at hr
 have hr2 : EndsZ Q B trk N μ h w w0 (R.rec (motive:=fun _=>RZ) (fun _ _=>.bad) (fun _ _ _=>.bad) (fun _ _=>.bad) (fun v e h=>G0e v e h df) .bad ((ytL (wpL trk (J0f pre [])) (J8c tt pre (J1t tt trk N ops.toList pre []))).run fc e [] h fun res h =>
   .pn (.tu ((J0d (J2c trk (J0f pre []) f)).get res e::ydL (args.toList.map fun x=>J0d (J2c trk (J0f pre []) x)) res e)) (wbY (wlY trk (J0f pre []) 0) res e) h)):=hr
 have hsay:=U2k (wpL trk (J0f pre [])) fc e (fun res h=>.pn (.tu ((J0d (J2c trk (J0f pre []) f)).get res e::ydL (args.toList.map fun x=>J0d (J2c trk (J0f pre []) x)) res e)) (wbY (wlY trk (J0f pre []) 0) res e) h) (J8c tt pre (J1t tt trk N ops.toList pre [])) [] h
 rw [J4n] at hsay
 have hlast : ops[pre.length]? = some ⟨none,.defer ⟨.value f,args,argTypes⟩,type,pos,after,none⟩:=by
  have : ops.toList[pre.length]? = some ⟨none,.defer ⟨.value f,args,argTypes⟩,type,pos,after,none⟩:=by rw [hops]; simp
  simpa using this
 have hsize : ops.size = pre.length + 1:=by
  have:=congrArg List.length hops
  simpa using this
 refine wpIn_region ?_
 rw [List.range_eq_range',hsize,List.range'_concat]
 refine J3x (Q:=fun e' a' w'=>match e' with
  | .normal=>wpOpsIn (FW none) 0 P ops Q [0 + 1 * pre.length] a' w'
  | .panic ch=>Q (.panic ch) a' w'
  | _=>False) (fun a w h=>h) (fun ch a w h=>h) (fun a w h=>h.elim) _ a w ?_
 have hfin : EndL (fun e' a' w'=>match e' with
  | .normal=>wpOpsIn (FW none) 0 P ops Q [0 + 1 * pre.length] a' w'
  | .panic ch=>Q (.panic ch) a' w'
  | _=>False) B trk N e (J0f pre []) μ h w a.defers (U5s fc e (J1t tt trk N ops.toList pre []) [] h):=by
  rcases hsay with h1 | ⟨res',h',h1,h2⟩ | ⟨v,h',h1,h2⟩
  ·rw [h1] at hr2; exact hr2.elim
  ·rw [h2] at hr2
   rw [h1]
   intro a' w' μ' g1 g2 g3 g4 g5
   simp only
   have hsq:=g1.op f
   have hxq:=g1.ops args.toList
   have hget : ∀ o : Od,(J0d o).get res' e = odV res' e o:=fun o=>J0j o res' e
   have hgetL : ydL (args.toList.map fun x=>J0d (J2c trk (J0f pre []) x)) res' e = (args.toList.map (J2c trk (J0f pre []))).map (odV res' e):=by
    have : ∀ l : List Operand,ydL (l.map fun x=>J0d (J2c trk (J0f pre []) x)) res' e = (l.map (J2c trk (J0f pre []))).map (odV res' e):=by
     intro l
     induction l with
     | nil=>rfl
     | cons x l ih =>
      show (J0d (J2c trk (J0f pre []) x)).get res' e::ydL (l.map fun x=>J0d (J2c trk (J0f pre []) x)) res' e = _
      rw [ih,hget]; rfl
    exact this args.toList
   have hr2b : EndsZ Q B trk N μ h w w0 (G0e (.tu ((J0d (J2c trk (J0f pre []) f)).get res' e::ydL (args.toList.map fun x=>J0d (J2c trk (J0f pre []) x)) res' e)) (wbY (wlY trk (J0f pre []) 0) res' e) h' df):=hr2
   rw [hget,hgetL] at hr2b
   have hr3 : EndsZ Q B trk N μ h w w0 (G0e (.tu (odV res' e (J2c trk (J0f pre []) f)::(args.toList.map (J2c trk (J0f pre []))).map (odV res' e))) (wbY (wlY trk (J0f pre []) 0) res' e) h' df):=hr2b
   have hd : DRel μ' h' w' w0 df a'.defers:=by rw [g5]; exact d.step g4
   cases hfv : odV res' e (J2c trk (J0f pre []) f) with
   | fn g0 ca cc =>
    rw [hfv] at hr3 hsq
    cases g0 with
    | func g =>
     simp only [VR] at hsq
     obtain ⟨xs,ys,e1,e2,e3⟩:=hsq
     have hr4 : EndsZ Q B trk N μ h w w0 (.n (wbY (wlY trk (J0f pre []) 0) res' e) h' ((.fn (.func g) ca cc,(args.toList.map (J2c trk (J0f pre []))).map (odV res' e))::df)):=hr3
     have hgo : ∀ i,ops[i]? = some ⟨none,.defer ⟨.value f,args,argTypes⟩,type,pos,after,none⟩ → (⟨none,.defer ⟨.value f,args,argTypes⟩,type,pos,after,none⟩ : Oper).wpIn (FW none) 0 P a' w' (wpOpsIn (FW none) 0 P ops Q []) Q → wpOpsIn (FW none) 0 P ops Q [i] a' w':=by
      intro i hi hw
      unfold wpOpsIn
      rw [hi]
      exact hw
     refine hgo _ (by rw [Nat.zero_add,Nat.one_mul]; exact hlast) ?_
     refine ⟨fun _ _=>trivial,?_⟩
     have hrun : (Oper.semAt (FW none).round a'.eval ⟨none,.defer ⟨.value f,args,argTypes⟩,type,pos,after,none⟩).run P w' = .ok (.defer { target:=.fn (.func g) ys,args:=xs ++ args.map a'.eval }) w':=by
      rw [show (FW none).round = none from rfl,Oper.semAt_none]
      show ((do let d ← resolve a'.eval ⟨.value f,args,argTypes⟩ type; pure (.defer d)) : Sem Next).run P w' = _
      simp only [resolve,e1,Deferred.ofValue]
      rfl
     rw [hrun]
     show wpOpsIn (FW none) 0 P ops Q [] { a' with defers:={ target:=.fn (.func g) ys,args:=xs ++ args.map a'.eval }::a'.defers } w'
     refine hr4 _ w' μ' ?_ g3 g4 ?_
     ·rw [U5y]
      have:=g1.close hN g2
      exact ⟨this.val,this.size⟩
     ·exact .call e2 e3 (by simpa using hxq) hd
    | _=>exact hr3.elim
   | _=>rw [hfv] at hr3; exact hr3.elim
  ·rw [h2] at hr2
   rw [h1]
   have hr3 : EndsZ Q B trk N μ h w w0 (G0e v (wpE (wpL trk (J0f pre [])) e) h' df):=hr2
   intro a' w' μ' y g1 g2 g3 g4 g5
   exfalso
   obtain ⟨t,y',rfl⟩:=J9a hF h1
   exact hr3.elim
 exact J3n hT hF hN pre 0 (post:=[⟨none,.defer ⟨.value f,args,argTypes⟩,type,pos,after,none⟩]) (by rw [hops]; rfl) hs r rfl hfin
theorem W9s {trk : Nat → Option S} {fn : Func} {c0 : Code} {fid : Nat} (hT : TTok P tt) (hF : FOK P (bsL P tt n0) fc) (hfn : P.funcs[fid]? = some fn) (hb : fn.body = some c0) (htrk : trk = J1d (J0k tt fn c0)) (hck : G8j (J1l c0) = true)
  {g : Operand} {ps : Array Tmp} {assign body : Code} (hmem : (ps.toList,assign,body) ∈ J1l c0) {e : E} {h : H} {a : Act} {w : World} {μ : M} {df : DF} {w0 : Nat} {self : U8d} (hw0 : w0 ≤ w.heap.size)
  (hs : SR μ trk fn.ntmps [] [] e a) (r : HR (bsL P tt n0) μ h w) (d : DRel μ h w w0 df a.defers)
  (hr : EndsZ Q (bsL P tt n0) trk fn.ntmps μ h w w0 (zx (.rng (J0d (J2c trk [] g)) (Nat.add (Nat.mul fid 4096) (key ps.toList))) fc self e h df)) : (Code.rangeFunc g ps assign body).wpIn (FW none) 0 P Q a w:=by
 subst htrk
 have hid : ∃ id,id = Nat.add (Nat.mul fid 4096) (key ps.toList):=⟨_,rfl⟩
 obtain ⟨id,hid⟩:=hid
 rw [← hid] at hr
 have hr2 : EndsZ Q (bsL P tt n0) (J1d (J0k tt fn c0)) fn.ntmps μ h w w0 (match ydV (J0d (J2c (J1d (J0k tt fn c0)) [] g)) [] e with | .fn g0 a c=>(match g0 with | .func f=>Bool.rec .bad (RC.rec (motive:=fun _=>RZ) (fun _ h'=>endR h.next e h' df) (fun _ _=>.bad) .bad (fc.call f (a ++ (.yl h.next::c)) (H.new h (.lp id e 0 0)))) (fc.ent f) | _=>.bad) | _=>.bad):=hr
 rw [J0j] at hr2
 have hg:=hs.op g
 cases hv : odV [] e (J2c (J1d (J0k tt fn c0)) [] g) with
 | fn g0 ca cc =>
  rw [hv] at hr2 hg
  cases g0 with
  | func f =>
   simp only at hr2
   simp only [VR] at hg
   obtain ⟨xs,ys,e1,e2,e3⟩:=hg
   cases hent : fc.ent f <;> rw [hent] at hr2
   ·exact hr2.elim
   simp only at hr2
   obtain ⟨fn1,c1,b1,b2,b3⟩:=hF.ent f hent
   obtain ⟨k1,k2⟩:=U7u hck _ hmem
   refine wpIn_rangeFunc fun fnb _=>?_
   refine ⟨w.heap.size + 1,[{ target:=.collected w.heap.size,args:=#[] }],(w.alloc (.deferred (some []))).alloc (.loop { state:=.ready,pending:=none,fn:=fnb,tmps:=a.tmps,params:=ps,assign,body,defers:=w.heap.size }),
    { target:=.fn (.func f) ys,args:=xs ++ #[.func (.yield (w.heap.size + 1)) #[] #[]] },(w.alloc (.deferred (some []))).alloc (.loop { state:=.ready,pending:=none,fn:=fnb,tmps:=a.tmps,params:=ps,assign,body,defers:=w.heap.size }),f,
    (xs ++ #[.func (.yield (w.heap.size + 1)) #[] #[]]) ++ ys,(w.alloc (.deferred (some []))).alloc (.loop { state:=.ready,pending:=none,fn:=fnb,tmps:=a.tmps,params:=ps,assign,body,defers:=w.heap.size }),run_enterLoop_outer fnb a.tmps ps assign body,?_,fun _ _=>trivial,?_,fun e=>absurd e (by simp [FW,Fence.wide]),?_⟩
   ·simp only [resolve,rangeCall,e1,Deferred.ofValue,List.map_toArray,List.map_cons,List.map_nil,U3k]
    rfl
   ·simp only [invoke]
    exact J2j b1 b2 b3 _ _
   have hw1 : ∃ w1,w1 = w.alloc (.deferred (some [])):=⟨_,rfl⟩
   obtain ⟨w1,hw1⟩:=hw1
   have hR : ∃ rc : Loop,rc = { state:=.ready,pending:=none,fn:=fnb,tmps:=a.tmps,params:=ps,assign,body,defers:=w.heap.size }:=⟨_,rfl⟩
   obtain ⟨rc,hrc⟩:=hR
   rw [← hrc,← hw1]
   have s1 : w1.heap.size = w.heap.size + 1:=by rw [hw1]; simp
   have x1 : ∀ k,k < w.heap.size → w1.heap[k]? = w.heap[k]?:=fun k hk=>by rw [hw1]; exact Below.heap_alloc _ _ _ hk
   have r1 : HR (bsL P tt n0) μ h w1:=r.grow (by omega) x1
   have ex1 : Ext μ h w μ h w1:=Ext.grow (by omega) x1 (by rw [hw1]; rfl) (by rw [hw1]; rfl) (by rw [hw1]; rfl)
   have s2 : (w1.alloc (.loop rc)).heap.size = w.heap.size + 2:=by simp [s1]
   have x2 : ∀ k,k < w1.heap.size → (w1.alloc (.loop rc)).heap[k]? = w1.heap[k]?:=fun k hk=>Below.heap_alloc _ _ _ hk
   have hnew : (w1.alloc (.loop rc)).heap[w1.heap.size]? = some (.loop rc):=heap_alloc_new _ _
   have hidd : id / 4096 = fid:=by
    rw [hid]; show (fid * 4096 + key ps.toList) / 4096 = fid
    have : key ps.toList < 4096:=k1
    omega
   have hidm : id % 4096 = key ps.toList:=by
    rw [hid]; show (fid * 4096 + key ps.toList) % 4096 = key ps.toList
    have : key ps.toList < 4096:=k1
    omega
   have hok : OR (bsL P tt n0) (M.new μ h.next (w1.heap.size,0) 0) (w1.alloc (.loop rc)) w1.heap.size 0 0 (.lp id e 0 0):=by
    refine ⟨rc,hnew,?_,by rw [hrc]; rfl,by rw [hrc]; rfl⟩
    refine ⟨fn,c0,(ps.toList,assign,body),by rw [hidd]; exact hfn,hb,?_,by rw [hrc],by rw [hrc],by rw [hrc],?_⟩
    ·rw [hidm]; exact k2
    ·rw [hrc]
     have:=hs.mono (M.le_new (x:=(w1.heap.size,0)) (N:=0) r.next_none)
     exact ⟨this.val,this.size⟩
   have hfree1 : ∀ b q',h.get b ≠ .dead → μ b ≠ some (w1.heap.size,q'):=by
    intro b q' hb' hm'
    obtain ⟨g',q,h1,_,h3⟩:=r1.obj b hb'
    rw [hm'] at h1; cases h1
    exact absurd (h3.lt hb') (Nat.lt_irrefl _)
   have r2 : HR (bsL P tt n0) (M.new μ h.next (w1.heap.size,0) 0) (h.new (.lp id e 0 0)) (w1.alloc (.loop rc)):=r1.new (by omega) r1.base hfree1 (fun k hk _=>x2 k hk) hok
   have ex2 : Ext μ h w (M.new μ h.next (w1.heap.size,0) 0) (h.new (.lp id e 0 0)) (w1.alloc (.loop rc)):=ex1.trans (Ext.new r1 (by omega) x2 rfl rfl rfl)
   cases hcall : fc.call f (ca ++ (.yl h.next::cc)) (H.new h (.lp id e 0 0)) with
   | bad=>rw [hcall] at hr2; exact hr2.elim
   | pn v h'=>rw [hcall] at hr2; exact hr2.elim
   | ok v h' =>
    rw [hcall] at hr2
    have hr3 : EndsZ Q (bsL P tt n0) (J1d (J0k tt fn c0)) fn.ntmps μ h w w0 (endR h.next e h' df):=hr2
    have hc:=hF.call f (ca ++ (.yl h.next::cc)) (H.new h (.lp id e 0 0)) (by rw [hcall]; simp)
    rw [hcall] at hc
    have hvs : VRs (M.new μ h.next (w1.heap.size,0) 0) (ca ++ (.yl h.next::cc)) ((xs ++ #[Value.func (.yield (w.heap.size + 1)) #[] #[]]) ++ ys).toList:=by
     have hle:=M.le_new (x:=(w1.heap.size,0)) (N:=0) r.next_none
     have hy : VR (M.new μ h.next (w1.heap.size,0) 0) (.yl h.next) (.func (.yield (w.heap.size + 1)) #[] #[]):=by
      simp only [VR]
      exact ⟨w1.heap.size,0,M.new_same _ _ _ _,by rw [s1]⟩
     have:=VRs.append (VRs.mono hle _ _ e2) (VRs.append (VRs.cons_mk hy (VRs.nil_iff.2 rfl)) (VRs.mono hle _ _ e3))
     simpa using this
    have hcalls : Calls P f ((xs ++ #[Value.func (.yield (w.heap.size + 1)) #[] #[]]) ++ ys) (w1.alloc (.loop rc)) (G4i (bsL P tt n0) (M.new μ h.next (w1.heap.size,0) 0) (H.new h (.lp id e 0 0)) (w1.alloc (.loop rc)) (.ok v h')):=by
     rcases hc with ⟨_,hc⟩ | ⟨v1,h1,_,hc⟩
     ·exact hc _ _ _ r2 hvs
     ·obtain ⟨y,w',μ',g1,_⟩:=hc _ _ _ r2 hvs
      rw [J2j b1 b2 b3] at g1
      simp at g1
    refine CallsIn.mono (Q3a hcalls) ?_
    intro en w' hen
    obtain ⟨y,μ',rfl,g2,g3,g4⟩:=hen
    unfold endR at hr3
    cases hgt : H.get h' h.next <;> rw [hgt] at hr3 <;> simp only at hr3 <;> try exact hr3.elim
    rename_i id' e' st j
    have hst : Nat.beq st 1 = false:=by
     cases hst : Nat.beq st 1 with
     | false=>rfl
     | true=>rw [hst] at hr3; exact hr3.elim
    rw [hst] at hr3
    simp only at hr3
    obtain ⟨gl,q,m1,_,m3⟩:=g3.obj h.next (by rw [hgt]; simp)
    rw [hgt] at m3
    obtain ⟨rl,n1,_,n3,n4⟩:=m3
    have m2:=(g4.le _ _ (M.new_same μ h.next (w1.heap.size,0) 0)).1
    rw [m2] at m1; cases m1
    have hbusy : rl.state ≠ .busy:=by
     intro eb
     rw [eb] at n3
     rw [← n3] at hst; cases hst
    have hend:=run_endLoop (P:=P) n1 hbusy
    rw [s1] at hend n1
    have hlive : ∀ b q',(h'.upd h.next .dead).get b ≠ .dead → μ' b ≠ some (w.heap.size + 1,q'):=by
     intro b q' hb' hm'
     by_cases eb : h.next = b
     ·subst eb; rw [H.get_upd_same] at hb'; exact hb' rfl
     ·rw [H.get_upd_ne _ _ eb] at hb'
      rw [s1] at m2
      exact eb (g3.inj h.next b _ _ _ _ (by rw [hgt]; simp) hb' m2 hm' rfl)
    have rf : HR (bsL P tt n0) μ' (h'.upd h.next .dead) (w'.putObj (w.heap.size + 1) (.loop { rl with state:=.exhausted })):=(g3.kill h.next).off hlive _
    have exf : Ext μ h w μ' (h'.upd h.next .dead) (w'.putObj (w.heap.size + 1) (.loop { rl with state:=.exhausted })):=((ex2.trans g4).trans (Ext.kill h.next)).off (by omega) _
    have hmark0 : (w1.alloc (.loop rc)).heap[w.heap.size]? = some (.deferred (some [])):=by
     rw [x2 _ (by omega),hw1]; exact heap_alloc_new _ _
    have hun0 : ∀ b q',(h.new (.lp id e 0 0)).get b ≠ .dead → (M.new μ h.next (w1.heap.size,0) 0) b ≠ some (w.heap.size,q'):=by
     intro b q' hb' hm'
     by_cases eb : h.next = b
     ·subst eb; rw [M.new_same] at hm'; simp only [Option.some.injEq,Prod.mk.injEq] at hm'; omega
     ·rw [M.new_ne _ _ _ eb] at hm'
      rw [H.get_new_ne _ _ eb] at hb'
      obtain ⟨g',q,h1,_,h3⟩:=r.obj b hb'
      rw [hm'] at h1; cases h1
      exact absurd (h3.lt hb') (Nat.lt_irrefl _)
    have hdr : DRel μ' (h'.upd h.next .dead) (w'.putObj (w.heap.size + 1) (.loop { rl with state:=.exhausted })) w0 df ({ target:=.collected w.heap.size,args:=#[] }::a.defers):=by
     refine .mark hw0 ?_ ?_ ?_ (d.step exf)
     ·rw [World.putObj_heap_other (by omega)]
      rw [g4.frame _ (by omega) hun0]; exact hmark0
     ·intro b q' hb' hm'
      by_cases eb : h.next = b
      ·subst eb; rw [H.get_upd_same] at hb'; exact hb' rfl
      ·rw [H.get_upd_ne _ _ eb] at hb'
       obtain ⟨b0,q0,z1,z2⟩:=g4.catch_ b _ q' hb' hm' (by omega)
       exact hun0 b0 q0 z1 z2
     ·intro x hx hx2
      exact absurd (d.lt x hx _ hx2) (Nat.lt_irrefl _)
    have hsr : SR μ' (J1d (J0k tt fn c0)) fn.ntmps [] [] e { a with defers:={ target:=.collected w.heap.size,args:=#[] }::a.defers }:=by
     have:=hs.mono exf.le
     exact ⟨this.val,this.size⟩
    have fin : ∀ (jump : Option Code) (w4 : World),jN jump = some j → HR (bsL P tt n0) μ' (h'.upd h.next .dead) w4 → Ext μ h w μ' (h'.upd h.next .dead) w4 → DRel μ' (h'.upd h.next .dead) w4 w0 df ({ target:=.collected w.heap.size,args:=#[] }::a.defers) →
      (match jump with
       | none=>Q .normal { a with defers:=[{ target:=.collected w.heap.size,args:=#[] }] ++ a.defers } w4
       | some c=>c.wpIn (FW none) 0 P Q { a with defers:=[{ target:=.collected w.heap.size,args:=#[] }] ++ a.defers } w4):=by
     intro jump w4 hj q1 q2 q3
     cases jump with
     | none=>cases hj; exact hr3 _ _ μ' hsr q1 q2 q3
     | some cp =>
      cases cp <;> simp only [jN] at hj <;> try (cases hj; done)
      ·cases hj
       exact wpIn_exit (hr3 _ _ μ' hsr q1 q2 q3)
      ·cases hj
       exact wpIn_ret (hr3 _ _ μ' hsr q1 q2 q3)
    exact ⟨rl.pending,_,hend,fin _ _ n4 rf exf hdr⟩
  | _=>exact hr2.elim
 | _=>rw [hv] at hr2; exact hr2.elim
end
end Go.X
end
