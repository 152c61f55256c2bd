/- Every kind of operation is sound. -/
import Derived.Test.YthhcifmblnbokaaGreatDoorXd
import Derived.Orders
import Derived.OrdersIn
import Derived.LoopNIn
set_option linter.all false
set_option maxRecDepth 100000
noncomputable section
namespace Go.X
open Go.RowKit
def kRgs (tt : TT) (t : Nat) (x : Operand) : KO:=(tt t).bind fun d=>match d.1 with | .string=>some (.rgs,[x]) | .map _ _=>some (.rgm,[x]) | _=>none
def U0f (tt : TT) (op : Op) : KO :=
 match op with
 | .move x=>some (.mv,[x])
 | .assign x=>some (.mv,[x])
 | .pick c a b=>some (.pick,[c,a,b])
 | .alloc e=>U3f tt e
 | .box _ x=>some (.box,[x])
 | .build t parts=>G1w tt t parts.toList
 | .buildSlice t len parts=>kBsl tt t len parts.toList
 | .insert t m k x=>kMu tt t m k x
 | .load t a=>Q7a tt t a
 | .store t a x=>G1m tt t a x
 | .nilCheck x=>some (.nck,[x])
 | .binOp op t x y _=>kBin tt op t x y
 | .unOp op _ x=>kUn op x
 | .convert s d x=>kCv tt s d x
 | .sliceToArrayPointer t x=>kSa tt t x
 | .makeInterface t x=>kMkI tt t x
 | .makeFunc f a c=>some (.mkf f a.toList.length,a.toList ++ c.toList)
 | .makeMap t r=>Q2r tt t r
 | .makeSlice t l c=>kMks tt t l c
 | .slice t x lo hi mx=>kSl tt t x lo hi mx
 | .fieldAddr t x f=>kFA tt t x f
 | .field t x f=>kFL tt t x f
 | .indexAddr t x ix=>kIA tt t x ix
 | .index t x ix=>kIX tt t x ix
 | .lookup t x ix ok=>kLk tt t x ix ok
 | .mapUpdate t m k x=>kMu tt t m k x
 | .typeAssert x _ t ok=>kTa tt x t ok
 | .extract x n=>some (.ex n,[x])
 | .range t x=>kRgs tt t x
 | .next it str=>Bool.rec (some (.nxm,[it])) (some (.nxs,[it])) str
 | .entry it=>some (.enm,[it])
 | .call c=>match c.callee with
  | .builtin b=>kBi tt b c.argTypes.toList c.args.toList
  | _=>none
 | _=>none
section
variable {P : Program} {B : Bs} {μ : M} {h : H} {w : World} {tt : TT}
set_option maxHeartbeats 4000000 in
theorem G6z (hT : TTok P tt) (r : HR B μ h w) {o : Oper} {k : K} {xs : List Operand} (hk : U0f tt o.op = some (k,xs)) {ρ : Operand → Value} (hρ : ∀ v,ρ (.const v) = v) {l : List V} (hv : VRs μ l (xs.map ρ)) {v : V} {h' : H} (he : opK k h l = some (v,h')) :
  RunsN P B μ h w (execOp ρ o) v h':=by
 obtain ⟨dst,op,type,pos,after,guard⟩:=o
 simp only at hk
 cases op <;> simp only [U0f] at hk <;> try (cases hk; done)
 case move x =>
  simp only [Option.some.injEq,Prod.mk.injEq] at hk
  obtain ⟨rfl,rfl⟩:=hk
  obtain ⟨a,rfl,ha⟩:=J7p hv
  simp only [opK,mvF,J5e,ldF,stF,U8o,U9k,eqF,U8m,U8n,U9e,U9c,U9b,sbF,bsF,U8r,U8s,faF,flF,iaF,ixF,U8i,U8k,U8j,U9i,J2r,U9j,U9h,U8p,U8q,saF,U8y,U8w,U8x,U8v,U9g,U9l,U9d,U8t,U9a,lkF,muF,taF,exF,Option.some.injEq,Prod.mk.injEq] at he
  obtain ⟨rfl,rfl⟩:=he
  exact RunsN.pure r ha
 case assign x =>
  simp only [Option.some.injEq,Prod.mk.injEq] at hk
  obtain ⟨rfl,rfl⟩:=hk
  obtain ⟨a,rfl,ha⟩:=J7p hv
  simp only [opK,mvF,J5e,ldF,stF,U8o,U9k,eqF,U8m,U8n,U9e,U9c,U9b,sbF,bsF,U8r,U8s,faF,flF,iaF,ixF,U8i,U8k,U8j,U9i,J2r,U9j,U9h,U8p,U8q,saF,U8y,U8w,U8x,U8v,U9g,U9l,U9d,U8t,U9a,lkF,muF,taF,exF,Option.some.injEq,Prod.mk.injEq] at he
  obtain ⟨rfl,rfl⟩:=he
  exact RunsN.pure r ha
 case pick c a b =>
  simp only [Option.some.injEq,Prod.mk.injEq] at hk
  obtain ⟨rfl,rfl⟩:=hk
  obtain ⟨p,q,s,rfl,hp,hq,hs⟩:=ops3 hv
  obtain ⟨h8,rfl⟩:=J0i he
  cases p <;> simp only [pickV] at h8 <;> try (cases h8; done)
  rename_i bb
  simp only [Option.some.injEq] at h8; subst h8
  rw [VR.b_iff] at hp
  refine ⟨⟨.value (if bb then ρ a else ρ b),if bb then ρ a else ρ b,w,μ,?_,.inl rfl,?_,r,Ext.refl _ _ _⟩⟩
  ·show (do pure (.value (if ← asBool (ρ c) then ρ a else ρ b)) : Sem Next).run P w = _
   rw [hp]; rfl
  ·cases bb
   ·exact hs
   ·exact hq
 case alloc e=>exact U7i hT r hk hv he
 case box e x =>
  simp only [Option.some.injEq,Prod.mk.injEq] at hk
  obtain ⟨rfl,rfl⟩:=hk
  obtain ⟨a,rfl,ha⟩:=J7p hv
  exact (G8k r ha he).n
 case build t parts =>
  have e : (parts.map fun (x : Nat × Operand)=>(x.1,ρ x.2)) = (parts.toList.map fun p=>(p.1,ρ p.2)).toArray:=by apply Array.ext'; simp
  show RunsN P B μ h w (do pure (.value (← Instr.build t (parts.map fun (i,x)=>(i,ρ x))))) v h'
  have:=U7h hT r hk hv he
  rw [← e] at this
  exact this
 case buildSlice t len parts =>
  have e : (parts.map fun (x : Nat × Operand)=>(x.1,ρ x.2)) = (parts.toList.map fun p=>(p.1,ρ p.2)).toArray:=by apply Array.ext'; simp
  show RunsN P B μ h w (do pure (.value (← Instr.buildSlice t len (parts.map fun (i,x)=>(i,ρ x))))) v h'
  have:=W4u hT r hk hv he
  rw [← e] at this
  exact this
 case insert t m k x=>exact U7f hT r hk hv he
 case load t a=>exact W0b hT r hk hv he
 case store t a x=>exact U7e hT r hk hv he
 case nilCheck x =>
  simp only [Option.some.injEq,Prod.mk.injEq] at hk
  obtain ⟨rfl,rfl⟩:=hk
  obtain ⟨a,rfl,ha⟩:=J7p hv
  obtain ⟨h8,rfl⟩:=J0i he
  obtain ⟨z,g1,g2⟩:=G0w (P:=P) (w:=w) ha h8 (ρ:=ρ) (o:=⟨dst,.nilCheck x,type,pos,after,guard⟩) rfl rfl
  exact ⟨⟨.value z,z,w,μ,g1,.inl rfl,g2,r,Ext.refl _ _ _⟩⟩
 case binOp op t x y yt=>exact W4v hT r hk hv he
 case unOp op t x=>exact G1k r hk hv he
 case convert s d x=>exact G1v hT r hk hv he
 case sliceToArrayPointer t x=>exact G1o hT r hk hv he
 case makeInterface t x=>exact W4n hT r hk hv he
 case makeFunc f a c =>
  simp only [Option.some.injEq,Prod.mk.injEq] at hk
  obtain ⟨rfl,rfl⟩:=hk
  simp only [opK,mvF,J5e,ldF,stF,U8o,U9k,eqF,U8m,U8n,U9e,U9c,U9b,sbF,bsF,U8r,U8s,faF,flF,iaF,ixF,U8i,U8k,U8j,U9i,J2r,U9j,U9h,U8p,U8q,saF,U8y,U8w,U8x,U8v,U9g,U9l,U9d,U8t,U9a,lkF,muF,taF,exF,Option.some.injEq,Prod.mk.injEq] at he
  obtain ⟨rfl,rfl⟩:=he
  refine (Runs.same r (s:=Instr.makeFunc f (a.map ρ) (c.map ρ)) (y:=.func f (a.map ρ) (c.map ρ)) rfl ?_).n
  simp only [VR]
  refine ⟨_,_,rfl,?_,?_⟩
  ·have:=hv.take a.toList.length
   rw [List.map_append] at this
   have e : ((List.map ρ a.toList ++ List.map ρ c.toList).take a.toList.length) = (a.map ρ).toList:=by simp
   rw [e] at this; exact this
  ·have:=hv.drop a.toList.length
   rw [List.map_append] at this
   have e : ((List.map ρ a.toList ++ List.map ρ c.toList).drop a.toList.length) = (c.map ρ).toList:=by simp
   rw [e] at this; exact this
 case makeMap t a=>exact W4m hT r hk hρ hv he
 case makeSlice t a c=>exact W4l hT r hk hv he
 case slice t x lo hi mx=>exact G1n hT r hk hv he
 case fieldAddr t x f=>exact G1t hT r hk hv he
 case field t x f=>exact G1s hT r hk hv he
 case indexAddr t x ix=>exact G1r hT r hk hv he
 case index t x ix=>exact G1q hT r hk hv he
 case lookup t x ix ok=>exact G1p hT r hk hv he
 case mapUpdate t m k x=>exact U7f hT r hk hv he
 case typeAssert x xt t ok=>exact G1l hT r hk hv he
 case range t x =>
  simp only [kRgs,Option.bind_eq_some_iff] at hk
  obtain ⟨⟨d,i⟩,h1,h3⟩:=hk
  cases d <;> simp only at h3 <;> try (cases h3; done)
  ·simp only [Option.some.injEq,Prod.mk.injEq] at h3
   obtain ⟨rfl,rfl⟩:=h3
   obtain ⟨a,rfl,ha⟩:=J7p hv
   exact (W9u r (hT _ _ _ h1).1 ha he).n
  ·simp only [Option.some.injEq,Prod.mk.injEq] at h3
   obtain ⟨rfl,rfl⟩:=h3
   obtain ⟨a,rfl,ha⟩:=J7p hv
   exact (W9v r (hT _ _ _ h1).1 ha he).n
 case next it str =>
  cases str <;> simp only at hk
  ·simp only [Option.some.injEq,Prod.mk.injEq] at hk
   obtain ⟨rfl,rfl⟩:=hk
   obtain ⟨a,rfl,ha⟩:=J7p hv
   exact (G0s r ha he).n
  simp only [Option.some.injEq,Prod.mk.injEq] at hk
  obtain ⟨rfl,rfl⟩:=hk
  obtain ⟨a,rfl,ha⟩:=J7p hv
  exact (G0r r ha he).n
 case entry it =>
  simp only [Option.some.injEq,Prod.mk.injEq] at hk
  obtain ⟨rfl,rfl⟩:=hk
  obtain ⟨a,rfl,ha⟩:=J7p hv
  obtain ⟨h8,rfl⟩:=J0i he
  exact RunsN.one r (G2s r ha h8)
 case extract x n =>
  simp only [Option.some.injEq,Prod.mk.injEq] at hk
  obtain ⟨rfl,rfl⟩:=hk
  obtain ⟨a,rfl,ha⟩:=J7p hv
  obtain ⟨h8,rfl⟩:=J0i he
  exact RunsN.one r (G8b ha h8)
 case call c =>
  cases hc : c.callee <;> rw [hc] at hk <;> simp only at hk <;> try (cases hk; done)
  rename_i b
  have hb:=G1x (cs:=c.args.map fun | .const _=>true | _=>false) (ty:=type) hT r hk hv he
  have e : execOp ρ ⟨dst,.call c,type,pos,after,guard⟩ = builtin b c.argTypes type (c.args.map fun | .const _=>true | _=>false) (c.args.map ρ):=by
   show (do let d ← resolve ρ c type; invoke d.target d.args : Sem Next) = _
   unfold resolve
   rw [hc]; rfl
  rw [e]; exact hb
end
end Go.X
namespace Go.X
open Go.RowKit
structure TK (trk : Nat → Option S) : Prop where
 inj : ∀ s t x,trk s = some x → trk t = some x → s = t
 ok : ∀ t x,trk t = some x → x.ok
inductive Od where
 | c (v : V) | t (s : S) | r (k : Nat)
def nth (l : List V) : Nat → V :=
 List.rec (motive:=fun _=>Nat → V) (fun _=>.u) (fun x _ ih k=>Nat.rec x (fun k _=>ih k) k) l
def odV (res : List V) (env : E) (o : Od) : V :=
 match o with
 | .c v=>v
 | .t s=>rdS s env
 | .r k=>nth res k
def idx (defs : List (Option Nat)) (t : Nat) : Option Nat :=
 List.rec (motive:=fun _=>Option Nat) none (fun d _ ih=>match d with
  | some d=>Bool.rec (match ih with | some k=>some (Nat.succ k) | none=>none) (some 0) (Nat.beq d t)
  | none=>match ih with | some k=>some (Nat.succ k) | none=>none) defs
def J4l (trk : Nat → Option S) (t : Nat) : Od:=match trk t with | some s=>.t s | none=>.c .u
def U1r (trk : Nat → Option S) (defs : List (Option Nat)) (t : Nat) : Od :=
 match idx defs t with
 | some k=>.r k
 | none=>J4l trk t
def J2c (trk : Nat → Option S) (defs : List (Option Nat)) (o : Operand) : Od :=
 match o with
 | .tmp t=>U1r trk defs t
 | .const v=>match vOf 100 v with | some v=>.c v | none=>.c .u
 | .func f=>.c (.fn (.func f) [] [])
 | .global _=>.c .u
section
variable {P : Program} {B : Bs} {μ μ' : M} {h : H} {w : World} {tt : TT} {trk : Nat → Option S} {defs : List (Option Nat)} {res : List V} {env : E} {a : Act} {N : Nat}
structure SR (μ : M) (trk : Nat → Option S) (N : Nat) (defs : List (Option Nat)) (res : List V) (env : E) (a : Act) : Prop where
 val : ∀ t,VR μ (odV res env (U1r trk defs t)) (a.eval (.tmp t))
 size : a.tmps.size = N
theorem SR.mono (hs : SR μ trk N defs res env a) (hm : M.le μ μ') : SR μ' trk N defs res env a:=⟨fun t=>VR.mono hm _ _ (hs.val t),hs.size⟩
theorem SR.op (hs : SR μ trk N defs res env a) (o : Operand) : VR μ (odV res env (J2c trk defs o)) (a.eval o):=by
 cases o with
 | tmp t=>exact hs.val t
 | const v =>
  simp only [J2c]
  cases hv : vOf 100 v with
  | none=>exact VR.u _
  | some x=>exact J6g _ _ _ hv
 | global g=>exact VR.u _
 | func f =>
  simp only [J2c,odV,VR]
  exact ⟨#[],#[],rfl,VRs.nil_iff.2 rfl,VRs.nil_iff.2 rfl⟩
theorem SR.ops (hs : SR μ trk N defs res env a) : ∀ (os : List Operand),VRs μ ((os.map (J2c trk defs)).map (odV res env)) (os.map a.eval)
 | []=>VRs.nil_iff.2 rfl
 | o::os=>VRs.cons_mk (hs.op o) (SR.ops hs os)
theorem J6x (d : Nat) (defs : List (Option Nat)) (t : Nat) : idx (some d::defs) t = Bool.rec (match idx defs t with | some k=>some (Nat.succ k) | none=>none) (some 0) (Nat.beq d t):=rfl
theorem J6y (defs : List (Option Nat)) (t : Nat) : idx (none::defs) t = match idx defs t with | some k=>some (Nat.succ k) | none=>none:=rfl
theorem J3p (v : V) (t : Nat) : odV (v::res) env (match (match idx defs t with | some k=>some (Nat.succ k) | none=>none : Option Nat) with | some k=>.r k | none=>J4l trk t) = odV res env (U1r trk defs t):=by
 unfold U1r
 cases idx defs t with
 | none=>show odV (v::res) env (J4l trk t) = odV res env (J4l trk t); unfold J4l; cases trk t <;> rfl
 | some k=>rfl
theorem U4p (a : Act) (d : Option Nat) (y : Value) : (a.put d y).tmps.size = a.tmps.size:=by
 cases d <;> simp [Act.put]
theorem J3o (a : Act) (d : Option Nat) (y : Value) : (a.put d y).defers = a.defers:=by
 cases d <;> rfl
theorem SR.put (hs : SR μ trk N defs res env a) {v : V} {y : Value} (hv : VR μ v y) {d : Option Nat} (hd : ∀ t,d = some t → t < N) : SR μ trk N (d::defs) (v::res) env (a.put d y):=by
 refine ⟨fun t=>?_,by rw [U4p]; exact hs.size⟩
 cases d with
 | none =>
  show VR μ (odV (v::res) env (match idx (none::defs) t with | some k=>.r k | none=>J4l trk t)) (a.eval (.tmp t))
  rw [J6y,J3p]
  exact hs.val t
 | some d =>
  show VR μ (odV (v::res) env (match idx (some d::defs) t with | some k=>.r k | none=>J4l trk t)) _
  rw [J6x]
  cases hb : Nat.beq d t
  ·have hne : d ≠ t:=by intro e; rw [e,Nat.beq_refl] at hb; cases hb
   have e : (a.put (some d) y).eval (.tmp t) = a.eval (.tmp t):=Act.eval_put fun d' hd' e=>by cases hd'; cases e; exact hne rfl
   rw [e]
   simp only
   rw [J3p]
   exact hs.val t
  ·have:=Nat.eq_of_beq_eq_true hb; subst this
   have e : (a.put (some d) y).eval (.tmp d) = y:=by
    show (a.tmps.setIfInBounds d y).getD d undef = y
    have : d < a.tmps.size:=by rw [hs.size]; exact hd d rfl
    simp [Array.getD,this]
   rw [e]; exact hv
theorem SR.putUn (hs : SR μ trk N defs res env a) {d : Option Nat} : SR μ trk N (d::defs) (.tu []::res) env (a.put d undef):=by
 have hun : VR μ (.tu []) undef:=by simp only [VR]; exact ⟨#[],rfl,VRs.nil_iff.2 rfl⟩
 refine ⟨fun t=>?_,by rw [U4p]; exact hs.size⟩
 cases d with
 | none =>
  show VR μ (odV (.tu []::res) env (match idx (none::defs) t with | some k=>.r k | none=>J4l trk t)) (a.eval (.tmp t))
  rw [J6y,J3p]
  exact hs.val t
 | some d =>
  show VR μ (odV (.tu []::res) env (match idx (some d::defs) t with | some k=>.r k | none=>J4l trk t)) _
  rw [J6x]
  cases hb : Nat.beq d t
  ·have hne : d ≠ t:=by intro e; rw [e,Nat.beq_refl] at hb; cases hb
   have e : (a.put (some d) undef).eval (.tmp t) = a.eval (.tmp t):=Act.eval_put fun d' hd' e=>by cases hd'; cases e; exact hne rfl
   rw [e]
   simp only
   rw [J3p]
   exact hs.val t
  ·have:=Nat.eq_of_beq_eq_true hb; subst this
   have e : (a.put (some d) undef).eval (.tmp d) = undef:=by
    show (a.tmps.setIfInBounds d undef).getD d undef = undef
    by_cases hlt : d < a.tmps.size
    ·simp [Array.getD,hlt]
    ·simp [Array.getD,hlt]
   rw [e]; exact hun
def wbk (trk : Nat → Option S) (defs : List (Option Nat)) (res : List V) (env : E) : E :=
 List.rec (motive:=fun _=>List V → E) (fun _=>env) (fun d _ ih res=>match d with
  | some t=>match trk t with
   | some s=>wrS s (res.headD .u) (ih res.tail)
   | none=>ih res.tail
  | none=>ih res.tail) defs res
theorem U4g (hN : TK trk) : ∀ (defs : List (Option Nat)) (res : List V),defs.length = res.length → ∀ t s,trk t = some s → rdS s (wbk trk defs res env) = odV res env (U1r trk defs t)
 | [],[],_,t,s,ht=>by
  show _ = odV [] env (J4l trk t)
  unfold J4l
  rw [ht]; rfl
 | [],_::_,h,_,_,_=>by simp at h
 | _::_,[],h,_,_,_=>by simp at h
 | none::defs,v::res,h,t,s,ht=>by
  have ih:=U4g hN defs res (by simpa using h) t s ht
  show rdS s (wbk trk defs res env) = odV (v::res) env (match idx (none::defs) t with | some k=>.r k | none=>J4l trk t)
  rw [J6y,J3p]; exact ih
 | some d::defs,v::res,h,t,s,ht=>by
  have ih:=U4g hN defs res (by simpa using h) t s ht
  show rdS s (match trk d with | some s=>wrS s v (wbk trk defs res env) | none=>wbk trk defs res env) = odV (v::res) env (match idx (some d::defs) t with | some k=>.r k | none=>J4l trk t)
  rw [J6x]
  cases hb : Nat.beq d t
  ·have hne : d ≠ t:=by intro e; rw [e,Nat.beq_refl] at hb; cases hb
   simp only
   rw [J3p]
   cases hd : trk d with
   | none=>exact ih
   | some s' =>
    simp only
    rw [W1m (hN.ok _ _ hd)]
    ·exact ih
    ·intro e; exact hne (hN.inj _ _ _ hd (by rw [e]; exact ht))
  ·have:=Nat.eq_of_beq_eq_true hb; subst this
   rw [ht]
   simp only
   rw [U2t (hN.ok _ _ ht)]; rfl
theorem SR.close (hN : TK trk) (hs : SR μ trk N defs res env a) (hl : defs.length = res.length) : SR μ trk N [] [] (wbk trk defs res env) a:=by
 refine ⟨fun t=>?_,hs.size⟩
 show VR μ (odV [] _ (J4l trk t)) _
 cases ht : trk t with
 | none=>unfold J4l; rw [ht]; exact VR.u _
 | some s =>
  have e : odV [] (wbk trk defs res env) (J4l trk t) = rdS s (wbk trk defs res env):=by unfold J4l; rw [ht]; rfl
  rw [e,U4g hN defs res hl t s ht]
  exact hs.val t
end
end Go.X
namespace Go.X
open Go.RowKit
inductive RK where
 | op (k : K) | call (f : Nat) | clo | pan | bad
structure AO where
 g : Option (Od × Bool)
 k : RK
 xs : List Od
section compile
variable (tt : TT) (trk : Nat → Option S) (N : Nat) (all : List Oper)
def J7w (op : Op) : RK × List Operand :=
 match op with
 | .call c=>match c.callee with
  | .value f=>match f with
   | .func f=>(.call f,c.args.toList)
   | x=>(.clo,x::c.args.toList)
  | .builtin b=>match kBi tt b c.argTypes.toList c.args.toList with
   | some (k,xs)=>(.op k,xs)
   | none=>(.bad,[])
  | .invoke _ _=>(.bad,[])
 | .panic x=>(.pan,[x])
 | op=>match U0f tt op with
  | some (k,xs)=>(.op k,xs)
  | none=>(.bad,[])
def J3f (defs : List (Option Nat)) (g : Option (Nat × Bool)) : Option (Od × Bool) :=
 match g with
 | none=>none
 | some (j,want)=>match all[j]? with
  | some o=>match o.dst with
   | some t=>some (U1r trk defs t,want)
   | none=>some (.c .u,want)
  | none=>some (.c .u,want)
def J0t (o : Oper) : RK × List Operand :=
 match o.dst with
 | none=>J7w tt o.op
 | some d=>Bool.rec (.bad,[]) (J7w tt o.op) (Nat.ble (d + 1) N)
def U0u (defs : List (Option Nat)) (o : Oper) (x : RK × List Operand) : AO:=⟨J3f trk all defs o.guard,x.1,x.2.map (J2c trk defs)⟩
def J1t (os : List Oper) : List (Option Nat) → List AO :=
 List.rec (motive:=fun _=>List (Option Nat) → List AO) (fun _=>[]) (fun o _ ih defs=>U0u trk all defs o (J0t tt N o)::ih (o.dst::defs)) os
end compile
def J0f (os : List Oper) : List (Option Nat) → List (Option Nat) :=
 List.rec (motive:=fun _=>List (Option Nat) → List (Option Nat)) (fun defs=>defs) (fun o _ ih defs=>ih (o.dst::defs)) os
inductive RC where
 | ok (v : V) (h : H) | pn (v : V) (h : H) | bad
structure FC where
 call : Nat → List V → H → RC
 yl : Nat → List V → H → RC
 ent : Nat → Bool
 pur : Nat → Bool
inductive RL where
 | ok (l : List V) (h : H) | pn (v : V) (h : H) | bad
def rcO (x : Option (V × H)) : RC:=match x with | some (v,h)=>.ok v h | none=>.bad
def ocR (x : RC) : Option (V × H):=match x with | .ok v h=>some (v,h) | _=>none
section run
variable (fc : FC) (env : E)
def J6c (k : RK) (l : List V) (h : H) : RC :=
 match k with
 | .op k=>rcO (opK k h l)
 | .call f=>fc.call f l h
 | .clo=>match l with
  | f::l=>match f with
   | .fn g a c=>match g with | .func g=>fc.call g (a ++ (l ++ c)) h | _=>.bad
   | .yl b=>fc.yl b l h
   | _=>.bad
  | []=>.bad
 | .pan=>match l with
  | [x]=>match x with | .ifc t y=>.pn (.ifc t y) h | _=>.bad
  | _=>.bad
 | .bad=>.bad
def W4e (k : RK) (l : List V) (h : H) : Option (V × H):=ocR (J6c fc k l h)
def U5s (l : List AO) : List V → H → RL :=
 List.rec (motive:=fun _=>List V → H → RL) (fun res h=>.ok res h) (fun o _ ih res h =>
  match o.g with
  | none=>match J6c fc o.k (o.xs.map (odV res env)) h with
   | .ok v h=>ih (v::res) h
   | .pn v h=>.pn v h
   | .bad=>.bad
  | some (g,want)=>match odV res env g with
   | .tu _=>ih (.tu []::res) h
   | .b b=>Bool.rec (ih (.tu []::res) h) (match J6c fc o.k (o.xs.map (odV res env)) h with
    | .ok v h=>ih (v::res) h
    | .pn v h=>.pn v h
    | .bad=>.bad) (eqB b want)
   | _=>.bad) l
end run
abbrev FW (ro : Option Nat) : Fence:={ Fence.wide with round:=ro }
abbrev chn (y : Value) : List PanicEntry:=[{ v:=y,recovered:=false }]
def G4i (B : Bs) (μ : M) (h : H) (w : World) (x : RC) (e : Ending) (w' : World) : Prop :=
 match x with
 | .ok v h'=>∃ y μ',e = .returned y ∧ VR μ' v y ∧ HR B μ' h' w' ∧ Ext μ h w μ' h' w'
 | .pn v h'=>∃ y μ',e = .panicked (chn y) ∧ VR μ' v y ∧ HR B μ' h' w' ∧ Ext μ h w μ' h' w'
 | .bad=>False
def CallOK (P : Program) (B : Bs) (f : Nat) (vs : List V) (h : H) (x : RC) : Prop :=
 ((∃ fn c, P.funcs[f]? = some fn ∧ (fn.name == "runtime.NumGoroutine") = false ∧ fn.body = some c) ∧
  ∀ μ w (args : Array Value),HR B μ h w → VRs μ vs args.toList → Calls P f args w (G4i B μ h w x)) ∨
 ∃ v h',x = .ok v h' ∧ ∀ μ w (args : Array Value),HR B μ h w → VRs μ vs args.toList → ∃ y w' μ',(callFunc f args).run P w = .ok (.value y) w' ∧ VR μ' v y ∧ HR B μ' h' w' ∧ Ext μ h w μ' h' w'
def G4e (P : Program) (B : Bs) (b : Nat) (vs : List V) (h : H) (x : RC) : Prop :=
 ∀ μ w (args : Array Value) g q,HR B μ h w → VRs μ vs args.toList → μ b = some (g,q) →
  ∃ l f tmps assign body,(Instr.yield g args).run P w = .ok (.round l f tmps assign body) w ∧ RoundIn Fence.wide 0 P l f tmps assign body w (G4i B μ h w x)
structure FOK (P : Program) (B : Bs) (fc : FC) : Prop where
 call : ∀ f vs h,fc.call f vs h ≠ .bad → CallOK P B f vs h (fc.call f vs h)
 yl : ∀ b vs h,fc.yl b vs h ≠ .bad → G4e P B b vs h (fc.yl b vs h)
 pni : ∀ f vs h v h',fc.call f vs h = .pn v h' ∨ fc.yl f vs h = .pn v h' → ∃ t y,v = .ifc t y
 ent : ∀ f, fc.ent f = true → ∃ fn c, P.funcs[f]? = some fn ∧ (fn.name == "runtime.NumGoroutine") = false ∧ fn.body = some c
 pur : ∀ f vs h v h',fc.pur f = true → fc.call f vs h = .ok v h' → h' = h
section
variable {P : Program} {B : Bs} {μ μ' : M} {h : H} {w : World} {tt : TT} {trk : Nat → Option S} {defs : List (Option Nat)} {res : List V} {env : E} {a : Act} {N : Nat} {fc : FC}
 {ops : Array Oper} {Q : Exit → Act → World → Prop} {ro : Option Nat}
theorem U3k (a : Act) (v : Value) : a.eval (.const v) = v:=rfl
theorem J2j {f : FuncId} {fn : Func} {c : Code} (hf : P.funcs[f]? = some fn) (hname : (fn.name == "runtime.NumGoroutine") = false) (hb : fn.body = some c) (args : Array Value) (w : World) :
  (callFunc f args).run P w = .ok (.enter f args) w:=by
 have h1 : fn.name ≠ "runtime.NumGoroutine" := by simpa using hname
 simp [callFunc,hf,h1,hb]
theorem Q3a {f : FuncId} {args : Array Value} {R : Ending → World → Prop} {n : Nat} (h : Calls P f args w R) : CallsIn (FW ro) n P f args w R :=
 (callsIn_wide.2 h : CallsIn Fence.wide n P f args w R)
theorem roundX {l : Nat} {f : FuncId} {tmps : Array Value} {assign body : Code} {R : Ending → World → Prop} (h : RoundIn Fence.wide 0 P l f tmps assign body w R) : RoundIn (FW ro) 0 P l f tmps assign body w R:=h
theorem wpX {o : Oper} {K : Act → World → Prop} (hd : ∀ c,o.op ≠ .defer c) (h : o.uponIn (FW ro) 0 P a K Q ((execOp a.eval o).run P w)) : o.wpIn (FW ro) 0 P a w K Q:=by
 refine ⟨fun _ _=>trivial,?_⟩
 rw [Oper.semAt_eq _ _ _ hd]; exact h
def W5j (B : Bs) (μ : M) (h : H) (w : World) (a : Act) (o : Oper) (K : Act → World → Prop) (Q : Exit → Act → World → Prop) : RC → Prop
 | .ok v h'=>∀ y w' μ',VR μ' v y → HR B μ' h' w' → Ext μ h w μ' h' w' → K (a.put o.dst y) w'
 | .pn v h'=>∀ y w' μ',VR μ' v y → HR B μ' h' w' → Ext μ h w μ' h' w' → Q (.panic (chn y)) a w'
 | .bad=>False
theorem G7h {o : Oper} {l : List V} (he : J6c fc (J7w tt o.op).1 l h ≠ .bad) : ∀ c,o.op ≠ .defer c:=by
 intro c hc
 rw [hc] at he
 exact he rfl
theorem U2r (hT : TTok P tt) (hF : FOK P B fc) (r : HR B μ h w) {o : Oper} {l : List V} (hv : VRs μ l ((J7w tt o.op).2.map a.eval))
  {K : Act → World → Prop} (hK : W5j B μ h w a o K Q (J6c fc (J7w tt o.op).1 l h)) : o.wpIn (FW ro) 0 P a w K Q:=by
 have hne : J6c fc (J7w tt o.op).1 l h ≠ .bad:=by intro e; rw [e] at hK; exact hK
 refine wpX (G7h hne) ?_
 have hop : ∀ k xs,U0f tt o.op = some (k,xs) → VRs μ l (xs.map a.eval) → W5j B μ h w a o K Q (rcO (opK k h l)) → o.uponIn (FW ro) 0 P a K Q ((execOp a.eval o).run P w):=by
  intro k xs hk hv hK
  cases he : opK k h l with
  | none=>rw [he] at hK; exact hK.elim
  | some vh =>
   obtain ⟨v,h'⟩:=vh
   rw [he] at hK
   obtain ⟨n,y,w',μ',h1,h2,h3,h4,h5⟩:=(G6z hT r hk (U3k a) hv he).ex
   rw [h1]
   rcases h2 with rfl | ⟨rfl,rfl⟩
   ·exact hK y w' μ' h3 h4 h5
   ·exact hK undef w' μ' h3 h4 h5
 have hend : ∀ (x : RC) (e : Ending) (w' : World),W5j B μ h w a o K Q x → G4i B μ h w x e w' → (match e with
   | .returned v=>K (a.put o.dst v) w'
   | .panicked chain=>Q (.panic chain) a w'
   | .outgrown=>LetsOut Q):=by
  intro x e w' hK he
  cases x with
  | ok v h'=>obtain ⟨y,μ',rfl,h3,h4,h5⟩:=he; exact hK y w' μ' h3 h4 h5
  | pn v h'=>obtain ⟨y,μ',rfl,h3,h4,h5⟩:=he; exact hK y w' μ' h3 h4 h5
  | bad=>exact hK.elim
 have hcall : ∀ f vs (args : Array Value),W5j B μ h w a o K Q (fc.call f vs h) → VRs μ vs args.toList → (execOp a.eval o).run P w = (callFunc f args).run P w → o.uponIn (FW ro) 0 P a K Q ((execOp a.eval o).run P w):=by
  intro f vs args hK hv hr
  have hne : fc.call f vs h ≠ .bad:=by intro e; rw [e] at hK; exact hK
  rcases hF.call _ _ _ hne with ⟨⟨fn,c,g1,g2,g3⟩,g4⟩ | ⟨v,h',g0,g4⟩
  ·rw [hr,J2j g1 g2 g3]
   refine ⟨fun e=>absurd e (by simp [FW,Fence.wide]),?_⟩
   refine CallsIn.mono (Q3a (g4 μ w args r hv)) ?_
   intro e w' he
   have:=hend _ e w' hK he
   cases e <;> exact this
  ·obtain ⟨y,w',μ',h2,h3,h4,h5⟩:=g4 μ w args r hv
   rw [g0] at hK
   rw [hr,h2]
   exact hK y w' μ' h3 h4 h5
 obtain ⟨dst,op,type,pos,after,guard⟩:=o
 cases op
 case panic x =>
  simp only [J7w] at hv hK
  rcases l with _ | ⟨v,_ | ⟨v2,l⟩⟩
  ·exact hK.elim
  ·cases v <;> try exact hK.elim
   rename_i t y
   obtain ⟨z,zs,e,hz,_⟩:=VRs.cons_iff.1 hv
   simp only [List.map_cons,List.map_nil,List.cons.injEq] at e
   have hz':=hz
   rw [← e.1] at hz
   simp only [VR] at hz
   obtain ⟨y0,e1,e2⟩:=hz
   have hrun : (execOp a.eval ⟨dst,.panic x,type,pos,after,guard⟩).run P w = .halt (.panic (.iface t y0)) w:=by
    show ((do pure (.value (← Instr.panic (a.eval x))) : Sem Next)).run P w = _
    rw [e1]; rfl
   rw [hrun]
   refine hK (.iface t y0) w μ ?_ r (Ext.refl _ _ _)
   rw [← e1,e.1]; exact hz'
  ·exact hK.elim
 case call c =>
  obtain ⟨callee,args,argTypes⟩:=c
  cases callee with
  | invoke x m=>simp only [J7w] at hK; exact hK.elim
  | builtin b =>
   simp only [J7w] at hK hv
   cases hb : kBi tt b argTypes.toList args.toList with
   | none=>rw [hb] at hK; exact hK.elim
   | some kx =>
    obtain ⟨k,xs⟩:=kx
    rw [hb] at hK hv
    exact hop k xs hb hv hK
  | value f =>
   have hclo : VRs μ l ((f::args.toList).map a.eval) → W5j B μ h w a ⟨dst,.call ⟨.value f,args,argTypes⟩,type,pos,after,guard⟩ K Q (J6c fc .clo l h) → Oper.uponIn (FW ro) 0 P ⟨dst,.call ⟨.value f,args,argTypes⟩,type,pos,after,guard⟩ a K Q ((execOp a.eval ⟨dst,.call ⟨.value f,args,argTypes⟩,type,pos,after,guard⟩).run P w):=by
    intro hv hK
    cases l with
    | nil=>exact hK.elim
    | cons x l =>
     obtain ⟨y,ys,e,hf,hargs⟩:=VRs.cons_iff.1 hv
     simp only [List.map_cons,List.cons.injEq] at e
     rw [← e.1] at hf
     rw [← e.2] at hargs
     cases x with
     | fn g0 ca cc =>
      cases g0 with
      | func g =>
       simp only [VR] at hf
       obtain ⟨xs,ys,e1,e2,e3⟩:=hf
       refine hcall g _ (xs ++ args.map a.eval ++ ys) hK ?_ ?_
       ·have:=VRs.append e2 (VRs.append hargs e3)
        simpa using this
       ·show ((do let d ← resolve a.eval _ type; invoke d.target d.args : Sem Next)).run P w = _
        simp only [resolve,e1,Deferred.ofValue]
        rfl
      | _=>exact hK.elim
     | yl b =>
      simp only [VR] at hf
      obtain ⟨g,q,e1,e2⟩:=hf
      have hK2 : W5j B μ h w a ⟨dst,.call ⟨.value f,args,argTypes⟩,type,pos,after,guard⟩ K Q (fc.yl b l h):=hK
      have hne : fc.yl b l h ≠ .bad:=by intro e; rw [e] at hK2; exact hK2
      obtain ⟨l',f',tmps,assign,body,h1,h2⟩:=hF.yl b l h hne μ w (args.map a.eval) g q r (by simpa using hargs) e1
      have hrun : (execOp a.eval ⟨dst,.call ⟨.value f,args,argTypes⟩,type,pos,after,guard⟩).run P w = .ok (.round l' f' tmps assign body) w:=by
       show ((do let d ← resolve a.eval _ type; invoke d.target d.args : Sem Next)).run P w = _
       simp only [resolve,e2,Deferred.ofValue]
       rw [← h1]
       simp [Sem.run_bind,Sem.run_pure,invoke]
      rw [hrun]
      refine ⟨fun e=>absurd e (by simp [FW,Fence.wide]),?_⟩
      refine RoundIn.mono (roundX h2) ?_
      intro e w' he
      have:=hend _ e w' hK2 he
      cases e <;> exact this
     | _=>exact hK.elim
   cases f with
   | func f =>
    simp only [J7w] at hK hv
    refine hcall f _ (args.map a.eval) hK (by simpa using hv) ?_
    show ((do let d ← resolve a.eval _ type; invoke d.target d.args : Sem Next)).run P w = _
    simp [resolve,Deferred.ofValue,Act.eval,invoke]
   | _=>exact hclo hv hK
 all_goals
  simp only [J7w] at hK hv
  split at hK
  ·rename_i k xs hk
   rw [hk] at hv
   exact hop k xs hk hv hK
  ·exact hK.elim
theorem U2q (hT : TTok P tt) (hF : FOK P B fc) (r : HR B μ h w) {o : Oper} {l : List V} (hv : VRs μ l ((J7w tt o.op).2.map a.eval)) {v : V} {h' : H} (he : W4e fc (J7w tt o.op).1 l h = some (v,h'))
  {K : Act → World → Prop} (hK : ∀ y w' μ',VR μ' v y → HR B μ' h' w' → Ext μ h w μ' h' w' → K (a.put o.dst y) w') : o.wpIn (FW ro) 0 P a w K Q:=by
 refine U2r hT hF r hv ?_
 unfold W4e at he
 cases hx : J6c fc (J7w tt o.op).1 l h with
 | ok v1 h1=>rw [hx] at he; cases he; exact hK
 | _=>rw [hx] at he; cases he
theorem G0d {o : Oper} {l : List V} (he : J6c fc (J0t tt N o).1 l h ≠ .bad) : J0t tt N o = J7w tt o.op ∧ ∀ t,o.dst = some t → t < N:=by
 unfold J0t at he ⊢
 cases hdst : o.dst with
 | none=>exact ⟨rfl,by simp⟩
 | some d =>
  rw [hdst] at he
  simp only at he ⊢
  cases hb : Nat.ble (d + 1) N <;> rw [hb] at he
  ·exact absurd rfl he
  ·exact ⟨rfl,fun t ht=>by cases ht; exact Nat.le_of_ble_eq_true hb⟩
theorem U6j {o : Oper} {l : List V} {vh : V × H} (he : W4e fc (J0t tt N o).1 l h = some vh) : J0t tt N o = J7w tt o.op ∧ ∀ t,o.dst = some t → t < N :=
 G0d (by intro e; unfold W4e at he; rw [e] at he; cases he)
theorem U3h (hs : SR μ trk N defs res env a) {o : Oper} {g : Od} {want b : Bool} (hg : J3f trk ops.toList defs o.guard = some (g,want)) (hb : odV res env g = .b b) : Region.wanted o (yielded ops a.tmps) = (b == want):=by
 unfold J3f at hg
 cases hgd : o.guard with
 | none=>rw [hgd] at hg; cases hg
 | some jw =>
  obtain ⟨j,w0⟩:=jw
  rw [hgd] at hg
  simp only at hg
  cases ho : ops.toList[j]? with
  | none =>
   rw [ho] at hg
   simp only [Option.some.injEq,Prod.mk.injEq] at hg
   rw [← hg.1] at hb; cases hb
  | some oj =>
   rw [ho] at hg
   simp only at hg
   cases hd : oj.dst with
   | none =>
    rw [hd] at hg
    simp only [Option.some.injEq,Prod.mk.injEq] at hg
    rw [← hg.1] at hb; cases hb
   | some t =>
    rw [hd] at hg
    simp only [Option.some.injEq,Prod.mk.injEq] at hg
    obtain ⟨rfl,rfl⟩:=hg
    have hv:=hs.val t
    rw [hb,VR.b_iff] at hv
    have ho' : ops[j]? = some oj:=by simpa using ho
    have hy : yielded ops a.tmps j = some b:=by
     unfold yielded
     rw [ho']
     simp only [Option.bind_some,hd]
     have : a.tmps.getD t undef = .bool b:=hv
     unfold Array.getD at this
     split at this
     ·rename_i hlt
      rw [Array.getElem?_eq_getElem hlt]
      have e : a.tmps[t] = .bool b:=this
      rw [e]
     ·cases this
    unfold Region.wanted
    rw [hgd]
    simp only [hy]
    cases b <;> cases w0 <;> rfl
theorem W2g (hs : SR μ trk N defs res env a) {o : Oper} {g : Od} {want : Bool} {l : List V} (hg : J3f trk ops.toList defs o.guard = some (g,want)) (hb : odV res env g = .tu l) : Region.wanted o (yielded ops a.tmps) = false:=by
 unfold J3f at hg
 cases hgd : o.guard with
 | none=>rw [hgd] at hg; cases hg
 | some jw =>
  obtain ⟨j,w0⟩:=jw
  rw [hgd] at hg
  simp only at hg
  have hy : yielded ops a.tmps j = none:=by
   cases ho : ops.toList[j]? with
   | none =>
    have ho' : ops[j]? = none:=by simpa using ho
    unfold yielded; rw [ho']; rfl
   | some oj =>
    rw [ho] at hg
    simp only at hg
    have ho' : ops[j]? = some oj:=by simpa using ho
    cases hd : oj.dst with
    | none=>unfold yielded; rw [ho']; simp [hd]
    | some t =>
     rw [hd] at hg
     simp only [Option.some.injEq,Prod.mk.injEq] at hg
     obtain ⟨rfl,rfl⟩:=hg
     have hv:=hs.val t
     rw [hb] at hv
     simp only [VR] at hv
     obtain ⟨cs,e1,_⟩:=hv
     unfold yielded
     rw [ho']
     simp only [Option.bind_some,hd]
     have e2 : a.tmps.getD t undef = .tuple cs:=e1
     unfold Array.getD at e2
     split at e2
     ·rename_i hlt
      rw [Array.getElem?_eq_getElem hlt]
      have e3 : a.tmps[t] = .tuple cs:=e2
      rw [e3]
     ·rename_i hlt
      rw [Array.getElem?_eq_none (by omega)]
  unfold Region.wanted
  rw [hgd]
  simp only [hy]
  rfl
theorem J8d {o : Oper} (hg : J3f trk ops.toList defs o.guard = none) : Region.wanted o (yielded ops a.tmps) = true:=by
 unfold J3f at hg
 cases hgd : o.guard with
 | none=>unfold Region.wanted; rw [hgd]
 | some jw =>
  obtain ⟨j,w0⟩:=jw
  rw [hgd] at hg
  simp only at hg
  split at hg
  ·split at hg <;> cases hg
  ·cases hg
theorem J9r (o : AO) (l : List AO) (res : List V) (h : H) : U5s fc env (o::l) res h = (match o.g with
  | none=>match J6c fc o.k (o.xs.map (odV res env)) h with
   | .ok v h=>U5s fc env l (v::res) h
   | .pn v h=>.pn v h
   | .bad=>.bad
  | some (g,want)=>match odV res env g with
   | .tu _=>U5s fc env l (.tu []::res) h
   | .b b=>Bool.rec (U5s fc env l (.tu []::res) h) (match J6c fc o.k (o.xs.map (odV res env)) h with
    | .ok v h=>U5s fc env l (v::res) h
    | .pn v h=>.pn v h
    | .bad=>.bad) (eqB b want)
   | _=>.bad):=rfl
def wipe (trk : Nat → Option S) (D : List (Option Nat)) (env : E) : E:=wbk trk D (D.map fun _=>.u) env
theorem nth_u : ∀ (D : List (Option Nat)) (k : Nat),nth (D.map fun _=>V.u) k = .u
 | [],_=>rfl
 | _::_,0=>rfl
 | _::D,k + 1=>nth_u D k
theorem W0e {D : List (Option Nat)} {t : Nat} : ∀ {X : List (Option Nat)},idx (X ++ D) t = none → idx D t = none
 | [],h=>h
 | none::X,h=>by
  have h2 : (match idx (X ++ D) t with | some k=>some (Nat.succ k) | none=>none : Option Nat) = none:=h
  refine W0e (X:=X) ?_
  cases hx : idx (X ++ D) t with
  | none=>rfl
  | some k=>rw [hx] at h2; cases h2
 | some d::X,h=>by
  have h2 : Bool.rec (match idx (X ++ D) t with | some k=>some (Nat.succ k) | none=>none) (some 0) (Nat.beq d t) = (none : Option Nat):=h
  refine W0e (X:=X) ?_
  cases hb : Nat.beq d t <;> rw [hb] at h2
  ·cases hx : idx (X ++ D) t with
   | none=>rfl
   | some k=>rw [hx] at h2; cases h2
  ·cases h2
theorem SR.wipe (hN : TK trk) (hs : SR μ trk N defs res env a) {X : List (Option Nat)} : SR μ trk N [] [] (wipe trk (X ++ defs) env) a:=by
 refine ⟨fun t=>?_,hs.size⟩
 show VR μ (odV [] _ (J4l trk t)) _
 cases ht : trk t with
 | none=>unfold J4l; rw [ht]; exact VR.u _
 | some s =>
  have e : odV [] (Go.X.wipe trk (X ++ defs) env) (J4l trk t) = rdS s (Go.X.wipe trk (X ++ defs) env):=by unfold J4l; rw [ht]; rfl
  rw [e]
  unfold Go.X.wipe
  rw [U4g hN _ _ (by simp) t s ht]
  unfold U1r
  cases hi : idx (X ++ defs) t with
  | some k =>
   show VR μ (nth _ k) _
   rw [nth_u]; exact VR.u _
  | none =>
   have hv:=hs.val t
   unfold U1r at hv
   rw [W0e hi] at hv
   show VR μ (odV _ env (J4l trk t)) _
   have hv : VR μ (odV res env (J4l trk t)) (a.eval (.tmp t)):=hv
   unfold J4l at hv ⊢
   rw [ht] at hv ⊢
   exact hv
theorem U3r : ∀ (os : List Oper) (defs : List (Option Nat)),∃ X,J0f os defs = X ++ defs
 | [],defs=>⟨[],rfl⟩
 | o::os,defs=>by
  obtain ⟨X,h⟩:=U3r os (o.dst::defs)
  refine ⟨X ++ [o.dst],?_⟩
  show J0f os (o.dst::defs) = _
  rw [h]; simp
def EndL (Q : Exit → Act → World → Prop) (B : Bs) (trk : Nat → Option S) (N : Nat) (env : E) (D : List (Option Nat)) (μ : M) (h : H) (w : World) (df : List Deferred) : RL → Prop
 | .ok res' h'=>∀ a' w' μ',SR μ' trk N D res' env a' → D.length = res'.length → HR B μ' h' w' → Ext μ h w μ' h' w' → a'.defers = df → Q .normal a' w'
 | .pn v h'=>∀ a' w' μ' y,SR μ' trk N [] [] (wipe trk D env) a' → HR B μ' h' w' → Ext μ h w μ' h' w' → a'.defers = df → VR μ' v y → Q (.panic (chn y)) a' w'
 | .bad=>False
theorem EndL.mono {D : List (Option Nat)} {μ1 : M} {h1 : H} {w1 : World} {df : List Deferred} (he : Ext μ h w μ1 h1 w1) : ∀ {x : RL},EndL Q B trk N env D μ h w df x → EndL Q B trk N env D μ1 h1 w1 df x
 | .ok _ _,hr=>fun a' w' μ' g1 g2 g3 g4 g5=>hr a' w' μ' g1 g2 g3 (he.trans g4) g5
 | .pn _ _,hr=>fun a' w' μ' y g1 g2 g3 g4 g5=>hr a' w' μ' y g1 g2 (he.trans g3) g4 g5
 | .bad,hr=>hr
theorem J3n (hT : TTok P tt) (hF : FOK P B fc) (hN : TK trk) : ∀ (os : List Oper) (i : Nat) {defs : List (Option Nat)} {res : List V} {a : Act} {w : World} {μ : M} {h : H} {post : List Oper},ops.toList.drop i = os ++ post → SR μ trk N defs res env a → HR B μ h w →
  defs.length = res.length → EndL Q B trk N env (J0f os defs) μ h w a.defers (U5s fc env (J1t tt trk N ops.toList os defs) res h) → wpOpsIn (FW ro) 0 P ops Q (List.range' i os.length) a w
 | [],i,defs,res,a,w,μ,h,post,_,hs,r,hl,he=>by
  have he2 : EndL Q B trk N env defs μ h w a.defers (.ok res h):=he
  exact he2 a w μ hs hl r (Ext.refl _ _ _) rfl
 | o::os,i,defs,res,a,w,μ,h,post,hd,hs,r,hl,he=>by
  have hoi : ops[i]? = some o:=by
   have:=congrArg (fun l=>l[0]?) hd
   simpa using this
  have hd2 : ops.toList.drop (i + 1) = os ++ post:=by rw [← List.drop_drop,hd]; rfl
  have he2 : EndL Q B trk N env (J0f os (o.dst::defs)) μ h w a.defers (U5s fc env (U0u trk ops.toList defs o (J0t tt N o)::J1t tt trk N ops.toList os (o.dst::defs)) res h):=he
  rw [J9r] at he2
  simp only [U0u] at he2
  have hnext : EndL Q B trk N env (J0f os (o.dst::defs)) μ h w a.defers (match J6c fc (J0t tt N o).1 (((J0t tt N o).2.map (J2c trk defs)).map (odV res env)) h with
    | .ok v h=>U5s fc env (J1t tt trk N ops.toList os (o.dst::defs)) (v::res) h
    | .pn v h=>.pn v h
    | .bad=>.bad) → o.wpIn (FW ro) 0 P a w (wpOpsIn (FW ro) 0 P ops Q (List.range' (i + 1) os.length)) Q:=by
   intro hr1
   have hne : J6c fc (J0t tt N o).1 (((J0t tt N o).2.map (J2c trk defs)).map (odV res env)) h ≠ .bad:=by
    intro e; rw [e] at hr1; exact hr1
   obtain ⟨k1,k2⟩:=G0d hne
   rw [k1] at hr1
   refine U2r hT hF r (hs.ops _) ?_
   cases hx : J6c fc (J7w tt o.op).1 (((J7w tt o.op).2.map (J2c trk defs)).map (odV res env)) h with
   | ok v h1 =>
    rw [hx] at hr1
    intro y w' μ' hv r' e'
    refine J3n hT hF hN os (i + 1) hd2 ((hs.mono e'.le).put hv k2) r' (by simp [hl]) ?_
    rw [J3o]; exact EndL.mono e' hr1
   | pn v h1 =>
    rw [hx] at hr1
    intro y w' μ' hv r' e'
    obtain ⟨X,hX⟩:=U3r os (o.dst::defs)
    refine hr1 a w' μ' y ?_ r' e' rfl hv
    rw [hX,show X ++ o.dst::defs = (X ++ [o.dst]) ++ defs by simp]
    exact (hs.mono e'.le).wipe hN
   | bad=>rw [hx] at hr1; exact hr1.elim
  show wpOpsIn (FW ro) 0 P ops Q (i::List.range' (i + 1) os.length) a w
  unfold wpOpsIn
  simp only [hoi]
  cases hg : J3f trk ops.toList defs o.guard with
  | none =>
   rw [hg] at he2
   simp only at he2
   rw [if_pos (J8d hg)]
   exact hnext he2
  | some gw =>
   obtain ⟨g,want⟩:=gw
   rw [hg] at he2
   simp only at he2
   cases hb : odV res env g with
   | b b =>
    rw [hb] at he2
    simp only at he2
    rw [U3h hs hg hb]
    rw [J5n] at he2
    cases hw : (b == want)
    ·rw [hw] at he2
     simp only at he2
     rw [if_neg (by simp)]
     refine ⟨fun _ _=>trivial,?_⟩
     refine J3n hT hF hN os (i + 1) hd2 hs.putUn r (by simp [hl]) ?_
     rw [J3o]; exact he2
    ·rw [hw] at he2
     simp only at he2
     rw [if_pos rfl]
     exact hnext he2
   | tu l =>
    rw [hb] at he2
    simp only at he2
    rw [W2g hs hg hb]
    rw [if_neg (by simp)]
    refine ⟨fun _ _=>trivial,?_⟩
    refine J3n hT hF hN os (i + 1) hd2 hs.putUn r (by simp [hl]) ?_
    rw [J3o]; exact he2
   | _=>rw [hb] at he2; exact he2.elim
end
end Go.X
namespace Go.X
open Go.RowKit
def G4x (k : K) : Bool :=
 match k with
 | .st _ | .sb | .box | .alloc _ _ | .bsl _ _ _ | .mks _ _ _ | .mkm | .app _ _ _ | .cpy _ _ | .del _ | .mu _ | .rgs | .nxs | .rgm | .nxm | .cvM | .clr _ _ | .apz _ _ _=>true
 | _=>false
def J7d (k : RK) : Bool:=match k with | .op k=>G4x k | _=>true
def Q4v (k : K) : Bool :=
 match k with
 | .ld _ | .eq _ _ | .bs | .lnM | .lk _ _ _ | .enm=>false
 | _=>true
def slLp (size : Nat) (x : V) (lo hi mx : Option V) : Option V :=
 match slL size H.e x lo hi mx with
 | some (v,h)=>Bool.rec none (some v) (Nat.beq h.next 0)
 | none=>none
def unp (x : Option (V × H)) : Option V:=match x with | some (v,_)=>some v | none=>none
def qK (k : K) (h : H) (l : List V) : Option V :=
 match k with
 | .slL size lo hi mx=>unp (match l with | x::l=>opt lo l fun lo l=>opt hi l fun hi l=>opt mx l fun mx l=>J0q h (slLp size x lo hi mx) | _=>none)
 | k=>unp (opK k h l)
theorem W7e (size : Nat) (x : V) (lo hi mx : Option V) : ∃ r : Option V,∀ h,slL size h x lo hi mx = r.map fun v=>(v,h):=by
 cases x <;> try exact ⟨none,fun _=>rfl⟩
 ·rename_i b o len cap ex
  cases ex
  ·cases mx with
   | none =>
    cases h1 : bdO hi len len with
    | none=>exact ⟨none,fun h=>by simp only [slL,h1]; rfl⟩
    | some k =>
     cases h2 : bdO lo k 0 with
     | none=>exact ⟨none,fun h=>by simp only [slL,h1,h2]; rfl⟩
     | some l =>
      cases h3 : Nat.beq l 0
      ·cases h4 : (Nat.ble (l + 1) len && Nat.beq size cap)
       ·cases h5 : Nat.beq l k
        ·exact ⟨none,fun h=>by simp only [slL,h1,h2,h3,h4,h5]; rfl⟩
        ·exact ⟨some _,fun h=>by simp only [slL,h1,h2,h3,h4,h5]; rfl⟩
       ·exact ⟨some _,fun h=>by simp only [slL,h1,h2,h3,h4]; rfl⟩
      ·exact ⟨some _,fun h=>by simp only [slL,h1,h2,h3]; rfl⟩
   | some y =>
    cases h0 : bdV y len with
    | none=>exact ⟨none,fun h=>by simp only [slL,h0]; rfl⟩
    | some m =>
     cases h1 : bdO hi m len with
     | none=>exact ⟨none,fun h=>by simp only [slL,h0,h1]; rfl⟩
     | some k =>
      cases h2 : bdO lo k 0 with
      | none=>exact ⟨none,fun h=>by simp only [slL,h0,h1,h2]; rfl⟩
      | some l=>exact ⟨some _,fun h=>by simp only [slL,h0,h1,h2]; rfl⟩
  ·cases h0 : bdO mx cap cap with
   | none=>exact ⟨none,fun h=>by simp only [slL,h0]; rfl⟩
   | some m =>
    cases h1 : bdO hi m len with
    | none=>exact ⟨none,fun h=>by simp only [slL,h0,h1]; rfl⟩
    | some k =>
     cases h2 : bdO lo k 0 with
     | none=>exact ⟨none,fun h=>by simp only [slL,h0,h1,h2]; rfl⟩
     | some l=>exact ⟨some _,fun h=>by simp only [slL,h0,h1,h2]; rfl⟩
 ·cases mx with
  | some y=>exact ⟨none,fun h=>rfl⟩
  | none =>
   cases h1 : bdO hi 0 0 with
   | none=>exact ⟨none,fun h=>by simp only [slL,h1]; rfl⟩
   | some k =>
    cases h2 : bdO lo 0 0 with
    | none=>exact ⟨none,fun h=>by simp only [slL,h1,h2]; rfl⟩
    | some l=>exact ⟨some _,fun h=>by simp only [slL,h1,h2]; rfl⟩
 ·cases h0 : bdO mx 0 0 with
  | none=>exact ⟨none,fun h=>by simp only [slL,h0]; rfl⟩
  | some m =>
   cases h1 : bdO hi 0 0 with
   | none=>exact ⟨none,fun h=>by simp only [slL,h0,h1]; rfl⟩
   | some k =>
    cases h2 : bdO lo 0 0 with
    | none=>exact ⟨none,fun h=>by simp only [slL,h0,h1,h2]; rfl⟩
    | some l=>exact ⟨some _,fun h=>by simp only [slL,h0,h1,h2]; rfl⟩
theorem W7c {size : Nat} {x v : V} {lo hi mx : Option V} (he : slLp size x lo hi mx = some v) (h : H) : slL size h x lo hi mx = some (v,h):=by
 unfold slLp at he
 obtain ⟨r,h1⟩:=W7e size x lo hi mx
 rw [h1] at he
 cases r with
 | none=>cases he
 | some v' =>
  have he2 : some v' = some v:=he
  cases he2
  rw [h1]; rfl
theorem J1k {x : Option (V × H)} {v : V} (he : unp x = some v) : ∃ h,x = some (v,h):=by
 cases x with
 | none=>cases he
 | some y=>obtain ⟨v',h⟩:=y; cases he; exact ⟨h,rfl⟩
theorem J1i {b : Bool} {l : List V} {k : Option V → List V → Option (V × H)} {r : V × H} (he : opt b l k = some r) : ∃ x l',k x l' = some r ∧ ∀ k' : Option V → List V → Option (V × H),opt b l k' = k' x l':=by
 cases b
 ·exact ⟨none,l,he,fun _=>rfl⟩
 ·cases l with
  | nil=>cases he
  | cons x l=>exact ⟨some x,l,he,fun _=>rfl⟩
theorem qK_op {k : K} {h : H} {l : List V} {v : V} (hk : G4x k = false) (he : qK k h l = some v) : opK k h l = some (v,h):=by
 have hp : ∀ {x : Option V} {v : V} {h' : H},J0q h x = some (v,h') → J0q h x = some (v,h):=by
  intro x v h' hx
  obtain ⟨rfl,rfl⟩:=J0i hx
  rfl
 cases k
 case slL size lo hi mx =>
  obtain ⟨h',he⟩:=J1k he
  cases l with
  | nil=>cases he
  | cons x l =>
   simp only at he
   obtain ⟨a,l1,e1,f1⟩:=J1i he
   obtain ⟨b,l2,e2,f2⟩:=J1i e1
   obtain ⟨c,l3,e3,f3⟩:=J1i e2
   obtain ⟨e4,rfl⟩:=J0i e3
   show opt lo l (fun lo l=>opt hi l fun hi l=>opt mx l fun mx l=>slL size h' x lo hi mx) = _
   rw [f1,f2,f3]
   exact W7c e4 _
 case slS lo hi =>
  obtain ⟨h',he⟩:=J1k he
  cases l with
  | nil=>cases he
  | cons x l =>
   have he2 : opt lo l (fun lo l=>opt hi l fun hi l=>J0q h (slS x lo hi)) = some (v,h'):=he
   obtain ⟨a,l1,e1,f1⟩:=J1i he2
   obtain ⟨b,l2,e2,f2⟩:=J1i e1
   obtain ⟨e4,rfl⟩:=J0i e2
   exact he
 case slA n size lo hi mx =>
  obtain ⟨h',he⟩:=J1k he
  cases l with
  | nil=>cases he
  | cons x l =>
   have he2 : opt lo l (fun lo l=>opt hi l fun hi l=>opt mx l fun mx l=>J0q h (slA n size x lo hi mx)) = some (v,h'):=he
   obtain ⟨a,l1,e1,f1⟩:=J1i he2
   obtain ⟨b,l2,e2,f2⟩:=J1i e1
   obtain ⟨c,l3,e3,f3⟩:=J1i e2
   obtain ⟨e4,rfl⟩:=J0i e3
   exact he
 all_goals first
  | (cases hk; done)
  | skip
 case eq neg e =>
  obtain ⟨h',he⟩:=J1k (x:=opK (.eq neg e) h l) he
  rcases l with _ | ⟨x,_ | ⟨y,_ | ⟨z,l⟩⟩⟩ <;> try (cases he; done)
  have he2 : (match eqV e h x y with | some b=>some (V.b (Bool.rec b (Bool.rec true false b) neg),h) | none=>none) = some (v,h'):=he
  cases hq : eqV e h x y <;> rw [hq] at he2
  ·cases he2
  ·cases he2; exact he
 case mv =>
  obtain ⟨h',he⟩:=J1k (x:=opK .mv h l) he
  rcases l with _ | ⟨x,_ | ⟨y,l⟩⟩ <;> try (cases he; done)
  cases he; rfl
 case cvS =>
  obtain ⟨h',he⟩:=J1k (x:=opK .cvS h l) he
  rcases l with _ | ⟨x,_ | ⟨y,l⟩⟩ <;> try (cases he; done)
  cases x <;> try (cases he; done)
  cases he; rfl
 case mki t =>
  obtain ⟨h',he⟩:=J1k (x:=opK (.mki t) h l) he
  rcases l with _ | ⟨x,_ | ⟨y,l⟩⟩ <;> try (cases he; done)
  cases he; rfl
 case mkf f na=>obtain ⟨h',he⟩:=J1k (x:=opK (.mkf f na) h l) he; cases he; rfl
 case lnc n=>obtain ⟨h',he⟩:=J1k (x:=opK (.lnc n) h l) he; cases he; rfl
 case bld zs pl =>
  obtain ⟨h',he⟩:=J1k (x:=opK (.bld zs pl) h l) he
  have he2 : (match W0o zs zs.length (pl.zip l) with | some l=>some (V.ag l,h) | none=>none) = some (v,h'):=he
  cases hq : W0o zs zs.length (pl.zip l) <;> rw [hq] at he2
  ·cases he2
  ·cases he2; exact he
 case pick =>
  obtain ⟨h',he⟩:=J1k (x:=opK .pick h l) he
  rcases l with _ | ⟨x,_ | ⟨y,_ | ⟨z,_ | ⟨u,l⟩⟩⟩⟩ <;> try (cases he; done)
  exact hp he
 all_goals
  have he2 : unp (opK _ h l) = some v:=he
  obtain ⟨h',he⟩:=J1k he2
  first
  | (rcases l with _ | ⟨x,_ | ⟨y,l⟩⟩ <;> first | (cases he; done) | exact hp he)
  | (rcases l with _ | ⟨x,_ | ⟨y,_ | ⟨z,l⟩⟩⟩ <;> first | (cases he; done) | exact hp he)
theorem Q4u {k : K} {h h2 : H} {l : List V} {v : V} (hk : G4x k = false) (hp : Q4v k = true) (he : qK k h l = some v) : qK k h2 l = some v:=by
 have hpp : ∀ {x : Option V} {v : V},unp (J0q h x) = some v → unp (J0q h2 x) = some v:=by
  intro x v hx
  cases x with
  | none=>cases hx
  | some y=>exact hx
 cases k
 case slL size lo hi mx =>
  obtain ⟨h',he⟩:=J1k he
  cases l with
  | nil=>cases he
  | cons x l =>
   simp only at he
   obtain ⟨a,l1,e1,f1⟩:=J1i he
   obtain ⟨b,l2,e2,f2⟩:=J1i e1
   obtain ⟨c,l3,e3,f3⟩:=J1i e2
   obtain ⟨e4,rfl⟩:=J0i e3
   show unp (opt lo l fun lo l=>opt hi l fun hi l=>opt mx l fun mx l=>J0q h2 (slLp size x lo hi mx)) = _
   rw [f1,f2,f3,e4]; rfl
 case slS lo hi =>
  obtain ⟨h',he⟩:=J1k he
  cases l with
  | nil=>cases he
  | cons x l =>
   have he2 : opt lo l (fun lo l=>opt hi l fun hi l=>J0q h (slS x lo hi)) = some (v,h'):=he
   obtain ⟨a,l1,e1,f1⟩:=J1i he2
   obtain ⟨b,l2,e2,f2⟩:=J1i e1
   obtain ⟨e4,rfl⟩:=J0i e2
   show unp (opt lo l fun lo l=>opt hi l fun hi l=>J0q h2 (slS x lo hi)) = _
   rw [f1,f2,e4]; rfl
 case slA n size lo hi mx =>
  obtain ⟨h',he⟩:=J1k he
  cases l with
  | nil=>cases he
  | cons x l =>
   have he2 : opt lo l (fun lo l=>opt hi l fun hi l=>opt mx l fun mx l=>J0q h (slA n size x lo hi mx)) = some (v,h'):=he
   obtain ⟨a,l1,e1,f1⟩:=J1i he2
   obtain ⟨b,l2,e2,f2⟩:=J1i e1
   obtain ⟨c,l3,e3,f3⟩:=J1i e2
   obtain ⟨e4,rfl⟩:=J0i e3
   show unp (opt lo l fun lo l=>opt hi l fun hi l=>opt mx l fun mx l=>J0q h2 (slA n size x lo hi mx)) = _
   rw [f1,f2,f3,e4]; rfl
 all_goals first
  | (cases hk; done)
  | (cases hp; done)
  | skip
 case mv=>rcases l with _ | ⟨x,_ | ⟨y,l⟩⟩ <;> exact he
 case cvS =>
  rcases l with _ | ⟨x,_ | ⟨y,l⟩⟩ <;> try (cases he; done)
  cases x <;> first | (cases he; done) | exact he
 case mki t=>rcases l with _ | ⟨x,_ | ⟨y,l⟩⟩ <;> exact he
 case mkf f na=>exact he
 case lnc n=>exact he
 case bld zs pl =>
  have he2 : unp (match W0o zs zs.length (pl.zip l) with | some l=>some (V.ag l,h) | none=>none) = some v:=he
  show unp (match W0o zs zs.length (pl.zip l) with | some l=>some (V.ag l,h2) | none=>none) = some v
  cases hq : W0o zs zs.length (pl.zip l) <;> rw [hq] at he2
  ·cases he2
  ·exact he2
 case pick =>
  rcases l with _ | ⟨x,_ | ⟨y,_ | ⟨z,_ | ⟨u,l⟩⟩⟩⟩ <;> try (cases he; done)
  exact hpp he
 all_goals first
  | (rcases l with _ | ⟨x,_ | ⟨y,l⟩⟩ <;> first | (cases he; done) | exact hpp he)
  | (rcases l with _ | ⟨x,_ | ⟨y,_ | ⟨z,l⟩⟩⟩ <;> first | (cases he; done) | exact hpp he)
def isFl (op : Op) : Bool:=match op with | .alloc _ | .buildSlice _ _ _ | .makeMap _ _=>true | _=>false
def W4z (k : K) (l : List V) : Option ((Nat → V) × Nat × O) :=
 match k with
 | .alloc n t=>some (fun b=>.p b 0,n,.cells n t true)
 | .mkm=>some (fun b=>.m b,0,.map [] [] 0)
 | .bsl zs len pl=>match W0o zs zs.length (pl.zip l) with
  | some cs=>some (fun b=>.sl b 0 len len true,zs.length,.cells zs.length (C.puts cs 0 .e) true)
  | none=>none
 | _=>none
section
variable {P : Program} {B : Bs} {tt : TT} {μ : M} {w : World} {a : Act} {ro : Option Nat} {Q : Exit → Act → World → Prop}
def G4g (P : Program) (μ : M) (w : World) (s : Sem Next) (mk : Nat → V) (n : Nat) (ob : O) : Prop :=
 ob ≠ .dead ∧ ∃ y obj,s.run P w = .ok (.value y) (w.alloc obj) ∧ (∀ (B : Bs) (μ' : M) (w' : World) (g : Nat),M.le μ μ' → w'.heap[g]? = some obj → OR B μ' w' g 0 n ob) ∧
  ∀ (μ' : M) (b : Nat),μ' b = some (w.heap.size,0) → μ'.cap b = n → VR μ' (mk b) y
theorem W2k {μ : M} {n : Nat} {c : C} {cur : Array Value} {e : TypeId} (hn : n ≤ cur.size) (hc : ∀ i,i < n → ∃ v,cur[i]? = some v ∧ VR μ (C.at_ c i) v) (B : Bs) (μ' : M) (w' : World) (g : Nat) (hle : M.le μ μ') (hw : w'.heap[g]? = some (.cells cur e)) : OR B μ' w' g 0 n (.cells n c true):=by
 refine ⟨cur,e,(0,0),hw,fun _=>rfl,Nat.le_refl _,by omega,fun i _=>by omega,fun i hi=>?_⟩
 obtain ⟨v,h1,h2⟩:=hc i hi
 exact ⟨v,by simpa using h1,VR.mono hle _ _ h2⟩
theorem Q7o (hT : TTok P tt) {t : Nat} {k : K} {xs : List Operand} (hk : U3f tt t = some (k,xs)) {l : List V} {mk : Nat → V} {n : Nat} {c : O} (he : W4z k l = some (mk,n,c)) :
  G4g P μ w (do pure (.value (← Instr.alloc t true (.tuple #[])))) mk n c:=by
 simp only [U3f,Option.bind_eq_some_iff] at hk
 obtain ⟨⟨d,i,zv⟩,h1,h2⟩:=hk
 simp only [Option.some.injEq,Prod.mk.injEq] at h2
 obtain ⟨rfl,rfl⟩:=h2
 obtain ⟨hd,hi,z,hz,hzv,hu,hcs⟩:=J1g hT h1
 simp only [W4z,Option.some.injEq,Prod.mk.injEq] at he
 obtain ⟨rfl,rfl,rfl⟩:=he
 refine ⟨by simp,.pointer (some ⟨w.heap.size,0,none⟩),.cells z.cells t,?_,W2k ?_ (hcs μ).tree,fun μ' b h1 h2=>?_⟩
 ·have : (Instr.alloc t true (.tuple #[])).run P w = .ok (.pointer (some ⟨w.heap.size,0,none⟩)) (w.alloc (.cells z.cells t)):=by
   simp only [Instr.alloc,Sem.run_bind,J3z hi hz,Result.andThen_ok,J7v,Sem.run_pure]
  rw [Sem.run_bind,this]; rfl
 ·have:=(hcs μ).len; simp at this; omega
 ·simp only [VR]; exact ⟨w.heap.size,0,h1,rfl⟩
theorem flBsl (hT : TTok P tt) {t len : Nat} {parts : List (Nat × Operand)} {k : K} {xs : List Operand} (hk : kBsl tt t len parts = some (k,xs)) {ρ : Operand → Value} {l : List V} (hv : VRs μ l (xs.map ρ)) {mk : Nat → V} {n : Nat} {c : O} (he : W4z k l = some (mk,n,c)) :
  G4g P μ w (do pure (.value (← Instr.buildSlice t len (parts.map fun p=>(p.1,ρ p.2)).toArray))) mk n c:=by
 simp only [kBsl,Option.bind_eq_some_iff] at hk
 obtain ⟨⟨d,i⟩,h1,e,h2,⟨zd,zi,zv⟩,h3,h4⟩:=hk
 obtain ⟨h5,h6⟩:=J0p h4
 simp only [Prod.mk.injEq] at h6
 obtain ⟨rfl,rfl⟩:=h6
 have hd:=J2a h2
 simp only at hd; subst hd
 obtain ⟨_,hi,z,hz,hzv,hu,hcs⟩:=J1g hT h3
 simp only [Bool.and_eq_true] at h5
 have hlen:=Nat.eq_of_beq_eq_true h5.2
 have hzs : z.cells.size = zi.size:=by have:=(hcs μ).len; simp at this; omega
 have hP : U2i μ (fun i=>some (i * zi.size,zi.size)) ((parts.map fun p=>(p.1 * zi.size,zi.size)).zip l) (parts.map fun p=>(p.1,ρ p.2)):=J6q (by simp) (fun j p q hp hq=>by
  rw [List.getElem?_map,hp] at hq; simp at hq; rw [← hq]) hv
 have hc : VRs μ (cyc zv.cells len) (madeCells z.cells (len * zi.size)).toList:=by rw [← hzs]; exact J4o (hcs μ) len
 simp only [W4z] at he
 cases hb : W0o (cyc zv.cells len) (cyc zv.cells len).length ((parts.map fun p=>(p.1 * zi.size,zi.size)).zip l) with
 | none=>rw [hb] at he; cases he
 | some cs =>
  rw [hb] at he
  simp only [Option.some.injEq,Prod.mk.injEq] at he
  obtain ⟨rfl,rfl,rfl⟩:=he
  obtain ⟨cells,g1,g2⟩:=U1e hP hc rfl hb
  have hlen2 : (cyc zv.cells len).length = cs.length:=by
   have a1:=hc.len
   have a2:=g2.len
   have a3 : cells.size = (madeCells z.cells (len * zi.size)).size:=U0q _ _ _ _ g1
   simp at a1 a2
   omega
  have ht:=(hT _ _ _ h1).1
  have hsmall:=Nat.le_of_ble_eq_true h5.1
  have hrun : (Instr.buildSlice t len (parts.map fun p=>(p.1,ρ p.2)).toArray).run P w = .ok (.slice (some ⟨w.heap.size,0,none⟩) len len) (w.alloc (.cells cells e)):=by
   by_cases h0 : len * zi.size = 0
   ·have h1' : Instr.fill (fun i=>some (i * zi.size,zi.size)) ((Array.range 0).map fun x=>(#[] : Array Value)[x % (#[] : Array Value).size]!) (parts.map fun p=>(p.1,ρ p.2)) = some cells:=by
     rw [h0] at g1
     have e0 : Array.range 0 = #[]:=rfl
     rw [e0]
     unfold madeCells at g1
     rw [e0] at g1
     simpa using g1
    simp [Instr.buildSlice,run_underlying ht,J0w hi,h0,J4t]
    simp at h1'
    rw [h1']
    simp [J4t]
   ·exact run_buildSlice w t e len _ cells zi z ht hi hz (by omega) h0 g1
  refine ⟨by simp,.slice (some ⟨w.heap.size,0,none⟩) len len,.cells cells e,?_,W2k ?_ ?_,fun μ' b m1 m2=>?_⟩
  ·rw [Sem.run_bind,hrun]; rfl
  ·have a2:=g2.len; simp at a2; omega
  ·rw [hlen2]; exact g2.tree
  ·simp only [VR]
   exact ⟨w.heap.size,0,len,m1,rfl,Nat.le_refl _,fun _=>rfl,by simp⟩
theorem flMkm (hT : TTok P tt) {t : Nat} {a : Option Operand} {k : K} {xs : List Operand} (hk : Q2r tt t a = some (k,xs)) {ρ : Operand → Value} (hρ : ∀ v,ρ (.const v) = v) {l : List V} {mk : Nat → V} {n : Nat} {c : O} (he : W4z k l = some (mk,n,c)) :
  G4g P μ w (do pure (.value (← Instr.makeMap t (a.map ρ)))) mk n c:=by
 have hK : k = .mkm → (Instr.makeMap t (a.map ρ)).run P w = (Instr.makeMap t none).run P w → G4g P μ w (do pure (.value (← Instr.makeMap t (a.map ρ)))) mk n c:=by
  intro e er
  subst e
  simp only [W4z,Option.some.injEq,Prod.mk.injEq] at he
  obtain ⟨rfl,rfl,rfl⟩:=he
  refine ⟨by simp,.map (some w.heap.size),.map #[] 0,?_,fun B μ' w' g hle hw=>⟨#[],hw,rfl,rfl,by simp,by simp⟩,fun μ' b h1 _=>?_⟩
  ·have : (Instr.makeMap t none).run P w = .ok (.map (some w.heap.size)) (w.alloc (.map #[] 0)):=by simp [Instr.makeMap,World.alloc_eq]
   rw [Sem.run_bind,er,this]; rfl
  ·simp only [VR]; exact ⟨w.heap.size,0,h1,rfl⟩
 cases a with
 | none =>
  simp only [Q2r,Option.some.injEq,Prod.mk.injEq] at hk
  exact hK hk.1.symm rfl
 | some x =>
  simp only [Q2r,Option.bind_eq_some_iff] at hk
  obtain ⟨⟨d,i⟩,h1,h2⟩:=hk
  have hd:=(hT _ _ _ h1).1
  cases d <;> simp only at h2 <;> try (cases h2; done)
  split at h2
  ·simp only [Option.some.injEq,Prod.mk.injEq] at h2
   refine hK h2.1.symm ?_
   simp [Instr.makeMap,run_underlying hd,hρ,asInt,asIntOf]
  ·cases h2
theorem G2l (hT : TTok P tt) {o : Oper} (hf : isFl o.op = true) {kk : K} (hk : (J7w tt o.op).1 = .op kk) {l : List V} (hv : VRs μ l ((J7w tt o.op).2.map a.eval)) {mk : Nat → V} {n : Nat} {c : O} (he : W4z kk l = some (mk,n,c))
  {K : Act → World → Prop} (hK : c ≠ .dead → ∀ y obj,(∀ (B : Bs) (μ' : M) (w' : World) (g : Nat),M.le μ μ' → w'.heap[g]? = some obj → OR B μ' w' g 0 n c) → (∀ (μ' : M) (b : Nat),μ' b = some (w.heap.size,0) → μ'.cap b = n → VR μ' (mk b) y) → K (a.put o.dst y) (w.alloc obj)) : o.wpIn (FW ro) 0 P a w K Q:=by
 have hnd : ∀ c,o.op ≠ .defer c:=by intro c hc; rw [hc] at hf; cases hf
 refine wpX hnd ?_
 have fin : G4g P μ w (execOp a.eval o) mk n c → o.uponIn (FW ro) 0 P a K Q ((execOp a.eval o).run P w):=by
  rintro ⟨h0,y,obj,h1,h2,h3⟩
  rw [h1]
  exact hK h0 y obj h2 h3
 obtain ⟨dst,op,type,pos,after,guard⟩:=o
 cases op <;> simp only [isFl] at hf <;> try (cases hf; done)
 case alloc t =>
  simp only [J7w,U0f] at hk hv
  cases hq : U3f tt t with
  | none=>rw [hq] at hk; cases hk
  | some kx =>
   obtain ⟨k,xs⟩:=kx
   rw [hq] at hk hv
   simp only [RK.op.injEq] at hk
   subst hk
   exact fin (Q7o hT hq he)
 case buildSlice t len parts =>
  simp only [J7w,U0f] at hk hv
  cases hq : kBsl tt t len parts.toList with
  | none=>rw [hq] at hk; cases hk
  | some kx =>
   obtain ⟨k,xs⟩:=kx
   rw [hq] at hk hv
   simp only [RK.op.injEq] at hk
   subst hk
   have:=flBsl (P:=P) (w:=w) hT hq (ρ:=a.eval) hv he
   refine fin ?_
   have e : (parts.toList.map fun p=>(p.1,a.eval p.2)).toArray = (parts.map fun (p : Nat × Operand)=>(p.1,a.eval p.2)):=by apply Array.ext'; simp
   rw [e] at this
   exact this
 case makeMap t r =>
  simp only [J7w,U0f] at hk hv
  cases hq : Q2r tt t r with
  | none=>rw [hq] at hk; cases hk
  | some kx =>
   obtain ⟨k,xs⟩:=kx
   rw [hq] at hk hv
   simp only [RK.op.injEq] at hk
   subst hk
   exact fin (flMkm hT hq (fun v=>rfl) he)
end
def H.rsv (k : Nat) (h : H) : H:=⟨Nat.add h.next k,h.cb,h.co,h.t⟩
def J6b (pe : List (Nat × O)) (h : H) : H:=List.rec (motive:=fun _=>H) h (fun x _ ih=>ih.upd x.1 x.2) pe
section
variable {B : Bs} {μ : M} {h : H} {w : World}
theorem HR.rsv (r : HR B μ h w) (k : Nat) : HR B μ (h.rsv k) w :=
 ⟨r.base,fun b x hb=>Nat.lt_of_lt_of_le (r.dom b x hb) (Nat.le_add_right _ _),r.obj,r.inj⟩
theorem Ext.rsv (k : Nat) : Ext μ h w μ (h.rsv k) w :=
 ⟨M.le_refl _,Nat.le_add_right _ _,rfl,rfl,rfl,Nat.le_refl _,fun _ _ _=>rfl,fun b _ q h1 h2 _=>⟨b,q,h1,h2⟩,fun _ _=>rfl⟩
structure Pend (B : Bs) (w0 : Nat) (μ : M) (h : H) (w : World) (b : Nat) (o : O) : Prop where
 ex : ∃ g,μ b = some (g,0) ∧ B.n ≤ g ∧ w0 ≤ g ∧ OR B μ w g 0 (μ.cap b) o ∧ ∀ b' q',h.get b' ≠ .dead → μ b' ≠ some (g,q')
 live : o ≠ .dead
theorem Pend.dead {w0 : Nat} {b : Nat} {o : O} (p : Pend B w0 μ h w b o) : h.get b = .dead:=by
 obtain ⟨⟨g,h1,_,_,_,h5⟩,_⟩:=p
 cases hd : h.get b with
 | dead=>rfl
 | _=>exact absurd h1 (h5 b 0 (by rw [hd]; simp))
theorem Pend.step {w0 : Nat} {b : Nat} {o : O} (p : Pend B w0 μ h w b o) {μ' : M} {h' : H} {w' : World} (e : Ext μ h w μ' h' w') : Pend B w0 μ' h' w' b o:=by
 obtain ⟨⟨g,h1,h2,h3,h4,h5⟩,h6⟩:=p
 have hlt:=h4.lt h6
 refine ⟨⟨g,(e.le _ _ h1).1,h2,h3,?_,?_⟩,h6⟩
 ·rw [(e.le _ _ h1).2]
  exact h4.mono e.le (e.frame g hlt fun b' q hb=>h5 b' q hb)
 ·intro b' q' hb hm
  obtain ⟨b0,q0,k1,k2⟩:=e.catch_ b' g q' hb hm hlt
  exact h5 b0 q0 k1 k2
theorem Q3e {w0 : Nat} (r : HR B μ h w) : ∀ {pe : List (Nat × O)},(∀ x ∈ pe,Pend B w0 μ h w x.1 x.2) → pe.Pairwise (fun x y=>x.1 ≠ y.1 ∧ ∀ g q q',μ x.1 = some (g,q) → μ y.1 ≠ some (g,q')) →
  HR B μ (J6b pe h) w ∧ (J6b pe h).next = h.next ∧ (∀ b,(J6b pe h).get b ≠ .dead → h.get b ≠ .dead ∨ ∃ x ∈ pe,x.1 = b) ∧ (∀ b,(∀ x ∈ pe,x.1 ≠ b) → (J6b pe h).get b = h.get b)
 | [],_,_=>⟨r,rfl,fun b hb=>.inl hb,fun b _=>rfl⟩
 | (b,o)::pe,hp,hpw=>by
  obtain ⟨hpw1,hpw2⟩:=List.pairwise_cons.1 hpw
  obtain ⟨r1,n1,l1,l2⟩:=Q3e r (pe:=pe) (fun x hx=>hp x (List.mem_cons_of_mem _ hx)) hpw2
  obtain ⟨⟨g,h1,h2,h3,h4,h5⟩,h6⟩:=hp (b,o) List.mem_cons_self
  simp only at h1 h4 h6
  have hfree : ∀ b' q',(J6b pe h).get b' ≠ .dead → μ b' ≠ some (g,q'):=by
   intro b' q' hb hm
   rcases l1 b' hb with hb | ⟨x,hx,rfl⟩
   ·exact h5 b' q' hb hm
   ·exact (hpw1 x hx).2 g 0 q' h1 hm
  have hact : J6b ((b,o)::pe) h = (J6b pe h).upd b o:=rfl
  rw [hact]
  refine ⟨⟨r1.base,r1.dom,?_,?_⟩,n1,?_,?_⟩
  ·intro b' hb'
   by_cases e : b = b'
   ·subst e
    rw [H.get_upd_same]
    exact ⟨g,0,h1,h2,h4⟩
   ·rw [H.get_upd_ne _ _ e] at hb' ⊢
    exact r1.obj b' hb'
  ·intro b1 b2 g1 q1 g2 q2 e1 e2 m1 m2 eg
   by_cases c1 : b = b1
   ·by_cases c2 : b = b2
    ·rw [← c1,← c2]
    ·subst c1
     rw [H.get_upd_ne _ _ c2] at e2
     rw [h1] at m1; cases m1
     rw [← eg] at m2
     exact absurd m2 (hfree b2 q2 e2)
   ·by_cases c2 : b = b2
    ·subst c2
     rw [H.get_upd_ne _ _ c1] at e1
     rw [h1] at m2; cases m2
     rw [eg] at m1
     exact absurd m1 (hfree b1 q1 e1)
    ·rw [H.get_upd_ne _ _ c1] at e1
     rw [H.get_upd_ne _ _ c2] at e2
     exact r1.inj b1 b2 g1 q1 g2 q2 e1 e2 m1 m2 eg
  ·intro b' hb'
   by_cases e : b = b'
   ·exact .inr ⟨(b,o),List.mem_cons_self,e⟩
   ·rw [H.get_upd_ne _ _ e] at hb'
    rcases l1 b' hb' with k | ⟨x,hx,k⟩
    ·exact .inl k
    ·exact .inr ⟨x,List.mem_cons_of_mem _ hx,k⟩
  ·intro b' hb'
   have e : b ≠ b':=hb' (b,o) List.mem_cons_self
   rw [H.get_upd_ne _ _ e]
   exact l2 b' fun x hx=>hb' x (List.mem_cons_of_mem _ hx)
theorem Q8i {μ0 : M} {h0 : H} {w0 : World} (e : Ext μ0 h0 w0 μ h w) {pe : List (Nat × O)} (hp : ∀ x ∈ pe,Pend B w0.heap.size μ h w x.1 x.2) (hn : (J6b pe h).next = h.next) (hl : ∀ b,(J6b pe h).get b ≠ .dead → h.get b ≠ .dead ∨ ∃ x ∈ pe,x.1 = b) :
  Ext μ0 h0 w0 μ (J6b pe h) w:=by
 refine ⟨e.le,by rw [hn]; exact e.next,e.os,e.tape,e.output,e.size,e.frame,?_,e.old⟩
 intro b g q hb hm hg
 rcases hl b hb with k | ⟨x,hx,rfl⟩
 ·exact e.catch_ b g q k hm hg
 ·obtain ⟨⟨g',k1,_,k3,_⟩,_⟩:=hp x hx
  rw [k1] at hm; cases hm
  omega
theorem fl_HR (r : HR B μ h w) {b n : Nat} (hb : μ b = none) (hbn : b < h.next) {c : O} {obj : Obj} (hd : c ≠ .dead) (hc : ∀ (B : Bs) (μ' : M) (w' : World) (g : Nat),M.le μ μ' → w'.heap[g]? = some obj → OR B μ' w' g 0 n c) {w0 : Nat} (hw0 : w0 ≤ w.heap.size) :
  HR B (M.new μ b (w.heap.size,0) n) h (w.alloc obj) ∧ Pend B w0 (M.new μ b (w.heap.size,0) n) h (w.alloc obj) b c:=by
 have hs : w.heap.size ≤ (w.alloc obj).heap.size:=by simp
 have hw : ∀ k,k < w.heap.size → (w.alloc obj).heap[k]? = w.heap[k]?:=fun k hk=>Below.heap_alloc _ _ _ hk
 have hle:=M.le_new (x:=(w.heap.size,0)) (N:=n) hb
 have hne : ∀ b',h.get b' ≠ .dead → b ≠ b':=by
  intro b' hb' e
  subst e
  obtain ⟨g,q,h1,_⟩:=r.obj _ hb'
  rw [hb] at h1; cases h1
 refine ⟨⟨Nat.le_trans r.base hs,?_,?_,?_⟩,⟨⟨w.heap.size,M.new_same _ _ _ _,r.base,hw0,?_,?_⟩,hd⟩⟩
 ·intro b' x hx
  by_cases e : b = b'
  ·subst e; exact hbn
  ·rw [M.new_ne _ _ _ e] at hx; exact r.dom _ _ hx
 ·intro b' hb'
  obtain ⟨g,q,h1,h2,h3⟩:=r.obj b' hb'
  refine ⟨g,q,(hle _ _ h1).1,h2,?_⟩
  rw [(hle _ _ h1).2]
  exact h3.mono hle (hw g (h3.lt hb'))
 ·intro b1 b2 g1 q1 g2 q2 e1 e2 m1 m2 eg
  rw [M.new_ne _ _ _ (hne b1 e1)] at m1
  rw [M.new_ne _ _ _ (hne b2 e2)] at m2
  exact r.inj b1 b2 g1 q1 g2 q2 e1 e2 m1 m2 eg
 ·rw [M.new_cap]
  exact hc _ _ _ _ hle (heap_alloc_new _ _)
 ·intro b' q' hb' hm
  rw [M.new_ne _ _ _ (hne b' hb')] at hm
  obtain ⟨g,q,h1,_,h3⟩:=r.obj b' hb'
  rw [hm] at h1; cases h1
  exact absurd (h3.lt hb') (Nat.lt_irrefl _)
end
end Go.X
namespace Go.X
open Go.RowKit
structure Inf where
 dst : Option Nat
 names : List Nat
 eff : Bool
 mask : Nat
def nthI (l : List Inf) : Nat → Nat :=
 List.rec (motive:=fun _=>Nat → Nat) (fun _=>0) (fun x _ ih k=>Nat.rec x.mask (fun k _=>ih k) k) l
def U3b (i : Nat) (acc : List Inf) (es : List Edge) : Option Nat :=
 List.rec (motive:=fun _=>Option Nat) (some 0) (fun e _ ih=>match ih with
  | none=>none
  | some m=>Bool.rec (some m) (Bool.rec none (some (Nat.lor m (Nat.lor (Nat.pow 2 e.on) (nthI acc (Nat.sub (Nat.sub i 1) e.on))))) (Nat.ble (e.on + 1) i)) (Region.binds .any e)) es
def U8u (t : Nat) (l : List Nat) : Bool:=List.rec (motive:=fun _=>Bool) false (fun x _ ih=>Nat.beq x t || ih) l
def memD (d : Option Nat) (l : List Nat) : Bool:=match d with | some t=>U8u t l | none=>false
def J8g (x y : Inf) : Bool:=(x.eff && y.eff) || (memD x.dst y.names || memD y.dst x.names)
def chkE (x : Inf) (acc : List Inf) : Nat → Bool :=
 List.rec (motive:=fun _=>Nat → Bool) (fun _=>true) (fun y _ ih i=>(!(J8g y x) || Nat.testBit x.mask (Nat.sub i 1)) && ih (Nat.sub i 1)) acc
def W6n (l : List Operand) : List Nat :=
 List.rec (motive:=fun _=>List Nat) [] (fun o _ ih=>match o with | .tmp t=>t::ih | _=>ih) l
def gdst (all : List Oper) (o : Oper) : Option Nat:=match o.guard with | none=>none | some (j,_)=>(all[j]?).bind (·.dst)
def G8e (d : Option Nat) (l : List Nat) : List Nat:=match d with | some t=>t::l | none=>l
def J2z (all : List Oper) (o : Oper) (x : RK × List Operand) : List Nat:=G8e o.dst (G8e (gdst all o) (W6n x.2))
def efR (fm j : Nat) (k : RK) : Bool:=Bool.rec (J7d k) false (Nat.testBit fm j)
def chkF (fm j : Nat) (o : Oper) : Bool:=Bool.rec true (isFl o.op && (match o.guard with | none=>true | some _=>false)) (Nat.testBit fm j)
def G7q (fm : Nat) (tt : TT) (N : Nat) (all : List Oper) (os : List Oper) : Nat → List Inf → Option (List Inf) :=
 List.rec (motive:=fun _=>Nat → List Inf → Option (List Inf)) (fun _ acc=>some acc) (fun o _ ih i acc =>
  match U3b i acc o.after.toList with
  | none=>none
  | some m =>
   let x : Inf:=⟨o.dst,J2z all o (J0t tt N o),efR fm i (J0t tt N o).1,m⟩
   Bool.rec none (ih (i + 1) (x::acc)) (chkE x acc i && chkF fm i o)) os
section
variable {fm : Nat} {tt : TT} {N : Nat} {all : List Oper}
theorem W1v : ∀ (l : List Inf) (k : Nat) (x : Inf),l[k]? = some x → nthI l k = x.mask
 | [],k,x,h=>by simp at h
 | y::l,0,x,h=>by simp at h; subst h; rfl
 | y::l,k + 1,x,h=>W1v l k x (by simpa using h)
theorem U0a {i : Nat} {acc : List Inf} : ∀ {es : List Edge} {m : Nat},U3b i acc es = some m → (∀ e ∈ es,Region.binds .any e = true → e.on < i) ∧
  ∀ j,m.testBit j = true → ∃ e ∈ es,Region.binds .any e = true ∧ (j = e.on ∨ (nthI acc (i - 1 - e.on)).testBit j = true)
 | [],m,h=>by
  have : (0 : Nat) = m:=Option.some.inj h
  subst this
  exact ⟨by simp,by simp⟩
 | e::es,m,h=>by
  have h2 : (match U3b i acc es with
   | none=>none
   | some m=>Bool.rec (some m) (Bool.rec none (some (Nat.lor m (Nat.lor (Nat.pow 2 e.on) (nthI acc (Nat.sub (Nat.sub i 1) e.on))))) (Nat.ble (e.on + 1) i)) (Region.binds .any e)) = some m:=h
  cases h3 : U3b i acc es with
  | none=>rw [h3] at h2; cases h2
  | some m0 =>
   obtain ⟨g1,g2⟩:=U0a h3
   rw [h3] at h2
   simp only at h2
   cases hb : Region.binds .any e <;> rw [hb] at h2
   ·simp only [Option.some.injEq] at h2; subst h2
    refine ⟨fun e' he' hb'=>?_,fun j hj=>?_⟩
    ·rcases List.mem_cons.1 he' with rfl | he'
     ·rw [hb] at hb'; cases hb'
     ·exact g1 e' he' hb'
    ·obtain ⟨e',k1,k2⟩:=g2 j hj
     exact ⟨e',List.mem_cons_of_mem _ k1,k2⟩
   ·simp only at h2
    cases hl : Nat.ble (e.on + 1) i <;> rw [hl] at h2
    ·cases h2
    simp only [Option.some.injEq] at h2; subst h2
    refine ⟨fun e' he' hb'=>?_,fun j hj=>?_⟩
    ·rcases List.mem_cons.1 he' with rfl | he'
     ·exact Nat.le_of_ble_eq_true hl
     ·exact g1 e' he' hb'
    ·have hj2 : (m0 ||| (2 ^ e.on ||| nthI acc (i - 1 - e.on))).testBit j = true:=hj
     simp only [Nat.testBit_or,Nat.testBit_two_pow,Bool.or_eq_true,decide_eq_true_eq] at hj2
     rcases hj2 with hj2 | hj2 | hj2
     ·obtain ⟨e',k1,k2⟩:=g2 j hj2
      exact ⟨e',List.mem_cons_of_mem _ k1,k2⟩
     ·exact ⟨e,List.mem_cons_self,hb,.inl hj2.symm⟩
     ·exact ⟨e,List.mem_cons_self,hb,.inr hj2⟩
theorem U7v {x : Inf} : ∀ {acc : List Inf} {i : Nat},acc.length = i → chkE x acc i = true → ∀ k y,acc[k]? = some y → J8g y x = true → x.mask.testBit (i - 1 - k) = true
 | [],i,_,_,k,y,hk,_=>by simp at hk
 | y0::acc,i,hl,h,k,y,hk,hc=>by
  have h2 : ((!(J8g y0 x) || Nat.testBit x.mask (i - 1)) && chkE x acc (i - 1)) = true:=h
  simp only [Bool.and_eq_true,Bool.or_eq_true,Bool.not_eq_true'] at h2
  cases k with
  | zero =>
   simp at hk; subst hk
   rcases h2.1 with h3 | h3
   ·rw [hc] at h3; cases h3
   ·exact h3
  | succ k =>
   have:=U7v (i:=i - 1) (by simp at hl; omega) h2.2 k y (by simpa using hk) hc
   rwa [show i - 1 - 1 - k = i - 1 - (k + 1) by omega] at this
structure IG (fm : Nat) (tt : TT) (N : Nat) (all : List Oper) (i : Nat) (acc : List Inf) : Prop where
 len : acc.length = i
 info : ∀ j o,j < i → all[j]? = some o → ∃ x,acc[i - 1 - j]? = some x ∧ x.dst = o.dst ∧ x.names = J2z all o (J0t tt N o) ∧ x.eff = efR fm j (J0t tt N o).1
 topo : ∀ j o,j < i → all[j]? = some o → ∀ e ∈ o.after.toList,Region.binds .any e = true → e.on < j
 mask : ∀ j o x,j < i → all[j]? = some o → acc[i - 1 - j]? = some x → ∀ b,x.mask.testBit b = true → ∃ e ∈ o.after.toList,Region.binds .any e = true ∧ (b = e.on ∨ ∃ y,acc[i - 1 - e.on]? = some y ∧ y.mask.testBit b = true)
 pair : ∀ j k x y,j < k → k < i → acc[i - 1 - j]? = some x → acc[i - 1 - k]? = some y → J8g x y = true → y.mask.testBit j = true
 flt : ∀ j o,j < i → all[j]? = some o → fm.testBit j = true → isFl o.op = true ∧ o.guard = none
theorem U0k : ∀ (os : List Oper) (i : Nat) {acc res : List Inf},all.drop i = os → IG fm tt N all i acc → G7q fm tt N all os i acc = some res → IG fm tt N all (i + os.length) res
 | [],i,acc,res,_,hg,h=>by
  have : acc = res:=Option.some.inj h
  subst this; exact hg
 | o::os,i,acc,res,hd,hg,h=>by
  have h2 : (match U3b i acc o.after.toList with
   | none=>none
   | some m=>Bool.rec none (G7q fm tt N all os (i + 1) (⟨o.dst,J2z all o (J0t tt N o),efR fm i (J0t tt N o).1,m⟩::acc)) (chkE ⟨o.dst,J2z all o (J0t tt N o),efR fm i (J0t tt N o).1,m⟩ acc i && chkF fm i o)) = some res:=h
  cases hm : U3b i acc o.after.toList with
  | none=>rw [hm] at h2; cases h2
  | some m =>
   rw [hm] at h2
   simp only at h2
   cases hcc : (chkE ⟨o.dst,J2z all o (J0t tt N o),efR fm i (J0t tt N o).1,m⟩ acc i && chkF fm i o) <;> rw [hcc] at h2
   ·cases h2
   simp only at h2
   rw [Bool.and_eq_true] at hcc
   obtain ⟨hc,hcf⟩:=hcc
   obtain ⟨m1,m2⟩:=U0a hm
   have hoi : all[i]? = some o:=by
    have:=congrArg (fun l=>l[0]?) hd
    simpa using this
   have hd2 : all.drop (i + 1) = os:=by rw [← List.drop_drop,hd]; rfl
   have hshift : ∀ (j : Nat) (x : Inf),j < i → ((⟨o.dst,J2z all o (J0t tt N o),efR fm i (J0t tt N o).1,m⟩::acc)[i + 1 - 1 - j]? = acc[i - 1 - j]?):=by
    intro j x hj
    rw [show i + 1 - 1 - j = (i - 1 - j) + 1 by omega,List.getElem?_cons_succ]
   have hg2 : IG fm tt N all (i + 1) (⟨o.dst,J2z all o (J0t tt N o),efR fm i (J0t tt N o).1,m⟩::acc):=by
    refine ⟨by simp [hg.len],?_,?_,?_,?_,?_⟩
    ·intro j o' hj ho'
     by_cases e : j = i
     ·subst e
      rw [hoi] at ho'; cases ho'
      exact ⟨_,by rw [show j + 1 - 1 - j = 0 by omega]; rfl,rfl,rfl,rfl⟩
     ·obtain ⟨x,g1,g2⟩:=hg.info j o' (by omega) ho'
      exact ⟨x,by rw [hshift j x (by omega)]; exact g1,g2⟩
    ·intro j o' hj ho'
     by_cases e : j = i
     ·subst e
      rw [hoi] at ho'; cases ho'
      exact m1
     ·exact hg.topo j o' (by omega) ho'
    ·intro j o' x hj ho' hx b hb
     by_cases e : j = i
     ·subst e
      rw [hoi] at ho'; cases ho'
      rw [show j + 1 - 1 - j = 0 by omega] at hx
      simp at hx; subst hx
      obtain ⟨e',k1,k2,k3⟩:=m2 b hb
      refine ⟨e',k1,k2,?_⟩
      rcases k3 with k3 | k3
      ·exact .inl k3
      ·right
       have hlt:=m1 e' k1 k2
       have hlen : j - 1 - e'.on < acc.length:=by rw [hg.len]; omega
       refine ⟨acc[j - 1 - e'.on],?_,?_⟩
       ·rw [hshift _ ⟨o.dst,[],true,0⟩ hlt]; exact List.getElem?_eq_getElem hlen
       ·rw [← W1v acc _ _ (List.getElem?_eq_getElem hlen)]; exact k3
     ·rw [hshift j x (by omega)] at hx
      obtain ⟨e',k1,k2,k3⟩:=hg.mask j o' x (by omega) ho' hx b hb
      refine ⟨e',k1,k2,?_⟩
      rcases k3 with k3 | ⟨y,k3,k4⟩
      ·exact .inl k3
      ·have hlt:=hg.topo j o' (by omega) ho' e' k1 k2
       exact .inr ⟨y,by rw [hshift _ y (by omega)]; exact k3,k4⟩
    ·intro j k x y hjk hk hx hy hcl
     by_cases e : k = i
     ·subst e
      rw [show k + 1 - 1 - k = 0 by omega] at hy
      simp at hy; subst hy
      rw [hshift j x (by omega)] at hx
      have:=U7v hg.len hc (k - 1 - j) x hx hcl
      rwa [show k - 1 - (k - 1 - j) = j by omega] at this
     ·rw [hshift j x (by omega)] at hx
      rw [hshift k y (by omega)] at hy
      exact hg.pair j k x y hjk (by omega) hx hy hcl
    ·intro j o' hj ho' hb
     by_cases e : j = i
     ·subst e
      rw [hoi] at ho'; cases ho'
      unfold chkF at hcf
      rw [hb] at hcf
      simp only [Bool.and_eq_true] at hcf
      refine ⟨hcf.1,?_⟩
      cases hgd : o.guard with
      | none=>rfl
      | some x=>rw [hgd] at hcf; cases hcf.2
     ·exact hg.flt j o' (by omega) ho' hb
   have:=U0k os (i + 1) hd2 hg2 h2
   rwa [show i + 1 + os.length = i + (o::os).length by simp; omega] at this
end
end Go.X
end
