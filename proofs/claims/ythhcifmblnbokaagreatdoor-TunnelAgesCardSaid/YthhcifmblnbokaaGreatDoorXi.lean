/- Functions that defer calls, and ranges over functions: calls. -/
import Derived.Test.YthhcifmblnbokaaGreatDoorXh
import Derived.Recover
set_option linter.all false
set_option maxRecDepth 100000
noncomputable section
namespace Go.X
open Go.RowKit
section
variable {P : Program} {n0 : Nat} {tt : TT} {fc : FC}
theorem J4r {fn : Func} {c0 : Code} {fid : Nat} (hT : TTok P tt) (hF : FOK P (bsL P tt n0) fc) (hm : P.follows .mixedOrders = true) (hfn : P.funcs[fid]? = some fn) (hb : fn.body = some c0) (hck : G8j (J1l c0) = true) {self : U8d} {n : Nat}
  (hself : J7m P (bsL P tt n0) tt (J1d (J0k tt fn c0)) fn.ntmps n self) :
  ∀ (c : Code) {Q : Exit → Act → World → Prop} {e : E} {h : H} {a : Act} {w : World} {μ : M} {df : DF} {w0 : Nat},(∀ x ∈ J1l c,x ∈ J1l c0) → w0 ≤ w.heap.size → SR μ (J1d (J0k tt fn c0)) fn.ntmps [] [] e a → HR (bsL P tt n0) μ h w → DRel μ h w w0 df a.defers →
   EndsZ Q (bsL P tt n0) (J1d (J0k tt fn c0)) fn.ntmps μ h w w0 (zx (J4i tt (J1d (J0k tt fn c0)) fn.ntmps fid c) fc self e h df) → c.wpIn (FW none) 0 P Q a w
 | .skip,Q,e,h,a,w,μ,df,w0,hl,hw0,hs,r,d,hr=>J3g hT hF hm (J1e _) hself .skip hs r d hr
 | .region id ops draw,Q,e,h,a,w,μ,df,w0,hl,hw0,hs,r,d,hr=>by
  have hr2 : EndsZ Q (bsL P tt n0) (J1d (J0k tt fn c0)) fn.ntmps μ h w w0 (zx (Bool.rec (Bool.rec (dfrZ tt (J1d (J0k tt fn c0)) fn.ntmps ops.toList) .bad draw) (.y (J0y tt (J1d (J0k tt fn c0)) fn.ntmps (.region id ops draw))) (J7y ops.toList)) fc self e h df):=hr
  cases hp : J7y ops.toList with
  | true=>rw [hp] at hr2; exact J3g hT hF hm (J1e _) hself _ hs r d hr2
  | false =>
   rw [hp] at hr2
   cases draw with
   | true=>exact hr2.elim
   | false=>exact G2w hT hF (J1e _) hs r d hr2
 | .seq x y,Q,e,h,a,w,μ,df,w0,hl,hw0,hs,r,d,hr=>by
  have hr2 : EndsZ Q (bsL P tt n0) (J1d (J0k tt fn c0)) fn.ntmps μ h w w0 (zx (Bool.rec (.seq (J4i tt (J1d (J0k tt fn c0)) fn.ntmps fid x) (J4i tt (J1d (J0k tt fn c0)) fn.ntmps fid y)) (.y (J0y tt (J1d (J0k tt fn c0)) fn.ntmps (.seq x y))) (J2x (.seq x y))) fc self e h df):=hr
  cases hp : J2x (.seq x y) with
  | true=>rw [hp] at hr2; exact J3g hT hF hm (J1e _) hself _ hs r d hr2
  | false =>
   rw [hp] at hr2
   have hr3 : EndsZ Q (bsL P tt n0) (J1d (J0k tt fn c0)) fn.ntmps μ h w w0 (RZ.rec (motive:=fun _=>RZ) (fun e h df=>zx (J4i tt (J1d (J0k tt fn c0)) fn.ntmps fid y) fc self e h df) (fun id e h df=>.x id e h df) (fun e h df=>.r e h df) (fun v e h df=>.pn v e h df) .bad (zx (J4i tt (J1d (J0k tt fn c0)) fn.ntmps fid x) fc self e h df)):=hr2
   have hlx : ∀ z ∈ J1l x,z ∈ J1l c0:=fun z hz=>hl z (List.mem_append.2 (.inl hz))
   have hly : ∀ z ∈ J1l y,z ∈ J1l c0:=fun z hz=>hl z (List.mem_append.2 (.inr hz))
   refine wpIn_seq (J4r hT hF hm hfn hb hck hself x hlx hw0 hs r d ?_)
   cases hx : zx (J4i tt (J1d (J0k tt fn c0)) fn.ntmps fid x) fc self e h df with
   | n e1 h1 df1 =>
    rw [hx] at hr3
    intro a' w' μ' g1 g2 g3 g4
    exact J4r hT hF hm hfn hb hck hself y hly (Nat.le_trans hw0 g3.size) g1 g2 g4 (EndsZ.mono g3 hr3)
   | x id e1 h1 df1=>rw [hx] at hr3; exact fun a' w' μ' g1 g2 g3 g4=>hr3 a' w' μ' g1 g2 g3 g4
   | r e1 h1 df1=>rw [hx] at hr3; exact fun a' w' μ' g1 g2 g3 g4=>hr3 a' w' μ' g1 g2 g3 g4
   | pn v e1 h1 df1=>rw [hx] at hr3; exact fun a' w' μ' y g1 g2 g3 g4 g5=>hr3 a' w' μ' y g1 g2 g3 g4 g5
   | bad=>rw [hx] at hr3; exact hr3.elim
 | .cond c x y,Q,e,h,a,w,μ,df,w0,hl,hw0,hs,r,d,hr=>by
  have hr2 : EndsZ Q (bsL P tt n0) (J1d (J0k tt fn c0)) fn.ntmps μ h w w0 (zx (Bool.rec (.cond (J0d (J2c (J1d (J0k tt fn c0)) [] c)) (J4i tt (J1d (J0k tt fn c0)) fn.ntmps fid x) (J4i tt (J1d (J0k tt fn c0)) fn.ntmps fid y)) (.y (J0y tt (J1d (J0k tt fn c0)) fn.ntmps (.cond c x y))) (J2x (.cond c x y))) fc self e h df):=hr
  cases hp : J2x (.cond c x y) with
  | true=>rw [hp] at hr2; exact J3g hT hF hm (J1e _) hself _ hs r d hr2
  | false =>
   rw [hp] at hr2
   have hr3 : EndsZ Q (bsL P tt n0) (J1d (J0k tt fn c0)) fn.ntmps μ h w w0 (match ydV (J0d (J2c (J1d (J0k tt fn c0)) [] c)) [] e with | .b z=>Bool.rec (zx (J4i tt (J1d (J0k tt fn c0)) fn.ntmps fid y) fc self e h df) (zx (J4i tt (J1d (J0k tt fn c0)) fn.ntmps fid x) fc self e h df) z | _=>.bad):=hr2
   have hlx : ∀ z ∈ J1l x,z ∈ J1l c0:=fun z hz=>hl z (List.mem_append.2 (.inl hz))
   have hly : ∀ z ∈ J1l y,z ∈ J1l c0:=fun z hz=>hl z (List.mem_append.2 (.inr hz))
   have hv:=hs.op c
   rw [J0j] at hr3
   cases hc : odV [] e (J2c (J1d (J0k tt fn c0)) [] c) with
   | b z =>
    rw [hc] at hr3 hv
    rw [VR.b_iff] at hv
    cases z
    ·exact wpIn_cond_false hv (J4r hT hF hm hfn hb hck hself y hly hw0 hs r d hr3)
    ·exact wpIn_cond_true hv (J4r hT hF hm hfn hb hck hself x hlx hw0 hs r d hr3)
   | _=>rw [hc] at hr3; exact hr3.elim
 | .block id x,Q,e,h,a,w,μ,df,w0,hl,hw0,hs,r,d,hr=>by
  have hr2 : EndsZ Q (bsL P tt n0) (J1d (J0k tt fn c0)) fn.ntmps μ h w w0 (zx (Bool.rec (.block id (J4i tt (J1d (J0k tt fn c0)) fn.ntmps fid x)) (.y (J0y tt (J1d (J0k tt fn c0)) fn.ntmps (.block id x))) (J2x (.block id x))) fc self e h df):=hr
  cases hp : J2x (.block id x) with
  | true=>rw [hp] at hr2; exact J3g hT hF hm (J1e _) hself _ hs r d hr2
  | false =>
   rw [hp] at hr2
   have hr3 : EndsZ Q (bsL P tt n0) (J1d (J0k tt fn c0)) fn.ntmps μ h w w0 (RZ.rec (motive:=fun _=>RZ) (fun e h df=>.n e h df) (fun i e h df=>Bool.rec (.x i e h df) (.n e h df) (Nat.beq i id)) (fun e h df=>.r e h df) (fun v e h df=>.pn v e h df) .bad (zx (J4i tt (J1d (J0k tt fn c0)) fn.ntmps fid x) fc self e h df)):=hr2
   refine wpIn_block (J4r hT hF hm hfn hb hck hself x hl hw0 hs r d ?_)
   cases hx : zx (J4i tt (J1d (J0k tt fn c0)) fn.ntmps fid x) fc self e h df with
   | n e1 h1 df1=>rw [hx] at hr3; exact fun a' w' μ' g1 g2 g3 g4=>hr3 a' w' μ' g1 g2 g3 g4
   | x i e1 h1 df1 =>
    rw [hx] at hr3
    simp only at hr3
    intro a' w' μ' g1 g2 g3 g4
    show (if i = id then Q .normal a' w' else Q (.exit i) a' w')
    cases hb : Nat.beq i id <;> rw [hb] at hr3
    ·have hne : i ≠ id:=by intro e; rw [e,Nat.beq_refl] at hb; cases hb
     rw [if_neg hne]; exact hr3 a' w' μ' g1 g2 g3 g4
    ·rw [if_pos (Nat.eq_of_beq_eq_true hb)]; exact hr3 a' w' μ' g1 g2 g3 g4
   | r e1 h1 df1=>rw [hx] at hr3; exact fun a' w' μ' g1 g2 g3 g4=>hr3 a' w' μ' g1 g2 g3 g4
   | pn v e1 h1 df1=>rw [hx] at hr3; exact fun a' w' μ' y g1 g2 g3 g4 g5=>hr3 a' w' μ' y g1 g2 g3 g4 g5
   | bad=>rw [hx] at hr3; exact hr3.elim
 | .loop x,Q,e,h,a,w,μ,df,w0,hl,hw0,hs,r,d,hr=>by
  have hr2 : EndsZ Q (bsL P tt n0) (J1d (J0k tt fn c0)) fn.ntmps μ h w w0 (zx (Bool.rec .bad (.y (J0y tt (J1d (J0k tt fn c0)) fn.ntmps (.loop x))) (J2x (.loop x))) fc self e h df):=hr
  cases hp : J2x (.loop x) with
  | true=>rw [hp] at hr2; exact J3g hT hF hm (J1e _) hself _ hs r d hr2
  | false=>rw [hp] at hr2; exact hr2.elim
 | .rangeFunc g ps x y,Q,e,h,a,w,μ,df,w0,hl,hw0,hs,r,d,hr =>
  W9s hT hF hfn hb rfl hck (hl _ (List.mem_singleton.2 rfl)) hw0 hs r d hr
 | .exit id,Q,e,h,a,w,μ,df,w0,hl,hw0,hs,r,d,hr=>J3g hT hF hm (J1e _) hself (.exit id) hs r d hr
 | .ret,Q,e,h,a,w,μ,df,w0,hl,hw0,hs,r,d,hr=>J3g hT hF hm (J1e _) hself .ret hs r d hr
 | .scope _,Q,e,h,a,w,μ,df,w0,hl,hw0,hs,r,d,hr=>hr.elim
 | .label _,Q,e,h,a,w,μ,df,w0,hl,hw0,hs,r,d,hr=>hr.elim
 | .goto _,Q,e,h,a,w,μ,df,w0,hl,hw0,hs,r,d,hr=>hr.elim
 | .refuse _,Q,e,h,a,w,μ,df,w0,hl,hw0,hs,r,d,hr=>hr.elim
structure SLOK (P : Program) (n0 : Nat) (tt : TT) (sl : SLF) : Prop where
 y : ∀ {trk : Nat → Option S} {N : Nat},TK trk → ∀ (ro : Option Nat) (c : Code) {Q : Exit → Act → World → Prop} {e : E} {h : H} {a : Act} {w : World} {μ : M},SR μ trk N [] [] e a → HR (bsL P tt n0) μ h w →
  Ends Q (bsL P tt n0) trk N μ h w a.defers (sl.y (J0y tt trk N c) e h) → c.wpIn (FW ro) 0 P Q a w
 z : ∀ {fn : Func} {c0 : Code} {fid : Nat},P.funcs[fid]? = some fn → fn.body = some c0 → G8j (J1l c0) = true → ∀ {Q : Exit → Act → World → Prop} {e : E} {h : H} {a : Act} {w : World} {μ : M} {w0 : Nat},w0 ≤ w.heap.size →
  SR μ (J1d (J0k tt fn c0)) fn.ntmps [] [] e a → HR (bsL P tt n0) μ h w → a.defers = [] → EndsZ Q (bsL P tt n0) (J1d (J0k tt fn c0)) fn.ntmps μ h w w0 (sl.z (J4i tt (J1d (J0k tt fn c0)) fn.ntmps fid c0) e h) → c0.wpIn (FW none) 0 P Q a w
 zb : ∀ e h,sl.z .bad e h = .bad
theorem J7b (hT : TTok P tt) {B : Bs} {fid : Nat} {fn : Func} {c : Code} {e : E} {h : H} {v : V} {h' : H} (hf : fin (J1o tt fid fn c) e h = .ok v h') {μ : M} {w : World} {a : Act} (hs : SR μ (J1d (J0k tt fn c)) fn.ntmps [] [] e a) (r : HR B μ h w) :
  h' = h ∧ ∃ y,(results fn a.tmps).run P w = .ok y w ∧ VR μ v y:=by
 unfold fin at hf
 cases hrs : (J1o tt fid fn c).rs with
 | none=>rw [hrs] at hf; cases hf
 | some rs =>
  rw [hrs] at hf
  simp only at hf
  cases hl : resF e h rs with
  | none=>rw [hl] at hf; cases hf
  | some l =>
   rw [hl] at hf
   simp only [RC.ok.injEq] at hf
   obtain ⟨rfl,rfl⟩:=hf
   exact ⟨rfl,U4o (P:=P) hT hs r (fn:=fn) hrs hl⟩
theorem U0p {F : FE} {e : E} {h h' : H} {v : V} (hf : fin F e h = .pn v h') : False:=by
 unfold fin at hf
 split at hf
 ·split at hf <;> cases hf
 ·cases hf
theorem W1p {v : V} {h : H} (hne : pnF v h ≠ .bad) : pnF v h = .pn v h ∧ ∃ t y,v = .ifc t y:=by
 cases v <;> first | exact ⟨rfl,_,_,rfl⟩ | exact absurd rfl hne
theorem J9u (hT : TTok P tt) {self : SLF} (hS : SLOK P n0 tt self) {fid : Nat} {fn : Func} {c : Code} {vs : List V} {h : H} {x : RC}
  (hx : x = Bool.rec .bad (R.rec (motive:=fun _=>RC) (fun e h=>fin (J1o tt fid fn c) e h) (fun _ _ _=>.bad) (fun e h=>fin (J1o tt fid fn c) e h) (fun v _ h=>pnF v h) .bad (self.y (J1o tt fid fn c).code (J1m (J1o tt fid fn c).ws vs E.nil) h)) (Nat.ble vs.length (J1o tt fid fn c).N))
  (hne : x ≠ .bad) {μ : M} {w : World} {args : Array Value} (r : HR (bsL P tt n0) μ h w) (hv : VRs μ vs args.toList) :
  c.wpIn (FW none) 0 P (bodyPost P fn (G4i (bsL P tt n0) μ h w x)) { tmps:=args ++ Array.replicate (fn.ntmps - args.size) undef,defers:=[] } w:=by
 cases hn : Nat.ble vs.length (J1o tt fid fn c).N <;> rw [hn] at hx
 ·exact absurd hx hne
 simp only at hx
 have hinit:=SR.init (N:=fn.ntmps) (J1e (J0k tt fn c)) hv (Nat.le_of_ble_eq_true hn) []
 have hfin : ∀ (e : E) (h1 : H) (a' : Act) (w' : World) (μ' : M),fin (J1o tt fid fn c) e h1 = x → SR μ' (J1d (J0k tt fn c)) fn.ntmps [] [] e a' → HR (bsL P tt n0) μ' h1 w' → Ext μ h w μ' h1 w' → a'.defers = [] →
   a'.defers = [] ∧ ∃ y,(results fn a'.tmps).run P w' = .ok y w' ∧ G4i (bsL P tt n0) μ h w x (.returned y) w':=by
  intro e h1 a' w' μ' hfi hs hr hex hdf
  cases x with
  | ok v h' =>
   obtain ⟨rfl,y,y1,y2⟩:=J7b hT hfi hs hr
   exact ⟨hdf,y,y1,y,μ',rfl,y2,hr,hex⟩
  | pn v h'=>exact (U0p hfi).elim
  | bad=>exact absurd rfl hne
 refine hS.y (J1e _) none c hinit r ?_
 have hcode : (J1o tt fid fn c).code = J0y tt (J1d (J0k tt fn c)) fn.ntmps c:=rfl
 have hws : (J1o tt fid fn c).ws = U5q (J1d (J0k tt fn c)) fn.ntmps 0:=rfl
 rw [hcode,hws] at hx
 cases hy : self.y (J0y tt (J1d (J0k tt fn c)) fn.ntmps c) (J1m (U5q (J1d (J0k tt fn c)) fn.ntmps 0) vs E.nil) h with
 | n e h1=>rw [hy] at hx; exact fun a' w' μ' k1 k2 k3 k4=>hfin e h1 a' w' μ' hx.symm k1 k2 k3 k4
 | r e h1=>rw [hy] at hx; exact fun a' w' μ' k1 k2 k3 k4=>hfin e h1 a' w' μ' hx.symm k1 k2 k3 k4
 | x id e h1=>rw [hy] at hx; exact absurd hx hne
 | pn v e h1 =>
  rw [hy] at hx
  simp only at hx
  obtain ⟨p1,_⟩:=W1p (v:=v) (h:=h1) (by rw [← hx]; exact hne)
  rw [hx,p1]
  exact fun a' w' μ' y k1 k2 k3 k4 k5=>⟨k4,y,μ',rfl,k5,k2,k3⟩
 | bad=>rw [hy] at hx; exact absurd hx hne
def Q8o (P : Program) (B : Bs) (f : Nat) (vs : List V) (h : H) (x : RC) : Prop :=
 ∃ fn c, P.funcs[f]? = some fn ∧ (fn.name == "runtime.NumGoroutine") = false ∧ fn.body = some c ∧ ∀ μ w (args : Array Value), HR B μ h w → VRs μ vs args.toList →
  c.wpIn (FW none) 0 P (bodyPost P fn (G4i B μ h w x)) { tmps:=args ++ Array.replicate (fn.ntmps - args.size) undef,defers:=[] } w
theorem W0m (hT : TTok P tt) {ft : Nat → Option FE} (hFT : G4h P tt ft) {self : SLF} (hS : SLOK P n0 tt self) {f : Nat} {vs : List V} {h : H} (hne : J7j ft self f vs h ≠ .bad) : Q8o P (bsL P tt n0) f vs h (J7j ft self f vs h):=by
 unfold J7j at hne ⊢
 cases hf : ft f with
 | none=>rw [hf] at hne; exact absurd rfl hne
 | some F =>
  rw [hf] at hne
  simp only at hne ⊢
  obtain ⟨fn,c,g1,g2,g3,rfl⟩:=hFT f F hf
  cases hsp : (J1o tt f fn c).sp with
  | some z=>rw [hsp] at hne; exact absurd rfl hne
  | none =>
   rw [hsp] at hne
   exact ⟨fn,c,g1,g2,g3,fun μ w args r hv=>J9u hT hS rfl hne r hv⟩
theorem U0x {f : FuncId} {fn : Func} {c : Code} {args : Array Value} {u : FrameMode} {w : World} {R : Ending → FrameMode → World → Prop} {n : Nat}
  (hf : P.funcs[f]? = some fn) (hb : fn.body = some c)
  (h : ∀ (c₀ : Frame) (cs : List Frame),c₀.mode = u →
   c.wpS P (bodyPostS P fn c₀ cs R) { tmps:=args ++ Array.replicate (fn.ntmps - args.size) undef,defers:=[] } (c₀::cs) w) :
  CallsDIn (FW none) n P f args u w R:=by
 refine ⟨trivial,fun c₀ cs hu _=>?_⟩
 let b : Frame:={ (default : Frame) with fn:=f,kind:=.deferred }
 have henter : Frame.enter P f args .deferred =
   b.at { tmps:=args ++ Array.replicate (fn.ntmps - args.size) undef,defers:=[] } [.code c]:=by
  simp [Frame.enter,Frame.at,hf,hb,b]
 obtain ⟨e,a',cs',w',hq,harr⟩:=h c₀ cs hu b [] rfl rfl
 rw [← henter] at harr
 cases e with
 | normal =>
  obtain ⟨hd,u',rfl,v,hr,hR⟩:=hq
  exact ⟨.returned v,u',w',_,hR,comesIn_wide.2 (Steps.trans harr (.one step_end)),rfl,rfl,rfl,hd,fn,hf,hr⟩
 | ret =>
  obtain ⟨hd,u',rfl,v,hr,hR⟩:=hq
  obtain ⟨todo,hs⟩:=harr
  exact ⟨.returned v,u',w',_,hR,(comesIn_wide (e:=.returned v)).2 hs,rfl,rfl,rfl,hd,fn,hf,hr⟩
 | panic chain =>
  obtain ⟨hd,u',rfl,hR⟩:=hq
  obtain ⟨todo,hs⟩:=harr
  exact ⟨.panicked chain,u',w',_,hR,(comesIn_wide (e:=.panicked chain)).2 hs,rfl,rfl,rfl,hd,fn,hf⟩
 | exit id=>exact hq.elim
 | goto l=>exact hq.elim
 | outgrown =>
  obtain ⟨u',hR⟩:=hq
  exact ⟨.outgrown,u',w',b,hR,comesIn_wide.2 (harr.resolve_left (by simp [b])),rfl,rfl,trivial⟩
end
end Go.X
namespace Go.X
open Go.RowKit
section
variable {P : Program} {n0 : Nat} {tt : TT} {ft : Nat → Option FE} {lt : Nat → Option LC} {bt : BT} {self : SLF}
def MR (μ : M) (mode : Option V) (u : FrameMode) : Prop :=
 match mode with
 | none=>u = .returning
 | some v=>∃ y,u = .panicking (chn y) ∧ VR μ v y
theorem MR.mono {μ μ' : M} (h : M.le μ μ') {mode : Option V} {u : FrameMode} (m : MR μ mode u) : MR μ' mode u:=by
 cases mode with
 | none=>exact m
 | some v=>obtain ⟨y,h1,h2⟩:=m; exact ⟨y,h1,VR.mono h _ _ h2⟩
theorem MR.settle {μ : M} {mode : Option V} {u : FrameMode} (m : MR μ mode u) : settle u = u:=by
 cases mode with
 | none=>have : u = .returning:=m; subst this; rfl
 | some v=>obtain ⟨y,rfl,_⟩:=m; rfl
theorem MR.run {μ : M} {mode : Option V} {u : FrameMode} (m : MR μ mode u) : u ≠ .run:=by
 cases mode with
 | none=>have : u = .returning:=m; subst this; simp
 | some v=>obtain ⟨y,rfl,_⟩:=m; simp
theorem Q4t {trk : Nat → Option S} {N : Nat} {c : Code} {t : Option S} {y : YC} (h : rcOf tt trk N c = some (t,y)) :
  ∃ id ops b o cl td,c = .seq (.region id ops false) b ∧ ops.toList = [o] ∧ o.op = .call cl ∧ cl.callee = .builtin .recover ∧ o.guard = none ∧ o.dst = some td ∧ td < N ∧ t = trk td ∧ y = J0y tt trk N b:=by
 unfold rcOf at h
 split at h
 ·rename_i id ops b
  split at h
  ·rename_i o ho
   split at h
   ·rename_i cl hcl
    split at h
    ·rename_i hrc
     split at h
     ·rename_i td hg hd
      cases hb : Nat.ble (td + 1) N <;> rw [hb] at h
      ·cases h
      ·simp only [Option.some.injEq,Prod.mk.injEq] at h
       exact ⟨id,ops,b,o,cl,td,rfl,ho,hcl,hrc,hg,hd,Nat.le_of_ble_eq_true hb,h.1.symm,h.2.symm⟩
     ·cases h
    ·cases h
   ·cases h
  ·cases h
 ·cases h
theorem W0k (hT : TTok P tt) (hFT : G4h P tt ft) (hS : SLOK P n0 tt self) {mode mode' : Option V} {g : Nat} {ca cc xs : List V} {h h' : H} (hd : W5d ft self (J7j ft self) mode (.fn (.func g) ca cc) xs h = some (mode',h'))
  {μ : M} {w : World} {u : FrameMode} {first cap args : Array Value} (r : HR (bsL P tt n0) μ h w) (hu : MR μ mode u) (h1 : VRs μ ca first.toList) (h2 : VRs μ cc cap.toList) (h3 : VRs μ xs args.toList) :
  (∃ fn c, P.funcs[g]? = some fn ∧ (fn.name == "runtime.NumGoroutine") = false ∧ fn.body = some c) ∧
  CallsDIn (FW none) 0 P g ((first ++ args) ++ cap) u w fun e u' w'=>∃ v μ',e = .returned v ∧ MR μ' mode' (settle u') ∧ HR (bsL P tt n0) μ' h' w' ∧ Ext μ h w μ' h' w':=by
 have hv : VRs μ (ca ++ (xs ++ cc)) ((first ++ args) ++ cap).toList:=by
  have:=VRs.append h1 (VRs.append h3 h2)
  simpa using this
 have hd2 : (match ft g with
   | some F=>match F.rc with
    | some (t,y)=>Bool.rec none (R.rec (motive:=fun _=>Option (Option V × H)) (fun e h=>match fin F e h with | .ok _ h=>some (none,h) | _=>none) (fun _ _ _=>none) (fun e h=>match fin F e h with | .ok _ h=>some (none,h) | _=>none) (fun _ _ _=>none) none
      (self.y y (match t with | some s=>wrS s (mode.getD .inil) (J1m F.ws (ca ++ (xs ++ cc)) E.nil) | none=>J1m F.ws (ca ++ (xs ++ cc)) E.nil) h)) (Nat.ble (ca ++ (xs ++ cc)).length F.N)
    | none=>match J7j ft self g (ca ++ (xs ++ cc)) h with | .ok _ h=>some (mode,h) | _=>none
   | none=>none) = some (mode',h'):=hd
 cases hf : ft g with
 | none=>rw [hf] at hd2; cases hd2
 | some F =>
  rw [hf] at hd2
  simp only at hd2
  obtain ⟨fn,c,g1,g2,g3,rfl⟩:=hFT g F hf
  refine ⟨⟨fn,c,g1,g2,g3⟩,?_⟩
  cases hrc : (J1o tt g fn c).rc with
  | none =>
   rw [hrc] at hd2
   simp only at hd2
   cases hc : J7j ft self g (ca ++ (xs ++ cc)) h with
   | bad=>rw [hc] at hd2; cases hd2
   | pn v h1=>rw [hc] at hd2; cases hd2
   | ok v h1 =>
    rw [hc] at hd2
    simp only [Option.some.injEq,Prod.mk.injEq] at hd2
    obtain ⟨rfl,rfl⟩:=hd2
    obtain ⟨fn1,c1,k1,k2,k3,k4⟩:=W0m hT hFT hS (f:=g) (vs:=ca ++ (xs ++ cc)) (h:=h) (by rw [hc]; simp)
    rw [hc] at k4
    refine (callsDIn_of_wp (F:=FW none) k1 k3 trivial (k4 μ w _ r hv) : CallsDIn (FW none) 0 P g ((first ++ args) ++ cap) u w _) |>.2 |> fun q=>⟨trivial,fun c0 cs hu0 hr0=>?_⟩
    obtain ⟨e,u',w',fr,⟨q1,q2⟩,q3⟩:=q c0 cs hu0 hr0
    obtain ⟨y,μ',p1,p2,p3,p4⟩:=q2
    subst q1
    exact ⟨e,u',w',fr,⟨y,μ',p1,by rw [hu.settle]; exact hu.mono p4.le,p3,p4⟩,q3⟩
  | some ty =>
   obtain ⟨t,y⟩:=ty
   rw [hrc] at hd2
   simp only at hd2
   cases hn : Nat.ble (ca ++ (xs ++ cc)).length (J1o tt g fn c).N <;> rw [hn] at hd2
   ·cases hd2
   simp only at hd2
   obtain ⟨id,ops,b,o,cl,td,rfl,ho,hcl,hrec,hgd,hdst,htd,rfl,rfl⟩:=Q4t hrc
   refine U0x g1 g3 fun c0 cs hc0=>?_
   have hinit:=SR.init (N:=fn.ntmps) (J1e (J0k tt fn (.seq (.region id ops false) b))) hv (Nat.le_of_ble_eq_true hn) []
   have hsz : ops.size = 1:=by have:=congrArg List.length ho; simpa using this
   have ho0 : ops[0]? = some o:=by
    have : ops.toList[0]? = some o:=by rw [ho]; rfl
    simpa using this
   have hwant : ∀ y,Region.wanted o y = true:=by intro y; unfold Region.wanted; rw [hgd]
   obtain ⟨a0,ha0⟩ : ∃ a0 : Act,a0 = { tmps:=((first ++ args) ++ cap) ++ Array.replicate (fn.ntmps - ((first ++ args) ++ cap).size) undef,defers:=[] }:=⟨_,rfl⟩
   rw [← ha0] at hinit ⊢
   have hrun : (execOp a0.eval o).run P w = .ok .recover w:=by
    obtain ⟨dst,op,type,pos,after,guard⟩:=o
    simp only at hcl
    subst hcl
    obtain ⟨callee,ar,at_⟩:=cl
    simp only at hrec
    subst hrec
    rfl
   have hbody : ∀ (v : V) (yv : Value) (u' : FrameMode),VR μ v yv → v = mode.getD .inil → settle u' = .returning →
     b.wpS P (bodyPostS P fn c0 cs fun e u' w'=>∃ v μ',e = .returned v ∧ MR μ' mode' (settle u') ∧ HR (bsL P tt n0) μ' h' w' ∧ Ext μ h w μ' h' w') (a0.put o.dst yv) ({ c0 with mode:=u' }::cs) w:=by
    intro v yv u' hvv hve hset
    refine wpS_of_wp (wpIn_wide (n:=0).1 ?_)
    have hsr : SR μ (J1d (J0k tt fn (.seq (.region id ops false) b))) fn.ntmps [] [] (wbk (J1d (J0k tt fn (.seq (.region id ops false) b))) [o.dst] [v] (J1m (U5q (J1d (J0k tt fn (.seq (.region id ops false) b))) fn.ntmps 0) (ca ++ (xs ++ cc)) E.nil)) (a0.put o.dst yv) :=
     (hinit.put hvv (d:=o.dst) (fun t ht=>by rw [hdst] at ht; cases ht; exact htd)).close (J1e _) rfl
    have henv : wbk (J1d (J0k tt fn (.seq (.region id ops false) b))) [o.dst] [v] (J1m (U5q (J1d (J0k tt fn (.seq (.region id ops false) b))) fn.ntmps 0) (ca ++ (xs ++ cc)) E.nil) =
      (match J1d (J0k tt fn (.seq (.region id ops false) b)) td with | some s=>wrS s (mode.getD .inil) (J1m (J1o tt g fn (.seq (.region id ops false) b)).ws (ca ++ (xs ++ cc)) E.nil) | none=>J1m (J1o tt g fn (.seq (.region id ops false) b)).ws (ca ++ (xs ++ cc)) E.nil):=by
     rw [hdst,hve]
     show (match J1d (J0k tt fn (.seq (.region id ops false) b)) td with | some s=>_ | none=>_) = _
     cases J1d (J0k tt fn (.seq (.region id ops false) b)) td <;> rfl
    rw [henv] at hsr
    have hdf : (a0.put o.dst yv).defers = []:=by rw [J3o,ha0]
    refine hS.y (J1e _) none b hsr r ?_
    rw [hdf]
    have hfin : ∀ (e : E) (h1 : H) (a' : Act) (w' : World) (μ' : M),(match fin (J1o tt g fn (.seq (.region id ops false) b)) e h1 with | .ok _ h=>some (none,h) | _=>none) = some (mode',h') → SR μ' (J1d (J0k tt fn (.seq (.region id ops false) b))) fn.ntmps [] [] e a' → HR (bsL P tt n0) μ' h1 w' → Ext μ h w μ' h1 w' → a'.defers = [] →
      a'.defers = [] ∧ ∃ u'',({ c0 with mode:=u' }::cs : List Frame) = { c0 with mode:=u'' }::cs ∧ ∃ v,(results fn a'.tmps).run P w' = .ok v w' ∧ ∃ v' μ',Ending.returned v = .returned v' ∧ MR μ' mode' (settle u'') ∧ HR (bsL P tt n0) μ' h' w' ∧ Ext μ h w μ' h' w':=by
     intro e h1 a' w' μ' hfi hs hr hex hdf
     cases hfn : fin (J1o tt g fn (.seq (.region id ops false) b)) e h1 with
     | ok v1 h2 =>
      rw [hfn] at hfi
      simp only [Option.some.injEq,Prod.mk.injEq] at hfi
      obtain ⟨rfl,rfl⟩:=hfi
      obtain ⟨rfl,y,y1,y2⟩:=J7b hT hfn hs hr
      exact ⟨hdf,u',rfl,y,y1,y,μ',rfl,hset,hr,hex⟩
     | pn v1 h2=>rw [hfn] at hfi; cases hfi
     | bad=>rw [hfn] at hfi; cases hfi
    cases hy : self.y (J0y tt (J1d (J0k tt fn (.seq (.region id ops false) b))) fn.ntmps b) (match J1d (J0k tt fn (.seq (.region id ops false) b)) td with | some s=>wrS s (mode.getD .inil) (J1m (J1o tt g fn (.seq (.region id ops false) b)).ws (ca ++ (xs ++ cc)) E.nil) | none=>J1m (J1o tt g fn (.seq (.region id ops false) b)).ws (ca ++ (xs ++ cc)) E.nil) h with
    | n e h1=>rw [hy] at hd2; exact fun a' w' μ' k1 k2 k3 k4=>hfin e h1 a' w' μ' hd2 k1 k2 k3 k4
    | r e h1=>rw [hy] at hd2; exact fun a' w' μ' k1 k2 k3 k4=>hfin e h1 a' w' μ' hd2 k1 k2 k3 k4
    | x id e h1=>rw [hy] at hd2; cases hd2
    | pn v e h1=>rw [hy] at hd2; cases hd2
    | bad=>rw [hy] at hd2; cases hd2
   refine wpS_seq (wpS_region ?_)
   rw [hsz]
   show wpOpsS P ops _ [0] a0 (c0::cs) w
   unfold wpOpsS
   rw [ho0]
   simp only
   rw [if_pos (hwant _),hrun]
   simp only
   cases mode with
   | none =>
    have : u = .returning:=hu
    subst this
    have hre : recoverD (c0::cs) = none:=by simp only [recoverD,hc0]
    rw [hre]
    simp only
    have hce : ({ c0 with mode:=.returning } : Frame) = c0:=by rw [← hc0]
    have:=hbody .inil .nilIface .returning (by simp only [VR]) rfl rfl
    rw [hce] at this
    exact this
   | some v =>
    obtain ⟨yv,rfl,hvv⟩:=hu
    have hre : recoverD (c0::cs) = some (yv,{ c0 with mode:=.panicking [{ v:=yv,recovered:=true }] }::cs):=by simp only [recoverD,hc0]
    rw [hre]
    exact hbody v yv (.panicking [{ v:=yv,recovered:=true }]) hvv rfl rfl
theorem J3a (hT : TTok P tt) (hFT : G4h P tt ft) (hS : SLOK P n0 tt self) {fid : Nat} {fn : Func} {c : Code} {e : E} {tmps : Array Value} {μ0 : M} {h0 : H} {w0 : World} {x : RC} (hne : x ≠ .bad) :
  ∀ (ds : List Deferred) {df : DF} {mode : Option V} {u : FrameMode} {μ : M} {h : H} {w : World},DRel μ h w w0.heap.size df ds → x = W0a ft self (J7j ft self) (J1o tt fid fn c) e df mode h → MR μ mode u → SR μ (J1d (J0k tt fn c)) fn.ntmps [] [] e { tmps:=tmps,defers:=[] } →
   HR (bsL P tt n0) μ h w → Ext μ0 h0 w0 μ h w → LeavesInM (FW none) 0 P fn tmps (G4i (bsL P tt n0) μ0 h0 w0 x) ds u w
 | [],df,mode,u,μ,h,w,d,hx,hu,hs,r,hex=>by
  cases d
  cases mode with
  | none =>
   have : u = .returning:=hu
   subst this
   have hx2 : x = fin (J1o tt fid fn c) e h:=hx
   cases x with
   | ok v h' =>
    obtain ⟨rfl,y,y1,y2⟩:=J7b hT hx2.symm hs r
    exact ⟨y,y1,y,μ,rfl,y2,r,hex⟩
   | pn v h'=>exact (U0p hx2.symm).elim
   | bad=>exact absurd rfl hne
  | some v =>
   obtain ⟨y,rfl,hv⟩:=hu
   have hx2 : x = pnF v h:=hx
   obtain ⟨p1,_⟩:=W1p (v:=v) (h:=h) (by rw [← hx2]; exact hne)
   rw [hx2,p1]
   exact ⟨y,μ,rfl,hv,r,hex⟩
 | d1::ds,df,mode,u,μ,h,w,d,hx,hu,hs,r,hex=>by
  refine ⟨hu.run,?_⟩
  cases d with
  | mark q1 q2 q3 q4 q5 =>
   rename_i rr
   refine .inl ⟨rr,w.putObj rr (.deferred none),rfl,run_takeDeferred q2,?_⟩
   exact J3a hT hFT hS hne ds (q5.off q4 _) hx hu hs (r.off q3 _) (hex.off q1 _)
  | call q1 q2 q3 q4 =>
   rename_i df g a cc xs first cap args
   have hx2 : x = (match W5d ft self (J7j ft self) mode (.fn (.func g) a cc) xs h with | some (mode,h)=>W0a ft self (J7j ft self) (J1o tt fid fn c) e df mode h | none=>.bad):=hx
   cases hd : W5d ft self (J7j ft self) mode (.fn (.func g) a cc) xs h with
   | none=>rw [hd] at hx2; exact absurd hx2 hne
   | some mh =>
    obtain ⟨mode',h'⟩:=mh
    rw [hd] at hx2
    obtain ⟨⟨fn1,c1,b1,b2,b3⟩,hc⟩:=W0k hT hFT hS hd r hu q1 q2 q3
    refine .inr ⟨fun e=>absurd e (by simp [FW,Fence.wide]),.func g,cap,g,(first ++ args) ++ cap,rfl,?_,fun _ _=>trivial,hc.1,?_⟩
    ·show (callFunc g ((first ++ args) ++ cap)).run P w = _
     exact J2j b1 b2 b3 _ _
    ·intro c0 cs hu0 hr0
     obtain ⟨en,u',w',fr,⟨v,μ',rfl,k2,k3,k4⟩,k5⟩:=hc.2 c0 cs hu0 hr0
     refine ⟨_,u',w',fr,?_,k5⟩
     exact J3a hT hFT hS hne ds (q4.step k4) hx2 k2 (hs.mono k4.le) k3 (hex.trans k4)
theorem W0n (hT : TTok P tt) (hFT : G4h P tt ft) (hS : SLOK P n0 tt self) {f : Nat} {fn : Func} {c : Code} (g1 : P.funcs[f]? = some fn) (g3 : fn.body = some c) {vs : List V} {h : H} (hne : W5g ft self (J7j ft self) (J1o tt f fn c) vs h ≠ .bad)
  {μ : M} {w : World} {args : Array Value} (r : HR (bsL P tt n0) μ h w) (hv : VRs μ vs args.toList) : Calls P f args w (G4i (bsL P tt n0) μ h w (W5g ft self (J7j ft self) (J1o tt f fn c) vs h)):=by
 obtain ⟨x,hx⟩ : ∃ x,x = W5g ft self (J7j ft self) (J1o tt f fn c) vs h:=⟨_,rfl⟩
 rw [← hx] at hne ⊢
 unfold W5g at hx
 cases hsp : (J1o tt f fn c).sp with
 | none =>
  rw [hsp] at hx
  exact calls_of_wp g1 g3 (wpIn_wide (n:=0).1 (J9u hT hS hx hne r hv))
 | some z =>
  rw [hsp] at hx
  cases hn : Nat.ble vs.length (J1o tt f fn c).N <;> rw [hn] at hx
  ·exact absurd hx hne
  simp only at hx
  have hz : z = Bool.rec .bad (J4i tt (J1d (J0k tt fn c)) fn.ntmps f c) (G8j (J1l c)):=by
   have h1 : (Bool.rec (some (Bool.rec .bad (J4i tt (J1d (J0k tt fn c)) fn.ntmps f c) (G8j (J1l c)))) none (J2x c) : Option ZC) = some z:=hsp
   cases hp : J2x c <;> rw [hp] at h1
   ·exact (Option.some.inj h1).symm
   ·cases h1
  cases hck : G8j (J1l c) with
  | false =>
   rw [hck] at hz
   subst hz
   rw [hS.zb] at hx
   exact absurd hx hne
  | true =>
   rw [hck] at hz
   subst hz
   refine callsIn_wide.1 (callsIn_of_wp_marks (F:=FW none) (n:=0) g1 g3 trivial ?_)
   have hinit:=SR.init (N:=fn.ntmps) (J1e (J0k tt fn c)) hv (Nat.le_of_ble_eq_true hn) []
   refine hS.z g1 g3 hck (w0:=w.heap.size) (Nat.le_refl _) hinit r rfl ?_
   have hws : (J1o tt f fn c).ws = U5q (J1d (J0k tt fn c)) fn.ntmps 0:=rfl
   rw [hws] at hx
   cases hy : self.z (J4i tt (J1d (J0k tt fn c)) fn.ntmps f c) (J1m (U5q (J1d (J0k tt fn c)) fn.ntmps 0) vs E.nil) h with
   | n e h1 df =>
    rw [hy] at hx
    intro a' w' μ' k1 k2 k3 k4
    exact J3a hT hFT hS hne a'.defers (mode:=none) k4 hx rfl ⟨k1.val,k1.size⟩ k2 k3
   | r e h1 df =>
    rw [hy] at hx
    intro a' w' μ' k1 k2 k3 k4
    exact J3a hT hFT hS hne a'.defers (mode:=none) k4 hx rfl ⟨k1.val,k1.size⟩ k2 k3
   | x id e h1 df=>rw [hy] at hx; exact absurd hx hne
   | pn v e h1 df =>
    rw [hy] at hx
    intro a' w' μ' y k1 k2 k3 k4 k5
    exact J3a hT hFT hS hne a'.defers (mode:=some v) k4 hx ⟨y,rfl,k5⟩ ⟨k1.val,k1.size⟩ k2 k3
   | bad=>rw [hy] at hx; exact absurd hx hne
theorem G0c {g : BF} {vs : List V} {h h' : H} {v : V} (hx : rcB g vs h = .pn v h') : False:=by
 cases g with
 | p g=>simp only [rcB] at hx; split at hx <;> cases hx
 | h g=>simp only [rcB,rcO] at hx; split at hx <;> cases hx
def BTok (P : Program) (B : Bs) (bt : BT) : Prop :=
 ∀ f g,bt f = some g → ∀ vs h v h',rcB g vs h = .ok v h' → CallOK P B f vs h (.ok v h')
theorem W2q (hT : TTok P tt) (hFT : G4h P tt ft) (hBT : BTok P (bsL P tt n0) bt) (hS : SLOK P n0 tt self) {f : Nat} {vs : List V} {h : H} (hne : U0y ft bt self f vs h ≠ .bad) : CallOK P (bsL P tt n0) f vs h (U0y ft bt self f vs h):=by
 unfold U0y at hne ⊢
 cases hb : bt f with
 | some g =>
  rw [hb] at hne
  simp only at hne ⊢
  cases hg : rcB g vs h with
  | bad=>rw [hg] at hne; exact absurd rfl hne
  | pn v h'=>exact (G0c hg).elim
  | ok v h'=>exact hBT f g hb vs h v h' hg
 | none =>
  rw [hb] at hne
  simp only at hne ⊢
  cases hf : ft f with
  | none=>rw [hf] at hne; exact absurd rfl hne
  | some F =>
   rw [hf] at hne
   simp only at hne ⊢
   obtain ⟨fn,c,g1,g2,g3,rfl⟩:=hFT f F hf
   exact .inl ⟨⟨fn,c,g1,g2,g3⟩,fun μ w args r hv=>W0n hT hFT hS g1 g3 hne r hv⟩
theorem J6v {call : Nat → List V → H → RC} {F : FE} {e : E} : ∀ {df : DF} {mode : Option V} {h h' : H} {v : V},W0a ft self call F e df mode h = .pn v h' → ∃ t y,v = .ifc t y
 | [],none,h,h',v,hx=>(U0p hx).elim
 | [],some v0,h,h',v,hx=>by
  have hx2 : pnF v0 h = .pn v h':=hx
  obtain ⟨p1,t,y,rfl⟩:=W1p (v:=v0) (h:=h) (by rw [hx2]; simp)
  cases hx2; exact ⟨t,y,rfl⟩
 | d::df,mode,h,h',v,hx=>by
  have hx2 : (match W5d ft self call mode d.1 d.2 h with | some (mode,h)=>W0a ft self call F e df mode h | none=>.bad) = .pn v h':=hx
  cases hd : W5d ft self call mode d.1 d.2 h with
  | none=>rw [hd] at hx2; cases hx2
  | some mh=>obtain ⟨m,h1⟩:=mh; rw [hd] at hx2; exact J6v hx2
theorem G3m {f : Nat} {vs : List V} {h h' : H} {v : V} (hx : U0y ft bt self f vs h = .pn v h') : ∃ t y,v = .ifc t y:=by
 have hp : ∀ {v0 : V} {h0 : H},pnF v0 h0 = .pn v h' → ∃ t y,v = .ifc t y:=by
  intro v0 h0 hx
  obtain ⟨p1,t,y,rfl⟩:=W1p (v:=v0) (h:=h0) (by rw [hx]; simp)
  cases hx; exact ⟨t,y,rfl⟩
 unfold U0y at hx
 cases hb : bt f with
 | some g =>
  rw [hb] at hx
  exact (G0c hx).elim
 | none =>
  rw [hb] at hx
  simp only at hx
  cases hf : ft f with
  | none=>rw [hf] at hx; cases hx
  | some F =>
   rw [hf] at hx
   simp only at hx
   unfold W5g at hx
   cases hn : Nat.ble vs.length F.N <;> rw [hn] at hx
   ·cases hx
   simp only at hx
   cases hsp : F.sp with
   | none =>
    rw [hsp] at hx
    simp only at hx
    cases hy : self.y F.code (J1m F.ws vs E.nil) h <;> rw [hy] at hx
    ·exact (U0p hx).elim
    ·cases hx
    ·exact (U0p hx).elim
    ·exact hp hx
    ·cases hx
   | some z =>
    rw [hsp] at hx
    simp only at hx
    cases hy : self.z z (J1m F.ws vs E.nil) h <;> rw [hy] at hx
    ·exact J6v hx
    ·cases hx
    ·exact J6v hx
    ·exact J6v hx
    ·cases hx
end
end Go.X
namespace Go.X
open Go.RowKit
section
variable {P : Program} {n0 : Nat} {tt : TT} {ft : Nat → Option FE} {lt : Nat → Option LC} {bt : BT} {self : SLF}
theorem SR.params {trk : Nat → Option S} {N : Nat} {μ : M} (hN : TK trk) : ∀ (ps : List Nat) (vs : List V) (args : List Value) {e : E} {tmps : Array Value},VRs μ vs args → SR μ trk N [] [] e { tmps:=tmps,defers:=[] } →
  SR μ trk N [] [] (J1m (ps.map fun t=>(Bool.rec none (trk t) (Nat.ble (Nat.succ t) N) : Option S)) vs e) { tmps:=(ps.zip args).foldl (fun tm (x : Nat × Value)=>tm.setIfInBounds x.1 x.2) tmps,defers:=[] }
 | [],vs,args,e,tmps,hv,hs=>hs
 | t::ps,[],args,e,tmps,hv,hs=>by
  rw [VRs.nil_iff] at hv; subst hv
  exact hs
 | t::ps,v::vs,args,e,tmps,hv,hs=>by
  obtain ⟨y,ys,rfl,h1,h2⟩:=VRs.cons_iff.1 hv
  have hdef : J1m ((t::ps).map fun t=>(Bool.rec none (trk t) (Nat.ble (Nat.succ t) N) : Option S)) (v::vs) e =
    (match (Bool.rec none (trk t) (Nat.ble (Nat.succ t) N) : Option S) with
     | some s=>J1m (ps.map fun t=>(Bool.rec none (trk t) (Nat.ble (Nat.succ t) N) : Option S)) vs (wrS s v e)
     | none=>J1m (ps.map fun t=>(Bool.rec none (trk t) (Nat.ble (Nat.succ t) N) : Option S)) vs e):=rfl
  have hfold : ((t::ps).zip (y::ys)).foldl (fun tm (x : Nat × Value)=>tm.setIfInBounds x.1 x.2) tmps = (ps.zip ys).foldl (fun tm (x : Nat × Value)=>tm.setIfInBounds x.1 x.2) (tmps.setIfInBounds t y):=rfl
  rw [hdef,hfold]
  cases hb : Nat.ble (Nat.succ t) N with
  | false =>
   simp only
   refine SR.params hN ps vs ys h2 ?_
   have hge : tmps.size ≤ t:=by
    have h3:=hs.size
    simp only at h3
    have h4 : ¬ t + 1 ≤ N:=fun h=>by rw [show Nat.succ t = t + 1 from rfl,Nat.ble_eq_true_of_le h] at hb; cases hb
    omega
   have : tmps.setIfInBounds t y = tmps:=by
    unfold Array.setIfInBounds
    rw [dif_neg (by omega)]
   rw [this]; exact hs
  | true =>
   simp only
   have hlt : t < N:=Nat.le_of_ble_eq_true hb
   have hp:=(hs.put h1 (d:=some t) (fun t' ht=>by cases ht; exact hlt)).close hN rfl
   have hp2 : SR μ trk N [] [] (wbk trk [some t] [v] e) { tmps:=tmps.setIfInBounds t y,defers:=[] }:=⟨hp.val,hp.size⟩
   have hw : wbk trk [some t] [v] e = (match trk t with | some s=>wrS s v e | none=>e):=by
    show (match trk t with | some s=>_ | none=>_) = _
    cases trk t <;> rfl
   rw [hw] at hp2
   cases ht : trk t with
   | none=>rw [ht] at hp2; exact SR.params hN ps vs ys h2 hp2
   | some s=>rw [ht] at hp2; exact SR.params hN ps vs ys h2 hp2
theorem J8f {b j : Nat} {h2 : H} {x : RC} (hx : x = Q7r b j h2) (hne : x ≠ .bad) {μ0 : M} {h0 : H} {w0 : World} {μ : M} {w : World} {g q : Nat} (hm : μ b = some (g,q)) (r : HR (bsL P tt n0) μ h2 w) (hex : Ext μ0 h0 w0 μ h2 w) {jump : Option Code} (hj : jN jump = some j) :
  ∃ v w',(Instr.endRound g jump).run P w = .ok v w' ∧ G4i (bsL P tt n0) μ0 h0 w0 x (.returned v) w':=by
 unfold Q7r at hx
 cases hg : H.get h2 b <;> rw [hg] at hx <;> simp only at hx <;> try (exact absurd hx hne)
 rename_i id e st j0
 obtain ⟨g1,q1,m1,m2,m3⟩:=r.obj b (by rw [hg]; simp)
 rw [hm] at m1; cases m1
 rw [hg] at m3
 obtain ⟨rl,n1,n2,n3,n4⟩:=m3
 have hrun:=run_endRound (P:=P) jump n1
 refine ⟨_,_,hrun,?_⟩
 have hlt : g < w.heap.size:=(Array.getElem?_eq_some_iff.1 n1).1
 have hjb : jump.isNone = Nat.beq j 0:=by
  cases jump with
  | none=>cases hj; rfl
  | some c=>cases c <;> simp only [jN] at hj <;> first | (cases hj; done) | (cases hj; rfl)
 have hnd : h2.get b ≠ .dead:=by rw [hg]; simp
 have hor : OR (bsL P tt n0) μ (w.putObj g (.loop { rl with state:=if jump.isNone then .ready else .done,pending:=jump })) g q (μ.cap b) (.lp id e (Bool.rec 2 0 (Nat.beq j 0)) j):=by
  refine ⟨_,World.putObj_heap_same hlt,?_,?_,hj⟩
  ·exact (bsL P tt n0).same _ _ n2
  ·rw [hjb]
   cases Nat.beq j 0 <;> rfl
 have hr':=r.upd hnd hm (w':=w.putObj g (.loop { rl with state:=if jump.isNone then .ready else .done,pending:=jump })) (o':=.lp id e (Bool.rec 2 0 (Nat.beq j 0)) j) (fun k hk=>World.putObj_heap_other hk) World.putObj_size hor
 have he':=Ext.upd (h:=h2) hnd hm (w:=w) (w':=w.putObj g (.loop { rl with state:=if jump.isNone then .ready else .done,pending:=jump })) (o':=.lp id e (Bool.rec 2 0 (Nat.beq j 0)) j) (fun k hk=>World.putObj_heap_other hk) World.putObj_size rfl rfl rfl
 rw [hx]
 refine ⟨_,μ,rfl,?_,hr',hex.trans he'⟩
 rw [hjb]
 simp only [VR]
theorem W6i (hT : TTok P tt) (hLT : LTok P tt lt) (hS : SLOK P n0 tt self) {b : Nat} {vs : List V} {h : H} (hne : J9k lt self b vs h ≠ .bad) : G4e P (bsL P tt n0) b vs h (J9k lt self b vs h):=by
 intro μ w args g q r hv hm
 obtain ⟨x,hx⟩ : ∃ x,x = J9k lt self b vs h:=⟨_,rfl⟩
 rw [← hx] at hne ⊢
 unfold J9k at hx
 cases hg : H.get h b <;> rw [hg] at hx <;> simp only at hx <;> try (exact absurd hx hne)
 rename_i id e st j
 cases hl : lt id with
 | none=>rw [hl] at hx; exact absurd hx hne
 | some L =>
  rw [hl] at hx
  simp only at hx
  cases hlen : Nat.beq vs.length L.ps.length <;> rw [hlen] at hx
  ·exact absurd hx hne
  simp only at hx
  obtain ⟨g1,q1,m1,m2,m3⟩:=r.obj b (by rw [hg]; simp)
  rw [hm] at m1; cases m1
  rw [hg] at m3
  obtain ⟨rl,n1,⟨fn,c,y,k1,k2,k3,k4,k5,k6,k7⟩,n3,n4⟩:=m3
  obtain ⟨fn',c',y',z1,z2,z3,rfl⟩:=hLT id L hl
  rw [k1] at z1; cases z1
  rw [k2] at z2; cases z2
  rw [k3] at z3; cases z3
  have hlen2:=Nat.eq_of_beq_eq_true hlen
  have hps : (W5e tt fn c y).ps = y.1.map fun t=>(Bool.rec none (J1d (J0k tt fn c) t) (Nat.ble (Nat.succ t) fn.ntmps) : Option S):=rfl
  have hsz : args.size = rl.params.size:=by
   have a1:=hv.len
   rw [hps,List.length_map,← k4] at hlen2
   simp at a1 hlen2
   omega
  refine ⟨g,rl.fn,_,rl.assign,rl.body,run_yield n1 hsz,?_⟩
  refine roundIn_of_wpIn (F:=Fence.wide) trivial ?_
  have hfold : (rl.params.zip args).foldl (fun tmps (x : Tmp × Value)=>match x with | (t,a)=>tmps.setIfInBounds t a) rl.tmps = (y.1.zip args.toList).foldl (fun tm (x : Nat × Value)=>tm.setIfInBounds x.1 x.2) rl.tmps:=by
   rw [← Array.foldl_toList,Array.toList_zip,k4]
  have hsr0:=SR.params (J1e (J0k tt fn c)) y.1 vs args.toList hv k7
  rw [← hps,← hfold] at hsr0
  have hAs : rl.assign.wpIn (FW (some g)) 0 P (Exit.then (fun a₁ w₁=>∃ w₂,(Instr.beginRound g).run P w₁ = .ok () w₂ ∧ rl.body.wpIn (FW (some g)) 0 P (roundPost P g (G4i (bsL P tt n0) μ h w x)) a₁ w₂) (fun _ _ _=>False))
    { tmps:=(rl.params.zip args).foldl (fun tmps (x : Tmp × Value)=>match x with | (t,a)=>tmps.setIfInBounds t a) rl.tmps,defers:=[] } w:=by
   rw [k5]
   refine hS.y (J1e _) (some g) y.2.1 hsr0 r ?_
   have hcA : (W5e tt fn c y).assign = J0y tt (J1d (J0k tt fn c)) fn.ntmps y.2.1:=rfl
   rw [hcA] at hx
   cases hy : self.y (J0y tt (J1d (J0k tt fn c)) fn.ntmps y.2.1) (J1m (W5e tt fn c y).ps vs e) h with
   | x _ _ _=>rw [hy] at hx; exact absurd hx hne
   | r _ _=>rw [hy] at hx; exact absurd hx hne
   | pn _ _ _=>rw [hy] at hx; exact absurd hx hne
   | bad=>rw [hy] at hx; exact absurd hx hne
   | n e1 h1 =>
    rw [hy] at hx
    simp only at hx
    intro a1 w1 μ1 s1 r1 ex1 d1
    unfold Q7w at hx
    cases hg1 : H.get h1 b <;> rw [hg1] at hx <;> simp only at hx <;> try (exact absurd hx hne)
    rename_i id1 e1' st1 j1
    cases hst : Nat.beq st1 0 <;> rw [hst] at hx
    ·exact absurd hx hne
    simp only at hx
    have hm1 : μ1 b = some (g,q):=(ex1.le _ _ hm).1
    have hnd : h1.get b ≠ .dead:=by rw [hg1]; simp
    obtain ⟨g2,q2,p1,p2,p3⟩:=r1.obj b hnd
    rw [hm1] at p1; cases p1
    rw [hg1] at p3
    obtain ⟨rl1,o1,o2,o3,o4⟩:=p3
    have hready : rl1.state = .ready:=by
     have e0:=Nat.eq_of_beq_eq_true hst
     rw [e0] at o3
     cases hq : rl1.state <;> rw [hq] at o3 <;> first | rfl | (cases o3)
    have hlt : g < w1.heap.size:=(Array.getElem?_eq_some_iff.1 o1).1
    refine ⟨_,run_beginRound o1 hready,?_⟩
    have hor : OR (bsL P tt n0) μ1 (w1.putObj g (.loop { rl1 with state:=.busy })) g q (μ1.cap b) (.lp id1 e1' 1 j1) :=
     ⟨_,World.putObj_heap_same hlt,(bsL P tt n0).same .busy rl1.pending o2,rfl,o4⟩
    have r2:=r1.upd hnd hm1 (w':=w1.putObj g (.loop { rl1 with state:=.busy })) (o':=.lp id1 e1' 1 j1) (fun k hk=>World.putObj_heap_other hk) World.putObj_size hor
    have ex2 : Ext μ h w μ1 (h1.upd b (.lp id1 e1' 1 j1)) (w1.putObj g (.loop { rl1 with state:=.busy })) :=
     ex1.trans (Ext.upd hnd hm1 (fun k hk=>World.putObj_heap_other hk) World.putObj_size rfl rfl rfl)
    rw [k6]
    refine hS.y (J1e _) (some g) y.2.2 s1 r2 ?_
    have hcB : (W5e tt fn c y).body = J0y tt (J1d (J0k tt fn c)) fn.ntmps y.2.2:=rfl
    rw [hcB] at hx
    cases hy2 : self.y (J0y tt (J1d (J0k tt fn c)) fn.ntmps y.2.2) e1 (H.upd h1 b (.lp id1 e1' 1 j1)) with
    | n e2 h2 =>
     rw [hy2] at hx
     intro a2 w2 μ2 t1 t2 t3 t4
     exact J8f hx hne (jump:=none) (t3.le _ _ hm1).1 t2 (ex2.trans t3) rfl
    | x k e2 h2 =>
     rw [hy2] at hx
     intro a2 w2 μ2 t1 t2 t3 t4
     exact J8f hx hne (jump:=some (.exit k)) (t3.le _ _ hm1).1 t2 (ex2.trans t3) rfl
    | r e2 h2 =>
     rw [hy2] at hx
     intro a2 w2 μ2 t1 t2 t3 t4
     exact J8f hx hne (jump:=some .ret) (t3.le _ _ hm1).1 t2 (ex2.trans t3) rfl
    | pn _ _ _=>rw [hy2] at hx; exact absurd hx hne
    | bad=>rw [hy2] at hx; exact absurd hx hne
  exact hAs
theorem W3c {b : Nat} {vs : List V} {h h' : H} {v : V} (hx : J9k lt self b vs h = .pn v h') : ∃ t y,v = .ifc t y:=by
 exfalso
 have he : ∀ {b j : Nat} {h0 : H},Q7r b j h0 = .pn v h' → False:=by
  intro b j h0 hx
  unfold Q7r at hx
  split at hx <;> cases hx
 unfold J9k at hx
 cases hg : H.get h b <;> rw [hg] at hx <;> simp only at hx <;> try (cases hx; done)
 rename_i id e st j
 cases hl : lt id with
 | none=>rw [hl] at hx; cases hx
 | some L =>
  rw [hl] at hx
  simp only at hx
  cases hlen : Nat.beq vs.length L.ps.length <;> rw [hlen] at hx
  ·cases hx
  simp only at hx
  cases hy : self.y L.assign (J1m L.ps vs e) h <;> rw [hy] at hx <;> simp only at hx <;> try (cases hx; done)
  unfold Q7w at hx
  split at hx
  ·rename_i st1 _ _
   cases hst : Nat.beq st1 0 <;> rw [hst] at hx
   ·cases hx
   ·simp only at hx
    generalize self.y L.body _ _ = rr at hx
    cases rr with
    | n _ _=>exact he hx
    | x _ _ _=>exact he hx
    | r _ _=>exact he hx
    | pn _ _ _=>cases hx
    | bad=>cases hx
  ·cases hx
theorem G2o (hT : TTok P tt) (hFT : G4h P tt ft) (hLT : LTok P tt lt) (hBT : BTok P (bsL P tt n0) bt) (hS : SLOK P n0 tt self) : FOK P (bsL P tt n0) (W5s ft lt bt self) where
 call:=fun f vs h hne=>W2q hT hFT hBT hS hne
 yl:=fun b vs h hne=>W6i hT hLT hS hne
 pni:=fun f vs h v h' hx=>by
  rcases hx with hx | hx
  ·exact G3m hx
  ·exact W3c hx
 ent:=fun f hf=>by
  have hf2 : (match ft f with | some _=>true | none=>false) = true:=hf
  cases h : ft f with
  | none=>rw [h] at hf2; cases hf2
  | some F =>
   obtain ⟨fn,c,g1,g2,g3,_⟩:=hFT f F h
   exact ⟨fn,c,g1,g2,g3⟩
 pur:=fun f vs h v h' hf hc=>by
  have hf2 : purB bt f = true:=hf
  unfold purB at hf2
  have hc2 : U0y ft bt self f vs h = .ok v h':=hc
  unfold U0y at hc2
  cases hb : bt f with
  | none=>rw [hb] at hf2; cases hf2
  | some b =>
   rw [hb] at hf2 hc2
   cases b with
   | h g=>cases hf2
   | p g =>
    simp only [rcB] at hc2
    split at hc2 <;> cases hc2
    rfl
theorem W0i (hT : TTok P tt) (hm : P.follows .mixedOrders = true) (hFT : G4h P tt ft) (hLT : LTok P tt lt) (hBT : BTok P (bsL P tt n0) bt) : ∀ n : Nat,SLOK P n0 tt (U5e ft lt bt n) ∧ ∀ trk N,TK trk → J7m P (bsL P tt n0) tt trk N n (U5e ft lt bt n).y
 | 0=>⟨⟨fun hN ro c Q e h a w μ hs r hr=>hr.elim,fun h1 h2 h3 Q e h a w μ w0 hw hs r hd hr=>hr.elim,fun e h=>rfl⟩,fun trk N hN ro c Q e h a w μ hs r hr=>hr.elim⟩
 | n + 1=>by
  obtain ⟨h1,h2⟩:=W0i hT hm hFT hLT hBT n
  have hF:=G2o hT hFT hLT hBT h1
  refine ⟨⟨fun {trk N} hN ro c Q e h a w μ hs r hr=>J1r hT hF hm hN (h2 trk N hN) c hs r hr,fun {fn c0 fid} g1 g2 g3 Q e h a w μ w0 hw hs r hd hr=>J4r hT hF hm g1 g2 g3 (h2 _ _ (J1e _)) c0 (fun x hx=>hx) hw hs r (by rw [hd]; exact .nil) hr,fun e h=>rfl⟩,fun trk N hN ro c Q e h a w μ hs r hr=>?_⟩
  have hr2 : Ends Q (bsL P tt n0) trk N μ h w a.defers (R.rec (motive:=fun _=>R) (fun e h=>(U5e ft lt bt n).y (.loop (J0y tt trk N c)) e h) (fun id e h=>.x id e h) (fun e h=>.r e h) (fun v e h=>.pn v e h) .bad (yx (J0y tt trk N c) (W5s ft lt bt (U5e ft lt bt n)) (U5e ft lt bt n).y e h)):=hr
  show c.wpIn (FW ro) 0 P (Exit.then (Code.roundsIn (FW ro) 0 P c Q n) Q) a w
  refine J1r hT hF hm hN (h2 trk N hN) c hs r ?_
  cases hx : yx (J0y tt trk N c) (W5s ft lt bt (U5e ft lt bt n)) (U5e ft lt bt n).y e h with
  | n e1 h1 =>
   rw [hx] at hr2
   intro a' w' μ' g1 g2 g3 g4
   refine h2 trk N hN ro c Q e1 h1 a' w' μ' g1 g2 ?_
   rw [g4]; exact Ends.mono g3 hr2
  | x id e1 h1=>rw [hx] at hr2; exact fun a' w' μ' g1 g2 g3 g4=>hr2 a' w' μ' g1 g2 g3 g4
  | r e1 h1=>rw [hx] at hr2; exact fun a' w' μ' g1 g2 g3 g4=>hr2 a' w' μ' g1 g2 g3 g4
  | pn v e1 h1=>rw [hx] at hr2; exact fun a' w' μ' y g1 g2 g3 g4 g5=>hr2 a' w' μ' y g1 g2 g3 g4 g5
  | bad=>rw [hx] at hr2; exact hr2.elim
theorem Q2j (hT : TTok P tt) (hm : P.follows .mixedOrders = true) (hFT : G4h P tt ft) (hLT : LTok P tt lt) (hBT : BTok P (bsL P tt n0) bt) {n f : Nat} {vs : List V} {h h' : H} {v : V} (hrun : U0y ft bt (U5e ft lt bt n) f vs h = .ok v h') :
  CallOK P (bsL P tt n0) f vs h (.ok v h'):=by
 have:=W2q hT hFT hBT (W0i hT hm hFT hLT hBT n).1 (f:=f) (vs:=vs) (h:=h) (by rw [hrun]; simp)
 rwa [hrun] at this
end
theorem G0x {P : Program} (hn : ∀ fn ∈ P.funcs.toList, (fn.name == "runtime.NumGoroutine") = false) : G4h P (ttP P) (ftP P) := by
 intro f F h
 unfold ftP at h
 cases h1 : T.at_ none (fnT P) f with
 | none=>rw [h1] at h; cases h
 | some fn =>
  rw [h1] at h
  simp only at h
  have h2:=J6o _ _ h1
  have h3 : P.funcs[f]? = some fn:=by simpa using h2
  cases hb : fn.body with
  | none=>rw [hb] at h; cases h
  | some c =>
   rw [hb] at h
   simp only [Option.some.injEq] at h
   exact ⟨fn,c,h3,hn fn (List.mem_of_getElem? h2),hb,h.symm⟩
theorem ltP_ok (P : Program) : LTok P (ttP P) (ltP P):=by
 intro id L h
 unfold ltP at h
 cases h1 : T.at_ none (fnT P) (Nat.div id 4096) with
 | none=>rw [h1] at h; cases h
 | some fn =>
  rw [h1] at h
  simp only at h
  have h2:=J6o _ _ h1
  have h3 : P.funcs[id.div 4096]? = some fn:=by simpa using h2
  cases hb : fn.body with
  | none=>rw [hb] at h; cases h
  | some c =>
   rw [hb] at h
   simp only at h
   cases hf : G7y c (Nat.mod id 4096) with
   | none=>rw [hf] at h; cases h
   | some x =>
    rw [hf] at h
    simp only [Option.some.injEq] at h
    exact ⟨fn,c,x,h3,hb,hf,h.symm⟩
end Go.X
namespace Go.X
open Go.RowKit
def VP (v : V) : Prop:=∀ (μ μ' : M) (y : Value),VR μ v y → VR μ' v y
def VPs (l : List V) : Prop:=∀ (μ μ' : M) (y : List Value),VRs μ l y → VRs μ' l y
theorem VP.i (k : IntKind) (n : Int) : VP (.i k n):=fun μ μ' y h=>by simpa only [VR] using h
theorem VP.b (x : Bool) : VP (.b x):=fun μ μ' y h=>by simpa only [VR] using h
theorem VP.s (x : List Nat) : VP (.s x):=fun μ μ' y h=>by simpa only [VR] using h
theorem VP.sn : VP .sn:=fun μ μ' y h=>by simpa only [VR] using h
theorem VPs.nil : VPs []:=fun μ μ' y h=>by simpa only [VRs] using h
theorem VPs.cons {x : V} {l : List V} (hx : VP x) (hl : VPs l) : VPs (x::l):=fun μ μ' y h=>by
 obtain ⟨z,zs,e,h1,h2⟩:=VRs.cons_iff.1 h
 exact VRs.cons_iff.2 ⟨z,zs,e,hx _ _ _ h1,hl _ _ _ h2⟩
theorem VPs.of : ∀ {l : List V},(∀ x ∈ l,VP x) → VPs l
 | [],_=>VPs.nil
 | x::l,h=>VPs.cons (h x (by simp)) (VPs.of fun y hy=>h y (by simp [hy]))
theorem VP.ag {l : List V} (h : VPs l) : VP (.ag l):=fun μ μ' y hy=>by
 simp only [VR] at hy ⊢
 obtain ⟨cs,e,h1⟩:=hy
 exact ⟨cs,e,h _ _ _ h1⟩
theorem VP.tu {l : List V} (h : VPs l) : VP (.tu l):=fun μ μ' y hy=>by
 simp only [VR] at hy ⊢
 obtain ⟨cs,e,h1⟩:=hy
 exact ⟨cs,e,h _ _ _ h1⟩
section
variable {P : Program} {B : Bs} {μ : M} {h : H} {w w' : World}
def M.none : M:=⟨fun _=>Option.none,fun _=>0⟩
theorem H.get_e (b : Nat) : H.e.get b = .dead:=by
 show Bool.rec (HT.get b HT.e) O.dead (Nat.beq 0 b) = O.dead
 rw [HT.get_e]; cases Nat.beq 0 b <;> rfl
theorem HR.e (hb : B.n ≤ w.heap.size) : HR B M.none H.e w :=
 ⟨hb,fun b x hx=>by simp [M.none] at hx,fun b hd=>absurd (H.get_e b) hd,fun b b' g q g' q' h1 _ _ _ _=>absurd (H.get_e b) h1⟩
theorem CallOK.frame0 {f : Nat} {vs : List V} {v : V} {h0 : H} (hrun : CallOK P B f vs H.e (.ok v h0)) (hvs : VPs vs) (hv : VP v) (h : H) : CallOK P B f vs h (.ok v h):=by
 rcases hrun with ⟨hb,hr⟩ | ⟨v1,h1,e,hr⟩
 ·refine .inl ⟨hb,fun μ w args r ha=>(hr M.none w args (HR.e r.base) (hvs _ _ _ ha)).mono ?_⟩
  rintro e w' ⟨y,μ',rfl,g1,g2,g3⟩
  have hw : ∀ k,k < w.heap.size → w'.heap[k]? = w.heap[k]?:=fun k hk=>g3.frame k hk fun b q hb'=>absurd (H.get_e b) hb'
  exact ⟨y,μ,rfl,hv _ _ _ g1,r.grow g3.size hw,Ext.grow g3.size hw g3.os g3.tape g3.output⟩
 ·cases e
  refine .inr ⟨v,h,rfl,fun μ w args r ha=>?_⟩
  obtain ⟨y,w',μ',g0,g1,g2,g3⟩:=hr M.none w args (HR.e r.base) (hvs _ _ _ ha)
  have hw : ∀ k,k < w.heap.size → w'.heap[k]? = w.heap[k]?:=fun k hk=>g3.frame k hk fun b q hb'=>absurd (H.get_e b) hb'
  exact ⟨y,w',μ,g0,hv _ _ _ g1,r.grow g3.size hw,Ext.grow g3.size hw g3.os g3.tape g3.output⟩
def OP (o : O) : Prop:=∀ (B : Bs) (μ μ' : M) (w : World) (g q N : Nat),OR B μ w g q N o → OR B μ' w g q N o
theorem OP.cells {n : Nat} {c : C} {z : Bool} (hc : ∀ i,i < n → VP (C.at_ c i)) : OP (.cells n c z):=by
 intro B μ μ' w g q N ⟨cur,e,fr,h1,h2,h3,h4,h5,h6⟩
 refine ⟨cur,e,fr,h1,h2,h3,h4,h5,fun i hi=>?_⟩
 obtain ⟨v,h7,h8⟩:=h6 i hi
 exact ⟨v,h7,hc i hi _ _ _ h8⟩
theorem HR.turn (r : HR B μ h w) {b g q : Nat} (hb : h.get b ≠ .dead) (hm : μ b = some (g,q)) {o' : O} (hs : w.heap.size ≤ w'.heap.size)
  (hw : ∀ k,k < w.heap.size → k ≠ g → w'.heap[k]? = w.heap[k]?) (ho : OR B μ w' g q (μ.cap b) o') : HR B μ (h.upd b o') w':=by
 refine ⟨Nat.le_trans r.base hs,r.dom,?_,?_⟩
 ·intro b' hb'
  by_cases e : b = b'
  ·subst e
   obtain ⟨g',q',h1,h2,_⟩:=r.obj b hb
   rw [hm] at h1; cases h1
   exact ⟨g,q,hm,h2,by rw [H.get_upd_same]; exact ho⟩
  ·rw [H.get_upd_ne h o' e] at hb' ⊢
   obtain ⟨g',q',h1,h2,h3⟩:=r.obj b' hb'
   refine ⟨g',q',h1,h2,h3.mono (M.le_refl _) (hw g' (h3.lt hb') ?_)⟩
   intro eg
   exact e (r.inj b b' g q g' q' hb hb' hm h1 eg.symm)
 ·intro b1 b2 g1 q1 g2 q2 h1 h2 m1 m2 eg
  have key : ∀ b',(h.upd b o').get b' ≠ .dead → h.get b' ≠ .dead:=fun b' hb'=>by
   by_cases e : b = b'
   ·subst e; exact hb
   ·rw [H.get_upd_ne h o' e] at hb'; exact hb'
  exact r.inj b1 b2 g1 q1 g2 q2 (key b1 h1) (key b2 h2) m1 m2 eg
theorem Ext.turn {b g q : Nat} (hb : h.get b ≠ .dead) (hm : μ b = some (g,q)) {o' : O} (hs : w.heap.size ≤ w'.heap.size)
  (hw : ∀ k,k < w.heap.size → k ≠ g → w'.heap[k]? = w.heap[k]?) (h1 : w'.os = w.os) (h2 : w'.tape = w.tape) (h3 : w'.output = w.output) : Ext μ h w μ (h.upd b o') w':=by
 refine ⟨M.le_refl _,Nat.le_refl _,h1,h2,h3,hs,?_,?_,fun _ _=>rfl⟩
 ·intro k hk hn
  refine hw k hk fun e=>?_
  subst e
  exact hn b q hb hm
 ·intro b' g' q' hb' hm' _
  by_cases e : b = b'
  ·subst e; exact ⟨b,q',hb,hm'⟩
  ·rw [H.get_upd_ne h o' e] at hb'; exact ⟨b',q',hb',hm'⟩
def H.one (o : O) : H:=⟨1,0,o,HT.e⟩
theorem H.get_one (o : O) : (H.one o).get 0 = o:=rfl
theorem H.get_one_ne (o : O) {b : Nat} (hb : b ≠ 0) : (H.one o).get b = .dead:=by
 show Bool.rec (HT.get b HT.e) o (Nat.beq 0 b) = O.dead
 rw [HT.get_e]
 cases hx : Nat.beq 0 b with
 | false=>rfl
 | true=>exact absurd (Nat.eq_of_beq_eq_true hx).symm hb
def M.one (μ : M) (b : Nat) : M:=⟨fun i=>if i = 0 then μ b else Option.none,fun _=>μ.cap b⟩
theorem HR.one (r : HR B μ h w) {b : Nat} {o : O} (hb : h.get b = o) (hp : OP o) : HR B (M.one μ b) (H.one o) w:=by
 refine ⟨r.base,?_,?_,?_⟩
 ·intro i x hx
  by_cases e : i = 0
  ·subst e; exact Nat.one_pos
  ·simp [M.one,e] at hx
 ·intro i hi
  by_cases e : i = 0
  ·subst e
   rw [H.get_one] at hi ⊢
   obtain ⟨g,q,h1,h2,h3⟩:=r.obj b (by rw [hb]; exact hi)
   rw [hb] at h3
   exact ⟨g,q,by simpa [M.one] using h1,h2,hp _ _ _ _ _ _ _ h3⟩
  ·exact absurd (H.get_one_ne o e) hi
 ·intro i j g q g' q' hi hj _ _ _
  by_cases e : i = 0
  ·by_cases e2 : j = 0
   ·rw [e,e2]
   ·exact absurd (H.get_one_ne o e2) hj
  ·exact absurd (H.get_one_ne o e) hi
def OI (o o' : O) : Prop:=∀ (B : Bs) (μ μ' : M) (w : World) (g q N : Nat),OR B μ w g q N o → OR B μ' w g q N o'
theorem OI.cells {n : Nat} {c c' : C} {z z' : Bool} (hz : z' = true → z = true) (hc : ∀ i,i < n → ∀ (μ μ' : M) y,VR μ (C.at_ c i) y → VR μ' (C.at_ c' i) y) : OI (.cells n c z) (.cells n c' z'):=by
 intro B μ μ' w g q N ⟨cur,e,fr,h1,h2,h3,h4,h5,h6⟩
 refine ⟨cur,e,fr,h1,fun h=>h2 (hz h),h3,h4,h5,fun i hi=>?_⟩
 obtain ⟨v,h7,h8⟩:=h6 i hi
 exact ⟨v,h7,hc i hi _ _ _ h8⟩
theorem HR.one' (r : HR B μ h w) {b : Nat} {o o1 : O} (hb : h.get b = o1) (hd : o1 ≠ .dead) (hp : OI o1 o) : HR B (M.one μ b) (H.one o) w:=by
 refine ⟨r.base,?_,?_,?_⟩
 ·intro i x hx
  by_cases e : i = 0
  ·subst e; exact Nat.one_pos
  ·simp [M.one,e] at hx
 ·intro i hi
  by_cases e : i = 0
  ·subst e
   rw [H.get_one] at hi ⊢
   obtain ⟨g,q,h1,h2,h3⟩:=r.obj b (by rw [hb]; exact hd)
   rw [hb] at h3
   exact ⟨g,q,by simpa [M.one] using h1,h2,hp _ _ _ _ _ _ _ h3⟩
  ·exact absurd (H.get_one_ne o e) hi
 ·intro i j g q g' q' hi hj _ _ _
  by_cases e : i = 0
  ·by_cases e2 : j = 0
   ·rw [e,e2]
   ·exact absurd (H.get_one_ne o e2) hj
  ·exact absurd (H.get_one_ne o e) hi
theorem CallOK.frame1 {f b : Nat} {vs0 vs : List V} {v : V} {o1 o o0 o' : O} {h0 : H} (hrun : CallOK P B f vs0 (H.one o) (.ok v h0)) (hb : h.get b = o1) (hd : o1 ≠ .dead) (hd' : o0 ≠ .dead) (hp : OI o1 o) (hg : h0.get 0 = o0) (hp' : OI o0 o')
  (hvs : ∀ μ y,VRs μ vs y → VRs (M.one μ b) vs0 y) (hv : VP v) : CallOK P B f vs h (.ok v (h.upd b o')):=by
 have key : ∀ {μ : M} {w w' : World} {μ' : M},HR B μ h w → HR B μ' h0 w' → Ext (M.one μ b) (H.one o) w μ' h0 w' → HR B μ (h.upd b o') w' ∧ Ext μ h w μ (h.upd b o') w':=by
  intro μ w w' μ' r g2 g3
  have hbd : h.get b ≠ .dead:=by rw [hb]; exact hd
  obtain ⟨g,q,h1,h2,h3⟩:=r.obj b hbd
  have hm : M.one μ b 0 = some (g,q):=by simpa [M.one] using h1
  have hw : ∀ k,k < w.heap.size → k ≠ g → w'.heap[k]? = w.heap[k]?:=by
   intro k hk hne
   refine g3.frame k hk ?_
   intro i q' hi hmi
   by_cases e : i = 0
   ·subst e; rw [hm] at hmi; cases hmi; exact hne rfl
   ·exact hi (H.get_one_ne o e)
  obtain ⟨hm',hc'⟩:=g3.le 0 _ hm
  obtain ⟨ga,qa,k1,k2,k3⟩:=g2.obj 0 (by rw [hg]; exact hd')
  rw [hm'] at k1; cases k1
  rw [hg,hc'] at k3
  exact ⟨r.turn hbd h1 g3.size hw (hp' _ _ _ _ _ _ _ k3),Ext.turn hbd h1 g3.size hw g3.os g3.tape g3.output⟩
 rcases hrun with ⟨hbd,hr⟩ | ⟨v1,h1,e,hr⟩
 ·refine .inl ⟨hbd,fun μ w args r ha=>(hr (M.one μ b) w args (HR.one' r hb hd hp) (hvs _ _ ha)).mono ?_⟩
  rintro e w' ⟨y,μ',rfl,g1,g2,g3⟩
  obtain ⟨k1,k2⟩:=key r g2 g3
  exact ⟨y,μ,rfl,hv _ _ _ g1,k1,k2⟩
 ·cases e
  refine .inr ⟨v,h.upd b o',rfl,fun μ w args r ha=>?_⟩
  obtain ⟨y,w',μ',g0,g1,g2,g3⟩:=hr (M.one μ b) w args (HR.one' r hb hd hp) (hvs _ _ ha)
  obtain ⟨k1,k2⟩:=key r g2 g3
  exact ⟨y,w',μ,g0,hv _ _ _ g1,k1,k2⟩
theorem HR.same (r : HR B μ h w) {b : Nat} {o : O} (hb : h.get b = o) : HR B μ (h.upd b o) w:=by
 have e : ∀ b',(h.upd b o).get b' = h.get b':=fun b'=>by
  by_cases e : b = b'
  ·subst e; rw [H.get_upd_same]; exact hb.symm
  ·rw [H.get_upd_ne _ _ e]
 exact ⟨r.base,r.dom,fun b' h'=>by rw [e] at h' ⊢; exact r.obj b' h',fun b1 b2 g q g' q' h1 h2=>by rw [e] at h1 h2; exact r.inj b1 b2 g q g' q' h1 h2⟩
theorem HR.unsame {b : Nat} {o : O} (hb : h.get b = o) (hlt : (h.upd b o).next = h.next) (r : HR B μ (h.upd b o) w) : HR B μ h w:=by
 have e : ∀ b',(h.upd b o).get b' = h.get b':=fun b'=>by
  by_cases e : b = b'
  ·subst e; rw [H.get_upd_same]; exact hb.symm
  ·rw [H.get_upd_ne _ _ e]
 exact ⟨r.base,fun b x hx=>by have:=r.dom b x hx; rwa [hlt] at this,fun b' h'=>by rw [← e] at h' ⊢; exact r.obj b' h',fun b1 b2 g q g' q' h1 h2=>by rw [← e] at h1 h2; exact r.inj b1 b2 g q g' q' h1 h2⟩
theorem CallOK.keep {f b : Nat} {vs : List V} {v : V} {o : O} (hb : h.get b = o) (hc : CallOK P B f vs h (.ok v (h.upd b o))) : CallOK P B f vs h (.ok v h):=by
 have e : ∀ b',(h.upd b o).get b' = h.get b':=fun b'=>by
  by_cases e : b = b'
  ·subst e; rw [H.get_upd_same]; exact hb.symm
  ·rw [H.get_upd_ne _ _ e]
 have hn : (h.upd b o).next = h.next:=by obtain ⟨next,cb,co,t⟩:=h; rw [H.upd_eq]
 have he : ∀ {μ μ' : M} {w w' : World},Ext μ h w μ' (h.upd b o) w' → Ext μ h w μ' h w':=fun x =>
  ⟨x.le,by rw [hn] at *; exact Nat.le_refl _,x.os,x.tape,x.output,x.size,x.frame,fun b' g q h1=>x.catch_ b' g q (by rw [e]; exact h1),x.old⟩
 rcases hc with ⟨hbd,hr⟩ | ⟨v1,h1,e1,hr⟩
 ·refine .inl ⟨hbd,fun μ w args r ha=>(hr μ w args r ha).mono ?_⟩
  rintro e w' ⟨y,μ',rfl,g1,g2,g3⟩
  exact ⟨y,μ',rfl,g1,HR.unsame hb hn g2,he g3⟩
 ·cases e1
  refine .inr ⟨v,h,rfl,fun μ w args r ha=>?_⟩
  obtain ⟨y,w',μ',g0,g1,g2,g3⟩:=hr μ w args r ha
  exact ⟨y,w',μ',g0,g1,HR.unsame hb hn g2,he g3⟩
end
end Go.X
namespace Go.X
open Go.RowKit
def asc (L : List (Nat × O)) (b : Nat) : O:=List.rec (motive:=fun _=>O) .dead (fun x _ ih=>Bool.rec ih x.2 (Nat.beq x.1 b)) L
def inL (L : List (Nat × O)) (b : Nat) : Bool:=List.rec (motive:=fun _=>Bool) false (fun x _ ih=>Bool.rec ih true (Nat.beq x.1 b)) L
theorem J4w (h : H) (b : Nat) : ∀ L : List (Nat × O),(J6b L h).get b = Bool.rec (h.get b) (asc L b) (inL L b)
 | []=>rfl
 | x::L=>by
  have e1 : J6b (x::L) h = (J6b L h).upd x.1 x.2:=rfl
  have e2 : asc (x::L) b = Bool.rec (asc L b) x.2 (Nat.beq x.1 b):=rfl
  have e3 : inL (x::L) b = Bool.rec (inL L b) true (Nat.beq x.1 b):=rfl
  rw [e1,e2,e3]
  cases hb : Nat.beq x.1 b
  ·have hne : x.1 ≠ b:=fun e=>by rw [e,Nat.beq_refl] at hb; cases hb
   rw [H.get_upd_ne _ _ hne]
   exact J4w h b L
  ·have e:=Nat.eq_of_beq_eq_true hb
   rw [← e,H.get_upd_same]
theorem J2l (h : H) : ∀ L : List (Nat × O),(J6b L h).next = h.next
 | []=>rfl
 | x::L=>by
  have e1 : J6b (x::L) h = (J6b L h).upd x.1 x.2:=rfl
  have key : ∀ (h : H) b o,(h.upd b o).next = h.next:=fun h b o=>by obtain ⟨n,cb,co,t⟩:=h; rw [H.upd_eq]
  rw [e1,key]; exact J2l h L
theorem U1i : ∀ {L : List (Nat × O)} {b : Nat},inL L b = true → (b,asc L b) ∈ L
 | [],b,h=>by cases h
 | x::L,b,h=>by
  have h2 : (Bool.rec (inL L b) true (Nat.beq x.1 b) : Bool) = true:=h
  have e2 : asc (x::L) b = Bool.rec (asc L b) x.2 (Nat.beq x.1 b):=rfl
  rw [e2]
  cases hb : Nat.beq x.1 b <;> rw [hb] at h2
  ·exact List.mem_cons_of_mem _ (U1i h2)
  ·have e:=Nat.eq_of_beq_eq_true hb
   rw [← e]; exact List.mem_cons_self
def J2v (n : Nat) (L : List (Nat × O)) : H:=J6b L ⟨n,0,.dead,HT.e⟩
theorem G2j (n b : Nat) : (H.mk n 0 .dead HT.e).get b = .dead:=by
 show Bool.rec (HT.get b HT.e) O.dead (Nat.beq 0 b) = O.dead
 rw [HT.get_e]; cases Nat.beq 0 b <;> rfl
def ceq (x y : V) : Bool:=match y with | .u=>true | y=>veq 100 x y
theorem J2w {x y : V} (h : ceq x y = true) {μ : M} {v : Value} (hv : VR μ x v) : VR μ y v:=by
 unfold ceq at h
 split at h
 ·exact VR.u _
 ·rw [← J2u 100 _ _ h]; exact hv
def G4y (x y : List V) : Bool:=List.rec (motive:=fun _=>List V → Bool) (fun y=>List.rec true (fun _ _ _=>false) y) (fun a _ ih y=>List.rec (motive:=fun _=>Bool) false (fun b y _=>Bool.rec false (ih y) (ceq a b)) y) x y
theorem U0w : ∀ {x y : List V},G4y x y = true → ∀ {μ : M} {l : List Value},VRs μ x l → VRs μ y l
 | [],[],_,μ,l,h=>h
 | [],_::_,h,_,_,_=>by cases h
 | _::_,[],h,_,_,_=>by cases h
 | a::x,b::y,h,μ,l,hl=>by
  have h2 : (Bool.rec false (G4y x y) (ceq a b) : Bool) = true:=h
  cases hb : ceq a b <;> rw [hb] at h2
  ·cases h2
  obtain ⟨v,vs,rfl,h3,h4⟩:=VRs.cons_iff.1 hl
  exact VRs.cons_mk (J2w hb h3) (U0w h2 h4)
theorem W2o : ∀ {x y : List V},G4y x y = true → ∀ (j : Nat) (a b : V),x[j]? = some a → y[j]? = some b → ceq a b = true
 | [],[],_,j,a,b,h,_=>by simp at h
 | [],_::_,h,_,_,_,_,_=>by cases h
 | _::_,[],h,_,_,_,_,_=>by cases h
 | a0::x,b0::y,h,j,a,b,h1,h2=>by
  have h3 : (Bool.rec false (G4y x y) (ceq a0 b0) : Bool) = true:=h
  cases hb : ceq a0 b0 <;> rw [hb] at h3
  ·cases h3
  cases j with
  | zero=>simp at h1 h2; subst h1; subst h2; exact hb
  | succ j=>exact W2o h3 j a b (by simpa using h1) (by simpa using h2)
def peqs (x y : List (V × V)) : Bool:=List.rec (motive:=fun _=>List (V × V) → Bool) (fun y=>List.rec true (fun _ _ _=>false) y) (fun a _ ih y=>List.rec (motive:=fun _=>Bool) false (fun b y _=>Bool.rec false (ih y) (ceq a.1 b.1 && ceq a.2 b.2)) y) x y
theorem U6l : ∀ {x y : List (V × V)},peqs x y = true → ∀ {μ : M} {l : List MapEntry},ER μ x l → ER μ y l
 | [],[],_,μ,l,h=>h
 | [],_::_,h,_,_,_=>by cases h
 | _::_,[],h,_,_,_=>by cases h
 | a::x,b::y,h,μ,l,hl=>by
  have h2 : (Bool.rec false (peqs x y) (ceq a.1 b.1 && ceq a.2 b.2) : Bool) = true:=h
  cases hb : (ceq a.1 b.1 && ceq a.2 b.2) <;> rw [hb] at h2
  ·cases h2
  rw [Bool.and_eq_true] at hb
  obtain ⟨e,es,rfl,h3,h4,h5⟩:=hl
  exact ⟨e,es,rfl,J2w hb.1 h3,J2w hb.2 h4,U6l h2 h5⟩
def oeq (x y : O) : Bool :=
 match x with
 | .cells n c z=>match y with
  | .cells n' c' z'=>Bool.rec false (Bool.rec false (G4y (C.list c n 0) (C.list c' n 0)) (Bool.rec true z z')) (Nat.beq n n')
  | _=>false
 | .map es bs cl=>match y with | .map es' bs' cl'=>Bool.rec false (Bool.rec false (peqs es es') (eqL bs bs')) (Nat.beq cl cl') | _=>false
 | .sit l p=>match y with | .sit l' p'=>eqL l l' && Nat.beq p p' | _=>false
 | _=>false
theorem J1u {x y : O} (h : oeq x y = true) : x ≠ .dead ∧ ∀ {B : Bs} {μ : M} {w : World} {g q N : Nat},OR B μ w g q N x → OR B μ w g q N y:=by
 cases x <;> simp only [oeq] at h <;> try (cases h; done)
 ·rename_i n c z
  cases y <;> simp only at h <;> try (cases h; done)
  rename_i n' c' z'
  cases hn : Nat.beq n n' <;> rw [hn] at h
  ·cases h
  cases hz : (Bool.rec true z z' : Bool) <;> rw [hz] at h
  ·cases h
  have e:=Nat.eq_of_beq_eq_true hn
  subst e
  refine ⟨by simp,fun {B μ w g q N} ⟨cur,e,fr,h1,h2,h3,h4,h5,h6⟩=>⟨cur,e,fr,h1,fun hz'=>h2 (by subst hz'; exact hz),h3,h4,h5,fun i hi=>?_⟩⟩
  obtain ⟨v,k1,k2⟩:=h6 i hi
  have g1:=C.list_get c n 0 i hi
  have g2:=C.list_get c' n 0 i hi
  rw [Nat.zero_add] at g1 g2
  exact ⟨v,k1,J2w (W2o h i _ _ g1 g2) k2⟩
 ·rename_i es bs cl
  cases y <;> simp only at h <;> try (cases h; done)
  rename_i es' bs' cl'
  cases hc : Nat.beq cl cl' <;> rw [hc] at h
  ·cases h
  cases hb : eqL bs bs' <;> rw [hb] at h
  ·cases h
  have e1:=Nat.eq_of_beq_eq_true hc
  have e2:=(J1v _ _).1 hb
  subst e1; subst e2
  refine ⟨by simp,fun {B μ w g q N} ⟨ms,h1,h2,h3⟩=>⟨ms,h1,U6l h h2,h3⟩⟩
 ·rename_i l p
  cases y <;> simp only [Bool.and_eq_true] at h <;> try (cases h; done)
  have e1:=(J1v _ _).1 h.1
  have e2:=Nat.eq_of_beq_eq_true h.2
  subst e1; subst e2
  exact ⟨by simp,fun h=>h⟩
def J9n (h : H) (L : List (Nat × O)) : Bool:=List.rec (motive:=fun _=>Bool) true (fun x _ ih=>Bool.rec false ih (oeq (h.get x.1) x.2)) L
theorem J6h {h : H} : ∀ {L : List (Nat × O)},J9n h L = true → ∀ x ∈ L,oeq (h.get x.1) x.2 = true
 | [],_,x,hx=>by cases hx
 | y::L,hs,x,hx=>by
  have h2 : (Bool.rec false (J9n h L) (oeq (h.get y.1) y.2) : Bool) = true:=hs
  cases hb : oeq (h.get y.1) y.2 <;> rw [hb] at h2
  ·cases h2
  rcases List.mem_cons.1 hx with rfl | hx
  ·exact hb
  ·exact J6h h2 x hx
def G2z (L : List (Nat × O)) : List (Nat × O):=List.rec (motive:=fun _=>List (Nat × O)) [] (fun x _ ih=>(x.1,.dead)::ih) L
theorem W2e (b : Nat) : ∀ L : List (Nat × O),inL (G2z L) b = inL L b
 | []=>rfl
 | x::L=>by
  show (Bool.rec (inL (G2z L) b) true (Nat.beq x.1 b) : Bool) = Bool.rec (inL L b) true (Nat.beq x.1 b)
  rw [W2e b L]
theorem W2t (b : Nat) : ∀ L : List (Nat × O),asc (G2z L) b = .dead
 | []=>rfl
 | x::L=>by
  show (Bool.rec (asc (G2z L) b) O.dead (Nat.beq x.1 b) : O) = .dead
  rw [W2t b L]
  cases Nat.beq x.1 b <;> rfl
def ovr (h : H) (n' : Nat) (L L' : List (Nat × O)) : H:=J6b L' (J6b (G2z L) (H.rec (motive:=fun _=>H) (fun _ cb co t=>⟨n',cb,co,t⟩) h))
theorem CallOK.memo {P : Program} {B : Bs} {f : Nat} {vs0 vs : List V} {v0 v : V} {h h1 : H} {n n' : Nat} {L L' : List (Nat × O)} (hrun : CallOK P B f vs0 (J2v n L) (.ok v h1)) (hn1 : h1.next = n') (hL' : J9n h1 L' = true) (hv0 : ceq v v0 = true)
  (hn : h.next = n) (hL : J9n h L = true) (hvs : G4y vs vs0 = true) : CallOK P B f vs h (.ok v0 (ovr h n' L L')):=by
 have gl : ∀ b,(J2v n L).get b = Bool.rec .dead (asc L b) (inL L b):=fun b=>by unfold J2v; rw [J4w,G2j]
 have hl : ∀ b,(J2v n L).get b ≠ .dead → inL L b = true ∧ oeq (h.get b) ((J2v n L).get b) = true:=by
  intro b hb
  rw [gl] at hb ⊢
  cases hi : inL L b <;> rw [hi] at hb
  ·exact absurd rfl hb
  ·exact ⟨rfl,J6h hL _ (U1i hi)⟩
 have g2 : ∀ b,(ovr h n' L L').get b = Bool.rec (Bool.rec (h.get b) .dead (inL L b)) (asc L' b) (inL L' b):=by
  intro b
  unfold ovr
  rw [J4w,J4w,W2e,W2t]
  obtain ⟨nx,cb,co,t⟩:=h
  rfl
 have hn2 : (ovr h n' L L').next = n':=by
  unfold ovr
  rw [J2l,J2l]
 have key : ∀ {μ μ' : M} {w w' : World},HR B μ h w → HR B μ' h1 w' → Ext μ (J2v n L) w μ' h1 w' → HR B μ' (ovr h n' L L') w' ∧ Ext μ h w μ' (ovr h n' L L') w':=by
  intro μ μ' w w' r r1 e
  have old : ∀ b,inL L' b = false → (ovr h n' L L').get b ≠ .dead → inL L b = false ∧ h.get b ≠ .dead ∧ (ovr h n' L L').get b = h.get b:=by
   intro b hb hd
   rw [g2,hb] at hd ⊢
   cases hi : inL L b <;> rw [hi] at hd
   ·exact ⟨rfl,hd,rfl⟩
   ·exact absurd rfl hd
  have new : ∀ b,inL L' b = true → h1.get b ≠ .dead ∧ oeq (h1.get b) (asc L' b) = true ∧ (ovr h n' L L').get b = asc L' b:=by
   intro b hb
   have h3:=J6h hL' _ (U1i hb)
   refine ⟨(J1u h3).1,h3,?_⟩
   rw [g2,hb]
  have keepμ : ∀ {b g q},μ b = some (g,q) → μ' b = some (g,q) ∧ μ'.cap b = μ.cap b:=fun hb=>e.le _ _ hb
  have keepw : ∀ {b g q},inL L b = false → h.get b ≠ .dead → μ b = some (g,q) → g < w.heap.size → w'.heap[g]? = w.heap[g]?:=by
   intro b g q hb hd hm hg
   refine e.frame g hg fun b' q' hb' hm'=>?_
   obtain ⟨k1,k2⟩:=hl b' hb'
   have:=r.inj b b' g q g q' hd (J1u k2).1 hm hm' rfl
   subst this
   rw [hb] at k1; cases k1
  constructor
  ·refine ⟨r1.base,fun b x hb=>by rw [hn2,← hn1]; exact r1.dom b x hb,?_,?_⟩
   ·intro b hb
    cases hi : inL L' b with
    | true =>
     obtain ⟨k1,k2,k3⟩:=new b hi
     obtain ⟨g,q,m1,m2,m3⟩:=r1.obj b k1
     exact ⟨g,q,m1,m2,by rw [k3]; exact (J1u k2).2 m3⟩
    | false =>
     obtain ⟨k1,k2,k3⟩:=old b hi hb
     obtain ⟨g,q,m1,m2,m3⟩:=r.obj b k2
     obtain ⟨m4,m5⟩:=keepμ m1
     refine ⟨g,q,m4,m2,?_⟩
     rw [k3,m5]
     exact m3.mono e.le (keepw k1 k2 m1 (m3.lt k2))
   ·intro b1 b2 g1 q1 g2' q2 d1 d2 m1 m2 eg
    have mixed : ∀ {a c g q q'},inL L' a = true → inL L' c = false → (ovr h n' L L').get c ≠ .dead → μ' a = some (g,q) → μ' c = some (g,q') → False:=by
     intro a c g q q' ha hc dc ma mc
     obtain ⟨k1,k2,k3⟩:=new a ha
     obtain ⟨j1,j2,j3⟩:=old c hc dc
     obtain ⟨gc,qc,n1,n2,n3⟩:=r.obj c j2
     have:=(keepμ n1).1
     rw [mc] at this; cases this
     obtain ⟨b0,q0,p1,p2⟩:=e.catch_ a g q k1 ma (n3.lt j2)
     obtain ⟨k4,k5⟩:=hl b0 p1
     have:=r.inj b0 c g q0 g q' (J1u k5).1 j2 p2 n1 rfl
     subst this
     rw [j1] at k4; cases k4
    subst eg
    cases i1 : inL L' b1 with
    | true =>
     cases i2 : inL L' b2 with
     | true=>exact r1.inj b1 b2 g1 q1 g1 q2 (new b1 i1).1 (new b2 i2).1 m1 m2 rfl
     | false=>exact (mixed i1 i2 d2 m1 m2).elim
    | false =>
     cases i2 : inL L' b2 with
     | true=>exact (mixed i2 i1 d1 m2 m1).elim
     | false =>
      obtain ⟨_,j2,_⟩:=old b1 i1 d1
      obtain ⟨_,l2,_⟩:=old b2 i2 d2
      obtain ⟨ga,qa,n1,_⟩:=r.obj b1 j2
      obtain ⟨gb,qb,n2,_⟩:=r.obj b2 l2
      have e1:=(keepμ n1).1
      have e2:=(keepμ n2).1
      rw [m1] at e1; cases e1
      rw [m2] at e2; cases e2
      exact r.inj b1 b2 g1 q1 g1 q2 j2 l2 n1 n2 rfl
  ·refine ⟨e.le,?_,e.os,e.tape,e.output,e.size,?_,?_,?_⟩
   ·rw [hn2,← hn1,hn]
    have:=e.next
    unfold J2v at this
    rw [J2l] at this
    exact this
   ·intro g hg hno
    exact e.frame g hg fun b q hb=>hno b q (J1u (hl b hb).2).1
   ·intro b g q hb hm hg
    cases hi : inL L' b with
    | true =>
     obtain ⟨b0,q0,p1,p2⟩:=e.catch_ b g q (new b hi).1 hm hg
     exact ⟨b0,q0,(J1u (hl b0 p1).2).1,p2⟩
    | false =>
     obtain ⟨_,k2,_⟩:=old b hi hb
     obtain ⟨ga,qa,n1,_⟩:=r.obj b k2
     have:=(keepμ n1).1
     rw [hm] at this; cases this
     exact ⟨b,q,k2,n1⟩
   ·intro b hb
    refine e.old b ?_
    unfold J2v
    rw [J2l,← hn]; exact hb
 have hlit : ∀ {μ : M} {w : World},HR B μ h w → HR B μ (J2v n L) w:=by
  intro μ w r
  refine ⟨r.base,fun b x hb=>?_,fun b hb=>?_,fun b b' g q g' q' d1 d2 m1 m2=>r.inj b b' g q g' q' (J1u (hl b d1).2).1 (J1u (hl b' d2).2).1 m1 m2⟩
  ·unfold J2v
   rw [J2l,← hn]; exact r.dom b x hb
  ·obtain ⟨k1,k2⟩:=J1u (hl b hb).2
   obtain ⟨g,q,m1,m2,m3⟩:=r.obj b k1
   exact ⟨g,q,m1,m2,k2 m3⟩
 rcases hrun with ⟨hbd,hr⟩ | ⟨v1,h2,e1,hr⟩
 ·refine .inl ⟨hbd,fun μ w args r ha=>(hr μ w args (hlit r) (U0w hvs ha)).mono ?_⟩
  rintro e w' ⟨y,μ',rfl,g1,g2,g3⟩
  obtain ⟨k1,k2⟩:=key r g2 g3
  exact ⟨y,μ',rfl,J2w hv0 g1,k1,k2⟩
 ·cases e1
  refine .inr ⟨v0,ovr h n' L L',rfl,fun μ w args r ha=>?_⟩
  obtain ⟨y,w',μ',g0,g1,g2,g3⟩:=hr μ w args (hlit r) (U0w hvs ha)
  obtain ⟨k1,k2⟩:=key r g2 g3
  exact ⟨y,w',μ',g0,J2w hv0 g1,k1,k2⟩
end Go.X
end
