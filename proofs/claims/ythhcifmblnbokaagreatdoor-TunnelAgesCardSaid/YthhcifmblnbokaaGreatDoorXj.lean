/- Loops run in pieces: from one written-out state to the next. -/
import Derived.Test.YthhcifmblnbokaaGreatDoorXi
set_option linter.all false
set_option maxRecDepth 100000
noncomputable section
namespace Go.X
open Go.RowKit
def W4x (b : YC) (fc : FC) (self : U8d) (k : Nat) : E → H → R :=
 Nat.rec (motive:=fun _=>E → H → R) (fun e h=>.n e h) (fun _ ih e h=>(yx b fc self e h).rest ih) k
def eqE (e e2 : E) : Bool :=
 (match e2.c with | .e=>true | _=>false) && (ceq e.a0 e2.a0 && (ceq e.a1 e2.a1 && (ceq e.a2 e2.a2 && (ceq e.a3 e2.a3 && (ceq e.a4 e2.a4 && (ceq e.a5 e2.a5 && (ceq e.a6 e2.a6 && (ceq e.a7 e2.a7 && (ceq e.a8 e2.a8 && (ceq e.a9 e2.a9 && (ceq e.a10 e2.a10 && (ceq e.a11 e2.a11 && (ceq e.a12 e2.a12 && (ceq e.a13 e2.a13 && (ceq e.a14 e2.a14 && ceq e.a15 e2.a15)))))))))))))))
theorem G8d {e e2 : E} (h : eqE e e2 = true) (s : S) {μ : M} {v : Value} (hv : VR μ (rdS s e) v) : VR μ (rdS s e2) v:=by
 obtain ⟨a0,a1,a2,a3,a4,a5,a6,a7,a8,a9,a10,a11,a12,a13,a14,a15,c⟩:=e2
 simp only [eqE,Bool.and_eq_true] at h
 obtain ⟨hc,h0,h1,h2,h3,h4,h5,h6,h7,h8,h9,h10,h11,h12,h13,h14,h15⟩:=h
 cases s with
 | b k =>
  cases c <;> simp only at hc <;> try (cases hc; done)
  exact VR.u _
 | a i=>cases i <;> exact J2w (by assumption) hv
section
variable {P : Program} {tt : TT} {B : Bs} {fc : FC} {trk : Nat → Option S} {N : Nat} {ro : Option Nat}
theorem J8b (hT : TTok P tt) (hF : FOK P B fc) (hm : P.follows .mixedOrders = true) (hN : TK trk) {self : U8d} {n : Nat} (hself : J7m P B tt trk N n self) {c : Code} {Q : Exit → Act → World → Prop} {m : Nat} :
  ∀ (k : Nat) {e e1 : E} {h h1 : H} {a : Act} {w : World} {μ : M},SR μ trk N [] [] e a → HR B μ h w → W4x (J0y tt trk N c) fc self k e h = .n e1 h1 →
   (∀ a' w' μ',SR μ' trk N [] [] e1 a' → HR B μ' h1 w' → Ext μ h w μ' h1 w' → a'.defers = a.defers → Code.roundsIn (FW ro) 0 P c Q m a' w') → Code.roundsIn (FW ro) 0 P c Q (m + k) a w
 | 0,e,e1,h,h1,a,w,μ,hs,r,hk,hfin=>by
  have hk2 : R.n e h = R.n e1 h1:=hk
  cases hk2
  exact hfin a w μ hs r (Ext.refl _ _ _) rfl
 | k + 1,e,e1,h,h1,a,w,μ,hs,r,hk,hfin=>by
  have hk2 : (yx (J0y tt trk N c) fc self e h).rest (W4x (J0y tt trk N c) fc self k) = R.n e1 h1:=hk
  show c.wpIn (FW ro) 0 P (Exit.then (Code.roundsIn (FW ro) 0 P c Q (m + k)) Q) a w
  refine J1r hT hF hm hN hself c hs r ?_
  cases hx : yx (J0y tt trk N c) fc self e h with
  | n e2 h2 =>
   rw [hx] at hk2
   intro a' w' μ' g1 g2 g3 g4
   refine J8b hT hF hm hN hself k g1 g2 hk2 fun a'' w'' μ'' k1 k2 k3 k4=>?_
   exact hfin a'' w'' μ'' k1 k2 (g3.trans k3) (k4.trans g4)
  | x _ _ _=>rw [hx] at hk2; cases hk2
  | r _ _=>rw [hx] at hk2; cases hk2
  | pn _ _ _=>rw [hx] at hk2; cases hk2
  | bad=>rw [hx] at hk2; cases hk2
end
section
variable {P : Program} {tt : TT} {B : Bs} {trk : Nat → Option S} {N : Nat}
theorem Ext.belowB {μ μ' : M} {h h' : H} {w w' : World} (r : HR B μ h w) (e : Ext μ h w μ' h' w') : Below B.n w w' :=
 ⟨e.os,e.tape,e.output,e.size,fun k hk=>e.frame k (Nat.lt_of_lt_of_le hk r.base) fun b q hb hm=>by
  obtain ⟨g,q',h1,h2,_⟩:=r.obj b hb
  rw [hm] at h1; cases h1
  omega⟩
theorem HR.lit {μ : M} {h : H} {w : World} {n : Nat} {L : List (Nat × O)} (hn : h.next = n) (hL : J9n h L = true) (r : HR B μ h w) : HR B μ (J2v n L) w:=by
 have gl : ∀ b,(J2v n L).get b = Bool.rec .dead (asc L b) (inL L b):=fun b=>by unfold J2v; rw [J4w,G2j]
 have hl : ∀ b,(J2v n L).get b ≠ .dead → inL L b = true ∧ oeq (h.get b) ((J2v n L).get b) = true:=by
  intro b hb
  rw [gl] at hb ⊢
  cases hi : inL L b <;> rw [hi] at hb
  ·exact absurd rfl hb
  ·exact ⟨rfl,J6h hL _ (U1i hi)⟩
 refine ⟨r.base,fun b x hb=>?_,fun b hb=>?_,fun b b' g q g' q' d1 d2 m1 m2=>r.inj b b' g q g' q' (J1u (hl b d1).2).1 (J1u (hl b' d2).2).1 m1 m2⟩
 ·unfold J2v
  rw [J2l,← hn]; exact r.dom b x hb
 ·obtain ⟨k1,k2⟩:=J1u (hl b hb).2
  obtain ⟨g,q,m1,m2,m3⟩:=r.obj b k1
  exact ⟨g,q,m1,m2,k2 m3⟩
def At (P : Program) (tt : TT) (trk : Nat → Option S) (N : Nat) (w0 : World) (e : E) (h : H) (a : Act) (w : World) : Prop :=
 ∃ μ,SR μ trk N [] [] e a ∧ HR (bsL P tt w0.heap.size) μ h w ∧ Below w0.heap.size w0 w ∧ a.defers = []
theorem At.cut {w0 w : World} {e e2 : E} {h : H} {a : Act} {n : Nat} {L : List (Nat × O)} (hA : At P tt trk N w0 e h a w) (he : eqE e e2 = true) (hn : Nat.beq h.next n = true) (hL : J9n h L = true) : At P tt trk N w0 e2 (J2v n L) a w:=by
 obtain ⟨μ,h1,h2,h3,h4⟩:=hA
 refine ⟨μ,⟨fun t=>?_,h1.size⟩,h2.lit (Nat.eq_of_beq_eq_true hn) hL,h3,h4⟩
 have h5:=h1.val t
 have h6 : ∀ e : E,odV [] e (U1r trk [] t) = match trk t with | some s=>rdS s e | none=>.u:=by
  intro e
  show odV [] e (J4l trk t) = _
  unfold J4l
  cases trk t <;> rfl
 rw [h6] at h5 ⊢
 cases ht : trk t with
 | none=>exact VR.u _
 | some s=>rw [ht] at h5; exact G8d he s h5
theorem At.piece (hT : TTok P tt) (hm : P.follows .mixedOrders = true) (hN : TK trk) {w0 : World} {fc : FC} {self : U8d} {n : Nat} (hF : FOK P (bsL P tt w0.heap.size) fc) (hself : J7m P (bsL P tt w0.heap.size) tt trk N n self) {c : Code} {Q : Exit → Act → World → Prop} {m k : Nat}
  {e e1 e2 : E} {h h1 : H} {n2 : Nat} {L2 : List (Nat × O)} {a : Act} {w : World} (hA : At P tt trk N w0 e h a w) (hk : W4x (J0y tt trk N c) fc self k e h = .n e1 h1) (he : eqE e1 e2 = true) (hn : Nat.beq h1.next n2 = true) (hL : J9n h1 L2 = true)
  (hgo : ∀ a' w',At P tt trk N w0 e2 (J2v n2 L2) a' w' → Code.roundsIn (FW none) 0 P c Q m a' w') : Code.roundsIn (FW none) 0 P c Q (m + k) a w:=by
 obtain ⟨μ,g1,g2,g3,g4⟩:=hA
 refine J8b hT hF hm hN hself k g1 g2 hk fun a' w' μ' k1 k2 k3 k4=>hgo a' w' (At.cut ⟨μ',k1,k2,?_,k4.trans g4⟩ he hn hL)
 exact g3.trans (Ext.belowB g2 k3)
theorem At.code (hT : TTok P tt) (hm : P.follows .mixedOrders = true) (hN : TK trk) {w0 : World} {fc : FC} {self : U8d} {n : Nat} (hF : FOK P (bsL P tt w0.heap.size) fc) (hself : J7m P (bsL P tt w0.heap.size) tt trk N n self) {c : Code} {Q : Exit → Act → World → Prop}
  {e e1 e2 : E} {h h1 : H} {n2 : Nat} {L2 : List (Nat × O)} {a : Act} {w : World} (hA : At P tt trk N w0 e h a w) (hk : yx (J0y tt trk N c) fc self e h = .n e1 h1) (he : eqE e1 e2 = true) (hn : Nat.beq h1.next n2 = true) (hL : J9n h1 L2 = true)
  (hgo : ∀ a' w',At P tt trk N w0 e2 (J2v n2 L2) a' w' → Q .normal a' w') : c.wpIn (FW none) 0 P Q a w:=by
 obtain ⟨μ,g1,g2,g3,g4⟩:=hA
 refine J1r hT hF hm hN hself c g1 g2 ?_
 rw [hk]
 intro a' w' μ' k1 k2 k3 k4
 exact hgo a' w' (At.cut ⟨μ',k1,k2,g3.trans (Ext.belowB g2 k3),k4.trans g4⟩ he hn hL)
theorem At.start {f : Nat} {fn : Func} {c : Code} {vs : List V} {args : Array Value} {w : World} (hv : VRs M.none vs args.toList) (hn : vs.length ≤ fn.ntmps) :
  At P tt (J1d (J0k tt fn c)) fn.ntmps w (J1m (J1o tt f fn c).ws vs E.nil) H.e { tmps:=args ++ Array.replicate (fn.ntmps - args.size) undef,defers:=[] } w :=
 ⟨M.none,SR.init (N:=fn.ntmps) (J1e (J0k tt fn c)) hv hn [],HR.e (Nat.le_refl _),Below.refl _ _,rfl⟩
def U9r (P : Program) (fn : Func) (w0 : World) : Exit → Act → World → Prop:=bodyPost P fn fun e w'=>e = .returned (.bool true) ∧ Below w0.heap.size w0 w'
def endB (F : FE) (r : R) : Bool :=
 R.rec (motive:=fun _=>Bool) (fun e h=>RC.rec (motive:=fun _=>Bool) (fun v _=>ceq v (.b true)) (fun _ _=>false) false (fin F e h)) (fun _ _ _=>false) (fun e h=>RC.rec (motive:=fun _=>Bool) (fun v _=>ceq v (.b true)) (fun _ _=>false) false (fin F e h)) (fun _ _ _=>false) false r
def Q3z (F : FE) (out : Nat) (lp B : YC) (fc : FC) (self : U8d) (e : E) (h : H) : Bool :=
 R.rec (motive:=fun _=>Bool) (fun _ _=>false) (fun id e h=>Bool.rec false (endB F (yx B fc self e h)) (Nat.beq id out)) (fun _ _=>false) (fun _ _ _=>false) false (self lp e h)
theorem W5c (hT : TTok P tt) {w0 : World} {f : Nat} {fn : Func} {c0 : Code} {r : R} (hr : endB (J1o tt f fn c0) r = true) {μ : M} {h : H} {w : World} (g2 : HR (bsL P tt w0.heap.size) μ h w) (g3 : Below w0.heap.size w0 w) :
  Ends (U9r P fn w0) (bsL P tt w0.heap.size) (J1d (J0k tt fn c0)) fn.ntmps μ h w [] r:=by
 have main : ∀ e h1,(RC.rec (motive:=fun _=>Bool) (fun v _=>ceq v (.b true)) (fun _ _=>false) false (fin (J1o tt f fn c0) e h1)) = true → ∀ a' w' μ',SR μ' (J1d (J0k tt fn c0)) fn.ntmps [] [] e a' → HR (bsL P tt w0.heap.size) μ' h1 w' → Ext μ h w μ' h1 w' → a'.defers = [] →
   a'.defers = [] ∧ ∃ v,(results fn a'.tmps).run P w' = .ok v w' ∧ (Ending.returned v = .returned (.bool true) ∧ Below w0.heap.size w0 w'):=by
  intro e h1 hr a' w' μ' k1 k2 k3 k4
  cases hf : fin (J1o tt f fn c0) e h1 with
  | ok v h' =>
   rw [hf] at hr
   obtain ⟨_,y,y1,y2⟩:=J7b hT hf k1 k2
   have:=J2w hr y2
   rw [VR.b_iff] at this
   subst this
   exact ⟨k4,_,y1,rfl,g3.trans (Ext.belowB g2 k3)⟩
  | pn _ _=>rw [hf] at hr; cases hr
  | bad=>rw [hf] at hr; cases hr
 cases r with
 | n e h1=>exact fun a' w' μ' k1 k2 k3 k4=>main e h1 hr a' w' μ' k1 k2 k3 k4
 | r e h1=>exact fun a' w' μ' k1 k2 k3 k4=>main e h1 hr a' w' μ' k1 k2 k3 k4
 | x _ _ _=>cases hr
 | pn _ _ _=>cases hr
 | bad=>cases hr
theorem At.tail (hT : TTok P tt) (hm : P.follows .mixedOrders = true) {w0 : World} {f : Nat} {fn : Func} {c0 : Code} {fc : FC} {self : U8d} {n : Nat} (hF : FOK P (bsL P tt w0.heap.size) fc) (hself : J7m P (bsL P tt w0.heap.size) tt (J1d (J0k tt fn c0)) fn.ntmps n self)
  {body B : Code} {out : Nat} {e : E} {h : H} {a : Act} {w : World} (hA : At P tt (J1d (J0k tt fn c0)) fn.ntmps w0 e h a w)
  (hr : Q3z (J1o tt f fn c0) out (.loop (J0y tt (J1d (J0k tt fn c0)) fn.ntmps body)) (J0y tt (J1d (J0k tt fn c0)) fn.ntmps B) fc self e h = true) :
  Code.roundsIn (FW none) 0 P body (Exit.inBlock out (Exit.then (B.wpIn (FW none) 0 P (U9r P fn w0)) (U9r P fn w0))) n a w:=by
 obtain ⟨μ,g1,g2,g3,g4⟩:=hA
 refine hself none body _ e h a w μ g1 g2 ?_
 unfold Q3z at hr
 cases hx : self (.loop (J0y tt (J1d (J0k tt fn c0)) fn.ntmps body)) e h with
 | x id e1 h1 =>
  rw [hx] at hr
  have hr2 : (Bool.rec false (endB (J1o tt f fn c0) (yx (J0y tt (J1d (J0k tt fn c0)) fn.ntmps B) fc self e1 h1)) (Nat.beq id out) : Bool) = true:=hr
  cases hb : Nat.beq id out <;> rw [hb] at hr2
  ·cases hr2
  have hid:=Nat.eq_of_beq_eq_true hb
  subst hid
  intro a' w' μ' k1 k2 k3 k4
  show (if id = id then _ else _)
  rw [if_pos rfl]
  show B.wpIn (FW none) 0 P (U9r P fn w0) a' w'
  refine J1r hT hF hm (J1e _) hself B k1 k2 ?_
  rw [k4,g4]
  exact W5c hT hr2 k2 (g3.trans (Ext.belowB g2 k3))
 | n _ _=>rw [hx] at hr; cases hr
 | r _ _=>rw [hx] at hr; cases hr
 | pn _ _ _=>rw [hx] at hr; cases hr
 | bad=>rw [hx] at hr; cases hr
end
end Go.X
namespace Go.X
open Go.RowKit
def K0 : Nat:=65536000
def M.sym (μ : M) (ρ : List Nat) (T : Nat) : M :=
 ⟨fun b=>if b < K0 then μ b else if b = K0 then some (0,T) else match ρ[b - (K0 + 1)]? with | some r=>μ r | .none=>.none,
  fun b=>if b < K0 then μ.cap b else match ρ[b - (K0 + 1)]? with | some r=>μ.cap r | .none=>0⟩
def J9h (ρ : List Nat) (b : Nat) : Option Nat:=if b < K0 then some b else if b = K0 then none else ρ[b - (K0 + 1)]?
theorem M.sym_act {μ : M} {ρ : List Nat} {T b r : Nat} (h : J9h ρ b = some r) : (μ.sym ρ T) b = μ r ∧ (μ.sym ρ T).cap b = μ.cap r:=by
 unfold J9h at h
 show (if b < K0 then μ b else if b = K0 then some (0,T) else match ρ[b - (K0 + 1)]? with | some r=>μ r | .none=>.none) = μ r ∧
  (if b < K0 then μ.cap b else match ρ[b - (K0 + 1)]? with | some r=>μ.cap r | .none=>0) = μ.cap r
 by_cases h1 : b < K0
 ·rw [if_pos h1] at h; cases h
  rw [if_pos h1,if_pos h1]; exact ⟨rfl,rfl⟩
 ·rw [if_neg h1] at h
  rw [if_neg h1,if_neg h1]
  by_cases h2 : b = K0
  ·rw [if_pos h2] at h; cases h
  ·rw [if_neg h2] at h
   rw [if_neg h2,h]; exact ⟨rfl,rfl⟩
theorem M.sym_num {μ : M} {ρ : List Nat} {T : Nat} : (μ.sym ρ T) K0 = some (0,T):=by
 show (if K0 < K0 then μ K0 else if K0 = K0 then some (0,T) else match ρ[K0 - (K0 + 1)]? with | some r=>μ r | .none=>.none) = _
 rw [if_neg (Nat.lt_irrefl _),if_pos rfl]
def Q2y : List Nat → Nat
 | []=>0
 | d::l=>d + 65536 * Q2y l
theorem U7q : ∀ (l : List Nat) (j : Nat),(∀ x ∈ l,x < 65536) → dg (Q2y l) j = l[j]?.getD 0
 | [],0,_=>rfl
 | [],j + 1,h=>by show dg (0 / 65536) j = 0; exact U7q [] j h
 | d::l,0,h=>by
  have:=h d List.mem_cons_self
  show (d + 65536 * Q2y l) % 65536 = d
  omega
 | d::l,j + 1,h=>by
  have:=h d List.mem_cons_self
  show dg ((d + 65536 * Q2y l) / 65536) j = _
  have e : (d + 65536 * Q2y l) / 65536 = Q2y l:=by omega
  rw [e,U7q l j fun x hx=>h x (List.mem_cons_of_mem _ hx)]
  rfl
def Q8p (Q : Nat) (ts : List Nat) : Prop:=∀ (j t : Nat),ts[j]? = some t → SV Q j = (t : Int)
theorem G7f {t c : Nat} {bs : List Nat} (ht : t < 65536) (hc : c < 65536) (hb : ∀ b ∈ bs,b ≤ t ∧ t ≤ b + 88) : Q8p (Q2y (t::c::bs.map (t - ·))) (t::c::bs):=by
 have hlt : ∀ x ∈ t::c::bs.map (t - ·),x < 65536:=by
  intro x hx
  simp only [List.mem_cons,List.mem_map] at hx
  rcases hx with rfl | rfl | ⟨b,hb',rfl⟩
  ·exact ht
  ·exact hc
  ·have:=hb b hb'; omega
 intro j x hj
 have d0 : dg (Q2y (t::c::bs.map (t - ·))) 0 = t:=U7q _ 0 hlt
 match j with
 | 0=>cases hj; show ((dg _ 0 : Nat) : Int) = _; rw [d0]
 | 1 =>
  cases hj
  show ((dg _ 1 : Nat) : Int) = _
  rw [U7q _ 1 hlt]; rfl
 | j + 2 =>
  have hj2 : bs[j]? = some x:=hj
  have hx:=hb x (List.mem_of_getElem? hj2)
  unfold SV
  rw [if_neg (by omega),if_neg (by omega),d0,U7q _ (j + 2) hlt]
  have e : (t::c::bs.map (t - ·))[j + 2]?.getD 0 = t - x:=by
   show (bs.map (t - ·))[j]?.getD 0 = _
   rw [List.getElem?_map,hj2]; rfl
  rw [e]
  omega
theorem M.le_sym {μ : M} {ρ : List Nat} {T n : Nat} (hd : ∀ b x,μ b = some x → b < n) (hn : n ≤ K0) : M.le μ (μ.sym ρ T):=by
 intro b x hb
 have h1:=hd b x hb
 have h2 : J9h ρ b = some b:=by unfold J9h; rw [if_pos (by omega)]
 obtain ⟨h3,h4⟩:=M.sym_act (μ:=μ) (T:=T) h2
 exact ⟨h3.trans hb,h4⟩
mutual
theorem VR.back {μ μ' : M} (h : M.le μ μ') : ∀ (x : V) (y0 y : Value),VR μ x y0 → VR μ' x y → VR μ x y
 | .q _ _ _ _ _,_,_,e0,e=>by
  simp only [VR] at e0 e ⊢
  obtain ⟨_,_,t0,q0,_⟩:=e0
  obtain ⟨n,e1,t,q1,e2⟩:=e
  have:=(q0.mono h).eq q1
  subst this
  exact ⟨n,e1,t0,q0,e2⟩
 | .z _ _,_,_,_,e=>by simp only [VR] at e ⊢; exact e
 | .u,_,_,_,_=>by simp only [VR]
 | .b _,_,_,_,e=>by simp only [VR] at e ⊢; exact e
 | .i _ _,_,_,_,e=>by simp only [VR] at e ⊢; exact e
 | .f _ _,_,_,_,e=>by simp only [VR] at e ⊢; exact e
 | .s _,_,_,_,e=>by simp only [VR] at e ⊢; exact e
 | .p _ _,_,_,e0,e=>by
  simp only [VR] at e0 e ⊢
  obtain ⟨g0,q0,a1,a2⟩:=e0
  obtain ⟨g,q,b1,b2⟩:=e
  rw [(h _ _ a1).1] at b1; cases b1
  exact ⟨g0,q0,a1,b2⟩
 | .pn,_,_,_,e=>by simp only [VR] at e ⊢; exact e
 | .sl _ _ _ _ _,_,_,e0,e=>by
  simp only [VR] at e0 e ⊢
  obtain ⟨g0,q0,c0,a1,a2⟩:=e0
  obtain ⟨g,q,c,b1,b2,b3,b4,b5⟩:=e
  obtain ⟨h1,h2⟩:=h _ _ a1
  rw [h1] at b1; cases b1
  exact ⟨g0,q0,c,a1,b2,b3,b4,fun k=>by rw [← h2]; exact b5 k⟩
 | .se,_,_,_,e=>by simp only [VR] at e ⊢; exact e
 | .sn,_,_,_,e=>by simp only [VR] at e ⊢; exact e
 | .m _,_,_,e0,e=>by
  simp only [VR] at e0 e ⊢
  obtain ⟨g0,q0,a1,a2⟩:=e0
  obtain ⟨g,q,b1,b2⟩:=e
  rw [(h _ _ a1).1] at b1; cases b1
  exact ⟨g0,q0,a1,b2⟩
 | .mn,_,_,_,e=>by simp only [VR] at e ⊢; exact e
 | .fn _ a c,_,_,e0,e=>by
  simp only [VR] at e0 e ⊢
  obtain ⟨xs0,ys0,_,a2,a3⟩:=e0
  obtain ⟨xs,ys,b1,b2,b3⟩:=e
  exact ⟨xs,ys,b1,VRs.back h a _ _ a2 b2,VRs.back h c _ _ a3 b3⟩
 | .fnil,_,_,_,e=>by simp only [VR] at e ⊢; exact e
 | .yl _,_,_,e0,e=>by
  simp only [VR] at e0 e ⊢
  obtain ⟨g0,q0,a1,a2⟩:=e0
  obtain ⟨g,q,b1,b2⟩:=e
  rw [(h _ _ a1).1] at b1; cases b1
  exact ⟨g0,q0,a1,b2⟩
 | .ifc _ x,_,_,e0,e=>by
  simp only [VR] at e0 e ⊢
  obtain ⟨y0,_,a2⟩:=e0
  obtain ⟨y,b1,b2⟩:=e
  exact ⟨y,b1,VR.back h x _ _ a2 b2⟩
 | .inil,_,_,_,e=>by simp only [VR] at e ⊢; exact e
 | .ag l,_,_,e0,e=>by
  simp only [VR] at e0 e ⊢
  obtain ⟨c0,_,a2⟩:=e0
  obtain ⟨cs,b1,b2⟩:=e
  exact ⟨cs,b1,VRs.back h l _ _ a2 b2⟩
 | .tu l,_,_,e0,e=>by
  simp only [VR] at e0 e ⊢
  obtain ⟨c0,_,a2⟩:=e0
  obtain ⟨cs,b1,b2⟩:=e
  exact ⟨cs,b1,VRs.back h l _ _ a2 b2⟩
theorem VRs.back {μ μ' : M} (h : M.le μ μ') : ∀ (x : List V) (y0 y : List Value),VRs μ x y0 → VRs μ' x y → VRs μ x y
 | [],_,_,_,e=>by simp only [VRs] at e ⊢; exact e
 | x::xs,_,_,e0,e=>by
  simp only [VRs] at e0 e ⊢
  obtain ⟨y0,ys0,_,a2,a3⟩:=e0
  obtain ⟨y,ys,b1,b2,b3⟩:=e
  exact ⟨y,ys,b1,VR.back h x _ _ a2 b2,VRs.back h xs _ _ a3 b3⟩
end
theorem ER.back {μ μ' : M} (h : M.le μ μ') : ∀ {x : List (V × V)} {y0 y : List MapEntry},ER μ x y0 → ER μ' x y → ER μ x y
 | [],_,_,_,e=>e
 | _::_,_,_,⟨_,_,_,a2,a3,a4⟩,⟨e,es,b1,b2,b3,b4⟩=>⟨e,es,b1,VR.back h _ _ _ a2 b2,VR.back h _ _ _ a3 b3,ER.back h a4 b4⟩
section
variable {P : Program} {B : Bs}
theorem CallOK.sym {f : Nat} {vs0 vs : List V} {v0 v : V} {h h1 h' : H} {n0 : Nat} {L : List (Nat × O)} {ρ : List Nat} {T : Nat} (hrun : CallOK P B f vs0 (J2v n0 L) (.ok v0 h1)) (hn0 : n0 = K0 + 1 + ρ.length) (hK : h.next ≤ K0)
  (hinj : ∀ b b' r,inL L b = true → inL L b' = true → J9h ρ b = some r → J9h ρ b' = some r → b = b')
  (hargs : ∀ μ args,M.le μ (μ.sym ρ T) → VRs μ vs args → VRs (μ.sym ρ T) vs0 args)
  (hL : ∀ b,inL L b = true → ∃ r,J9h ρ b = some r ∧ h.get r ≠ .dead ∧ ∀ μ w g q,M.le μ (μ.sym ρ T) → OR B μ w g q (μ.cap r) (h.get r) → OR B (μ.sym ρ T) w g q ((μ.sym ρ T).cap b) (asc L b))
  (hb : ∀ r,h'.get r ≠ .dead → (h'.get r = h.get r ∧ ∀ b,inL L b = true → J9h ρ b ≠ some r) ∨
   ∃ b,inL L b = true ∧ J9h ρ b = some r ∧ h1.get b ≠ .dead ∧ ∀ μ μ' w w' g q,M.le μ (μ.sym ρ T) → M.le (μ.sym ρ T) μ' → OR B μ w g q (μ.cap r) (h.get r) → OR B μ' w' g q (μ.cap r) (h1.get b) → OR B μ w' g q (μ.cap r) (h'.get r))
  (hnext : h'.next = h.next) (hv : ∀ μ μ' y,M.le μ (μ.sym ρ T) → M.le (μ.sym ρ T) μ' → VR μ' v0 y → VR μ v y) : CallOK P B f vs h (.ok v h'):=by
 have gl : ∀ b,(J2v n0 L).get b = Bool.rec .dead (asc L b) (inL L b):=fun b=>by unfold J2v; rw [J4w,G2j]
 have hl : ∀ b,(J2v n0 L).get b ≠ .dead → inL L b = true ∧ (J2v n0 L).get b = asc L b:=by
  intro b hb
  rw [gl] at hb ⊢
  cases hi : inL L b <;> rw [hi] at hb
  ·exact absurd rfl hb
  ·exact ⟨rfl,rfl⟩
 have hle : ∀ {μ : M} {w : World},HR B μ h w → M.le μ (μ.sym ρ T):=fun r=>M.le_sym r.dom hK
 have hlit : ∀ {μ : M} {w : World},HR B μ h w → HR B (μ.sym ρ T) (J2v n0 L) w:=by
  intro μ w r
  refine ⟨r.base,fun b x hx=>?_,fun b hb=>?_,fun b b' g q g' q' d1 d2 m1 m2 eg=>?_⟩
  ·have e : (J2v n0 L).next = n0:=by unfold J2v; rw [J2l]
   rw [e,hn0]
   by_cases h1 : b < K0
   ·omega
   by_cases h2 : b = K0
   ·omega
   have hx2 : (match ρ[b - (K0 + 1)]? with | some r=>μ r | .none=>.none) = some x:=by
    have hx3 : (if b < K0 then μ b else if b = K0 then some (0,T) else match ρ[b - (K0 + 1)]? with | some r=>μ r | .none=>.none) = some x:=hx
    rw [if_neg h1,if_neg h2] at hx3; exact hx3
   cases hρ : ρ[b - (K0 + 1)]? with
   | none=>rw [hρ] at hx2; cases hx2
   | some r =>
    have:=(List.getElem?_eq_some_iff.1 hρ).1
    omega
  ·obtain ⟨k1,k2⟩:=hl b hb
   obtain ⟨ra,k3,k4,k5⟩:=hL b k1
   obtain ⟨g,q,m1,m2,m3⟩:=r.obj ra k4
   exact ⟨g,q,(M.sym_act k3).1.trans m1,m2,by rw [k2]; exact k5 μ w g q (hle r) m3⟩
  ·obtain ⟨k1,_⟩:=hl b d1
   obtain ⟨j1,_⟩:=hl b' d2
   obtain ⟨ra,k3,k4,_⟩:=hL b k1
   obtain ⟨rb,j3,j4,_⟩:=hL b' j1
   rw [(M.sym_act k3).1] at m1
   rw [(M.sym_act j3).1] at m2
   have:=r.inj ra rb g q g' q' k4 j4 m1 m2 eg
   subst this
   exact hinj b b' ra k1 j1 k3 j3
 have key : ∀ {μ μ' : M} {w w' : World},HR B μ h w → HR B μ' h1 w' → Ext (μ.sym ρ T) (J2v n0 L) w μ' h1 w' → HR B μ h' w' ∧ Ext μ h w μ h' w':=by
  intro μ μ' w w' r r1 e
  have hold : ∀ ra,h'.get ra ≠ .dead → h.get ra ≠ .dead:=by
   intro ra hd
   rcases hb ra hd with ⟨k1,_⟩ | ⟨b,k1,k2,_⟩
   ·rw [← k1]; exact hd
   ·obtain ⟨rb,j1,j2,_⟩:=hL b k1
    rw [k2] at j1; cases j1
    exact j2
  constructor
  ·refine ⟨r1.base,fun b x hx=>by rw [hnext]; exact r.dom b x hx,fun ra hd=>?_,fun b b' g q g' q' d1 d2 m1 m2 eg=>r.inj b b' g q g' q' (hold b d1) (hold b' d2) m1 m2 eg⟩
   obtain ⟨g,q,m1,m2,m3⟩:=r.obj ra (hold ra hd)
   refine ⟨g,q,m1,m2,?_⟩
   rcases hb ra hd with ⟨k1,k2⟩ | ⟨b,k1,k2,k3,k4⟩
   ·rw [k1]
    refine m3.mono (M.le_refl _) (e.frame g (m3.lt (by rw [← k1]; exact hd)) fun b q' hb' hm'=>?_)
    obtain ⟨j1,_⟩:=hl b hb'
    obtain ⟨rb,j3,j4,_⟩:=hL b j1
    rw [(M.sym_act j3).1] at hm'
    have:=r.inj rb ra g q' g q j4 (hold ra hd) hm' m1 rfl
    subst this
    exact k2 b j1 j3
   ·obtain ⟨g1,q1,n1,n2,n3⟩:=r1.obj b k3
    have hs:=M.sym_act (μ:=μ) (T:=T) k2
    obtain ⟨e1,e2⟩:=e.le b (g,q) (hs.1.trans m1)
    rw [e1] at n1; cases n1
    rw [e2,hs.2] at n3
    exact k4 μ μ' w w' g q (hle r) e.le m3 n3
  ·refine ⟨M.le_refl _,by rw [hnext]; exact Nat.le_refl _,e.os,e.tape,e.output,e.size,fun g hg hno=>?_,fun b g q hd hm _=>⟨b,q,hold b hd,hm⟩,fun _ _=>rfl⟩
   refine e.frame g hg fun b q hb' hm'=>?_
   obtain ⟨j1,_⟩:=hl b hb'
   obtain ⟨rb,j3,j4,_⟩:=hL b j1
   rw [(M.sym_act j3).1] at hm'
   exact hno rb q j4 hm'
 rcases hrun with ⟨hbd,hr⟩ | ⟨v1,h2,e1,hr⟩
 ·refine .inl ⟨hbd,fun μ w args r ha=>(hr (μ.sym ρ T) w args (hlit r) (hargs μ _ (hle r) ha)).mono ?_⟩
  rintro e w' ⟨y,μ',rfl,g1,g2,g3⟩
  obtain ⟨k1,k2⟩:=key r g2 g3
  exact ⟨y,μ,rfl,hv μ μ' y (hle r) g3.le g1,k1,k2⟩
 ·cases e1
  refine .inr ⟨v,h',rfl,fun μ w args r ha=>?_⟩
  obtain ⟨y,w',μ',g0,g1,g2,g3⟩:=hr (μ.sym ρ T) w args (hlit r) (hargs μ _ (hle r) ha)
  obtain ⟨k1,k2⟩:=key r g2 g3
  exact ⟨y,w',μ,g0,hv μ μ' y (hle r) g3.le g1,k1,k2⟩
end
end Go.X
namespace Go.X
open Go.RowKit
inductive PC where
 | k (v : V) | p (i : Nat) | sl (i len cap : Nat) (ex : Bool) | t (j : Nat) (d : Int) (inc : Bool)
def PC.pre (pc : PC) (a : V) : V :=
 match pc with
 | .k v=>v
 | .p i=>.p (Nat.add 65536001 i) 0
 | .sl i len cap ex=>.sl (Nat.add 65536001 i) 0 len cap ex
 | .t j d _=>.q 65536001 j .i64 d d
def PC.post (pc : PC) (a : V) : V :=
 match pc with
 | .k v=>v
 | .p i=>.p (Nat.add 65536001 i) 0
 | .sl i len cap ex=>.sl (Nat.add 65536001 i) 0 len cap ex
 | .t j d inc=>Bool.rec (.q 65536001 j .i64 d d) (.q 65536001 j .i64 (Int.add d 1) (Int.add d 1)) inc
def PC.inc (pc : PC) : Bool:=match pc with | .t _ _ b=>b | _=>false
def G7g (l : List Nat) : Nat → Option Nat:=List.rec (motive:=fun _=>Nat → Option Nat) (fun _=>none) (fun x _ ih n=>Nat.rec (motive:=fun _=>Option Nat) (some x) (fun n _=>ih n) n) l
theorem J4m : ∀ (l : List Nat) (n : Nat),G7g l n = l[n]?
 | [],_=>rfl
 | x::l,0=>rfl
 | x::l,n + 1=>by
  show G7g l n = _
  rw [J4m l n]; rfl
def isN (o : Option Nat) (b : Nat) : Bool:=Option.rec (motive:=fun _=>Bool) false (fun r=>Nat.beq b r) o
def PC.chk (ρ ts : List Nat) (pc : PC) (a : V) : Bool :=
 match pc with
 | .k v=>veq 100 a v
 | .p i=>match a with | .p b o=>Bool.rec false (isN (G7g ρ i) b) (Nat.beq o 0) | _=>false
 | .sl i len cap ex=>match a with | .sl b o l ca e=>Bool.rec false (isN (G7g ρ i) b) (Nat.beq o 0 && (Nat.beq l len && (Nat.beq ca cap && eqB e ex))) | _=>false
 | .t j d _=>match a with | .i ki n=>Bool.rec false (match G7g ts j with | some tt=>eqI n (Int.add (.ofNat tt) d) | none=>false) (Nat.beq (kno ki) 3) | _=>false
def Q7i (a : V) : V:=match a with | .i k n=>.i k (Int.add n 1) | v=>v
section
variable {μ μ' : M} {ρ ts : List Nat} {T : Nat}
theorem J9d {o : Option Nat} {b : Nat} (h : isN o b = true) : o = some b:=by
 cases o with
 | none=>cases h
 | some r=>rw [Nat.eq_of_beq_eq_true h]
theorem J5a (ρ : List Nat) (i : Nat) : J9h ρ (Nat.add 65536001 i) = ρ[i]?:=by
 have key : ∀ n : Nat,n = 65536001 + i → J9h ρ n = ρ[i]?:=by
  intro n hn
  have h1 : ¬ n < K0:=by unfold K0; omega
  have h2 : ¬ n = K0:=by unfold K0; omega
  have h3 : n - (K0 + 1) = i:=by unfold K0; omega
  unfold J9h
  rw [if_neg h1,if_neg h2,h3]
 exact key _ (Nat.add_eq ▸ rfl)
theorem QT.num (j : Nat) : QT (μ.sym ρ T) 65536001 j (SV T j):=⟨fun h=>by omega,fun _=>⟨0,T,M.sym_num,rfl⟩⟩
theorem PC.pre_ok (hle : M.le μ (μ.sym ρ T)) (hT : Q8p T ts) {pc : PC} {a : V} (h : pc.chk ρ ts a = true) {y : Value} (hy : VR μ a y) : VR (μ.sym ρ T) (pc.pre a) y:=by
 cases pc with
 | k v =>
  have e:=J2u 100 _ _ h
  subst e
  exact VR.mono hle _ _ hy
 | p i =>
  cases a <;> simp only [PC.chk] at h <;> try (cases h; done)
  rename_i b o
  cases ho : Nat.beq o 0 <;> rw [ho] at h
  ·cases h
  have e:=Nat.eq_of_beq_eq_true ho
  subst e
  have e2:=J9d h
  rw [J4m] at e2
  have e3 : J9h ρ (Nat.add 65536001 i) = some b:=(J5a ρ i).trans e2
  simp only [PC.pre,VR] at hy ⊢
  obtain ⟨g,q,m1,m2⟩:=hy
  exact ⟨g,q,(M.sym_act e3).1.trans m1,m2⟩
 | sl i len cap ex =>
  cases a <;> simp only [PC.chk] at h <;> try (cases h; done)
  rename_i b o l c e
  cases hc : (Nat.beq o 0 && (Nat.beq l len && (Nat.beq c cap && eqB e ex))) <;> rw [hc] at h
  ·cases h
  simp only [Bool.and_eq_true] at hc
  obtain ⟨c1,c2,c3,c4⟩:=hc
  have d1:=Nat.eq_of_beq_eq_true c1
  have d2:=Nat.eq_of_beq_eq_true c2
  have d3:=Nat.eq_of_beq_eq_true c3
  rw [J5n,beq_iff_eq] at c4
  subst d1; subst d2; subst d3; subst c4
  have e2:=J9d h
  rw [J4m] at e2
  have e3 : J9h ρ (Nat.add 65536001 i) = some b:=(J5a ρ i).trans e2
  obtain ⟨s1,s2⟩:=M.sym_act (μ:=μ) (T:=T) e3
  simp only [PC.pre,VR] at hy ⊢
  obtain ⟨g,q,c',m1,m2,m3,m4,m5⟩:=hy
  exact ⟨g,q,c',s1.trans m1,m2,m3,m4,fun k=>by rw [s2]; exact m5 k⟩
 | t j d inc =>
  cases a <;> simp only [PC.chk] at h <;> try (cases h; done)
  rename_i k n
  cases h1 : Nat.beq (kno k) 3 <;> rw [h1] at h
  ·cases h
  have e : k = .i64:=J1c (Nat.eq_of_beq_eq_true h1)
  subst e
  cases h2 : G7g ts j with
  | none=>rw [h2] at h; cases h
  | some t =>
   rw [h2] at h
   simp only at h
   rw [J1x,beq_iff_eq] at h
   have h3 : n = (t : Int) + d:=h
   rw [J4m] at h2
   have h4:=hT j t h2
   rw [VR.i_iff] at hy
   exact VR.q_iff.2 ⟨n,hy,SV T j,QT.num j,by omega,by omega⟩
theorem PC.post_ok (hle : M.le μ (μ.sym ρ T)) (hle2 : M.le (μ.sym ρ T) μ') (hT : Q8p T ts) {pc : PC} {a : V} (h : pc.chk ρ ts a = true) {y0 y : Value} (hy0 : VR μ a y0) (hy : VR μ' (pc.post a) y) : VR μ (Bool.rec a (Q7i a) pc.inc) y:=by
 have hl:=M.le_trans hle hle2
 cases pc with
 | k v =>
  have e:=J2u 100 _ _ h
  subst e
  exact VR.back hl _ _ _ hy0 hy
 | p i =>
  cases a <;> simp only [PC.chk] at h <;> try (cases h; done)
  rename_i b o
  cases ho : Nat.beq o 0 <;> rw [ho] at h
  ·cases h
  have e:=Nat.eq_of_beq_eq_true ho
  subst e
  have e2:=J9d h
  rw [J4m] at e2
  have e3 : J9h ρ (Nat.add 65536001 i) = some b:=(J5a ρ i).trans e2
  show VR μ (.p b 0) y
  simp only [PC.post,VR] at hy0 hy ⊢
  obtain ⟨g0,q0,m1,m2⟩:=hy0
  obtain ⟨g,q,n1,n2⟩:=hy
  rw [(hle2 _ _ ((M.sym_act e3).1.trans m1)).1] at n1; cases n1
  exact ⟨g0,q0,m1,n2⟩
 | sl i len cap ex =>
  cases a <;> simp only [PC.chk] at h <;> try (cases h; done)
  rename_i b o l c e
  cases hc : (Nat.beq o 0 && (Nat.beq l len && (Nat.beq c cap && eqB e ex))) <;> rw [hc] at h
  ·cases h
  simp only [Bool.and_eq_true] at hc
  obtain ⟨c1,c2,c3,c4⟩:=hc
  have d1:=Nat.eq_of_beq_eq_true c1
  have d2:=Nat.eq_of_beq_eq_true c2
  have d3:=Nat.eq_of_beq_eq_true c3
  rw [J5n,beq_iff_eq] at c4
  subst d1; subst d2; subst d3; subst c4
  have e2:=J9d h
  rw [J4m] at e2
  have e3 : J9h ρ (Nat.add 65536001 i) = some b:=(J5a ρ i).trans e2
  obtain ⟨s1,s2⟩:=M.sym_act (μ:=μ) (T:=T) e3
  show VR μ (.sl b 0 l c e) y
  simp only [PC.post,VR] at hy0 hy ⊢
  obtain ⟨g0,q0,c0,m1,_⟩:=hy0
  obtain ⟨g,q,c',n1,n2,n3,n4,n5⟩:=hy
  obtain ⟨l1,l2⟩:=hle2 _ _ (s1.trans m1)
  rw [l1] at n1; cases n1
  exact ⟨g0,q0,c',m1,n2,n3,n4,fun k=>by have:=n5 k; rw [l2,s2] at this; exact this⟩
 | t j d inc =>
  cases a <;> simp only [PC.chk] at h <;> try (cases h; done)
  rename_i k n
  cases h1 : Nat.beq (kno k) 3 <;> rw [h1] at h
  ·cases h
  have e : k = .i64:=J1c (Nat.eq_of_beq_eq_true h1)
  subst e
  cases h2 : G7g ts j with
  | none=>rw [h2] at h; cases h
  | some t =>
   rw [h2] at h
   simp only at h
   rw [J1x,beq_iff_eq] at h
   have h3 : n = (t : Int) + d:=h
   rw [J4m] at h2
   have h4:=hT j t h2
   cases inc with
   | false =>
    obtain ⟨m,e1,t',ht,l1,l2⟩:=VR.q_iff.1 hy
    have:=((QT.num (μ:=μ) (ρ:=ρ) (T:=T) j).mono hle2).eq ht
    have : m = n:=by omega
    subst this
    exact VR.i_iff.2 e1
   | true =>
    obtain ⟨m,e1,t',ht,l1,l2⟩:=VR.q_iff.1 hy
    have:=((QT.num (μ:=μ) (ρ:=ρ) (T:=T) j).mono hle2).eq ht
    have e3 : Int.add d 1 = d + 1:=rfl
    rw [e3] at l1 l2
    have : m = n + 1:=by omega
    subst this
    exact VR.i_iff.2 e1
end
inductive PO where
 | cells (n : Nat) (ks : List (Nat × V)) (sp : List (Nat × PC)) (z : Bool) (ic : List Nat)
 | ob (o : O)
 | mp (vals : List V) (bs : List Nat) (cl : Nat)
def G4z (ks : List (Nat × V)) (sp : List (Nat × PC)) : List (Nat × PC):=List.rec (motive:=fun _=>List (Nat × PC)) sp (fun x _ ih=>(x.1,.k x.2)::ih) ks
def fnd (sp : List (Nat × PC)) (j : Nat) : Option PC:=List.rec (motive:=fun _=>Option PC) none (fun x _ ih=>Bool.rec ih (some x.2) (Nat.beq x.1 j)) sp
theorem U5a : ∀ {sp : List (Nat × PC)} {j : Nat} {pc : PC},fnd sp j = some pc → (j,pc) ∈ sp
 | [],_,_,h=>by cases h
 | x::sp,j,pc,h=>by
  have h2 : (Bool.rec (fnd sp j) (some x.2) (Nat.beq x.1 j) : Option PC) = some pc:=h
  cases hb : Nat.beq x.1 j <;> rw [hb] at h2
  ·exact List.mem_cons_of_mem _ (U5a h2)
  ·cases h2
   rw [← Nat.eq_of_beq_eq_true hb]; exact List.mem_cons_self
def preC (sp : List (Nat × PC)) (j : Nat) (a : V) : V:=match fnd sp j with | some pc=>pc.pre a | none=>a
def Q4z (sp : List (Nat × PC)) (j : Nat) (a : V) : V:=match fnd sp j with | some pc=>pc.post a | none=>a
def Q7j (sp : List (Nat × PC)) (j : Nat) : Bool:=match fnd sp j with | some pc=>pc.inc | none=>false
def rowL (f : Nat → V → V) (x : Nat → V) (n : Nat) : Nat → List V:=Nat.rec (motive:=fun _=>Nat → List V) (fun _=>[]) (fun _ ih k=>f k (x k)::ih (Nat.add k 1)) n
theorem U4n (f : Nat → V → V) (x : Nat → V) : ∀ n k j,j < n → (rowL f x n k)[j]? = some (f (k + j) (x (k + j)))
 | 0,_,_,h=>by omega
 | n + 1,k,0,_=>rfl
 | n + 1,k,j + 1,h=>by
  show (rowL f x n (k + 1))[j]? = _
  rw [U4n f x n (k + 1) j (by omega)]
  have : k + 1 + j = k + (j + 1):=by omega
  rw [this]
def zipK (x : Nat → V) (vals : List V) : Nat → List (V × V):=List.rec (motive:=fun _=>Nat → List (V × V)) (fun _=>[]) (fun v _ ih k=>(x k,v)::ih (Nat.add k 1)) vals
def PO.pre (po : PO) (x : Nat → V) : O :=
 match po with
 | .cells n ks sp z _=>.cells n (C.puts (rowL (preC (G4z ks sp)) x n 0) 0 .e) z
 | .ob o=>o
 | .mp vals bs cl=>.map (zipK x vals 0) bs cl
inductive OB where
 | c (n : Nat) (l : List V) (z : Bool) | m (es : List (V × V)) (bs : List Nat) (cl : Nat) | x
def obO (o : O) : OB:=match o with | .cells n c z=>.c n (C.list c n 0) z | .map es bs cl=>.m es bs cl | _=>.x
def PO.post (po : PO) (x : Nat → V) : OB :=
 match po with
 | .cells n ks sp z _=>.c n (rowL (Q4z (G4z ks sp)) x n 0) z
 | .ob o=>obO o
 | .mp vals bs cl=>.m (zipK x vals 0) bs cl
def meqs (x y : List (V × V)) : Bool:=List.rec (motive:=fun _=>List (V × V) → Bool) (fun y=>List.rec true (fun _ _ _=>false) y) (fun a _ ih y=>List.rec (motive:=fun _=>Bool) false (fun b y _=>Bool.rec false (ih y) (veq 100 a.1 b.1 && veq 100 a.2 b.2)) y) x y
theorem J9z : ∀ {x y : List (V × V)},meqs x y = true → x = y
 | [],[],_=>rfl
 | [],_::_,h=>by cases h
 | _::_,[],h=>by cases h
 | a::x,b::y,h=>by
  have h2 : (Bool.rec false (meqs x y) (veq 100 a.1 b.1 && veq 100 a.2 b.2) : Bool) = true:=h
  cases hb : (veq 100 a.1 b.1 && veq 100 a.2 b.2) <;> rw [hb] at h2
  ·cases h2
  rw [Bool.and_eq_true] at hb
  rw [Prod.ext (J2u _ _ _ hb.1) (J2u _ _ _ hb.2),J9z h2]
def Q3q (vals : List V) : List (V × V) → Bool:=List.rec (motive:=fun _=>List (V × V) → Bool) (fun es=>List.rec true (fun _ _ _=>false) es) (fun v _ ih es=>List.rec (motive:=fun _=>Bool) false (fun e es _=>Bool.rec false (ih es) (veq 100 e.2 v)) es) vals
def keyX (es : List (V × V)) (j : Nat) : V:=match es[j]? with | some e=>e.1 | none=>.u
theorem J7t : ∀ {vals : List V} {es : List (V × V)} (k : Nat) (x : Nat → V),Q3q vals es = true → (∀ j e,es[j]? = some e → x (k + j) = e.1) → zipK x vals k = es
 | [],[],_,_,_,_=>rfl
 | [],_::_,_,_,h,_=>by cases h
 | _::_,[],_,_,h,_=>by cases h
 | v::vals,e::es,k,x,h,hx=>by
  have h2 : (Bool.rec false (Q3q vals es) (veq 100 e.2 v) : Bool) = true:=h
  cases hb : veq 100 e.2 v <;> rw [hb] at h2
  ·cases h2
  have e1:=J2u _ _ _ hb
  have e2 : x k = e.1:=hx 0 e rfl
  show (x k,v)::zipK x vals (k + 1) = e::es
  rw [e2,← e1,J7t (k + 1) x h2 (fun j e' hj=>by have:=hx (j + 1) e' hj; rw [← this]; congr 1; omega)]
def G8i (ρ ts : List Nat) (c : C) (sp : List (Nat × PC)) : Bool:=List.rec (motive:=fun _=>Bool) true (fun x _ ih=>Bool.rec false ih (x.2.chk ρ ts (C.at_ c x.1))) sp
theorem U0v {ρ ts : List Nat} {c : C} : ∀ {sp : List (Nat × PC)},G8i ρ ts c sp = true → ∀ x ∈ sp,x.2.chk ρ ts (C.at_ c x.1) = true
 | [],_,x,hx=>by cases hx
 | y::sp,h,x,hx=>by
  have h2 : (Bool.rec false (G8i ρ ts c sp) (y.2.chk ρ ts (C.at_ c y.1)) : Bool) = true:=h
  cases hb : y.2.chk ρ ts (C.at_ c y.1) <;> rw [hb] at h2
  ·cases h2
  rcases List.mem_cons.1 hx with rfl | hx
  ·exact hb
  ·exact U0v h2 x hx
def G3k (c : C) (ks : List (Nat × V)) : Bool:=List.rec (motive:=fun _=>Bool) true (fun x _ ih=>Bool.rec false ih (veq 100 (C.at_ c x.1) x.2)) ks
theorem U5g {ρ ts : List Nat} {c : C} {sp : List (Nat × PC)} (h2 : G8i ρ ts c sp = true) : ∀ {ks : List (Nat × V)},G3k c ks = true → G8i ρ ts c (G4z ks sp) = true
 | [],_=>h2
 | x::ks,h=>by
  have h3 : (Bool.rec false (G3k c ks) (veq 100 (C.at_ c x.1) x.2) : Bool) = true:=h
  show (Bool.rec false (G8i ρ ts c (G4z ks sp)) (veq 100 (C.at_ c x.1) x.2) : Bool) = true
  cases hb : veq 100 (C.at_ c x.1) x.2 <;> rw [hb] at h3
  ·cases h3
  ·exact U5g h2 h3
def PO.chk (ρ ts : List Nat) (po : PO) (o : O) : Bool :=
 match po with
 | .cells n ks sp z _=>match o with | .cells n' c z'=>Bool.rec false (Bool.rec false (G8i ρ ts c sp) (G3k c ks)) (Nat.beq n n' && eqB z z') | _=>false
 | .ob o'=>match o' with
  | .map es bs cl=>match o with | .map es' bs' cl'=>Bool.rec false (meqs es' es) (Nat.beq cl cl' && eqL bs bs') | _=>false
  | _=>false
 | .mp vals bs cl=>match o with | .map es' bs' cl'=>Bool.rec false (Q3q vals es') (Nat.beq cl cl' && eqL bs bs') | _=>false
def Q7h (c : C) (ic : List Nat) : C → C:=List.rec (motive:=fun _=>C → C) (fun c'=>c') (fun j _ ih c'=>ih (C.put c' j (Q7i (C.at_ c j)))) ic
theorem G3x (c : C) (i : Nat) : ∀ (ic : List Nat) (c' : C),C.at_ (Q7h c ic c') i = .u ∨ (i ∈ ic ∧ C.at_ (Q7h c ic c') i = Q7i (C.at_ c i)) ∨ (¬ i ∈ ic ∧ C.at_ (Q7h c ic c') i = C.at_ c' i)
 | [],c'=>.inr (.inr ⟨by simp,rfl⟩)
 | j::ic,c'=>by
  have hd : Q7h c (j::ic) c' = Q7h c ic (C.put c' j (Q7i (C.at_ c j))):=rfl
  rw [hd]
  rcases G3x c i ic (C.put c' j (Q7i (C.at_ c j))) with g | ⟨g1,g2⟩ | ⟨g1,g2⟩
  ·exact .inl g
  ·exact .inr (.inl ⟨List.mem_cons_of_mem _ g1,g2⟩)
  ·rw [g2]
   rcases C.at_put c' j (Q7i (C.at_ c j)) i with h1 | ⟨rfl,h1⟩ | ⟨h0,h1⟩
   ·exact .inl h1
   ·exact .inr (.inl ⟨List.mem_cons_self,h1⟩)
   ·exact .inr (.inr ⟨by simp [h0,g1],h1⟩)
def PO.nu (po : PO) (o : O) : O:=match po with | .cells _ _ _ _ ic=>(match o with | .cells n c z=>.cells n (Q7h c ic c) z | o=>o) | _=>o
end Go.X
namespace Go.X
open Go.RowKit
inductive PN where
 | a (r : Nat) | r (i : Nat)
def PN.nm (p : PN) : Nat:=match p with | .a n=>n | .r i=>Nat.add 65536001 i
def PN.act (ρ : List Nat) (p : PN) : Option Nat:=match p with | .a n=>some n | .r i=>G7g ρ i
def PN.low (p : PN) : Bool:=match p with | .a n=>Nat.ble (Nat.add n 1) 65536000 | .r _=>true
theorem PN.act_eq (ρ : List Nat) {p : PN} (h : p.low = true) : p.act ρ = J9h ρ p.nm:=by
 cases p with
 | a n =>
  have h1 : n + 1 ≤ 65536000:=Nat.le_of_ble_eq_true h
  show some n = J9h ρ n
  unfold J9h K0
  rw [if_pos (by omega)]
 | r i =>
  show G7g ρ i = J9h ρ (Nat.add 65536001 i)
  rw [J5a,J4m]
structure SE where
 vs : List V
 fs : List (PN × Nat)
 tm : PN × Nat
 tc : PN × Nat
 tb : List (PN × Nat)
 os : List (PN × PO)
 v : V
def nmV (v : V) : Option Nat:=match v with | .p b _=>some b | .sl b _ _ _ _=>some b | .m b=>some b | _=>none
def U2f (h : H) (ρ : List Nat) (p : PN) (j : Nat) : V :=
 match p.act ρ with | some r=>(match h.get r with | .cells n c _=>Bool.rec .u (C.at_ c j) (Nat.ble (Nat.add j 1) n) | _=>.u) | none=>.u
def G7x (h : H) (fs : List (PN × Nat)) : List Nat → Option (List Nat) :=
 List.rec (motive:=fun _=>List Nat → Option (List Nat)) (fun ρ=>some ρ) (fun x _ ih ρ=>match nmV (U2f h ρ x.1 x.2) with | some b=>ih (ρ ++ [b]) | none=>none) fs
theorem U7k {h : H} : ∀ {fs : List (PN × Nat)} {ρ ρ' : List Nat},G7x h fs ρ = some ρ' → ρ'.length = ρ.length + fs.length
 | [],ρ,ρ',h=>by cases h; simp
 | x::fs,ρ,ρ',hh=>by
  have h2 : (match nmV (U2f h ρ x.1 x.2) with | some b=>G7x h fs (ρ ++ [b]) | none=>none) = some ρ':=hh
  cases hb : nmV (U2f h ρ x.1 x.2) <;> rw [hb] at h2
  ·cases h2
  have:=U7k h2
  simp at this ⊢
  omega
def U4h (v : V) : Option Nat:=match v with | .i _ n=>(match n with | .ofNat m=>Bool.rec none (some m) (Nat.ble m 65535) | _=>none) | _=>none
theorem U2n {v : V} {m : Nat} (h : U4h v = some m) : m < 65536:=by
 cases v <;> simp only [U4h] at h <;> try (cases h; done)
 rename_i k n
 cases n with
 | ofNat m =>
  simp only at h
  cases hb : Nat.ble m 65535 <;> rw [hb] at h
  ·cases h
  ·cases h
   have:=Nat.le_of_ble_eq_true hb; omega
 | negSucc m=>cases h
def G3t (h : H) (ρ : List Nat) (t : Nat) (tb : List (PN × Nat)) : Option (List Nat) :=
 List.rec (motive:=fun _=>Option (List Nat)) (some []) (fun x _ ih=>match U4h (U2f h ρ x.1 x.2) with
  | some b=>Bool.rec none (match ih with | some l=>some (b::l) | none=>none) (Nat.ble b t && Nat.ble t (Nat.add b 88))
  | none=>none) tb
theorem U3w {h : H} {ρ : List Nat} {t : Nat} : ∀ {tb : List (PN × Nat)} {bs : List Nat},G3t h ρ t tb = some bs → ∀ b ∈ bs,b ≤ t ∧ t ≤ b + 88
 | [],bs,hh=>by cases hh; intro b hb; cases hb
 | x::tb,bs,hh=>by
  have h2 : (match U4h (U2f h ρ x.1 x.2) with
   | some b=>Bool.rec none (match G3t h ρ t tb with | some l=>some (b::l) | none=>none) (Nat.ble b t && Nat.ble t (Nat.add b 88))
   | none=>none : Option (List Nat)) = some bs:=hh
  cases h3 : U4h (U2f h ρ x.1 x.2) <;> rw [h3] at h2
  ·cases h2
  rename_i b
  simp only at h2
  cases h4 : (Nat.ble b t && Nat.ble t (Nat.add b 88)) <;> rw [h4] at h2
  ·cases h2
  cases h5 : G3t h ρ t tb <;> rw [h5] at h2
  ·cases h2
  rename_i l
  cases h2
  rw [Bool.and_eq_true] at h4
  intro b' hb'
  rcases List.mem_cons.1 hb' with e | hb'
  ·rw [e]
   exact ⟨Nat.le_of_ble_eq_true h4.1,Nat.le_of_ble_eq_true h4.2⟩
  ·exact U3w h5 b' hb'
def oksS (h : H) (ρ ts : List Nat) (os : List (PN × PO)) : Bool :=
 List.rec (motive:=fun _=>Bool) true (fun x _ ih=>match x.1.act ρ with | some r=>Bool.rec false ih (x.2.chk ρ ts (h.get r)) | none=>false) os
theorem U6n {h : H} {ρ ts : List Nat} : ∀ {os : List (PN × PO)},oksS h ρ ts os = true → ∀ x ∈ os,∃ r,x.1.act ρ = some r ∧ x.2.chk ρ ts (h.get r) = true
 | [],_,x,hx=>by cases hx
 | y::os,hh,x,hx=>by
  have h2 : (match y.1.act ρ with | some r=>(Bool.rec false (oksS h ρ ts os) (y.2.chk ρ ts (h.get r)) : Bool) | none=>false) = true:=hh
  cases ha : y.1.act ρ <;> rw [ha] at h2
  ·cases h2
  rename_i r
  simp only at h2
  cases hb : y.2.chk ρ ts (h.get r) <;> rw [hb] at h2
  ·cases h2
  rcases List.mem_cons.1 hx with rfl | hx
  ·exact ⟨r,ha,hb⟩
  ·exact U6n h2 x hx
def ninS (ρ : List Nat) (r : Nat) (os : List (PN × PO)) : Bool :=
 List.rec (motive:=fun _=>Bool) true (fun x _ ih=>match x.1.act ρ with | some r'=>Bool.rec ih false (Nat.beq r r') | none=>false) os
def nodS (ρ : List Nat) (os : List (PN × PO)) : Bool :=
 List.rec (motive:=fun _=>Bool) true (fun x os ih=>match x.1.act ρ with | some r=>Bool.rec false ih (ninS ρ r os) | none=>false) os
theorem J9x {ρ : List Nat} {r : Nat} : ∀ {os : List (PN × PO)},ninS ρ r os = true → ∀ x ∈ os,x.1.act ρ ≠ some r
 | [],_,x,hx=>by cases hx
 | y::os,hh,x,hx=>by
  have h2 : (match y.1.act ρ with | some r'=>(Bool.rec (ninS ρ r os) false (Nat.beq r r') : Bool) | none=>false) = true:=hh
  cases ha : y.1.act ρ <;> rw [ha] at h2
  ·cases h2
  rename_i r'
  simp only at h2
  cases hb : Nat.beq r r' <;> rw [hb] at h2
  ·rcases List.mem_cons.1 hx with rfl | hx
   ·intro e
    rw [ha] at e; cases e
    rw [Nat.beq_refl] at hb; cases hb
   ·exact J9x h2 x hx
  ·cases h2
theorem U6u {ρ : List Nat} : ∀ {os : List (PN × PO)},nodS ρ os = true → ∀ x ∈ os,∀ y ∈ os,∀ r,x.1.act ρ = some r → y.1.act ρ = some r → x = y
 | [],_,x,hx=>by cases hx
 | z::os,hh,x,hx=>by
  have h2 : (match z.1.act ρ with | some r=>(Bool.rec false (nodS ρ os) (ninS ρ r os) : Bool) | none=>false) = true:=hh
  cases ha : z.1.act ρ <;> rw [ha] at h2
  ·cases h2
  rename_i r'
  simp only at h2
  cases hb : ninS ρ r' os <;> rw [hb] at h2
  ·cases h2
  intro y hy r e1 e2
  rcases List.mem_cons.1 hx with ex | hx2
  ·rcases List.mem_cons.1 hy with ey | hy2
   ·rw [ex,ey]
   ·rw [ex,ha] at e1; cases e1
    exact absurd e2 (J9x hb y hy2)
  ·rcases List.mem_cons.1 hy with ey | hy2
   ·rw [ey,ha] at e2; cases e2
    exact absurd e1 (J9x hb x hx2)
   ·exact U6u h2 x hx2 y hy2 r e1 e2
def G4v (po : PO) : Bool:=match po with | .cells _ _ _ _ ic=>(match ic with | []=>false | _=>true) | _=>false
def nuS (h0 : H) (ρ : List Nat) (os : List (PN × PO)) : H → H :=
 List.rec (motive:=fun _=>H → H) (fun h=>h) (fun x _ ih h=>match x.1.act ρ with | some r=>Bool.rec (ih h) (ih (h.upd r (x.2.nu (h0.get r)))) (G4v x.2) | none=>ih h) os
def argsS (x y : List V) : Bool:=Q8e (veq 100) x y
def SE.go (e : SE) (vs : List V) (h : H) : Option (V × H) :=
 Bool.rec none (match G7x h e.fs [] with
  | some ρ=>(match U4h (U2f h ρ e.tm.1 e.tm.2) with
   | some t=>(match U4h (U2f h ρ e.tc.1 e.tc.2) with
    | some c=>(match G3t h ρ t e.tb with
     | some bs=>Bool.rec none (Bool.rec none (some (e.v,nuS h ρ e.os h)) (nodS ρ e.os)) (oksS h ρ (t::c::bs) e.os)
     | none=>none)
    | none=>none)
   | none=>none)
  | none=>none) (Nat.ble h.next 65536000 && argsS vs e.vs)
def SE.L (e : SE) (x : Nat → Nat → V) : List (Nat × O):=e.os.map fun a=>(a.1.nm,a.2.pre (x a.1.nm))
def icB (sp : List (Nat × PC)) (ic : List Nat) : Bool:=(List.all sp fun x=>Bool.rec true (ic.any fun j=>Nat.beq j x.1) x.2.inc) && (List.all ic fun j=>Q7j sp j)
def PO.okB (po : PO) : Bool:=match po with | .cells _ ks sp _ ic=>icB (G4z ks sp) ic | _=>true
def SE.okB (e : SE) : Bool:=List.all e.os fun a=>a.1.low && a.2.okB
section
variable {P : Program} {B : Bs}
theorem OR.back {μ μ' : M} {w w0 : World} {g q N : Nat} (hl : M.le μ μ') {es : List (V × V)} {bs : List Nat} {cl : Nat} (h0 : OR B μ w0 g q N (.map es bs cl)) (h : OR B μ' w g q N (.map es bs cl)) : OR B μ w g q N (.map es bs cl):=by
 obtain ⟨ms0,_,a2,_⟩:=h0
 obtain ⟨ms,b1,b2,b3⟩:=h
 exact ⟨ms,b1,ER.back hl a2 b2,b3⟩
theorem PO.pre_ok {μ : M} {ρ ts : List Nat} {T : Nat} {w : World} {g q N : Nat} (hle : M.le μ (μ.sym ρ T)) (hT : Q8p T ts) {po : PO} {o : O} (h : po.chk ρ ts o = true) {x : Nat → V}
  (hx : ∀ n c z,o = .cells n c z → ∀ j,j < n → x j = C.at_ c j) (hy : ∀ es bs cl,o = .map es bs cl → ∀ j e,es[j]? = some e → x j = e.1) (hor : OR B μ w g q N o) : OR B (μ.sym ρ T) w g q N (po.pre x):=by
 cases po with
 | cells n ks sp0 z ic =>
  cases o <;> simp only [PO.chk] at h <;> try (cases h; done)
  rename_i n' c z'
  cases hn : (Nat.beq n n' && eqB z z') <;> rw [hn] at h
  ·cases h
  cases hks : G3k c ks <;> rw [hks] at h
  ·cases h
  have h : G8i ρ ts c (G4z ks sp0) = true:=U5g h hks
  obtain ⟨sp,hsp⟩ : ∃ sp,sp = G4z ks sp0:=⟨_,rfl⟩
  rw [← hsp] at h
  rw [Bool.and_eq_true] at hn
  have e1:=Nat.eq_of_beq_eq_true hn.1
  have e2:=hn.2
  rw [J5n,beq_iff_eq] at e2
  subst e1; subst e2
  obtain ⟨cur,e,fr,h1,h2,h3,h4,h5,h6⟩:=hor
  refine ⟨cur,e,fr,h1,h2,h3,h4,h5,fun i hi=>?_⟩
  obtain ⟨v,k1,k2⟩:=h6 i hi
  refine ⟨v,k1,?_⟩
  show VR (μ.sym ρ T) (C.at_ (C.puts (rowL (preC (G4z ks sp0)) x n 0) 0 .e) i) v
  rw [← hsp]
  rcases U1h (rowL (preC sp) x n 0) i with k | ⟨a,ka,k⟩
  ·rw [k]; exact VR.u _
  rw [k]
  rw [U4n _ _ _ _ _ hi] at ka
  cases ka
  rw [Nat.zero_add,hx n c z rfl i hi]
  unfold preC
  cases hf : fnd sp i with
  | none=>exact VR.mono hle _ _ k2
  | some pc=>exact PC.pre_ok hle hT (U0v h _ (U5a hf)) k2
 | ob o' =>
  cases o' <;> simp only [PO.chk] at h <;> try (cases h; done)
  rename_i es bs cl
  cases o <;> simp only at h <;> try (cases h; done)
  rename_i es' bs' cl'
  cases hn : (Nat.beq cl cl' && eqL bs bs') <;> rw [hn] at h
  ·cases h
  rw [Bool.and_eq_true] at hn
  have e1:=Nat.eq_of_beq_eq_true hn.1
  have e2:=(J1v _ _).1 hn.2
  have e3:=J9z h
  subst e1; subst e2; subst e3
  exact hor.mono hle rfl
 | mp vals bs cl =>
  cases o <;> simp only [PO.chk] at h <;> try (cases h; done)
  rename_i es' bs' cl'
  cases hn : (Nat.beq cl cl' && eqL bs bs') <;> rw [hn] at h
  ·cases h
  rw [Bool.and_eq_true] at hn
  have e1:=Nat.eq_of_beq_eq_true hn.1
  have e2:=(J1v _ _).1 hn.2
  subst e1; subst e2
  have e3:=J7t 0 x h (fun j e hj=>by rw [Nat.zero_add]; exact hy _ _ _ rfl j e hj)
  show OR B (μ.sym ρ T) w g q N (.map (zipK x vals 0) bs cl)
  rw [e3]
  exact hor.mono hle rfl
theorem G7r {sp : List (Nat × PC)} {ic : List Nat} (h : icB sp ic = true) (i : Nat) : (i ∈ ic → Q7j sp i = true) ∧ (Q7j sp i = true → i ∈ ic):=by
 unfold icB at h
 rw [Bool.and_eq_true,List.all_eq_true,List.all_eq_true] at h
 refine ⟨fun hi=>h.2 i hi,fun hi=>?_⟩
 unfold Q7j at hi
 cases hf : fnd sp i with
 | none=>rw [hf] at hi; cases hi
 | some pc =>
  rw [hf] at hi
  have h1:=h.1 _ (U5a hf)
  simp only at hi h1
  rw [hi] at h1
  have h2 : (ic.any fun j=>Nat.beq j i) = true:=h1
  rw [List.any_eq_true] at h2
  obtain ⟨j,hj,he⟩:=h2
  rw [← Nat.eq_of_beq_eq_true he]; exact hj
theorem PO.post_ok {μ μ' : M} {ρ ts : List Nat} {T : Nat} {w w' : World} {g q N : Nat} (hle : M.le μ (μ.sym ρ T)) (hle2 : M.le (μ.sym ρ T) μ') (hT : Q8p T ts) {po : PO} (hok : po.okB = true) {o o1 : O} (h : po.chk ρ ts o = true) {x : Nat → V}
  (hx : ∀ n c z,o = .cells n c z → ∀ j,j < n → x j = C.at_ c j) (hy : ∀ es bs cl,o = .map es bs cl → ∀ j e,es[j]? = some e → x j = e.1) (h1 : obO o1 = po.post x) (hor : OR B μ w g q N o) (hor2 : OR B μ' w' g q N o1) :
  OR B μ w' g q N (po.nu o) ∧ (G4v po = false → po.nu o = o) ∧ o1 ≠ .dead:=by
 have hl:=M.le_trans hle hle2
 cases po with
 | cells n ks sp0 z ic =>
  cases o <;> simp only [PO.chk] at h <;> try (cases h; done)
  rename_i n' c z'
  cases hn : (Nat.beq n n' && eqB z z') <;> rw [hn] at h
  ·cases h
  cases hks : G3k c ks <;> rw [hks] at h
  ·cases h
  have h : G8i ρ ts c (G4z ks sp0) = true:=U5g h hks
  obtain ⟨sp,hsp⟩ : ∃ sp,sp = G4z ks sp0:=⟨_,rfl⟩
  rw [← hsp] at h
  rw [Bool.and_eq_true] at hn
  have e1:=Nat.eq_of_beq_eq_true hn.1
  have e2:=hn.2
  rw [J5n,beq_iff_eq] at e2
  subst e1; subst e2
  cases o1 <;> simp only [obO,PO.post] at h1 <;> try (cases h1; done)
  rename_i n1 c1 z1
  simp only [OB.c.injEq] at h1
  obtain ⟨rfl,h1,rfl⟩:=h1
  rw [← hsp] at h1
  have hok : icB sp ic = true:=by rw [hsp]; exact hok
  refine ⟨?_,?_,by simp⟩
  ·obtain ⟨cur0,e0,fr0,_,_,_,_,_,p6⟩:=hor
   obtain ⟨cur,e,fr,q1,q2,q3,q4,q5,q6⟩:=hor2
   show OR B μ w' g q N (.cells n1 (Q7h c ic c) z1)
   refine ⟨cur,e,fr,q1,q2,q3,q4,q5,fun i hi=>?_⟩
   obtain ⟨v0,_,a2⟩:=p6 i hi
   obtain ⟨v,b1,b2⟩:=q6 i hi
   refine ⟨v,b1,?_⟩
   have g1:=C.list_get c1 n1 0 i hi
   rw [h1,U4n _ _ _ _ _ hi,Nat.zero_add,hx n1 c z1 rfl i hi] at g1
   have g2 : C.at_ c1 i = Q4z sp i (C.at_ c i):=(Option.some.inj g1).symm
   rw [g2] at b2
   have main : VR μ (Bool.rec (C.at_ c i) (Q7i (C.at_ c i)) (Q7j sp i)) v:=by
    unfold Q4z at b2
    unfold Q7j
    cases hf : fnd sp i with
    | none=>rw [hf] at b2; exact VR.back hl _ _ _ a2 b2
    | some pc=>rw [hf] at b2; exact PC.post_ok hle hle2 hT (U0v h _ (U5a hf)) a2 b2
   have hic:=G7r hok i
   rcases G3x c i ic c with k | ⟨k1,k⟩ | ⟨k1,k⟩
   ·rw [k]; exact VR.u _
   ·rw [k]
    rw [hic.1 k1] at main
    exact main
   ·rw [k]
    cases hc : Q7j sp i with
    | false=>rw [hc] at main; exact main
    | true=>exact absurd (hic.2 hc) k1
  ·intro hh
   cases ic with
   | nil=>rfl
   | cons j ic=>cases hh
 | ob o' =>
  cases o' <;> simp only [PO.chk] at h <;> try (cases h; done)
  rename_i es bs cl
  cases o <;> simp only at h <;> try (cases h; done)
  rename_i es' bs' cl'
  cases hn : (Nat.beq cl cl' && eqL bs bs') <;> rw [hn] at h
  ·cases h
  rw [Bool.and_eq_true] at hn
  have e1:=Nat.eq_of_beq_eq_true hn.1
  have e2:=(J1v _ _).1 hn.2
  have e3:=J9z h
  subst e1; subst e2; subst e3
  cases o1 <;> simp only [obO,PO.post] at h1 <;> try (cases h1; done)
  simp only [OB.m.injEq] at h1
  obtain ⟨rfl,rfl,rfl⟩:=h1
  exact ⟨OR.back hl hor hor2,fun _=>rfl,by simp⟩
 | mp vals bs cl =>
  cases o <;> simp only [PO.chk] at h <;> try (cases h; done)
  rename_i es' bs' cl'
  cases hn : (Nat.beq cl cl' && eqL bs bs') <;> rw [hn] at h
  ·cases h
  rw [Bool.and_eq_true] at hn
  have e1:=Nat.eq_of_beq_eq_true hn.1
  have e2:=(J1v _ _).1 hn.2
  subst e1; subst e2
  have e3:=J7t 0 x h (fun j e hj=>by rw [Nat.zero_add]; exact hy _ _ _ rfl j e hj)
  cases o1 <;> simp only [obO,PO.post] at h1 <;> try (cases h1; done)
  simp only [OB.m.injEq] at h1
  obtain ⟨rfl,rfl,rfl⟩:=h1
  rw [e3] at hor2
  exact ⟨OR.back hl hor hor2,fun _=>rfl,by simp⟩
theorem Q8b {os : List (PN × PO)} {x : Nat → Nat → V} {b : Nat} (h : inL (os.map fun a=>(a.1.nm,a.2.pre (x a.1.nm))) b = true) :
  ∃ a ∈ os,a.1.nm = b ∧ asc (os.map fun a=>(a.1.nm,a.2.pre (x a.1.nm))) b = a.2.pre (x a.1.nm):=by
 have h1:=U1i h
 obtain ⟨a,ha,e⟩:=List.mem_map.1 h1
 simp only [Prod.mk.injEq] at e
 exact ⟨a,ha,e.1,e.2.symm⟩
theorem G2c {x : Nat → Nat → V} : ∀ {os : List (PN × PO)} {a : PN × PO},a ∈ os → inL (os.map fun a=>(a.1.nm,a.2.pre (x a.1.nm))) a.1.nm = true
 | [],a,h=>by cases h
 | y::os,a,h=>by
  show (Bool.rec (inL (os.map fun a=>(a.1.nm,a.2.pre (x a.1.nm))) a.1.nm) true (Nat.beq y.1.nm a.1.nm) : Bool) = true
  rcases List.mem_cons.1 h with rfl | h
  ·rw [Nat.beq_refl]
  ·cases Nat.beq y.1.nm a.1.nm
   ·exact G2c h
   ·rfl
theorem U4x {h0 : H} {ρ : List Nat} {r : Nat} : ∀ (os : List (PN × PO)) (h : H),(∀ x ∈ os,∀ y ∈ os,∀ r,x.1.act ρ = some r → y.1.act ρ = some r → x = y) →
  ((nuS h0 ρ os h).get r = h.get r ∧ ∀ x ∈ os,x.1.act ρ = some r → G4v x.2 = false) ∨ ∃ x ∈ os,x.1.act ρ = some r ∧ G4v x.2 = true ∧ (nuS h0 ρ os h).get r = x.2.nu (h0.get r)
 | [],h,_=>.inl ⟨rfl,fun x hx=>by cases hx⟩
 | y::os,h,hu=>by
  have hd : nuS h0 ρ (y::os) h = (match y.1.act ρ with | some r=>Bool.rec (nuS h0 ρ os h) (nuS h0 ρ os (h.upd r (y.2.nu (h0.get r)))) (G4v y.2) | none=>nuS h0 ρ os h):=rfl
  have hu' : ∀ x ∈ os,∀ y ∈ os,∀ r,x.1.act ρ = some r → y.1.act ρ = some r → x = y:=fun x hx y hy=>hu x (List.mem_cons_of_mem _ hx) y (List.mem_cons_of_mem _ hy)
  rw [hd]
  have plain : ((nuS h0 ρ os h).get r = h.get r ∧ ∀ x ∈ os,x.1.act ρ = some r → G4v x.2 = false) ∨ (∃ x ∈ os,x.1.act ρ = some r ∧ G4v x.2 = true ∧ (nuS h0 ρ os h).get r = x.2.nu (h0.get r)):=U4x os h hu'
  cases ha : y.1.act ρ with
  | none =>
   simp only
   rcases plain with ⟨p1,p2⟩ | ⟨x,p1,p2,p3,p4⟩
   ·refine .inl ⟨p1,fun x hx e=>?_⟩
    rcases List.mem_cons.1 hx with rfl | hx
    ·rw [ha] at e; cases e
    ·exact p2 x hx e
   ·exact .inr ⟨x,List.mem_cons_of_mem _ p1,p2,p3,p4⟩
  | some ry =>
   simp only
   cases hi : G4v y.2 with
   | false =>
    simp only
    rcases plain with ⟨p1,p2⟩ | ⟨x,p1,p2,p3,p4⟩
    ·refine .inl ⟨p1,fun x hx e=>?_⟩
     rcases List.mem_cons.1 hx with rfl | hx
     ·exact hi
     ·exact p2 x hx e
    ·exact .inr ⟨x,List.mem_cons_of_mem _ p1,p2,p3,p4⟩
   | true =>
    simp only
    by_cases e : ry = r
    ·subst e
     rcases U4x (h0:=h0) (r:=ry) os (h.upd ry (y.2.nu (h0.get ry))) hu' with ⟨p1,p2⟩ | ⟨x,p1,p2,p3,p4⟩
     ·rw [H.get_upd_same] at p1
      exact .inr ⟨y,List.mem_cons_self,ha,hi,p1⟩
     ·exact .inr ⟨x,List.mem_cons_of_mem _ p1,p2,p3,p4⟩
    ·rcases U4x (h0:=h0) (r:=r) os (h.upd ry (y.2.nu (h0.get ry))) hu' with ⟨p1,p2⟩ | ⟨x,p1,p2,p3,p4⟩
     ·rw [H.get_upd_ne _ _ e] at p1
      refine .inl ⟨p1,fun x hx e'=>?_⟩
      rcases List.mem_cons.1 hx with rfl | hx
      ·rw [ha] at e'; cases e'; exact absurd rfl e
      ·exact p2 x hx e'
     ·exact .inr ⟨x,List.mem_cons_of_mem _ p1,p2,p3,p4⟩
theorem J9c {h0 : H} {ρ : List Nat} : ∀ (os : List (PN × PO)) (h : H),(nuS h0 ρ os h).next = h.next
 | [],h=>rfl
 | y::os,h=>by
  have hd : nuS h0 ρ (y::os) h = (match y.1.act ρ with | some r=>Bool.rec (nuS h0 ρ os h) (nuS h0 ρ os (h.upd r (y.2.nu (h0.get r)))) (G4v y.2) | none=>nuS h0 ρ os h):=rfl
  rw [hd]
  have key : ∀ (h : H) b o,(h.upd b o).next = h.next:=fun h b o=>by obtain ⟨n,cb,co,t⟩:=h; rw [H.upd_eq]
  cases y.1.act ρ with
  | none=>exact J9c os h
  | some r =>
   cases G4v y.2 with
   | false=>exact J9c os h
   | true=>exact (J9c os _).trans (key _ _ _)
def xOf (h : H) (ρ : List Nat) (b j : Nat) : V:=match J9h ρ b with | some r=>(match h.get r with | .cells _ c _=>C.at_ c j | .map es _ _=>keyX es j | _=>.u) | none=>.u
theorem SE.sound {f : Nat} {e : SE} (hok : e.okB = true) (hv : VP e.v)
  (hs : ∀ x : Nat → Nat → V,∃ h1,CallOK P B f e.vs (J2v (Nat.add 65536001 e.fs.length) (e.L x)) (.ok e.v h1) ∧ ∀ a ∈ e.os,obO (h1.get a.1.nm) = a.2.post (x a.1.nm))
  {vs : List V} {h h' : H} {v : V} (hgo : e.go vs h = some (v,h')) : CallOK P B f vs h (.ok v h'):=by
 unfold SE.go at hgo
 cases hc : (Nat.ble h.next 65536000 && argsS vs e.vs) <;> rw [hc] at hgo
 ·cases hgo
 rw [Bool.and_eq_true] at hc
 obtain ⟨hK,hA⟩:=hc
 have hK:=Nat.le_of_ble_eq_true hK
 have hA : vs = e.vs:=J4p (J2u 100) _ _ hA
 cases hf : G7x h e.fs [] with
 | none=>rw [hf] at hgo; cases hgo
 | some ρ =>
 rw [hf] at hgo
 simp only at hgo
 cases ht : U4h (U2f h ρ e.tm.1 e.tm.2) with
 | none=>rw [ht] at hgo; cases hgo
 | some t =>
 rw [ht] at hgo
 simp only at hgo
 cases htc : U4h (U2f h ρ e.tc.1 e.tc.2) with
 | none=>rw [htc] at hgo; cases hgo
 | some tc =>
 rw [htc] at hgo
 simp only at hgo
 cases htb : G3t h ρ t e.tb with
 | none=>rw [htb] at hgo; cases hgo
 | some bs =>
 rw [htb] at hgo
 simp only at hgo
 obtain ⟨ts,hts⟩ : ∃ ts,ts = t::tc::bs:=⟨_,rfl⟩
 rw [← hts] at hgo
 cases ho : oksS h ρ ts e.os <;> rw [ho] at hgo
 ·cases hgo
 cases hn : nodS ρ e.os <;> rw [hn] at hgo
 ·cases hgo
 cases hgo
 obtain ⟨T,hT⟩ : ∃ T,Q8p T ts:=⟨_,by rw [hts]; exact G7f (U2n ht) (U2n htc) (U3w htb)⟩
 have hlen : ρ.length = e.fs.length:=by have:=U7k hf; simpa using this
 have hok2 : ∀ a ∈ e.os,a.1.low = true ∧ a.2.okB = true:=fun a ha=>by
  have:=List.all_eq_true.1 hok a ha
  rwa [Bool.and_eq_true] at this
 have hact : ∀ a ∈ e.os,a.1.act ρ = J9h ρ a.1.nm:=fun a ha=>PN.act_eq ρ (hok2 a ha).1
 obtain ⟨h1,hrun,hobs⟩:=hs (xOf h ρ)
 have hnod:=U6u hn
 have hoks:=U6n ho
 have hLn : ∀ b,inL (e.L (xOf h ρ)) b = true → ∃ a ∈ e.os,a.1.nm = b ∧ asc (e.L (xOf h ρ)) b = a.2.pre (xOf h ρ a.1.nm):=fun b hb=>Q8b hb
 have hLi : ∀ a ∈ e.os,inL (e.L (xOf h ρ)) a.1.nm = true:=fun a ha=>G2c ha
 have xc : ∀ a ∈ e.os,∀ r,a.1.act ρ = some r → (∀ n c z,h.get r = .cells n c z → ∀ j,j < n → xOf h ρ a.1.nm j = C.at_ c j) ∧ (∀ es bs cl,h.get r = .map es bs cl → ∀ j y,es[j]? = some y → xOf h ρ a.1.nm j = y.1):=by
  intro a ha r hr
  rw [hact a ha] at hr
  constructor
  ·intro n c z hg j _
   unfold xOf
   rw [hr]; simp only; rw [hg]
  ·intro es bs cl hg j y hj
   unfold xOf
   rw [hr]; simp only; rw [hg]
   simp only [keyX,hj]
 have hne : ∀ a ∈ e.os,∀ r,a.2.chk ρ ts (h.get r) = true → h.get r ≠ .dead:=by
  intro a ha r hc hd
  rw [hd] at hc
  cases h2 : a.2 with
  | cells _ _ _ _ _=>rw [h2] at hc; cases hc
  | ob o=>rw [h2] at hc; cases o <;> cases hc
  | mp _ _ _=>rw [h2] at hc; cases hc
 refine CallOK.sym (ρ:=ρ) (T:=T) (h1:=h1) (L:=e.L (xOf h ρ)) (n0:=Nat.add 65536001 e.fs.length) hrun ?_ ?_ ?_ ?_ ?_ ?_ (J9c _ _) ?_
 ·rw [hlen]; rfl
 ·exact hK
 ·intro b b' r h2 h3 h4 h5
  obtain ⟨a,ha,e1,_⟩:=hLn b h2
  obtain ⟨a',ha',e2,_⟩:=hLn b' h3
  have:=hnod a ha a' ha' r (by rw [hact a ha,e1]; exact h4) (by rw [hact a' ha',e2]; exact h5)
  rw [← e1,← e2,this]
 ·intro μ args hle ha
  rw [← hA]; exact VRs.mono hle _ _ ha
 ·intro b hb
  obtain ⟨a,ha,e1,e2⟩:=hLn b hb
  obtain ⟨r,r1,r2⟩:=hoks a ha
  refine ⟨r,by rw [← e1,← hact a ha]; exact r1,hne a ha r r2,fun μ w g q hle hor=>?_⟩
  rw [e2]
  have hs2:=M.sym_act (μ:=μ) (T:=T) (show J9h ρ b = some r by rw [← e1,← hact a ha]; exact r1)
  rw [hs2.2]
  obtain ⟨x1,x2⟩:=xc a ha r r1
  exact PO.pre_ok hle hT r2 x1 x2 hor
 ·intro r hd
  rcases U4x (h0:=h) (r:=r) e.os h hnod with ⟨p1,p2⟩ | ⟨a,p1,p2,p3,p4⟩
  ·by_cases hin : ∃ a ∈ e.os,a.1.act ρ = some r
   ·obtain ⟨a,ha,har⟩:=hin
    obtain ⟨r',r1,r2⟩:=hoks a ha
    rw [har] at r1; cases r1
    obtain ⟨x1,x2⟩:=xc a ha r har
    refine .inr ⟨a.1.nm,hLi a ha,by rw [← hact a ha]; exact har,?_,fun μ μ' w w' g q hle hle2 hor hor2=>?_⟩
    ·intro hd1
     have h9:=hobs a ha
     rw [hd1] at h9
     cases h2 : a.2 with
     | cells _ _ _ _ _=>rw [h2] at h9; cases h9
     | ob o=>rw [h2] at r2 h9; cases o <;> first | (cases r2; done) | (cases h9; done)
     | mp _ _ _=>rw [h2] at h9; cases h9
    ·obtain ⟨k1,k2,_⟩:=PO.post_ok hle hle2 hT (hok2 a ha).2 r2 x1 x2 (hobs a ha) hor hor2
     rw [p1,← k2 (p2 a ha har)]
     exact k1
   ·exact .inl ⟨p1,fun b hb hbr=>by
     obtain ⟨a,ha,e1,_⟩:=hLn b hb
     exact hin ⟨a,ha,by rw [hact a ha,e1]; exact hbr⟩⟩
  ·obtain ⟨r',r1,r2⟩:=hoks a p1
   rw [p2] at r1; cases r1
   obtain ⟨x1,x2⟩:=xc a p1 r p2
   refine .inr ⟨a.1.nm,hLi a p1,by rw [← hact a p1]; exact p2,?_,fun μ μ' w w' g q hle hle2 hor hor2=>?_⟩
   ·intro hd1
    have h9:=hobs a p1
    rw [hd1] at h9
    cases h2 : a.2 with
    | cells _ _ _ _ _=>rw [h2] at h9; cases h9
    | ob o=>rw [h2] at r2 h9; cases o <;> first | (cases r2; done) | (cases h9; done)
    | mp _ _ _=>rw [h2] at h9; cases h9
   ·obtain ⟨k1,_,_⟩:=PO.post_ok hle hle2 hT (hok2 a p1).2 r2 x1 x2 (hobs a p1) hor hor2
    rw [p4]; exact k1
 ·intro μ μ' y _ _ hy
  exact hv _ _ _ hy
end
end Go.X
namespace Go.X
open Go.RowKit
def obsL (h : H) (os : List (PN × PO)) : List OB:=List.rec (motive:=fun _=>List OB) [] (fun a _ ih=>obO (h.get a.1.nm)::ih) os
def G0h (x : Nat → Nat → V) (os : List (PN × PO)) : List OB:=List.rec (motive:=fun _=>List OB) [] (fun a _ ih=>a.2.post (x a.1.nm)::ih) os
def seOb (r : RC) (os : List (PN × PO)) : Option (V × List OB):=RC.rec (motive:=fun _=>Option (V × List OB)) (fun v h=>some (v,obsL h os)) (fun _ _=>none) none r
def SE.h0 (e : SE) (x : Nat → Nat → V) : H:=J2v (Nat.add 65536001 e.fs.length) (e.L x)
theorem U6t {h : H} {x : Nat → Nat → V} : ∀ {os : List (PN × PO)},obsL h os = G0h x os → ∀ a ∈ os,obO (h.get a.1.nm) = a.2.post (x a.1.nm)
 | [],_,a,ha=>by cases ha
 | y::os,hh,a,ha=>by
  have h2 : obO (h.get y.1.nm)::obsL h os = y.2.post (x y.1.nm)::G0h x os:=hh
  injection h2 with h3 h4
  rcases List.mem_cons.1 ha with e | ha
  ·rw [e]; exact h3
  ·exact U6t h4 a ha
theorem W7i {r : RC} {e : SE} {x : Nat → Nat → V} (h : seOb r e.os = some (e.v,G0h x e.os)) : ∃ h1,r = .ok e.v h1 ∧ ∀ a ∈ e.os,obO (h1.get a.1.nm) = a.2.post (x a.1.nm):=by
 cases r with
 | ok v h1 =>
  have h2 : some (v,obsL h1 e.os) = some (e.v,G0h x e.os):=h
  simp only [Option.some.injEq,Prod.mk.injEq] at h2
  obtain ⟨rfl,h3⟩:=h2
  exact ⟨h1,rfl,U6t h3⟩
 | pn _ _=>cases h
 | bad=>cases h
theorem VP.tu0 : VP (.tu []):=VP.tu VPs.nil
end Go.X
namespace Go.X
open Go.RowKit
def seG (es : List SE) (vs : List V) (h : H) : Option (V × H):=List.rec (motive:=fun _=>Option (V × H)) none (fun e _ ih=>match e.go vs h with | some r=>some r | none=>ih) es
def SE.Ok (P : Program) (B : Bs) (f : Nat) (e : SE) : Prop :=
 e.okB = true ∧ VP e.v ∧ ∀ x : Nat → Nat → V,∃ h1,CallOK P B f e.vs (e.h0 x) (.ok e.v h1) ∧ ∀ a ∈ e.os,obO (h1.get a.1.nm) = a.2.post (x a.1.nm)
def AllE (P : Program) (B : Bs) (f : Nat) : List SE → Prop
 | []=>True
 | e::es=>e.Ok P B f ∧ AllE P B f es
theorem W1h {P : Program} {B : Bs} {f : Nat} : ∀ {es : List SE},AllE P B f es → ∀ {vs : List V} {h h' : H} {v : V},seG es vs h = some (v,h') → CallOK P B f vs h (.ok v h')
 | [],_,vs,h,h',v,he=>by cases he
 | e::es,⟨⟨h1,h2,h3⟩,hes⟩,vs,h,h',v,he=>by
  have he2 : (match e.go vs h with | some r=>some r | none=>seG es vs h) = some (v,h'):=he
  cases hg : e.go vs h with
  | none=>rw [hg] at he2; exact W1h hes he2
  | some r =>
   rw [hg] at he2
   cases he2
   exact SE.sound h1 h2 h3 hg
end Go.X
namespace Go.X
open Go.RowKit
theorem VRs.append_iff {μ : M} : ∀ {xs zs : List V} {l : List Value},VRs μ (xs ++ zs) l ↔ ∃ ys ws,l = ys ++ ws ∧ VRs μ xs ys ∧ VRs μ zs ws
 | [],zs,l=>⟨fun h=>⟨[],l,rfl,VRs.nil_iff.2 rfl,h⟩,fun ⟨ys,ws,e,h1,h2⟩=>by rw [VRs.nil_iff.1 h1] at e; rw [e]; exact h2⟩
 | x::xs,zs,l=>by
  constructor
  ·intro h
   obtain ⟨y,ys,rfl,h1,h2⟩:=VRs.cons_iff.1 h
   obtain ⟨as,ws,rfl,h3,h4⟩:=VRs.append_iff.1 h2
   exact ⟨y::as,ws,rfl,VRs.cons_mk h1 h3,h4⟩
  ·rintro ⟨ys,ws,rfl,h1,h2⟩
   obtain ⟨y,ys,rfl,h3,h4⟩:=VRs.cons_iff.1 h1
   exact VRs.cons_mk h3 (VRs.append_iff.2 ⟨ys,ws,rfl,h4,h2⟩)
def U4f (n : Nat) (ks : List (Nat × V)) (z : Bool) : PO:=.cells n ks [] z []
theorem CallOK.win {P : Program} {B : Bs} {f b o l cap n : Nat} {ex z : Bool} {a1 : List V} {ks : List (Nat × V)} {v : V} {h : H} {c : C}
  (hrun : ∀ x : Nat → V,∃ h1,CallOK P B f (a1 ++ [.sl 65536001 o l cap ex]) (J2v 65536002 [(65536001,(U4f n ks z).pre x)]) (.ok v h1) ∧ obO (h1.get 65536001) = (U4f n ks z).post x)
  (hb : h.get b = .cells n c z) (hks : G3k c ks = true) (hok : (U4f n ks z).okB = true) (hK : h.next ≤ K0) (hbn : b < K0) (hv : VP v) : CallOK P B f (a1 ++ [.sl b o l cap ex]) h (.ok v h):=by
 obtain ⟨h1,hr,hobs⟩:=hrun (C.at_ c)
 have hact : J9h [b] 65536001 = some b:=J5a [b] 0
 have hchk : (U4f n ks z).chk [b] [] (h.get b) = true:=by
  rw [hb]
  show (Bool.rec false (Bool.rec false (G8i [b] [] c []) (G3k c ks)) (Nat.beq n n && eqB z z) : Bool) = true
  have e1 : eqB z z = true:=by rw [J5n]; exact beq_self_eq_true z
  rw [hks,Nat.beq_refl,e1]
  rfl
 have hnd : h.get b ≠ .dead:=by rw [hb]; simp
 have hT : Q8p 0 []:=fun j t hj=>by simp at hj
 have x1 : ∀ n' c' z',h.get b = .cells n' c' z' → ∀ j,j < n' → C.at_ c j = C.at_ c' j:=by
  intro n' c' z' e j _
  rw [hb] at e; cases e; rfl
 have x2 : ∀ es bs cl,h.get b = .map es bs cl → ∀ j e,es[j]? = some e → C.at_ c j = e.1:=by
  intro es bs cl e; rw [hb] at e; cases e
 have hin : ∀ b',inL [(65536001,(U4f n ks z).pre (C.at_ c))] b' = true → b' = 65536001:=by
  intro b' hb'
  have h2 : (Bool.rec false true (Nat.beq 65536001 b') : Bool) = true:=hb'
  cases hx : Nat.beq 65536001 b' <;> rw [hx] at h2
  ·cases h2
  ·exact (Nat.eq_of_beq_eq_true hx).symm
 have hin0 : inL [(65536001,(U4f n ks z).pre (C.at_ c))] 65536001 = true:=by
  show (Bool.rec false true (Nat.beq 65536001 65536001) : Bool) = true
  rw [Nat.beq_refl]
 have hasc : asc [(65536001,(U4f n ks z).pre (C.at_ c))] 65536001 = (U4f n ks z).pre (C.at_ c):=by
  show (Bool.rec O.dead ((U4f n ks z).pre (C.at_ c)) (Nat.beq 65536001 65536001) : O) = _
  rw [Nat.beq_refl]
 refine CallOK.sym (ρ:=[b]) (T:=0) hr rfl hK ?_ ?_ ?_ ?_ rfl (fun μ μ' y _ _ hy=>hv _ _ _ hy)
 ·intro b1 b2 r k1 k2 _ _
  rw [hin b1 k1,hin b2 k2]
 ·intro μ args hle ha
  obtain ⟨ys,ws,rfl,k1,k2⟩:=VRs.append_iff.1 ha
  refine VRs.append_iff.2 ⟨ys,ws,rfl,VRs.mono hle _ _ k1,?_⟩
  obtain ⟨y,ys',rfl,k3,k4⟩:=VRs.cons_iff.1 k2
  refine VRs.cons_mk ?_ (by rw [VRs.nil_iff.1 k4]; exact VRs.nil_iff.2 rfl)
  obtain ⟨s1,s2⟩:=M.sym_act (μ:=μ) (T:=0) hact
  simp only [VR] at k3 ⊢
  obtain ⟨g,q,cc,m1,m2,m3,m4,m5⟩:=k3
  exact ⟨g,q,cc,s1.trans m1,m2,m3,m4,fun he=>by rw [s2]; exact m5 he⟩
 ·intro b' hb'
  have e:=hin b' hb'
  subst e
  refine ⟨b,hact,hnd,fun μ w g q hle hor=>?_⟩
  rw [hasc,(M.sym_act (μ:=μ) (T:=0) hact).2]
  exact PO.pre_ok hle hT hchk x1 x2 hor
 ·intro r hd
  by_cases e : r = b
  ·subst e
   refine .inr ⟨65536001,hin0,hact,?_,fun μ μ' w w' g q hle hle2 hor hor2=>?_⟩
   ·intro hd1
    rw [hd1] at hobs
    cases hobs
   ·have:=(PO.post_ok hle hle2 hT hok hchk x1 x2 hobs hor hor2)
    rw [this.2.1 rfl] at this
    exact this.1
  ·refine .inl ⟨rfl,fun b' hb' hr'=>?_⟩
   rw [hin b' hb',hact] at hr'
   cases hr'
   exact e rfl
end Go.X
end
