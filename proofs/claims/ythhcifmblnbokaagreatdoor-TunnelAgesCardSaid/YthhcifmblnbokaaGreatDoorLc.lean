/- How the pieces are joined. -/
import Derived.Test.YthhcifmblnbokaaGreatDoorLb
set_option linter.all false
set_option maxRecDepth 100000
noncomputable section
namespace Go.X
open Go Go.RowKit Go.Proofs
abbrev tt3 : TT:=ttP Tryz.prog
abbrev AtT (w0 : World) (e : E) (h : H) (a : Act) (w : World) : Prop:=At Tryz.prog tt3 G5u Tryz.f3.ntmps w0 e h a w
theorem J5w : TK G5u:=J1e _
theorem U7l {bt : BT} (hb : BG bt) (n0 n : Nat) : SLOK Tryz.prog n0 tt3 (U5e ftL ltG bt n) ∧ ∀ trk N,TK trk → J7m Tryz.prog (bsL Tryz.prog tt3 n0) tt3 trk N n (U5e ftL ltG bt n).y:=W0i J8k J4a G2k W2b (hb n0) n
theorem W2l {bt : BT} (hb : BG bt) (n0 n : Nat) : FOK Tryz.prog (bsL Tryz.prog tt3 n0) (W5s ftL ltG bt (U5e ftL ltG bt n)):=G2o J8k G2k W2b (hb n0) (U7l hb n0 n).1
theorem At.step {bt : BT} (hb : BG bt) {n : Nat} {w0 : World} {c : Code} {Q : Exit → Act → World → Prop} {e e1 : E} {h h1 : H} {a : Act} {w : World} (hA : AtT w0 e h a w) (hk : yx (cY c) (W5s ftL ltG bt (U5e ftL ltG bt n)) (U5e ftL ltG bt n).y e h = .n e1 h1)
  (hgo : ∀ a' w',AtT w0 e1 h1 a' w' → Q .normal a' w') : c.wpIn (FW none) 0 Tryz.prog Q a w:=by
 obtain ⟨μ,g1,g2,g3,g4⟩:=hA
 refine J1r J8k (W2l hb _ n) J4a J5w ((U7l hb _ n).2 _ _ J5w) c g1 g2 ?_
 have hk2 : yx (J0y tt3 G5u Tryz.f3.ntmps c) (W5s ftL ltG bt (U5e ftL ltG bt n)) (U5e ftL ltG bt n).y e h = .n e1 h1:=hk
 rw [hk2]
 intro a' w' μ' k1 k2 k3 k4
 exact hgo a' w' ⟨μ',k1,k2,g3.trans (Ext.belowB g2 k3),k4.trans g4⟩
def mskE (e : E) : E:=⟨.u,.u,e.a2,.u,e.a4,.u,e.a6,e.a7,.u,.u,.u,.u,.u,.u,.u,.u,.e⟩
theorem At.mask {w0 : World} {e : E} {h : H} {a : Act} {w : World} {n : Nat} {L : List (Nat × O)} (hA : AtT w0 e h a w) (hn : Nat.beq h.next n = true) (hL : J9n h L = true) : AtT w0 (mskE e) (J2v n L) a w:=by
 obtain ⟨μ,h1,h2,h3,h4⟩:=hA
 refine ⟨μ,⟨fun t=>?_,h1.size⟩,h2.lit (Nat.eq_of_beq_eq_true hn) hL,h3,h4⟩
 have h5:=h1.val t
 have h6 : ∀ e : E,odV [] e (U1r G5u [] t) = match G5u t with | some s=>rdS s e | none=>.u:=by
  intro e
  show odV [] e (J4l G5u t) = _
  unfold J4l
  cases G5u t <;> rfl
 rw [h6] at h5 ⊢
 cases ht : G5u t with
 | none=>exact VR.u _
 | some s =>
  rw [ht] at h5
  cases s with
  | b k =>
   have e1 : rdS (.b k) (mskE e) = .u:=by
    show C.at_ .e k = .u
    rcases C.at_puts ([] : List V) 0 .e k with h | ⟨x,_,h2,_⟩ | ⟨_,h⟩
    ·exact h
    ·simp at h2
    ·exact C.at_e k
   show VR μ (rdS (.b k) (mskE e)) _
   rw [e1]; exact VR.u _
  | a i=>cases i <;> first | exact h5 | exact VR.u _
def pcE (k : Nat) (e : E) (n : Nat) (L : List (Nat × O)) (n2 : Nat) (L2 : List (Nat × O)) : Option E :=
 R.rec (motive:=fun _=>Option E) (fun e1 h1=>Bool.rec none (some (mskE e1)) (Nat.beq h1.next n2 && J9n h1 L2)) (fun _ _ _=>none) (fun _ _=>none) (fun _ _ _=>none) none (itT k e (J2v n L))
def cTl : Code:=sqB (sqB (sqB (sqB (sqB (sqB c3)))))
def Rn (w0 : World) (m : Nat) (a : Act) (w : World) : Prop:=Code.roundsIn (FW none) 0 Tryz.prog cLp (Exit.inBlock 0 (Exit.then (cTl.wpIn (FW none) 0 Tryz.prog (U9r Tryz.prog Tryz.f3 w0)) (U9r Tryz.prog Tryz.f3 w0))) m a w
theorem pcs {w0 : World} {m k n n2 : Nat} {e e2 : E} {L L2 : List (Nat × O)} {a : Act} {w : World} (hp : pcB k e n L e2 n2 L2 = true) (hA : AtT w0 e (J2v n L) a w) (hgo : ∀ a' w',AtT w0 e2 (J2v n2 L2) a' w' → Rn w0 m a' w') : Rn w0 (m + k) a w:=by
 unfold pcB itT at hp
 cases hx : W4x yLp fcT (exT 100000).y k e (J2v n L) with
 | n e1 h1 =>
  rw [hx] at hp
  have hp2 : (eqE e1 e2 && (Nat.beq h1.next n2 && J9n h1 L2)) = true:=hp
  simp only [Bool.and_eq_true] at hp2
  rw [← W6j] at hx
  exact At.piece J8k J4a J5w (W2l U1d _ 100000) ((U7l U1d _ 100000).2 _ _ J5w) hA hx hp2.1 hp2.2.1 hp2.2.2 hgo
 | x _ _ _=>rw [hx] at hp; cases hp
 | r _ _=>rw [hx] at hp; cases hp
 | pn _ _ _=>rw [hx] at hp; cases hp
 | bad=>rw [hx] at hp; cases hp
theorem U2u {w0 : World} {m k n n2 : Nat} {e e2 : E} {L L2 : List (Nat × O)} {a : Act} {w : World} (hp : pcE k e n L n2 L2 = some e2) (hA : AtT w0 e (J2v n L) a w) (hgo : ∀ a' w',AtT w0 e2 (J2v n2 L2) a' w' → Rn w0 m a' w') : Rn w0 (m + k) a w:=by
 unfold pcE itT at hp
 cases hx : W4x yLp fcT (exT 100000).y k e (J2v n L) with
 | n e1 h1 =>
  rw [hx] at hp
  have hp2 : (Bool.rec none (some (mskE e1)) (Nat.beq h1.next n2 && J9n h1 L2) : Option E) = some e2:=hp
  cases hc : (Nat.beq h1.next n2 && J9n h1 L2) <;> rw [hc] at hp2
  ·cases hp2
  cases hp2
  rw [Bool.and_eq_true] at hc
  rw [← W6j] at hx
  obtain ⟨μ,g1,g2,g3,g4⟩:=hA
  refine J8b J8k (W2l U1d _ 100000) J4a J5w ((U7l U1d _ 100000).2 _ _ J5w) k g1 g2 hx fun a' w' μ' k1 k2 k3 k4=>hgo a' w' (At.mask ⟨μ',k1,k2,g3.trans (Ext.belowB g2 k3),k4.trans g4⟩ hc.1 hc.2)
 | x _ _ _=>rw [hx] at hp; cases hp
 | r _ _=>rw [hx] at hp; cases hp
 | pn _ _ _=>rw [hx] at hp; cases hp
 | bad=>rw [hx] at hp; cases hp
def yTl : YC:=ysB (ysB (ysB (ysB (ysB (ysB q3.code)))))
theorem yTl_eq : cY cTl = yTl:=by kernel_rfl
theorem q3_eq : J1o tt3 3 Tryz.f3 c3 = q3:=by kernel_rfl
def tlC (e : E) (n : Nat) (L : List (Nat × O)) : Bool:=Q3z q3 0 (.loop yLp) yTl (W5s ftL ltG btT (exT 100000)) (exT 100000).y e (J2v n L)
theorem tls {w0 : World} {n : Nat} {e : E} {L : List (Nat × O)} {a : Act} {w : World} (hp : tlC e n L = true) (hA : AtT w0 e (J2v n L) a w) : Rn w0 100000 a w:=by
 refine At.tail (f:=3) (fn:=Tryz.f3) (c0:=c3) (fc:=W5s ftL ltG btT (exT 100000)) (self:=(exT 100000).y) J8k J4a (W2l U1d _ 100000) ((U7l U1d _ 100000).2 _ _ J5w) hA ?_
 rw [q3_eq]
 have e1 : J0y tt3 (J1d (J0k tt3 Tryz.f3 c3)) Tryz.f3.ntmps cLp = yLp:=W6j
 have e2 : J0y tt3 (J1d (J0k tt3 Tryz.f3 c3)) Tryz.f3.ntmps cTl = yTl:=yTl_eq
 rw [e1,e2]
 exact hp
theorem vz {x : Int} {m r : Nat} (h : x % (m : Int) = (r : Int)) (hr : r < 1024) : VR M.none (.z 0 (m * 1024 + r)) (.int .i64 x):=by
 rw [VR.z0_iff]
 refine ⟨x,rfl,?_⟩
 rw [show (m * 1024 + r) / 1024 = m by omega,show (m * 1024 + r) % 1024 = r by omega]
 exact h
def bndN (x : R) (k : E → H → R) : R:=R.rec (motive:=fun _=>R) (fun e h=>k e h) (fun _ _ _=>.bad) (fun _ _=>.bad) (fun _ _ _=>.bad) .bad x
theorem U7y {x : R} {k : E → H → R} {e : E} {h : H} (hh : bndN x k = .n e h) : ∃ e1 h1,x = .n e1 h1 ∧ k e1 h1 = .n e h:=by
 cases x with
 | n e1 h1=>exact ⟨e1,h1,rfl,hh⟩
 | x _ _ _=>cases hh
 | r _ _=>cases hh
 | pn _ _ _=>cases hh
 | bad=>cases hh
theorem J5v {c a b : Code} (hc : c = .seq a b) {Q : Exit → Act → World → Prop} {ac : Act} {w : World} (h : a.wpIn (FW none) 0 Tryz.prog (Exit.then (b.wpIn (FW none) 0 Tryz.prog Q) Q) ac w) : c.wpIn (FW none) 0 Tryz.prog Q ac w:=by
 subst hc; exact wpIn_seq h
def exB : SLF:=U5e ftL ltG btV 100000
def fcB : FC:=W5s ftL ltG btV exB
def rnB (c : YC) (e : E) (h : H) : R:=yx c fcB exB.y e h
def sg1 : Code:=sqB c3
def sg2 : Code:=sqB sg1
def sg3 : Code:=sqB sg2
def sg4 : Code:=sqB sg3
def sg5 : Code:=sqB sg4
def sv0 : YC:=q3.code
def sv1 : YC:=ysB sv0
def sv2 : YC:=ysB sv1
def sv3 : YC:=ysB sv2
def sv4 : YC:=ysB sv3
def sv5 : YC:=ysB sv4
def preR (s : Nat) : R :=
 bndN (rnB (ysA sv0) (J1m q3.ws [.z 0 (20 * 1024 + s)] E.nil) H.e) fun e h=>bndN (rnB (ysA sv1) e h) fun e h=>bndN (rnB (ysA sv2) e h) fun e h=>bndN (rnB (ysA sv3) e h) fun e h=>bndN (rnB (ysA sv4) e h) fun e h=>rnB (ysA (ysA sv5)) e h
def U1s (s : Nat) : Bool:=R.rec (motive:=fun _=>Bool) (fun e1 h1=>eqE e1 (stE (Nat.add s 1) 0 0) && (Nat.beq h1.next 843 && J9n h1 L0)) (fun _ _ _=>false) (fun _ _=>false) (fun _ _ _=>false) false (preR s)
theorem sk_0 : c3 = .seq (sqA c3) sg1:=by kernel_rfl
theorem sk_1 : sg1 = .seq (sqA sg1) sg2:=by kernel_rfl
theorem sk_2 : sg2 = .seq (sqA sg2) sg3:=by kernel_rfl
theorem sk_3 : sg3 = .seq (sqA sg3) sg4:=by kernel_rfl
theorem sk_4 : sg4 = .seq (sqA sg4) sg5:=by kernel_rfl
theorem sk_5 : sg5 = .seq (sqA sg5) cTl:=by kernel_rfl
theorem sk_6 : sqA sg5 = .seq (sqA (sqA sg5)) (.block 0 (.loop cLp)):=by kernel_rfl
theorem su0 : cY (sqA c3) = ysA sv0:=by kernel_rfl
theorem su1 : cY (sqA sg1) = ysA sv1:=by kernel_rfl
theorem su2 : cY (sqA sg2) = ysA sv2:=by kernel_rfl
theorem su3 : cY (sqA sg3) = ysA sv3:=by kernel_rfl
theorem su4 : cY (sqA sg4) = ysA sv4:=by kernel_rfl
theorem su5 : cY (sqA (sqA sg5)) = ysA (ysA sv5):=by kernel_rfl
theorem W3h {w0 : World} {c : Code} {y : YC} (hy : cY c = y) {Q : Exit → Act → World → Prop} {e e1 : E} {h h1 : H} {a : Act} {w : World} (hA : AtT w0 e h a w) (hk : rnB y e h = .n e1 h1)
  (hgo : ∀ a' w',AtT w0 e1 h1 a' w' → Q .normal a' w') : c.wpIn (FW none) 0 Tryz.prog Q a w:=by
 refine At.step (bt:=btV) btV_ok (n:=100000) hA ?_ hgo
 rw [hy]; exact hk
theorem body3 : Tryz.f3.body = some c3:=by kernel_rfl
theorem J1z {s : Nat} {x : Int} (hs : s < 20) (hx : x % 20 = (s : Int)) (hp : U1s s = true) (w : World) (hgo : ∀ a' w',AtT w (stE (Nat.add s 1) 0 0) (J2v 843 L0) a' w' → ∃ m,Rn w m a' w') :
  Calls Tryz.prog 3 #[.int .i64 x] w fun e w'=>e = .returned (.bool true) ∧ Below w.heap.size w w':=by
 refine calls_of_wp Tryz.func3 body3 (wpIn_wide (n:=0).1 ?_)
 have hA : AtT w (J1m (J1o tt3 3 Tryz.f3 c3).ws [.z 0 (20 * 1024 + s)] E.nil) H.e { tmps:=#[.int .i64 x] ++ Array.replicate (Tryz.f3.ntmps - 1) undef,defers:=[] } w :=
  At.start (f:=3) (fn:=Tryz.f3) (c:=c3) (vs:=[.z 0 (20 * 1024 + s)]) (args:=#[.int .i64 x]) (VRs.cons_mk (vz hx (by omega)) (VRs.nil_iff.2 rfl)) (show 1 ≤ Tryz.f3.ntmps by decide +kernel)
 rw [q3_eq] at hA
 unfold U1s at hp
 cases hr : preR s with
 | n e' h' =>
  rw [hr] at hp
  have hp2 : (eqE e' (stE (Nat.add s 1) 0 0) && (Nat.beq h'.next 843 && J9n h' L0)) = true:=hp
  simp only [Bool.and_eq_true] at hp2
  unfold preR at hr
  obtain ⟨e1,h1,r1,hr⟩:=U7y hr
  obtain ⟨e2,h2,r2,hr⟩:=U7y hr
  obtain ⟨e3,h3,r3,hr⟩:=U7y hr
  obtain ⟨e4,h4,r4,hr⟩:=U7y hr
  obtain ⟨e5,h5,r5,hr⟩:=U7y hr
  show c3.wpIn (FW none) 0 Tryz.prog (U9r Tryz.prog Tryz.f3 w) _ w
  refine J5v sk_0 (W3h su0 hA r1 fun a1 w1 hA1=>?_)
  refine J5v sk_1 (W3h su1 hA1 r2 fun a2 w2 hA2=>?_)
  refine J5v sk_2 (W3h su2 hA2 r3 fun a3 w3 hA3=>?_)
  refine J5v sk_3 (W3h su3 hA3 r4 fun a4 w4 hA4=>?_)
  refine J5v sk_4 (W3h su4 hA4 r5 fun a5 w5 hA5=>?_)
  refine J5v sk_5 (J5v sk_6 (W3h su5 hA5 hr fun a6 w6 hA6=>?_))
  refine wpIn_block ?_
  obtain ⟨m,hm⟩:=hgo a6 w6 (At.cut hA6 hp2.1 hp2.2.1 hp2.2.2)
  exact wpIn_loop_rounds m hm
 | x _ _ _=>rw [hr] at hp; cases hp
 | r _ _=>rw [hr] at hp; cases hp
 | pn _ _ _=>rw [hr] at hp; cases hp
 | bad=>rw [hr] at hp; cases hp
end Go.X
namespace Go.X
open Go Go.RowKit Go.Proofs
theorem pre0 : U1s 0 = true:=by kernel_rfl
theorem pre1 : U1s 1 = true:=by kernel_rfl
theorem pre2 : U1s 2 = true:=by kernel_rfl
theorem pre3 : U1s 3 = true:=by kernel_rfl
theorem pre4 : U1s 4 = true:=by kernel_rfl
theorem pre5 : U1s 5 = true:=by kernel_rfl
theorem pre6 : U1s 6 = true:=by kernel_rfl
theorem pre7 : U1s 7 = true:=by kernel_rfl
theorem pre8 : U1s 8 = true:=by kernel_rfl
theorem pre9 : U1s 9 = true:=by kernel_rfl
theorem pre10 : U1s 10 = true:=by kernel_rfl
theorem pre11 : U1s 11 = true:=by kernel_rfl
theorem pre12 : U1s 12 = true:=by kernel_rfl
theorem pre13 : U1s 13 = true:=by kernel_rfl
theorem pre14 : U1s 14 = true:=by kernel_rfl
theorem pre15 : U1s 15 = true:=by kernel_rfl
theorem pre16 : U1s 16 = true:=by kernel_rfl
theorem pre17 : U1s 17 = true:=by kernel_rfl
theorem pre18 : U1s 18 = true:=by kernel_rfl
theorem pre19 : U1s 19 = true:=by kernel_rfl
def ss0 (c m k : Nat) : SS:=⟨0,1479,1657,0x77d1096876001821980aff0395b8bd9a901ac0770891427f69a607f5b1419713,0xf5bbf23b1e3a1a3f6ec49ec2d6ffe15a5c024d09cae890ebcfd5344376465eb4,0,c,m,k⟩
def L1 : List (Nat × O):=stL 1 7 1 1666 1 1488 1 1 0 [ss0 1 1 1]
theorem first (s : Nat) : pcE 1 (stE (Nat.add s 1) 0 0) 843 L0 1872 L1 = some (stE (Nat.add s 1) 1 1):=by kernel_rfl
end Go.X
end
