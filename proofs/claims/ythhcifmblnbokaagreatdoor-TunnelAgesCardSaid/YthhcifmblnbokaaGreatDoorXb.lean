/- Memory of the abstract machine: a new block, a cell read, a cell written, a block that is not looked at any more. -/
import Derived.Test.YthhcifmblnbokaaGreatDoorXa
import Derived.ChangeKeysEq
import Derived.LaidEql
import Derived.Laws.StructEq
set_option linter.all false
set_option maxRecDepth 100000
noncomputable section
namespace Go.X
open Go.RowKit
theorem OR.lt {B : Bs} {μ : M} {w : World} {g q N : Nat} {o : O} (h : OR B μ w g q N o) (hd : o ≠ .dead) : g < w.heap.size:=by
 have key : ∀ x,w.heap[g]? = some x → g < w.heap.size:=fun x hx=>(Array.getElem?_eq_some_iff.1 hx).1
 cases o with
 | dead=>exact absurd rfl hd
 | cells n c z=>obtain ⟨_,_,_,h1,_⟩:=h; exact key _ h1
 | map es bs cl=>obtain ⟨_,h1,_⟩:=h; exact key _ h1
 | sit l pos=>obtain ⟨_,h1,_⟩:=h; exact key _ h1
 | lp id e st j=>obtain ⟨_,h1,_⟩:=h; exact key _ h1
 | mit m bs since cnt last=>obtain ⟨_,_,_,_,_,h1,_⟩:=h; exact key _ h1
def H.upd (h : H) (b : Nat) (o : O) : H:=H.rec (motive:=fun _=>H) (fun next cb co t=>⟨next,b,o,Bool.rec (HT.set co cb t) t (Nat.beq cb b)⟩) h
theorem H.get_eq (next cb : Nat) (co : O) (t : HT) (b : Nat) : (H.mk next cb co t).get b = Bool.rec (HT.get b t) co (Nat.beq cb b):=rfl
theorem H.upd_eq (next cb : Nat) (co : O) (t : HT) (b : Nat) (o : O) : (H.mk next cb co t).upd b o = ⟨next,b,o,Bool.rec (HT.set co cb t) t (Nat.beq cb b)⟩:=rfl
theorem H.beq_ne {a b : Nat} (h : a ≠ b) : Nat.beq a b = false:=by cases e : Nat.beq a b with | false=>rfl | true=>exact absurd (Nat.eq_of_beq_eq_true e) h
theorem H.get_upd_same (h : H) (b : Nat) (o : O) : (h.upd b o).get b = o:=by
 obtain ⟨next,cb,co,t⟩:=h
 rw [H.upd_eq,H.get_eq,Nat.beq_refl]
theorem H.get_upd_ne (h : H) {b b' : Nat} (o : O) (hb : b ≠ b') : (h.upd b o).get b' = h.get b':=by
 obtain ⟨next,cb,co,t⟩:=h
 rw [H.upd_eq,H.get_eq,H.get_eq,H.beq_ne hb]
 by_cases e : cb = b
 ·subst e
  rw [Nat.beq_refl,H.beq_ne hb]
 ·rw [H.beq_ne e]
  show HT.get b' (HT.set co cb t) = _
  by_cases e2 : cb = b'
  ·subst e2; rw [Nat.beq_refl,HT.get_set_same]
  ·rw [H.beq_ne e2,HT.get_set_ne _ _ _ _ e2]
def H.new (h : H) (o : O) : H:=H.rec (motive:=fun _=>H) (fun next cb co t=>⟨Nat.add next 1,next,o,HT.set co cb t⟩) h
theorem H.new_eq (next cb : Nat) (co : O) (t : HT) (o : O) : (H.mk next cb co t).new o = ⟨Nat.add next 1,next,o,HT.set co cb t⟩:=rfl
theorem H.get_new_same (h : H) (o : O) : (h.new o).get h.next = o:=by
 obtain ⟨next,cb,co,t⟩:=h
 rw [H.new_eq,H.get_eq,Nat.beq_refl]
theorem H.get_new_ne (h : H) {b' : Nat} (o : O) (hb : h.next ≠ b') : (h.new o).get b' = h.get b':=by
 obtain ⟨next,cb,co,t⟩:=h
 rw [H.new_eq,H.get_eq,H.get_eq,H.beq_ne hb]
 show HT.get b' (HT.set co cb t) = _
 by_cases e2 : cb = b'
 ·subst e2; rw [Nat.beq_refl,HT.get_set_same]
 ·rw [H.beq_ne e2,HT.get_set_ne _ _ _ _ e2]
theorem H.upd_upd (h : H) (b : Nat) (o o' : O) : (h.upd b o).upd b o' = h.upd b o':=by
 obtain ⟨next,cb,co,t⟩:=h
 rw [H.upd_eq,H.upd_eq,H.upd_eq,Nat.beq_refl]
section
variable {B : Bs} {μ : M} {h : H} {w : World}
theorem HR.next_dead (r : HR B μ h w) : h.get h.next = .dead:=by
 cases hd : h.get h.next with
 | dead=>rfl
 | _ =>
  obtain ⟨g,q,h1,_⟩:=r.obj h.next (by rw [hd]; simp)
  exact absurd (r.dom _ _ h1) (Nat.lt_irrefl _)
theorem HR.next_none (r : HR B μ h w) : μ h.next = none:=by
 cases hd : μ h.next with
 | none=>rfl
 | some x=>exact absurd (r.dom _ _ hd) (Nat.lt_irrefl _)
theorem HR.upd (r : HR B μ h w) {b : Nat} {g q : Nat} (hb : h.get b ≠ .dead) (hm : μ b = some (g,q)) {w' : World} {o' : O}
  (hw : ∀ k,k ≠ g → w'.heap[k]? = w.heap[k]?) (hs : w'.heap.size = w.heap.size) (ho : OR B μ w' g q (μ.cap b) o') : HR B μ (h.upd b o') w':=by
 refine ⟨by rw [hs]; exact r.base,r.dom,?_,?_⟩
 ·intro b' hb'
  by_cases e : b = b'
  ·subst e
   obtain ⟨g',q',h1,h2,_⟩:=r.obj b hb
   rw [hm] at h1; cases h1
   exact ⟨g,q,hm,h2,by rw [H.get_upd_same]; exact ho⟩
  ·rw [H.get_upd_ne h o' e] at hb' ⊢
   obtain ⟨g',q',h1,h2,h3⟩:=r.obj b' hb'
   refine ⟨g',q',h1,h2,h3.mono (M.le_refl _) (hw g' ?_)⟩
   intro eg
   exact e (r.inj b b' g q g' q' hb hb' hm h1 eg.symm)
 ·intro b1 b2 g1 q1 g2 q2 h1 h2 m1 m2 eg
  have key : ∀ b',(h.upd b o').get b' ≠ .dead → h.get b' ≠ .dead:=fun b' hb'=>by
   by_cases e : b = b'
   ·subst e; exact hb
   ·rw [H.get_upd_ne h o' e] at hb'; exact hb'
  exact r.inj b1 b2 g1 q1 g2 q2 (key b1 h1) (key b2 h2) m1 m2 eg
theorem Ext.upd {b : Nat} {g q : Nat} (hb : h.get b ≠ .dead) (hm : μ b = some (g,q)) {w' : World} {o' : O}
  (hw : ∀ k,k ≠ g → w'.heap[k]? = w.heap[k]?) (hs : w'.heap.size = w.heap.size) (h1 : w'.os = w.os) (h2 : w'.tape = w.tape) (h3 : w'.output = w.output) :
  Ext μ h w μ (h.upd b o') w':=by
 refine ⟨M.le_refl _,Nat.le_refl _,h1,h2,h3,by rw [hs]; exact Nat.le_refl _,?_,?_,fun _ _=>rfl⟩
 ·intro k _ hn
  refine hw k fun e=>?_
  subst e
  exact hn b q hb hm
 ·intro b' g' q' hb' hm' _
  by_cases e : b = b'
  ·subst e; exact ⟨b,q',hb,hm'⟩
  ·rw [H.get_upd_ne h o' e] at hb'; exact ⟨b',q',hb',hm'⟩
def M.new (μ : M) (b : Nat) (x : Nat × Nat) (N : Nat) : M:=⟨fun c=>if c = b then some x else μ c,fun c=>if c = b then N else μ.cap c⟩
theorem M.new_same (μ : M) (b : Nat) (x : Nat × Nat) (N : Nat) : M.new μ b x N b = some x:=by simp [M.new]
theorem M.new_cap (μ : M) (b : Nat) (x : Nat × Nat) (N : Nat) : (M.new μ b x N).cap b = N:=by simp [M.new]
theorem M.new_ne (μ : M) {b c : Nat} (x : Nat × Nat) (N : Nat) (hb : b ≠ c) : M.new μ b x N c = μ c:=by
 show (if c = b then some x else μ c) = _
 rw [if_neg]
 intro e; exact hb e.symm
theorem M.new_cap_ne (μ : M) {b c : Nat} (x : Nat × Nat) (N : Nat) (hb : b ≠ c) : (M.new μ b x N).cap c = μ.cap c:=by
 show (if c = b then N else μ.cap c) = _
 rw [if_neg]
 intro e; exact hb e.symm
theorem M.le_new {μ : M} {b : Nat} {x : Nat × Nat} {N : Nat} (hb : μ b = none) : M.le μ (M.new μ b x N):=by
 intro c y hc
 have hne : b ≠ c:=by intro e; subst e; rw [hb] at hc; cases hc
 exact ⟨by rw [M.new_ne _ _ _ hne]; exact hc,M.new_cap_ne _ _ _ hne⟩
theorem HR.new (r : HR B μ h w) {w' : World} {g q N : Nat} {o : O} (hs : w.heap.size ≤ w'.heap.size) (hg : B.n ≤ g)
  (hfree : ∀ b q',h.get b ≠ .dead → μ b ≠ some (g,q')) (hw : ∀ k,k < w.heap.size → k ≠ g → w'.heap[k]? = w.heap[k]?)
  (ho : OR B (M.new μ h.next (g,q) N) w' g q N o) : HR B (M.new μ h.next (g,q) N) (h.new o) w':=by
 have hle:=M.le_new (x:=(g,q)) (N:=N) r.next_none
 refine ⟨Nat.le_trans r.base hs,?_,?_,?_⟩
 ·intro b x hb
  show b < h.next + 1
  by_cases e : h.next = b
  ·subst e; omega
  ·rw [M.new_ne _ _ _ e] at hb; have:=r.dom _ _ hb; omega
 ·intro b hb
  by_cases e : h.next = b
  ·subst e; exact ⟨g,q,M.new_same _ _ _ _,hg,by rw [H.get_new_same,M.new_cap]; exact ho⟩
  ·rw [H.get_new_ne h o e] at hb ⊢
   obtain ⟨g',q',h1,h2,h3⟩:=r.obj b hb
   refine ⟨g',q',(hle _ _ h1).1,h2,?_⟩
   rw [M.new_cap_ne _ _ _ e]
   refine h3.mono hle (hw g' (h3.lt hb) ?_)
   intro eg; subst eg
   exact hfree b q' hb h1
 ·intro b1 b2 g1 q1 g2 q2 h1 h2 m1 m2 eg
  by_cases e1 : h.next = b1
  ·by_cases e2 : h.next = b2
   ·rw [← e1,← e2]
   ·subst e1
    rw [M.new_same] at m1; cases m1
    rw [M.new_ne _ _ _ e2] at m2
    rw [H.get_new_ne h o e2] at h2
    subst eg
    exact absurd m2 (hfree b2 q2 h2)
  ·by_cases e2 : h.next = b2
   ·subst e2
    rw [M.new_same] at m2; cases m2
    rw [M.new_ne _ _ _ e1] at m1
    rw [H.get_new_ne h o e1] at h1
    subst eg
    exact absurd m1 (hfree b1 q1 h1)
   ·rw [M.new_ne _ _ _ e1] at m1
    rw [M.new_ne _ _ _ e2] at m2
    rw [H.get_new_ne h o e1] at h1
    rw [H.get_new_ne h o e2] at h2
    exact r.inj b1 b2 g1 q1 g2 q2 h1 h2 m1 m2 eg
theorem Ext.new (r : HR B μ h w) {w' : World} {q N : Nat} {o : O} (hs : w.heap.size ≤ w'.heap.size)
  (hw : ∀ k,k < w.heap.size → w'.heap[k]? = w.heap[k]?) (h1 : w'.os = w.os) (h2 : w'.tape = w.tape) (h3 : w'.output = w.output) :
  Ext μ h w (M.new μ h.next (w.heap.size,q) N) (h.new o) w':=by
 refine ⟨M.le_new r.next_none,Nat.le_succ _,h1,h2,h3,hs,fun k hk _=>hw k hk,?_,fun b hb=>M.new_ne _ _ _ (by omega)⟩
 intro b g q' hb hm hg
 by_cases e : h.next = b
 ·subst e
  rw [M.new_same] at hm; cases hm
  exact absurd hg (Nat.lt_irrefl _)
 ·rw [M.new_ne _ _ _ e] at hm
  rw [H.get_new_ne h o e] at hb
  exact ⟨b,q',hb,hm⟩
theorem HR.grow (r : HR B μ h w) {w' : World} (hs : w.heap.size ≤ w'.heap.size) (hw : ∀ k,k < w.heap.size → w'.heap[k]? = w.heap[k]?) : HR B μ h w' :=
 ⟨Nat.le_trans r.base hs,r.dom,fun b hb=>by
  obtain ⟨g,q,h1,h2,h3⟩:=r.obj b hb
  exact ⟨g,q,h1,h2,h3.mono (M.le_refl _) (hw g (h3.lt hb))⟩,r.inj⟩
theorem Ext.grow {w' : World} (hs : w.heap.size ≤ w'.heap.size) (hw : ∀ k,k < w.heap.size → w'.heap[k]? = w.heap[k]?) (h1 : w'.os = w.os) (h2 : w'.tape = w.tape) (h3 : w'.output = w.output) :
  Ext μ h w μ h w' :=
 ⟨M.le_refl _,Nat.le_refl _,h1,h2,h3,hs,fun k hk _=>hw k hk,fun b _ q hb hm _=>⟨b,q,hb,hm⟩,fun _ _=>rfl⟩
theorem HR.kill (r : HR B μ h w) (b : Nat) : HR B μ (h.upd b .dead) w:=by
 have key : ∀ b',(h.upd b .dead).get b' ≠ .dead → h.get b' ≠ .dead ∧ (h.upd b .dead).get b' = h.get b':=fun b' hb'=>by
  by_cases e : b = b'
  ·subst e; rw [H.get_upd_same] at hb'; exact absurd rfl hb'
  ·rw [H.get_upd_ne h _ e] at hb' ⊢; exact ⟨hb',rfl⟩
 refine ⟨r.base,r.dom,?_,?_⟩
 ·intro b' hb'
  obtain ⟨h1,h2⟩:=key b' hb'
  rw [h2]
  exact r.obj b' h1
 ·intro b1 b2 g1 q1 g2 q2 h1 h2 m1 m2 eg
  exact r.inj b1 b2 g1 q1 g2 q2 (key b1 h1).1 (key b2 h2).1 m1 m2 eg
theorem Ext.kill {w : World} (b : Nat) : Ext μ h w μ (h.upd b .dead) w:=by
 refine ⟨M.le_refl _,Nat.le_refl _,rfl,rfl,rfl,Nat.le_refl _,fun _ _ _=>rfl,?_,fun _ _=>rfl⟩
 intro b' g q hb hm _
 by_cases e : b = b'
 ·subst e; rw [H.get_upd_same] at hb; exact absurd rfl hb
 ·rw [H.get_upd_ne h _ e] at hb; exact ⟨b',q,hb,hm⟩
theorem HR.cell (r : HR B μ h w) {b : Nat} {n : Nat} {c : C} {z : Bool} (hb : h.get b = .cells n c z) {o : Nat} (ho : o < n) :
  ∃ g q v,μ b = some (g,q) ∧ w.cell? ⟨g,q + o,none⟩ = some v ∧ w.frozen? ⟨g,q + o,none⟩ = false ∧ VR μ (C.at_ c o) v ∧ (z = true → ∃ cur e,w.heap[g]? = some (.cells cur e (0,0))) ∧ B.n ≤ g ∧ g < w.heap.size:=by
 obtain ⟨g,q,h1,h2,h3⟩:=r.obj b (by rw [hb]; simp)
 have hlt:=h3.lt (by rw [hb]; simp)
 rw [hb] at h3
 obtain ⟨cur,e,fr,h4,h5,hn,_,h7',h6⟩:=h3
 have h7:=h7' o (Nat.lt_of_lt_of_le ho hn)
 obtain ⟨v,h8,h9⟩:=h6 o ho
 refine ⟨g,q,v,h1,?_,?_,h9,?_,h2,hlt⟩
 ·simp only [World.cell?,h4]; simpa using h8
 ·simp only [World.frozen?,h4]
  cases hx : (decide (fr.1 ≤ q + o) && decide (q + o < fr.2)) with
  | false=>rfl
  | true=>simp at hx; exact absurd hx h7
 ·intro hz; rw [h5 hz] at h4; exact ⟨cur,e,h4⟩
theorem HR.store (r : HR B μ h w) {b : Nat} {n : Nat} {c : C} {z : Bool} (hb : h.get b = .cells n c z) {o : Nat} (ho : o < n) {x : V} {v : Value} (hv : VR μ x v)
  {g q : Nat} (hm : μ b = some (g,q)) :
  HR B μ (h.upd b (.cells n (C.put c o x) z)) (w.setCell ⟨g,q + o,none⟩ v) ∧ Ext μ h w μ (h.upd b (.cells n (C.put c o x) z)) (w.setCell ⟨g,q + o,none⟩ v):=by
 have hd : h.get b ≠ .dead:=by rw [hb]; simp
 have hw : ∀ k,k ≠ g → (w.setCell ⟨g,q + o,none⟩ v).heap[k]? = w.heap[k]?:=fun k hk=>Below.heap_setCell _ _ _ _ hk
 have hs : (w.setCell ⟨g,q + o,none⟩ v).heap.size = w.heap.size:=by simp [World.setCell]
 obtain ⟨g',q',h1,h2,h3⟩:=r.obj b hd
 rw [hm] at h1; cases h1
 rw [hb] at h3
 obtain ⟨cur,e,fr,h4,h5,hn,hN,h7,h6⟩:=h3
 refine ⟨r.upd hd hm hw hs ?_,Ext.upd hd hm hw hs rfl rfl rfl⟩
 have hsz : q + o < cur.size:=by
  obtain ⟨v',h8,_⟩:=h6 o ho
  exact (Array.getElem?_eq_some_iff.1 h8).1
 refine ⟨cur.setIfInBounds (q + o) v,e,fr,?_,h5,hn,by simpa using hN,h7,fun i hi=>?_⟩
 ·simp only [World.setCell,Array.getElem?_modify,h4]; simp
 ·obtain ⟨v',h8,h9⟩:=h6 i hi
  by_cases e' : i = o
  ·subst e'
   refine ⟨v,by simp [hsz],?_⟩
   rcases C.at_put c i x i with h | ⟨_,h⟩ | ⟨h,_⟩
   ·rw [h]; exact VR.u _
   ·rw [h]; exact hv
   ·exact absurd rfl h
  ·refine ⟨v',?_,?_⟩
   ·rw [Array.getElem?_setIfInBounds_ne (by omega)]; exact h8
   ·rcases C.at_put c o x i with h | ⟨h,_⟩ | ⟨_,h⟩
    ·rw [h]; exact VR.u _
    ·exact absurd h e'
    ·rw [h]; exact h9
theorem HR.row (r : HR B μ h w) {n N : Nat} {c : C} {z : Bool} {cur : Array Value} {e : TypeId} {fr : Nat × Nat} (hn : n ≤ N) (hN : N ≤ cur.size) (hz : z = true → fr = (0,0)) (hf : ∀ i,i < N → ¬ (fr.1 ≤ i ∧ i < fr.2))
  (hc : ∀ i,i < n → ∃ v,cur[i]? = some v ∧ VR μ (C.at_ c i) v) :
  HR B (M.new μ h.next (w.heap.size,0) N) (h.new (.cells n c z)) (w.alloc (.cells cur e fr)) ∧
   Ext μ h w (M.new μ h.next (w.heap.size,0) N) (h.new (.cells n c z)) (w.alloc (.cells cur e fr)):=by
 have hs : w.heap.size ≤ (w.alloc (.cells cur e fr)).heap.size:=by simp
 have hw : ∀ k,k < w.heap.size → (w.alloc (.cells cur e fr)).heap[k]? = w.heap[k]?:=fun k hk=>Below.heap_alloc _ _ _ hk
 have hle:=M.le_new (x:=(w.heap.size,0)) (N:=N) r.next_none
 refine ⟨r.new hs r.base ?_ (fun k hk _=>hw k hk) ?_,Ext.new r hs hw rfl rfl rfl⟩
 ·intro b q' hb hm
  obtain ⟨g,q,h1,_,h3⟩:=r.obj b hb
  rw [hm] at h1; cases h1
  exact absurd (h3.lt hb) (Nat.lt_irrefl _)
 ·refine ⟨cur,e,fr,heap_alloc_new _ _,hz,hn,by omega,fun i hi=>by simpa using hf i hi,fun i hi=>?_⟩
  obtain ⟨v,h1,h2⟩:=hc i hi
  exact ⟨v,by simpa using h1,VR.mono hle _ _ h2⟩
theorem HR.box (r : HR B μ h w) {n : Nat} {c : C} {cur : Array Value} {e : TypeId} (hn : n ≤ cur.size) (hc : ∀ i,i < n → ∃ v,cur[i]? = some v ∧ VR μ (C.at_ c i) v) :
  HR B (M.new μ h.next (w.heap.size,0) n) (h.new (.cells n c true)) (w.alloc (.cells cur e)) ∧
   Ext μ h w (M.new μ h.next (w.heap.size,0) n) (h.new (.cells n c true)) (w.alloc (.cells cur e)) :=
 r.row (Nat.le_refl _) hn (fun _=>rfl) (fun i _=>by omega) hc
theorem HR.name (r : HR B μ h w) (x : Nat × Nat) (N : Nat) : HR B (M.new μ h.next x N) ⟨Nat.add h.next 1,h.cb,h.co,h.t⟩ w:=by
 have hle:=M.le_new (x:=x) (N:=N) r.next_none
 have hg : ∀ b,(H.mk (Nat.add h.next 1) h.cb h.co h.t).get b = h.get b:=fun _=>rfl
 have hne : ∀ b,h.get b ≠ .dead → h.next ≠ b:=fun b hb e=>hb (by rw [← e]; exact r.next_dead)
 refine ⟨r.base,?_,?_,?_⟩
 ·intro b y hb
  show b < h.next + 1
  by_cases e : h.next = b
  ·subst e; omega
  ·rw [M.new_ne _ _ _ e] at hb; have:=r.dom _ _ hb; omega
 ·intro b hb
  rw [hg] at hb ⊢
  obtain ⟨g,q,h1,h2,h3⟩:=r.obj b hb
  refine ⟨g,q,(hle _ _ h1).1,h2,?_⟩
  rw [M.new_cap_ne _ _ _ (hne b hb)]
  exact h3.mono hle rfl
 ·intro b b' g q g' q' h1 h2 m1 m2 eg
  rw [hg] at h1 h2
  rw [M.new_ne _ _ _ (hne b h1)] at m1
  rw [M.new_ne _ _ _ (hne b' h2)] at m2
  exact r.inj b b' g q g' q' h1 h2 m1 m2 eg
theorem Ext.name (r : HR B μ h w) (x : Nat × Nat) (N : Nat) : Ext μ h w (M.new μ h.next x N) ⟨Nat.add h.next 1,h.cb,h.co,h.t⟩ w:=by
 refine ⟨M.le_new r.next_none,Nat.le_succ _,rfl,rfl,rfl,Nat.le_refl _,fun _ _ _=>rfl,?_,fun b hb=>M.new_ne _ _ _ (by omega)⟩
 intro b g q hb hm _
 have hb' : h.get b ≠ .dead:=hb
 have hne : h.next ≠ b:=fun e=>hb' (by rw [← e]; exact r.next_dead)
 rw [M.new_ne _ _ _ hne] at hm
 exact ⟨b,q,hb',hm⟩
end
end Go.X
namespace Go.X
open Go.RowKit
structure Runs (P : Program) (B : Bs) (μ : M) (h : H) (w : World) (s : Sem Value) (v : V) (h' : H) : Prop where
 intro ::
 ex : ∃ y w' μ',s.run P w = .ok y w' ∧ VR μ' v y ∧ HR B μ' h' w' ∧ Ext μ h w μ' h' w'
theorem Runs.same {P : Program} {B : Bs} {μ : M} {h : H} {w : World} {s : Sem Value} {v : V} {y : Value} (r : HR B μ h w) (hs : s.run P w = .ok y w) (hv : VR μ v y) : Runs P B μ h w s v h :=
 ⟨⟨y,w,μ,hs,hv,r,Ext.refl _ _ _⟩⟩
section
variable {P : Program} {B : Bs} {μ : M} {h : H} {w : World}
theorem J0x (g q i : Nat) : (⟨g,q,none⟩ : Addr).add i = ⟨g,q + i,none⟩:=by unfold Addr.add; split <;> simp_all
theorem U4m {a : Addr} {v : Value} (hc : w.cell? a = some v) : (load a).run P w = .ok v w:=by
 rw [run_load,hc]
theorem U0d {t : TypeId} {a : Addr} {v : Value} (ht : (isAgg t).run P w = .ok false w) (hc : w.cell? a = some v) : (loadVar t a).run P w = .ok v w:=by
 unfold loadVar
 rw [Sem.run_bind,ht]
 simp only [Result.andThen_ok,Bool.false_eq_true,if_false]
 exact U4m hc
theorem HR.loads (r : HR B μ h w) {b : Nat} {n : Nat} {c : C} {z : Bool} (hb : h.get b = .cells n c z) {o m : Nat} (ho : o + m ≤ n) (hm0 : 0 < m) :
  ∃ g q vs,μ b = some (g,q) ∧ (loadCells ⟨g,q + o,none⟩ m).run P w = .ok vs w ∧ VRs μ (C.list c m o) vs.toList:=by
 obtain ⟨g,q,_,h1,_⟩:=r.cell hb (o:=o) (by omega)
 have hall : ∀ j,j < m → ∃ v,w.cell? ⟨g,q + o + j,none⟩ = some v ∧ VR μ (C.at_ c (o + j)) v:=by
  intro j hj
  obtain ⟨g',q',v,h1',h2,_,h4,_⟩:=r.cell hb (o:=o + j) (by omega)
  rw [h1] at h1'; cases h1'
  exact ⟨v,by rw [Nat.add_assoc]; exact h2,h4⟩
 let f : Nat → Value:=fun j=>(w.cell? ⟨g,q + o + j,none⟩).getD undef
 have hf : ∀ j,j < m → w.cell? ((⟨g,q + o,none⟩ : Addr).add j) = some (f j):=by
  intro j hj
  obtain ⟨v,h2,_⟩:=hall j hj
  rw [J0x]
  show _ = some ((w.cell? ⟨g,q + o + j,none⟩).getD undef)
  rw [h2]; rfl
 refine ⟨g,q,_,h1,run_loadCells (P:=P) w _ m f hf,?_⟩
 refine VRs.of_get (by simp [C.list_length]) fun j x hx=>?_
 have hj : j < m:=by
  have:=(List.getElem?_eq_some_iff.1 hx).1
  rwa [C.list_length] at this
 rw [C.list_get _ _ _ _ hj] at hx
 simp at hx; subst hx
 obtain ⟨v,h2,h3⟩:=hall j hj
 refine ⟨f j,by simp [hj],?_⟩
 show VR μ _ ((w.cell? ⟨g,q + o + j,none⟩).getD undef)
 rw [h2]; exact h3
theorem HR.stores : ∀ (xs : List V) {vs : List Value} {μ : M} {h : H} {w : World} (_ : HR B μ h w) {b : Nat} {n : Nat} {c : C} {z : Bool} (_ : h.get b = .cells n c z) {o i g q : Nat} (_ : o + i + xs.length ≤ n)
  (_ : VRs μ xs vs) (_ : ∀ v ∈ vs,v.oneCell' = true) (_ : μ b = some (g,q)),
  ∃ w',(storeCells ⟨g,q + o,none⟩ vs i).run P w = .ok () w' ∧ HR B μ (h.upd b (.cells n (C.puts xs (o + i) c) z)) w' ∧ Ext μ h w μ (h.upd b (.cells n (C.puts xs (o + i) c) z)) w'
 | [],vs,μ,h,w,r,b,n,c,z,hb,o,i,g,q,hl,hv,h1,hm=>by
  rw [VRs.nil_iff] at hv; subst hv
  have hd : h.get b ≠ .dead:=by rw [hb]; simp
  refine ⟨w,rfl,?_,?_⟩
  ·obtain ⟨g',q',h2,h3,h4⟩:=r.obj b hd
   rw [hm] at h2; cases h2
   refine r.upd hd hm (fun _ _=>rfl) rfl ?_
   rw [hb] at h4; exact h4
  ·exact Ext.upd hd hm (fun _ _=>rfl) rfl rfl rfl rfl
 | x::xs,vs,μ,h,w,r,b,n,c,z,hb,o,i,g,q,hl,hv,h1,hm=>by
  obtain ⟨y,ys,rfl,h2,h3⟩:=VRs.cons_iff.1 hv
  simp only [List.length_cons] at hl
  obtain ⟨g',q',v0,h4,h5,h6,_⟩:=r.cell hb (o:=o + i) (by omega)
  rw [hm] at h4; cases h4
  obtain ⟨r2,e2⟩:=r.store hb (o:=o + i) (by omega) h2 hm
  have hb2 : (h.upd b (.cells n (C.put c (o + i) x) z)).get b = .cells n (C.put c (o + i) x) z:=H.get_upd_same _ _ _
  obtain ⟨w',h7,h8,h9⟩:=HR.stores xs r2 hb2 (o:=o) (i:=i + 1) (by omega) h3 (fun v hv=>h1 v (by simp [hv])) hm
  rw [H.upd_upd] at h8 h9
  refine ⟨w',?_,h8,e2.trans h9⟩
  have hst : (Go.store ((⟨g,q + o,none⟩ : Addr).add i) y).run P w = .ok () (w.setCell ⟨g,q + (o + i),none⟩ y):=by
   rw [J0x,Nat.add_assoc,run_store P w _ y _ (h1 y (by simp)),h5]
   simp [h6]
  simp only [storeCells,Sem.run_bind,hst,Result.andThen_ok]
  exact h7
def ldV (h : H) (m : Option Nat) : V → Option V
 | .p b o=>match h.get b with
  | .cells n c _=>match m with
   | none=>bif Nat.ble (o + 1) n then some (C.at_ c o) else none
   | some m=>bif Nat.ble (o + m) n && Nat.ble 1 m then some (.ag (C.list c m o)) else none
  | _=>none
 | _=>none
theorem W0c {t : TypeId} {d : TypeDesc} (ht : P.underlying t = some d) (hd : (match d with | .struct _ | .array _ _=>false | _=>true) = true) : (isAgg t).run P w = .ok false w:=by
 unfold isAgg
 rw [Sem.run_bind,run_underlying ht]
 cases d <;> simp at hd ⊢
theorem W4y {t : TypeId} {d : TypeDesc} (ht : P.underlying t = some d) (hd : (match d with | .struct _ | .array _ _=>true | _=>false) = true) : (isAgg t).run P w = .ok true w:=by
 unfold isAgg
 rw [Sem.run_bind,run_underlying ht]
 cases d <;> simp at hd ⊢
theorem J0w {t : TypeId} {i : TypeInfo} (ht : P.info? t = some i) : (sizeOf t).run P w = .ok i.size w:=by
 simp [sizeOf,typeInfo,ht]
theorem J3z {t : TypeId} {i : TypeInfo} {v : Value} (ht : P.info? t = some i) (hz : i.zero = some v) : (zeroValue t).run P w = .ok v w:=by
 simp [zeroValue,typeInfo,ht,hz]
theorem G1j (r : HR B μ h w) {t : TypeId} {d : TypeDesc} (ht : P.underlying t = some d) (hd : (match d with | .struct _ | .array _ _=>false | _=>true) = true)
  {x v : V} {y : Value} (hx : VR μ x y) (he : ldV h none x = some v) : Runs P B μ h w (Instr.loadAt t y) v h:=by
 cases x <;> simp only [ldV] at he <;> try (cases he; done)
 rename_i b o
 simp only [VR] at hx
 obtain ⟨g,q,hm,rfl⟩:=hx
 cases hb : h.get b <;> rw [hb] at he <;> simp only at he <;> try (cases he; done)
 rename_i n c z
 cases hlt : Nat.ble (o + 1) n <;> rw [hlt] at he
 ·cases he
 ·simp at he; subst he
  have hlt' : o < n:=Nat.le_of_ble_eq_true hlt
  obtain ⟨g',q',v,h1,h2,_,h4,_⟩:=r.cell hb hlt'
  rw [hm] at h1; cases h1
  refine Runs.same r ?_ h4
  simp only [Instr.loadAt,Instr.sureAddr,Sem.run_bind,Sem.run_pure,Result.andThen_ok]
  exact U0d (W0c ht hd) h2
theorem G1i (r : HR B μ h w) {t : TypeId} {d : TypeDesc} {i : TypeInfo} (ht : P.underlying t = some d) (hd : (match d with | .struct _ | .array _ _=>true | _=>false) = true)
  (hi : P.info? t = some i) {x v : V} {y : Value} (hx : VR μ x y) (he : ldV h (some i.size) x = some v) : Runs P B μ h w (Instr.loadAt t y) v h:=by
 cases x <;> simp only [ldV] at he <;> try (cases he; done)
 rename_i b o
 simp only [VR] at hx
 obtain ⟨g,q,hm,rfl⟩:=hx
 cases hb : h.get b <;> rw [hb] at he <;> simp only at he <;> try (cases he; done)
 rename_i n c z
 cases hlt : (Nat.ble (o + i.size) n && Nat.ble 1 i.size) <;> rw [hlt] at he
 ·cases he
 ·simp only [cond_true,Option.some.injEq] at he; subst he
  simp only [Bool.and_eq_true] at hlt
  obtain ⟨g',q',vs,h1,h2,h3⟩:=r.loads (P:=P) hb (Nat.le_of_ble_eq_true hlt.1) (Nat.le_of_ble_eq_true hlt.2)
  rw [hm] at h1; cases h1
  refine Runs.same r (y:=.agg vs) ?_ ?_
  ·simp only [Instr.loadAt,Instr.sureAddr,Sem.run_bind,Sem.run_pure,Result.andThen_ok,loadVar,W4y ht hd,if_true,J0w hi,h2]
  ·simp only [VR]; exact ⟨vs,rfl,h3⟩
def stV (h : H) (m : Nat) : V → V → Option H
 | .p b o,x=>match h.get b with
  | .cells n c z=>bif x.cells.all V.one && Nat.beq x.cells.length m && Nat.ble (o + m) n then some (h.upd b (.cells n (C.puts x.cells o c) z)) else none
  | _=>none
 | _,_=>none
theorem VRs.one {xs : List V} {ys : List Value} (hs : VRs μ xs ys) (ha : xs.all V.one = true) : ∀ v ∈ ys,v.oneCell' = true:=by
 intro v hv
 obtain ⟨j,hj⟩:=List.mem_iff_getElem?.1 hv
 have hlt : j < xs.length:=by rw [← hs.len]; exact (List.getElem?_eq_some_iff.1 hj).1
 obtain ⟨y,h1,h2⟩:=hs.get j xs[j] (by simp [hlt])
 rw [hj] at h1; cases h1
 exact VR.one h2 (List.all_eq_true.1 ha _ (List.getElem_mem hlt))
theorem G6g (r : HR B μ h w) {t : TypeId} {i : TypeInfo} (hi : P.info? t = some i) {a x : V} {ya yx : Value} {h' : H} (ha : VR μ a ya) (hx : VR μ x yx) (he : stV h i.size a x = some h') :
  ∃ w',(Instr.storeAt t ya yx).run P w = .ok () w' ∧ HR B μ h' w' ∧ Ext μ h w μ h' w':=by
 cases a <;> simp only [stV] at he <;> try (cases he; done)
 rename_i b o
 simp only [VR] at ha
 obtain ⟨g,q,hm,rfl⟩:=ha
 cases hb : h.get b <;> rw [hb] at he <;> simp only at he <;> try (cases he; done)
 rename_i n c z
 cases hlt : (x.cells.all V.one && Nat.beq x.cells.length i.size && Nat.ble (o + i.size) n) <;> rw [hlt] at he
 ·cases he
 ·simp only [cond_true,Option.some.injEq] at he; subst he
  simp only [Bool.and_eq_true] at hlt
  obtain ⟨⟨h1,h2⟩,h3⟩:=hlt
  have hlen : x.cells.length = i.size:=Nat.eq_of_beq_eq_true h2
  have hxu : x ≠ .u:=by intro e; subst e; simp [V.cells,V.one] at h1
  have hvs:=hx.cells hxu
  obtain ⟨w',h4,h5,h6⟩:=HR.stores (P:=P) x.cells r hb (o:=o) (i:=0) (by rw [hlen]; exact Nat.le_of_ble_eq_true h3) hvs (hvs.one h1) hm
  refine ⟨w',?_,h5,h6⟩
  have hsz : yx.cells.size = i.size:=by rw [← hlen,← hvs.len]; simp
  simp only [Instr.storeAt,Instr.sureAddr,Sem.run_bind,Sem.run_pure,Result.andThen_ok,storeVar,J0w hi,hsz,ne_eq,not_true_eq_false,if_false]
  exact h4
def W5u (h : H) (n : Nat) (c : C) : V × H:=(.p h.next 0,h.new (.cells n c true))
theorem U7x (r : HR B μ h w) {cells : Array Value} {n : Nat} {c : C} {e : TypeId} (hn : n ≤ cells.size) (hc : ∀ i,i < n → ∃ v,cells[i]? = some v ∧ VR μ (C.at_ c i) v) {s : Sem Value}
  (hs : s.run P w = .ok (.pointer (some ⟨w.heap.size,0,none⟩)) (w.alloc (.cells cells e))) : Runs P B μ h w s (W5u h n c).1 (W5u h n c).2:=by
 obtain ⟨h1,h2⟩:=r.box (e:=e) hn hc
 refine ⟨⟨_,_,_,hs,?_,h1,h2⟩⟩
 simp only [W5u,VR]
 exact ⟨w.heap.size,0,M.new_same _ _ _ _,rfl⟩
theorem U1h (xs : List V) (i : Nat) : C.at_ (C.puts xs 0 .e) i = .u ∨ ∃ x,xs[i]? = some x ∧ C.at_ (C.puts xs 0 .e) i = x:=by
 rcases C.at_puts xs 0 .e i with h | ⟨x,_,h2,h3⟩ | ⟨_,h2⟩
 ·exact .inl h
 ·exact .inr ⟨x,by simpa using h2,h3⟩
 ·exact .inl h2
theorem VRs.tree {xs : List V} {vs : Array Value} (hs : VRs μ xs vs.toList) : ∀ i,i < xs.length → ∃ v,vs[i]? = some v ∧ VR μ (C.at_ (C.puts xs 0 .e) i) v:=by
 intro i hi
 obtain ⟨y,h1,h2⟩:=hs.get i xs[i] (by simp [hi])
 refine ⟨y,by simpa using h1,?_⟩
 rcases U1h xs i with h | ⟨x,h3,h4⟩
 ·rw [h]; exact VR.u _
 ·rw [h4]
  have : x = xs[i]:=by simpa [hi] using h3.symm
  rw [this]; exact h2
theorem J7v {t : TypeId} {v : Value} : (newVar t v).run P w = .ok ⟨w.heap.size,0,none⟩ (w.alloc (.cells v.cells t)):=by
 simp [newVar,newRow,World.alloc_eq]
theorem W0t (r : HR B μ h w) {t : TypeId} {i : TypeInfo} {z : Value} {n : Nat} {c : C} (hi : P.info? t = some i) (hz : i.zero = some z) (hn : n ≤ z.cells.size) (hc : ∀ j,j < n → ∃ v,z.cells[j]? = some v ∧ VR μ (C.at_ c j) v) :
  Runs P B μ h w (Instr.alloc t true (.tuple #[])) (W5u h n c).1 (W5u h n c).2:=by
 refine U7x r hn hc (e:=t) ?_
 simp only [Instr.alloc,Sem.run_bind,J3z hi hz,Result.andThen_ok,J7v,Sem.run_pure]
def bxV (h : H) (x : V) : Option (V × H) :=
 match x with
 | .u=>none
 | x=>some (W5u h x.cells.length (C.puts x.cells 0 .e))
theorem G8k (r : HR B μ h w) {t : TypeId} {x v : V} {y : Value} {h' : H} (hx : VR μ x y) (he : bxV h x = some (v,h')) : Runs P B μ h w (Instr.box t y) v h':=by
 have hxu : x ≠ .u:=by intro e; subst e; simp [bxV] at he
 have he' : (v,h') = W5u h x.cells.length (C.puts x.cells 0 .e):=by
  cases x <;> simp only [bxV,Option.some.injEq] at he <;> first | exact he.symm | exact absurd rfl hxu
 have:=U7x (P:=P) r (e:=t) (n:=x.cells.length) (by have:=(hx.cells hxu).len; simp at this; omega) (hx.cells hxu).tree (s:=Instr.box t y) (by simp only [Instr.box,Sem.run_bind,J7v,Result.andThen_ok,Sem.run_pure])
 rw [← he'] at this
 exact this
end
end Go.X
namespace Go.X
open Go.RowKit
def kno : IntKind → Nat
 | .i8=>0 | .i16=>1 | .i32=>2 | .i64=>3 | .u8=>4 | .u16=>5 | .u32=>6 | .u64=>7
theorem J1c : ∀ {a b : IntKind},kno a = kno b → a = b:=by intro a b h; cases a <;> cases b <;> first | rfl | cases h
def lim : IntKind → Nat
 | .i8=>127 | .i16=>32767 | .i32=>2147483647 | .i64=>9223372036854775807 | .u8=>255 | .u16=>65535 | .u32=>4294967295 | .u64=>18446744073709551615
def sgn : IntKind → Bool
 | .i8 | .i16 | .i32 | .i64=>true
 | _=>false
theorem G5r (k : IntKind) (n : Int) (h2 : sgn k = true) (h0 : n < 0) (h1 : -(lim k : Int) - 1 ≤ n) : k.wrap n = n:=by
 cases k <;> first | (cases h2; done) | skip
 all_goals
  simp only [lim] at h1
  simp only [IntKind.wrap,IntKind.bits,IntKind.signed]
  simp
  (try split) <;> omega
def wr (k : IntKind) (n : Int) : Int :=
 Int.rec (motive:=fun _=>Int) (fun a=>Bool.rec (k.wrap n) (.ofNat a) (Nat.ble a (lim k))) (fun a=>Bool.rec (k.wrap n) (.negSucc a) (sgn k && Nat.ble a (lim k))) n
theorem J6f (k : IntKind) (n : Int) : wr k n = k.wrap n:=by
 cases n with
 | ofNat a =>
  show Bool.rec (motive:=fun _=>Int) (k.wrap (.ofNat a)) (.ofNat a) (Nat.ble a (lim k)) = _
  cases h : Nat.ble a (lim k) with
  | false=>rfl
  | true =>
   have h1 : a ≤ lim k:=Nat.le_of_ble_eq_true h
   show Int.ofNat a = k.wrap (Int.ofNat a)
   have e : Int.ofNat a = (a : Int):=rfl
   rw [e]
   cases k <;> simp only [lim] at h1 <;> simp [IntKind.wrap,IntKind.bits,IntKind.signed] <;> omega
 | negSucc a =>
  show Bool.rec (motive:=fun _=>Int) (k.wrap (.negSucc a)) (.negSucc a) (sgn k && Nat.ble a (lim k)) = _
  cases h : (sgn k && Nat.ble a (lim k)) with
  | false=>rfl
  | true =>
   simp only [Bool.and_eq_true] at h
   have h1 : a ≤ lim k:=Nat.le_of_ble_eq_true h.2
   have h2:=h.1
   show Int.negSucc a = k.wrap (Int.negSucc a)
   have e : Int.negSucc a = -((a : Int) + 1):=by rw [Int.negSucc_eq]
   rw [e]
   exact (G5r k _ h2 (by omega) (by omega)).symm
def ltI (x y : Int) : Bool :=
 Int.rec (motive:=fun _=>Bool) (fun a=>Int.rec (motive:=fun _=>Bool) (fun b=>Nat.ble (Nat.add a 1) b) (fun _=>false) y)
  (fun a=>Int.rec (motive:=fun _=>Bool) (fun _=>true) (fun b=>Nat.ble (Nat.add b 1) a) y) x
theorem J3r (x y : Int) : ltI x y = decide (x < y):=by
 rw [Bool.eq_iff_iff,decide_eq_true_eq]
 cases x with
 | ofNat a =>
  cases y with
  | ofNat b=>show Nat.ble (a + 1) b = true ↔ _; rw [Nat.ble_eq]; have : (Int.ofNat a < Int.ofNat b) ↔ a < b:=Int.ofNat_lt; rw [this]; omega
  | negSucc b=>show false = true ↔ _; have h1 : Int.negSucc b < 0:=Int.negSucc_lt_zero b; have h2 : 0 ≤ Int.ofNat a:=Int.natCast_nonneg a; simp; omega
 | negSucc a =>
  cases y with
  | ofNat b=>show true = true ↔ _; have h1 : Int.negSucc a < 0:=Int.negSucc_lt_zero a; have h2 : 0 ≤ Int.ofNat b:=Int.natCast_nonneg b; simp; omega
  | negSucc b=>show Nat.ble (b + 1) a = true ↔ _; rw [Nat.ble_eq,Int.negSucc_eq,Int.negSucc_eq]; omega
def eqI (x y : Int) : Bool :=
 Int.rec (motive:=fun _=>Bool) (fun a=>Int.rec (motive:=fun _=>Bool) (fun b=>Nat.beq a b) (fun _=>false) y)
  (fun a=>Int.rec (motive:=fun _=>Bool) (fun _=>false) (fun b=>Nat.beq a b) y) x
theorem J1x (x y : Int) : eqI x y = (x == y):=by
 rw [Bool.eq_iff_iff,beq_iff_eq]
 cases x with
 | ofNat a =>
  cases y with
  | ofNat b=>show Nat.beq a b = true ↔ _; rw [Nat.beq_eq]; exact ⟨fun e=>by rw [e],fun e=>Int.ofNat.inj e⟩
  | negSucc b=>show false = true ↔ _; simp
 | negSucc a =>
  cases y with
  | ofNat b=>show false = true ↔ _; simp
  | negSucc b=>show Nat.beq a b = true ↔ _; rw [Nat.beq_eq]; simp
def U5u (op : BinOp) (k : IntKind) (x y : Int) : Int :=
 match x,y with
 | .ofNat a,.ofNat b=>match op with
  | .and=>wr k (.ofNat (Nat.land (Nat.mod a (Nat.pow 2 k.bits)) (Nat.mod b (Nat.pow 2 k.bits))))
  | .or=>wr k (.ofNat (Nat.lor (Nat.mod a (Nat.pow 2 k.bits)) (Nat.mod b (Nat.pow 2 k.bits))))
  | .xor=>wr k (.ofNat (Nat.xor (Nat.mod a (Nat.pow 2 k.bits)) (Nat.mod b (Nat.pow 2 k.bits))))
  | op=>bits op k x y
 | x,y=>bits op k x y
theorem U1f (op : BinOp) (k : IntKind) (x y : Int) : U5u op k x y = bits op k x y:=by
 unfold U5u
 split
 ·rename_i a b
  split
  ·rw [J6f]; simp only [bits]; congr 1
  ·rw [J6f]; simp only [bits]; congr 1
  ·rw [J6f]; simp only [bits]; congr 1
  ·rfl
 ·rfl
def shI (left : Bool) (k : IntKind) (x : Int) (n : Nat) : Int :=
 match left,x with
 | true,.ofNat a=>wr k (.ofNat (Nat.mul a (Nat.pow 2 (Nat.min n k.bits))))
 | true,x=>k.wrap (x * 2 ^ min n k.bits)
 | false,.ofNat a=>.ofNat (Nat.div a (Nat.pow 2 (Nat.min n k.bits)))
 | false,x=>x.fdiv (2 ^ min n k.bits)
def arI (op : BinOp) (k : IntKind) (x y : Int) : Option V :=
 match op with
 | .add=>some (.i k (wr k (Int.add x y)))
 | .sub=>some (.i k (wr k (Int.sub x y)))
 | .mul=>some (.i k (wr k (Int.mul x y)))
 | .quo=>Bool.rec (some (.i k (wr k (x.tdiv y)))) none (eqI y 0)
 | .rem=>Bool.rec (some (.i k (x.tmod y))) none (eqI y 0)
 | .and=>some (.i k (U5u .and k x y))
 | .or=>some (.i k (U5u .or k x y))
 | .xor=>some (.i k (U5u .xor k x y))
 | .andNot=>some (.i k (U5u .andNot k x y))
 | .eql=>some (.b (eqI x y))
 | .neq=>some (.b (!(eqI x y)))
 | .lss=>some (.b (ltI x y))
 | .leq=>some (.b (!(ltI y x)))
 | .gtr=>some (.b (ltI y x))
 | .geq=>some (.b (!(ltI x y)))
 | _=>none
def eqL (x : List Nat) : List Nat → Bool :=
 List.rec (motive:=fun _=>List Nat → Bool) (fun y=>List.rec true (fun _ _ _=>false) y) (fun a _ ih y=>List.rec (motive:=fun _=>Bool) false (fun b y _=>Nat.beq a b && ih y) y) x
theorem J1v : ∀ x y : List Nat,eqL x y = true ↔ x = y
 | [],[]=>by simp [eqL]
 | [],_::_=>by simp [eqL]
 | _::_,[]=>by simp [eqL]
 | a::x,b::y=>by
  show (Nat.beq a b && eqL x y) = true ↔ _
  rw [Bool.and_eq_true,Nat.beq_eq,J1v x y]; simp
def ltL (x : List Nat) : List Nat → Bool :=
 List.rec (motive:=fun _=>List Nat → Bool) (fun y=>List.rec false (fun _ _ _=>true) y)
  (fun a _ ih y=>List.rec (motive:=fun _=>Bool) false (fun b y _=>Nat.ble (Nat.add a 1) b || (Nat.beq a b && ih y)) y) x
def strV (op : BinOp) (x y : List Nat) : Option V :=
 match op with
 | .add=>Bool.rec none (some (.s (x ++ y))) (Nat.ble (x.length + y.length) 1000000)
 | .eql=>some (.b (eqL x y))
 | .neq=>some (.b (!(eqL x y)))
 | .lss=>some (.b (ltL x y))
 | .leq=>some (.b (ltL x y || eqL x y))
 | .gtr=>some (.b (!(ltL x y || eqL x y)))
 | .geq=>some (.b (!(ltL x y)))
 | _=>none
structure QN where
 b : Nat
 j : Nat
 k : IntKind
 lo : Int
 hi : Int
def qI (k : IntKind) (n : Int) : QN:=⟨0,0,k,n,n⟩
def mkQ (b j : Nat) (lo hi : Int) : Option V:=Bool.rec (Bool.rec (some (.q b j .i64 lo hi)) none (ltI 4611686018427387904 hi)) none (ltI lo (-4611686018427387904))
def W5v (x : QN) : Int:=Bool.rec (Int.sub x.lo 88) x.lo (Nat.beq x.b 0 || Nat.ble x.j 1)
def G4d (x : QN) : Int:=Bool.rec (Int.add x.hi 65535) x.hi (Nat.beq x.b 0)
def dfQ (x y : QN) : Int × Int :=
 Bool.rec (Int.sub (W5v x) (G4d y),Int.sub (G4d x) (W5v y))
  (Bool.rec (Bool.rec (Int.sub (W5v x) (G4d y),Int.sub (G4d x) (W5v y)) (Int.sub x.lo y.hi,Int.add (Int.sub x.hi y.lo) 88) (Nat.beq x.j 0 && Nat.ble 2 y.j)) (Int.sub x.lo y.hi,Int.sub x.hi y.lo) (Nat.beq x.j y.j)) (Nat.beq x.b y.b)
def ltQ (d : Int × Int) : Option Bool:=Bool.rec (Bool.rec (some false) none (ltI d.1 0)) (some true) (ltI d.2 0)
def leQ (d : Int × Int) : Option Bool:=Bool.rec (Bool.rec none (some false) (ltI 0 d.1)) (some true) (ltI d.2 1)
def eqQ (d : Int × Int) : Option Bool:=Bool.rec (Bool.rec none (some false) (ltI 0 d.1 || ltI d.2 0)) (some true) (eqI d.1 0 && eqI d.2 0)
def oB (x : Option Bool) : Option V:=match x with | some b=>some (.b b) | none=>none
def oN (x : Option Bool) : Option V:=match x with | some b=>some (.b (!b)) | none=>none
def sym2 (op : BinOp) (x y : QN) : Option V :=
 Bool.rec none (match op with
  | .add=>Bool.rec (Bool.rec none (mkQ y.b y.j (Int.add x.lo y.lo) (Int.add x.hi y.hi)) (Nat.beq x.b 0)) (mkQ x.b x.j (Int.add x.lo y.lo) (Int.add x.hi y.hi)) (Nat.beq y.b 0)
  | .sub=>Bool.rec (mkQ 0 0 (dfQ x y).1 (dfQ x y).2) (mkQ x.b x.j (Int.sub x.lo y.hi) (Int.sub x.hi y.lo)) (Nat.beq y.b 0)
  | .lss=>oB (ltQ (dfQ x y))
  | .gtr=>oB (ltQ (dfQ y x))
  | .leq=>oB (leQ (dfQ x y))
  | .geq=>oB (leQ (dfQ y x))
  | .eql=>oB (eqQ (dfQ x y))
  | .neq=>oN (eqQ (dfQ x y))
  | _=>none) (Nat.beq (kno x.k) 3 && Nat.beq (kno y.k) 3)
def symS (x : QN) : Option V:=Bool.rec (some (.q 0 0 x.k 0 (G4d x))) none (ltI (W5v x) 0)
def G4r (op : BinOp) (x y : QN) : Option V :=
 match op with
 | .shl=>none
 | .shr=>Bool.rec none (match y.lo with | .ofNat _=>symS x | _=>none) (Nat.beq y.b 0 && (eqI y.lo y.hi))
 | op=>sym2 op x y
def U5v (op : BinOp) (x y : V) : Option V :=
 match x,y with
 | .i k a,.i k' b=>match op with
  | .shl=>match b with | .ofNat n=>some (.i k (shI true k a n)) | _=>none
  | .shr=>match b with | .ofNat n=>some (.i k (shI false k a n)) | _=>none
  | op=>Bool.rec none (arI op k a b) (Nat.beq (kno k) (kno k'))
 | .s a,.s b=>strV op a b
 | .q b j k lo hi,.i k' m=>G4r op ⟨b,j,k,lo,hi⟩ (qI k' m)
 | .i k' m,.q b j k lo hi=>Bool.rec (G4r op (qI k' m) ⟨b,j,k,lo,hi⟩) none (match op with | .shr=>true | _=>false)
 | .q b j k lo hi,.q b' j' k' lo' hi'=>Bool.rec (G4r op ⟨b,j,k,lo,hi⟩ ⟨b',j',k',lo',hi'⟩) none (match op with | .shr=>true | _=>false)
 | _,_=>none
section
variable {P : Program} {B : Bs} {μ : M} {h : H} {w : World}
theorem G3y {op : BinOp} {k : IntKind} {a b : Int} {v : V} (t : TypeId) (hs : op ≠ .shl) (hs2 : op ≠ .shr) (he : arI op k a b = some v) :
  ∃ y,(binOp op t (.int k a) (.int k b)).run P w = .ok y w ∧ VR μ v y:=by
 cases op <;> simp only [arI] at he
 case add=>simp at he; subst he; exact ⟨_,by rw [binOp_add]; rfl,by rw [VR.i_iff,J6f]⟩
 case sub=>simp at he; subst he; exact ⟨_,by rw [binOp_sub]; rfl,by rw [VR.i_iff,J6f]; rfl⟩
 case mul=>simp at he; subst he; exact ⟨_,by rw [binOp_mul]; rfl,by rw [VR.i_iff,J6f]⟩
 case quo =>
  cases h0 : eqI b 0 <;> rw [h0] at he <;> simp at he
  rw [J1x] at h0
  have hb : ¬ b = 0:=by simpa using h0
  subst he
  exact ⟨.int k (k.wrap (a.tdiv b)),by rw [binOp_quo]; simp [Op.intDiv,hb],by rw [VR.i_iff,J6f]⟩
 case rem =>
  cases h0 : eqI b 0 <;> rw [h0] at he <;> simp at he
  rw [J1x] at h0
  have hb : ¬ b = 0:=by simpa using h0
  subst he
  exact ⟨.int k (a.tmod b),by rw [binOp_rem]; simp [Op.intDiv,hb],by rw [VR.i_iff]⟩
 case and=>simp at he; subst he; exact ⟨_,by rw [binOp_and,intBits_and]; rfl,by rw [VR.i_iff,U1f]⟩
 case or=>simp at he; subst he; exact ⟨_,by rw [binOp_or,intBits_or]; rfl,by rw [VR.i_iff,U1f]⟩
 case xor=>simp at he; subst he; exact ⟨_,by rw [binOp_xor,intBits_xor]; rfl,by rw [VR.i_iff,U1f]⟩
 case andNot=>simp at he; subst he; exact ⟨_,by rw [binOp_andNot,intBits_andNot]; rfl,by rw [VR.i_iff,U1f]⟩
 case eql=>simp at he; subst he; exact ⟨_,by rw [binOp_eql]; rfl,by rw [VR.b_iff,J1x]⟩
 case neq=>simp at he; subst he; exact ⟨_,by rw [binOp_neq]; rfl,by rw [VR.b_iff,J1x]; rfl⟩
 case lss=>simp at he; subst he; exact ⟨_,by rw [binOp_lss]; rfl,by rw [VR.b_iff,J3r]⟩
 case leq=>simp at he; subst he; exact ⟨_,by rw [binOp_leq]; rfl,by rw [VR.b_iff,J3r]; congr 1; rw [Bool.eq_iff_iff]; simp⟩
 case gtr=>simp at he; subst he; exact ⟨_,by rw [binOp_gtr]; rfl,by rw [VR.b_iff,J3r]⟩
 case geq=>simp at he; subst he; exact ⟨_,by rw [binOp_geq]; rfl,by rw [VR.b_iff,J3r]; congr 1; rw [Bool.eq_iff_iff]; simp⟩
 case shl=>exact absurd rfl hs
 case shr=>exact absurd rfl hs2
theorem U4k {op : BinOp} {k yk : IntKind} {a : Int} {n : Nat} (t : TypeId) (left : Bool) (hop : op = if left then .shl else .shr) :
  (binOp op t (.int k a) (.int yk (.ofNat n))).run P w = .ok (.int k (shI left k a n)) w:=by
 have hn : ¬ ((Int.ofNat n) < 0):=by have : 0 ≤ Int.ofNat n:=Int.natCast_nonneg n; omega
 have ht : (Int.ofNat n).toNat = n:=rfl
 cases left
 ·simp only [Bool.false_eq_true,if_false] at hop; subst hop
  rw [binOp_shr]
  simp only [Op.shift,hn,if_false,ht,Sem.run_pure]
  cases a with
  | ofNat a =>
   simp only [shI]
   congr 2
   show Int.fdiv (Int.ofNat a) (2 ^ min n k.bits) = Int.ofNat (a / 2 ^ min n k.bits)
   have : (2 : Int) ^ min n k.bits = ((2 ^ min n k.bits : Nat) : Int):=by simp
   rw [this]
   show Int.fdiv ((a : Nat) : Int) ((2 ^ min n k.bits : Nat) : Int) = ((a / 2 ^ min n k.bits : Nat) : Int)
   exact (Int.ofNat_fdiv _ _).symm
  | negSucc a=>rfl
 ·simp only [if_true] at hop; subst hop
  rw [binOp_shl]
  simp only [Op.shift,hn,if_false,ht,Sem.run_pure]
  cases a with
  | ofNat a =>
   simp only [shI,J6f]
   congr 3
  | negSucc a=>rfl
theorem U1b (a b : ByteArray) : eqL (bytesOf a) (bytesOf b) = (a.toList == b.toList):=by
 rw [Bool.eq_iff_iff,J1v,beq_iff_eq,ByteArray.toList_eq,ByteArray.toList_eq]
 unfold bytesOf
 constructor
 ·intro h
  exact (List.map_inj_right (fun x y e=>UInt8.toNat_inj.1 e)).1 h
 ·intro h; rw [h]
theorem Q2p : ∀ (a b : List UInt8),ltL (a.map (·.toNat)) (b.map (·.toNat)) = Op.bytesLess a b
 | [],[]=>rfl
 | [],_::_=>rfl
 | _::_,[]=>rfl
 | a::x,b::y=>by
  show (Nat.ble (a.toNat + 1) b.toNat || (Nat.beq a.toNat b.toNat && ltL (x.map (·.toNat)) (y.map (·.toNat)))) = Op.bytesLess (a::x) (b::y)
  rw [Q2p x y]
  simp only [Op.bytesLess]
  have h1 : Nat.ble (a.toNat + 1) b.toNat = decide (a < b):=by
   rw [Bool.eq_iff_iff,Nat.ble_eq,decide_eq_true_eq,UInt8.lt_iff_toNat_lt]; omega
  have h2 : Nat.beq a.toNat b.toNat = (a == b):=by
   rw [Bool.eq_iff_iff,Nat.beq_eq,beq_iff_eq]; exact UInt8.toNat_inj
  rw [h1,h2]
theorem W5h (a b : ByteArray) : ltL (bytesOf a) (bytesOf b) = Op.bytesLess a.toList b.toList:=by
 rw [ByteArray.toList_eq,ByteArray.toList_eq]; exact Q2p _ _
theorem U2g (a b : ByteArray) : bytesOf (a ++ b) = bytesOf a ++ bytesOf b:=by
 simp [bytesOf]
theorem J0s (a : ByteArray) : (bytesOf a).length = a.size:=by unfold bytesOf; rw [List.length_map]; rfl
theorem W6x {op : BinOp} {a b : ByteArray} {v : V} (t : TypeId) (he : strV op (bytesOf a) (bytesOf b) = some v) :
  ∃ y,(binOp op t (.string a) (.string b)).run P w = .ok y w ∧ VR μ v y:=by
 have hb : binOp op t (.string a) (.string b) = Op.stringOp op a b:=by cases op <;> rfl
 rw [hb]
 cases op <;> simp only [strV] at he <;> try (cases he; done)
 case add =>
  cases h0 : Nat.ble ((bytesOf a).length + (bytesOf b).length) 1000000 <;> rw [h0] at he <;> simp at he
  subst he
  rw [J0s,J0s] at h0
  have h1 : a.size + b.size ≤ 1000000:=Nat.le_of_ble_eq_true h0
  have h2 : ¬ (((a.size + b.size : Nat) : Int) > IntKind.i64.max):=by
   have : IntKind.i64.max = 9223372036854775807:=rfl
   rw [this]; omega
  refine ⟨.string (a ++ b),?_,?_⟩
  ·simp only [Op.stringOp,if_neg h2,Sem.run_pure]
  ·simp only [VR]; exact ⟨_,rfl,U2g a b⟩
 all_goals
  simp at he; subst he
  refine ⟨_,rfl,?_⟩
  rw [VR.b_iff]
  simp only [U1b,W5h]
  try (congr 1; done)
  try (simp only [Bool.not_or]; done)
def QR (μ : M) (x : QN) (v : Value) (n : Int) : Prop:=v = .int x.k n ∧ ∃ t : Int,QT μ x.b x.j t ∧ x.lo ≤ n - t ∧ n - t ≤ x.hi
theorem QR.q {b j : Nat} {k : IntKind} {lo hi : Int} {v : Value} (h : VR μ (.q b j k lo hi) v) : ∃ n,QR μ ⟨b,j,k,lo,hi⟩ v n:=VR.q_iff.1 h
theorem QR.i {k : IntKind} {n : Int} {v : Value} (h : VR μ (.i k n) v) : ∃ n',QR μ (qI k n) v n':=⟨n,VR.i_iff.1 h,0,QT.zero,by simp [qI],by simp [qI]⟩
theorem wrap64 {n : Int} (h1 : -4611686018427387904 - 88 ≤ n) (h2 : n ≤ 4611686018427453439) : IntKind.i64.wrap n = n:=by
 simp only [IntKind.wrap,IntKind.bits,IntKind.signed]
 simp
 (try split) <;> omega
theorem G7k {b j : Nat} {lo hi : Int} {v : V} (h : mkQ b j lo hi = some v) : v = .q b j .i64 lo hi ∧ -4611686018427387904 ≤ lo ∧ hi ≤ 4611686018427387904:=by
 unfold mkQ at h
 cases h1 : ltI lo (-4611686018427387904) <;> rw [h1] at h
 ·cases h2 : ltI 4611686018427387904 hi <;> rw [h2] at h
  ·rw [J3r,decide_eq_false_iff_not] at h1 h2
   cases h
   exact ⟨rfl,by omega,by omega⟩
  ·cases h
 ·cases h
theorem J9y {b j : Nat} {n lo hi t : Int} {v : V} (h : mkQ b j lo hi = some v) (ht : QT μ b j t) (h1 : lo ≤ n - t) (h2 : n - t ≤ hi) : VR μ v (.int .i64 n) ∧ IntKind.i64.wrap n = n:=by
 obtain ⟨rfl,h3,h4⟩:=G7k h
 have:=ht.le
 exact ⟨VR.q_iff.2 ⟨n,rfl,t,ht,h1,h2⟩,wrap64 (by omega) (by omega)⟩
theorem QT.nn {μ : M} {b j : Nat} {t : Int} (hj : j ≤ 1) (h : QT μ b j t) : 0 ≤ t:=by
 by_cases e : b = 0
 ·rw [h.1 e]; exact Int.le_refl _
 ·obtain ⟨g,q,h1,rfl⟩:=h.2 e
  unfold SV
  split
  ·omega
  ·rw [if_pos (by omega)]; omega
theorem U1n {x : QN} {a : Value} {n : Int} (hx : QR μ x a n) : W5v x ≤ n ∧ n ≤ G4d x:=by
 obtain ⟨_,t,ht,h1,h2⟩:=hx
 have l1:=ht.le
 constructor
 ·unfold W5v
  cases hb : (Nat.beq x.b 0 || Nat.ble x.j 1)
  ·show x.lo - 88 ≤ n
   omega
  ·show x.lo ≤ n
   rw [Bool.or_eq_true] at hb
   rcases hb with hb | hb
   ·have:=ht.1 (Nat.eq_of_beq_eq_true hb); omega
   ·have:=QT.nn (Nat.le_of_ble_eq_true hb) ht; omega
 ·unfold G4d
  cases hb : Nat.beq x.b 0
  ·show n ≤ x.hi + 65535
   omega
  ·have:=ht.1 (Nat.eq_of_beq_eq_true hb)
   show n ≤ x.hi
   omega
theorem J7e {x y : QN} {a b : Value} {n m : Int} (hx : QR μ x a n) (hy : QR μ y b m) : (dfQ x y).1 ≤ n - m ∧ n - m ≤ (dfQ x y).2:=by
 have ax:=U1n hx
 have ay:=U1n hy
 obtain ⟨_,t,ht,h1,h2⟩:=hx
 obtain ⟨_,t',ht',h3,h4⟩:=hy
 unfold dfQ
 cases hb : Nat.beq x.b y.b
 ·show W5v x - G4d y ≤ _ ∧ _ ≤ G4d x - W5v y
  omega
 ·have e:=Nat.eq_of_beq_eq_true hb
  cases hj : Nat.beq x.j y.j
  ·cases hk : (Nat.beq x.j 0 && Nat.ble 2 y.j)
   ·show W5v x - G4d y ≤ _ ∧ _ ≤ G4d x - W5v y
    omega
   ·rw [Bool.and_eq_true] at hk
    have e2:=Nat.eq_of_beq_eq_true hk.1
    have e3 : 2 ≤ y.j:=Nat.le_of_ble_eq_true hk.2
    rw [e,e2] at ht
    have:=QT.dif e3 ht ht'
    show x.lo - y.hi ≤ _ ∧ _ ≤ (x.hi - y.lo) + 88
    omega
  ·have e2:=Nat.eq_of_beq_eq_true hj
   rw [e,e2] at ht
   have:=ht.eq ht'
   show x.lo - y.hi ≤ _ ∧ _ ≤ x.hi - y.lo
   omega
theorem U6w {x y : QN} {a b : Value} {n m : Int} {r : Bool} (hx : QR μ x a n) (hy : QR μ y b m) (h : ltQ (dfQ x y) = some r) : r = decide (n < m):=by
 obtain ⟨h1,h2⟩:=J7e hx hy
 unfold ltQ at h
 cases e1 : ltI (dfQ x y).2 0 <;> rw [e1] at h
 ·cases e2 : ltI (dfQ x y).1 0 <;> rw [e2] at h
  ·cases h
   rw [J3r,decide_eq_false_iff_not] at e1 e2
   symm; rw [decide_eq_false_iff_not]; omega
  ·cases h
 ·cases h
  rw [J3r,decide_eq_true_eq] at e1
  symm; rw [decide_eq_true_eq]; omega
theorem U7d {x y : QN} {a b : Value} {n m : Int} {r : Bool} (hx : QR μ x a n) (hy : QR μ y b m) (h : leQ (dfQ x y) = some r) : r = decide (n ≤ m):=by
 obtain ⟨h1,h2⟩:=J7e hx hy
 unfold leQ at h
 cases e1 : ltI (dfQ x y).2 1 <;> rw [e1] at h
 ·cases e2 : ltI 0 (dfQ x y).1 <;> rw [e2] at h
  ·cases h
  ·cases h
   rw [J3r,decide_eq_true_eq] at e2
   symm; rw [decide_eq_false_iff_not]; omega
 ·cases h
  rw [J3r,decide_eq_true_eq] at e1
  symm; rw [decide_eq_true_eq]; omega
theorem U7m {x y : QN} {a b : Value} {n m : Int} {r : Bool} (hx : QR μ x a n) (hy : QR μ y b m) (h : eqQ (dfQ x y) = some r) : r = (n == m):=by
 obtain ⟨h1,h2⟩:=J7e hx hy
 unfold eqQ at h
 cases e1 : (eqI (dfQ x y).1 0 && eqI (dfQ x y).2 0) <;> rw [e1] at h
 ·cases e2 : (ltI 0 (dfQ x y).1 || ltI (dfQ x y).2 0) <;> rw [e2] at h
  ·cases h
  ·cases h
   rw [Bool.or_eq_true,J3r,J3r,decide_eq_true_eq,decide_eq_true_eq] at e2
   symm; rw [beq_eq_false_iff_ne]; intro e; rcases e2 with e2 | e2 <;> omega
 ·cases h
  rw [Bool.and_eq_true,J1x,J1x,beq_iff_eq,beq_iff_eq] at e1
  symm; rw [beq_iff_eq]; omega
theorem J9w {x : Option Bool} {v : V} (h : oB x = some v) : ∃ b,x = some b ∧ v = .b b:=by
 cases x with
 | none=>cases h
 | some b=>cases h; exact ⟨b,rfl,rfl⟩
theorem Q6h {x : Option Bool} {v : V} (h : oN x = some v) : ∃ b,x = some b ∧ v = .b (!b):=by
 cases x with
 | none=>cases h
 | some b=>cases h; exact ⟨b,rfl,rfl⟩
theorem W3g {op : BinOp} {x y : QN} {v : V} {a b : Value} {n m : Int} (t : TypeId) (hx : QR μ x a n) (hy : QR μ y b m) (he : sym2 op x y = some v) :
  ∃ z,(binOp op t a b).run P w = .ok z w ∧ VR μ v z:=by
 unfold sym2 at he
 cases hk : (Nat.beq (kno x.k) 3 && Nat.beq (kno y.k) 3) <;> rw [hk] at he
 ·cases he
 rw [Bool.and_eq_true] at hk
 have k1 : x.k = .i64:=J1c (Nat.eq_of_beq_eq_true hk.1)
 have k2 : y.k = .i64:=J1c (Nat.eq_of_beq_eq_true hk.2)
 have hx0:=hx
 have hy0:=hy
 obtain ⟨ha,t1,ht1,p1,p2⟩:=hx
 obtain ⟨hb,t2,ht2,p3,p4⟩:=hy
 rw [k1] at ha
 rw [k2] at hb
 subst ha; subst hb
 cases op <;> simp only at he <;> try (cases he; done)
 case add =>
  have key : ∀ {b j : Nat} {u : Int},QT μ b j u → u = t1 + t2 → mkQ b j (Int.add x.lo y.lo) (Int.add x.hi y.hi) = some v → ∃ z,(binOp .add t (.int .i64 n) (.int .i64 m)).run P w = .ok z w ∧ VR μ v z:=by
   intro b j u ht e hm
   obtain ⟨g1,g2⟩:=J9y (n:=n + m) hm ht (by show x.lo + y.lo ≤ n + m - u; omega) (by show n + m - u ≤ x.hi + y.hi; omega)
   exact ⟨_,by rw [binOp_add]; rfl,by rw [g2]; exact g1⟩
  cases h0 : Nat.beq y.b 0 <;> rw [h0] at he
  ·cases h1 : Nat.beq x.b 0 <;> rw [h1] at he
   ·cases he
   ·have:=ht1.1 (Nat.eq_of_beq_eq_true h1)
    exact key ht2 (by omega) he
  ·have:=ht2.1 (Nat.eq_of_beq_eq_true h0)
   exact key ht1 (by omega) he
 case sub =>
  cases h0 : Nat.beq y.b 0 <;> rw [h0] at he
  ·obtain ⟨d1,d2⟩:=J7e hx0 hy0
   obtain ⟨g1,g2⟩:=J9y (n:=n - m) he QT.zero (by omega) (by omega)
   exact ⟨_,by rw [binOp_sub]; rfl,by rw [g2]; exact g1⟩
  ·have:=ht2.1 (Nat.eq_of_beq_eq_true h0)
   obtain ⟨g1,g2⟩:=J9y (n:=n - m) he ht1 (by show x.lo - y.hi ≤ n - m - t1; omega) (by show n - m - t1 ≤ x.hi - y.lo; omega)
   exact ⟨_,by rw [binOp_sub]; rfl,by rw [g2]; exact g1⟩
 case lss =>
  obtain ⟨r,h1,rfl⟩:=J9w he
  exact ⟨_,by rw [binOp_lss]; rfl,by rw [VR.b_iff,U6w hx0 hy0 h1]⟩
 case gtr =>
  obtain ⟨r,h1,rfl⟩:=J9w he
  exact ⟨_,by rw [binOp_gtr]; rfl,by rw [VR.b_iff,U6w hy0 hx0 h1]; try rfl⟩
 case leq =>
  obtain ⟨r,h1,rfl⟩:=J9w he
  exact ⟨_,by rw [binOp_leq]; rfl,by rw [VR.b_iff,U7d hx0 hy0 h1]⟩
 case geq =>
  obtain ⟨r,h1,rfl⟩:=J9w he
  exact ⟨_,by rw [binOp_geq]; rfl,by rw [VR.b_iff,U7d hy0 hx0 h1]; try rfl⟩
 case eql =>
  obtain ⟨r,h1,rfl⟩:=J9w he
  exact ⟨_,by rw [binOp_eql]; rfl,by rw [VR.b_iff,U7m hx0 hy0 h1]⟩
 case neq =>
  obtain ⟨r,h1,rfl⟩:=Q6h he
  exact ⟨_,by rw [binOp_neq]; rfl,by rw [VR.b_iff,U7m hx0 hy0 h1]; try rfl⟩
theorem shI_le {k : IntKind} {n : Int} (m : Nat) (h : 0 ≤ n) : 0 ≤ shI false k n m ∧ shI false k n m ≤ n:=by
 cases n with
 | ofNat a =>
  refine ⟨Int.natCast_nonneg _,?_⟩
  show ((a / 2 ^ Nat.min m k.bits : Nat) : Int) ≤ ((a : Nat) : Int)
  exact Int.ofNat_le.2 (Nat.div_le_self _ _)
 | negSucc a=>have:=Int.negSucc_lt_zero a; omega
theorem J7u {op : BinOp} {x y : QN} {v : V} {a b : Value} (t : TypeId) (hx : ∃ n,QR μ x a n) (hy : ∃ n,QR μ y b n) (he : G4r op x y = some v) :
  ∃ z,(binOp op t a b).run P w = .ok z w ∧ VR μ v z:=by
 obtain ⟨n,hx⟩:=hx
 obtain ⟨m,hy⟩:=hy
 by_cases h1 : op = .shr
 ·subst h1
  have ax:=U1n hx
  obtain ⟨ha,t1,ht1,p1,p2⟩:=hx
  obtain ⟨hb,t2,ht2,p3,p4⟩:=hy
  subst ha; subst hb
  simp only [G4r] at he
  cases hc : (Nat.beq y.b 0 && eqI y.lo y.hi) <;> rw [hc] at he
  ·cases he
  rw [Bool.and_eq_true,J1x,beq_iff_eq] at hc
  have t0:=ht2.1 (Nat.eq_of_beq_eq_true hc.1)
  cases hn : y.lo with
  | negSucc m=>rw [hn] at he; cases he
  | ofNat m' =>
   have em : m = Int.ofNat m':=by rw [← hn]; omega
   subst em
   rw [hn] at he
   simp only at he
   unfold symS at he
   cases h2 : ltI (W5v x) 0 <;> rw [h2] at he
   ·cases he
    rw [J3r,decide_eq_false_iff_not] at h2
    have h3:=shI_le (k:=x.k) m' (show 0 ≤ n by omega)
    exact ⟨_,U4k t false rfl,VR.q_iff.2 ⟨_,rfl,0,QT.zero,by omega,by omega⟩⟩
   ·cases he
 ·by_cases h2 : op = .shl
  ·subst h2; cases he
  ·have he2 : sym2 op x y = some v:=by
    cases op <;> first | exact he | exact absurd rfl h1 | exact absurd rfl h2
   exact W3g t hx hy he2
theorem G3u {op : BinOp} {x y v : V} {a b : Value} (t : TypeId) (hx : VR μ x a) (hy : VR μ y b) (he : U5v op x y = some v) :
  ∃ z,(binOp op t a b).run P w = .ok z w ∧ VR μ v z:=by
 cases x <;> cases y <;> simp only [U5v] at he <;> try (cases he; done)
 ·cases op <;> first | (cases he; done) | exact J7u t (QR.q hx) (QR.q hy) he
 ·exact J7u t (QR.q hx) (QR.i hy) he
 ·rename_i a' b'
  simp only [VR] at hx hy
  obtain ⟨s,rfl,rfl⟩:=hx
  obtain ⟨s',rfl,rfl⟩:=hy
  exact W6x t he
 ·cases op <;> first | (cases he; done) | exact J7u t (QR.i hx) (QR.q hy) he
 ·rename_i k a k' b
  rw [VR.i_iff] at hx hy; subst hx; subst hy
  by_cases h1 : op = .shl
  ·subst h1
   cases b with
   | ofNat n=>simp only [Option.some.injEq] at he; subst he; exact ⟨_,U4k t true rfl,by rw [VR.i_iff]⟩
   | negSucc n=>cases he
  ·by_cases h2 : op = .shr
   ·subst h2
    cases b with
    | ofNat n=>simp only [Option.some.injEq] at he; subst he; exact ⟨_,U4k t false rfl,by rw [VR.i_iff]⟩
    | negSucc n=>cases he
   ·have he2 : Bool.rec none (arI op k a b) (Nat.beq (kno k) (kno k')) = some v:=by
     cases op <;> first | exact he | exact absurd rfl h1 | exact absurd rfl h2
    cases hk : Nat.beq (kno k) (kno k') <;> rw [hk] at he2
    ·cases he2
    ·have:=J1c (Nat.eq_of_beq_eq_true hk); subst this
     exact G3y t h1 h2 he2
end
end Go.X
namespace Go.X
open Go.RowKit
inductive EK where
 | b | p | ns | nm | nf
 | arr (n : Nat) | st (n : Nat) | kt (ks : List Bool)
 | ifc (lit : Bool) (pt : Nat → Bool)
def eqB (x y : Bool) : Bool:=Bool.rec (Bool.rec true false y) y x
theorem J5n (x y : Bool) : eqB x y = (x == y):=by cases x <;> cases y <;> rfl
def W5t (a b : V) (rest : Option Bool) : Option Bool :=
 match a,b with
 | .i k m,.i k' n=>Bool.rec none (Bool.rec (some false) rest (eqI m n)) (Nat.beq (kno k) (kno k'))
 | _,_=>none
def U8z (x : List V) : List V → Option Bool :=
 List.rec (motive:=fun _=>List V → Option Bool) (fun y=>List.rec (some true) (fun _ _ _=>none) y)
  (fun a _ ih y=>List.rec (motive:=fun _=>Option Bool) none (fun b y _=>W5t a b (ih y)) y) x
def eqS2 (a b : V) (rest : Option Bool) : Option Bool :=
 match a,b with
 | .s l,.s l'=>Bool.rec (some false) rest (eqL l l')
 | _,_=>none
def Q2x (ks : List Bool) : List V → List V → Option Bool :=
 List.rec (motive:=fun _=>List V → List V → Option Bool)
  (fun x y=>List.rec (motive:=fun _=>Option Bool) (List.rec (some true) (fun _ _ _=>none) y) (fun _ _ _=>none) x)
  (fun k _ ih x y=>List.rec (motive:=fun _=>Option Bool) none (fun a x' _=>List.rec (motive:=fun _=>Option Bool) none (fun b y' _=>Bool.rec (W5t a b (ih x' y')) (eqS2 a b (ih x' y')) k) y) x) ks
def isZ (o : O) : Bool:=match o with | .cells _ _ z=>z | _=>false
theorem W2c {o : O} (h : isZ o = true) : ∃ n c,o = .cells n c true:=by
 cases o <;> simp only [isZ] at h <;> try (cases h; done)
 subst h; exact ⟨_,_,rfl⟩
def eqP (h : H) (b : Nat) (o : Nat) (b' : Nat) (o' : Nat) : Option Bool :=
 Bool.rec (Bool.rec none (some false) (isZ (h.get b) && isZ (h.get b'))) (some (Nat.beq o o')) (Nat.beq b b')
def eqPV (h : H) (x y : V) : Option Bool :=
 match x with
 | .pn=>match y with | .pn=>some true | .p _ _=>some false | _=>none
 | .p b o=>match y with | .pn=>some false | .p b' o'=>eqP h b o b' o' | _=>none
 | _=>none
def eqV (e : EK) (h : H) (x y : V) : Option Bool :=
 match e with
 | .b=>match x with
  | .b a=>match y with | .b b=>some (eqB a b) | _=>none
  | _=>none
 | .p=>eqPV h x y
 | .ns=>match x with
  | .sn=>match y with | .sn=>some true | .sl _ _ _ _ _=>some false | .se=>some false | _=>none
  | .sl _ _ _ _ _=>match y with | .sn=>some false | _=>none
  | .se=>match y with | .sn=>some false | _=>none
  | _=>none
 | .nm=>match x with
  | .mn=>match y with | .mn=>some true | .m _=>some false | _=>none
  | .m _=>match y with | .mn=>some false | _=>none
  | _=>none
 | .nf=>match x with
  | .fnil=>match y with | .fnil=>some true | .fn _ _ _=>some false | _=>none
  | .fn _ _ _=>match y with | .fnil=>some false | _=>none
  | _=>none
 | .arr n=>match x with
  | .ag l=>match y with | .ag l'=>Bool.rec none (U8z l l') (Nat.beq l.length n) | _=>none
  | _=>none
 | .st n=>match x with
  | .ag l=>match y with | .ag l'=>Bool.rec none (U8z l l') (Nat.beq l.length n) | _=>none
  | _=>none
 | .kt ks=>match x with
  | .ag l=>match y with | .ag l'=>Q2x ks l l' | _=>none
  | _=>none
 | .ifc lit pt=>match x with
  | .inil=>match y with | .inil=>Bool.rec none (some true) lit | .ifc _ _=>some false | _=>none
  | .ifc t a=>match y with
   | .inil=>some false
   | .ifc t' b=>Bool.rec (some false) (Bool.rec none (eqPV h a b) (pt t)) (Nat.beq t t')
   | _=>none
  | _=>none
section
variable {P : Program} {B : Bs} {μ : M} {h : H} {w : World}
def EKok (P : Program) (t : TypeId) : EK → Prop
 | .b=>P.underlying t = some .bool
 | .p=>∃ e i,P.underlying t = some (.pointer e) ∧ P.info? e = some i ∧ i.size ≠ 0
 | .ns=>∃ e,P.underlying t = some (.slice e)
 | .nm=>∃ k e,P.underlying t = some (.map k e)
 | .nf=>∃ a b c,P.underlying t = some (.func a b c)
 | .arr n=>∃ e i k,P.underlying t = some (.array n e) ∧ P.info? e = some i ∧ i.size = 1 ∧ P.underlying e = some (.int k)
 | .st n => (∃ fs : Array Field, P.underlying t = some (.struct fs) ∧ fs.size = n ∧ ∀ (j : Nat) (f : Field), fs[j]? = some f → f.offset = j ∧ f.name ≠ "_" ∧ ∃ k, P.underlying f.type = some (.int k)) ∧ P.stoodInHeld t = false ∧ P.eqGuardType P.depth t = false
 | .kt ks => (∃ fs : Array Field, P.underlying t = some (.struct fs) ∧ fs.size = ks.length ∧ ∀ (j : Nat) (f : Field), fs[j]? = some f → f.offset = j ∧ f.name ≠ "_" ∧ (ks[j]? = some false → ∃ k, P.underlying f.type = some (.int k)) ∧ (ks[j]? = some true → P.underlying f.type = some .string)) ∧ P.stoodInHeld t = false ∧ P.eqGuardType P.depth t = false
 | .ifc _ pt=>(∃ ms,P.underlying t = some (.interface ms)) ∧ ∀ u,pt u = true → ∃ e i j,P.underlying u = some (.pointer e) ∧ P.info? e = some i ∧ i.size ≠ 0 ∧ P.info? u = some j ∧ j.comparable = true
theorem HR.plain (r : HR B μ h w) {b : Nat} {n : Nat} {c : C} (hb : h.get b = .cells n c true) {g q : Nat} (hm : μ b = some (g,q)) : ∃ cur e,w.heap[g]? = some (.cells cur e (0,0)):=by
 obtain ⟨g',q',h1,_,h3⟩:=r.obj b (by rw [hb]; simp)
 rw [hm] at h1; cases h1
 rw [hb] at h3
 obtain ⟨cur,e,fr,h4,h5,_⟩:=h3
 rw [h5 rfl] at h4
 exact ⟨cur,e,h4⟩
theorem U1w (r : HR B μ h w) {b b' : Nat} {o o' g q g' q' : Nat} {v : Bool} (he : eqP h b o b' o' = some v) (hm : μ b = some (g,q)) (hm' : μ b' = some (g',q')) :
  (sameAddr ⟨g,q + o,none⟩ ⟨g',q' + o',none⟩).run P w = .ok v w:=by
 unfold eqP at he
 cases hbb : Nat.beq b b' <;> rw [hbb] at he
 ·cases hz : (isZ (h.get b) && isZ (h.get b')) <;> rw [hz] at he
  ·cases he
  simp only [Option.some.injEq] at he; subst he
  simp only [Bool.and_eq_true] at hz
  obtain ⟨n,c,hb⟩:=W2c hz.1
  obtain ⟨n',c',hb'⟩:=W2c hz.2
  obtain ⟨_,_,h1⟩:=r.plain hb hm
  obtain ⟨_,_,h2⟩:=r.plain hb' hm'
  have hne : g ≠ g':=by
   intro e
   have:=r.inj b b' g q g' q' (by rw [hb]; simp) (by rw [hb']; simp) hm hm' e
   rw [this,Nat.beq_refl] at hbb; cases hbb
  exact run_sameAddr_other w (by intro e; exact hne (congrArg Addr.block e)) h1 h2
 ·simp only [Option.some.injEq] at he; subst he
  have:=Nat.eq_of_beq_eq_true hbb; subst this
  rw [hm] at hm'; cases hm'
  unfold sameAddr
  simp only [beq_self_eq_true,if_true,Sem.run_pure]
  congr 1
  rw [Bool.eq_iff_iff,Nat.beq_eq,beq_iff_eq]
  constructor
  ·intro e; have:=congrArg Addr.off e; simp at this; omega
  ·intro e; rw [e]
theorem U3o {e : TypeId} {k : IntKind} (d : Nat) (hu : P.underlying e = some (.int k)) {xs ys : Array Value} :
  ∀ (l l' : List V) (j : Nat) (v : Bool),U8z l l' = some v → VRs μ l (xs.toList.drop j) → VRs μ l' (ys.toList.drop j) →
   (Op.eqItems (d + 1) e 1 xs ys (List.range' j l.length)).run P w = .ok v w
 | [],[],j,v,he,_,_=>by
  simp [U8z] at he; subst he
  simp [Op.eqItems]
 | [],_::_,j,v,he,_,_=>by simp [U8z] at he
 | a::l,[],j,v,he,_,_=>by simp [U8z] at he
 | a::l,b::l',j,v,he,hx,hy=>by
  obtain ⟨y1,ys1,e1,h1,h2⟩:=VRs.cons_iff.1 hx
  obtain ⟨y2,ys2,e2,h3,h4⟩:=VRs.cons_iff.1 hy
  have hx2 : VRs μ l (xs.toList.drop (j + 1)):=by rw [← List.drop_drop,e1]; exact h2
  have hy2 : VRs μ l' (ys.toList.drop (j + 1)):=by rw [← List.drop_drop,e2]; exact h4
  have g1 : xs[j]? = some y1:=by
   have:=congrArg (fun l=>l[0]?) e1
   simpa using this
  have g2 : ys[j]? = some y2:=by
   have:=congrArg (fun l=>l[0]?) e2
   simpa using this
  have he2 : W5t a b (U8z l l') = some v:=he
  cases a <;> simp only [W5t] at he2 <;> try (cases he2; done)
  cases b <;> simp only at he2 <;> try (cases he2; done)
  rename_i k1 m k2 n
  cases hk : Nat.beq (kno k1) (kno k2) <;> rw [hk] at he2
  ·cases he2
  ·have:=J1c (Nat.eq_of_beq_eq_true hk); subst this
   rw [VR.i_iff] at h1 h3; subst h1; subst h3
   have p1 : (part e xs (j * 1)).run P w = .ok (.int k1 m) w:=by simp [part,isAgg,run_underlying hu,g1]
   have p2 : (part e ys (j * 1)).run P w = .ok (.int k1 n) w:=by simp [part,isAgg,run_underlying hu,g2]
   have p3 : (Op.equalIn (d + 1) e (.int k1 m) (.int k1 n)).run P w = .ok (m == n) w:=run_equalIn_int w d e k1 k _ _ hu
   simp only [List.length_cons,List.range'_succ,Op.eqItems,Sem.run_bind,p1,p2,p3,Result.andThen_ok]
   rw [← J1x]
   cases hm : eqI m n <;> rw [hm] at he2
   ·simp only [Option.some.injEq] at he2; subst he2; simp
   ·simpa using U3o d hu l l' (j + 1) v he2 hx2 hy2
theorem W5b {n : Nat} {t e : TypeId} {i : TypeInfo} {k : IntKind} (d : Nat) (ht : P.underlying t = some (.array n e)) (hi : P.info? e = some i) (hs : i.size = 1) (hu : P.underlying e = some (.int k))
  {l l' : List V} {v : Bool} (he : U8z l l' = some v) {xs ys : Array Value} (hx : VRs μ l xs.toList) (hy : VRs μ l' ys.toList) (hn : l.length = n) :
  (Op.equalIn (d + 2) t (.agg xs) (.agg ys)).run P w = .ok v w:=by
 rw [run_equalIn_array w (d + 1) xs ys ht hi]
 have hc : P.cellsOf e = 1:=by unfold Program.cellsOf; rw [hi]; exact hs
 rw [hc,List.range_eq_range',← hn]
 exact U3o d hu l l' 0 v he (by simpa using hx) (by simpa using hy)
theorem U3l (d : Nat) {xs ys : Array Value} :
  ∀ (fs : List Field) (l l' : List V) (j : Nat) (v : Bool), fs.length = l.length → (∀ i f, fs[i]? = some f → f.offset = j + i ∧ f.name ≠ "_" ∧ ∃ k, P.underlying f.type = some (.int k)) → U8z l l' = some v → VRs μ l (xs.toList.drop j) → VRs μ l' (ys.toList.drop j) →
   (Op.eqFields (d + 1) xs ys fs).run P w = .ok v w
 | [],[],[],j,v,_,_,he,_,_=>by
  simp [U8z] at he; subst he
  simp [Op.eqFields]
 | [],[],_::_,j,v,_,_,he,_,_=>by simp [U8z] at he
 | [],_::_,_,j,v,hl,_,_,_,_=>by simp at hl
 | _::_,[],_,j,v,hl,_,_,_,_=>by simp at hl
 | _::_,a::l,[],j,v,_,_,he,_,_=>by simp [U8z] at he
 | f::fs,a::l,b::l',j,v,hl,hf,he,hx,hy=>by
  obtain ⟨y1,ys1,e1,h1,h2⟩:=VRs.cons_iff.1 hx
  obtain ⟨y2,ys2,e2,h3,h4⟩:=VRs.cons_iff.1 hy
  have hx2 : VRs μ l (xs.toList.drop (j + 1)):=by rw [← List.drop_drop,e1]; exact h2
  have hy2 : VRs μ l' (ys.toList.drop (j + 1)):=by rw [← List.drop_drop,e2]; exact h4
  have g1 : xs[j]? = some y1:=by
   have:=congrArg (fun l=>l[0]?) e1
   simpa using this
  have g2 : ys[j]? = some y2:=by
   have:=congrArg (fun l=>l[0]?) e2
   simpa using this
  obtain ⟨f1,f2,k,hu⟩:=hf 0 f rfl
  have he2 : W5t a b (U8z l l') = some v:=he
  cases a <;> simp only [W5t] at he2 <;> try (cases he2; done)
  cases b <;> simp only at he2 <;> try (cases he2; done)
  rename_i k1 m k2 n
  cases hk : Nat.beq (kno k1) (kno k2) <;> rw [hk] at he2
  ·cases he2
  ·have:=J1c (Nat.eq_of_beq_eq_true hk); subst this
   rw [VR.i_iff] at h1 h3; subst h1; subst h3
   have p1 : (part f.type xs f.offset).run P w = .ok (.int k1 m) w:=by rw [f1]; simp [part,isAgg,run_underlying hu,g1]
   have p2 : (part f.type ys f.offset).run P w = .ok (.int k1 n) w:=by rw [f1]; simp [part,isAgg,run_underlying hu,g2]
   have p3 : (Op.equalIn (d + 1) f.type (.int k1 m) (.int k1 n)).run P w = .ok (m == n) w:=run_equalIn_int w d f.type k1 k _ _ hu
   simp only [Op.eqFields,f2,ne_eq,not_false_eq_true,if_true,Sem.run_bind,p1,p2,p3,Result.andThen_ok]
   rw [← J1x]
   cases hm : eqI m n <;> rw [hm] at he2
   ·simp only [Option.some.injEq] at he2; subst he2; simp
   ·simpa using U3l d fs l l' (j + 1) v (by simpa using hl) (fun i g hg=>by
     obtain ⟨q1,q2⟩:=hf (i + 1) g (by simpa using hg)
     exact ⟨by omega,q2⟩) he2 hx2 hy2
theorem U3n (d : Nat) {xs ys : Array Value} :
  ∀ (ks : List Bool) (fs : List Field) (l l' : List V) (j : Nat) (v : Bool), fs.length = ks.length → (∀ i f, fs[i]? = some f → f.offset = j + i ∧ f.name ≠ "_" ∧ (ks[i]? = some false → ∃ k, P.underlying f.type = some (.int k)) ∧ (ks[i]? = some true → P.underlying f.type = some .string)) →
   Q2x ks l l' = some v → VRs μ l (xs.toList.drop j) → VRs μ l' (ys.toList.drop j) → (Op.eqFields (d + 1) xs ys fs).run P w = .ok v w
 | [],[],l,l',j,v,_,_,he,_,_=>by
  cases l with
  | nil =>
   cases l' with
   | nil=>cases he; simp [Op.eqFields]
   | cons b l'=>cases he
  | cons a l=>cases he
 | [],_::_,_,_,_,_,hl,_,_,_,_=>by simp at hl
 | _::_,[],_,_,_,_,hl,_,_,_,_=>by simp at hl
 | k::ks,f::fs,[],l',j,v,_,_,he,_,_=>by cases he
 | k::ks,f::fs,a::l,[],j,v,_,_,he,_,_=>by cases he
 | k::ks,f::fs,a::l,b::l',j,v,hl,hf,he,hx,hy=>by
  obtain ⟨y1,ys1,e1,h1,h2⟩:=VRs.cons_iff.1 hx
  obtain ⟨y2,ys2,e2,h3,h4⟩:=VRs.cons_iff.1 hy
  have hx2 : VRs μ l (xs.toList.drop (j + 1)):=by rw [← List.drop_drop,e1]; exact h2
  have hy2 : VRs μ l' (ys.toList.drop (j + 1)):=by rw [← List.drop_drop,e2]; exact h4
  have g1 : xs[j]? = some y1:=by
   have:=congrArg (fun l=>l[0]?) e1
   simpa using this
  have g2 : ys[j]? = some y2:=by
   have:=congrArg (fun l=>l[0]?) e2
   simpa using this
  obtain ⟨f1,f2,f3,f4⟩:=hf 0 f rfl
  have rest : ∀ v,Q2x ks l l' = some v → (Op.eqFields (d + 1) xs ys fs).run P w = .ok v w:=fun v he=>U3n d ks fs l l' (j + 1) v (by simpa using hl) (fun i g hg=>by
   obtain ⟨q1,q2⟩:=hf (i + 1) g (by simpa using hg)
   exact ⟨by omega,by simpa using q2⟩) he hx2 hy2
  cases k with
  | false =>
   obtain ⟨k0,hu⟩:=f3 rfl
   have he2 : W5t a b (Q2x ks l l') = some v:=he
   cases a <;> simp only [W5t] at he2 <;> try (cases he2; done)
   cases b <;> simp only at he2 <;> try (cases he2; done)
   rename_i k1 m k2 n
   cases hk : Nat.beq (kno k1) (kno k2) <;> rw [hk] at he2
   ·cases he2
   ·have:=J1c (Nat.eq_of_beq_eq_true hk); subst this
    rw [VR.i_iff] at h1 h3; subst h1; subst h3
    have p1 : (part f.type xs f.offset).run P w = .ok (.int k1 m) w:=by rw [f1]; simp [part,isAgg,run_underlying hu,g1]
    have p2 : (part f.type ys f.offset).run P w = .ok (.int k1 n) w:=by rw [f1]; simp [part,isAgg,run_underlying hu,g2]
    have p3 : (Op.equalIn (d + 1) f.type (.int k1 m) (.int k1 n)).run P w = .ok (m == n) w:=run_equalIn_int w d f.type k1 k0 _ _ hu
    simp only [Op.eqFields,f2,ne_eq,not_false_eq_true,if_true,Sem.run_bind,p1,p2,p3,Result.andThen_ok]
    rw [← J1x]
    cases hm : eqI m n <;> rw [hm] at he2
    ·simp only [Option.some.injEq] at he2; subst he2; simp
    ·simpa using rest v he2
  | true =>
   have hu:=f4 rfl
   have he2 : eqS2 a b (Q2x ks l l') = some v:=he
   cases a <;> simp only [eqS2] at he2 <;> try (cases he2; done)
   cases b <;> simp only at he2 <;> try (cases he2; done)
   rename_i m n
   simp only [VR] at h1 h3
   obtain ⟨s1,rfl,rfl⟩:=h1
   obtain ⟨s2,rfl,rfl⟩:=h3
   have p1 : (part f.type xs f.offset).run P w = .ok (.string s1) w:=by rw [f1]; simp [part,isAgg,run_underlying hu,g1]
   have p2 : (part f.type ys f.offset).run P w = .ok (.string s2) w:=by rw [f1]; simp [part,isAgg,run_underlying hu,g2]
   have p3 : (Op.equalIn (d + 1) f.type (.string s1) (.string s2)).run P w = .ok (s1.toList == s2.toList) w:=run_equalIn_string w d f.type s1 s2 hu
   simp only [Op.eqFields,f2,ne_eq,not_false_eq_true,if_true,Sem.run_bind,p1,p2,p3,Result.andThen_ok]
   rw [← U1b]
   cases hm : eqL (bytesOf s1) (bytesOf s2) <;> rw [hm] at he2
   ·simp only [Option.some.injEq] at he2; subst he2; simp
   ·simpa using rest v he2
theorem U3m (r : HR B μ h w) {d : Nat} {t e : TypeId} {i : TypeInfo} (ht : P.underlying t = some (.pointer e)) (hi : P.info? e = some i) (hs : i.size ≠ 0) {x y : V} {a b : Value} {v : Bool} (hx : VR μ x a) (hy : VR μ y b)
  (he : eqPV h x y = some v) : (Op.equalIn (d + 1) t a b).run P w = .ok v w:=by
 cases x <;> simp only [eqPV] at he <;> try (cases he; done)
 ·cases y <;> simp only at he <;> try (cases he; done)
  ·rename_i p o p' o'
   simp only [VR] at hx hy
   obtain ⟨g,q,hm,rfl⟩:=hx
   obtain ⟨g',q',hm',rfl⟩:=hy
   simp only [Op.equalIn,Sem.run_bind,run_underlying ht,Result.andThen_ok,J0w hi,ne_eq,hs,not_false_eq_true,if_true]
   exact U1w r he hm hm'
  ·simp only [Option.some.injEq] at he; subst he
   simp only [VR] at hx hy
   obtain ⟨g,q,hm,rfl⟩:=hx
   subst hy
   simp [Op.equalIn,run_underlying ht]
 ·cases y <;> simp only at he <;> try (cases he; done)
  ·simp only [Option.some.injEq] at he; subst he
   simp only [VR] at hx hy
   obtain ⟨g,q,hm,rfl⟩:=hy
   subst hx
   simp [Op.equalIn,run_underlying ht]
  ·simp only [Option.some.injEq] at he; subst he
   simp only [VR] at hx hy
   subst hx; subst hy
   simp [Op.equalIn,run_underlying ht]
set_option maxHeartbeats 4000000 in
theorem G2r (d : Nat) (r : HR B μ h w) {t : TypeId} {ek : EK} (hek : EKok P t ek) {x y : V} {a b : Value} {v : Bool} (hx : VR μ x a) (hy : VR μ y b) (he : eqV ek h x y = some v) :
  (Op.equalIn (d + 2) t a b).run P w = .ok v w:=by
 cases ek with
 | b =>
  cases x <;> simp only [eqV] at he <;> try (cases he; done)
  cases y <;> simp only at he <;> try (cases he; done)
  simp only [Option.some.injEq] at he; subst he
  rw [VR.b_iff] at hx hy; subst hx; subst hy
  rw [J5n]
  exact run_equalIn_bool w (d + 1) t _ _ hek
 | p =>
  obtain ⟨e,i,h1,h2,h3⟩:=hek
  exact U3m r h1 h2 h3 hx hy he
 | ns =>
  obtain ⟨e,h1⟩:=hek
  cases x <;> simp only [eqV] at he <;> try (cases he; done)
  all_goals (cases y <;> simp only at he <;> try (cases he; done))
  all_goals (simp only [Option.some.injEq] at he; subst he)
  all_goals (simp only [VR] at hx hy)
  all_goals first
   | (obtain ⟨_,_,_,_,rfl,_⟩:=hx; subst hy)
   | (obtain ⟨_,_,_,_,rfl,_⟩:=hy; subst hx)
   | (obtain ⟨_,_,_,rfl⟩:=hx; subst hy)
   | (obtain ⟨_,_,_,rfl⟩:=hy; subst hx)
   | (obtain ⟨_,_,rfl,_⟩:=hx; subst hy)
   | (obtain ⟨_,_,rfl,_⟩:=hy; subst hx)
   | (subst hx; subst hy)
  all_goals simp [Op.equalIn,run_underlying h1]
 | nm =>
  obtain ⟨k,e,h1⟩:=hek
  cases x <;> simp only [eqV] at he <;> try (cases he; done)
  all_goals (cases y <;> simp only at he <;> try (cases he; done))
  all_goals (simp only [Option.some.injEq] at he; subst he)
  all_goals (simp only [VR] at hx hy)
  all_goals first
   | (obtain ⟨_,_,_,_,rfl,_⟩:=hx; subst hy)
   | (obtain ⟨_,_,_,_,rfl,_⟩:=hy; subst hx)
   | (obtain ⟨_,_,_,rfl⟩:=hx; subst hy)
   | (obtain ⟨_,_,_,rfl⟩:=hy; subst hx)
   | (obtain ⟨_,_,rfl,_⟩:=hx; subst hy)
   | (obtain ⟨_,_,rfl,_⟩:=hy; subst hx)
   | (subst hx; subst hy)
  all_goals simp [Op.equalIn,run_underlying h1]
 | nf =>
  obtain ⟨a,b,c,h1⟩:=hek
  cases x <;> simp only [eqV] at he <;> try (cases he; done)
  all_goals (cases y <;> simp only at he <;> try (cases he; done))
  all_goals (simp only [Option.some.injEq] at he; subst he)
  all_goals (simp only [VR] at hx hy)
  all_goals first
   | (obtain ⟨_,_,_,_,rfl,_⟩:=hx; subst hy)
   | (obtain ⟨_,_,_,_,rfl,_⟩:=hy; subst hx)
   | (obtain ⟨_,_,_,rfl⟩:=hx; subst hy)
   | (obtain ⟨_,_,_,rfl⟩:=hy; subst hx)
   | (obtain ⟨_,_,rfl,_⟩:=hx; subst hy)
   | (obtain ⟨_,_,rfl,_⟩:=hy; subst hx)
   | (subst hx; subst hy)
  all_goals simp [Op.equalIn,run_underlying h1]
 | arr n =>
  obtain ⟨e,i,k,h1,h2,h3,h4⟩:=hek
  cases x <;> simp only [eqV] at he <;> try (cases he; done)
  cases y <;> simp only at he <;> try (cases he; done)
  rename_i l l'
  cases hl : Nat.beq l.length n <;> rw [hl] at he
  ·cases he
  simp only [VR] at hx hy
  obtain ⟨xs,rfl,hx⟩:=hx
  obtain ⟨ys,rfl,hy⟩:=hy
  exact W5b d h1 h2 h3 h4 he hx hy (Nat.eq_of_beq_eq_true hl)
 | st n =>
  obtain ⟨⟨fs,h1,h2,h3⟩,h4,_⟩:=hek
  cases x <;> simp only [eqV] at he <;> try (cases he; done)
  cases y <;> simp only at he <;> try (cases he; done)
  rename_i l l'
  cases hl : Nat.beq l.length n <;> rw [hl] at he
  ·cases he
  simp only [VR] at hx hy
  obtain ⟨xs,rfl,hx⟩:=hx
  obtain ⟨ys,rfl,hy⟩:=hy
  have hfo : P.fieldsOf t = fs:=by unfold Program.fieldsOf; rw [h1]
  rw [run_equalIn_struct w _ t xs ys (by rw [hfo]; exact h1) h4,hfo]
  exact U3l _ fs.toList l l' 0 v (by have:=Nat.eq_of_beq_eq_true hl; simp; omega) (fun i f hf=>by
   obtain ⟨q1,q2⟩:=h3 i f (by simpa using hf)
   exact ⟨by omega,q2⟩) he (by simpa using hx) (by simpa using hy)
 | kt ks =>
  obtain ⟨⟨fs,h1,h2,h3⟩,h4,_⟩:=hek
  cases x <;> simp only [eqV] at he <;> try (cases he; done)
  cases y <;> simp only at he <;> try (cases he; done)
  rename_i l l'
  simp only [VR] at hx hy
  obtain ⟨xs,rfl,hx⟩:=hx
  obtain ⟨ys,rfl,hy⟩:=hy
  have hfo : P.fieldsOf t = fs:=by unfold Program.fieldsOf; rw [h1]
  rw [run_equalIn_struct w _ t xs ys (by rw [hfo]; exact h1) h4,hfo]
  exact U3n _ ks fs.toList l l' 0 v (by simp; omega) (fun i f hf=>by
   obtain ⟨q1,q2⟩:=h3 i f (by simpa using hf)
   exact ⟨by omega,q2⟩) he (by simpa using hx) (by simpa using hy)
 | ifc lit pt =>
  obtain ⟨⟨ms,h1⟩,h2⟩:=hek
  cases x <;> simp only [eqV] at he <;> try (cases he; done)
  ·rename_i u a'
   cases y <;> simp only at he <;> try (cases he; done)
   ·rename_i u' b'
    simp only [VR] at hx hy
    obtain ⟨a1,rfl,hx⟩:=hx
    obtain ⟨b1,rfl,hy⟩:=hy
    cases hu : Nat.beq u u' <;> rw [hu] at he
    ·simp only [Option.some.injEq] at he; subst he
     have hne : u ≠ u':=by intro e; rw [e,Nat.beq_refl] at hu; cases hu
     simp [Op.equalIn,run_underlying h1,hne]
    ·have:=Nat.eq_of_beq_eq_true hu; subst this
     simp only at he
     cases hp : pt u <;> rw [hp] at he
     ·cases he
     obtain ⟨e,i,j,h3,h4,h5,h6,h7⟩:=h2 u hp
     have:=U3m (d:=d) r h3 h4 h5 hx hy he
     simp [Op.equalIn,run_underlying h1,typeInfo,h6,h7] at this ⊢
     exact this
   ·simp only [Option.some.injEq] at he; subst he
    simp only [VR] at hx hy
    obtain ⟨a1,rfl,hx⟩:=hx
    subst hy
    simp [Op.equalIn,run_underlying h1]
  ·cases y <;> simp only at he <;> try (cases he; done)
   ·simp only [Option.some.injEq] at he; subst he
    simp only [VR] at hx hy
    obtain ⟨a1,rfl,hy⟩:=hy
    subst hx
    simp [Op.equalIn,run_underlying h1]
   ·cases lit <;> simp at he
    subst he
    simp only [VR] at hx hy
    subst hx; subst hy
    simp [Op.equalIn,run_underlying h1]
theorem W2m (r : HR B μ h w) {t : TypeId} {ek : EK} (hek : EKok P t ek) {x y : V} {a b : Value} {v : Bool} (hx : VR μ x a) (hy : VR μ y b) (he : eqV ek h x y = some v) :
  (Op.equal t a b).run P w = .ok v w:=G2r 9998 r hek hx hy he
end
end Go.X
namespace Go.X
open Go.RowKit
section
variable {μ : M}
theorem VRs.drop {xs : List V} {ys : List Value} (n : Nat) (hs : VRs μ xs ys) : VRs μ (xs.drop n) (ys.drop n):=by
 refine VRs.of_get (by simp [hs.len]) fun j x hj=>?_
 simp only [List.getElem?_drop] at hj ⊢
 exact hs.get _ _ hj
theorem VRs.take {xs : List V} {ys : List Value} (n : Nat) (hs : VRs μ xs ys) : VRs μ (xs.take n) (ys.take n):=by
 refine VRs.of_get (by simp [hs.len]) fun j x hj=>?_
 simp only [List.getElem?_take] at hj ⊢
 split at hj
 ·rename_i h; rw [if_pos h]; exact hs.get _ _ hj
 ·cases hj
theorem VRs.rep {x : V} {y : Value} (n : Nat) (h : VR μ x y) : VRs μ (List.replicate n x) (List.replicate n y):=by
 induction n with
 | zero=>exact VRs.nil_iff.2 rfl
 | succ n ih=>exact VRs.cons_mk h ih
end
def G0j (m : Option Nat) (l : List V) (off : Nat) : Option V :=
 match m with
 | none=>l[off]?
 | some m=>some (.ag ((l.drop off).take m))
def Q2s (d : TypeDesc) : Bool:=match d with | .struct _ | .array _ _=>true | _=>false
def J9v (d : TypeDesc) (size : Nat) : Option Nat:=Bool.rec none (some size) (Q2s d)
def Q6k (x : V) : Option V :=
 match x with
 | .u | .pn | .inil | .fnil=>none
 | .fn f a c=>match f with | .func _=>some (.fn f a c) | _=>none
 | x=>some x
def faV (off : Nat) (x : V) : Option V :=
 match x with
 | .p b o=>some (.p b (o + off))
 | _=>none
def flV (off : Nat) (m : Option Nat) (x : V) : Option V :=
 match x with
 | .ag l=>G0j m l off
 | _=>none
def iaV (arr : Option Nat) (size : Nat) (x ix : V) : Option V :=
 match ix with
 | .i _ n=>match n with
  | .ofNat n=>match arr with
   | some len=>match x with
    | .p b o=>Bool.rec none (some (.p b (o + n * size))) (Nat.ble (n + 1) len)
    | _=>none
   | none=>match x with
    | .sl b o len _ _=>Bool.rec none (some (.p b (o + n * size))) (Nat.ble (n + 1) len)
    | _=>none
  | _=>none
 | _=>none
def ixV (arr : Option (Nat × Nat × Option Nat)) (x ix : V) : Option V :=
 match ix with
 | .i _ n=>match n with
  | .ofNat n=>match arr with
   | some (len,size,m)=>match x with
    | .ag l=>Bool.rec none (G0j m l (n * size)) (Nat.ble (n + 1) len)
    | _=>none
   | none=>match x with
    | .s l=>match l[n]? with
     | some b=>some (.i .u8 (.ofNat b))
     | none=>none
    | _=>none
  | _=>none
 | _=>none
section
variable {P : Program} {B : Bs} {μ : M} {h : H} {w : World}
theorem J6k {t : TypeId} {d : TypeDesc} (ht : P.underlying t = some d) : (isAgg t).run P w = .ok (Q2s d) w:=by
 unfold isAgg
 rw [Sem.run_bind,run_underlying ht]
 cases d <;> rfl
theorem G0w {x v : V} {a : Value} (hx : VR μ x a) (he : Q6k x = some v) {ρ : Operand → Value} {o : Oper} {y : Operand} (ho : o.op = .nilCheck y) (hy : ρ y = a) :
  ∃ z,(execOp ρ o).run P w = .ok (.value z) w ∧ VR μ v z:=by
 unfold execOp
 rw [ho]
 dsimp only
 rw [hy]
 have hx0:=hx
 cases x <;> simp only [Q6k] at he <;> try (cases he; done)
 case fn f ca cb =>
  cases f <;> simp only at he <;> try (cases he; done)
  simp only [Option.some.injEq] at he; subst he
  simp only [VR] at hx
  obtain ⟨xs,ys,rfl,_,_⟩:=hx
  exact ⟨_,rfl,hx0⟩
 all_goals (simp only [Option.some.injEq] at he; subst he)
 all_goals simp only [VR] at hx
 all_goals first
  | (obtain ⟨_,_,_,_,rfl,_⟩:=hx; exact ⟨_,rfl,hx0⟩)
  | (obtain ⟨_,_,_,rfl⟩:=hx; exact ⟨_,rfl,hx0⟩)
  | (obtain ⟨_,rfl,_⟩:=hx; exact ⟨_,rfl,hx0⟩)
  | (subst hx; exact ⟨_,rfl,hx0⟩)
  | (rcases hx with ⟨_,_,rfl,_⟩ | ⟨_,rfl⟩ <;> exact ⟨_,rfl,hx0⟩)
theorem G8a {t : TypeId} {fields : Array Field} {f : Field} {k : Nat} {i : TypeInfo} (ht : P.underlying t = some (.struct fields)) (hf : fields[k]? = some f) (hi : P.info? f.type = some i) (hs : i.size ≠ 0)
  {x v : V} {a : Value} (hx : VR μ x a) (he : faV f.offset x = some v) : ∃ z,(Instr.fieldAt t a k).run P w = .ok z w ∧ VR μ v z:=by
 cases x <;> simp only [faV] at he <;> try (cases he; done)
 simp only [Option.some.injEq] at he; subst he
 simp only [VR] at hx
 obtain ⟨g,q,hm,rfl⟩:=hx
 refine ⟨.pointer (some ⟨g,q + (_ + f.offset),none⟩),?_,by simp only [VR]; exact ⟨g,q,hm,rfl⟩⟩
 simp [Instr.fieldAt,run_underlying ht,hf,Instr.sureAddr,fieldPlace,J0w hi,hs,J0x,Nat.add_assoc]
theorem U2v {t : TypeId} {d : TypeDesc} (ht : P.underlying t = some d) {i : TypeInfo} (hi : P.info? t = some i) {m : Option Nat}
  (hm : m = J9v d i.size) {l : List V} {cs : Array Value} (hl : VRs μ l cs.toList) {off : Nat} {v : V} (he : G0j m l off = some v) :
  ∃ z,(part t cs off).run P w = .ok z w ∧ VR μ v z:=by
 subst hm
 unfold J9v at he
 cases hd : Q2s d <;> rw [hd] at he
 ·simp only [G0j] at he
  obtain ⟨y,h1,h2⟩:=hl.get _ _ he
  refine ⟨y,?_,h2⟩
  have h3 : cs[off]? = some y:=by simpa using h1
  simp only [part,Sem.run_bind,J6k ht,hd,Result.andThen_ok,Bool.false_eq_true,if_false,h3,Sem.run_pure]
 ·simp only [G0j,Option.some.injEq] at he; subst he
  refine ⟨.agg (cs.extract off (off + i.size)),?_,?_⟩
  ·simp only [part,Sem.run_bind,J6k ht,hd,Result.andThen_ok,if_true,J0w hi,Sem.run_pure]
  ·simp only [VR]
   refine ⟨_,rfl,?_⟩
   have : (cs.extract off (off + i.size)).toList = (cs.toList.drop off).take i.size:=by simp [List.extract_eq_take_drop]
   rw [this]
   exact (hl.drop off).take _
theorem G7w {t : TypeId} {fields : Array Field} {f : Field} {k : Nat} {d : TypeDesc} {i : TypeInfo} (ht : P.underlying t = some (.struct fields)) (hf : fields[k]? = some f) (hd : P.underlying f.type = some d) (hi : P.info? f.type = some i)
  {m : Option Nat} (hm : m = J9v d i.size)
  {x v : V} {a : Value} (hx : VR μ x a) (he : flV f.offset m x = some v) : ∃ z,(Instr.field t a k).run P w = .ok z w ∧ VR μ v z:=by
 cases x <;> simp only [flV] at he <;> try (cases he; done)
 simp only [VR] at hx
 obtain ⟨cs,rfl,hx⟩:=hx
 obtain ⟨z,h1,h2⟩:=U2v (w:=w) hd hi hm hx he
 exact ⟨z,by simp [Instr.field,run_underlying ht,hf,asAgg,h1],h2⟩
theorem U1z {t e : TypeId} {i : TypeInfo} (ht : P.underlying t = some (.slice e)) (hi : P.info? e = some i) {x y v : V} {a b : Value} (hx : VR μ x a) (hy : VR μ y b)
  (he : iaV none i.size x y = some v) : ∃ z,(Instr.indexAt t a b).run P w = .ok z w ∧ VR μ v z:=by
 cases y <;> simp only [iaV] at he <;> try (cases he; done)
 rename_i k n
 cases n <;> simp only at he <;> try (cases he; done)
 rename_i n
 cases x <;> simp only at he <;> try (cases he; done)
 rename_i p o len cap ex
 rw [VR.i_iff] at hy; subst hy
 simp only [VR] at hx
 obtain ⟨g,q,c,hm,rfl,_⟩:=hx
 cases hlt : Nat.ble (n + 1) len <;> rw [hlt] at he
 ·cases he
 simp only [Option.some.injEq] at he; subst he
 have hlt' : n < len:=Nat.le_of_ble_eq_true hlt
 refine ⟨.pointer (some ⟨g,q + (o + n * i.size),none⟩),?_,by simp only [VR]; exact ⟨g,q,hm,rfl⟩⟩
 have h0 : (0 : Int) ≤ Int.ofNat n ∧ Int.ofNat n < (len : Int):=⟨Int.natCast_nonneg n,by exact Int.ofNat_lt.2 hlt'⟩
 simp only [Instr.indexAt,asIntOf,Sem.run_bind,Sem.run_pure,Result.andThen_ok,run_underlying ht,if_pos h0,J0w hi,J0x,Nat.add_assoc]
 rfl
theorem U2a {t e : TypeId} {len : Nat} {i : TypeInfo} (ht : P.underlying t = some (.array len e)) (hi : P.info? e = some i) {x y v : V} {a b : Value} (hx : VR μ x a) (hy : VR μ y b)
  (he : iaV (some len) i.size x y = some v) : ∃ z,(Instr.indexAt t a b).run P w = .ok z w ∧ VR μ v z:=by
 cases y <;> simp only [iaV] at he <;> try (cases he; done)
 rename_i k n
 cases n <;> simp only at he <;> try (cases he; done)
 rename_i n
 cases x <;> simp only at he <;> try (cases he; done)
 rename_i p o
 rw [VR.i_iff] at hy; subst hy
 simp only [VR] at hx
 obtain ⟨g,q,hm,rfl⟩:=hx
 cases hlt : Nat.ble (n + 1) len <;> rw [hlt] at he
 ·cases he
 simp only [Option.some.injEq] at he; subst he
 have hlt' : n < len:=Nat.le_of_ble_eq_true hlt
 refine ⟨.pointer (some ⟨g,q + (o + n * i.size),none⟩),?_,by simp only [VR]; exact ⟨g,q,hm,rfl⟩⟩
 have h0 : (0 : Int) ≤ Int.ofNat n ∧ Int.ofNat n < (len : Int):=⟨Int.natCast_nonneg n,by exact Int.ofNat_lt.2 hlt'⟩
 simp only [Instr.indexAt,asIntOf,Instr.sureAddr,Sem.run_bind,Sem.run_pure,Result.andThen_ok,run_underlying ht,if_pos h0,J0w hi,J0x,Nat.add_assoc]
 rfl
theorem U1y {t e : TypeId} {len : Nat} {d : TypeDesc} {i : TypeInfo} (ht : P.underlying t = some (.array len e)) (hd : P.underlying e = some d) (hi : P.info? e = some i)
  {m : Option Nat} (hm : m = J9v d i.size) {x y v : V} {a b : Value} (hx : VR μ x a) (hy : VR μ y b)
  (he : ixV (some (len,i.size,m)) x y = some v) : ∃ z,(Instr.index t a b).run P w = .ok z w ∧ VR μ v z:=by
 cases y <;> simp only [ixV] at he <;> try (cases he; done)
 rename_i k n
 cases n <;> simp only at he <;> try (cases he; done)
 rename_i n
 cases x <;> simp only at he <;> try (cases he; done)
 rename_i l
 rw [VR.i_iff] at hy; subst hy
 simp only [VR] at hx
 obtain ⟨cs,rfl,hx⟩:=hx
 cases hlt : Nat.ble (n + 1) len <;> rw [hlt] at he
 ·cases he
 simp only at he
 have hlt' : n < len:=Nat.le_of_ble_eq_true hlt
 obtain ⟨z,h1,h2⟩:=U2v (w:=w) hd hi hm hx he
 refine ⟨z,?_,h2⟩
 have h0 : (0 : Int) ≤ Int.ofNat n ∧ Int.ofNat n < (len : Int):=⟨Int.natCast_nonneg n,by exact Int.ofNat_lt.2 hlt'⟩
 simp only [Instr.index,asIntOf,Sem.run_bind,Sem.run_pure,Result.andThen_ok,run_underlying ht,if_pos h0,J0w hi]
 exact h1
theorem U0i {t : TypeId} (ht : P.underlying t = some .string) {x y v : V} {a b : Value} (hx : VR μ x a) (hy : VR μ y b)
  (he : ixV none x y = some v) : ∃ z,(Instr.index t a b).run P w = .ok z w ∧ VR μ v z:=by
 cases y <;> simp only [ixV] at he <;> try (cases he; done)
 rename_i k n
 cases n <;> simp only at he <;> try (cases he; done)
 rename_i n
 cases x <;> simp only at he <;> try (cases he; done)
 rename_i l
 rw [VR.i_iff] at hy; subst hy
 simp only [VR] at hx
 obtain ⟨s,rfl,rfl⟩:=hx
 cases hb : (bytesOf s)[n]? <;> rw [hb] at he
 ·cases he
 rename_i c
 simp only [Option.some.injEq] at he; subst he
 unfold bytesOf at hb
 rw [List.getElem?_map] at hb
 cases hs : s.data.toList[n]? <;> rw [hs] at hb
 ·cases hb
 rename_i u
 simp only [Option.map_some,Option.some.injEq] at hb; subst hb
 have hsn : s[n]? = some u:=by
  have h1 : s.data[n]? = some u:=by simpa using hs
  obtain ⟨hn,h2⟩:=Array.getElem?_eq_some_iff.1 h1
  have hn' : n < s.size:=hn
  rw [getElem?_pos s n hn']
  exact congrArg some h2
 refine ⟨.int .u8 u.toNat,?_,by rw [VR.i_iff]; rfl⟩
 have h0 : (0 : Int) ≤ Int.ofNat n:=Int.natCast_nonneg n
 have h1 : (Int.ofNat n).toNat = n:=rfl
 simp only [Instr.index,asIntOf,Sem.run_bind,Sem.run_pure,Result.andThen_ok,run_underlying ht,if_pos h0,h1,hsn]
end
end Go.X
namespace Go.X
open Go.RowKit
def bdV (x : V) (lim : Nat) : Option Nat :=
 match x with
 | .i _ n=>match n with
  | .ofNat n=>Bool.rec none (some n) (Nat.ble n lim)
  | _=>none
 | _=>none
def bdO (x : Option V) (lim dflt : Nat) : Option Nat :=
 match x with
 | none=>some dflt
 | some x=>bdV x lim
def slS (x : V) (lo hi : Option V) : Option V :=
 match x with
 | .s l=>match bdO hi l.length l.length with
  | some b=>match bdO lo b 0 with
   | some a=>some (.s ((l.drop a).take (b - a)))
   | none=>none
  | none=>none
 | _=>none
def slA (n size : Nat) (x : V) (lo hi mx : Option V) : Option V :=
 match x with
 | .p b o=>match bdO mx n n with
  | some m=>match bdO hi m n with
   | some k=>match bdO lo k 0 with
    | some l=>some (.sl b (Bool.rec (o + l * size) o (Nat.beq m l)) (k - l) (m - l) true)
    | none=>none
   | none=>none
  | none=>none
 | _=>none
def slL (size : Nat) (h : H) (x : V) (lo hi mx : Option V) : Option (V × H) :=
 match x with
 | .sl b o len cap ex=>Bool.rec
   (match mx with
    | some mx=>match bdV mx len with
     | some m=>match bdO hi m len with
      | some k=>match bdO lo k 0 with
       | some l=>some (.sl b (Bool.rec (o + l * size) o (Nat.beq m l)) (k - l) (m - l) true,h)
       | none=>none
      | none=>none
     | none=>none
    | none=>match bdO hi len len with
     | some k=>match bdO lo k 0 with
      | some l=>Bool.rec
        (Bool.rec (Bool.rec none (some (.se,h)) (Nat.beq l k)) (some (.sl b (o + l * size) (k - l) cap false,h)) (Nat.ble (l + 1) len && Nat.beq size cap))
        (some (.sl b o k cap false,h)) (Nat.beq l 0)
      | none=>none
     | none=>none)
   (match bdO mx cap cap with
    | some m=>match bdO hi m len with
     | some k=>match bdO lo k 0 with
      | some l=>some (.sl b (Bool.rec (o + l * size) o (Nat.beq m l)) (k - l) (m - l) true,h)
      | none=>none
     | none=>none
    | none=>none) ex
 | .se=>match mx with
  | some _=>none
  | none=>match bdO hi 0 0 with
   | some _=>match bdO lo 0 0 with
    | some _=>some (.se,h)
    | none=>none
   | none=>none
 | .sn=>match bdO mx 0 0 with
  | some _=>match bdO hi 0 0 with
   | some _=>match bdO lo 0 0 with
    | some _=>some (.sn,h)
    | none=>none
   | none=>none
  | none=>none
 | _=>none
section
variable {P : Program} {B : Bs} {μ : M} {h : H} {w : World}
theorem G8p {x : V} {a : Value} {lim n : Nat} (hx : VR μ x a) (he : bdV x lim = some n) (c : BoundsCode) : (Instr.sliceBound a lim c).run P w = .ok n w ∧ n ≤ lim:=by
 cases x <;> simp only [bdV] at he <;> try (cases he; done)
 rename_i k m
 cases m <;> simp only at he <;> try (cases he; done)
 rename_i m
 cases hl : Nat.ble m lim <;> rw [hl] at he
 ·cases he
 simp only [Option.some.injEq] at he; subst he
 rw [VR.i_iff] at hx; subst hx
 have h1 : m ≤ lim:=Nat.le_of_ble_eq_true hl
 have h0 : (0 : Int) ≤ Int.ofNat m ∧ Int.ofNat m ≤ (lim : Int):=⟨Int.natCast_nonneg m,Int.ofNat_le.2 h1⟩
 refine ⟨?_,h1⟩
 simp only [Instr.sliceBound,asIntOf,Sem.run_bind,Sem.run_pure,Result.andThen_ok,if_pos h0]
 rfl
def VRo (μ : M) : Option V → Option Value → Prop
 | none,none=>True
 | some x,some a=>VR μ x a
 | _,_=>False
theorem J2k {x : Option V} {a : Option Value} {lim dflt n : Nat} (hx : VRo μ x a) (he : bdO x lim dflt = some n) (c : BoundsCode) :
  (a = none ∧ x = none ∧ n = dflt) ∨ ∃ y z,a = some y ∧ x = some z ∧ (Instr.sliceBound y lim c).run P w = .ok n w ∧ n ≤ lim:=by
 cases x with
 | none =>
  cases a with
  | none=>simp only [bdO,Option.some.injEq] at he; exact .inl ⟨rfl,rfl,he.symm⟩
  | some y=>exact hx.elim
 | some z =>
  cases a with
  | none=>exact hx.elim
  | some y =>
   obtain ⟨h1,h2⟩:=G8p (P:=P) (w:=w) (a:=y) hx he c
   exact .inr ⟨y,z,rfl,rfl,h1,h2⟩
theorem J3c (isSlice : Bool) {len cap m k l : Nat} {lo hi mx : Option V} {alo ahi amx : Option Value} (h1 : VRo μ lo alo) (h2 : VRo μ hi ahi) (h3 : VRo μ mx amx)
  (e1 : bdO mx cap cap = some m) (e2 : bdO hi m len = some k) (e3 : bdO lo k 0 = some l) (hlc : len ≤ cap) (hmx : mx.isSome = true → hi.isSome = true) :
  (Instr.sliceBounds isSlice len cap alo ahi amx).run P w = .ok (l,k,m) w ∧ l ≤ k ∧ k ≤ m ∧ m ≤ cap:=by
 have hlo : ∀ c : BoundsCode,(match alo with | some v=>Instr.sliceBound v k c | none=>pure 0).run P w = .ok l w ∧ l ≤ k:=by
  intro c
  rcases J2k (P:=P) (w:=w) h1 e3 c with ⟨r1,r2,r3⟩ | ⟨y,z,r1,r2,r3,r4⟩
  ·subst r1; subst r3; exact ⟨rfl,Nat.zero_le _⟩
  ·subst r1; exact ⟨r3,r4⟩
 rcases J2k (P:=P) (w:=w) h3 e1 (if isSlice then .slice3Acap else .slice3Alen) with ⟨r1,r2,r3⟩ | ⟨y,z,r1,r2,r3,r4⟩
 ·subst r1; subst r2; subst r3
  rcases J2k (P:=P) (w:=w) h2 e2 (if isSlice then .sliceAcap else .sliceAlen) with ⟨s1,s2,s3⟩ | ⟨y2,z2,s1,s2,s3,s4⟩
  ·subst s1; subst s2; subst s3
   obtain ⟨h5,h6⟩:=hlo .sliceB
   refine ⟨?_,h6,hlc,Nat.le_refl _⟩
   unfold Instr.sliceBounds
   simp only [Sem.run_bind,Sem.run_pure,Result.andThen_ok]
   cases alo with
   | none=>simp only [Sem.run_pure,Result.ok.injEq,and_true] at h5; subst h5; simp only [Sem.run_bind,Sem.run_pure,Result.andThen_ok]
   | some v=>simp only at h5; simp only [Option.isSome_none,Bool.false_eq_true,if_false,if_true,Sem.run_bind,h5,Result.andThen_ok,Sem.run_pure]
  ·subst s1; subst s2
   obtain ⟨h5,h6⟩:=hlo .sliceB
   refine ⟨?_,h6,s4,Nat.le_refl _⟩
   unfold Instr.sliceBounds
   simp only [Sem.run_bind,Sem.run_pure,Result.andThen_ok,s3]
   cases alo with
   | none=>simp only [Sem.run_pure,Result.ok.injEq,and_true] at h5; subst h5; simp only [Sem.run_bind,Sem.run_pure,Result.andThen_ok]
   | some v=>simp only at h5; simp only [Option.isSome_none,Bool.false_eq_true,if_false,if_true,Sem.run_bind,h5,Result.andThen_ok,Sem.run_pure]
 ·subst r1; subst r2
  rcases J2k (P:=P) (w:=w) h2 e2 .slice3B with ⟨s1,s2,s3⟩ | ⟨y2,z2,s1,s2,s3,s4⟩
  ·subst s2; simp at hmx
  ·subst s1; subst s2
   obtain ⟨h5,h6⟩:=hlo .slice3C
   refine ⟨?_,h6,s4,r4⟩
   unfold Instr.sliceBounds
   simp only [Sem.run_bind,Sem.run_pure,Result.andThen_ok,r3,s3]
   cases alo with
   | none=>simp only [Sem.run_pure,Result.ok.injEq,and_true] at h5; subst h5; simp only [Sem.run_bind,Sem.run_pure,Result.andThen_ok]
   | some v=>simp only at h5; simp only [Option.isSome_some,Bool.false_eq_true,if_true,Sem.run_bind,h5,Result.andThen_ok,Sem.run_pure]
theorem W7b {t : TypeId} (ht : P.underlying t = some .string) {x v : V} {a : Value} {lo hi : Option V} {alo ahi : Option Value} (hx : VR μ x a) (h1 : VRo μ lo alo) (h2 : VRo μ hi ahi)
  (he : slS x lo hi = some v) : ∃ z,(Instr.sliceAt t a alo ahi none).run P w = .ok z w ∧ VR μ v z:=by
 cases x <;> simp only [slS] at he <;> try (cases he; done)
 rename_i l
 cases hb : bdO hi l.length l.length <;> rw [hb] at he <;> simp only at he
 ·cases he
 rename_i b
 cases ha : bdO lo b 0 <;> rw [ha] at he <;> simp only at he
 ·cases he
 rename_i a0
 simp only [Option.some.injEq] at he; subst he
 simp only [VR] at hx
 obtain ⟨s,rfl,rfl⟩:=hx
 rw [J0s] at hb
 obtain ⟨h3,h4,h5,h6⟩:=J3c (P:=P) (w:=w) (mx:=none) (amx:=none) (cap:=s.size) (m:=s.size) false h1 h2 trivial rfl hb ha (Nat.le_refl _) (by simp)
 refine ⟨.string (s.extract a0 b),?_,?_⟩
 ·unfold Instr.sliceAt
  simp [run_underlying ht,Instr.slice,h3]
 ·simp only [VR]
  refine ⟨_,rfl,?_⟩
  unfold bytesOf
  rw [← List.map_drop,← List.map_take]
  congr 1
  simp [ByteArray.data_extract,List.extract_eq_take_drop,List.drop_take]
theorem W7f {t e : TypeId} {n : Nat} {i : TypeInfo} (ht : P.underlying t = some (.array n e)) (hi' : P.info? e = some i) {x v : V} {a : Value} {lo hi mx : Option V} {alo ahi amx : Option Value} (hx : VR μ x a) (h1 : VRo μ lo alo) (h2 : VRo μ hi ahi) (h3 : VRo μ mx amx)
  (hmx : mx.isSome = true → hi.isSome = true) (he : slA n i.size x lo hi mx = some v) : ∃ z,(Instr.sliceAt t a alo ahi amx).run P w = .ok z w ∧ VR μ v z:=by
 cases x <;> simp only [slA] at he <;> try (cases he; done)
 rename_i p o
 cases hm : bdO mx n n <;> rw [hm] at he <;> simp only at he
 ·cases he
 rename_i m
 cases hk : bdO hi m n <;> rw [hk] at he <;> simp only at he
 ·cases he
 rename_i k
 cases hl : bdO lo k 0 <;> rw [hl] at he <;> simp only at he
 ·cases he
 rename_i l
 simp only [Option.some.injEq] at he; subst he
 simp only [VR] at hx
 obtain ⟨g,q,hm',rfl⟩:=hx
 obtain ⟨h4,h5,h6,h7⟩:=J3c (P:=P) (w:=w) false h1 h2 h3 hm hk hl (Nat.le_refl _) hmx
 refine ⟨.slice (some (if m = l then ⟨g,q + o,none⟩ else (⟨g,q + o,none⟩ : Addr).add (l * i.size))) (k - l) (m - l),?_,?_⟩
 ·unfold Instr.sliceAt
  simp [run_underlying ht,Instr.sureAddr,h4,J0w hi']
 ·simp only [VR]
  refine ⟨g,q,m - l,hm',?_,by omega,fun _=>rfl,by simp⟩
  by_cases e : m = l
  ·subst e; simp [Nat.beq_refl]
  ·have : Nat.beq m l = false:=by cases hb : Nat.beq m l with | false=>rfl | true=>exact absurd (Nat.eq_of_beq_eq_true hb) e
   simp [e,this,J0x,Nat.add_assoc]
theorem W7d (r : HR B μ h w) {t e : TypeId} {i : TypeInfo} (ht : P.underlying t = some (.slice e)) (hi' : P.info? e = some i) {x v : V} {h' : H} {a : Value} {lo hi mx : Option V} {alo ahi amx : Option Value} (hx : VR μ x a) (h1 : VRo μ lo alo) (h2 : VRo μ hi ahi) (h3 : VRo μ mx amx)
  (hmx : mx.isSome = true → hi.isSome = true) (he : slL i.size h x lo hi mx = some (v,h')) : Runs P B μ h w (Instr.sliceAt t a alo ahi amx) v h':=by
 have hrun : ∀ (ao : Option Addr) (len cap : Nat) {l k m : Nat},(Instr.sliceBounds true len cap alo ahi amx).run P w = .ok (l,k,m) w →
   (Instr.sliceAt t (.slice ao len cap) alo ahi amx).run P w = .ok (.slice (if m = l then ao else ao.map (·.add (l * i.size))) (k - l) (m - l)) w:=by
  intro ao len cap l k m hb
  unfold Instr.sliceAt
  simp [run_underlying ht,Instr.slice,hb,J0w hi']
 cases x <;> simp only [slL] at he <;> try (cases he; done)
 ·rename_i p o len cap ex
  simp only [VR] at hx
  obtain ⟨g,q,c,hm',rfl,hlc,hex,hnex⟩:=hx
  cases ex
  ·simp only at he
   cases mx with
   | none =>
    simp only at he
    cases hk : bdO hi len len <;> rw [hk] at he <;> simp only at he
    ·cases he
    rename_i k
    cases hl : bdO lo k 0 <;> rw [hl] at he <;> simp only at he
    ·cases he
    rename_i l
    have hk' : bdO hi c len = some k:=by
     cases hi with
     | none=>exact hk
     | some y =>
      simp only [bdO] at hk ⊢
      cases y <;> simp only [bdV] at hk ⊢ <;> try (cases hk; done)
      rename_i kk n
      cases n <;> simp only at hk ⊢ <;> try (cases hk; done)
      rename_i n
      cases hn : Nat.ble n len <;> rw [hn] at hk
      ·cases hk
      have : Nat.ble n c = true:=Nat.ble_eq_true_of_le (Nat.le_trans (Nat.le_of_ble_eq_true hn) hlc)
      rw [this]; exact hk
    have hkl : k ≤ len:=by
     rcases J2k (P:=P) (w:=w) h2 hk .slice3B with ⟨_,_,s3⟩ | ⟨_,_,_,_,_,s4⟩
     ·omega
     ·exact s4
    obtain ⟨h4,h5,h6,_⟩:=J3c (P:=P) (w:=w) (mx:=none) (amx:=amx) (cap:=c) (m:=c) true h1 h2 h3 rfl hk' hl hlc (by simp)
    have hr:=hrun (some ⟨g,q + o,none⟩) len c h4
    cases h0 : Nat.beq l 0 <;> rw [h0] at he <;> simp only at he
    ·cases h8 : (Nat.ble (l + 1) len && Nat.beq i.size cap) <;> rw [h8] at he <;> simp only at he
     ·cases h9 : Nat.beq l k <;> rw [h9] at he
      ·cases he
      have:=Nat.eq_of_beq_eq_true h9; subst this
      simp only [Option.some.injEq,Prod.mk.injEq] at he
      obtain ⟨rfl,rfl⟩:=he
      refine Runs.same r hr ?_
      simp only [VR]
      by_cases e' : c = l
      ·exact ⟨g,q + o,c - l,by simp [e']⟩
      ·exact ⟨g,q + o + l * i.size,c - l,by simp [e',J0x]⟩
     ·simp only [Option.some.injEq,Prod.mk.injEq] at he
      obtain ⟨rfl,rfl⟩:=he
      simp only [Bool.and_eq_true] at h8
      have h9 : l + 1 ≤ len:=Nat.le_of_ble_eq_true h8.1
      have h10:=Nat.eq_of_beq_eq_true h8.2
      refine Runs.same r hr ?_
      simp only [VR]
      refine ⟨g,q,c - l,hm',?_,by omega,by simp,fun _=>?_⟩
      ·have : ¬ (c = l):=by omega
       simp [this,J0x,Nat.add_assoc]
      ·have:=hnex rfl
       rw [h10]
       have h11 : l * cap + (c - l) * cap = c * cap:=by rw [← Nat.add_mul]; congr 1; omega
       omega
    ·simp only [Option.some.injEq,Prod.mk.injEq] at he
     obtain ⟨rfl,rfl⟩:=he
     have:=Nat.eq_of_beq_eq_true h0; subst this
     refine Runs.same r hr ?_
     simp only [VR]
     refine ⟨g,q,c,hm',?_,by omega,by simp,fun _=>hnex rfl⟩
     by_cases e' : c = 0
     ·simp [e']
     ·simp [e',J0x]
   | some y =>
    simp only at he
    cases hm : bdV y len <;> rw [hm] at he <;> simp only at he
    ·cases he
    rename_i m
    cases hk : bdO hi m len <;> rw [hk] at he <;> simp only at he
    ·cases he
    rename_i k
    cases hl : bdO lo k 0 <;> rw [hl] at he <;> simp only at he
    ·cases he
    rename_i l
    simp only [Option.some.injEq,Prod.mk.injEq] at he
    obtain ⟨rfl,rfl⟩:=he
    have hm2 : bdO (some y) c c = some m:=by
     simp only [bdO]
     cases y <;> simp only [bdV] at hm ⊢ <;> try (cases hm; done)
     rename_i kk n
     cases n <;> simp only at hm ⊢ <;> try (cases hm; done)
     rename_i n
     cases hn : Nat.ble n len <;> rw [hn] at hm
     ·cases hm
     have : Nat.ble n c = true:=Nat.ble_eq_true_of_le (Nat.le_trans (Nat.le_of_ble_eq_true hn) hlc)
     rw [this]; exact hm
    obtain ⟨h4,h5,h6,_⟩:=J3c (P:=P) (w:=w) true h1 h2 h3 hm2 hk hl hlc hmx
    refine Runs.same r (hrun (some ⟨g,q + o,none⟩) len c h4) ?_
    simp only [VR]
    refine ⟨g,q,m - l,hm',?_,by omega,fun _=>rfl,by simp⟩
    by_cases e' : m = l
    ·subst e'; simp [Nat.beq_refl]
    ·have : Nat.beq m l = false:=by cases hb : Nat.beq m l with | false=>rfl | true=>exact absurd (Nat.eq_of_beq_eq_true hb) e'
     simp [e',this,J0x,Nat.add_assoc]
  ·simp only at he
   have:=hex rfl; subst this
   cases hm : bdO mx c c <;> rw [hm] at he <;> simp only at he
   ·cases he
   rename_i m
   cases hk : bdO hi m len <;> rw [hk] at he <;> simp only at he
   ·cases he
   rename_i k
   cases hl : bdO lo k 0 <;> rw [hl] at he <;> simp only at he
   ·cases he
   rename_i l
   simp only [Option.some.injEq,Prod.mk.injEq] at he
   obtain ⟨rfl,rfl⟩:=he
   obtain ⟨h4,h5,h6,_⟩:=J3c (P:=P) (w:=w) true h1 h2 h3 hm hk hl hlc hmx
   refine Runs.same r (hrun (some ⟨g,q + o,none⟩) len c h4) ?_
   simp only [VR]
   refine ⟨g,q,m - l,hm',?_,by omega,fun _=>rfl,by simp⟩
   by_cases e' : m = l
   ·subst e'; simp [Nat.beq_refl]
   ·have : Nat.beq m l = false:=by cases hb : Nat.beq m l with | false=>rfl | true=>exact absurd (Nat.eq_of_beq_eq_true hb) e'
    simp [e',this,J0x,Nat.add_assoc]
 ·cases mx with
  | some y=>cases he
  | none =>
   simp only at he
   cases hk : bdO hi 0 0 <;> rw [hk] at he <;> simp only at he
   ·cases he
   rename_i k
   cases hl : bdO lo 0 0 <;> rw [hl] at he <;> simp only at he
   ·cases he
   rename_i l
   simp only [Option.some.injEq,Prod.mk.injEq] at he
   obtain ⟨rfl,rfl⟩:=he
   simp only [VR] at hx
   obtain ⟨g,q,c,rfl⟩:=hx
   have hk0 : k = 0:=by
    rcases J2k (P:=P) (w:=w) h2 hk .slice3B with ⟨_,_,s3⟩ | ⟨_,_,_,_,_,s4⟩ <;> omega
   subst hk0
   have hl0 : l = 0:=by
    rcases J2k (P:=P) (w:=w) h1 hl .slice3B with ⟨_,_,s3⟩ | ⟨_,_,_,_,_,s4⟩ <;> omega
   subst hl0
   have hk' : bdO hi c 0 = some 0:=by
    cases hi with
    | none=>exact hk
    | some y =>
     simp only [bdO] at hk ⊢
     cases y <;> simp only [bdV] at hk ⊢ <;> try (cases hk; done)
     rename_i kk n
     cases n <;> simp only at hk ⊢ <;> try (cases hk; done)
     rename_i n
     cases hn : Nat.ble n 0 <;> rw [hn] at hk
     ·cases hk
     have : Nat.ble n c = true:=Nat.ble_eq_true_of_le (Nat.le_trans (Nat.le_of_ble_eq_true hn) (Nat.zero_le c))
     rw [this]; exact hk
   obtain ⟨h4,_⟩:=J3c (P:=P) (w:=w) (mx:=none) (amx:=amx) (cap:=c) (m:=c) true h1 h2 h3 rfl hk' hl (Nat.zero_le _) (by simp)
   refine Runs.same r (hrun (some ⟨g,q,none⟩) 0 c h4) ?_
   simp only [VR]
   by_cases e' : c = 0
   ·exact ⟨g,q,0,by simp [e']⟩
   ·exact ⟨g,q,c,by simp [e',J0x]⟩
 ·simp only [VR] at hx; subst hx
  cases hm : bdO mx 0 0 <;> rw [hm] at he <;> simp only at he
  ·cases he
  rename_i m
  cases hk : bdO hi 0 0 <;> rw [hk] at he <;> simp only at he
  ·cases he
  rename_i k
  cases hl : bdO lo 0 0 <;> rw [hl] at he <;> simp only at he
  ·cases he
  rename_i l
  simp only [Option.some.injEq,Prod.mk.injEq] at he
  obtain ⟨rfl,rfl⟩:=he
  have hm0 : m = 0:=by
   rcases J2k (P:=P) (w:=w) h3 hm .slice3B with ⟨_,_,s3⟩ | ⟨_,_,_,_,_,s4⟩ <;> omega
  subst hm0
  have hk0 : k = 0:=by
   rcases J2k (P:=P) (w:=w) h2 hk .slice3B with ⟨_,_,s3⟩ | ⟨_,_,_,_,_,s4⟩ <;> omega
  subst hk0
  have hl0 : l = 0:=by
   rcases J2k (P:=P) (w:=w) h1 hl .slice3B with ⟨_,_,s3⟩ | ⟨_,_,_,_,_,s4⟩ <;> omega
  subst hl0
  obtain ⟨h4,_⟩:=J3c (P:=P) (w:=w) true h1 h2 h3 hm hk hl (Nat.le_refl _) hmx
  exact Runs.same r (hrun none 0 0 h4) (by simp only [VR]; simp)
end
end Go.X
end
