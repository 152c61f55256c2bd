/- An abstract machine for programs of this kind: values, heaps, and how they stand for the model's. -/
import Derived.WalkKit
set_option linter.all false
set_option maxRecDepth 100000
noncomputable section
namespace Go.X
inductive D where
 | d0 | d1 | d2 | d3 | d4 | d5 | d6 | d7 | d8 | d9 | d10 | d11 | d12 | d13 | d14 | d15
namespace D
def num : D → Nat
 | .d0=>0
 | .d1=>1
 | .d2=>2
 | .d3=>3
 | .d4=>4
 | .d5=>5
 | .d6=>6
 | .d7=>7
 | .d8=>8
 | .d9=>9
 | .d10=>10
 | .d11=>11
 | .d12=>12
 | .d13=>13
 | .d14=>14
 | .d15=>15
def ofR (r : Nat) : D:=(Bool.rec (Bool.rec (Bool.rec (Bool.rec .d15 .d14 (Nat.ble r 14)) (Bool.rec .d13 .d12 (Nat.ble r 12)) (Nat.ble r 13)) (Bool.rec (Bool.rec .d11 .d10 (Nat.ble r 10)) (Bool.rec .d9 .d8 (Nat.ble r 8)) (Nat.ble r 9)) (Nat.ble r 11)) (Bool.rec (Bool.rec (Bool.rec .d7 .d6 (Nat.ble r 6)) (Bool.rec .d5 .d4 (Nat.ble r 4)) (Nat.ble r 5)) (Bool.rec (Bool.rec .d3 .d2 (Nat.ble r 2)) (Bool.rec .d1 .d0 (Nat.ble r 0)) (Nat.ble r 1)) (Nat.ble r 3)) (Nat.ble r 7))
def of (n : Nat) : D:=ofR (Nat.mod n 16)
theorem ofR_num : ∀ r,r < 16 → num (ofR r) = r
 | 0,_=>rfl
 | 1,_=>rfl
 | 2,_=>rfl
 | 3,_=>rfl
 | 4,_=>rfl
 | 5,_=>rfl
 | 6,_=>rfl
 | 7,_=>rfl
 | 8,_=>rfl
 | 9,_=>rfl
 | 10,_=>rfl
 | 11,_=>rfl
 | 12,_=>rfl
 | 13,_=>rfl
 | 14,_=>rfl
 | 15,_=>rfl
 | r + 16,h=>by omega
theorem of_num (n : Nat) : num (of n) = n % 16:=ofR_num _ (Nat.mod_lt _ (by decide))
theorem of_inj {m n : Nat} (h : of m = of n) : m % 16 = n % 16:=by rw [← of_num,← of_num,h]
end D
end Go.X
namespace Go.X
open Go.RowKit
inductive V where
 | q (b j : Nat) (k : IntKind) (lo hi : Int)
 | z (m n : Nat)
 | u
 | f (k : FloatKind) (bits : Nat)
 | fn (f : Fn) (a c : List V)
 | fnil
 | yl (b : Nat)
 | ifc (t : Nat) (v : V)
 | inil
 | tu (l : List V)
 | b (x : Bool)
 | s (l : List Nat)
 | ag (l : List V)
 | p (b : Nat) (o : Nat)
 | pn
 | sl (b : Nat) (o len cap : Nat) (ex : Bool)
 | se
 | sn
 | m (r : Nat)
 | mn
 | i (k : IntKind) (n : Int)
structure M where
 f : Nat → Option (Nat × Nat)
 cap : Nat → Nat
instance : CoeFun M (fun _=>Nat → Option (Nat × Nat)):=⟨M.f⟩
def M.le (μ μ' : M) : Prop:=∀ b x,μ b = some x → μ' b = some x ∧ μ'.cap b = μ.cap b
theorem M.le_refl (μ : M) : M.le μ μ:=fun _ _ h=>⟨h,rfl⟩
theorem M.le_trans {a b c : M} (h : M.le a b) (k : M.le b c) : M.le a c:=fun _ _ e=>⟨(k _ _ (h _ _ e).1).1,(k _ _ (h _ _ e).1).2.trans (h _ _ e).2⟩
def dg : Nat → Nat → Nat
 | q,0=>q % 65536
 | q,j + 1=>dg (q / 65536) j
theorem Q7t : ∀ (j q : Nat),dg q j < 65536
 | 0,q=>by show q % 65536 < 65536; omega
 | j + 1,q=>Q7t j (q / 65536)
def SV (q j : Nat) : Int:=if j = 0 then (dg q 0 : Int) else if j = 1 then (dg q 1 : Int) else (dg q 0 : Int) - ((dg q j % 89 : Nat) : Int)
def QT (μ : M) (b j : Nat) (t : Int) : Prop:=(b = 0 → t = 0) ∧ (b ≠ 0 → ∃ g q,μ (b - 1) = some (g,q) ∧ t = SV q j)
theorem QT.mono {μ μ' : M} (h : M.le μ μ') {b j : Nat} {t : Int} (k : QT μ b j t) : QT μ' b j t :=
 ⟨k.1,fun e=>by obtain ⟨g,q,h1,h2⟩:=k.2 e; exact ⟨g,q,(h _ _ h1).1,h2⟩⟩
theorem QT.zero {μ : M} {j : Nat} : QT μ 0 j 0:=⟨fun _=>rfl,fun h=>absurd rfl h⟩
theorem QT.eq {μ : M} {b j : Nat} {t t' : Int} (h : QT μ b j t) (k : QT μ b j t') : t = t':=by
 by_cases e : b = 0
 ·rw [h.1 e,k.1 e]
 ·obtain ⟨g,q,h1,h2⟩:=h.2 e
  obtain ⟨g',q',h3,h4⟩:=k.2 e
  rw [h1] at h3; cases h3
  rw [h2,h4]
theorem SV_le (q j : Nat) : -88 ≤ SV q j ∧ SV q j ≤ 65535:=by
 have h1:=Q7t 0 q
 have h2:=Q7t 1 q
 unfold SV
 split
 ·omega
 ·split
  ·omega
  ·omega
theorem QT.le {μ : M} {b j : Nat} {t : Int} (h : QT μ b j t) : -88 ≤ t ∧ t ≤ 65535:=by
 by_cases e : b = 0
 ·have:=h.1 e; omega
 ·obtain ⟨g,q,h1,rfl⟩:=h.2 e
  exact SV_le q j
theorem QT.dif {μ : M} {b j : Nat} {t t' : Int} (hj : 2 ≤ j) (h : QT μ b 0 t) (k : QT μ b j t') : 0 ≤ t - t' ∧ t - t' ≤ 88:=by
 by_cases e : b = 0
 ·rw [h.1 e,k.1 e]; omega
 ·obtain ⟨g,q,h1,h2⟩:=h.2 e
  obtain ⟨g',q',h3,h4⟩:=k.2 e
  rw [h1] at h3; cases h3
  have e1 : SV q 0 = (dg q 0 : Int):=rfl
  have e2 : SV q j = (dg q 0 : Int) - ((dg q j % 89 : Nat) : Int):=by
   unfold SV; rw [if_neg (by omega),if_neg (by omega)]
  rw [h2,h4,e1,e2]
  omega
def bytesOf (s : ByteArray) : List Nat:=s.data.toList.map (·.toNat)
mutual
def VR (μ : M) : V → Value → Prop
 | .q b j k lo hi,v=>∃ n : Int,v = .int k n ∧ ∃ t : Int,QT μ b j t ∧ lo ≤ n - t ∧ n - t ≤ hi
 | .z m n,v=>(m = 0 ∧ ∃ x : Int,v = .int .i64 x ∧ x % ((n / 1024 : Nat) : Int) = ((n % 1024 : Nat) : Int)) ∨ (m ≠ 0 ∧ v = .int .u64 (Int.ofNat (n % m)))
 | .u,_=>True
 | .b x,v=>v = .bool x
 | .i k n,v=>v = .int k n
 | .f k n,v=>v = .float k n
 | .s l,v=>∃ s,v = .string s ∧ bytesOf s = l
 | .p b o,v=>∃ g q,μ b = some (g,q) ∧ v = .pointer (some ⟨g,q + o,none⟩)
 | .pn,v=>v = .pointer none
 | .sl b o len cap ex,v=>∃ g q c,μ b = some (g,q) ∧ v = .slice (some ⟨g,q + o,none⟩) len c ∧ len ≤ c ∧ (ex = true → c = cap) ∧ (ex = false → o + c * cap ≤ μ.cap b)
 | .se,v=>∃ g q c,v = .slice (some ⟨g,q,none⟩) 0 c
 | .sn,v=>v = .slice none 0 0
 | .m r,v=>∃ g q,μ r = some (g,q) ∧ v = .map (some g)
 | .mn,v=>v = .map none
 | .fn f a c,v=>∃ xs ys,v = .func f xs ys ∧ VRs μ a xs.toList ∧ VRs μ c ys.toList
 | .fnil,v=>v = .nilFunc
 | .yl b,v=>∃ g q,μ b = some (g,q) ∧ v = .func (.yield g) #[] #[]
 | .ifc t x,v=>∃ y,v = .iface t y ∧ VR μ x y
 | .inil,v=>v = .nilIface
 | .ag l,v=>∃ cs,v = .agg cs ∧ VRs μ l cs.toList
 | .tu l,v=>∃ cs,v = .tuple cs ∧ VRs μ l cs.toList
def VRs (μ : M) : List V → List Value → Prop
 | [],l=>l = []
 | x::xs,l=>∃ y ys,l = y::ys ∧ VR μ x y ∧ VRs μ xs ys
end
mutual
theorem VR.mono {μ μ' : M} (h : M.le μ μ') : ∀ (x : V) (y : Value),VR μ x y → VR μ' x y
 | .q _ _ _ _ _,_,e=>by simp only [VR] at e ⊢; obtain ⟨n,e1,t,e2,e3⟩:=e; exact ⟨n,e1,t,e2.mono h,e3⟩
 | .z _ _,_,e=>by simp only [VR] at e ⊢; exact e
 | .u,_,_=>by simp only [VR]
 | .b _,_,e=>by simp only [VR] at e ⊢; exact e
 | .i _ _,_,e=>by simp only [VR] at e ⊢; exact e
 | .f _ _,_,e=>by simp only [VR] at e ⊢; exact e
 | .s _,_,e=>by simp only [VR] at e ⊢; exact e
 | .p _ _,_,e=>by simp only [VR] at e ⊢; obtain ⟨g,q,e1,e2⟩:=e; exact ⟨g,q,(h _ _ e1).1,e2⟩
 | .pn,_,e=>by simp only [VR] at e ⊢; exact e
 | .sl _ _ _ _ _,_,e=>by simp only [VR] at e ⊢; obtain ⟨g,q,c,e1,e2,e3,e4,e5⟩:=e; exact ⟨g,q,c,(h _ _ e1).1,e2,e3,e4,fun k=>by rw [(h _ _ e1).2]; exact e5 k⟩
 | .se,_,e=>by simp only [VR] at e ⊢; exact e
 | .sn,_,e=>by simp only [VR] at e ⊢; exact e
 | .m _,_,e=>by simp only [VR] at e ⊢; obtain ⟨g,q,e1,e2⟩:=e; exact ⟨g,q,(h _ _ e1).1,e2⟩
 | .mn,_,e=>by simp only [VR] at e ⊢; exact e
 | .fn _ a c,_,e=>by
  simp only [VR] at e ⊢; obtain ⟨xs,ys,e1,e2,e3⟩:=e
  exact ⟨xs,ys,e1,VRs.mono h a _ e2,VRs.mono h c _ e3⟩
 | .fnil,_,e=>by simp only [VR] at e ⊢; exact e
 | .yl _,_,e=>by simp only [VR] at e ⊢; obtain ⟨g,q,e1,e2⟩:=e; exact ⟨g,q,(h _ _ e1).1,e2⟩
 | .ifc _ x,_,e=>by simp only [VR] at e ⊢; obtain ⟨y,e1,e2⟩:=e; exact ⟨y,e1,VR.mono h x y e2⟩
 | .inil,_,e=>by simp only [VR] at e ⊢; exact e
 | .ag l,_,e=>by simp only [VR] at e ⊢; obtain ⟨cs,e1,e2⟩:=e; exact ⟨cs,e1,VRs.mono h l _ e2⟩
 | .tu l,_,e=>by simp only [VR] at e ⊢; obtain ⟨cs,e1,e2⟩:=e; exact ⟨cs,e1,VRs.mono h l _ e2⟩
theorem VRs.mono {μ μ' : M} (h : M.le μ μ') : ∀ (x : List V) (y : List Value),VRs μ x y → VRs μ' x y
 | [],_,e=>by simp only [VRs] at e ⊢; exact e
 | x::xs,_,e=>by
  simp only [VRs] at e ⊢; obtain ⟨y,ys,e1,e2,e3⟩:=e
  exact ⟨y,ys,e1,VR.mono h x y e2,VRs.mono h xs ys e3⟩
end
section
variable {μ : M}
theorem VR.u (y : Value) : VR μ .u y:=by simp only [VR]
theorem VR.z_iff {m n : Nat} {v : Value} (hm : m ≠ 0) : VR μ (.z m n) v ↔ v = .int .u64 (Int.ofNat (n % m)):=by simp only [VR,hm,false_and,false_or,ne_eq,not_false_eq_true,true_and]
theorem VR.z0_iff {n : Nat} {v : Value} : VR μ (.z 0 n) v ↔ ∃ x : Int,v = .int .i64 x ∧ x % ((n / 1024 : Nat) : Int) = ((n % 1024 : Nat) : Int):=by simp [VR]
theorem VR.q_iff {b j : Nat} {k : IntKind} {lo hi : Int} {v : Value} : VR μ (.q b j k lo hi) v ↔ ∃ n : Int,v = .int k n ∧ ∃ t : Int,QT μ b j t ∧ lo ≤ n - t ∧ n - t ≤ hi:=by simp only [VR]
theorem VR.b_iff {x : Bool} {v : Value} : VR μ (.b x) v ↔ v = .bool x:=by simp only [VR]
theorem VR.i_iff {k : IntKind} {n : Int} {v : Value} : VR μ (.i k n) v ↔ v = .int k n:=by simp only [VR]
theorem VRs.nil_iff {l : List Value} : VRs μ [] l ↔ l = []:=by simp only [VRs]
theorem VRs.cons_iff {x : V} {xs : List V} {l : List Value} : VRs μ (x::xs) l ↔ ∃ y ys,l = y::ys ∧ VR μ x y ∧ VRs μ xs ys:=by simp only [VRs]
theorem VRs.cons_mk {x : V} {xs : List V} {y : Value} {ys : List Value} (h : VR μ x y) (hs : VRs μ xs ys) : VRs μ (x::xs) (y::ys):=VRs.cons_iff.2 ⟨y,ys,rfl,h,hs⟩
theorem VRs.len : ∀ {xs : List V} {ys : List Value},VRs μ xs ys → ys.length = xs.length
 | [],_,h=>by rw [VRs.nil_iff.1 h]; rfl
 | x::xs,_,h=>by obtain ⟨y,ys,rfl,_,h2⟩:=VRs.cons_iff.1 h; simp [VRs.len h2]
theorem VRs.get : ∀ {xs : List V} {ys : List Value},VRs μ xs ys → ∀ (j : Nat) (x : V),xs[j]? = some x → ∃ y,ys[j]? = some y ∧ VR μ x y
 | [],_,_,j,x,hj=>by simp at hj
 | x::xs,_,h,j,z,hj=>by
  obtain ⟨y,ys,rfl,h1,h2⟩:=VRs.cons_iff.1 h
  cases j with
  | zero=>simp at hj; subst hj; exact ⟨y,rfl,h1⟩
  | succ j=>simp only [List.getElem?_cons_succ] at hj ⊢; exact VRs.get h2 j z hj
theorem VRs.of_get : ∀ {xs : List V} {ys : List Value},ys.length = xs.length → (∀ (j : Nat) (x : V),xs[j]? = some x → ∃ y,ys[j]? = some y ∧ VR μ x y) → VRs μ xs ys
 | [],ys,hl,_=>by rw [VRs.nil_iff]; exact List.eq_nil_of_length_eq_zero hl
 | x::xs,ys,hl,h=>by
  cases ys with
  | nil=>simp at hl
  | cons y ys =>
   obtain ⟨y',h1,h2⟩:=h 0 x rfl
   simp at h1; subst h1
   exact VRs.cons_mk h2 (VRs.of_get (by simpa using hl) fun j z hz=>by have:=h (j + 1) z (by simpa using hz); simpa using this)
theorem VRs.append : ∀ {xs zs : List V} {ys ws : List Value},VRs μ xs ys → VRs μ zs ws → VRs μ (xs ++ zs) (ys ++ ws)
 | [],_,_,_,h,k=>by rw [VRs.nil_iff.1 h]; exact k
 | x::xs,_,_,_,h,k=>by
  obtain ⟨y,ys,rfl,h1,h2⟩:=VRs.cons_iff.1 h
  exact VRs.cons_mk h1 (VRs.append h2 k)
end
def V.one : V → Bool
 | .u | .ag _ | .tu _=>false
 | _=>true
theorem VR.one {μ : M} {x : V} {y : Value} (h : VR μ x y) (hx : x.one = true) : y.oneCell' = true:=by
 cases x <;> simp only [VR] at h <;> simp [V.one] at hx
 case z=>rcases h with ⟨_,x,rfl,_⟩ | ⟨_,rfl⟩ <;> rfl
 case q=>obtain ⟨_,rfl,_⟩:=h; rfl
 all_goals first
  | (subst h; rfl)
  | (obtain ⟨_,_,_,rfl⟩:=h; rfl)
  | (obtain ⟨_,rfl,_⟩:=h; rfl)
  | (obtain ⟨_,_,_,rfl⟩:=h; rfl)
  | (obtain ⟨_,_,rfl,_⟩:=h; rfl)
  | (obtain ⟨_,_,_,_,rfl,_⟩:=h; rfl)
def V.cells : V → List V
 | .ag l=>l
 | v=>[v]
theorem VR.cells {μ : M} {x : V} {y : Value} (h : VR μ x y) (hx : x ≠ .u) : VRs μ x.cells y.cells.toList:=by
 cases x
 case u=>exact absurd rfl hx
 case ag l=>simp only [VR] at h; obtain ⟨cs,rfl,h⟩:=h; exact h
 case q b j k lo hi =>
  have h0:=h
  rw [VR.q_iff] at h
  obtain ⟨_,rfl,_⟩:=h
  exact VRs.cons_mk h0 (VRs.nil_iff.2 rfl)
 case z m n =>
  have h0:=h
  simp only [VR] at h
  rcases h with ⟨_,x,rfl,_⟩ | ⟨_,rfl⟩ <;> exact VRs.cons_mk h0 (VRs.nil_iff.2 rfl)
 all_goals
  have h0:=h
  simp only [VR] at h
  first
  | (subst h; exact VRs.cons_mk h0 (VRs.nil_iff.2 rfl))
  | (obtain ⟨_,_,_,rfl⟩:=h; exact VRs.cons_mk h0 (VRs.nil_iff.2 rfl))
  | (obtain ⟨_,rfl,_⟩:=h; exact VRs.cons_mk h0 (VRs.nil_iff.2 rfl))
  | (obtain ⟨_,_,_,rfl⟩:=h; exact VRs.cons_mk h0 (VRs.nil_iff.2 rfl))
  | (obtain ⟨_,_,rfl,_⟩:=h; exact VRs.cons_mk h0 (VRs.nil_iff.2 rfl))
  | (obtain ⟨_,_,_,_,rfl,_⟩:=h; exact VRs.cons_mk h0 (VRs.nil_iff.2 rfl))
structure A1 where
 c0 : V
 c1 : V
 c2 : V
 c3 : V
 c4 : V
 c5 : V
 c6 : V
 c7 : V
 c8 : V
 c9 : V
 c10 : V
 c11 : V
 c12 : V
 c13 : V
 c14 : V
 c15 : V
def A1.u0 (x : V) (t : A1) : A1:=A1.rec (motive:=fun _=>A1) (fun c0 c1 c2 c3 c4 c5 c6 c7 c8 c9 c10 c11 c12 c13 c14 c15=>⟨x,c1,c2,c3,c4,c5,c6,c7,c8,c9,c10,c11,c12,c13,c14,c15⟩) t
def A1.u1 (x : V) (t : A1) : A1:=A1.rec (motive:=fun _=>A1) (fun c0 c1 c2 c3 c4 c5 c6 c7 c8 c9 c10 c11 c12 c13 c14 c15=>⟨c0,x,c2,c3,c4,c5,c6,c7,c8,c9,c10,c11,c12,c13,c14,c15⟩) t
def A1.u2 (x : V) (t : A1) : A1:=A1.rec (motive:=fun _=>A1) (fun c0 c1 c2 c3 c4 c5 c6 c7 c8 c9 c10 c11 c12 c13 c14 c15=>⟨c0,c1,x,c3,c4,c5,c6,c7,c8,c9,c10,c11,c12,c13,c14,c15⟩) t
def A1.u3 (x : V) (t : A1) : A1:=A1.rec (motive:=fun _=>A1) (fun c0 c1 c2 c3 c4 c5 c6 c7 c8 c9 c10 c11 c12 c13 c14 c15=>⟨c0,c1,c2,x,c4,c5,c6,c7,c8,c9,c10,c11,c12,c13,c14,c15⟩) t
def A1.u4 (x : V) (t : A1) : A1:=A1.rec (motive:=fun _=>A1) (fun c0 c1 c2 c3 c4 c5 c6 c7 c8 c9 c10 c11 c12 c13 c14 c15=>⟨c0,c1,c2,c3,x,c5,c6,c7,c8,c9,c10,c11,c12,c13,c14,c15⟩) t
def A1.u5 (x : V) (t : A1) : A1:=A1.rec (motive:=fun _=>A1) (fun c0 c1 c2 c3 c4 c5 c6 c7 c8 c9 c10 c11 c12 c13 c14 c15=>⟨c0,c1,c2,c3,c4,x,c6,c7,c8,c9,c10,c11,c12,c13,c14,c15⟩) t
def A1.u6 (x : V) (t : A1) : A1:=A1.rec (motive:=fun _=>A1) (fun c0 c1 c2 c3 c4 c5 c6 c7 c8 c9 c10 c11 c12 c13 c14 c15=>⟨c0,c1,c2,c3,c4,c5,x,c7,c8,c9,c10,c11,c12,c13,c14,c15⟩) t
def A1.u7 (x : V) (t : A1) : A1:=A1.rec (motive:=fun _=>A1) (fun c0 c1 c2 c3 c4 c5 c6 c7 c8 c9 c10 c11 c12 c13 c14 c15=>⟨c0,c1,c2,c3,c4,c5,c6,x,c8,c9,c10,c11,c12,c13,c14,c15⟩) t
def A1.u8 (x : V) (t : A1) : A1:=A1.rec (motive:=fun _=>A1) (fun c0 c1 c2 c3 c4 c5 c6 c7 c8 c9 c10 c11 c12 c13 c14 c15=>⟨c0,c1,c2,c3,c4,c5,c6,c7,x,c9,c10,c11,c12,c13,c14,c15⟩) t
def A1.u9 (x : V) (t : A1) : A1:=A1.rec (motive:=fun _=>A1) (fun c0 c1 c2 c3 c4 c5 c6 c7 c8 c9 c10 c11 c12 c13 c14 c15=>⟨c0,c1,c2,c3,c4,c5,c6,c7,c8,x,c10,c11,c12,c13,c14,c15⟩) t
def A1.u10 (x : V) (t : A1) : A1:=A1.rec (motive:=fun _=>A1) (fun c0 c1 c2 c3 c4 c5 c6 c7 c8 c9 c10 c11 c12 c13 c14 c15=>⟨c0,c1,c2,c3,c4,c5,c6,c7,c8,c9,x,c11,c12,c13,c14,c15⟩) t
def A1.u11 (x : V) (t : A1) : A1:=A1.rec (motive:=fun _=>A1) (fun c0 c1 c2 c3 c4 c5 c6 c7 c8 c9 c10 c11 c12 c13 c14 c15=>⟨c0,c1,c2,c3,c4,c5,c6,c7,c8,c9,c10,x,c12,c13,c14,c15⟩) t
def A1.u12 (x : V) (t : A1) : A1:=A1.rec (motive:=fun _=>A1) (fun c0 c1 c2 c3 c4 c5 c6 c7 c8 c9 c10 c11 c12 c13 c14 c15=>⟨c0,c1,c2,c3,c4,c5,c6,c7,c8,c9,c10,c11,x,c13,c14,c15⟩) t
def A1.u13 (x : V) (t : A1) : A1:=A1.rec (motive:=fun _=>A1) (fun c0 c1 c2 c3 c4 c5 c6 c7 c8 c9 c10 c11 c12 c13 c14 c15=>⟨c0,c1,c2,c3,c4,c5,c6,c7,c8,c9,c10,c11,c12,x,c14,c15⟩) t
def A1.u14 (x : V) (t : A1) : A1:=A1.rec (motive:=fun _=>A1) (fun c0 c1 c2 c3 c4 c5 c6 c7 c8 c9 c10 c11 c12 c13 c14 c15=>⟨c0,c1,c2,c3,c4,c5,c6,c7,c8,c9,c10,c11,c12,c13,x,c15⟩) t
def A1.u15 (x : V) (t : A1) : A1:=A1.rec (motive:=fun _=>A1) (fun c0 c1 c2 c3 c4 c5 c6 c7 c8 c9 c10 c11 c12 c13 c14 c15=>⟨c0,c1,c2,c3,c4,c5,c6,c7,c8,c9,c10,c11,c12,c13,c14,x⟩) t
structure SA1 where
 s : A1 → V
 u : V → A1 → A1
def sA1 (d : D) : SA1:=D.rec (motive:=fun _=>SA1) ⟨A1.c0,A1.u0⟩ ⟨A1.c1,A1.u1⟩ ⟨A1.c2,A1.u2⟩ ⟨A1.c3,A1.u3⟩ ⟨A1.c4,A1.u4⟩ ⟨A1.c5,A1.u5⟩ ⟨A1.c6,A1.u6⟩ ⟨A1.c7,A1.u7⟩ ⟨A1.c8,A1.u8⟩ ⟨A1.c9,A1.u9⟩ ⟨A1.c10,A1.u10⟩ ⟨A1.c11,A1.u11⟩ ⟨A1.c12,A1.u12⟩ ⟨A1.c13,A1.u13⟩ ⟨A1.c14,A1.u14⟩ ⟨A1.c15,A1.u15⟩ d
theorem A1.same (d : D) (x : V) (t : A1) : (sA1 d).s ((sA1 d).u x t) = x:=by cases d <;> rfl
theorem A1.other {d d' : D} (h : d ≠ d') (x : V) (t : A1) : (sA1 d).s ((sA1 d').u x t) = (sA1 d).s t:=by cases d <;> cases d' <;> first | rfl | exact absurd rfl h
structure A2 where
 c0 : A1
 c1 : A1
 c2 : A1
 c3 : A1
 c4 : A1
 c5 : A1
 c6 : A1
 c7 : A1
 c8 : A1
 c9 : A1
 c10 : A1
 c11 : A1
 c12 : A1
 c13 : A1
 c14 : A1
 c15 : A1
def A2.u0 (x : A1) (t : A2) : A2:=A2.rec (motive:=fun _=>A2) (fun c0 c1 c2 c3 c4 c5 c6 c7 c8 c9 c10 c11 c12 c13 c14 c15=>⟨x,c1,c2,c3,c4,c5,c6,c7,c8,c9,c10,c11,c12,c13,c14,c15⟩) t
def A2.u1 (x : A1) (t : A2) : A2:=A2.rec (motive:=fun _=>A2) (fun c0 c1 c2 c3 c4 c5 c6 c7 c8 c9 c10 c11 c12 c13 c14 c15=>⟨c0,x,c2,c3,c4,c5,c6,c7,c8,c9,c10,c11,c12,c13,c14,c15⟩) t
def A2.u2 (x : A1) (t : A2) : A2:=A2.rec (motive:=fun _=>A2) (fun c0 c1 c2 c3 c4 c5 c6 c7 c8 c9 c10 c11 c12 c13 c14 c15=>⟨c0,c1,x,c3,c4,c5,c6,c7,c8,c9,c10,c11,c12,c13,c14,c15⟩) t
def A2.u3 (x : A1) (t : A2) : A2:=A2.rec (motive:=fun _=>A2) (fun c0 c1 c2 c3 c4 c5 c6 c7 c8 c9 c10 c11 c12 c13 c14 c15=>⟨c0,c1,c2,x,c4,c5,c6,c7,c8,c9,c10,c11,c12,c13,c14,c15⟩) t
def A2.u4 (x : A1) (t : A2) : A2:=A2.rec (motive:=fun _=>A2) (fun c0 c1 c2 c3 c4 c5 c6 c7 c8 c9 c10 c11 c12 c13 c14 c15=>⟨c0,c1,c2,c3,x,c5,c6,c7,c8,c9,c10,c11,c12,c13,c14,c15⟩) t
def A2.u5 (x : A1) (t : A2) : A2:=A2.rec (motive:=fun _=>A2) (fun c0 c1 c2 c3 c4 c5 c6 c7 c8 c9 c10 c11 c12 c13 c14 c15=>⟨c0,c1,c2,c3,c4,x,c6,c7,c8,c9,c10,c11,c12,c13,c14,c15⟩) t
def A2.u6 (x : A1) (t : A2) : A2:=A2.rec (motive:=fun _=>A2) (fun c0 c1 c2 c3 c4 c5 c6 c7 c8 c9 c10 c11 c12 c13 c14 c15=>⟨c0,c1,c2,c3,c4,c5,x,c7,c8,c9,c10,c11,c12,c13,c14,c15⟩) t
def A2.u7 (x : A1) (t : A2) : A2:=A2.rec (motive:=fun _=>A2) (fun c0 c1 c2 c3 c4 c5 c6 c7 c8 c9 c10 c11 c12 c13 c14 c15=>⟨c0,c1,c2,c3,c4,c5,c6,x,c8,c9,c10,c11,c12,c13,c14,c15⟩) t
def A2.u8 (x : A1) (t : A2) : A2:=A2.rec (motive:=fun _=>A2) (fun c0 c1 c2 c3 c4 c5 c6 c7 c8 c9 c10 c11 c12 c13 c14 c15=>⟨c0,c1,c2,c3,c4,c5,c6,c7,x,c9,c10,c11,c12,c13,c14,c15⟩) t
def A2.u9 (x : A1) (t : A2) : A2:=A2.rec (motive:=fun _=>A2) (fun c0 c1 c2 c3 c4 c5 c6 c7 c8 c9 c10 c11 c12 c13 c14 c15=>⟨c0,c1,c2,c3,c4,c5,c6,c7,c8,x,c10,c11,c12,c13,c14,c15⟩) t
def A2.u10 (x : A1) (t : A2) : A2:=A2.rec (motive:=fun _=>A2) (fun c0 c1 c2 c3 c4 c5 c6 c7 c8 c9 c10 c11 c12 c13 c14 c15=>⟨c0,c1,c2,c3,c4,c5,c6,c7,c8,c9,x,c11,c12,c13,c14,c15⟩) t
def A2.u11 (x : A1) (t : A2) : A2:=A2.rec (motive:=fun _=>A2) (fun c0 c1 c2 c3 c4 c5 c6 c7 c8 c9 c10 c11 c12 c13 c14 c15=>⟨c0,c1,c2,c3,c4,c5,c6,c7,c8,c9,c10,x,c12,c13,c14,c15⟩) t
def A2.u12 (x : A1) (t : A2) : A2:=A2.rec (motive:=fun _=>A2) (fun c0 c1 c2 c3 c4 c5 c6 c7 c8 c9 c10 c11 c12 c13 c14 c15=>⟨c0,c1,c2,c3,c4,c5,c6,c7,c8,c9,c10,c11,x,c13,c14,c15⟩) t
def A2.u13 (x : A1) (t : A2) : A2:=A2.rec (motive:=fun _=>A2) (fun c0 c1 c2 c3 c4 c5 c6 c7 c8 c9 c10 c11 c12 c13 c14 c15=>⟨c0,c1,c2,c3,c4,c5,c6,c7,c8,c9,c10,c11,c12,x,c14,c15⟩) t
def A2.u14 (x : A1) (t : A2) : A2:=A2.rec (motive:=fun _=>A2) (fun c0 c1 c2 c3 c4 c5 c6 c7 c8 c9 c10 c11 c12 c13 c14 c15=>⟨c0,c1,c2,c3,c4,c5,c6,c7,c8,c9,c10,c11,c12,c13,x,c15⟩) t
def A2.u15 (x : A1) (t : A2) : A2:=A2.rec (motive:=fun _=>A2) (fun c0 c1 c2 c3 c4 c5 c6 c7 c8 c9 c10 c11 c12 c13 c14 c15=>⟨c0,c1,c2,c3,c4,c5,c6,c7,c8,c9,c10,c11,c12,c13,c14,x⟩) t
structure SA2 where
 s : A2 → A1
 u : A1 → A2 → A2
def sA2 (d : D) : SA2:=D.rec (motive:=fun _=>SA2) ⟨A2.c0,A2.u0⟩ ⟨A2.c1,A2.u1⟩ ⟨A2.c2,A2.u2⟩ ⟨A2.c3,A2.u3⟩ ⟨A2.c4,A2.u4⟩ ⟨A2.c5,A2.u5⟩ ⟨A2.c6,A2.u6⟩ ⟨A2.c7,A2.u7⟩ ⟨A2.c8,A2.u8⟩ ⟨A2.c9,A2.u9⟩ ⟨A2.c10,A2.u10⟩ ⟨A2.c11,A2.u11⟩ ⟨A2.c12,A2.u12⟩ ⟨A2.c13,A2.u13⟩ ⟨A2.c14,A2.u14⟩ ⟨A2.c15,A2.u15⟩ d
theorem A2.same (d : D) (x : A1) (t : A2) : (sA2 d).s ((sA2 d).u x t) = x:=by cases d <;> rfl
theorem A2.other {d d' : D} (h : d ≠ d') (x : A1) (t : A2) : (sA2 d).s ((sA2 d').u x t) = (sA2 d).s t:=by cases d <;> cases d' <;> first | rfl | exact absurd rfl h
structure A3 where
 c0 : A2
 c1 : A2
 c2 : A2
 c3 : A2
 c4 : A2
 c5 : A2
 c6 : A2
 c7 : A2
 c8 : A2
 c9 : A2
 c10 : A2
 c11 : A2
 c12 : A2
 c13 : A2
 c14 : A2
 c15 : A2
def A3.u0 (x : A2) (t : A3) : A3:=A3.rec (motive:=fun _=>A3) (fun c0 c1 c2 c3 c4 c5 c6 c7 c8 c9 c10 c11 c12 c13 c14 c15=>⟨x,c1,c2,c3,c4,c5,c6,c7,c8,c9,c10,c11,c12,c13,c14,c15⟩) t
def A3.u1 (x : A2) (t : A3) : A3:=A3.rec (motive:=fun _=>A3) (fun c0 c1 c2 c3 c4 c5 c6 c7 c8 c9 c10 c11 c12 c13 c14 c15=>⟨c0,x,c2,c3,c4,c5,c6,c7,c8,c9,c10,c11,c12,c13,c14,c15⟩) t
def A3.u2 (x : A2) (t : A3) : A3:=A3.rec (motive:=fun _=>A3) (fun c0 c1 c2 c3 c4 c5 c6 c7 c8 c9 c10 c11 c12 c13 c14 c15=>⟨c0,c1,x,c3,c4,c5,c6,c7,c8,c9,c10,c11,c12,c13,c14,c15⟩) t
def A3.u3 (x : A2) (t : A3) : A3:=A3.rec (motive:=fun _=>A3) (fun c0 c1 c2 c3 c4 c5 c6 c7 c8 c9 c10 c11 c12 c13 c14 c15=>⟨c0,c1,c2,x,c4,c5,c6,c7,c8,c9,c10,c11,c12,c13,c14,c15⟩) t
def A3.u4 (x : A2) (t : A3) : A3:=A3.rec (motive:=fun _=>A3) (fun c0 c1 c2 c3 c4 c5 c6 c7 c8 c9 c10 c11 c12 c13 c14 c15=>⟨c0,c1,c2,c3,x,c5,c6,c7,c8,c9,c10,c11,c12,c13,c14,c15⟩) t
def A3.u5 (x : A2) (t : A3) : A3:=A3.rec (motive:=fun _=>A3) (fun c0 c1 c2 c3 c4 c5 c6 c7 c8 c9 c10 c11 c12 c13 c14 c15=>⟨c0,c1,c2,c3,c4,x,c6,c7,c8,c9,c10,c11,c12,c13,c14,c15⟩) t
def A3.u6 (x : A2) (t : A3) : A3:=A3.rec (motive:=fun _=>A3) (fun c0 c1 c2 c3 c4 c5 c6 c7 c8 c9 c10 c11 c12 c13 c14 c15=>⟨c0,c1,c2,c3,c4,c5,x,c7,c8,c9,c10,c11,c12,c13,c14,c15⟩) t
def A3.u7 (x : A2) (t : A3) : A3:=A3.rec (motive:=fun _=>A3) (fun c0 c1 c2 c3 c4 c5 c6 c7 c8 c9 c10 c11 c12 c13 c14 c15=>⟨c0,c1,c2,c3,c4,c5,c6,x,c8,c9,c10,c11,c12,c13,c14,c15⟩) t
def A3.u8 (x : A2) (t : A3) : A3:=A3.rec (motive:=fun _=>A3) (fun c0 c1 c2 c3 c4 c5 c6 c7 c8 c9 c10 c11 c12 c13 c14 c15=>⟨c0,c1,c2,c3,c4,c5,c6,c7,x,c9,c10,c11,c12,c13,c14,c15⟩) t
def A3.u9 (x : A2) (t : A3) : A3:=A3.rec (motive:=fun _=>A3) (fun c0 c1 c2 c3 c4 c5 c6 c7 c8 c9 c10 c11 c12 c13 c14 c15=>⟨c0,c1,c2,c3,c4,c5,c6,c7,c8,x,c10,c11,c12,c13,c14,c15⟩) t
def A3.u10 (x : A2) (t : A3) : A3:=A3.rec (motive:=fun _=>A3) (fun c0 c1 c2 c3 c4 c5 c6 c7 c8 c9 c10 c11 c12 c13 c14 c15=>⟨c0,c1,c2,c3,c4,c5,c6,c7,c8,c9,x,c11,c12,c13,c14,c15⟩) t
def A3.u11 (x : A2) (t : A3) : A3:=A3.rec (motive:=fun _=>A3) (fun c0 c1 c2 c3 c4 c5 c6 c7 c8 c9 c10 c11 c12 c13 c14 c15=>⟨c0,c1,c2,c3,c4,c5,c6,c7,c8,c9,c10,x,c12,c13,c14,c15⟩) t
def A3.u12 (x : A2) (t : A3) : A3:=A3.rec (motive:=fun _=>A3) (fun c0 c1 c2 c3 c4 c5 c6 c7 c8 c9 c10 c11 c12 c13 c14 c15=>⟨c0,c1,c2,c3,c4,c5,c6,c7,c8,c9,c10,c11,x,c13,c14,c15⟩) t
def A3.u13 (x : A2) (t : A3) : A3:=A3.rec (motive:=fun _=>A3) (fun c0 c1 c2 c3 c4 c5 c6 c7 c8 c9 c10 c11 c12 c13 c14 c15=>⟨c0,c1,c2,c3,c4,c5,c6,c7,c8,c9,c10,c11,c12,x,c14,c15⟩) t
def A3.u14 (x : A2) (t : A3) : A3:=A3.rec (motive:=fun _=>A3) (fun c0 c1 c2 c3 c4 c5 c6 c7 c8 c9 c10 c11 c12 c13 c14 c15=>⟨c0,c1,c2,c3,c4,c5,c6,c7,c8,c9,c10,c11,c12,c13,x,c15⟩) t
def A3.u15 (x : A2) (t : A3) : A3:=A3.rec (motive:=fun _=>A3) (fun c0 c1 c2 c3 c4 c5 c6 c7 c8 c9 c10 c11 c12 c13 c14 c15=>⟨c0,c1,c2,c3,c4,c5,c6,c7,c8,c9,c10,c11,c12,c13,c14,x⟩) t
structure SA3 where
 s : A3 → A2
 u : A2 → A3 → A3
def sA3 (d : D) : SA3:=D.rec (motive:=fun _=>SA3) ⟨A3.c0,A3.u0⟩ ⟨A3.c1,A3.u1⟩ ⟨A3.c2,A3.u2⟩ ⟨A3.c3,A3.u3⟩ ⟨A3.c4,A3.u4⟩ ⟨A3.c5,A3.u5⟩ ⟨A3.c6,A3.u6⟩ ⟨A3.c7,A3.u7⟩ ⟨A3.c8,A3.u8⟩ ⟨A3.c9,A3.u9⟩ ⟨A3.c10,A3.u10⟩ ⟨A3.c11,A3.u11⟩ ⟨A3.c12,A3.u12⟩ ⟨A3.c13,A3.u13⟩ ⟨A3.c14,A3.u14⟩ ⟨A3.c15,A3.u15⟩ d
theorem A3.same (d : D) (x : A2) (t : A3) : (sA3 d).s ((sA3 d).u x t) = x:=by cases d <;> rfl
theorem A3.other {d d' : D} (h : d ≠ d') (x : A2) (t : A3) : (sA3 d).s ((sA3 d').u x t) = (sA3 d).s t:=by cases d <;> cases d' <;> first | rfl | exact absurd rfl h
structure A4 where
 c0 : A3
 c1 : A3
 c2 : A3
 c3 : A3
 c4 : A3
 c5 : A3
 c6 : A3
 c7 : A3
 c8 : A3
 c9 : A3
 c10 : A3
 c11 : A3
 c12 : A3
 c13 : A3
 c14 : A3
 c15 : A3
def A4.u0 (x : A3) (t : A4) : A4:=A4.rec (motive:=fun _=>A4) (fun c0 c1 c2 c3 c4 c5 c6 c7 c8 c9 c10 c11 c12 c13 c14 c15=>⟨x,c1,c2,c3,c4,c5,c6,c7,c8,c9,c10,c11,c12,c13,c14,c15⟩) t
def A4.u1 (x : A3) (t : A4) : A4:=A4.rec (motive:=fun _=>A4) (fun c0 c1 c2 c3 c4 c5 c6 c7 c8 c9 c10 c11 c12 c13 c14 c15=>⟨c0,x,c2,c3,c4,c5,c6,c7,c8,c9,c10,c11,c12,c13,c14,c15⟩) t
def A4.u2 (x : A3) (t : A4) : A4:=A4.rec (motive:=fun _=>A4) (fun c0 c1 c2 c3 c4 c5 c6 c7 c8 c9 c10 c11 c12 c13 c14 c15=>⟨c0,c1,x,c3,c4,c5,c6,c7,c8,c9,c10,c11,c12,c13,c14,c15⟩) t
def A4.u3 (x : A3) (t : A4) : A4:=A4.rec (motive:=fun _=>A4) (fun c0 c1 c2 c3 c4 c5 c6 c7 c8 c9 c10 c11 c12 c13 c14 c15=>⟨c0,c1,c2,x,c4,c5,c6,c7,c8,c9,c10,c11,c12,c13,c14,c15⟩) t
def A4.u4 (x : A3) (t : A4) : A4:=A4.rec (motive:=fun _=>A4) (fun c0 c1 c2 c3 c4 c5 c6 c7 c8 c9 c10 c11 c12 c13 c14 c15=>⟨c0,c1,c2,c3,x,c5,c6,c7,c8,c9,c10,c11,c12,c13,c14,c15⟩) t
def A4.u5 (x : A3) (t : A4) : A4:=A4.rec (motive:=fun _=>A4) (fun c0 c1 c2 c3 c4 c5 c6 c7 c8 c9 c10 c11 c12 c13 c14 c15=>⟨c0,c1,c2,c3,c4,x,c6,c7,c8,c9,c10,c11,c12,c13,c14,c15⟩) t
def A4.u6 (x : A3) (t : A4) : A4:=A4.rec (motive:=fun _=>A4) (fun c0 c1 c2 c3 c4 c5 c6 c7 c8 c9 c10 c11 c12 c13 c14 c15=>⟨c0,c1,c2,c3,c4,c5,x,c7,c8,c9,c10,c11,c12,c13,c14,c15⟩) t
def A4.u7 (x : A3) (t : A4) : A4:=A4.rec (motive:=fun _=>A4) (fun c0 c1 c2 c3 c4 c5 c6 c7 c8 c9 c10 c11 c12 c13 c14 c15=>⟨c0,c1,c2,c3,c4,c5,c6,x,c8,c9,c10,c11,c12,c13,c14,c15⟩) t
def A4.u8 (x : A3) (t : A4) : A4:=A4.rec (motive:=fun _=>A4) (fun c0 c1 c2 c3 c4 c5 c6 c7 c8 c9 c10 c11 c12 c13 c14 c15=>⟨c0,c1,c2,c3,c4,c5,c6,c7,x,c9,c10,c11,c12,c13,c14,c15⟩) t
def A4.u9 (x : A3) (t : A4) : A4:=A4.rec (motive:=fun _=>A4) (fun c0 c1 c2 c3 c4 c5 c6 c7 c8 c9 c10 c11 c12 c13 c14 c15=>⟨c0,c1,c2,c3,c4,c5,c6,c7,c8,x,c10,c11,c12,c13,c14,c15⟩) t
def A4.u10 (x : A3) (t : A4) : A4:=A4.rec (motive:=fun _=>A4) (fun c0 c1 c2 c3 c4 c5 c6 c7 c8 c9 c10 c11 c12 c13 c14 c15=>⟨c0,c1,c2,c3,c4,c5,c6,c7,c8,c9,x,c11,c12,c13,c14,c15⟩) t
def A4.u11 (x : A3) (t : A4) : A4:=A4.rec (motive:=fun _=>A4) (fun c0 c1 c2 c3 c4 c5 c6 c7 c8 c9 c10 c11 c12 c13 c14 c15=>⟨c0,c1,c2,c3,c4,c5,c6,c7,c8,c9,c10,x,c12,c13,c14,c15⟩) t
def A4.u12 (x : A3) (t : A4) : A4:=A4.rec (motive:=fun _=>A4) (fun c0 c1 c2 c3 c4 c5 c6 c7 c8 c9 c10 c11 c12 c13 c14 c15=>⟨c0,c1,c2,c3,c4,c5,c6,c7,c8,c9,c10,c11,x,c13,c14,c15⟩) t
def A4.u13 (x : A3) (t : A4) : A4:=A4.rec (motive:=fun _=>A4) (fun c0 c1 c2 c3 c4 c5 c6 c7 c8 c9 c10 c11 c12 c13 c14 c15=>⟨c0,c1,c2,c3,c4,c5,c6,c7,c8,c9,c10,c11,c12,x,c14,c15⟩) t
def A4.u14 (x : A3) (t : A4) : A4:=A4.rec (motive:=fun _=>A4) (fun c0 c1 c2 c3 c4 c5 c6 c7 c8 c9 c10 c11 c12 c13 c14 c15=>⟨c0,c1,c2,c3,c4,c5,c6,c7,c8,c9,c10,c11,c12,c13,x,c15⟩) t
def A4.u15 (x : A3) (t : A4) : A4:=A4.rec (motive:=fun _=>A4) (fun c0 c1 c2 c3 c4 c5 c6 c7 c8 c9 c10 c11 c12 c13 c14 c15=>⟨c0,c1,c2,c3,c4,c5,c6,c7,c8,c9,c10,c11,c12,c13,c14,x⟩) t
structure SA4 where
 s : A4 → A3
 u : A3 → A4 → A4
def sA4 (d : D) : SA4:=D.rec (motive:=fun _=>SA4) ⟨A4.c0,A4.u0⟩ ⟨A4.c1,A4.u1⟩ ⟨A4.c2,A4.u2⟩ ⟨A4.c3,A4.u3⟩ ⟨A4.c4,A4.u4⟩ ⟨A4.c5,A4.u5⟩ ⟨A4.c6,A4.u6⟩ ⟨A4.c7,A4.u7⟩ ⟨A4.c8,A4.u8⟩ ⟨A4.c9,A4.u9⟩ ⟨A4.c10,A4.u10⟩ ⟨A4.c11,A4.u11⟩ ⟨A4.c12,A4.u12⟩ ⟨A4.c13,A4.u13⟩ ⟨A4.c14,A4.u14⟩ ⟨A4.c15,A4.u15⟩ d
theorem A4.same (d : D) (x : A3) (t : A4) : (sA4 d).s ((sA4 d).u x t) = x:=by cases d <;> rfl
theorem A4.other {d d' : D} (h : d ≠ d') (x : A3) (t : A4) : (sA4 d).s ((sA4 d').u x t) = (sA4 d).s t:=by cases d <;> cases d' <;> first | rfl | exact absurd rfl h
def A1.nil : A1:=⟨.u,.u,.u,.u,.u,.u,.u,.u,.u,.u,.u,.u,.u,.u,.u,.u⟩
def A1.all (v : V) : A1:=⟨v,v,v,v,v,v,v,v,v,v,v,v,v,v,v,v⟩
def A2.nil : A2:=⟨A1.nil,A1.nil,A1.nil,A1.nil,A1.nil,A1.nil,A1.nil,A1.nil,A1.nil,A1.nil,A1.nil,A1.nil,A1.nil,A1.nil,A1.nil,A1.nil⟩
def A2.all (v : V) : A2:=(fun x=>⟨x,x,x,x,x,x,x,x,x,x,x,x,x,x,x,x⟩) (A1.all v)
def A2.up (t : A1) : A2:=⟨t,A1.nil,A1.nil,A1.nil,A1.nil,A1.nil,A1.nil,A1.nil,A1.nil,A1.nil,A1.nil,A1.nil,A1.nil,A1.nil,A1.nil,A1.nil⟩
def A3.nil : A3:=⟨A2.nil,A2.nil,A2.nil,A2.nil,A2.nil,A2.nil,A2.nil,A2.nil,A2.nil,A2.nil,A2.nil,A2.nil,A2.nil,A2.nil,A2.nil,A2.nil⟩
def A3.all (v : V) : A3:=(fun x=>⟨x,x,x,x,x,x,x,x,x,x,x,x,x,x,x,x⟩) (A2.all v)
def A3.up (t : A2) : A3:=⟨t,A2.nil,A2.nil,A2.nil,A2.nil,A2.nil,A2.nil,A2.nil,A2.nil,A2.nil,A2.nil,A2.nil,A2.nil,A2.nil,A2.nil,A2.nil⟩
def A4.nil : A4:=⟨A3.nil,A3.nil,A3.nil,A3.nil,A3.nil,A3.nil,A3.nil,A3.nil,A3.nil,A3.nil,A3.nil,A3.nil,A3.nil,A3.nil,A3.nil,A3.nil⟩
def A4.all (v : V) : A4:=(fun x=>⟨x,x,x,x,x,x,x,x,x,x,x,x,x,x,x,x⟩) (A3.all v)
def A4.up (t : A3) : A4:=⟨t,A3.nil,A3.nil,A3.nil,A3.nil,A3.nil,A3.nil,A3.nil,A3.nil,A3.nil,A3.nil,A3.nil,A3.nil,A3.nil,A3.nil,A3.nil⟩
inductive Q where
 | big | q4 (d : SA4) (c : SA3) (b : SA2) (a : SA1) | q3 (c : SA3) (b : SA2) (a : SA1) | q2 (b : SA2) (a : SA1) | q1 (a : SA1)
def qp (n : Nat) : Q :=
 Bool.rec (Bool.rec (Bool.rec (Bool.rec .big (.q4 (sA4 (D.of (Nat.div n 4096))) (sA3 (D.of (Nat.div n 256))) (sA2 (D.of (Nat.div n 16))) (sA1 (D.of n))) (Nat.ble n 65535))
  (.q3 (sA3 (D.of (Nat.div n 256))) (sA2 (D.of (Nat.div n 16))) (sA1 (D.of n))) (Nat.ble n 4095))
  (.q2 (sA2 (D.of (Nat.div n 16))) (sA1 (D.of n))) (Nat.ble n 255)) (.q1 (sA1 (D.of n))) (Nat.ble n 15)
inductive C where
 | e | l4 (t : A4) | l3 (t : A3) | l2 (t : A2) | l1 (t : A1)
namespace C
def at1 (t : A1) (q : Q) : V:=Q.rec (motive:=fun _=>V) .u (fun _ _ _ _=>.u) (fun _ _ _=>.u) (fun _ _=>.u) (fun a=>a.s t) q
def at2 (t : A2) (q : Q) : V:=Q.rec (motive:=fun _=>V) .u (fun _ _ _ _=>.u) (fun _ _ _=>.u) (fun b a=>a.s (b.s t)) (fun a=>a.s t.c0) q
def at3 (t : A3) (q : Q) : V:=Q.rec (motive:=fun _=>V) .u (fun _ _ _ _=>.u) (fun c b a=>a.s (b.s (c.s t))) (fun b a=>a.s (b.s t.c0)) (fun a=>a.s t.c0.c0) q
def at4 (t : A4) (q : Q) : V:=Q.rec (motive:=fun _=>V) .u (fun d c b a=>a.s (b.s (c.s (d.s t)))) (fun c b a=>a.s (b.s (c.s t.c0))) (fun b a=>a.s (b.s t.c0.c0)) (fun a=>a.s t.c0.c0.c0) q
def atq (c : C) : Q → V:=C.rec (motive:=fun _=>Q → V) (fun _=>.u) at4 at3 at2 at1 c
def at_ (c : C) (n : Nat) : V:=atq c (qp n)
def p2 (b : SA2) (a : SA1) (x : V) (t : A2) : A2:=b.u (a.u x (b.s t)) t
def p3 (c : SA3) (b : SA2) (a : SA1) (x : V) (t : A3) : A3:=c.u (b.u (a.u x (b.s (c.s t))) (c.s t)) t
def p4 (d : SA4) (c : SA3) (b : SA2) (a : SA1) (x : V) (t : A4) : A4:=d.u (c.u (b.u (a.u x (b.s (c.s (d.s t)))) (c.s (d.s t))) (d.s t)) t
def put4 (x : V) (t : A4) (q : Q) : C:=Q.rec (motive:=fun _=>C) .e (fun d c b a=>.l4 (p4 d c b a x t)) (fun c b a=>.l4 (p4 (sA4 .d0) c b a x t)) (fun b a=>.l4 (p4 (sA4 .d0) (sA3 .d0) b a x t)) (fun a=>.l4 (p4 (sA4 .d0) (sA3 .d0) (sA2 .d0) a x t)) q
def put3 (x : V) (t : A3) (q : Q) : C:=Q.rec (motive:=fun _=>C) .e (fun d c b a=>.l4 (p4 d c b a x (.up t))) (fun c b a=>.l3 (p3 c b a x t)) (fun b a=>.l3 (p3 (sA3 .d0) b a x t)) (fun a=>.l3 (p3 (sA3 .d0) (sA2 .d0) a x t)) q
def put2 (x : V) (t : A2) (q : Q) : C:=Q.rec (motive:=fun _=>C) .e (fun d c b a=>.l4 (p4 d c b a x (.up (.up t)))) (fun c b a=>.l3 (p3 c b a x (.up t))) (fun b a=>.l2 (p2 b a x t)) (fun a=>.l2 (p2 (sA2 .d0) a x t)) q
def put1 (x : V) (t : A1) (q : Q) : C:=Q.rec (motive:=fun _=>C) .e (fun d c b a=>.l4 (p4 d c b a x (.up (.up (.up t))))) (fun c b a=>.l3 (p3 c b a x (.up (.up t)))) (fun b a=>.l2 (p2 b a x (.up t))) (fun a=>.l1 (a.u x t)) q
def putq (x : V) (c : C) : Q → C:=C.rec (motive:=fun _=>Q → C) (put1 x A1.nil) (put4 x) (put3 x) (put2 x) (put1 x) c
def put (c : C) (n : Nat) (x : V) : C:=putq x c (qp n)
end C
namespace C
def full (c : C) : A4:=C.rec (motive:=fun _=>A4) A4.nil (fun t=>t) (fun t=>.up t) (fun t=>.up (.up t)) (fun t=>.up (.up (.up t))) c
def g4 (d c b a : D) (t : A4) : V:=(sA1 a).s ((sA2 b).s ((sA3 c).s ((sA4 d).s t)))
def w4 (d c b a : D) (x : V) (t : A4) : A4:=p4 (sA4 d) (sA3 c) (sA2 b) (sA1 a) x t
theorem U0l (d c b a : D) (x : V) (t : A4) : g4 d c b a (w4 d c b a x t) = x:=by
 unfold g4 w4 p4
 rw [A4.same,A3.same,A2.same,A1.same]
theorem J7a {d c b a d' c' b' a' : D} (h : ¬ (d = d' ∧ c = c' ∧ b = b' ∧ a = a')) (x : V) (t : A4) : g4 d c b a (w4 d' c' b' a' x t) = g4 d c b a t:=by
 unfold g4 w4 p4
 by_cases h4 : d = d'
 ·subst h4
  rw [A4.same]
  by_cases h3 : c = c'
  ·subst h3
   rw [A3.same]
   by_cases h2 : b = b'
   ·subst h2
    rw [A2.same]
    by_cases h1 : a = a'
    ·subst h1; exact absurd ⟨rfl,rfl,rfl,rfl⟩ h
    ·rw [A1.other h1]
   ·rw [A2.other h2]
  ·rw [A3.other h3]
 ·rw [A4.other h4]
theorem U0m (d c b a : D) : g4 d c b a A4.nil = .u:=by
 have h4 : ∀ d,(sA4 d).s A4.nil = A3.nil:=by intro d; cases d <;> rfl
 have h3 : ∀ d,(sA3 d).s A3.nil = A2.nil:=by intro d; cases d <;> rfl
 have h2 : ∀ d,(sA2 d).s A2.nil = A1.nil:=by intro d; cases d <;> rfl
 have h1 : ∀ d,(sA1 d).s A1.nil = .u:=by intro d; cases d <;> rfl
 unfold g4; rw [h4,h3,h2,h1]
theorem J6n (n : Nat) : (65536 ≤ n ∧ qp n = .big) ∨ (n < 65536 ∧ (qp n = .q4 (sA4 (D.of (n / 4096))) (sA3 (D.of (n / 256))) (sA2 (D.of (n / 16))) (sA1 (D.of n)))) ∨
  (n < 65536 ∧ D.of (n / 4096) = .d0 ∧ qp n = .q3 (sA3 (D.of (n / 256))) (sA2 (D.of (n / 16))) (sA1 (D.of n))) ∨
  (n < 65536 ∧ D.of (n / 4096) = .d0 ∧ D.of (n / 256) = .d0 ∧ qp n = .q2 (sA2 (D.of (n / 16))) (sA1 (D.of n))) ∨
  (n < 65536 ∧ D.of (n / 4096) = .d0 ∧ D.of (n / 256) = .d0 ∧ D.of (n / 16) = .d0 ∧ qp n = .q1 (sA1 (D.of n))):=by
 have ble : ∀ m,Nat.ble n m = true → n ≤ m:=fun m h=>Nat.le_of_ble_eq_true h
 have nble : ∀ m,Nat.ble n m = false → m < n:=fun m h=>by
  have : ¬ n ≤ m:=fun k=>by rw [Nat.ble_eq_true_of_le k] at h; cases h
  omega
 unfold qp
 cases h1 : Nat.ble n 15 with
 | true =>
  have:=ble _ h1
  exact .inr (.inr (.inr (.inr ⟨by omega,by rw [show n / 4096 = 0 by omega]; rfl,by rw [show n / 256 = 0 by omega]; rfl,by rw [show n / 16 = 0 by omega]; rfl,rfl⟩)))
 | false =>
  cases h2 : Nat.ble n 255 with
  | true =>
   have:=ble _ h2
   exact .inr (.inr (.inr (.inl ⟨by omega,by rw [show n / 4096 = 0 by omega]; rfl,by rw [show n / 256 = 0 by omega]; rfl,rfl⟩)))
  | false =>
   cases h3 : Nat.ble n 4095 with
   | true =>
    have:=ble _ h3
    exact .inr (.inr (.inl ⟨by omega,by rw [show n / 4096 = 0 by omega]; rfl,rfl⟩))
   | false =>
    cases h4 : Nat.ble n 65535 with
    | true=>exact .inr (.inl ⟨by have:=ble _ h4; omega,rfl⟩)
    | false=>exact .inl ⟨nble _ h4,rfl⟩
theorem at_lt (c : C) {n : Nat} (h : n < 65536) : at_ c n = g4 (D.of (n / 4096)) (D.of (n / 256)) (D.of (n / 16)) (D.of n) (full c):=by
 unfold at_
 have hnil : ∀ q,atq .e q = .u:=fun _=>rfl
 have u4 : ∀ (d : D) (t : A3),d ≠ .d0 → (sA4 d).s (A4.up t) = A3.nil:=by intro d t hd; cases d <;> first | rfl | exact absurd rfl hd
 have u3 : ∀ (d : D) (t : A2),d ≠ .d0 → (sA3 d).s (A3.up t) = A2.nil:=by intro d t hd; cases d <;> first | rfl | exact absurd rfl hd
 have u2 : ∀ (d : D) (t : A1),d ≠ .d0 → (sA2 d).s (A2.up t) = A1.nil:=by intro d t hd; cases d <;> first | rfl | exact absurd rfl hd
 have n3 : ∀ c b a,(sA1 a).s ((sA2 b).s ((sA3 c).s A3.nil)) = .u:=by intro c b a; exact U0m .d0 c b a
 have n2 : ∀ b a,(sA1 a).s ((sA2 b).s A2.nil) = .u:=by intro b a; exact U0m .d0 .d0 b a
 have n1 : ∀ a,(sA1 a).s A1.nil = .u:=by intro a; exact U0m .d0 .d0 .d0 a
 have e4 : ∀ t : A3,(sA4 .d0).s (A4.up t) = t:=fun _=>rfl
 have e3 : ∀ t : A2,(sA3 .d0).s (A3.up t) = t:=fun _=>rfl
 have e2 : ∀ t : A1,(sA2 .d0).s (A2.up t) = t:=fun _=>rfl
 rcases J6n n with ⟨h1,_⟩ | ⟨_,h2⟩ | ⟨_,h3,h2⟩ | ⟨_,h3,h4,h2⟩ | ⟨_,h3,h4,h5,h2⟩
 ·omega
 ·
  have key : D.of (n / 4096) ≠ .d0 ∨ D.of (n / 4096) = .d0:=by by_cases hh : D.of (n / 4096) = .d0 <;> simp [hh]
  have h0 : D.of (n / 4096) ≠ .d0:=by
   intro hh
   have e1:=D.of_num (n / 4096)
   rw [hh] at e1
   have : (0 : Nat) = n / 4096 % 16:=e1
   have hn : n < 4096:=by omega
   have hb : Nat.ble n 4095 = true:=Nat.ble_eq_true_of_le (by omega)
   unfold qp at h2
   rw [hb] at h2
   revert h2
   cases Nat.ble n 255 <;> cases Nat.ble n 15 <;> intro h2 <;> cases h2
  rw [h2]
  cases c with
  | e=>exact (U0m _ _ _ _).symm
  | l4 t=>rfl
  | l3 t=>show V.u = (sA1 _).s ((sA2 _).s ((sA3 _).s ((sA4 _).s (A4.up t)))); rw [u4 _ _ h0,n3]
  | l2 t=>show V.u = (sA1 _).s ((sA2 _).s ((sA3 _).s ((sA4 _).s (A4.up _)))); rw [u4 _ _ h0,n3]
  | l1 t=>show V.u = (sA1 _).s ((sA2 _).s ((sA3 _).s ((sA4 _).s (A4.up _)))); rw [u4 _ _ h0,n3]
 ·rw [h2]
  have h0 : D.of (n / 256) ≠ .d0:=by
   intro hh
   have e1:=D.of_num (n / 256)
   rw [hh] at e1
   have e2:=D.of_num (n / 4096)
   rw [h3] at e2
   have : (0 : Nat) = n / 256 % 16:=e1
   have : (0 : Nat) = n / 4096 % 16:=e2
   have hb : Nat.ble n 255 = true:=Nat.ble_eq_true_of_le (by omega)
   unfold qp at h2
   rw [hb] at h2
   revert h2
   cases Nat.ble n 15 <;> intro h2 <;> cases h2
  cases c with
  | e=>exact (U0m _ _ _ _).symm
  | l4 t=>show _ = g4 _ _ _ _ t; unfold g4; rw [h3]; rfl
  | l3 t=>show _ = g4 _ _ _ _ (A4.up t); unfold g4; rw [h3,e4]; rfl
  | l2 t=>show V.u = g4 _ _ _ _ (A4.up (A3.up t)); unfold g4; rw [h3,e4,u3 _ _ h0,n2]
  | l1 t=>show V.u = g4 _ _ _ _ (A4.up (A3.up (A2.up t))); unfold g4; rw [h3,e4,u3 _ _ h0,n2]
 ·rw [h2]
  have h0 : D.of (n / 16) ≠ .d0:=by
   intro hh
   have e1:=D.of_num (n / 16)
   rw [hh] at e1
   have e2:=D.of_num (n / 4096)
   rw [h3] at e2
   have e3:=D.of_num (n / 256)
   rw [h4] at e3
   have : (0 : Nat) = n / 16 % 16:=e1
   have : (0 : Nat) = n / 4096 % 16:=e2
   have : (0 : Nat) = n / 256 % 16:=e3
   have hb : Nat.ble n 15 = true:=Nat.ble_eq_true_of_le (by omega)
   unfold qp at h2
   rw [hb] at h2
   cases h2
  cases c with
  | e=>exact (U0m _ _ _ _).symm
  | l4 t=>show _ = g4 _ _ _ _ t; unfold g4; rw [h3,h4]; rfl
  | l3 t=>show _ = g4 _ _ _ _ (A4.up t); unfold g4; rw [h3,h4,e4]; rfl
  | l2 t=>show _ = g4 _ _ _ _ (A4.up (A3.up t)); unfold g4; rw [h3,h4,e4,e3]; rfl
  | l1 t=>show V.u = g4 _ _ _ _ (A4.up (A3.up (A2.up t))); unfold g4; rw [h3,h4,e4,e3,u2 _ _ h0,n1]
 ·rw [h2]
  cases c with
  | e=>exact (U0m _ _ _ _).symm
  | l4 t=>show _ = g4 _ _ _ _ t; unfold g4; rw [h3,h4,h5]; rfl
  | l3 t=>show _ = g4 _ _ _ _ (A4.up t); unfold g4; rw [h3,h4,h5]; rfl
  | l2 t=>show _ = g4 _ _ _ _ (A4.up (A3.up t)); unfold g4; rw [h3,h4,h5]; rfl
  | l1 t=>show _ = g4 _ _ _ _ (A4.up (A3.up (A2.up t))); unfold g4; rw [h3,h4,h5]; rfl
theorem Q8a (c : C) {n : Nat} (h : 65536 ≤ n) : at_ c n = .u:=by
 rcases J6n n with ⟨_,h1⟩ | ⟨h1,_⟩ | ⟨h1,_⟩ | ⟨h1,_⟩ | ⟨h1,_⟩
 ·unfold at_; rw [h1]; cases c <;> rfl
 all_goals omega
theorem U4z (c : C) {n : Nat} (x : V) (h : n < 65536) : full (put c n x) = w4 (D.of (n / 4096)) (D.of (n / 256)) (D.of (n / 16)) (D.of n) x (full c):=by
 unfold put
 rcases J6n n with ⟨h1,_⟩ | ⟨_,h2⟩ | ⟨_,h3,h2⟩ | ⟨_,h3,h4,h2⟩ | ⟨_,h3,h4,h5,h2⟩
 ·omega
 ·rw [h2]; cases c <;> rfl
 ·rw [h2,h3]; cases c <;> rfl
 ·rw [h2,h3,h4]; cases c <;> rfl
 ·rw [h2,h3,h4,h5]; cases c <;> rfl
theorem put_ge (c : C) {n : Nat} (x : V) (h : 65536 ≤ n) : put c n x = .e:=by
 rcases J6n n with ⟨_,h1⟩ | ⟨h1,_⟩ | ⟨h1,_⟩ | ⟨h1,_⟩ | ⟨h1,_⟩
 ·unfold put; rw [h1]; cases c <;> rfl
 all_goals omega
theorem at_e (k : Nat) : at_ .e k = .u:=rfl
theorem at_put (t : C) (k : Nat) (x : V) (j : Nat) : at_ (put t k x) j = .u ∨ (j = k ∧ at_ (put t k x) j = x) ∨ (j ≠ k ∧ at_ (put t k x) j = at_ t j):=by
 by_cases hk : k < 65536
 ·by_cases hj : j < 65536
  ·rw [at_lt _ hj,U4z _ _ hk]
   by_cases e : j = k
   ·subst e; exact .inr (.inl ⟨rfl,U0l _ _ _ _ _ _⟩)
   ·refine .inr (.inr ⟨e,?_⟩)
    rw [J7a,at_lt _ hj]
    rintro ⟨h1,h2,h3,h4⟩
    have h1:=D.of_inj h1
    have h2:=D.of_inj h2
    have h3:=D.of_inj h3
    have h4:=D.of_inj h4
    omega
  ·exact .inl (Q8a _ (by omega))
 ·exact .inl (by rw [put_ge _ _ (by omega)]; rfl)
theorem at_put_same (t : C) {k : Nat} (x : V) (h : k < 65536) : at_ (put t k x) k = x:=by rw [at_lt _ h,U4z _ _ h]; exact U0l _ _ _ _ _ _
theorem at_put_ne (t : C) {k j : Nat} (x : V) (h : k < 65536) (e : j ≠ k) : at_ (put t k x) j = at_ t j:=by
 by_cases hj : j < 65536
 ·rw [at_lt _ hj,U4z _ _ h,J7a,at_lt _ hj]
  rintro ⟨h1,h2,h3,h4⟩
  have h1:=D.of_inj h1
  have h2:=D.of_inj h2
  have h3:=D.of_inj h3
  have h4:=D.of_inj h4
  omega
 ·rw [Q8a _ (by omega),Q8a _ (by omega)]
def rep (v : V) (n : Nat) : C :=
 Bool.rec (Bool.rec (Bool.rec (Bool.rec .e (.l4 (.all v)) (Nat.ble n 65536)) (.l3 (.all v)) (Nat.ble n 4096)) (.l2 (.all v)) (Nat.ble n 256)) (.l1 (.all v)) (Nat.ble n 16)
theorem at_rep (v : V) (n k : Nat) : at_ (rep v n) k = .u ∨ at_ (rep v n) k = v:=by
 have s1 : ∀ d,(sA1 d).s (A1.all v) = v:=by intro d; cases d <;> rfl
 have s2 : ∀ d,(sA2 d).s (A2.all v) = A1.all v:=by intro d; cases d <;> rfl
 have s3 : ∀ d,(sA3 d).s (A3.all v) = A2.all v:=by intro d; cases d <;> rfl
 have s4 : ∀ d,(sA4 d).s (A4.all v) = A3.all v:=by intro d; cases d <;> rfl
 have c2 : (A2.all v).c0 = A1.all v:=rfl
 have c3 : (A3.all v).c0 = A2.all v:=rfl
 have c4 : (A4.all v).c0 = A3.all v:=rfl
 have main : ∀ c : C,c = .e ∨ c = .l4 (.all v) ∨ c = .l3 (.all v) ∨ c = .l2 (.all v) ∨ c = .l1 (.all v) → at_ c k = .u ∨ at_ c k = v:=by
  intro c hc
  unfold at_
  rcases J6n k with ⟨_,h2⟩ | ⟨_,h2⟩ | ⟨_,h3,h2⟩ | ⟨_,h3,h4,h2⟩ | ⟨_,h3,h4,h5,h2⟩ <;> rw [h2] <;> rcases hc with rfl | rfl | rfl | rfl | rfl
  all_goals first
   | exact .inl rfl
   | exact .inr (by show (sA1 _).s ((sA2 _).s ((sA3 _).s ((sA4 _).s _))) = v; rw [s4,s3,s2,s1])
   | exact .inr (by show (sA1 _).s ((sA2 _).s ((sA3 _).s _)) = v; rw [s3,s2,s1])
   | exact .inr (by show (sA1 _).s ((sA2 _).s ((sA3 _).s (A4.all v).c0)) = v; rw [c4,s3,s2,s1])
   | exact .inr (by show (sA1 _).s ((sA2 _).s _) = v; rw [s2,s1])
   | exact .inr (by show (sA1 _).s ((sA2 _).s (A3.all v).c0) = v; rw [c3,s2,s1])
   | exact .inr (by show (sA1 _).s ((sA2 _).s (A4.all v).c0.c0) = v; rw [c4,c3,s2,s1])
   | exact .inr (by show (sA1 _).s _ = v; rw [s1])
   | exact .inr (by show (sA1 _).s (A2.all v).c0 = v; rw [c2,s1])
   | exact .inr (by show (sA1 _).s (A3.all v).c0.c0 = v; rw [c3,c2,s1])
   | exact .inr (by show (sA1 _).s (A4.all v).c0.c0.c0 = v; rw [c4,c3,c2,s1])
 apply main
 unfold rep
 cases Nat.ble n 16 <;> cases Nat.ble n 256 <;> cases Nat.ble n 4096 <;> cases Nat.ble n 65536 <;> simp
def puts (l : List V) : Nat → C → C :=
 List.rec (motive:=fun _=>Nat → C → C) (fun _ t=>t) (fun x _ ih k t=>ih (Nat.add k 1) (put t k x)) l
theorem J9t (x : V) (l : List V) (k : Nat) (t : C) : puts (x::l) k t = puts l (k + 1) (put t k x):=rfl
theorem at_puts (l : List V) : ∀ (k : Nat) (t : C) (j : Nat),at_ (puts l k t) j = .u ∨ (∃ x,k ≤ j ∧ l[j - k]? = some x ∧ at_ (puts l k t) j = x) ∨ (¬ (k ≤ j ∧ j < k + l.length) ∧ at_ (puts l k t) j = at_ t j):=by
 induction l with
 | nil=>intro k t j; exact .inr (.inr ⟨by simp,rfl⟩)
 | cons x l ih =>
  intro k t j
  rw [J9t]
  rcases ih (k + 1) (put t k x) j with h | ⟨y,h1,h2,h3⟩ | ⟨h1,h2⟩
  ·exact .inl h
  ·refine .inr (.inl ⟨y,by omega,?_,h3⟩)
   rw [show j - k = (j - (k + 1)) + 1 by omega]
   simpa using h2
  ·rcases at_put t k x j with h | ⟨h,h4⟩ | ⟨h,h4⟩
   ·exact .inl (h2.trans h)
   ·refine .inr (.inl ⟨x,by omega,?_,h2.trans h4⟩)
    rw [show j - k = 0 by omega]; rfl
   ·refine .inr (.inr ⟨?_,h2.trans h4⟩)
    simp only [List.length_cons]
    omega
def list (t : C) (m : Nat) : Nat → List V :=
 Nat.rec (motive:=fun _=>Nat → List V) (fun _=>[]) (fun _ ih k=>at_ t k::ih (Nat.add k 1)) m
theorem U7a (t : C) (m k : Nat) : list t (m + 1) k = at_ t k::list t m (k + 1):=rfl
theorem list_length (t : C) (m : Nat) : ∀ k,(list t m k).length = m:=by
 induction m with
 | zero=>intro k; rfl
 | succ m ih=>intro k; rw [U7a]; simp [ih]
theorem list_get (t : C) (m : Nat) : ∀ k j,j < m → (list t m k)[j]? = some (at_ t (k + j)):=by
 induction m with
 | zero=>intro k j h; omega
 | succ m ih =>
  intro k j h
  rw [U7a]
  cases j with
  | zero=>rfl
  | succ j=>simp only [List.getElem?_cons_succ]; rw [ih (k + 1) j (by omega),show k + 1 + j = k + (j + 1) by omega]
end C
structure E where
 a0 : V
 a1 : V
 a2 : V
 a3 : V
 a4 : V
 a5 : V
 a6 : V
 a7 : V
 a8 : V
 a9 : V
 a10 : V
 a11 : V
 a12 : V
 a13 : V
 a14 : V
 a15 : V
 c : C
inductive S where
 | a (i : D) | b (k : Nat)
def S.ok : S → Prop
 | .a _=>True
 | .b k=>k < 65536
def E.nil : E:=⟨.u,.u,.u,.u,.u,.u,.u,.u,.u,.u,.u,.u,.u,.u,.u,.u,.e⟩
def E.w0 (v : V) (e : E) : E:=E.rec (motive:=fun _=>E) (fun a0 a1 a2 a3 a4 a5 a6 a7 a8 a9 a10 a11 a12 a13 a14 a15 c=>⟨v,a1,a2,a3,a4,a5,a6,a7,a8,a9,a10,a11,a12,a13,a14,a15,c⟩) e
def E.w1 (v : V) (e : E) : E:=E.rec (motive:=fun _=>E) (fun a0 a1 a2 a3 a4 a5 a6 a7 a8 a9 a10 a11 a12 a13 a14 a15 c=>⟨a0,v,a2,a3,a4,a5,a6,a7,a8,a9,a10,a11,a12,a13,a14,a15,c⟩) e
def E.w2 (v : V) (e : E) : E:=E.rec (motive:=fun _=>E) (fun a0 a1 a2 a3 a4 a5 a6 a7 a8 a9 a10 a11 a12 a13 a14 a15 c=>⟨a0,a1,v,a3,a4,a5,a6,a7,a8,a9,a10,a11,a12,a13,a14,a15,c⟩) e
def E.w3 (v : V) (e : E) : E:=E.rec (motive:=fun _=>E) (fun a0 a1 a2 a3 a4 a5 a6 a7 a8 a9 a10 a11 a12 a13 a14 a15 c=>⟨a0,a1,a2,v,a4,a5,a6,a7,a8,a9,a10,a11,a12,a13,a14,a15,c⟩) e
def E.w4 (v : V) (e : E) : E:=E.rec (motive:=fun _=>E) (fun a0 a1 a2 a3 a4 a5 a6 a7 a8 a9 a10 a11 a12 a13 a14 a15 c=>⟨a0,a1,a2,a3,v,a5,a6,a7,a8,a9,a10,a11,a12,a13,a14,a15,c⟩) e
def E.w5 (v : V) (e : E) : E:=E.rec (motive:=fun _=>E) (fun a0 a1 a2 a3 a4 a5 a6 a7 a8 a9 a10 a11 a12 a13 a14 a15 c=>⟨a0,a1,a2,a3,a4,v,a6,a7,a8,a9,a10,a11,a12,a13,a14,a15,c⟩) e
def E.w6 (v : V) (e : E) : E:=E.rec (motive:=fun _=>E) (fun a0 a1 a2 a3 a4 a5 a6 a7 a8 a9 a10 a11 a12 a13 a14 a15 c=>⟨a0,a1,a2,a3,a4,a5,v,a7,a8,a9,a10,a11,a12,a13,a14,a15,c⟩) e
def E.w7 (v : V) (e : E) : E:=E.rec (motive:=fun _=>E) (fun a0 a1 a2 a3 a4 a5 a6 a7 a8 a9 a10 a11 a12 a13 a14 a15 c=>⟨a0,a1,a2,a3,a4,a5,a6,v,a8,a9,a10,a11,a12,a13,a14,a15,c⟩) e
def E.w8 (v : V) (e : E) : E:=E.rec (motive:=fun _=>E) (fun a0 a1 a2 a3 a4 a5 a6 a7 a8 a9 a10 a11 a12 a13 a14 a15 c=>⟨a0,a1,a2,a3,a4,a5,a6,a7,v,a9,a10,a11,a12,a13,a14,a15,c⟩) e
def E.w9 (v : V) (e : E) : E:=E.rec (motive:=fun _=>E) (fun a0 a1 a2 a3 a4 a5 a6 a7 a8 a9 a10 a11 a12 a13 a14 a15 c=>⟨a0,a1,a2,a3,a4,a5,a6,a7,a8,v,a10,a11,a12,a13,a14,a15,c⟩) e
def E.w10 (v : V) (e : E) : E:=E.rec (motive:=fun _=>E) (fun a0 a1 a2 a3 a4 a5 a6 a7 a8 a9 a10 a11 a12 a13 a14 a15 c=>⟨a0,a1,a2,a3,a4,a5,a6,a7,a8,a9,v,a11,a12,a13,a14,a15,c⟩) e
def E.w11 (v : V) (e : E) : E:=E.rec (motive:=fun _=>E) (fun a0 a1 a2 a3 a4 a5 a6 a7 a8 a9 a10 a11 a12 a13 a14 a15 c=>⟨a0,a1,a2,a3,a4,a5,a6,a7,a8,a9,a10,v,a12,a13,a14,a15,c⟩) e
def E.w12 (v : V) (e : E) : E:=E.rec (motive:=fun _=>E) (fun a0 a1 a2 a3 a4 a5 a6 a7 a8 a9 a10 a11 a12 a13 a14 a15 c=>⟨a0,a1,a2,a3,a4,a5,a6,a7,a8,a9,a10,a11,v,a13,a14,a15,c⟩) e
def E.w13 (v : V) (e : E) : E:=E.rec (motive:=fun _=>E) (fun a0 a1 a2 a3 a4 a5 a6 a7 a8 a9 a10 a11 a12 a13 a14 a15 c=>⟨a0,a1,a2,a3,a4,a5,a6,a7,a8,a9,a10,a11,a12,v,a14,a15,c⟩) e
def E.w14 (v : V) (e : E) : E:=E.rec (motive:=fun _=>E) (fun a0 a1 a2 a3 a4 a5 a6 a7 a8 a9 a10 a11 a12 a13 a14 a15 c=>⟨a0,a1,a2,a3,a4,a5,a6,a7,a8,a9,a10,a11,a12,a13,v,a15,c⟩) e
def E.w15 (v : V) (e : E) : E:=E.rec (motive:=fun _=>E) (fun a0 a1 a2 a3 a4 a5 a6 a7 a8 a9 a10 a11 a12 a13 a14 a15 c=>⟨a0,a1,a2,a3,a4,a5,a6,a7,a8,a9,a10,a11,a12,a13,a14,v,c⟩) e
def E.wc (k : Nat) (v : V) (e : E) : E:=E.rec (motive:=fun _=>E) (fun a0 a1 a2 a3 a4 a5 a6 a7 a8 a9 a10 a11 a12 a13 a14 a15 c=>⟨a0,a1,a2,a3,a4,a5,a6,a7,a8,a9,a10,a11,a12,a13,a14,a15,C.put c k v⟩) e
def rdD (i : D) : E → V:=D.rec (motive:=fun _=>E → V) E.a0 E.a1 E.a2 E.a3 E.a4 E.a5 E.a6 E.a7 E.a8 E.a9 E.a10 E.a11 E.a12 E.a13 E.a14 E.a15 i
def wrD (i : D) : V → E → E:=D.rec (motive:=fun _=>V → E → E) E.w0 E.w1 E.w2 E.w3 E.w4 E.w5 E.w6 E.w7 E.w8 E.w9 E.w10 E.w11 E.w12 E.w13 E.w14 E.w15 i
def rdS (s : S) : E → V:=S.rec (motive:=fun _=>E → V) rdD (fun k e=>C.at_ e.c k) s
def wrS (s : S) : V → E → E:=S.rec (motive:=fun _=>V → E → E) wrD E.wc s
theorem U2t {s : S} (h : s.ok) (v : V) (e : E) : rdS s (wrS s v e) = v:=by
 obtain ⟨a0,a1,a2,a3,a4,a5,a6,a7,a8,a9,a10,a11,a12,a13,a14,a15,c⟩:=e
 cases s with
 | a i=>cases i <;> rfl
 | b k=>exact C.at_put_same c v h
theorem W1m {s s' : S} (h' : s'.ok) (v : V) (e : E) (h : s' ≠ s) : rdS s (wrS s' v e) = rdS s e:=by
 obtain ⟨a0,a1,a2,a3,a4,a5,a6,a7,a8,a9,a10,a11,a12,a13,a14,a15,c⟩:=e
 cases s' with
 | a i =>
  cases s with
  | a j=>cases i <;> cases j <;> first | rfl | exact absurd rfl h
  | b k=>cases i <;> rfl
 | b k =>
  cases s with
  | a j=>cases j <;> rfl
  | b q=>exact C.at_put_ne c v h' (fun e=>h (by rw [e]))
theorem rd_nil (s : S) : rdS s E.nil = .u:=by
 cases s with
 | a i=>cases i <;> rfl
 | b k=>rfl
inductive O where
 | dead
 | cells (n : Nat) (c : C) (z : Bool)
 | map (es : List (V × V)) (bs : List Nat) (cl : Nat)
 | sit (l : List Nat) (pos : Nat)
 | lp (id : Nat) (e : E) (st : Nat) (j : Nat)
 | mit (r : Nat) (bs : List Nat) (since cnt last : Nat)
structure B1 where
 c0 : O
 c1 : O
 c2 : O
 c3 : O
 c4 : O
 c5 : O
 c6 : O
 c7 : O
 c8 : O
 c9 : O
 c10 : O
 c11 : O
 c12 : O
 c13 : O
 c14 : O
 c15 : O
def B1.u0 (x : O) (t : B1) : B1:=B1.rec (motive:=fun _=>B1) (fun c0 c1 c2 c3 c4 c5 c6 c7 c8 c9 c10 c11 c12 c13 c14 c15=>⟨x,c1,c2,c3,c4,c5,c6,c7,c8,c9,c10,c11,c12,c13,c14,c15⟩) t
def B1.u1 (x : O) (t : B1) : B1:=B1.rec (motive:=fun _=>B1) (fun c0 c1 c2 c3 c4 c5 c6 c7 c8 c9 c10 c11 c12 c13 c14 c15=>⟨c0,x,c2,c3,c4,c5,c6,c7,c8,c9,c10,c11,c12,c13,c14,c15⟩) t
def B1.u2 (x : O) (t : B1) : B1:=B1.rec (motive:=fun _=>B1) (fun c0 c1 c2 c3 c4 c5 c6 c7 c8 c9 c10 c11 c12 c13 c14 c15=>⟨c0,c1,x,c3,c4,c5,c6,c7,c8,c9,c10,c11,c12,c13,c14,c15⟩) t
def B1.u3 (x : O) (t : B1) : B1:=B1.rec (motive:=fun _=>B1) (fun c0 c1 c2 c3 c4 c5 c6 c7 c8 c9 c10 c11 c12 c13 c14 c15=>⟨c0,c1,c2,x,c4,c5,c6,c7,c8,c9,c10,c11,c12,c13,c14,c15⟩) t
def B1.u4 (x : O) (t : B1) : B1:=B1.rec (motive:=fun _=>B1) (fun c0 c1 c2 c3 c4 c5 c6 c7 c8 c9 c10 c11 c12 c13 c14 c15=>⟨c0,c1,c2,c3,x,c5,c6,c7,c8,c9,c10,c11,c12,c13,c14,c15⟩) t
def B1.u5 (x : O) (t : B1) : B1:=B1.rec (motive:=fun _=>B1) (fun c0 c1 c2 c3 c4 c5 c6 c7 c8 c9 c10 c11 c12 c13 c14 c15=>⟨c0,c1,c2,c3,c4,x,c6,c7,c8,c9,c10,c11,c12,c13,c14,c15⟩) t
def B1.u6 (x : O) (t : B1) : B1:=B1.rec (motive:=fun _=>B1) (fun c0 c1 c2 c3 c4 c5 c6 c7 c8 c9 c10 c11 c12 c13 c14 c15=>⟨c0,c1,c2,c3,c4,c5,x,c7,c8,c9,c10,c11,c12,c13,c14,c15⟩) t
def B1.u7 (x : O) (t : B1) : B1:=B1.rec (motive:=fun _=>B1) (fun c0 c1 c2 c3 c4 c5 c6 c7 c8 c9 c10 c11 c12 c13 c14 c15=>⟨c0,c1,c2,c3,c4,c5,c6,x,c8,c9,c10,c11,c12,c13,c14,c15⟩) t
def B1.u8 (x : O) (t : B1) : B1:=B1.rec (motive:=fun _=>B1) (fun c0 c1 c2 c3 c4 c5 c6 c7 c8 c9 c10 c11 c12 c13 c14 c15=>⟨c0,c1,c2,c3,c4,c5,c6,c7,x,c9,c10,c11,c12,c13,c14,c15⟩) t
def B1.u9 (x : O) (t : B1) : B1:=B1.rec (motive:=fun _=>B1) (fun c0 c1 c2 c3 c4 c5 c6 c7 c8 c9 c10 c11 c12 c13 c14 c15=>⟨c0,c1,c2,c3,c4,c5,c6,c7,c8,x,c10,c11,c12,c13,c14,c15⟩) t
def B1.u10 (x : O) (t : B1) : B1:=B1.rec (motive:=fun _=>B1) (fun c0 c1 c2 c3 c4 c5 c6 c7 c8 c9 c10 c11 c12 c13 c14 c15=>⟨c0,c1,c2,c3,c4,c5,c6,c7,c8,c9,x,c11,c12,c13,c14,c15⟩) t
def B1.u11 (x : O) (t : B1) : B1:=B1.rec (motive:=fun _=>B1) (fun c0 c1 c2 c3 c4 c5 c6 c7 c8 c9 c10 c11 c12 c13 c14 c15=>⟨c0,c1,c2,c3,c4,c5,c6,c7,c8,c9,c10,x,c12,c13,c14,c15⟩) t
def B1.u12 (x : O) (t : B1) : B1:=B1.rec (motive:=fun _=>B1) (fun c0 c1 c2 c3 c4 c5 c6 c7 c8 c9 c10 c11 c12 c13 c14 c15=>⟨c0,c1,c2,c3,c4,c5,c6,c7,c8,c9,c10,c11,x,c13,c14,c15⟩) t
def B1.u13 (x : O) (t : B1) : B1:=B1.rec (motive:=fun _=>B1) (fun c0 c1 c2 c3 c4 c5 c6 c7 c8 c9 c10 c11 c12 c13 c14 c15=>⟨c0,c1,c2,c3,c4,c5,c6,c7,c8,c9,c10,c11,c12,x,c14,c15⟩) t
def B1.u14 (x : O) (t : B1) : B1:=B1.rec (motive:=fun _=>B1) (fun c0 c1 c2 c3 c4 c5 c6 c7 c8 c9 c10 c11 c12 c13 c14 c15=>⟨c0,c1,c2,c3,c4,c5,c6,c7,c8,c9,c10,c11,c12,c13,x,c15⟩) t
def B1.u15 (x : O) (t : B1) : B1:=B1.rec (motive:=fun _=>B1) (fun c0 c1 c2 c3 c4 c5 c6 c7 c8 c9 c10 c11 c12 c13 c14 c15=>⟨c0,c1,c2,c3,c4,c5,c6,c7,c8,c9,c10,c11,c12,c13,c14,x⟩) t
structure SB1 where
 s : B1 → O
 u : O → B1 → B1
def sB1 (d : D) : SB1:=D.rec (motive:=fun _=>SB1) ⟨B1.c0,B1.u0⟩ ⟨B1.c1,B1.u1⟩ ⟨B1.c2,B1.u2⟩ ⟨B1.c3,B1.u3⟩ ⟨B1.c4,B1.u4⟩ ⟨B1.c5,B1.u5⟩ ⟨B1.c6,B1.u6⟩ ⟨B1.c7,B1.u7⟩ ⟨B1.c8,B1.u8⟩ ⟨B1.c9,B1.u9⟩ ⟨B1.c10,B1.u10⟩ ⟨B1.c11,B1.u11⟩ ⟨B1.c12,B1.u12⟩ ⟨B1.c13,B1.u13⟩ ⟨B1.c14,B1.u14⟩ ⟨B1.c15,B1.u15⟩ d
theorem B1.same (d : D) (x : O) (t : B1) : (sB1 d).s ((sB1 d).u x t) = x:=by cases d <;> rfl
theorem B1.other {d d' : D} (h : d ≠ d') (x : O) (t : B1) : (sB1 d).s ((sB1 d').u x t) = (sB1 d).s t:=by cases d <;> cases d' <;> first | rfl | exact absurd rfl h
structure B2 where
 c0 : B1
 c1 : B1
 c2 : B1
 c3 : B1
 c4 : B1
 c5 : B1
 c6 : B1
 c7 : B1
 c8 : B1
 c9 : B1
 c10 : B1
 c11 : B1
 c12 : B1
 c13 : B1
 c14 : B1
 c15 : B1
def B2.u0 (x : B1) (t : B2) : B2:=B2.rec (motive:=fun _=>B2) (fun c0 c1 c2 c3 c4 c5 c6 c7 c8 c9 c10 c11 c12 c13 c14 c15=>⟨x,c1,c2,c3,c4,c5,c6,c7,c8,c9,c10,c11,c12,c13,c14,c15⟩) t
def B2.u1 (x : B1) (t : B2) : B2:=B2.rec (motive:=fun _=>B2) (fun c0 c1 c2 c3 c4 c5 c6 c7 c8 c9 c10 c11 c12 c13 c14 c15=>⟨c0,x,c2,c3,c4,c5,c6,c7,c8,c9,c10,c11,c12,c13,c14,c15⟩) t
def B2.u2 (x : B1) (t : B2) : B2:=B2.rec (motive:=fun _=>B2) (fun c0 c1 c2 c3 c4 c5 c6 c7 c8 c9 c10 c11 c12 c13 c14 c15=>⟨c0,c1,x,c3,c4,c5,c6,c7,c8,c9,c10,c11,c12,c13,c14,c15⟩) t
def B2.u3 (x : B1) (t : B2) : B2:=B2.rec (motive:=fun _=>B2) (fun c0 c1 c2 c3 c4 c5 c6 c7 c8 c9 c10 c11 c12 c13 c14 c15=>⟨c0,c1,c2,x,c4,c5,c6,c7,c8,c9,c10,c11,c12,c13,c14,c15⟩) t
def B2.u4 (x : B1) (t : B2) : B2:=B2.rec (motive:=fun _=>B2) (fun c0 c1 c2 c3 c4 c5 c6 c7 c8 c9 c10 c11 c12 c13 c14 c15=>⟨c0,c1,c2,c3,x,c5,c6,c7,c8,c9,c10,c11,c12,c13,c14,c15⟩) t
def B2.u5 (x : B1) (t : B2) : B2:=B2.rec (motive:=fun _=>B2) (fun c0 c1 c2 c3 c4 c5 c6 c7 c8 c9 c10 c11 c12 c13 c14 c15=>⟨c0,c1,c2,c3,c4,x,c6,c7,c8,c9,c10,c11,c12,c13,c14,c15⟩) t
def B2.u6 (x : B1) (t : B2) : B2:=B2.rec (motive:=fun _=>B2) (fun c0 c1 c2 c3 c4 c5 c6 c7 c8 c9 c10 c11 c12 c13 c14 c15=>⟨c0,c1,c2,c3,c4,c5,x,c7,c8,c9,c10,c11,c12,c13,c14,c15⟩) t
def B2.u7 (x : B1) (t : B2) : B2:=B2.rec (motive:=fun _=>B2) (fun c0 c1 c2 c3 c4 c5 c6 c7 c8 c9 c10 c11 c12 c13 c14 c15=>⟨c0,c1,c2,c3,c4,c5,c6,x,c8,c9,c10,c11,c12,c13,c14,c15⟩) t
def B2.u8 (x : B1) (t : B2) : B2:=B2.rec (motive:=fun _=>B2) (fun c0 c1 c2 c3 c4 c5 c6 c7 c8 c9 c10 c11 c12 c13 c14 c15=>⟨c0,c1,c2,c3,c4,c5,c6,c7,x,c9,c10,c11,c12,c13,c14,c15⟩) t
def B2.u9 (x : B1) (t : B2) : B2:=B2.rec (motive:=fun _=>B2) (fun c0 c1 c2 c3 c4 c5 c6 c7 c8 c9 c10 c11 c12 c13 c14 c15=>⟨c0,c1,c2,c3,c4,c5,c6,c7,c8,x,c10,c11,c12,c13,c14,c15⟩) t
def B2.u10 (x : B1) (t : B2) : B2:=B2.rec (motive:=fun _=>B2) (fun c0 c1 c2 c3 c4 c5 c6 c7 c8 c9 c10 c11 c12 c13 c14 c15=>⟨c0,c1,c2,c3,c4,c5,c6,c7,c8,c9,x,c11,c12,c13,c14,c15⟩) t
def B2.u11 (x : B1) (t : B2) : B2:=B2.rec (motive:=fun _=>B2) (fun c0 c1 c2 c3 c4 c5 c6 c7 c8 c9 c10 c11 c12 c13 c14 c15=>⟨c0,c1,c2,c3,c4,c5,c6,c7,c8,c9,c10,x,c12,c13,c14,c15⟩) t
def B2.u12 (x : B1) (t : B2) : B2:=B2.rec (motive:=fun _=>B2) (fun c0 c1 c2 c3 c4 c5 c6 c7 c8 c9 c10 c11 c12 c13 c14 c15=>⟨c0,c1,c2,c3,c4,c5,c6,c7,c8,c9,c10,c11,x,c13,c14,c15⟩) t
def B2.u13 (x : B1) (t : B2) : B2:=B2.rec (motive:=fun _=>B2) (fun c0 c1 c2 c3 c4 c5 c6 c7 c8 c9 c10 c11 c12 c13 c14 c15=>⟨c0,c1,c2,c3,c4,c5,c6,c7,c8,c9,c10,c11,c12,x,c14,c15⟩) t
def B2.u14 (x : B1) (t : B2) : B2:=B2.rec (motive:=fun _=>B2) (fun c0 c1 c2 c3 c4 c5 c6 c7 c8 c9 c10 c11 c12 c13 c14 c15=>⟨c0,c1,c2,c3,c4,c5,c6,c7,c8,c9,c10,c11,c12,c13,x,c15⟩) t
def B2.u15 (x : B1) (t : B2) : B2:=B2.rec (motive:=fun _=>B2) (fun c0 c1 c2 c3 c4 c5 c6 c7 c8 c9 c10 c11 c12 c13 c14 c15=>⟨c0,c1,c2,c3,c4,c5,c6,c7,c8,c9,c10,c11,c12,c13,c14,x⟩) t
structure SB2 where
 s : B2 → B1
 u : B1 → B2 → B2
def sB2 (d : D) : SB2:=D.rec (motive:=fun _=>SB2) ⟨B2.c0,B2.u0⟩ ⟨B2.c1,B2.u1⟩ ⟨B2.c2,B2.u2⟩ ⟨B2.c3,B2.u3⟩ ⟨B2.c4,B2.u4⟩ ⟨B2.c5,B2.u5⟩ ⟨B2.c6,B2.u6⟩ ⟨B2.c7,B2.u7⟩ ⟨B2.c8,B2.u8⟩ ⟨B2.c9,B2.u9⟩ ⟨B2.c10,B2.u10⟩ ⟨B2.c11,B2.u11⟩ ⟨B2.c12,B2.u12⟩ ⟨B2.c13,B2.u13⟩ ⟨B2.c14,B2.u14⟩ ⟨B2.c15,B2.u15⟩ d
theorem B2.same (d : D) (x : B1) (t : B2) : (sB2 d).s ((sB2 d).u x t) = x:=by cases d <;> rfl
theorem B2.other {d d' : D} (h : d ≠ d') (x : B1) (t : B2) : (sB2 d).s ((sB2 d').u x t) = (sB2 d).s t:=by cases d <;> cases d' <;> first | rfl | exact absurd rfl h
structure B3 where
 c0 : B2
 c1 : B2
 c2 : B2
 c3 : B2
 c4 : B2
 c5 : B2
 c6 : B2
 c7 : B2
 c8 : B2
 c9 : B2
 c10 : B2
 c11 : B2
 c12 : B2
 c13 : B2
 c14 : B2
 c15 : B2
def B3.u0 (x : B2) (t : B3) : B3:=B3.rec (motive:=fun _=>B3) (fun c0 c1 c2 c3 c4 c5 c6 c7 c8 c9 c10 c11 c12 c13 c14 c15=>⟨x,c1,c2,c3,c4,c5,c6,c7,c8,c9,c10,c11,c12,c13,c14,c15⟩) t
def B3.u1 (x : B2) (t : B3) : B3:=B3.rec (motive:=fun _=>B3) (fun c0 c1 c2 c3 c4 c5 c6 c7 c8 c9 c10 c11 c12 c13 c14 c15=>⟨c0,x,c2,c3,c4,c5,c6,c7,c8,c9,c10,c11,c12,c13,c14,c15⟩) t
def B3.u2 (x : B2) (t : B3) : B3:=B3.rec (motive:=fun _=>B3) (fun c0 c1 c2 c3 c4 c5 c6 c7 c8 c9 c10 c11 c12 c13 c14 c15=>⟨c0,c1,x,c3,c4,c5,c6,c7,c8,c9,c10,c11,c12,c13,c14,c15⟩) t
def B3.u3 (x : B2) (t : B3) : B3:=B3.rec (motive:=fun _=>B3) (fun c0 c1 c2 c3 c4 c5 c6 c7 c8 c9 c10 c11 c12 c13 c14 c15=>⟨c0,c1,c2,x,c4,c5,c6,c7,c8,c9,c10,c11,c12,c13,c14,c15⟩) t
def B3.u4 (x : B2) (t : B3) : B3:=B3.rec (motive:=fun _=>B3) (fun c0 c1 c2 c3 c4 c5 c6 c7 c8 c9 c10 c11 c12 c13 c14 c15=>⟨c0,c1,c2,c3,x,c5,c6,c7,c8,c9,c10,c11,c12,c13,c14,c15⟩) t
def B3.u5 (x : B2) (t : B3) : B3:=B3.rec (motive:=fun _=>B3) (fun c0 c1 c2 c3 c4 c5 c6 c7 c8 c9 c10 c11 c12 c13 c14 c15=>⟨c0,c1,c2,c3,c4,x,c6,c7,c8,c9,c10,c11,c12,c13,c14,c15⟩) t
def B3.u6 (x : B2) (t : B3) : B3:=B3.rec (motive:=fun _=>B3) (fun c0 c1 c2 c3 c4 c5 c6 c7 c8 c9 c10 c11 c12 c13 c14 c15=>⟨c0,c1,c2,c3,c4,c5,x,c7,c8,c9,c10,c11,c12,c13,c14,c15⟩) t
def B3.u7 (x : B2) (t : B3) : B3:=B3.rec (motive:=fun _=>B3) (fun c0 c1 c2 c3 c4 c5 c6 c7 c8 c9 c10 c11 c12 c13 c14 c15=>⟨c0,c1,c2,c3,c4,c5,c6,x,c8,c9,c10,c11,c12,c13,c14,c15⟩) t
def B3.u8 (x : B2) (t : B3) : B3:=B3.rec (motive:=fun _=>B3) (fun c0 c1 c2 c3 c4 c5 c6 c7 c8 c9 c10 c11 c12 c13 c14 c15=>⟨c0,c1,c2,c3,c4,c5,c6,c7,x,c9,c10,c11,c12,c13,c14,c15⟩) t
def B3.u9 (x : B2) (t : B3) : B3:=B3.rec (motive:=fun _=>B3) (fun c0 c1 c2 c3 c4 c5 c6 c7 c8 c9 c10 c11 c12 c13 c14 c15=>⟨c0,c1,c2,c3,c4,c5,c6,c7,c8,x,c10,c11,c12,c13,c14,c15⟩) t
def B3.u10 (x : B2) (t : B3) : B3:=B3.rec (motive:=fun _=>B3) (fun c0 c1 c2 c3 c4 c5 c6 c7 c8 c9 c10 c11 c12 c13 c14 c15=>⟨c0,c1,c2,c3,c4,c5,c6,c7,c8,c9,x,c11,c12,c13,c14,c15⟩) t
def B3.u11 (x : B2) (t : B3) : B3:=B3.rec (motive:=fun _=>B3) (fun c0 c1 c2 c3 c4 c5 c6 c7 c8 c9 c10 c11 c12 c13 c14 c15=>⟨c0,c1,c2,c3,c4,c5,c6,c7,c8,c9,c10,x,c12,c13,c14,c15⟩) t
def B3.u12 (x : B2) (t : B3) : B3:=B3.rec (motive:=fun _=>B3) (fun c0 c1 c2 c3 c4 c5 c6 c7 c8 c9 c10 c11 c12 c13 c14 c15=>⟨c0,c1,c2,c3,c4,c5,c6,c7,c8,c9,c10,c11,x,c13,c14,c15⟩) t
def B3.u13 (x : B2) (t : B3) : B3:=B3.rec (motive:=fun _=>B3) (fun c0 c1 c2 c3 c4 c5 c6 c7 c8 c9 c10 c11 c12 c13 c14 c15=>⟨c0,c1,c2,c3,c4,c5,c6,c7,c8,c9,c10,c11,c12,x,c14,c15⟩) t
def B3.u14 (x : B2) (t : B3) : B3:=B3.rec (motive:=fun _=>B3) (fun c0 c1 c2 c3 c4 c5 c6 c7 c8 c9 c10 c11 c12 c13 c14 c15=>⟨c0,c1,c2,c3,c4,c5,c6,c7,c8,c9,c10,c11,c12,c13,x,c15⟩) t
def B3.u15 (x : B2) (t : B3) : B3:=B3.rec (motive:=fun _=>B3) (fun c0 c1 c2 c3 c4 c5 c6 c7 c8 c9 c10 c11 c12 c13 c14 c15=>⟨c0,c1,c2,c3,c4,c5,c6,c7,c8,c9,c10,c11,c12,c13,c14,x⟩) t
structure SB3 where
 s : B3 → B2
 u : B2 → B3 → B3
def sB3 (d : D) : SB3:=D.rec (motive:=fun _=>SB3) ⟨B3.c0,B3.u0⟩ ⟨B3.c1,B3.u1⟩ ⟨B3.c2,B3.u2⟩ ⟨B3.c3,B3.u3⟩ ⟨B3.c4,B3.u4⟩ ⟨B3.c5,B3.u5⟩ ⟨B3.c6,B3.u6⟩ ⟨B3.c7,B3.u7⟩ ⟨B3.c8,B3.u8⟩ ⟨B3.c9,B3.u9⟩ ⟨B3.c10,B3.u10⟩ ⟨B3.c11,B3.u11⟩ ⟨B3.c12,B3.u12⟩ ⟨B3.c13,B3.u13⟩ ⟨B3.c14,B3.u14⟩ ⟨B3.c15,B3.u15⟩ d
theorem B3.same (d : D) (x : B2) (t : B3) : (sB3 d).s ((sB3 d).u x t) = x:=by cases d <;> rfl
theorem B3.other {d d' : D} (h : d ≠ d') (x : B2) (t : B3) : (sB3 d).s ((sB3 d').u x t) = (sB3 d).s t:=by cases d <;> cases d' <;> first | rfl | exact absurd rfl h
structure B4 where
 c0 : B3
 c1 : B3
 c2 : B3
 c3 : B3
 c4 : B3
 c5 : B3
 c6 : B3
 c7 : B3
 c8 : B3
 c9 : B3
 c10 : B3
 c11 : B3
 c12 : B3
 c13 : B3
 c14 : B3
 c15 : B3
def B4.u0 (x : B3) (t : B4) : B4:=B4.rec (motive:=fun _=>B4) (fun c0 c1 c2 c3 c4 c5 c6 c7 c8 c9 c10 c11 c12 c13 c14 c15=>⟨x,c1,c2,c3,c4,c5,c6,c7,c8,c9,c10,c11,c12,c13,c14,c15⟩) t
def B4.u1 (x : B3) (t : B4) : B4:=B4.rec (motive:=fun _=>B4) (fun c0 c1 c2 c3 c4 c5 c6 c7 c8 c9 c10 c11 c12 c13 c14 c15=>⟨c0,x,c2,c3,c4,c5,c6,c7,c8,c9,c10,c11,c12,c13,c14,c15⟩) t
def B4.u2 (x : B3) (t : B4) : B4:=B4.rec (motive:=fun _=>B4) (fun c0 c1 c2 c3 c4 c5 c6 c7 c8 c9 c10 c11 c12 c13 c14 c15=>⟨c0,c1,x,c3,c4,c5,c6,c7,c8,c9,c10,c11,c12,c13,c14,c15⟩) t
def B4.u3 (x : B3) (t : B4) : B4:=B4.rec (motive:=fun _=>B4) (fun c0 c1 c2 c3 c4 c5 c6 c7 c8 c9 c10 c11 c12 c13 c14 c15=>⟨c0,c1,c2,x,c4,c5,c6,c7,c8,c9,c10,c11,c12,c13,c14,c15⟩) t
def B4.u4 (x : B3) (t : B4) : B4:=B4.rec (motive:=fun _=>B4) (fun c0 c1 c2 c3 c4 c5 c6 c7 c8 c9 c10 c11 c12 c13 c14 c15=>⟨c0,c1,c2,c3,x,c5,c6,c7,c8,c9,c10,c11,c12,c13,c14,c15⟩) t
def B4.u5 (x : B3) (t : B4) : B4:=B4.rec (motive:=fun _=>B4) (fun c0 c1 c2 c3 c4 c5 c6 c7 c8 c9 c10 c11 c12 c13 c14 c15=>⟨c0,c1,c2,c3,c4,x,c6,c7,c8,c9,c10,c11,c12,c13,c14,c15⟩) t
def B4.u6 (x : B3) (t : B4) : B4:=B4.rec (motive:=fun _=>B4) (fun c0 c1 c2 c3 c4 c5 c6 c7 c8 c9 c10 c11 c12 c13 c14 c15=>⟨c0,c1,c2,c3,c4,c5,x,c7,c8,c9,c10,c11,c12,c13,c14,c15⟩) t
def B4.u7 (x : B3) (t : B4) : B4:=B4.rec (motive:=fun _=>B4) (fun c0 c1 c2 c3 c4 c5 c6 c7 c8 c9 c10 c11 c12 c13 c14 c15=>⟨c0,c1,c2,c3,c4,c5,c6,x,c8,c9,c10,c11,c12,c13,c14,c15⟩) t
def B4.u8 (x : B3) (t : B4) : B4:=B4.rec (motive:=fun _=>B4) (fun c0 c1 c2 c3 c4 c5 c6 c7 c8 c9 c10 c11 c12 c13 c14 c15=>⟨c0,c1,c2,c3,c4,c5,c6,c7,x,c9,c10,c11,c12,c13,c14,c15⟩) t
def B4.u9 (x : B3) (t : B4) : B4:=B4.rec (motive:=fun _=>B4) (fun c0 c1 c2 c3 c4 c5 c6 c7 c8 c9 c10 c11 c12 c13 c14 c15=>⟨c0,c1,c2,c3,c4,c5,c6,c7,c8,x,c10,c11,c12,c13,c14,c15⟩) t
def B4.u10 (x : B3) (t : B4) : B4:=B4.rec (motive:=fun _=>B4) (fun c0 c1 c2 c3 c4 c5 c6 c7 c8 c9 c10 c11 c12 c13 c14 c15=>⟨c0,c1,c2,c3,c4,c5,c6,c7,c8,c9,x,c11,c12,c13,c14,c15⟩) t
def B4.u11 (x : B3) (t : B4) : B4:=B4.rec (motive:=fun _=>B4) (fun c0 c1 c2 c3 c4 c5 c6 c7 c8 c9 c10 c11 c12 c13 c14 c15=>⟨c0,c1,c2,c3,c4,c5,c6,c7,c8,c9,c10,x,c12,c13,c14,c15⟩) t
def B4.u12 (x : B3) (t : B4) : B4:=B4.rec (motive:=fun _=>B4) (fun c0 c1 c2 c3 c4 c5 c6 c7 c8 c9 c10 c11 c12 c13 c14 c15=>⟨c0,c1,c2,c3,c4,c5,c6,c7,c8,c9,c10,c11,x,c13,c14,c15⟩) t
def B4.u13 (x : B3) (t : B4) : B4:=B4.rec (motive:=fun _=>B4) (fun c0 c1 c2 c3 c4 c5 c6 c7 c8 c9 c10 c11 c12 c13 c14 c15=>⟨c0,c1,c2,c3,c4,c5,c6,c7,c8,c9,c10,c11,c12,x,c14,c15⟩) t
def B4.u14 (x : B3) (t : B4) : B4:=B4.rec (motive:=fun _=>B4) (fun c0 c1 c2 c3 c4 c5 c6 c7 c8 c9 c10 c11 c12 c13 c14 c15=>⟨c0,c1,c2,c3,c4,c5,c6,c7,c8,c9,c10,c11,c12,c13,x,c15⟩) t
def B4.u15 (x : B3) (t : B4) : B4:=B4.rec (motive:=fun _=>B4) (fun c0 c1 c2 c3 c4 c5 c6 c7 c8 c9 c10 c11 c12 c13 c14 c15=>⟨c0,c1,c2,c3,c4,c5,c6,c7,c8,c9,c10,c11,c12,c13,c14,x⟩) t
structure SB4 where
 s : B4 → B3
 u : B3 → B4 → B4
def sB4 (d : D) : SB4:=D.rec (motive:=fun _=>SB4) ⟨B4.c0,B4.u0⟩ ⟨B4.c1,B4.u1⟩ ⟨B4.c2,B4.u2⟩ ⟨B4.c3,B4.u3⟩ ⟨B4.c4,B4.u4⟩ ⟨B4.c5,B4.u5⟩ ⟨B4.c6,B4.u6⟩ ⟨B4.c7,B4.u7⟩ ⟨B4.c8,B4.u8⟩ ⟨B4.c9,B4.u9⟩ ⟨B4.c10,B4.u10⟩ ⟨B4.c11,B4.u11⟩ ⟨B4.c12,B4.u12⟩ ⟨B4.c13,B4.u13⟩ ⟨B4.c14,B4.u14⟩ ⟨B4.c15,B4.u15⟩ d
theorem B4.same (d : D) (x : B3) (t : B4) : (sB4 d).s ((sB4 d).u x t) = x:=by cases d <;> rfl
theorem B4.other {d d' : D} (h : d ≠ d') (x : B3) (t : B4) : (sB4 d).s ((sB4 d').u x t) = (sB4 d).s t:=by cases d <;> cases d' <;> first | rfl | exact absurd rfl h
def B1.nil : B1:=⟨.dead,.dead,.dead,.dead,.dead,.dead,.dead,.dead,.dead,.dead,.dead,.dead,.dead,.dead,.dead,.dead⟩
def B2.nil : B2:=⟨B1.nil,B1.nil,B1.nil,B1.nil,B1.nil,B1.nil,B1.nil,B1.nil,B1.nil,B1.nil,B1.nil,B1.nil,B1.nil,B1.nil,B1.nil,B1.nil⟩
def B3.nil : B3:=⟨B2.nil,B2.nil,B2.nil,B2.nil,B2.nil,B2.nil,B2.nil,B2.nil,B2.nil,B2.nil,B2.nil,B2.nil,B2.nil,B2.nil,B2.nil,B2.nil⟩
def B4.nil : B4:=⟨B3.nil,B3.nil,B3.nil,B3.nil,B3.nil,B3.nil,B3.nil,B3.nil,B3.nil,B3.nil,B3.nil,B3.nil,B3.nil,B3.nil,B3.nil,B3.nil⟩
inductive HQ where
 | big (p : Nat) (d : SB4) (c : SB3) (b : SB2) (a : SB1) | q4 (d : SB4) (c : SB3) (b : SB2) (a : SB1) | q3 (c : SB3) (b : SB2) (a : SB1)
def hq (n : Nat) : HQ :=
 Bool.rec (Bool.rec (.big (Nat.div n 65536) (sB4 (D.of (Nat.div n 4096))) (sB3 (D.of (Nat.div n 256))) (sB2 (D.of (Nat.div n 16))) (sB1 (D.of n))) (.q4 (sB4 (D.of (Nat.div n 4096))) (sB3 (D.of (Nat.div n 256))) (sB2 (D.of (Nat.div n 16))) (sB1 (D.of n))) (Nat.ble n 65535))
  (.q3 (sB3 (D.of (Nat.div n 256))) (sB2 (D.of (Nat.div n 16))) (sB1 (D.of n))) (Nat.ble n 4095)
structure HT where
 lo : B3
 hi : B4
 r : List (Nat × B4)
namespace HT
def e : HT:=⟨B3.nil,B4.nil,[]⟩
def U4y (n : Nat) (l : List (Nat × B4)) : B4:=List.rec (motive:=fun _=>B4) B4.nil (fun x _ ih=>Bool.rec ih x.2 (Nat.beq x.1 n)) l
def G6l (n : Nat) (x : B4) (l : List (Nat × B4)) : List (Nat × B4):=List.rec (motive:=fun _=>List (Nat × B4)) [(n,x)] (fun p r ih=>Bool.rec (p::ih) ((n,x)::r) (Nat.beq p.1 n)) l
def getq (q : HQ) : HT → O:=HQ.rec (motive:=fun _=>HT → O) (fun p d c b a t=>a.s (b.s (c.s (d.s (U4y p t.r))))) (fun d c b a t=>a.s (b.s (c.s (d.s t.hi)))) (fun c b a t=>a.s (b.s (c.s t.lo))) q
def get (n : Nat) (t : HT) : O:=getq (hq n) t
def p3 (c : SB3) (b : SB2) (a : SB1) (x : O) (t : B3) : B3:=c.u (b.u (a.u x (b.s (c.s t))) (c.s t)) t
def p4 (d : SB4) (c : SB3) (b : SB2) (a : SB1) (x : O) (t : B4) : B4:=d.u (c.u (b.u (a.u x (b.s (c.s (d.s t)))) (c.s (d.s t))) (d.s t)) t
def setq (q : HQ) : O → HT → HT:=HQ.rec (motive:=fun _=>O → HT → HT)
 (fun p d c b a x t=>HT.rec (motive:=fun _=>HT) (fun lo hi r=>⟨lo,hi,G6l p (p4 d c b a x (U4y p r)) r⟩) t)
 (fun d c b a x t=>HT.rec (motive:=fun _=>HT) (fun lo hi r=>⟨lo,p4 d c b a x hi,r⟩) t)
 (fun c b a x t=>HT.rec (motive:=fun _=>HT) (fun lo hi r=>⟨p3 c b a x lo,hi,r⟩) t) q
def set (x : O) (n : Nat) (t : HT) : HT:=setq (hq n) x t
end HT
namespace HT
def g4 (d c b a : D) (t : B4) : O:=(sB1 a).s ((sB2 b).s ((sB3 c).s ((sB4 d).s t)))
def g3 (c b a : D) (t : B3) : O:=(sB1 a).s ((sB2 b).s ((sB3 c).s t))
def w4 (d c b a : D) (x : O) (t : B4) : B4:=p4 (sB4 d) (sB3 c) (sB2 b) (sB1 a) x t
def w3 (c b a : D) (x : O) (t : B3) : B3:=p3 (sB3 c) (sB2 b) (sB1 a) x t
theorem Q7m (c b a : D) (x : O) (t : B3) : g3 c b a (w3 c b a x t) = x:=by unfold g3 w3 p3; rw [B3.same,B2.same,B1.same]
theorem U0l (d c b a : D) (x : O) (t : B4) : g4 d c b a (w4 d c b a x t) = x:=by unfold g4 w4 p4; rw [B4.same,B3.same,B2.same,B1.same]
theorem W2h {c b a c' b' a' : D} (h : ¬ (c = c' ∧ b = b' ∧ a = a')) (x : O) (t : B3) : g3 c b a (w3 c' b' a' x t) = g3 c b a t:=by
 unfold g3 w3 p3
 by_cases h3 : c = c'
 ·subst h3
  rw [B3.same]
  by_cases h2 : b = b'
  ·subst h2
   rw [B2.same]
   by_cases h1 : a = a'
   ·subst h1; exact absurd ⟨rfl,rfl,rfl⟩ h
   ·rw [B1.other h1]
  ·rw [B2.other h2]
 ·rw [B3.other h3]
theorem J7a {d c b a d' c' b' a' : D} (h : ¬ (d = d' ∧ c = c' ∧ b = b' ∧ a = a')) (x : O) (t : B4) : g4 d c b a (w4 d' c' b' a' x t) = g4 d c b a t:=by
 unfold g4 w4 p4
 by_cases h4 : d = d'
 ·subst h4
  rw [B4.same]
  have:=W2h (c:=c) (b:=b) (a:=a) (c':=c') (b':=b') (a':=a') (by rintro ⟨h1,h2,h3⟩; exact h ⟨rfl,h1,h2,h3⟩) x ((sB4 d).s t)
  exact this
 ·rw [B4.other h4]
theorem J9e (n : Nat) : (65536 ≤ n ∧ hq n = .big (n / 65536) (sB4 (D.of (n / 4096))) (sB3 (D.of (n / 256))) (sB2 (D.of (n / 16))) (sB1 (D.of n))) ∨ (4096 ≤ n ∧ n < 65536 ∧ hq n = .q4 (sB4 (D.of (n / 4096))) (sB3 (D.of (n / 256))) (sB2 (D.of (n / 16))) (sB1 (D.of n))) ∨
  (n < 4096 ∧ hq n = .q3 (sB3 (D.of (n / 256))) (sB2 (D.of (n / 16))) (sB1 (D.of n))):=by
 have ble : ∀ m,Nat.ble n m = true → n ≤ m:=fun m h=>Nat.le_of_ble_eq_true h
 have nble : ∀ m,Nat.ble n m = false → m < n:=fun m h=>by
  have : ¬ n ≤ m:=fun k=>by rw [Nat.ble_eq_true_of_le k] at h; cases h
  omega
 unfold hq
 cases h3 : Nat.ble n 4095 with
 | true=>exact .inr (.inr ⟨by have:=ble _ h3; omega,rfl⟩)
 | false =>
  cases h4 : Nat.ble n 65535 with
  | true=>exact .inr (.inl ⟨nble _ h3,by have:=ble _ h4; omega,rfl⟩)
  | false=>exact .inl ⟨nble _ h4,rfl⟩
theorem J3l (n : Nat) (x : B4) : ∀ l,U4y n (G6l n x l) = x
 | []=>by show Bool.rec (motive:=fun _=>B4) (U4y n []) x (Nat.beq n n) = x; rw [Nat.beq_refl]
 | p::l=>by
  show U4y n (Bool.rec (motive:=fun _=>List (Nat × B4)) (p::G6l n x l) ((n,x)::l) (Nat.beq p.1 n)) = x
  cases hb : Nat.beq p.1 n
  ·show Bool.rec (motive:=fun _=>B4) (U4y n (G6l n x l)) p.2 (Nat.beq p.1 n) = x
   rw [hb]; exact J3l n x l
  ·show Bool.rec (motive:=fun _=>B4) (U4y n l) x (Nat.beq n n) = x
   rw [Nat.beq_refl]
theorem J8n {n m : Nat} (x : B4) (hne : n ≠ m) : ∀ l,U4y m (G6l n x l) = U4y m l
 | []=>by
  show Bool.rec (motive:=fun _=>B4) (U4y m []) x (Nat.beq n m) = _
  cases hb : Nat.beq n m
  ·rfl
  ·exact absurd (Nat.eq_of_beq_eq_true hb) hne
 | p::l=>by
  show U4y m (Bool.rec (motive:=fun _=>List (Nat × B4)) (p::G6l n x l) ((n,x)::l) (Nat.beq p.1 n)) = Bool.rec (motive:=fun _=>B4) (U4y m l) p.2 (Nat.beq p.1 m)
  cases hb : Nat.beq p.1 n
  ·show Bool.rec (motive:=fun _=>B4) (U4y m (G6l n x l)) p.2 (Nat.beq p.1 m) = _
   rw [J8n x hne l]
  ·have:=Nat.eq_of_beq_eq_true hb
   rw [this]
   show Bool.rec (motive:=fun _=>B4) (U4y m l) x (Nat.beq n m) = Bool.rec (motive:=fun _=>B4) (U4y m l) p.2 (Nat.beq n m)
   cases hb : Nat.beq n m
   ·rfl
   ·exact absurd (Nat.eq_of_beq_eq_true hb) hne
theorem get_set_same (x : O) (n : Nat) (t : HT) : get n (set x n t) = x:=by
 unfold get set
 rcases J9e n with ⟨_,h⟩ | ⟨_,_,h⟩ | ⟨_,h⟩ <;> rw [h]
 ·show g4 _ _ _ _ (U4y (n / 65536) (G6l (n / 65536) _ t.r)) = x
  rw [J3l]; exact U0l _ _ _ _ _ _
 ·exact U0l _ _ _ _ _ _
 ·exact Q7m _ _ _ _ _
theorem get_set_ne (x : O) (n m : Nat) (t : HT) (hne : n ≠ m) : get m (set x n t) = get m t:=by
 unfold get set
 have digits : D.of (m / 256) = D.of (n / 256) → D.of (m / 16) = D.of (n / 16) → D.of m = D.of n → m % 4096 = n % 4096:=by
  intro h1 h2 h3
  have h1:=D.of_inj h1
  have h2:=D.of_inj h2
  have h3:=D.of_inj h3
  omega
 obtain ⟨lo,hi,r⟩:=t
 rcases J9e n with ⟨hn,h⟩ | ⟨hn,hn2,h⟩ | ⟨hn,h⟩ <;> rw [h] <;> rcases J9e m with ⟨hm,k⟩ | ⟨hm,hm2,k⟩ | ⟨hm,k⟩ <;> rw [k]
 ·show g4 _ _ _ _ (U4y (m / 65536) (G6l (n / 65536) (w4 _ _ _ _ x (U4y (n / 65536) r)) r)) = g4 _ _ _ _ (U4y (m / 65536) r)
  by_cases hp : n / 65536 = m / 65536
  ·rw [hp,J3l]
   refine J7a ?_ x _
   rintro ⟨h1,h2,h3,h4⟩
   have:=digits h2 h3 h4
   have h1:=D.of_inj h1
   omega
  ·rw [J8n _ hp]
 all_goals try rfl
 ·refine J7a ?_ x hi
  rintro ⟨h1,h2,h3,h4⟩
  have:=digits h2 h3 h4
  have h1:=D.of_inj h1
  omega
 ·refine W2h ?_ x lo
  rintro ⟨h2,h3,h4⟩
  have:=digits h2 h3 h4
  omega
theorem get_e (n : Nat) : get n e = .dead:=by
 have h4 : ∀ d,(sB4 d).s B4.nil = B3.nil:=by intro d; cases d <;> rfl
 have h3 : ∀ d,(sB3 d).s B3.nil = B2.nil:=by intro d; cases d <;> rfl
 have h2 : ∀ d,(sB2 d).s B2.nil = B1.nil:=by intro d; cases d <;> rfl
 have h1 : ∀ d,(sB1 d).s B1.nil = .dead:=by intro d; cases d <;> rfl
 unfold get
 rcases J9e n with ⟨_,h⟩ | ⟨_,_,h⟩ | ⟨_,h⟩ <;> rw [h]
 ·show (sB1 _).s ((sB2 _).s ((sB3 _).s ((sB4 _).s B4.nil))) = .dead; rw [h4,h3,h2,h1]
 ·show (sB1 _).s ((sB2 _).s ((sB3 _).s ((sB4 _).s B4.nil))) = .dead; rw [h4,h3,h2,h1]
 ·show (sB1 _).s ((sB2 _).s ((sB3 _).s B3.nil)) = .dead; rw [h3,h2,h1]
end HT
structure H where
 next : Nat
 cb : Nat
 co : O
 t : HT
def H.e : H:=⟨0,0,.dead,HT.e⟩
def H.get (h : H) (b : Nat) : O:=Bool.rec (HT.get b h.t) h.co (Nat.beq h.cb b)
structure Bs where
 n : Nat
 ok : M → Nat → E → Loop → Prop
 mono : ∀ {μ μ' : M} {id : Nat} {e : E} {r : Loop},M.le μ μ' → ok μ id e r → ok μ' id e r
 same : ∀ {μ : M} {id : Nat} {e : E} {r : Loop} (st : LoopState) (pd : Option Code),ok μ id e r → ok μ id e { r with state:=st,pending:=pd }
def stN : LoopState → Nat
 | .ready=>0
 | .busy=>1
 | .done=>2
 | .exhausted=>3
def jN : Option Code → Option Nat
 | none=>some 0
 | some .ret=>some 1
 | some (.exit id)=>some (id + 2)
 | _=>none
def ER (μ : M) : List (V × V) → List MapEntry → Prop
 | [],l=>l = []
 | x::xs,l=>∃ e es,l = e::es ∧ VR μ x.1 e.key ∧ VR μ x.2 e.val ∧ ER μ xs es
theorem ER.mono {μ μ' : M} (h : M.le μ μ') : ∀ {x : List (V × V)} {y : List MapEntry},ER μ x y → ER μ' x y
 | [],_,e=>e
 | _::_,_,⟨e,es,h1,h2,h3,h4⟩=>⟨e,es,h1,VR.mono h _ _ h2,VR.mono h _ _ h3,ER.mono h h4⟩
def OR (B : Bs) (μ : M) (w : World) (g q N : Nat) : O → Prop
 | .dead=>True
 | .cells n c z=>∃ cur e fr,w.heap[g]? = some (.cells cur e fr) ∧ (z = true → fr = (0,0)) ∧ n ≤ N ∧ q + N ≤ cur.size ∧ (∀ i,i < N → ¬ (fr.1 ≤ q + i ∧ q + i < fr.2)) ∧
   ∀ i,i < n → ∃ v,cur[q + i]? = some v ∧ VR μ (C.at_ c i) v
 | .map es bs cl=>∃ ms,w.heap[g]? = some (.map ms cl) ∧ ER μ es ms.toList ∧ ms.toList.map (·.born) = bs ∧ bs.Nodup ∧ ∀ b ∈ bs,b < cl
 | .sit l pos=>∃ s,w.heap[g]? = some (.stringIter s pos) ∧ (bytesOf s).drop pos = l ∧ q = 0
 | .lp id e st j=>∃ r,w.heap[g]? = some (.loop r) ∧ B.ok μ id e r ∧ stN r.state = st ∧ jN r.pending = some j
 | .mit m bs since cnt last=>q = 0 ∧ ∃ gr qr seen,μ m = some (gr,qr) ∧ w.heap[g]? = some (.mapIter (some gr) since seen last) ∧ since ≤ last ∧ seen.size = cnt ∧ seen.toList.Nodup ∧ (∀ b ∈ seen.toList,b ∈ bs) ∧ ∀ b ∈ bs,b < since
theorem OR.mono {B : Bs} {μ μ' : M} {w w' : World} {g q N : Nat} {o : O} (h : OR B μ w g q N o) (hm : M.le μ μ') (hw : w'.heap[g]? = w.heap[g]?) : OR B μ' w' g q N o:=by
 cases o with
 | dead=>trivial
 | cells n c z =>
  obtain ⟨cur,e,fr,h1,h2,h21,h22,h23,h3⟩:=h
  refine ⟨cur,e,fr,hw.trans h1,h2,h21,h22,h23,fun i hi=>?_⟩
  obtain ⟨v,h5,h6⟩:=h3 i hi
  exact ⟨v,h5,VR.mono hm _ _ h6⟩
 | map es bs cl =>
  obtain ⟨ms,h1,h2,h3,h4⟩:=h
  exact ⟨ms,hw.trans h1,h2.mono hm,h3,h4⟩
 | sit l pos =>
  obtain ⟨s,h1,h2⟩:=h
  exact ⟨s,hw.trans h1,h2⟩
 | lp id e st j =>
  obtain ⟨r,h1,h2,h3,h4⟩:=h
  exact ⟨r,hw.trans h1,B.mono hm h2,h3,h4⟩
 | mit m bs since cnt last =>
  obtain ⟨hq,gr,qr,seen,h0,h1,h2⟩:=h
  exact ⟨hq,gr,qr,seen,(hm _ _ h0).1,hw.trans h1,h2⟩
structure HR (B : Bs) (μ : M) (h : H) (w : World) : Prop where
 base : B.n ≤ w.heap.size
 dom : ∀ b x,μ b = some x → b < h.next
 obj : ∀ b,h.get b ≠ .dead → ∃ g q,μ b = some (g,q) ∧ B.n ≤ g ∧ OR B μ w g q (μ.cap b) (h.get b)
 inj : ∀ b b' g q g' q',h.get b ≠ .dead → h.get b' ≠ .dead → μ b = some (g,q) → μ b' = some (g',q') → g = g' → b = b'
structure Ext (μ : M) (h : H) (w : World) (μ' : M) (h' : H) (w' : World) : Prop where
 le : M.le μ μ'
 next : h.next ≤ h'.next
 os : w'.os = w.os
 tape : w'.tape = w.tape
 output : w'.output = w.output
 size : w.heap.size ≤ w'.heap.size
 frame : ∀ g,g < w.heap.size → (∀ b q,h.get b ≠ .dead → μ b ≠ some (g,q)) → w'.heap[g]? = w.heap[g]?
 catch_ : ∀ b g q,h'.get b ≠ .dead → μ' b = some (g,q) → g < w.heap.size → ∃ b0 q0,h.get b0 ≠ .dead ∧ μ b0 = some (g,q0)
 old : ∀ b,b < h.next → μ' b = μ b
theorem Ext.refl (μ : M) (h : H) (w : World) : Ext μ h w μ h w :=
 ⟨M.le_refl _,Nat.le_refl _,rfl,rfl,rfl,Nat.le_refl _,fun _ _ _=>rfl,fun b _ q h1 h2 _=>⟨b,q,h1,h2⟩,fun _ _=>rfl⟩
theorem Ext.trans {μ μ' μ'' : M} {h h' h'' : H} {w w' w'' : World} (a : Ext μ h w μ' h' w') (b : Ext μ' h' w' μ'' h'' w'') : Ext μ h w μ'' h'' w'':=by
 refine ⟨M.le_trans a.le b.le,Nat.le_trans a.next b.next,b.os.trans a.os,b.tape.trans a.tape,b.output.trans a.output,Nat.le_trans a.size b.size,?_,?_,fun b' hb=>(b.old b' (Nat.lt_of_lt_of_le hb a.next)).trans (a.old b' hb)⟩
 ·intro g hg hn
  refine (b.frame g (Nat.lt_of_lt_of_le hg a.size) ?_).trans (a.frame g hg hn)
  intro b' q h1 h2
  obtain ⟨b0,q0,h3,h4⟩:=a.catch_ b' g q h1 h2 hg
  exact hn b0 q0 h3 h4
 ·intro b' g q h1 h2 hg
  obtain ⟨b0,q0,h3,h4⟩:=b.catch_ b' g q h1 h2 (Nat.lt_of_lt_of_le hg a.size)
  exact a.catch_ b0 g q0 h3 h4 hg
theorem HR.drew {B : Bs} {μ : M} {h : H} {w : World} (r : HR B μ h w) : HR B μ h w.drew :=
 ⟨r.base,r.dom,fun b hb=>by obtain ⟨g,q,h1,h2,h3⟩:=r.obj b hb; exact ⟨g,q,h1,h2,h3.mono (M.le_refl _) rfl⟩,r.inj⟩
theorem Ext.drew {μ : M} {h : H} {w : World} : Ext μ h w μ h w.drew :=
 ⟨M.le_refl _,Nat.le_refl _,rfl,rfl,rfl,Nat.le_refl _,fun _ _ _=>rfl,fun b _ q h1 h2 _=>⟨b,q,h1,h2⟩,fun _ _=>rfl⟩
end Go.X
end
