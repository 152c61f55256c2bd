/- The abstract machine's operations, all in one: what each is (off the program's table of types), and what it does. -/
import Derived.Test.YthhcifmblnbokaaGreatDoorXc
set_option linter.all false
set_option maxRecDepth 100000
noncomputable section
namespace Go.X
open Go.RowKit
abbrev TT:=Nat → Option (TypeDesc × TypeInfo)
def stFl (tt : TT) (l : List Field) : Nat → Bool :=
 List.rec (motive:=fun _=>Nat → Bool) (fun _=>true) (fun f _ ih j=>Bool.rec false (match tt f.type with
  | some (d,_)=>match d with
   | .int _=>ih (Nat.add j 1)
   | _=>false
  | none=>false) (Nat.beq f.offset j)) l
def stT (tt : TT) (t : Nat) : Bool :=
 match tt t with
 | some (d,_)=>match d with
  | .struct fs=>stFl tt fs.toList 0
  | _=>false
 | none=>false
def stKs (tt : TT) (l : List Field) : Nat → Option (List Bool) :=
 List.rec (motive:=fun _=>Nat → Option (List Bool)) (fun _=>some []) (fun f _ ih j=>Bool.rec none (match tt f.type with
  | some (d,_)=>match d with
   | .int _=>(ih (Nat.add j 1)).map (false::·)
   | .string=>(ih (Nat.add j 1)).map (true::·)
   | _=>none
  | none=>none) (Nat.beq f.offset j)) l
def Q6z (o : Option (List Bool)) : Option (List Bool):=match o with | some l=>(match l with | true::_=>none | l=>some l) | none=>none
theorem W4k {o : Option (List Bool)} {l : List Bool} (h : Q6z o = some l) : o = some l:=by
 unfold Q6z at h
 split at h
 ·split at h
  ·cases h
  ·exact h
 ·cases h
def stK (tt : TT) (t : Nat) : Option (List Bool) :=
 match tt t with
 | some (d,_)=>match d with
  | .struct fs=>Q6z (stKs tt fs.toList 0)
  | _=>none
 | none=>none
structure TTok (P : Program) (tt : TT) : Prop where
 ok : ∀ t d i,tt t = some (d,i) → P.underlying t = some d ∧ P.info? t = some i
 st : ∀ t fs, stT tt t = true → P.underlying t = some (.struct fs) → (∀ f ∈ fs.toList, f.name ≠ "_") ∧ P.stoodInHeld t = false ∧ P.eqGuardType P.depth t = false
 sk : ∀ t fs ks, stK tt t = some ks → P.underlying t = some (.struct fs) → (∀ f ∈ fs.toList, f.name ≠ "_") ∧ P.stoodInHeld t = false ∧ P.eqGuardType P.depth t = false
instance {P : Program} {tt : TT} : CoeFun (TTok P tt) (fun _=>∀ t d i,tt t = some (d,i) → P.underlying t = some d ∧ P.info? t = some i):=⟨TTok.ok⟩
theorem U6d {P : Program} {tt : TT} (hT : ∀ t d i,tt t = some (d,i) → P.underlying t = some d ∧ P.info? t = some i) : ∀ (l : List Field) (j : Nat) (ks : List Bool),stKs tt l j = some ks → l.length = ks.length ∧
  ∀ (n : Nat) (f : Field),l[n]? = some f → f.offset = j + n ∧ (ks[n]? = some false → ∃ k,P.underlying f.type = some (.int k)) ∧ (ks[n]? = some true → P.underlying f.type = some .string)
 | [],_,ks,h=>by cases h; exact ⟨rfl,by simp⟩
 | x::l,j,ks,h=>by
  have h2 : (Bool.rec none (match tt x.type with
   | some (d,_)=>(match d with
    | .int _=>(stKs tt l (Nat.add j 1)).map (false::·)
    | .string=>(stKs tt l (Nat.add j 1)).map (true::·)
    | _=>none)
   | none=>none) (Nat.beq x.offset j) : Option (List Bool)) = some ks:=h
  cases hb : Nat.beq x.offset j <;> rw [hb] at h2
  ·cases h2
  have hoff:=Nat.eq_of_beq_eq_true hb
  cases hx : tt x.type with
  | none=>rw [hx] at h2; cases h2
  | some di =>
   obtain ⟨d,i⟩:=di
   rw [hx] at h2
   have hd:=(hT _ _ _ hx).1
   cases d <;> simp only at h2 <;> try (cases h2; done)
   all_goals
    cases hr : stKs tt l (Nat.add j 1) <;> rw [hr] at h2
    ·cases h2
    rename_i ks'
    cases h2
    obtain ⟨e1,e2⟩:=U6d hT l (Nat.add j 1) ks' hr
    refine ⟨by simp [e1],fun n f hn=>?_⟩
    cases n with
    | zero =>
     simp at hn; subst hn
     exact ⟨by omega,by simp [hd],by simp [hd]⟩
    | succ n =>
     simp only [List.getElem?_cons_succ] at hn ⊢
     obtain ⟨q1,q2⟩:=e2 n f hn
     exact ⟨by rw [q1]; simp only [Nat.add_eq]; omega,q2⟩
theorem U6e {P : Program} {tt : TT} (hT : TTok P tt) : ∀ (l : List Field) (j : Nat),stFl tt l j = true → ∀ (n : Nat) (f : Field),l[n]? = some f → f.offset = j + n ∧ ∃ k,P.underlying f.type = some (.int k)
 | [],_,_,n,f,h=>by simp at h
 | x::l,j,h,n,f,hn=>by
  have h2 : (Bool.rec false (match tt x.type with | some (d,_)=>(match d with | .int _=>stFl tt l (Nat.add j 1) | _=>false) | none=>false) (Nat.beq x.offset j) : Bool) = true:=h
  cases hb : Nat.beq x.offset j <;> rw [hb] at h2
  ·cases h2
  cases hx : tt x.type with
  | none=>rw [hx] at h2; cases h2
  | some di =>
   obtain ⟨d,i⟩:=di
   rw [hx] at h2
   cases d <;> simp only at h2 <;> try (cases h2; done)
   rename_i k
   cases n with
   | zero =>
    simp at hn; subst hn
    exact ⟨Nat.eq_of_beq_eq_true hb,k,(hT _ _ _ hx).1⟩
   | succ n =>
    simp at hn
    obtain ⟨h3,h4⟩:=U6e hT l (j + 1) h2 n f hn
    exact ⟨by omega,h4⟩
def J3d {α β : Type} (f : α → Option β) (l : List α) : Option (List β) :=
 List.rec (motive:=fun _=>Option (List β)) (some []) (fun x _ ih=>match f x with | some y=>(match ih with | some l=>some (y::l) | none=>none) | none=>none) l
def vOf : Nat → Value → Option V
 | 0,_=>none
 | n + 1,v=>match v with
  | .bool b=>some (.b b)
  | .int k m=>some (.i k m)
  | .float k b=>some (.f k b)
  | .string s=>some (.s (bytesOf s))
  | .pointer none=>some .pn
  | .slice none 0 0=>some .sn
  | .map none=>some .mn
  | .nilFunc=>some .fnil
  | .nilIface=>some .inil
  | .func f a c=>match J3d (vOf n) a.toList with
   | some a=>match J3d (vOf n) c.toList with
    | some c=>some (.fn f a c)
    | none=>none
   | none=>none
  | .iface t v=>match vOf n v with | some v=>some (.ifc t v) | none=>none
  | .agg cs=>match J3d (vOf n) cs.toList with | some l=>some (.ag l) | none=>none
  | .tuple cs=>match J3d (vOf n) cs.toList with | some l=>some (.tu l) | none=>none
  | _=>none
theorem J3s {α β : Type} {f : α → Option β} {x : α} {xs : List α} {l : List β} (h : J3d f (x::xs) = some l) : ∃ y ys,f x = some y ∧ J3d f xs = some ys ∧ l = y::ys:=by
 have h2 : (match f x with | some y=>(match J3d f xs with | some l=>some (y::l) | none=>none) | none=>none) = some l:=h
 cases h1 : f x <;> rw [h1] at h2
 ·cases h2
 rename_i y
 cases h3 : J3d f xs <;> rw [h3] at h2
 ·cases h2
 simp only [Option.some.injEq] at h2
 exact ⟨y,_,rfl,rfl,h2.symm⟩
theorem J6u {α β : Type} {f : α → Option β} {l : List β} (h : J3d f [] = some l) : l = []:=(Option.some.inj h).symm
theorem J6t {μ : M} {f : Value → Option V} (hf : ∀ x v,f x = some v → VR μ v x) : ∀ {xs : List Value} {l : List V},J3d f xs = some l → VRs μ l xs
 | [],l,h=>by rw [J6u h]; exact VRs.nil_iff.2 rfl
 | x::xs,l,h=>by
  obtain ⟨y,ys,h1,h2,rfl⟩:=J3s h
  exact VRs.cons_mk (hf _ _ h1) (J6t hf h2)
theorem J6g {μ : M} : ∀ (n : Nat) (x : Value) (v : V),vOf n x = some v → VR μ v x
 | 0,x,v,h=>by simp [vOf] at h
 | n + 1,x,v,h=>by
  have ih:=J6g (μ:=μ) n
  unfold vOf at h
  split at h
  case h_1=>simp only [Option.some.injEq] at h; subst h; simp only [VR]
  case h_2=>simp only [Option.some.injEq] at h; subst h; simp only [VR]
  case h_3=>simp only [Option.some.injEq] at h; subst h; simp only [VR]
  case h_4=>simp only [Option.some.injEq] at h; subst h; simp only [VR]; exact ⟨_,rfl,rfl⟩
  case h_5=>simp only [Option.some.injEq] at h; subst h; simp only [VR]
  case h_6=>simp only [Option.some.injEq] at h; subst h; simp only [VR]
  case h_7=>simp only [Option.some.injEq] at h; subst h; simp only [VR]
  case h_8=>simp only [Option.some.injEq] at h; subst h; simp only [VR]
  case h_9=>simp only [Option.some.injEq] at h; subst h; simp only [VR]
  case h_10 f a c =>
   cases h1 : J3d (vOf n) a.toList <;> rw [h1] at h
   ·cases h
   cases h2 : J3d (vOf n) c.toList <;> rw [h2] at h
   ·cases h
   simp only [Option.some.injEq] at h; subst h; simp only [VR]
   exact ⟨_,_,rfl,J6t ih h1,J6t ih h2⟩
  case h_11 t y =>
   cases h1 : vOf n y <;> rw [h1] at h
   ·cases h
   simp only [Option.some.injEq] at h; subst h; simp only [VR]
   exact ⟨_,rfl,ih _ _ h1⟩
  case h_12 cs =>
   cases h1 : J3d (vOf n) cs.toList <;> rw [h1] at h
   ·cases h
   simp only [Option.some.injEq] at h; subst h; simp only [VR]
   exact ⟨_,rfl,J6t ih h1⟩
  case h_13 cs =>
   cases h1 : J3d (vOf n) cs.toList <;> rw [h1] at h
   ·cases h
   simp only [Option.some.injEq] at h; subst h; simp only [VR]
   exact ⟨_,rfl,J6t ih h1⟩
  case h_14=>cases h
inductive K where
 | mv | pick
 | ld (m : Option Nat) | st (m : Nat)
 | nck | bin (op : BinOp) | eq (neg : Bool) (e : EK) | not | neg | com
 | cvI (k : IntKind) | cvS | sb | bs
 | mki (t : Nat) | mkf (f : Fn) (na : Nat)
 | fa (off : Nat) | fl (off : Nat) (m : Option Nat)
 | ia (arr : Option Nat) (size : Nat) | ix (arr : Option (Nat × Nat × Option Nat))
 | slS (lo hi : Bool) | slA (n size : Nat) (lo hi mx : Bool) | slL (size : Nat) (lo hi mx : Bool)
 | box | alloc (n : Nat) (t : C) | bld (zs : List V) (pl : List (Nat × Nat)) | bsl (zs : List V) (len : Nat) (pl : List (Nat × Nat))
 | mks (size bytes : Nat) (zs : List V) | mkm | sa (n : Nat)
 | lnL | lnS | lnM | lnc (n : Nat) | cap
 | app (size bytes : Nat) (str : Bool) | cpy (size : Nat) (str : Bool) | min | del (kk : KY)
 | lk (kk : KY) (ok : Bool) (zero : V) | mu (kk : KY)
 | ta (t : Nat) (ok : Bool) (zero : V) | ex (n : Nat)
 | rgs | nxs | rgm | nxm | enm | cvM | clr (size : Nat) (zs : List V) | apz (size bytes : Nat) (zs : List V)
def J0q (h : H) (x : Option V) : Option (V × H):=match x with | some v=>some (v,h) | none=>none
def U5z (h : Option H) : Option (V × H):=match h with | some h=>some (.u,h) | none=>none
def opt (b : Bool) (l : List V) (k : Option V → List V → Option (V × H)) : Option (V × H) :=
 Bool.rec (k none l) (match l with | x::l=>k (some x) l | []=>none) b
def capV (x : V) : Option V :=
 match x with
 | .sn=>some (.i .i64 (.ofNat 0))
 | .se=>some .u
 | .sl _ _ _ cap ex=>Bool.rec (some .u) (some (.i .i64 (.ofNat cap))) ex
 | _=>none
def minV (x y : V) : Option V :=
 match x with
 | .i k a=>match y with | .i k' b=>Bool.rec none (some (.i k (Bool.rec a b (ltI b a)))) (Nat.beq (kno k) (kno k')) | _=>none
 | _=>none
def pickV (c x y : V) : Option V:=match c with | .b b=>some (Bool.rec y x b) | _=>none
def notV (x : V) : Option V:=match x with | .b b=>some (.b (Bool.rec true false b)) | _=>none
def negV (x : V) : Option V:=match x with | .i k n=>some (.i k (wr k (Int.sub 0 n))) | _=>none
def comV (x : V) : Option V:=match x with | .i k n=>some (.i k (U5u .xor k (if k.signed then -1 else k.max) n)) | _=>none
def cvIV (k : IntKind) (x : V) : Option V:=match x with | .i _ n=>some (.i k (wr k n)) | .q _ _ _ _ _=>Bool.rec none (some (.q 0 0 k 0 255)) (Nat.beq (kno k) 4) | _=>none
def mvF  (h : H) (l : List V) : Option (V × H):=match l with | [x]=>some (x,h) | _=>none
def J5e  (h : H) (l : List V) : Option (V × H):=match l with | [c,x,y]=>J0q h (pickV c x y) | _=>none
def ldF (m : Option Nat) (h : H) (l : List V) : Option (V × H):=match l with | [x]=>J0q h (ldV h m x) | _=>none
def stF (m : Nat) (h : H) (l : List V) : Option (V × H):=match l with | [a,x]=>U5z (stV h m a x) | _=>none
def U8o  (h : H) (l : List V) : Option (V × H):=match l with | [x]=>J0q h (Q6k x) | _=>none
def U9k (op : BinOp) (h : H) (l : List V) : Option (V × H):=match l with | [x,y]=>J0q h (U5v op x y) | _=>none
def eqF (neg : Bool) (e : EK) (h : H) (l : List V) : Option (V × H):=match l with | [x,y]=>(match eqV e h x y with | some b=>some (.b (Bool.rec b (Bool.rec true false b) neg),h) | none=>none) | _=>none
def U8m  (h : H) (l : List V) : Option (V × H):=match l with | [x]=>J0q h (notV x) | _=>none
def U8n  (h : H) (l : List V) : Option (V × H):=match l with | [x]=>J0q h (negV x) | _=>none
def U9e  (h : H) (l : List V) : Option (V × H):=match l with | [x]=>J0q h (comV x) | _=>none
def U9c (k : IntKind) (h : H) (l : List V) : Option (V × H):=match l with | [x]=>J0q h (cvIV k x) | _=>none
def U9b  (h : H) (l : List V) : Option (V × H):=match l with | [x]=>(match x with | .s l=>some (.s l,h) | _=>none) | _=>none
def sbF  (h : H) (l : List V) : Option (V × H):=match l with | [x]=>sbV h x | _=>none
def bsF  (h : H) (l : List V) : Option (V × H):=match l with | [x]=>J0q h (bsV h x) | _=>none
def U8r (t : Nat) (h : H) (l : List V) : Option (V × H):=match l with | [x]=>some (.ifc t x,h) | _=>none
def U8s (f : Fn) (na : Nat) (h : H) (l : List V) : Option (V × H):=some (.fn f (l.take na) (l.drop na),h)
def faF (off : Nat) (h : H) (l : List V) : Option (V × H):=match l with | [x]=>J0q h (faV off x) | _=>none
def flF (off : Nat) (m : Option Nat) (h : H) (l : List V) : Option (V × H):=match l with | [x]=>J0q h (flV off m x) | _=>none
def iaF (arr : Option Nat) (size : Nat) (h : H) (l : List V) : Option (V × H):=match l with | [x,y]=>J0q h (iaV arr size x y) | _=>none
def ixF (arr : Option (Nat × Nat × Option Nat)) (h : H) (l : List V) : Option (V × H):=match l with | [x,y]=>J0q h (ixV arr x y) | _=>none
def U8i (lo : Bool) (hi : Bool) (h : H) (l : List V) : Option (V × H):=match l with | x::l=>opt lo l fun lo l=>opt hi l fun hi l=>J0q h (slS x lo hi) | _=>none
def U8k (n : Nat) (size : Nat) (lo : Bool) (hi : Bool) (mx : Bool) (h : H) (l : List V) : Option (V × H):=match l with | x::l=>opt lo l fun lo l=>opt hi l fun hi l=>opt mx l fun mx l=>J0q h (slA n size x lo hi mx) | _=>none
def U8j (size : Nat) (lo : Bool) (hi : Bool) (mx : Bool) (h : H) (l : List V) : Option (V × H):=match l with | x::l=>opt lo l fun lo l=>opt hi l fun hi l=>opt mx l fun mx l=>slL size h x lo hi mx | _=>none
def U9i  (h : H) (l : List V) : Option (V × H):=match l with | [x]=>bxV h x | _=>none
def J2r (n : Nat) (t : C) (h : H) (l : List V) : Option (V × H):=some (W5u h n t)
def U9j (zs : List V) (pl : List (Nat × Nat)) (h : H) (l : List V) : Option (V × H):=match W0o zs zs.length (pl.zip l) with | some l=>some (.ag l,h) | none=>none
def U9h (zs : List V) (len : Nat) (pl : List (Nat × Nat)) (h : H) (l : List V) : Option (V × H):=bslV h zs len (pl.zip l)
def U8p (size : Nat) (bytes : Nat) (zs : List V) (h : H) (l : List V) : Option (V × H):=match l with | [x,y]=>mksV h size bytes zs x y | _=>none
def U8q  (h : H) (l : List V) : Option (V × H):=some (mkmV h)
def saF (n : Nat) (h : H) (l : List V) : Option (V × H):=match l with | [x]=>J0q h (saV n x) | _=>none
def U8y  (h : H) (l : List V) : Option (V × H):=match l with | [x]=>J0q h (lnL x) | _=>none
def U8w  (h : H) (l : List V) : Option (V × H):=match l with | [x]=>J0q h (lnS x) | _=>none
def U8x  (h : H) (l : List V) : Option (V × H):=match l with | [x]=>J0q h (lnM h x) | _=>none
def U8v (n : Nat) (h : H) (l : List V) : Option (V × H):=some (.i .i64 (.ofNat n),h)
def U9g  (h : H) (l : List V) : Option (V × H):=match l with | [x]=>J0q h (capV x) | _=>none
def U9l (size : Nat) (bytes : Nat) (str : Bool) (h : H) (l : List V) : Option (V × H):=match l with | [x,y]=>appV h size bytes str x y | _=>none
def U9d (size : Nat) (str : Bool) (h : H) (l : List V) : Option (V × H):=match l with | [x,y]=>cpyV h size str x y | _=>none
def U8t  (h : H) (l : List V) : Option (V × H):=match l with | [x,y]=>J0q h (minV x y) | _=>none
def U9a (kk : KY) (h : H) (l : List V) : Option (V × H):=match l with | [x,y]=>(match delV h kk x y with | some h=>some (.tu [],h) | none=>none) | _=>none
def lkF (kk : KY) (ok : Bool) (zero : V) (h : H) (l : List V) : Option (V × H):=match l with | [x,y]=>J0q h (lkV h kk ok zero x y) | _=>none
def muF (kk : KY) (h : H) (l : List V) : Option (V × H):=match l with | [x,y,z]=>U5z (muV h kk x y z) | _=>none
def taF (t : Nat) (ok : Bool) (zero : V) (h : H) (l : List V) : Option (V × H):=match l with | [x]=>J0q h (taV t ok zero x) | _=>none
def exF (n : Nat) (h : H) (l : List V) : Option (V × H):=match l with | [x]=>J0q h (exV n x) | _=>none
def rgsF  (h : H) (l : List V) : Option (V × H):=match l with | [x]=>rgsV h x | _=>none
def rgmF (h : H) (l : List V) : Option (V × H):=match l with | [x]=>rgmV h x | _=>none
def nxmF (h : H) (l : List V) : Option (V × H):=match l with | [x]=>nxmV h x | _=>none
def enmF (h : H) (l : List V) : Option (V × H):=match l with | [x]=>J0q h (enmV h x) | _=>none
def nxsF  (h : H) (l : List V) : Option (V × H):=match l with | [x]=>nxsV h x | _=>none
def cvMF  (h : H) (l : List V) : Option (V × H):=match l with | [x]=>cvMV h x | _=>none
def clrF (size : Nat) (zs : List V) (h : H) (l : List V) : Option (V × H):=match l with | [x]=>clrV h size zs x | _=>none
def apzF (size bytes : Nat) (zs : List V) (h : H) (l : List V) : Option (V × H):=match l with | [x,y]=>apzV h size bytes zs x y | _=>none
def opK (k : K) (h : H) (l : List V) : Option (V × H) :=
 match k with
 | .mv =>mvF  h l
 | .pick =>J5e  h l
 | .ld m=>ldF m h l
 | .st m=>stF m h l
 | .nck =>U8o  h l
 | .bin op=>U9k op h l
 | .eq neg e=>eqF neg e h l
 | .not =>U8m  h l
 | .neg =>U8n  h l
 | .com =>U9e  h l
 | .cvI k=>U9c k h l
 | .cvS =>U9b  h l
 | .sb =>sbF  h l
 | .bs =>bsF  h l
 | .mki t=>U8r t h l
 | .mkf f na=>U8s f na h l
 | .fa off=>faF off h l
 | .fl off m=>flF off m h l
 | .ia arr size=>iaF arr size h l
 | .ix arr=>ixF arr h l
 | .slS lo hi=>U8i lo hi h l
 | .slA n size lo hi mx=>U8k n size lo hi mx h l
 | .slL size lo hi mx=>U8j size lo hi mx h l
 | .box =>U9i  h l
 | .alloc n t=>J2r n t h l
 | .bld zs pl=>U9j zs pl h l
 | .bsl zs len pl=>U9h zs len pl h l
 | .mks size bytes zs=>U8p size bytes zs h l
 | .mkm =>U8q  h l
 | .sa n=>saF n h l
 | .lnL =>U8y  h l
 | .lnS =>U8w  h l
 | .lnM =>U8x  h l
 | .lnc n=>U8v n h l
 | .cap =>U9g  h l
 | .app size bytes str=>U9l size bytes str h l
 | .cpy size str=>U9d size str h l
 | .min =>U8t  h l
 | .del kk=>U9a kk h l
 | .lk kk ok zero=>lkF kk ok zero h l
 | .mu kk=>muF kk h l
 | .ta t ok zero=>taF t ok zero h l
 | .ex n=>exF n h l
 | .rgs=>rgsF h l
 | .nxs=>nxsF h l
 | .rgm=>rgmF h l
 | .nxm=>nxmF h l
 | .enm=>enmF h l
 | .cvM=>cvMF h l
 | .clr size zs=>clrF size zs h l
 | .apz size bytes zs=>apzF size bytes zs h l
end Go.X
namespace Go.X
open Go.RowKit
def J5z : TypeDesc → Option TypeId | .slice e=>some e | _=>none
def J9g : TypeDesc → Option (Array Field) | .struct f=>some f | _=>none
def W2u : TypeDesc → Option IntKind | .int k=>some k | _=>none
theorem J2a {d : TypeDesc} {e : TypeId} (h : J5z d = some e) : d = .slice e:=by cases d <;> simp_all [J5z]
theorem J7l {d : TypeDesc} {e : Array Field} (h : J9g d = some e) : d = .struct e:=by cases d <;> simp_all [J9g]
theorem U1j {d : TypeDesc} {e : IntKind} (h : W2u d = some e) : d = .int e:=by cases d <;> simp_all [W2u]
theorem U9u {n : Nat} (h : (!(Nat.beq n 0)) = true) : n ≠ 0:=by
 intro e; subst e; cases h
abbrev KO:=Option (K × List Operand)
def J2m {α : Type} (b : Bool) (x : α) : Option α:=Bool.rec none (some x) b
theorem J0p {α : Type} {b : Bool} {x y : α} (h : J2m b x = some y) : b = true ∧ x = y:=by
 cases b
 ·cases h
 ·exact ⟨rfl,Option.some.inj h⟩
def Q7a (tt : TT) (t : Nat) (a : Operand) : KO:=(tt t).bind fun d=>some (.ld (J9v d.1 d.2.size),[a])
def G1m (tt : TT) (t : Nat) (a x : Operand) : KO:=(tt t).bind fun d=>some (.st d.2.size,[a,x])
def kFA (tt : TT) (s : Nat) (x : Operand) (f : Nat) : KO :=
 (tt s).bind fun d=>(J9g d.1).bind fun fs=>(fs.toList[f]?).bind fun fl=>(tt fl.type).bind fun e=>J2m (!(Nat.beq e.2.size 0)) (.fa fl.offset,[x])
def kFL (tt : TT) (s : Nat) (x : Operand) (f : Nat) : KO :=
 (tt s).bind fun d=>(J9g d.1).bind fun fs=>(fs.toList[f]?).bind fun fl=>(tt fl.type).bind fun e=>some (.fl fl.offset (J9v e.1 e.2.size),[x])
def kIA (tt : TT) (t : Nat) (x ix : Operand) : KO :=
 (tt t).bind fun d=>match d.1 with
  | .slice e=>(tt e).bind fun e=>some (.ia none e.2.size,[x,ix])
  | .array n e=>(tt e).bind fun e=>some (.ia (some n) e.2.size,[x,ix])
  | _=>none
def kIX (tt : TT) (t : Nat) (x ix : Operand) : KO :=
 (tt t).bind fun d=>match d.1 with
  | .string=>some (.ix none,[x,ix])
  | .array n e=>(tt e).bind fun e=>some (.ix (some (n,e.2.size,J9v e.1 e.2.size)),[x,ix])
  | _=>none
def kSl (tt : TT) (t : Nat) (x : Operand) (lo hi mx : Option Operand) : KO :=
 (tt t).bind fun d=>match d.1 with
  | .string=>J2m (!mx.isSome) (.slS lo.isSome hi.isSome,x::(lo.toList ++ hi.toList))
  | .slice e=>(tt e).bind fun e=>J2m (!mx.isSome || hi.isSome) (.slL e.2.size lo.isSome hi.isSome mx.isSome,x::(lo.toList ++ (hi.toList ++ mx.toList)))
  | .array n e=>(tt e).bind fun e=>J2m (!mx.isSome || hi.isSome) (.slA n e.2.size lo.isSome hi.isSome mx.isSome,x::(lo.toList ++ (hi.toList ++ mx.toList)))
  | _=>none
section
variable {P : Program} {B : Bs} {μ : M} {h : H} {w : World} {tt : TT}
structure RunsN (P : Program) (B : Bs) (μ : M) (h : H) (w : World) (s : Sem Next) (v : V) (h' : H) : Prop where
 intro ::
 ex : ∃ n y w' μ',s.run P w = .ok n w' ∧ (n = .value y ∨ (n = .skip ∧ y = undef)) ∧ VR μ' v y ∧ HR B μ' h' w' ∧ Ext μ h w μ' h' w'
theorem Runs.n {s : Sem Value} {v : V} {h' : H} (hr : Runs P B μ h w s v h') : RunsN P B μ h w (do pure (.value (← s))) v h':=by
 obtain ⟨y,w',μ',h1,h2,h3,h4⟩:=hr.ex
 exact ⟨⟨.value y,y,w',μ',by rw [Sem.run_bind,h1]; rfl,.inl rfl,h2,h3,h4⟩⟩
theorem RunsN.one (r : HR B μ h w) {s : Sem Value} {v : V} (hr : ∃ z,s.run P w = .ok z w ∧ VR μ v z) : RunsN P B μ h w (do pure (.value (← s))) v h:=by
 obtain ⟨z,h1,h2⟩:=hr
 exact (Runs.same r h1 h2).n
theorem RunsN.pure (r : HR B μ h w) {v : V} {z : Value} (hv : VR μ v z) : RunsN P B μ h w (Pure.pure (.value z)) v h :=
 ⟨⟨.value z,z,w,μ,rfl,.inl rfl,hv,r,Ext.refl _ _ _⟩⟩
theorem RunsN.unit {s : Sem Unit} {h' : H} (hr : ∃ w',s.run P w = .ok () w' ∧ HR B μ h' w' ∧ Ext μ h w μ h' w') : RunsN P B μ h w (do s; Pure.pure .skip) .u h':=by
 obtain ⟨w',h1,h2,h3⟩:=hr
 exact ⟨⟨.skip,undef,w',μ,by rw [Sem.run_bind,h1]; rfl,.inr ⟨rfl,rfl⟩,VR.u _,h2,h3⟩⟩
theorem J0i {x : Option V} {v : V} {h' : H} (he : J0q h x = some (v,h')) : x = some v ∧ h' = h:=by
 cases x <;> simp only [J0q] at he
 ·cases he
 ·cases he; exact ⟨rfl,rfl⟩
theorem U2m {x : Option H} {v : V} {h' : H} (he : U5z x = some (v,h')) : x = some h' ∧ v = .u:=by
 cases x <;> simp only [U5z] at he
 ·cases he
 ·cases he; exact ⟨rfl,rfl⟩
theorem VRs.one_iff {x : V} {l : List Value} : VRs μ [x] l ↔ ∃ y,l = [y] ∧ VR μ x y:=by
 constructor
 ·intro hh
  obtain ⟨y,ys,rfl,h1,h2⟩:=VRs.cons_iff.1 hh
  rw [VRs.nil_iff] at h2; subst h2
  exact ⟨y,rfl,h1⟩
 ·rintro ⟨y,rfl,h1⟩
  exact VRs.cons_mk h1 (VRs.nil_iff.2 rfl)
theorem J7p {l : List V} {x : Operand} {ρ : Operand → Value} (hv : VRs μ l ([x].map ρ)) : ∃ a,l = [a] ∧ VR μ a (ρ x):=by
 have hl:=hv.len
 simp at hl
 obtain ⟨a,rfl⟩ : ∃ a,l = [a]:=by cases l with | nil=>simp at hl | cons a l=>cases l with | nil=>exact ⟨a,rfl⟩ | cons=>simp at hl
 obtain ⟨y,ys,e,h1,h2⟩:=VRs.cons_iff.1 hv
 simp at e
 exact ⟨a,rfl,by rw [e.1]; exact h1⟩
theorem U5t {l : List V} {x y : Operand} {ρ : Operand → Value} (hv : VRs μ l ([x,y].map ρ)) : ∃ a b,l = [a,b] ∧ VR μ a (ρ x) ∧ VR μ b (ρ y):=by
 cases l with
 | nil=>have:=hv.len; simp at this
 | cons a l =>
  obtain ⟨z,zs,e,h1,h2⟩:=VRs.cons_iff.1 hv
  simp only [List.map_cons,List.cons.injEq] at e
  rw [← e.2] at h2
  obtain ⟨b,rfl,h3⟩:=J7p (x:=y) (ρ:=ρ) h2
  exact ⟨a,b,rfl,by rw [e.1]; exact h1,h3⟩
theorem ops3 {l : List V} {x y z : Operand} {ρ : Operand → Value} (hv : VRs μ l ([x,y,z].map ρ)) : ∃ a b c,l = [a,b,c] ∧ VR μ a (ρ x) ∧ VR μ b (ρ y) ∧ VR μ c (ρ z):=by
 cases l with
 | nil=>have:=hv.len; simp at this
 | cons a l =>
  obtain ⟨u,us,e,h1,h2⟩:=VRs.cons_iff.1 hv
  simp only [List.map_cons,List.cons.injEq] at e
  rw [← e.2] at h2
  obtain ⟨b,c,rfl,h3,h4⟩:=U5t (x:=y) (y:=z) (ρ:=ρ) h2
  exact ⟨a,b,c,rfl,by rw [e.1]; exact h1,h3,h4⟩
theorem Q2k {l : List V} {o : Option Operand} {r : List Operand} {ρ : Operand → Value} (hv : VRs μ l ((o.toList ++ r).map ρ)) {k : Option V → List V → Option (V × H)} {res : V × H} (he : opt o.isSome l k = some res) :
  ∃ x l',VRo μ x (o.map ρ) ∧ VRs μ l' (r.map ρ) ∧ k x l' = some res ∧ x.isSome = o.isSome:=by
 cases o with
 | none=>exact ⟨none,l,trivial,hv,he,rfl⟩
 | some y =>
  cases l with
  | nil=>simp [opt] at he
  | cons a l =>
   obtain ⟨u,us,e,h1,h2⟩:=VRs.cons_iff.1 hv
   simp only [Option.toList_some,List.cons_append,List.nil_append,List.map_cons,List.cons.injEq] at e
   refine ⟨some a,l,?_,?_,he,rfl⟩
   ·show VR μ a (ρ y)
    rw [e.1]; exact h1
   ·rw [e.2]; exact h2
theorem W0b (hT : TTok P tt) (r : HR B μ h w) {t : Nat} {a : Operand} {k : K} {xs : List Operand} (hk : Q7a tt t a = some (k,xs)) {ρ : Operand → Value} {l : List V} (hv : VRs μ l (xs.map ρ)) {v : V} {h' : H} (he : opK k h l = some (v,h')) :
  RunsN P B μ h w (do pure (.value (← Instr.loadAt t (ρ a)))) v h':=by
 simp only [Q7a,Option.bind_eq_some_iff] at hk
 obtain ⟨⟨d,i⟩,h1,h2⟩:=hk
 simp only [Option.some.injEq,Prod.mk.injEq] at h2
 obtain ⟨rfl,rfl⟩:=h2
 obtain ⟨h3,h4⟩:=hT _ _ _ h1
 obtain ⟨x,rfl,hx⟩:=J7p hv
 obtain ⟨h5,rfl⟩:=J0i he
 unfold J9v at h5
 cases hd : Q2s d <;> rw [hd] at h5
 ·exact (G1j r h3 (by cases d <;> simp_all [Q2s]) hx h5).n
 ·exact (G1i r h3 (by cases d <;> simp_all [Q2s]) h4 hx h5).n
theorem U7e (hT : TTok P tt) (r : HR B μ h w) {t : Nat} {a x : Operand} {k : K} {xs : List Operand} (hk : G1m tt t a x = some (k,xs)) {ρ : Operand → Value} {l : List V} (hv : VRs μ l (xs.map ρ)) {v : V} {h' : H} (he : opK k h l = some (v,h')) :
  RunsN P B μ h w (do Instr.storeAt t (ρ a) (ρ x); pure .skip) v h':=by
 simp only [G1m,Option.bind_eq_some_iff] at hk
 obtain ⟨⟨d,i⟩,h1,h2⟩:=hk
 simp only [Option.some.injEq,Prod.mk.injEq] at h2
 obtain ⟨rfl,rfl⟩:=h2
 obtain ⟨h3,h4⟩:=hT _ _ _ h1
 obtain ⟨p,q,rfl,hp,hq⟩:=U5t hv
 obtain ⟨h5,rfl⟩:=U2m he
 exact RunsN.unit (G6g r h4 hp hq h5)
theorem G1t (hT : TTok P tt) (r : HR B μ h w) {s f : Nat} {x : Operand} {k : K} {xs : List Operand} (hk : kFA tt s x f = some (k,xs)) {ρ : Operand → Value} {l : List V} (hv : VRs μ l (xs.map ρ)) {v : V} {h' : H} (he : opK k h l = some (v,h')) :
  RunsN P B μ h w (do pure (.value (← Instr.fieldAt s (ρ x) f))) v h':=by
 simp only [kFA,Option.bind_eq_some_iff] at hk
 obtain ⟨⟨d,i⟩,h1,fs,h2,fl,h3,⟨e,j⟩,h4,h5⟩:=hk
 obtain ⟨h6,h7⟩:=J0p h5
 simp only [Prod.mk.injEq] at h7
 obtain ⟨rfl,rfl⟩:=h7
 obtain ⟨x',rfl,hx⟩:=J7p hv
 obtain ⟨h8,rfl⟩:=J0i he
 have hd:=J7l h2
 simp only at hd; subst hd
 exact RunsN.one r (G8a (hT _ _ _ h1).1 (by simpa using h3) (hT _ _ _ h4).2 (U9u h6) hx h8)
theorem G1s (hT : TTok P tt) (r : HR B μ h w) {s f : Nat} {x : Operand} {k : K} {xs : List Operand} (hk : kFL tt s x f = some (k,xs)) {ρ : Operand → Value} {l : List V} (hv : VRs μ l (xs.map ρ)) {v : V} {h' : H} (he : opK k h l = some (v,h')) :
  RunsN P B μ h w (do pure (.value (← Instr.field s (ρ x) f))) v h':=by
 simp only [kFL,Option.bind_eq_some_iff] at hk
 obtain ⟨⟨d,i⟩,h1,fs,h2,fl,h3,⟨e,j⟩,h4,h5⟩:=hk
 simp only [Option.some.injEq,Prod.mk.injEq] at h5
 obtain ⟨rfl,rfl⟩:=h5
 obtain ⟨x',rfl,hx⟩:=J7p hv
 obtain ⟨h8,rfl⟩:=J0i he
 have hd:=J7l h2
 simp only at hd; subst hd
 exact RunsN.one r (G7w (hT _ _ _ h1).1 (by simpa using h3) (hT _ _ _ h4).1 (hT _ _ _ h4).2 rfl hx h8)
theorem G1r (hT : TTok P tt) (r : HR B μ h w) {t : Nat} {x ix : Operand} {k : K} {xs : List Operand} (hk : kIA tt t x ix = some (k,xs)) {ρ : Operand → Value} {l : List V} (hv : VRs μ l (xs.map ρ)) {v : V} {h' : H} (he : opK k h l = some (v,h')) :
  RunsN P B μ h w (do pure (.value (← Instr.indexAt t (ρ x) (ρ ix)))) v h':=by
 simp only [kIA,Option.bind_eq_some_iff] at hk
 obtain ⟨⟨d,i⟩,h1,h2⟩:=hk
 have hd:=(hT _ _ _ h1).1
 split at h2
 ·rename_i e hde
  simp only at hde; subst hde
  simp only [Option.bind_eq_some_iff] at h2
  obtain ⟨⟨ed,ei⟩,h3,h4⟩:=h2
  simp only [Option.some.injEq,Prod.mk.injEq] at h4
  obtain ⟨rfl,rfl⟩:=h4
  obtain ⟨p,q,rfl,hp,hq⟩:=U5t hv
  obtain ⟨h8,rfl⟩:=J0i he
  exact RunsN.one r (U1z hd (hT _ _ _ h3).2 hp hq h8)
 ·rename_i n e hde
  simp only at hde; subst hde
  simp only [Option.bind_eq_some_iff] at h2
  obtain ⟨⟨ed,ei⟩,h3,h4⟩:=h2
  simp only [Option.some.injEq,Prod.mk.injEq] at h4
  obtain ⟨rfl,rfl⟩:=h4
  obtain ⟨p,q,rfl,hp,hq⟩:=U5t hv
  obtain ⟨h8,rfl⟩:=J0i he
  exact RunsN.one r (U2a hd (hT _ _ _ h3).2 hp hq h8)
 ·cases h2
theorem G1q (hT : TTok P tt) (r : HR B μ h w) {t : Nat} {x ix : Operand} {k : K} {xs : List Operand} (hk : kIX tt t x ix = some (k,xs)) {ρ : Operand → Value} {l : List V} (hv : VRs μ l (xs.map ρ)) {v : V} {h' : H} (he : opK k h l = some (v,h')) :
  RunsN P B μ h w (do pure (.value (← Instr.index t (ρ x) (ρ ix)))) v h':=by
 simp only [kIX,Option.bind_eq_some_iff] at hk
 obtain ⟨⟨d,i⟩,h1,h2⟩:=hk
 have hd:=(hT _ _ _ h1).1
 split at h2
 ·rename_i hde
  simp only at hde; subst hde
  simp only [Option.some.injEq,Prod.mk.injEq] at h2
  obtain ⟨rfl,rfl⟩:=h2
  obtain ⟨p,q,rfl,hp,hq⟩:=U5t hv
  obtain ⟨h8,rfl⟩:=J0i he
  exact RunsN.one r (U0i hd hp hq h8)
 ·rename_i n e hde
  simp only at hde; subst hde
  simp only [Option.bind_eq_some_iff] at h2
  obtain ⟨⟨ed,ei⟩,h3,h4⟩:=h2
  simp only [Option.some.injEq,Prod.mk.injEq] at h4
  obtain ⟨rfl,rfl⟩:=h4
  obtain ⟨p,q,rfl,hp,hq⟩:=U5t hv
  obtain ⟨h8,rfl⟩:=J0i he
  exact RunsN.one r (U1y hd (hT _ _ _ h3).1 (hT _ _ _ h3).2 rfl hp hq h8)
 ·cases h2
theorem G1n (hT : TTok P tt) (r : HR B μ h w) {t : Nat} {x : Operand} {lo hi mx : Option Operand} {k : K} {xs : List Operand} (hk : kSl tt t x lo hi mx = some (k,xs)) {ρ : Operand → Value} {l : List V} (hv : VRs μ l (xs.map ρ)) {v : V} {h' : H} (he : opK k h l = some (v,h')) :
  RunsN P B μ h w (do pure (.value (← Instr.sliceAt t (ρ x) (lo.map ρ) (hi.map ρ) (mx.map ρ)))) v h':=by
 simp only [kSl,Option.bind_eq_some_iff] at hk
 obtain ⟨⟨d,i⟩,h1,h2⟩:=hk
 have hd:=(hT _ _ _ h1).1
 have hmxg : ∀ {a b : Option V},a.isSome = mx.isSome → b.isSome = hi.isSome → (!mx.isSome || hi.isSome) = true → a.isSome = true → b.isSome = true:=by
  intro a b e1 e2 e3 e4
  rw [e1] at e4
  rw [e4] at e3
  rw [e2]; simpa using e3
 split at h2
 ·rename_i hde
  simp only at hde; subst hde
  obtain ⟨h3,h4⟩:=J0p h2
  simp only [Prod.mk.injEq] at h4
  obtain ⟨rfl,rfl⟩:=h4
  have hmx : mx = none:=by cases mx <;> simp_all
  subst hmx
  cases l with
  | nil=>simp [opK,mvF,J5e,ldF,stF,U8o,U9k,eqF,U8m,U8n,U9e,U9c,U9b,sbF,bsF,U8r,U8s,faF,flF,iaF,ixF,U8i,U8k,U8j,U9i,J2r,U9j,U9h,U8p,U8q,saF,U8y,U8w,U8x,U8v,U9g,U9l,U9d,U8t,U9a,lkF,muF,taF,exF] at he
  | cons a l =>
   obtain ⟨u,us,e,h5,h6⟩:=VRs.cons_iff.1 hv
   simp only [List.map_cons,List.cons.injEq] at e
   rw [← e.2] at h6
   have he2 : opt lo.isSome l (fun lo l=>opt hi.isSome l fun hi l=>J0q h (slS a lo hi)) = some (v,h'):=he
   obtain ⟨lo',l1,g1,g2,g3,_⟩:=Q2k h6 he2
   obtain ⟨hi',l2,g4,g5,g6,_⟩:=Q2k (r:=[]) (by simpa using g2) g3
   obtain ⟨h8,rfl⟩:=J0i g6
   exact RunsN.one r (W7b hd (by rw [e.1]; exact h5) g1 g4 h8)
 ·rename_i e0 hde
  simp only at hde; subst hde
  simp only [Option.bind_eq_some_iff] at h2
  obtain ⟨⟨ed,ei⟩,h9,h2⟩:=h2
  obtain ⟨h3,h4⟩:=J0p h2
  simp only [Prod.mk.injEq] at h4
  obtain ⟨rfl,rfl⟩:=h4
  cases l with
  | nil=>simp [opK,mvF,J5e,ldF,stF,U8o,U9k,eqF,U8m,U8n,U9e,U9c,U9b,sbF,bsF,U8r,U8s,faF,flF,iaF,ixF,U8i,U8k,U8j,U9i,J2r,U9j,U9h,U8p,U8q,saF,U8y,U8w,U8x,U8v,U9g,U9l,U9d,U8t,U9a,lkF,muF,taF,exF] at he
  | cons a l =>
   obtain ⟨u,us,e,h5,h6⟩:=VRs.cons_iff.1 hv
   simp only [List.map_cons,List.cons.injEq] at e
   rw [← e.2] at h6
   have he2 : opt lo.isSome l (fun lo l=>opt hi.isSome l fun hi l=>opt mx.isSome l fun mx l=>slL ei.size h a lo hi mx) = some (v,h'):=he
   obtain ⟨lo',l1,g1,g2,g3,_⟩:=Q2k h6 he2
   obtain ⟨hi',l2,g4,g5,g6,e1⟩:=Q2k g2 g3
   obtain ⟨mx',l3,g7,g8,g9,e2⟩:=Q2k (r:=[]) (by simpa using g5) g6
   exact (W7d r hd (hT _ _ _ h9).2 (by rw [e.1]; exact h5) g1 g4 g7 (hmxg e2 e1 h3) g9).n
 ·rename_i n e0 hde
  simp only at hde; subst hde
  simp only [Option.bind_eq_some_iff] at h2
  obtain ⟨⟨ed,ei⟩,h9,h2⟩:=h2
  obtain ⟨h3,h4⟩:=J0p h2
  simp only [Prod.mk.injEq] at h4
  obtain ⟨rfl,rfl⟩:=h4
  cases l with
  | nil=>simp [opK,mvF,J5e,ldF,stF,U8o,U9k,eqF,U8m,U8n,U9e,U9c,U9b,sbF,bsF,U8r,U8s,faF,flF,iaF,ixF,U8i,U8k,U8j,U9i,J2r,U9j,U9h,U8p,U8q,saF,U8y,U8w,U8x,U8v,U9g,U9l,U9d,U8t,U9a,lkF,muF,taF,exF] at he
  | cons a l =>
   obtain ⟨u,us,e,h5,h6⟩:=VRs.cons_iff.1 hv
   simp only [List.map_cons,List.cons.injEq] at e
   rw [← e.2] at h6
   have he2 : opt lo.isSome l (fun lo l=>opt hi.isSome l fun hi l=>opt mx.isSome l fun mx l=>J0q h (slA n ei.size a lo hi mx)) = some (v,h'):=he
   obtain ⟨lo',l1,g1,g2,g3,_⟩:=Q2k h6 he2
   obtain ⟨hi',l2,g4,g5,g6,e1⟩:=Q2k g2 g3
   obtain ⟨mx',l3,g7,g8,g9,e2⟩:=Q2k (r:=[]) (by simpa using g5) g6
   obtain ⟨h8,rfl⟩:=J0i g9
   exact RunsN.one r (W7f hd (hT _ _ _ h9).2 (by rw [e.1]; exact h5) g1 g4 g7 (hmxg e2 e1 h3) h8)
 ·cases h2
end
end Go.X
namespace Go.X
open Go.RowKit
def isC (x : Operand) : Bool := match x with | .const _ => true | _ => false
def ptOf (tt : TT) (u : Nat) : Bool :=
  match tt u with
  | some (d, j) => match d with
    | .pointer e => match tt e with
      | some (_, i) => !(Nat.beq i.size 0) && j.comparable
      | none => false
    | _ => false
  | none => false
def kEq (tt : TT) (neg : Bool) (t : Nat) (x y : Operand) : KO :=
  (tt t).bind fun d => match d.1 with
    | .int _ => some (.bin (Bool.rec .eql .neq neg), [x, y])
    | .string => some (.bin (Bool.rec .eql .neq neg), [x, y])
    | .bool => some (.eq neg .b, [x, y])
    | .pointer e => (tt e).bind fun e => J2m (!(Nat.beq e.2.size 0)) (.eq neg .p, [x, y])
    | .slice _ => some (.eq neg .ns, [x, y])
    | .map _ _ => some (.eq neg .nm, [x, y])
    | .func _ _ _ => some (.eq neg .nf, [x, y])
    | .array n e => (tt e).bind fun e => (W2u e.1).bind fun _ => J2m (Nat.beq e.2.size 1) (.eq neg (.arr n), [x, y])
    | .interface _ => some (.eq neg (.ifc (isC x || isC y) (ptOf tt)), [x, y])
    | .struct fs => J2m (stT tt t) (.eq neg (.st fs.size), [x, y])
    | _ => none
def kBin (tt : TT) (op : BinOp) (t : Nat) (x y : Operand) : KO :=
  match op with
  | .eql => kEq tt false t x y
  | .neq => kEq tt true t x y
  | op => some (.bin op, [x, y])
section
variable {P : Program} {B : Bs} {μ : M} {h : H} {w : World} {tt : TT}
theorem W0f {op : BinOp} (ho : op ≠ .eql) (ho2 : op ≠ .neq) {t : Nat} {x y : Operand} {a b : Value} : (eqGuard op t x y a b).run P w = .ok () w := by
  cases op <;> first | exact absurd rfl ho | exact absurd rfl ho2 | rfl
theorem J6z {op : BinOp} {t : Nat} {x y : Operand} {k k' : IntKind} {m n : Int} : (eqGuard op t x y (.int k m) (.int k' n)).run P w = .ok () w := by
  cases op <;> rfl
theorem G2i {op : BinOp} {t : Nat} {x y : Operand} {m n : ByteArray} : (eqGuard op t x y (.string m) (.string n)).run P w = .ok () w := by
  cases op <;> rfl
theorem U1g {op : BinOp} {x y v : V} {a b : Value} (t : Nat) (xo yo : Operand) (hx : VR μ x a) (hy : VR μ y b) (he : U5v op x y = some v) :
    ∃ z, (do eqGuard op t xo yo a b; binOp op t a b : Sem Value).run P w = .ok z w ∧ VR μ v z := by
  obtain ⟨z, h1, h2⟩ := G3u (P := P) (w := w) t hx hy he
  refine ⟨z, ?_, h2⟩
  have hg : (eqGuard op t xo yo a b).run P w = .ok () w := by
    cases x <;> cases y <;> simp only [U5v] at he <;> try (cases he; done)
    · obtain ⟨_, h1, _⟩ := QR.q hx; obtain ⟨_, h2, _⟩ := QR.q hy; subst h1; subst h2; exact J6z
    · obtain ⟨_, h1, _⟩ := QR.q hx; rw [VR.i_iff] at hy; subst h1; subst hy; exact J6z
    · simp only [VR] at hx hy
      obtain ⟨s, rfl, _⟩ := hx
      obtain ⟨s', rfl, _⟩ := hy
      exact G2i
    · obtain ⟨_, h2, _⟩ := QR.q hy; rw [VR.i_iff] at hx; subst h2; subst hx; exact J6z
    · rw [VR.i_iff] at hx hy; subst hx; subst hy; exact J6z
  rw [Sem.run_bind, hg]; exact h1
theorem G1u {op : BinOp} {t : Nat} {ek : EK} {xo yo : Operand} {x y : V} {a b : Value} {v : Bool} (hek : EKok P t ek) (hlit : ∀ l pt, ek = .ifc l pt → l = true → isC xo = true ∨ isC yo = true)
    (hx : VR μ x a) (hy : VR μ y b) (he : eqV ek h x y = some v) : (eqGuard op t xo yo a b).run P w = .ok () w := by
  by_cases ho : op = .eql ∨ op = .neq
  · have main : (match a, b with
      | .nilIface, .nilIface => isC xo = true ∨ isC yo = true
      | .agg _, .agg _ => P.eqGuardType P.depth t = false
      | _, _ => True) := by
      cases ek with
      | arr n =>
        obtain ⟨e, i, k, h1, h2, h3, h4⟩ := hek
        have : P.eqGuardType P.depth t = false := by
          unfold Program.depth
          simp only [Program.eqGuardType, h1, h4]
        cases a <;> cases b <;> first | trivial | exact this | skip
        simp only [eqV] at he
        cases x <;> simp only at he <;> try (cases he; done)
        simp only [VR] at hx
        obtain ⟨_, e1, _⟩ := hx
        cases e1
      | st n =>
        have := hek.2.2
        cases a <;> cases b <;> first | trivial | exact this | skip
        simp only [eqV] at he
        cases x <;> simp only at he <;> try (cases he; done)
        simp only [VR] at hx
        obtain ⟨_, e1, _⟩ := hx
        cases e1
      | kt ks =>
        have := hek.2.2
        cases a <;> cases b <;> first | trivial | exact this | skip
        simp only [eqV] at he
        cases x <;> simp only at he <;> try (cases he; done)
        simp only [VR] at hx
        obtain ⟨_, e1, _⟩ := hx
        cases e1
      | ifc l pt =>
        cases x <;> simp only [eqV] at he <;> try (cases he; done)
        · simp only [VR] at hx; obtain ⟨_, rfl, _⟩ := hx
          cases b <;> trivial
        · cases y <;> simp only at he <;> try (cases he; done)
          · simp only [VR] at hx hy; obtain ⟨_, rfl, _⟩ := hy; subst hx; trivial
          · simp only [VR] at hx hy; subst hx; subst hy
            cases l
            · cases he
            · exact hlit _ _ rfl rfl
      | b => cases x <;> simp only [eqV] at he <;> try (cases he; done)
             simp only [VR] at hx; subst hx; cases b <;> trivial
      | p => cases x <;> simp only [eqV, eqPV] at he <;> try (cases he; done)
             · simp only [VR] at hx; obtain ⟨_, _, _, rfl⟩ := hx; cases b <;> trivial
             · simp only [VR] at hx; subst hx; cases b <;> trivial
      | ns => cases x <;> simp only [eqV] at he <;> try (cases he; done)
              · simp only [VR] at hx; obtain ⟨_, _, _, _, rfl, _⟩ := hx; cases b <;> trivial
              · simp only [VR] at hx; obtain ⟨_, _, _, rfl⟩ := hx; cases b <;> trivial
              · simp only [VR] at hx; subst hx; cases b <;> trivial
      | nm => cases x <;> simp only [eqV] at he <;> try (cases he; done)
              · simp only [VR] at hx; obtain ⟨_, _, _, rfl⟩ := hx; cases b <;> trivial
              · simp only [VR] at hx; subst hx; cases b <;> trivial
      | nf => cases x <;> simp only [eqV] at he <;> try (cases he; done)
              · simp only [VR] at hx; obtain ⟨_, _, rfl, _⟩ := hx; cases b <;> trivial
              · simp only [VR] at hx; subst hx; cases b <;> trivial
    rcases ho with rfl | rfl
    all_goals
      cases a <;> cases b <;> first
        | rfl
        | (simp only at main
           simp [eqGuard, main]
           done)
        | (simp only at main
           rcases main with hm | hm
           · cases xo <;> simp only [isC, Bool.false_eq_true] at hm
             rfl
           · cases yo <;> simp only [isC, Bool.false_eq_true] at hm
             cases xo <;> rfl)
  · exact W0f (fun e => ho (.inl e)) (fun e => ho (.inr e))
theorem eq_run {t : Nat} {ek : EK} {x y : V} {a b : Value} {v : Bool} (r : HR B μ h w) (hek : EKok P t ek) (hx : VR μ x a) (hy : VR μ y b) (he : eqV ek h x y = some v) :
    (binOp .eql t a b).run P w = .ok (.bool v) w ∧ (binOp .neq t a b).run P w = .ok (.bool (!v)) w := by
  have h1 := W2m r hek hx hy he
  have hb : binOp .eql t a b = (do pure (.bool (← Op.equal t a b))) ∧ binOp .neq t a b = (do pure (.bool (!(← Op.equal t a b)))) := by
    cases ek with
    | arr n => cases x <;> simp only [eqV] at he <;> try (cases he; done)
               simp only [VR] at hx; obtain ⟨_, rfl, _⟩ := hx; cases b <;> exact ⟨rfl, rfl⟩
    | st n => cases x <;> simp only [eqV] at he <;> try (cases he; done)
              simp only [VR] at hx; obtain ⟨_, rfl, _⟩ := hx; cases b <;> exact ⟨rfl, rfl⟩
    | kt n => cases x <;> simp only [eqV] at he <;> try (cases he; done)
              simp only [VR] at hx; obtain ⟨_, rfl, _⟩ := hx; cases b <;> exact ⟨rfl, rfl⟩
    | ifc l pt => cases x <;> simp only [eqV] at he <;> try (cases he; done)
                  · simp only [VR] at hx; obtain ⟨_, rfl, _⟩ := hx; cases b <;> exact ⟨rfl, rfl⟩
                  · simp only [VR] at hx; subst hx; cases b <;> exact ⟨rfl, rfl⟩
    | b => cases x <;> simp only [eqV] at he <;> try (cases he; done)
           simp only [VR] at hx; subst hx; cases b <;> exact ⟨rfl, rfl⟩
    | p => cases x <;> simp only [eqV, eqPV] at he <;> try (cases he; done)
           · simp only [VR] at hx; obtain ⟨_, _, _, rfl⟩ := hx; cases b <;> exact ⟨rfl, rfl⟩
           · simp only [VR] at hx; subst hx; cases b <;> exact ⟨rfl, rfl⟩
    | ns => cases x <;> simp only [eqV] at he <;> try (cases he; done)
            · simp only [VR] at hx; obtain ⟨_, _, _, _, rfl, _⟩ := hx; cases b <;> exact ⟨rfl, rfl⟩
            · simp only [VR] at hx; obtain ⟨_, _, _, rfl⟩ := hx; cases b <;> exact ⟨rfl, rfl⟩
            · simp only [VR] at hx; subst hx; cases b <;> exact ⟨rfl, rfl⟩
    | nm => cases x <;> simp only [eqV] at he <;> try (cases he; done)
            · simp only [VR] at hx; obtain ⟨_, _, _, rfl⟩ := hx; cases b <;> exact ⟨rfl, rfl⟩
            · simp only [VR] at hx; subst hx; cases b <;> exact ⟨rfl, rfl⟩
    | nf => cases x <;> simp only [eqV] at he <;> try (cases he; done)
            · simp only [VR] at hx; obtain ⟨_, _, rfl, _⟩ := hx; cases b <;> exact ⟨rfl, rfl⟩
            · simp only [VR] at hx; subst hx; cases b <;> exact ⟨rfl, rfl⟩
  rw [hb.1, hb.2]
  simp only [Sem.run_bind, h1, Result.andThen_ok, Sem.run_pure, and_self]
theorem U7g (hT : TTok P tt) (r : HR B μ h w) {neg : Bool} {t : Nat} {x y : Operand} {k : K} {xs : List Operand} (hk : kEq tt neg t x y = some (k, xs)) {ρ : Operand → Value} {l : List V} (hv : VRs μ l (xs.map ρ)) {v : V} {h' : H} (he : opK k h l = some (v, h')) :
    RunsN P B μ h w (do pure (.value (← (do eqGuard (if neg then .neq else .eql) t x y (ρ x) (ρ y); binOp (if neg then .neq else .eql) t (ρ x) (ρ y) : Sem Value)))) v h' := by
  have hbin : (k, xs) = (.bin (Bool.rec .eql .neq neg), [x, y]) → RunsN P B μ h w (do pure (.value (← (do eqGuard (if neg then .neq else .eql) t x y (ρ x) (ρ y); binOp (if neg then .neq else .eql) t (ρ x) (ρ y) : Sem Value)))) v h' := by
    intro e
    simp only [Prod.mk.injEq] at e
    obtain ⟨rfl, rfl⟩ := e
    obtain ⟨p, q, rfl, hp, hq⟩ := U5t hv
    obtain ⟨h8, rfl⟩ := J0i he
    cases neg
    · exact RunsN.one r (U1g t x y hp hq h8)
    · exact RunsN.one r (U1g t x y hp hq h8)
  have heq : ∀ ek, EKok P t ek → (∀ l pt, ek = .ifc l pt → l = true → isC x = true ∨ isC y = true) → (k, xs) = (.eq neg ek, [x, y]) →
      RunsN P B μ h w (do pure (.value (← (do eqGuard (if neg then .neq else .eql) t x y (ρ x) (ρ y); binOp (if neg then .neq else .eql) t (ρ x) (ρ y) : Sem Value)))) v h' := by
    intro ek hek hlit e
    simp only [Prod.mk.injEq] at e
    obtain ⟨rfl, rfl⟩ := e
    obtain ⟨p, q, rfl, hp, hq⟩ := U5t hv
    have he2 : (match eqV ek h p q with | some b => some (V.b (Bool.rec b (Bool.rec true false b) neg), h) | none => none) = some (v, h') := he
    cases hq2 : eqV ek h p q <;> rw [hq2] at he2
    · cases he2
    rename_i b
    simp only [Option.some.injEq, Prod.mk.injEq] at he2
    obtain ⟨rfl, rfl⟩ := he2
    have hg := G1u (P := P) (w := w) (op := if neg then .neq else .eql) hek hlit hp hq hq2
    obtain ⟨g1, g2⟩ := eq_run r hek hp hq hq2
    refine RunsN.one r ?_
    rw [Sem.run_bind, hg]
    cases neg
    · exact ⟨_, g1, by rw [VR.b_iff]⟩
    · refine ⟨_, g2, ?_⟩
      rw [VR.b_iff]
      cases b <;> rfl
  simp only [kEq, Option.bind_eq_some_iff] at hk
  obtain ⟨⟨d, i⟩, h1, h2⟩ := hk
  have hd := (hT _ _ _ h1).1
  cases d <;> simp only at h2 <;> try (cases h2; done)
  case bool => exact heq .b hd (by simp) (Option.some.inj h2).symm
  case int => exact hbin (Option.some.inj h2).symm
  case string => exact hbin (Option.some.inj h2).symm
  case pointer e =>
    simp only [Option.bind_eq_some_iff] at h2
    obtain ⟨⟨ed, ei⟩, h3, h4⟩ := h2
    obtain ⟨h5, h6⟩ := J0p h4
    exact heq .p ⟨e, ei, hd, (hT _ _ _ h3).2, U9u h5⟩ (by simp) h6.symm
  case slice e => exact heq .ns ⟨e, hd⟩ (by simp) (Option.some.inj h2).symm
  case map a b => exact heq .nm ⟨a, b, hd⟩ (by simp) (Option.some.inj h2).symm
  case func a b c => exact heq .nf ⟨a, b, c, hd⟩ (by simp) (Option.some.inj h2).symm
  case array n e =>
    simp only [Option.bind_eq_some_iff] at h2
    obtain ⟨⟨ed, ei⟩, h3, kk, h7, h4⟩ := h2
    obtain ⟨h5, h6⟩ := J0p h4
    have := U1j h7
    simp only at this; subst this
    exact heq (.arr n) ⟨e, ei, kk, hd, (hT _ _ _ h3).2, Nat.eq_of_beq_eq_true h5, (hT _ _ _ h3).1⟩ (by simp) h6.symm
  case struct fs =>
    obtain ⟨h5, h6⟩ := J0p h2
    obtain ⟨h7, h8, h9⟩ := hT.st t fs h5 hd
    have h10 : stFl tt fs.toList 0 = true := by
      unfold stT at h5
      rw [h1] at h5; exact h5
    refine heq (.st fs.size) ⟨⟨fs, hd, rfl, fun j f hj => ?_⟩, h8, h9⟩ (by simp) h6.symm
    have hj2 : fs.toList[j]? = some f := by simpa using hj
    obtain ⟨h11, h12⟩ := U6e hT _ _ h10 j f hj2
    exact ⟨by omega, h7 f (List.mem_of_getElem? hj2), h12⟩
  case interface ms =>
    refine heq (.ifc (isC x || isC y) (ptOf tt)) ⟨⟨ms, hd⟩, ?_⟩ ?_ (Option.some.inj h2).symm
    · intro u hu
      unfold ptOf at hu
      cases h3 : tt u <;> rw [h3] at hu
      · cases hu
      rename_i dj
      obtain ⟨d', j⟩ := dj
      cases d' <;> simp only at hu <;> try (cases hu; done)
      rename_i e
      cases h4 : tt e <;> rw [h4] at hu
      · cases hu
      rename_i ei
      obtain ⟨ed, i2⟩ := ei
      simp only [Bool.and_eq_true] at hu
      exact ⟨e, i2, j, (hT _ _ _ h3).1, (hT _ _ _ h4).2, U9u hu.1, (hT _ _ _ h3).2, hu.2⟩
    · intro l pt e1 e2
      simp only [EK.ifc.injEq] at e1
      rw [← e1.1] at e2
      simpa using e2
theorem W4v (hT : TTok P tt) (r : HR B μ h w) {op : BinOp} {t : Nat} {x y : Operand} {k : K} {xs : List Operand} (hk : kBin tt op t x y = some (k, xs)) {ρ : Operand → Value} {l : List V} (hv : VRs μ l (xs.map ρ)) {v : V} {h' : H} (he : opK k h l = some (v, h')) :
    RunsN P B μ h w (do pure (.value (← (do eqGuard op t x y (ρ x) (ρ y); binOp op t (ρ x) (ρ y) : Sem Value)))) v h' := by
  have hbin : (k, xs) = (.bin op, [x, y]) → RunsN P B μ h w (do pure (.value (← (do eqGuard op t x y (ρ x) (ρ y); binOp op t (ρ x) (ρ y) : Sem Value)))) v h' := by
    intro e
    simp only [Prod.mk.injEq] at e
    obtain ⟨rfl, rfl⟩ := e
    obtain ⟨p, q, rfl, hp, hq⟩ := U5t hv
    obtain ⟨h8, rfl⟩ := J0i he
    exact RunsN.one r (U1g t x y hp hq h8)
  cases op
  case eql => exact U7g hT r (neg := false) hk hv he
  case neq => exact U7g hT r (neg := true) hk hv he
  all_goals exact hbin (Option.some.inj hk).symm
end
end Go.X
namespace Go.X
open Go.RowKit
def J5f (tt : TT) (t : Nat) : Option (TypeDesc × TypeInfo × V) :=
 (tt t).bind fun d=>d.2.zero.bind fun z=>(vOf 100 z).bind fun v=>J2m (match v with | .u=>false | _=>true) (d.1,d.2,v)
def kUn (op : UnOp) (x : Operand) : KO :=
 match op with
 | .not=>some (.not,[x])
 | .neg=>some (.neg,[x])
 | .xor=>some (.com,[x])
 | _=>none
def kCv (tt : TT) (src dst : Nat) (x : Operand) : KO :=
 (tt dst).bind fun d=>(tt src).bind fun s=>match d.1 with
  | .int k=>some (.cvI k,[x])
  | .string=>match s.1 with
   | .string=>some (.cvS,[x])
   | .slice e=>(tt e).bind fun e=>match e.1 with | .int .u8=>some (.bs,[x]) | _=>none
   | _=>none
  | .slice e=>match s.1 with
   | .string=>(tt e).bind fun e=>match e.1 with | .int .u8=>some (.sb,[x]) | _=>none
   | .slice _=>(tt e).bind fun e=>match e.1 with | .int .u8=>J2m (Nat.beq src dst) (.cvM,[x]) | _=>none
   | _=>none
  | _=>none
def kMkI (tt : TT) (t : Nat) (x : Operand) : KO :=
 (tt t).bind fun d=>match d.1 with | .interface _=>none | _=>some (.mki t,[x])
def G6x (tt : TT) (fs : List Field) : Option (List (Nat × Nat)):=J3d (fun f=>(tt f.type).bind fun d=>some (f.offset,d.2.size)) fs
def G1w (tt : TT) (t : Nat) (parts : List (Nat × Operand)) : KO :=
 (J5f tt t).bind fun z=>match z.1 with
  | .struct fs=>(G6x tt fs.toList).bind fun pls=>(J3d (fun (p : Nat × Operand)=>pls[p.1]?) parts).bind fun pl=>some (.bld z.2.2.cells pl,parts.map (·.2))
  | .array _ e=>(tt e).bind fun e=>some (.bld z.2.2.cells (parts.map fun p=>(p.1 * e.2.size,e.2.size)),parts.map (·.2))
  | _=>none
def kBsl (tt : TT) (t len : Nat) (parts : List (Nat × Operand)) : KO :=
 (tt t).bind fun d=>(J5z d.1).bind fun e=>(J5f tt e).bind fun z =>
  J2m (Nat.ble (len * z.2.1.size) 16777216 && Nat.beq z.2.2.cells.length z.2.1.size) (.bsl (cyc z.2.2.cells len) len (parts.map fun p=>(p.1 * z.2.1.size,z.2.1.size)),parts.map (·.2))
def U3f (tt : TT) (t : Nat) : KO :=
 (J5f tt t).bind fun z=>some (.alloc z.2.2.cells.length (C.puts z.2.2.cells 0 .e),[])
def kMks (tt : TT) (t : Nat) (l c : Operand) : KO :=
 (tt t).bind fun d=>(J5z d.1).bind fun e=>(J5f tt e).bind fun z=>J2m (Nat.beq z.2.2.cells.length z.2.1.size) (.mks z.2.1.size z.2.1.bytes z.2.2.cells,[l,c])
def Q2r (tt : TT) (t : Nat) (r : Option Operand) : KO :=
 match r with
 | none=>some (.mkm,[])
 | some x=>(tt t).bind fun d=>match d.1 with
  | .map _ _=>match x with | .const (.int _ _)=>some (.mkm,[]) | _=>none
  | _=>none
def kSa (tt : TT) (t : Nat) (x : Operand) : KO :=
 (tt t).bind fun d=>match d.1 with | .array n _=>some (.sa n,[x]) | _=>none
def kdOf (tt : TT) (kt : Nat) : Option KY :=
 (tt kt).bind fun kd=>match kd.1 with
  | .int k=>some (.i k)
  | .string=>some .s
  | .array n e=>(tt e).bind fun e=>(W2u e.1).bind fun _=>J2m (Nat.beq e.2.size 1) (.e (.arr n))
  | .struct _=>(stK tt kt).bind fun ks=>some (.e (.kt ks))
  | _=>none
theorem U0h {P : Program} {tt : TT} (hT : TTok P tt) {kt : Nat} {kd : KY} (h : kdOf tt kt = some kd) : G8t P kt kd:=by
 simp only [kdOf,Option.bind_eq_some_iff] at h
 obtain ⟨⟨d,i⟩,h1,h2⟩:=h
 have hd:=(hT _ _ _ h1).1
 cases d <;> simp only at h2 <;> try (cases h2; done)
 ·cases h2; exact hd
 ·cases h2; exact hd
 ·rename_i n e
  simp only [Option.bind_eq_some_iff] at h2
  obtain ⟨⟨ed,ei⟩,h3,kk,h7,h4⟩:=h2
  obtain ⟨h5,h6⟩:=J0p h4
  have:=U1j h7
  simp only at this; subst this
  subst h6
  exact ⟨⟨e,ei,kk,hd,(hT _ _ _ h3).2,Nat.eq_of_beq_eq_true h5,(hT _ _ _ h3).1⟩,trivial⟩
 ·rename_i fs
  simp only [Option.bind_eq_some_iff] at h2
  obtain ⟨ks,h3,h4⟩:=h2
  cases h4
  obtain ⟨h7,h8,h9⟩:=hT.sk kt fs ks h3 hd
  have h10 : stKs tt fs.toList 0 = some ks:=by
   unfold stK at h3
   rw [h1] at h3; exact W4k h3
  obtain ⟨g1,g2⟩:=U6d hT.ok _ _ _ h10
  refine ⟨⟨⟨fs,hd,by simpa using g1,fun j f hj=>?_⟩,h8,h9⟩,trivial⟩
  have hj2 : fs.toList[j]? = some f:=by simpa using hj
  obtain ⟨h11,h12⟩:=g2 j f hj2
  exact ⟨by omega,h7 f (List.mem_of_getElem? hj2),h12⟩
def kLk (tt : TT) (t : Nat) (m k : Operand) (ok : Bool) : KO :=
 (tt t).bind fun d=>match d.1 with
  | .map kt et=>(kdOf tt kt).bind fun kk=>(J5f tt et).bind fun z=>some (.lk kk ok z.2.2,[m,k])
  | _=>none
def kMu (tt : TT) (t : Nat) (m k x : Operand) : KO :=
 (tt t).bind fun d=>match d.1 with
  | .map kt _=>(kdOf tt kt).bind fun kk=>some (.mu kk,[m,k,x])
  | _=>none
def kTa (tt : TT) (x : Operand) (t : Nat) (ok : Bool) : KO :=
 (J5f tt t).bind fun z=>match z.1 with | .interface _=>none | _=>some (.ta t ok z.2.2,[x])
section
variable {P : Program} {B : Bs} {μ : M} {h : H} {w : World} {tt : TT}
theorem J1g (hT : TTok P tt) {t : Nat} {d : TypeDesc} {i : TypeInfo} {v : V} (hz : J5f tt t = some (d,i,v)) :
  P.underlying t = some d ∧ P.info? t = some i ∧ ∃ z,i.zero = some z ∧ (∀ μ,VR μ v z) ∧ v ≠ .u ∧ ∀ μ,VRs μ v.cells z.cells.toList:=by
 simp only [J5f,Option.bind_eq_some_iff] at hz
 obtain ⟨⟨d',i'⟩,h1,z,h2,v',h3,h4⟩:=hz
 obtain ⟨h5,h6⟩:=J0p h4
 simp only [Prod.mk.injEq] at h6
 obtain ⟨rfl,rfl,rfl⟩:=h6
 have hu : v' ≠ .u:=by intro e; subst e; cases h5
 exact ⟨(hT _ _ _ h1).1,(hT _ _ _ h1).2,z,h2,fun μ=>J6g _ _ _ h3,hu,fun μ=>(J6g _ _ _ h3).cells hu⟩
theorem G1k (r : HR B μ h w) {op : UnOp} {x : Operand} {k : K} {xs : List Operand} (hk : kUn op x = some (k,xs)) {ρ : Operand → Value} {l : List V} (hv : VRs μ l (xs.map ρ)) {v : V} {h' : H} (he : opK k h l = some (v,h')) :
  RunsN P B μ h w (do pure (.value (← Op.unary op (ρ x)))) v h':=by
 cases op <;> simp only [kUn,Option.some.injEq,Prod.mk.injEq] at hk <;> try (cases hk; done)
 all_goals
  obtain ⟨rfl,rfl⟩:=hk
  obtain ⟨a,rfl,ha⟩:=J7p hv
  obtain ⟨h8,rfl⟩:=J0i he
 ·cases a <;> simp only [negV] at h8 <;> try (cases h8; done)
  simp only [Option.some.injEq] at h8; subst h8
  rw [VR.i_iff] at ha
  refine RunsN.one r ⟨.int _ _,by rw [ha]; rfl,?_⟩
  rw [VR.i_iff,J6f]; rfl
 ·cases a <;> simp only [comV] at h8 <;> try (cases h8; done)
  simp only [Option.some.injEq] at h8; subst h8
  rw [VR.i_iff] at ha
  refine RunsN.one r ⟨.int _ _,by rw [ha]; rfl,?_⟩
  rw [VR.i_iff,U1f]; rfl
 ·cases a <;> simp only [notV] at h8 <;> try (cases h8; done)
  simp only [Option.some.injEq] at h8; subst h8
  rw [VR.b_iff] at ha
  refine RunsN.one r ⟨.bool _,by rw [ha]; rfl,?_⟩
  rw [VR.b_iff]
  rename_i b; cases b <;> rfl
theorem G1v (hT : TTok P tt) (r : HR B μ h w) {src dst : Nat} {x : Operand} {k : K} {xs : List Operand} (hk : kCv tt src dst x = some (k,xs)) {ρ : Operand → Value} {l : List V} (hv : VRs μ l (xs.map ρ)) {v : V} {h' : H} (he : opK k h l = some (v,h')) :
  RunsN P B μ h w (do pure (.value (← convert src dst (ρ x)))) v h':=by
 simp only [kCv,Option.bind_eq_some_iff] at hk
 obtain ⟨⟨d,i⟩,h1,⟨s,j⟩,h2,h3⟩:=hk
 have hd:=(hT _ _ _ h1).1
 have hs:=(hT _ _ _ h2).1
 cases d <;> simp only at h3 <;> try (cases h3; done)
 case int kk =>
  simp only [Option.some.injEq,Prod.mk.injEq] at h3
  obtain ⟨rfl,rfl⟩:=h3
  obtain ⟨a,rfl,ha⟩:=J7p hv
  obtain ⟨h8,rfl⟩:=J0i he
  cases a <;> simp only [cvIV] at h8 <;> try (cases h8; done)
  ·rename_i b0 j0 k0 lo0 hi0
   cases hk : Nat.beq (kno kk) 4 <;> rw [hk] at h8
   ·cases h8
   have e : kk = .u8:=J1c (Nat.eq_of_beq_eq_true hk)
   subst e
   cases h8
   obtain ⟨n0,ha,_⟩:=VR.q_iff.1 ha
   refine RunsN.one r ⟨.int .u8 (IntKind.u8.wrap n0),?_,?_⟩
   ·rw [ha]; simp only [convert,Sem.run_bind,run_underlying hs,run_underlying hd,Result.andThen_ok]; rfl
   ·have h9 : 0 ≤ IntKind.u8.wrap n0 ∧ IntKind.u8.wrap n0 ≤ 255:=by
     simp only [IntKind.wrap,IntKind.bits,IntKind.signed]
     simp
     omega
    exact VR.q_iff.2 ⟨_,rfl,0,QT.zero,by omega,by omega⟩
  simp only [Option.some.injEq] at h8; subst h8
  rw [VR.i_iff] at ha
  rename_i k0 n0
  refine RunsN.one r ⟨.int kk (kk.wrap n0),?_,?_⟩
  ·rw [ha]; simp only [convert,Sem.run_bind,run_underlying hs,run_underlying hd,Result.andThen_ok]; rfl
  ·rw [VR.i_iff,J6f]
 case string =>
  cases s <;> simp only at h3 <;> try (cases h3; done)
  case string =>
   simp only [Option.some.injEq,Prod.mk.injEq] at h3
   obtain ⟨rfl,rfl⟩:=h3
   obtain ⟨a,rfl,ha⟩:=J7p hv
   cases a <;> simp only [opK,mvF,J5e,ldF,stF,U8o,U9k,eqF,U8m,U8n,U9e,U9c,U9b,sbF,bsF,U8r,U8s,faF,flF,iaF,ixF,U8i,U8k,U8j,U9i,J2r,U9j,U9h,U8p,U8q,saF,U8y,U8w,U8x,U8v,U9g,U9l,U9d,U8t,U9a,lkF,muF,taF,exF] at he <;> try (cases he; done)
   simp only [Option.some.injEq,Prod.mk.injEq] at he
   obtain ⟨rfl,rfl⟩:=he
   have ha':=ha
   simp only [VR] at ha
   obtain ⟨s,e1,_⟩:=ha
   refine RunsN.one r ⟨_,?_,ha'⟩
   rw [e1]; simp [convert,run_underlying hs,run_underlying hd]
  case slice e =>
   simp only [Option.bind_eq_some_iff] at h3
   obtain ⟨⟨ed,ei⟩,h4,h5⟩:=h3
   have hu:=(hT _ _ _ h4).1
   split at h5
   ·rename_i hde
    simp only at hde; subst hde
    simp only [Option.some.injEq,Prod.mk.injEq] at h5
    obtain ⟨rfl,rfl⟩:=h5
    obtain ⟨a,rfl,ha⟩:=J7p hv
    obtain ⟨h8,rfl⟩:=J0i he
    obtain ⟨z,g1,g2⟩:=G8l (P:=P) r ha h8
    refine RunsN.one r ⟨z,?_,g2⟩
    have hsl : ∃ ao l c,ρ x = .slice ao l c:=by
     cases a <;> simp only [bsV] at h8 <;> try (cases h8; done)
     ·simp only [VR] at ha; obtain ⟨g,q,c,_,e1,_⟩:=ha; exact ⟨_,_,_,e1⟩
     ·simp only [VR] at ha; obtain ⟨g,q,c,e1⟩:=ha; exact ⟨_,_,_,e1⟩
     ·simp only [VR] at ha; exact ⟨_,_,_,ha⟩
    obtain ⟨ao,l,c,e1⟩:=hsl
    rw [e1] at g1 ⊢
    rw [run_convert_bytes_string w src dst e ao l c hs hu hd]; exact g1
   ·cases h5
 case slice e =>
  cases s <;> simp only at h3 <;> try (cases h3; done)
  case string =>
   simp only [Option.bind_eq_some_iff] at h3
   obtain ⟨⟨ed,ei⟩,h4,h5⟩:=h3
   have hu:=(hT _ _ _ h4).1
   split at h5
   ·rename_i hde
    simp only at hde; subst hde
    simp only [Option.some.injEq,Prod.mk.injEq] at h5
    obtain ⟨rfl,rfl⟩:=h5
    obtain ⟨a,rfl,ha⟩:=J7p hv
    exact (G6n r hs hd hu ha he).n
   ·cases h5
  case slice e' =>
   simp only [Option.bind_eq_some_iff] at h3
   obtain ⟨⟨ed,ei⟩,h4,h5⟩:=h3
   have hu:=(hT _ _ _ h4).1
   split at h5
   ·rename_i hde
    simp only at hde; subst hde
    obtain ⟨hsd,h6⟩:=J0p h5
    simp only [Prod.mk.injEq] at h6
    obtain ⟨rfl,rfl⟩:=h6
    obtain ⟨a,rfl,ha⟩:=J7p hv
    exact (G3b r (Nat.eq_of_beq_eq_true hsd) hs hd hu ha he).n
   ·cases h5
theorem W4n (hT : TTok P tt) (r : HR B μ h w) {t : Nat} {x : Operand} {k : K} {xs : List Operand} (hk : kMkI tt t x = some (k,xs)) {ρ : Operand → Value} {l : List V} (hv : VRs μ l (xs.map ρ)) {v : V} {h' : H} (he : opK k h l = some (v,h')) :
  RunsN P B μ h w (do pure (.value (← Instr.makeInterface t (ρ x)))) v h':=by
 simp only [kMkI,Option.bind_eq_some_iff] at hk
 obtain ⟨⟨d,i⟩,h1,h2⟩:=hk
 have hd:=(hT _ _ _ h1).1
 have hni : ∀ ms,d ≠ .interface ms:=by intro ms e; subst e; cases h2
 have h3 : (K.mki t,[x]) = (k,xs):=by cases d <;> first | exact absurd rfl (hni _) | exact Option.some.inj h2
 simp only [Prod.mk.injEq] at h3
 obtain ⟨rfl,rfl⟩:=h3
 obtain ⟨a,rfl,ha⟩:=J7p hv
 simp only [opK,mvF,J5e,ldF,stF,U8o,U9k,eqF,U8m,U8n,U9e,U9c,U9b,sbF,bsF,U8r,U8s,faF,flF,iaF,ixF,U8i,U8k,U8j,U9i,J2r,U9j,U9h,U8p,U8q,saF,U8y,U8w,U8x,U8v,U9g,U9l,U9d,U8t,U9a,lkF,muF,taF,exF,Option.some.injEq,Prod.mk.injEq] at he
 obtain ⟨rfl,rfl⟩:=he
 refine RunsN.one r ⟨.iface t (ρ x),?_,by simp only [VR]; exact ⟨_,rfl,ha⟩⟩
 unfold Instr.makeInterface
 rw [Sem.run_bind,run_underlying hd]
 cases d <;> first | exact absurd rfl (hni _) | rfl
theorem U3e {α β : Type} {f g : α → Option β} (hfg : ∀ x y,f x = some y → g x = some y) : ∀ {l : List α} {r : List β},J3d f l = some r → l.mapM g = some r
 | [],r,hh=>by rw [J6u hh]; rfl
 | x::l,r,hh=>by
  obtain ⟨y,ys,h1,h2,rfl⟩:=J3s hh
  rw [List.mapM_cons,hfg _ _ h1,U3e hfg h2]; rfl
theorem J6q {place : Nat → Option (Nat × Nat)} {ρ : Operand → Value} : ∀ {parts : List (Nat × Operand)} {pl : List (Nat × Nat)} {l : List V},pl.length = parts.length →
  (∀ (j : Nat) (p : Nat × Operand) (q : Nat × Nat),parts[j]? = some p → pl[j]? = some q → place p.1 = some q) → VRs μ l ((parts.map (·.2)).map ρ) → U2i μ place (pl.zip l) (parts.map fun p=>(p.1,ρ p.2))
 | [],pl,l,hl,_,hv=>by
  have : pl = []:=List.eq_nil_of_length_eq_zero hl
  subst this; rfl
 | p::ps,[],l,hl,_,_=>by simp at hl
 | p::ps,q::qs,[],hl,_,hv=>by have:=hv.len; simp at this
 | p::ps,q::qs,v::vs,hl,hp,hv=>by
  obtain ⟨y,ys,e,h1,h2⟩:=VRs.cons_iff.1 hv
  simp only [List.map_cons,List.cons.injEq] at e
  rw [← e.2] at h2
  exact ⟨p.1,ρ p.2,_,rfl,hp 0 p q rfl rfl,by rw [e.1]; exact h1,J6q (by simpa using hl) (fun j a b ha hb=>hp (j + 1) a b (by simpa using ha) (by simpa using hb)) h2⟩
theorem U7b {α β : Type} {f : α → Option β} : ∀ {l : List α} {r : List β},J3d f l = some r → r.length = l.length ∧ ∀ (j : Nat) (x : α) (y : β),l[j]? = some x → r[j]? = some y → f x = some y
 | [],r,hh=>by rw [J6u hh]; exact ⟨rfl,by simp⟩
 | x::l,r,hh=>by
  obtain ⟨y,ys,h1,h2,rfl⟩:=J3s hh
  obtain ⟨h3,h4⟩:=U7b h2
  refine ⟨by simp [h3],fun j a b ha hb=>?_⟩
  cases j with
  | zero=>simp at ha hb; subst ha; subst hb; exact h1
  | succ j=>exact h4 j a b (by simpa using ha) (by simpa using hb)
theorem U7h (hT : TTok P tt) (r : HR B μ h w) {t : Nat} {parts : List (Nat × Operand)} {k : K} {xs : List Operand} (hk : G1w tt t parts = some (k,xs)) {ρ : Operand → Value} {l : List V} (hv : VRs μ l (xs.map ρ)) {v : V} {h' : H} (he : opK k h l = some (v,h')) :
  RunsN P B μ h w (do pure (.value (← Instr.build t (parts.map fun p=>(p.1,ρ p.2)).toArray))) v h':=by
 simp only [G1w,Option.bind_eq_some_iff] at hk
 obtain ⟨⟨d,i,zv⟩,h1,h2⟩:=hk
 obtain ⟨hd,hi,z,hz,hzv,hu,hcs⟩:=J1g hT h1
 cases d <;> simp only at h2 <;> try (cases h2; done)
 case struct fs =>
  simp only [Option.bind_eq_some_iff] at h2
  obtain ⟨pls,h3,pl,h4,h5⟩:=h2
  simp only [Option.some.injEq,Prod.mk.injEq] at h5
  obtain ⟨rfl,rfl⟩:=h5
  have hpls:=U3e (g:=fun f=>(P.info? f.type).map fun i=>(f.offset,i.size)) (fun f y hf=>by
   simp only [Option.bind_eq_some_iff] at hf
   obtain ⟨⟨fd,fi⟩,g1,g2⟩:=hf
   rw [(hT _ _ _ g1).2]; exact g2) h3
  obtain ⟨g1,g2⟩:=U7b h4
  have hP : U2i μ (fun x=>pls.toArray[x]?) (pl.zip l) (parts.map fun p=>(p.1,ρ p.2)):=J6q g1 (fun j p q hp hq=>by simpa using g2 j p q hp hq) hv
  simp only [opK,mvF,J5e,ldF,stF,U8o,U9k,eqF,U8m,U8n,U9e,U9c,U9b,sbF,bsF,U8r,U8s,faF,flF,iaF,ixF,U8i,U8k,U8j,U9i,J2r,U9j,U9h,U8p,U8q,saF,U8y,U8w,U8x,U8v,U9g,U9l,U9d,U8t,U9a,lkF,muF,taF,exF] at he
  cases hb : W0o zv.cells zv.cells.length (pl.zip l) <;> rw [hb] at he
  ·cases he
  simp only [Option.some.injEq,Prod.mk.injEq] at he
  obtain ⟨rfl,rfl⟩:=he
  exact RunsN.one r (U1c hi hz (.inl ⟨fs,pls,hd,hpls,rfl⟩) hP (hcs μ) hb)
 case array n e =>
  simp only [Option.bind_eq_some_iff] at h2
  obtain ⟨⟨ed,ei⟩,h3,h5⟩:=h2
  simp only [Option.some.injEq,Prod.mk.injEq] at h5
  obtain ⟨rfl,rfl⟩:=h5
  have hP : U2i μ (fun i=>some (i * ei.size,ei.size)) ((parts.map fun p=>(p.1 * ei.size,ei.size)).zip l) (parts.map fun p=>(p.1,ρ p.2)):=J6q (by simp) (fun j p q hp hq=>by
   rw [List.getElem?_map,hp] at hq; simp at hq; rw [← hq]) hv
  simp only [opK,mvF,J5e,ldF,stF,U8o,U9k,eqF,U8m,U8n,U9e,U9c,U9b,sbF,bsF,U8r,U8s,faF,flF,iaF,ixF,U8i,U8k,U8j,U9i,J2r,U9j,U9h,U8p,U8q,saF,U8y,U8w,U8x,U8v,U9g,U9l,U9d,U8t,U9a,lkF,muF,taF,exF] at he
  cases hb : W0o zv.cells zv.cells.length ((parts.map fun p=>(p.1 * ei.size,ei.size)).zip l) <;> rw [hb] at he
  ·cases he
  simp only [Option.some.injEq,Prod.mk.injEq] at he
  obtain ⟨rfl,rfl⟩:=he
  exact RunsN.one r (U1c hi hz (.inr ⟨n,e,ei,hd,(hT _ _ _ h3).2,rfl⟩) hP (hcs μ) hb)
theorem W4u (hT : TTok P tt) (r : HR B μ h w) {t len : Nat} {parts : List (Nat × Operand)} {k : K} {xs : List Operand} (hk : kBsl tt t len parts = some (k,xs)) {ρ : Operand → Value} {l : List V} (hv : VRs μ l (xs.map ρ)) {v : V} {h' : H} (he : opK k h l = some (v,h')) :
  RunsN P B μ h w (do pure (.value (← Instr.buildSlice t len (parts.map fun p=>(p.1,ρ p.2)).toArray))) v h':=by
 simp only [kBsl,Option.bind_eq_some_iff] at hk
 obtain ⟨⟨d,i⟩,h1,e,h2,⟨zd,zi,zv⟩,h3,h4⟩:=hk
 obtain ⟨h5,h6⟩:=J0p h4
 simp only [Prod.mk.injEq] at h6
 obtain ⟨rfl,rfl⟩:=h6
 have hd:=J2a h2
 simp only at hd; subst hd
 obtain ⟨_,hi,z,hz,hzv,hu,hcs⟩:=J1g hT h3
 simp only [Bool.and_eq_true] at h5
 have hlen:=Nat.eq_of_beq_eq_true h5.2
 have hzs : z.cells.size = zi.size:=by have:=(hcs μ).len; simp at this; omega
 have hP : U2i μ (fun i=>some (i * zi.size,zi.size)) ((parts.map fun p=>(p.1 * zi.size,zi.size)).zip l) (parts.map fun p=>(p.1,ρ p.2)):=J6q (by simp) (fun j p q hp hq=>by
  rw [List.getElem?_map,hp] at hq; simp at hq; rw [← hq]) hv
 exact (G3r r (hT _ _ _ h1).1 hi hz (Nat.le_of_ble_eq_true h5.1) hP (by rw [← hzs]; exact J4o (hcs μ) len) he).n
theorem U7i (hT : TTok P tt) (r : HR B μ h w) {t : Nat} {k : K} {xs : List Operand} (hk : U3f tt t = some (k,xs)) {ρ : Operand → Value} {l : List V} (hv : VRs μ l (xs.map ρ)) {v : V} {h' : H} (he : opK k h l = some (v,h')) :
  RunsN P B μ h w (do pure (.value (← Instr.alloc t true (.tuple #[])))) v h':=by
 simp only [U3f,Option.bind_eq_some_iff] at hk
 obtain ⟨⟨d,i,zv⟩,h1,h2⟩:=hk
 simp only [Option.some.injEq,Prod.mk.injEq] at h2
 obtain ⟨rfl,rfl⟩:=h2
 obtain ⟨hd,hi,z,hz,hzv,hu,hcs⟩:=J1g hT h1
 simp only [opK,mvF,J5e,ldF,stF,U8o,U9k,eqF,U8m,U8n,U9e,U9c,U9b,sbF,bsF,U8r,U8s,faF,flF,iaF,ixF,U8i,U8k,U8j,U9i,J2r,U9j,U9h,U8p,U8q,saF,U8y,U8w,U8x,U8v,U9g,U9l,U9d,U8t,U9a,lkF,muF,taF,exF,Option.some.injEq] at he
 have:=W0t (P:=P) r (t:=t) (i:=i) (z:=z) (n:=zv.cells.length) (c:=C.puts zv.cells 0 .e) hi hz (by have:=(hcs μ).len; simp at this; omega) (hcs μ).tree
 rw [he] at this
 exact this.n
theorem W4l (hT : TTok P tt) (r : HR B μ h w) {t : Nat} {a b : Operand} {k : K} {xs : List Operand} (hk : kMks tt t a b = some (k,xs)) {ρ : Operand → Value} {l : List V} (hv : VRs μ l (xs.map ρ)) {v : V} {h' : H} (he : opK k h l = some (v,h')) :
  RunsN P B μ h w (do pure (.value (← Instr.makeSlice t (ρ a) (ρ b)))) v h':=by
 simp only [kMks,Option.bind_eq_some_iff] at hk
 obtain ⟨⟨d,i⟩,h1,e,h2,⟨zd,zi,zv⟩,h3,h4⟩:=hk
 obtain ⟨h5,h6⟩:=J0p h4
 simp only [Prod.mk.injEq] at h6
 obtain ⟨rfl,rfl⟩:=h6
 have hd:=J2a h2
 simp only at hd; subst hd
 obtain ⟨_,hi,z,hz,hzv,hu,hcs⟩:=J1g hT h3
 obtain ⟨p,q,rfl,hp,hq⟩:=U5t hv
 exact (G1a r (hT _ _ _ h1).1 hi hz (hcs μ) (Nat.eq_of_beq_eq_true h5) hp hq he).n
theorem W4m (hT : TTok P tt) (r : HR B μ h w) {t : Nat} {a : Option Operand} {k : K} {xs : List Operand} (hk : Q2r tt t a = some (k,xs)) {ρ : Operand → Value} (hρ : ∀ v,ρ (.const v) = v) {l : List V} (hv : VRs μ l (xs.map ρ)) {v : V} {h' : H} (he : opK k h l = some (v,h')) :
  RunsN P B μ h w (do pure (.value (← Instr.makeMap t (a.map ρ)))) v h':=by
 have hK : k = .mkm → (Instr.makeMap t (a.map ρ)).run P w = (Instr.makeMap t none).run P w → RunsN P B μ h w (do pure (.value (← Instr.makeMap t (a.map ρ)))) v h':=by
  intro e er
  subst e
  simp only [opK,mvF,J5e,ldF,stF,U8o,U9k,eqF,U8m,U8n,U9e,U9c,U9b,sbF,bsF,U8r,U8s,faF,flF,iaF,ixF,U8i,U8k,U8j,U9i,J2r,U9j,U9h,U8p,U8q,saF,U8y,U8w,U8x,U8v,U9g,U9l,U9d,U8t,U9a,lkF,muF,taF,exF,Option.some.injEq] at he
  have:=G1b (P:=P) (t:=t) r
  rw [he] at this
  obtain ⟨y,w',μ',g1,g2⟩:=this.ex
  exact Runs.n ⟨⟨y,w',μ',by rw [er]; exact g1,g2⟩⟩
 cases a with
 | none =>
  simp only [Q2r,Option.some.injEq,Prod.mk.injEq] at hk
  exact hK hk.1.symm rfl
 | some x =>
  simp only [Q2r,Option.bind_eq_some_iff] at hk
  obtain ⟨⟨d,i⟩,h1,h2⟩:=hk
  have hd:=(hT _ _ _ h1).1
  cases d <;> simp only at h2 <;> try (cases h2; done)
  split at h2
  ·simp only [Option.some.injEq,Prod.mk.injEq] at h2
   refine hK h2.1.symm ?_
   simp [Instr.makeMap,run_underlying hd,hρ,asInt,asIntOf]
  ·cases h2
theorem G1o (hT : TTok P tt) (r : HR B μ h w) {t : Nat} {x : Operand} {k : K} {xs : List Operand} (hk : kSa tt t x = some (k,xs)) {ρ : Operand → Value} {l : List V} (hv : VRs μ l (xs.map ρ)) {v : V} {h' : H} (he : opK k h l = some (v,h')) :
  RunsN P B μ h w (do pure (.value (← Instr.arrayAt t (ρ x)))) v h':=by
 simp only [kSa,Option.bind_eq_some_iff] at hk
 obtain ⟨⟨d,i⟩,h1,h2⟩:=hk
 have hd:=(hT _ _ _ h1).1
 cases d <;> simp only at h2 <;> try (cases h2; done)
 simp only [Option.some.injEq,Prod.mk.injEq] at h2
 obtain ⟨rfl,rfl⟩:=h2
 obtain ⟨a,rfl,ha⟩:=J7p hv
 obtain ⟨h8,rfl⟩:=J0i he
 exact RunsN.one r (G6o hd ha h8)
theorem G1p (hT : TTok P tt) (r : HR B μ h w) {t : Nat} {a b : Operand} {ok : Bool} {k : K} {xs : List Operand} (hk : kLk tt t a b ok = some (k,xs)) {ρ : Operand → Value} {l : List V} (hv : VRs μ l (xs.map ρ)) {v : V} {h' : H} (he : opK k h l = some (v,h')) :
  RunsN P B μ h w (do pure (.value (← Instr.lookup t (ρ a) (ρ b) ok))) v h':=by
 simp only [kLk,Option.bind_eq_some_iff] at hk
 obtain ⟨⟨d,i⟩,h1,h2⟩:=hk
 have hd:=(hT _ _ _ h1).1
 cases d <;> simp only at h2 <;> try (cases h2; done)
 simp only [Option.bind_eq_some_iff] at h2
 obtain ⟨kk,h4,⟨zd,zi,zv⟩,h5,h6⟩:=h2
 simp only [Option.some.injEq,Prod.mk.injEq] at h6
 obtain ⟨rfl,rfl⟩:=h6
 have hkd:=U0h hT h4
 obtain ⟨_,hi,z,hz,hzv,hu,hcs⟩:=J1g hT h5
 obtain ⟨p,q,rfl,hp,hq⟩:=U5t hv
 obtain ⟨h8,rfl⟩:=J0i he
 exact RunsN.one r (G7o r hd hkd hi hz (hzv μ) hp hq h8)
theorem U7f (hT : TTok P tt) (r : HR B μ h w) {t : Nat} {a b c : Operand} {k : K} {xs : List Operand} (hk : kMu tt t a b c = some (k,xs)) {ρ : Operand → Value} {l : List V} (hv : VRs μ l (xs.map ρ)) {v : V} {h' : H} (he : opK k h l = some (v,h')) :
  RunsN P B μ h w (do Instr.mapUpdate t (ρ a) (ρ b) (ρ c); pure .skip) v h':=by
 simp only [kMu,Option.bind_eq_some_iff] at hk
 obtain ⟨⟨d,i⟩,h1,h2⟩:=hk
 have hd:=(hT _ _ _ h1).1
 cases d <;> simp only at h2 <;> try (cases h2; done)
 simp only [Option.bind_eq_some_iff] at h2
 obtain ⟨kk,h4,h6⟩:=h2
 simp only [Option.some.injEq,Prod.mk.injEq] at h6
 obtain ⟨rfl,rfl⟩:=h6
 have hkd:=U0h hT h4
 obtain ⟨p,q,s,rfl,hp,hq,hs⟩:=ops3 hv
 obtain ⟨h8,rfl⟩:=U2m he
 exact RunsN.unit (G7j r hd hkd hp hq hs h8)
theorem G1l (hT : TTok P tt) (r : HR B μ h w) {xt t : Nat} {x : Operand} {ok : Bool} {k : K} {xs : List Operand} (hk : kTa tt x t ok = some (k,xs)) {ρ : Operand → Value} {l : List V} (hv : VRs μ l (xs.map ρ)) {v : V} {h' : H} (he : opK k h l = some (v,h')) :
  RunsN P B μ h w (do pure (.value (← Instr.typeAssert (ρ x) xt t ok))) v h':=by
 simp only [kTa,Option.bind_eq_some_iff] at hk
 obtain ⟨⟨d,i,zv⟩,h1,h2⟩:=hk
 obtain ⟨hd,hi,z,hz,hzv,hu,hcs⟩:=J1g hT h1
 have hni : ∀ ms,d ≠ .interface ms:=by intro ms e; subst e; cases h2
 have h3 : (K.ta t ok zv,[x]) = (k,xs):=by cases d <;> first | exact absurd rfl (hni _) | exact Option.some.inj h2
 simp only [Prod.mk.injEq] at h3
 obtain ⟨rfl,rfl⟩:=h3
 obtain ⟨a,rfl,ha⟩:=J7p hv
 obtain ⟨h8,rfl⟩:=J0i he
 exact RunsN.one r (G5x hd hni hi hz (hzv μ) ha h8)
def kLen (tt : TT) (t : Nat) (x : Operand) : KO:=(tt t).bind fun d=>match d.1 with
 | .slice _=>some (.lnL,[x])
 | .string=>some (.lnS,[x])
 | .map _ _=>some (.lnM,[x])
 | .array n _=>some (.lnc n,[])
 | .pointer a=>(tt a).bind fun d=>match d.1 with | .array n _=>some (.lnc n,[]) | _=>none
 | _=>none
def kCap (tt : TT) (t : Nat) (x : Operand) : KO:=(tt t).bind fun d=>match d.1 with
 | .slice _=>some (.cap,[x])
 | .array n _=>some (.lnc n,[])
 | _=>none
def kApp (tt : TT) (t u : Nat) (x y : Operand) : KO :=
 (tt t).bind fun d=>(J5z d.1).bind fun e=>(J5f tt e).bind fun z=>(tt u).bind fun d2=>(J2m (Nat.beq z.2.2.cells.length z.2.1.size && Nat.ble 1 z.2.1.size) ()).bind fun _=>match d2.1 with
  | .slice _=>some (.app z.2.1.size z.2.1.bytes false,[x,y])
  | .string=>J2m (Nat.beq z.2.1.size 1) (.app z.2.1.size z.2.1.bytes true,[x,y])
  | .int _=>some (.apz z.2.1.size z.2.1.bytes z.2.2.cells,[x,y])
  | _=>none
def kCpy (tt : TT) (t u : Nat) (x y : Operand) : KO :=
 (tt t).bind fun d=>(J5z d.1).bind fun e=>(tt e).bind fun i=>(tt u).bind fun d2=>match d2.1 with
  | .string=>J2m (Nat.beq i.2.size 1) (.cpy i.2.size true,[x,y])
  | _=>some (.cpy i.2.size false,[x,y])
def kDel (tt : TT) (t : Nat) (x y : Operand) : KO :=
 (tt t).bind fun d=>match d.1 with
  | .map kt _=>(kdOf tt kt).bind fun kk=>some (.del kk,[x,y])
  | _=>none
def kClr (tt : TT) (t : Nat) (x : Operand) : KO :=
 (tt t).bind fun d=>(J5z d.1).bind fun e=>(J5f tt e).bind fun z=>J2m (Nat.beq z.2.2.cells.length z.2.1.size) (.clr z.2.1.size z.2.2.cells,[x])
def kBi (tt : TT) (b : Builtin) (ts : List Nat) (args : List Operand) : KO :=
 match args with
 | []=>none
 | x::args=>match ts with
  | []=>none
  | t::ts=>match args with
   | []=>match b with
    | .len=>kLen tt t x
    | .cap=>kCap tt t x
    | .clear=>kClr tt t x
    | _=>none
   | y::args=>match args with
    | _::_=>none
    | []=>match ts with
     | [u]=>match b with
      | .append=>kApp tt t u x y
      | .copy=>kCpy tt t u x y
      | .min=>some (.min,[x,y])
      | .delete=>kDel tt t x y
      | _=>none
     | _=>none
theorem Q8c {ts : Array Nat} {t : Nat} {r : List Nat} (h : ts.toList = t::r) : ts[0]? = some t:=by
 rw [← Array.getElem?_toList,h]; rfl
theorem Q3d {args : Array Operand} {ρ : Operand → Value} {l : List Operand} (h : args.toList = l) : args.map ρ = (l.map ρ).toArray:=by
 apply Array.ext'; simp [← h]
theorem tysOf {ts : Array Nat} {l : List Nat} (h : ts.toList = l) : ts = l.toArray:=by
 apply Array.ext'; simp [← h]
theorem W4p (hT : TTok P tt) (r : HR B μ h w) {ts : Array Nat} {t ty : Nat} {ts' : List Nat} {x : Operand} {k : K} {xs : List Operand} (htl : ts.toList = t::ts') (hk : kLen tt t x = some (k,xs)) {ρ : Operand → Value} {l : List V} (hv : VRs μ l (xs.map ρ)) {v : V} {h' : H} (he : opK k h l = some (v,h')) :
  RunsN P B μ h w (do pure (.value (← Builtin.len_ ts ty #[ρ x]))) v h':=by
 simp only [kLen,Option.bind_eq_some_iff] at hk
 obtain ⟨⟨d,i⟩,h1,h2⟩:=hk
 have hd:=(hT _ _ _ h1).1
 have h0:=Q8c htl
 cases d <;> simp only at h2 <;> try (cases h2; done)
 case slice e =>
  simp only [Option.some.injEq,Prod.mk.injEq] at h2
  obtain ⟨rfl,rfl⟩:=h2
  obtain ⟨a,rfl,hx⟩:=J7p hv
  obtain ⟨h8,rfl⟩:=J0i he
  cases a <;> simp only [lnL] at h8 <;> try (cases h8; done)
  ·simp only [Option.some.injEq] at h8; subst h8
   simp only [VR] at hx
   obtain ⟨g,q,c,_,e1,_⟩:=hx
   exact RunsN.one r ⟨_,by rw [e1]; simp [Builtin.len_,h0,run_underlying hd]; rfl,VR.i_iff.2 rfl⟩
  ·simp only [Option.some.injEq] at h8; subst h8
   simp only [VR] at hx
   obtain ⟨g,q,c,e1⟩:=hx
   exact RunsN.one r ⟨_,by rw [e1]; simp [Builtin.len_,h0,run_underlying hd]; rfl,VR.i_iff.2 rfl⟩
  ·simp only [Option.some.injEq] at h8; subst h8
   simp only [VR] at hx
   exact RunsN.one r ⟨_,by rw [hx]; simp [Builtin.len_,h0,run_underlying hd]; rfl,VR.i_iff.2 rfl⟩
 case string =>
  simp only [Option.some.injEq,Prod.mk.injEq] at h2
  obtain ⟨rfl,rfl⟩:=h2
  obtain ⟨a,rfl,hx⟩:=J7p hv
  obtain ⟨h8,rfl⟩:=J0i he
  cases a <;> simp only [lnS] at h8 <;> try (cases h8; done)
  simp only [Option.some.injEq] at h8; subst h8
  simp only [VR] at hx
  obtain ⟨s,e1,rfl⟩:=hx
  exact RunsN.one r ⟨_,by rw [e1]; simp [Builtin.len_,h0,run_underlying hd]; rfl,by rw [J0s]; exact VR.i_iff.2 rfl⟩
 case map kt et =>
  simp only [Option.some.injEq,Prod.mk.injEq] at h2
  obtain ⟨rfl,rfl⟩:=h2
  obtain ⟨a,rfl,hx⟩:=J7p hv
  obtain ⟨h8,rfl⟩:=J0i he
  unfold lnM at h8
  cases hes : entV h' a <;> rw [hes] at h8
  ·cases h8
  rename_i es
  simp only [Option.some.injEq] at h8; subst h8
  rcases U7o r hx hes with ⟨e1,rfl⟩ | ⟨g,ms,clock,e1,g1,g2⟩
  ·exact RunsN.one r ⟨_,by rw [e1]; simp [Builtin.len_,h0,run_underlying hd]; rfl,VR.i_iff.2 rfl⟩
  ·refine RunsN.one r ⟨goInt ms.size,by rw [e1]; simp [Builtin.len_,h0,run_underlying hd,MapKept.run_getObj_map g1],?_⟩
   rw [VR.i_iff]
   have:=g2.len
   simp at this
   rw [← this]; rfl
 case array n e =>
  simp only [Option.some.injEq,Prod.mk.injEq] at h2
  obtain ⟨rfl,rfl⟩:=h2
  simp only [opK,mvF,J5e,ldF,stF,U8o,U9k,eqF,U8m,U8n,U9e,U9c,U9b,sbF,bsF,U8r,U8s,faF,flF,iaF,ixF,U8i,U8k,U8j,U9i,J2r,U9j,U9h,U8p,U8q,saF,U8y,U8w,U8x,U8v,U9g,U9l,U9d,U8t,U9a,lkF,muF,taF,exF,Option.some.injEq,Prod.mk.injEq] at he
  obtain ⟨rfl,rfl⟩:=he
  exact RunsN.one r ⟨goInt n,by simp [Builtin.len_,h0,run_underlying hd],by rw [VR.i_iff]; rfl⟩
 case pointer a =>
  simp only [Option.bind_eq_some_iff] at h2
  obtain ⟨⟨ad,ai⟩,h3,h4⟩:=h2
  have had:=(hT _ _ _ h3).1
  cases ad <;> simp only at h4 <;> try (cases h4; done)
  simp only [Option.some.injEq,Prod.mk.injEq] at h4
  obtain ⟨rfl,rfl⟩:=h4
  simp only [opK,mvF,J5e,ldF,stF,U8o,U9k,eqF,U8m,U8n,U9e,U9c,U9b,sbF,bsF,U8r,U8s,faF,flF,iaF,ixF,U8i,U8k,U8j,U9i,J2r,U9j,U9h,U8p,U8q,saF,U8y,U8w,U8x,U8v,U9g,U9l,U9d,U8t,U9a,lkF,muF,taF,exF,Option.some.injEq,Prod.mk.injEq] at he
  obtain ⟨rfl,rfl⟩:=he
  exact RunsN.one r ⟨goInt _,by simp [Builtin.len_,h0,run_underlying hd,run_underlying had]; rfl,by rw [VR.i_iff]; rfl⟩
theorem W4t (hT : TTok P tt) (r : HR B μ h w) {ts : Array Nat} {t ty : Nat} {ts' : List Nat} {x : Operand} {k : K} {xs : List Operand} (htl : ts.toList = t::ts') (hk : kCap tt t x = some (k,xs)) {ρ : Operand → Value} {l : List V} (hv : VRs μ l (xs.map ρ)) {v : V} {h' : H} (he : opK k h l = some (v,h')) :
  RunsN P B μ h w (do pure (.value (← Builtin.cap_ ts ty #[ρ x]))) v h':=by
 simp only [kCap,Option.bind_eq_some_iff] at hk
 obtain ⟨⟨d,i⟩,h1,h2⟩:=hk
 have hd:=(hT _ _ _ h1).1
 have h0:=Q8c htl
 cases d <;> simp only at h2 <;> try (cases h2; done)
 case slice e =>
  simp only [Option.some.injEq,Prod.mk.injEq] at h2
  obtain ⟨rfl,rfl⟩:=h2
  obtain ⟨a,rfl,hx⟩:=J7p hv
  obtain ⟨h8,rfl⟩:=J0i he
  cases a <;> simp only [capV] at h8 <;> try (cases h8; done)
  ·rename_i p o len cap ex
   simp only [VR] at hx
   obtain ⟨g,q,c,_,e1,_,hex,_⟩:=hx
   cases ex
   ·simp only [Option.some.injEq] at h8; subst h8
    exact RunsN.one r ⟨_,by rw [e1]; simp [Builtin.cap_,h0,run_underlying hd]; rfl,VR.u _⟩
   ·simp only [Option.some.injEq] at h8; subst h8
    have:=hex rfl; subst this
    exact RunsN.one r ⟨_,by rw [e1]; simp [Builtin.cap_,h0,run_underlying hd]; rfl,VR.i_iff.2 rfl⟩
  ·simp only [Option.some.injEq] at h8; subst h8
   simp only [VR] at hx
   obtain ⟨g,q,c,e1⟩:=hx
   exact RunsN.one r ⟨_,by rw [e1]; simp [Builtin.cap_,h0,run_underlying hd]; rfl,VR.u _⟩
  ·simp only [Option.some.injEq] at h8; subst h8
   simp only [VR] at hx
   exact RunsN.one r ⟨_,by rw [hx]; simp [Builtin.cap_,h0,run_underlying hd]; rfl,VR.i_iff.2 rfl⟩
 case array n e =>
  simp only [Option.some.injEq,Prod.mk.injEq] at h2
  obtain ⟨rfl,rfl⟩:=h2
  simp only [opK,mvF,J5e,ldF,stF,U8o,U9k,eqF,U8m,U8n,U9e,U9c,U9b,sbF,bsF,U8r,U8s,faF,flF,iaF,ixF,U8i,U8k,U8j,U9i,J2r,U9j,U9h,U8p,U8q,saF,U8y,U8w,U8x,U8v,U9g,U9l,U9d,U8t,U9a,lkF,muF,taF,exF,Option.some.injEq,Prod.mk.injEq] at he
  obtain ⟨rfl,rfl⟩:=he
  exact RunsN.one r ⟨goInt n,by simp [Builtin.cap_,h0,run_underlying hd],by rw [VR.i_iff]; rfl⟩
theorem W4w (hT : TTok P tt) (r : HR B μ h w) {t u ty : Nat} {x y : Operand} {k : K} {xs : List Operand} (hk : kApp tt t u x y = some (k,xs)) {ρ : Operand → Value} {l : List V} (hv : VRs μ l (xs.map ρ)) {v : V} {h' : H} (he : opK k h l = some (v,h')) :
  RunsN P B μ h w (do pure (.value (← Builtin.append_ #[t,u] ty #[ρ x,ρ y]))) v h':=by
 simp only [kApp,Option.bind_eq_some_iff] at hk
 obtain ⟨⟨d,i⟩,h1,e,h2,⟨zd,zi,zv⟩,h3,⟨d2,i2⟩,h4,_,h5,h6⟩:=hk
 obtain ⟨h7,_⟩:=J0p h5
 simp only [Bool.and_eq_true] at h7
 have hd:=(hT _ _ _ h1).1
 have:=J2a h2
 simp only at this; subst this
 have hd2:=(hT _ _ _ h4).1
 obtain ⟨_,hi,z,hz,hzv,hu,hcs⟩:=J1g hT h3
 have hzs : z.cells.size = zi.size:=by have:=(hcs μ).len; have h9:=Nat.eq_of_beq_eq_true h7.1; simp at this h9; omega
 cases d2 <;> simp only at h6 <;> try (cases h6; done)
 case int kk =>
  simp only [Option.some.injEq,Prod.mk.injEq] at h6
  obtain ⟨rfl,rfl⟩:=h6
  obtain ⟨p,q,rfl,hp,hq⟩:=U5t hv
  exact (G3z r hd hd2 hi hz (hcs μ) (Nat.eq_of_beq_eq_true h7.1) hp hq he).n
 case slice e2 =>
  simp only [Option.some.injEq,Prod.mk.injEq] at h6
  obtain ⟨rfl,rfl⟩:=h6
  obtain ⟨p,q,rfl,hp,hq⟩:=U5t hv
  exact (U7z r (str:=false) hd hi hz hzs (Nat.le_of_ble_eq_true h7.2) ⟨e2,hd2⟩ hp hq he).n
 case string =>
  obtain ⟨h8,h9⟩:=J0p h6
  simp only [Prod.mk.injEq] at h9
  obtain ⟨rfl,rfl⟩:=h9
  obtain ⟨p,q,rfl,hp,hq⟩:=U5t hv
  exact (U7z r (str:=true) hd hi hz hzs (Nat.le_of_ble_eq_true h7.2) ⟨hd2,Nat.eq_of_beq_eq_true h8⟩ hp hq he).n
theorem W4r (hT : TTok P tt) (r : HR B μ h w) {t u ty : Nat} {x y : Operand} {k : K} {xs : List Operand} (hk : kCpy tt t u x y = some (k,xs)) {ρ : Operand → Value} {l : List V} (hv : VRs μ l (xs.map ρ)) {v : V} {h' : H} (he : opK k h l = some (v,h')) :
  RunsN P B μ h w (do pure (.value (← Builtin.copy_ #[t,u] ty #[ρ x,ρ y]))) v h':=by
 simp only [kCpy,Option.bind_eq_some_iff] at hk
 obtain ⟨⟨d,i⟩,h1,e,h2,⟨ed,ei⟩,h3,⟨d2,i2⟩,h4,h6⟩:=hk
 have hd:=(hT _ _ _ h1).1
 have:=J2a h2
 simp only at this; subst this
 split at h6
 ·obtain ⟨h8,h9⟩:=J0p h6
  simp only [Prod.mk.injEq] at h9
  obtain ⟨rfl,rfl⟩:=h9
  obtain ⟨p,q,rfl,hp,hq⟩:=U5t hv
  exact (U7t r (str:=true) hd (hT _ _ _ h3).2 (fun _=>Nat.eq_of_beq_eq_true h8) hp hq he).n
 ·simp only [Option.some.injEq,Prod.mk.injEq] at h6
  obtain ⟨rfl,rfl⟩:=h6
  obtain ⟨p,q,rfl,hp,hq⟩:=U5t hv
  exact (U7t r (str:=false) hd (hT _ _ _ h3).2 (by simp) hp hq he).n
theorem W4o (r : HR B μ h w) {ts : Array Nat} {ty : Nat} {x y : Operand} {ρ : Operand → Value} {l : List V} (hv : VRs μ l ([x,y].map ρ)) {v : V} {h' : H} (he : opK .min h l = some (v,h')) :
  RunsN P B μ h w (do pure (.value (← Builtin.min_ ts ty #[ρ x,ρ y]))) v h':=by
 obtain ⟨p,q,rfl,hp,hq⟩:=U5t hv
 obtain ⟨h8,rfl⟩:=J0i he
 cases p <;> simp only [minV] at h8 <;> try (cases h8; done)
 rename_i k1 a1
 cases q <;> simp only at h8 <;> try (cases h8; done)
 rename_i k2 a2
 cases hkk : Nat.beq (kno k1) (kno k2) <;> rw [hkk] at h8
 ·cases h8
 simp only [Option.some.injEq] at h8; subst h8
 rw [VR.i_iff] at hp hq
 refine RunsN.one r ⟨.int k1 (if a2 < a1 then a2 else a1),?_,?_⟩
 ·simp [Builtin.min_,hp,hq,Builtin.min2]
 ·rw [VR.i_iff,J3r]
  by_cases hlt : a2 < a1 <;> simp [hlt]
theorem W4q (hT : TTok P tt) (r : HR B μ h w) {t u ty : Nat} {x y : Operand} {k : K} {xs : List Operand} (hk : kDel tt t x y = some (k,xs)) {ρ : Operand → Value} {l : List V} (hv : VRs μ l (xs.map ρ)) {v : V} {h' : H} (he : opK k h l = some (v,h')) :
  RunsN P B μ h w (do pure (.value (← Builtin.delete_ #[t,u] ty #[ρ x,ρ y]))) v h':=by
 simp only [kDel,Option.bind_eq_some_iff] at hk
 obtain ⟨⟨d,i⟩,h1,h2⟩:=hk
 have hd:=(hT _ _ _ h1).1
 cases d <;> simp only at h2 <;> try (cases h2; done)
 simp only [Option.bind_eq_some_iff] at h2
 obtain ⟨kk,h4,h6⟩:=h2
 simp only [Option.some.injEq,Prod.mk.injEq] at h6
 obtain ⟨rfl,rfl⟩:=h6
 have hkd:=U0h hT h4
 obtain ⟨p,q,rfl,hp,hq⟩:=U5t hv
 have he2 : (match delV h kk p q with | some h=>some (V.tu [],h) | none=>none) = some (v,h'):=he
 cases hdl : delV h kk p q <;> rw [hdl] at he2
 ·cases he2
 simp only [Option.some.injEq,Prod.mk.injEq] at he2
 obtain ⟨rfl,rfl⟩:=he2
 obtain ⟨w',g1,g2,g3⟩:=G2x (P:=P) (tk:=u) (ty:=ty) r hd hkd hp hq hdl
 exact Runs.n ⟨⟨_,w',μ,g1,by simp only [VR]; exact ⟨_,rfl,VRs.nil_iff.2 rfl⟩,g2,g3⟩⟩
theorem W4s (hT : TTok P tt) (r : HR B μ h w) {ts : Array Nat} {t ty : Nat} {ts' : List Nat} {x : Operand} {k : K} {xs : List Operand} (htl : ts.toList = t::ts') (hk : kClr tt t x = some (k,xs)) {ρ : Operand → Value} {l : List V} (hv : VRs μ l (xs.map ρ)) {v : V} {h' : H} (he : opK k h l = some (v,h')) :
  RunsN P B μ h w (do pure (.value (← Builtin.clear_ ts ty #[ρ x]))) v h':=by
 simp only [kClr,Option.bind_eq_some_iff] at hk
 obtain ⟨⟨d,i⟩,h1,e,h2,⟨ed,ei,z⟩,h3,h4⟩:=hk
 obtain ⟨hsz,h5⟩:=J0p h4
 simp only [Prod.mk.injEq] at h5
 obtain ⟨rfl,rfl⟩:=h5
 have hd:=J2a h2
 obtain ⟨g1,g2,zv,g3,g4,g5,g6⟩:=J1g hT h3
 obtain ⟨a,rfl,hx⟩:=J7p hv
 have hr:=G3e (P:=P) (ty:=ty) (t:=t) r (by rw [(hT _ _ _ h1).1]; exact congrArg some hd) g2 g3 (g6 μ) (Nat.eq_of_beq_eq_true hsz) hx he
 have e1 : Builtin.clear_ ts ty #[ρ x] = Builtin.clear_ #[t] ty #[ρ x]:=by
  have h0:=Q8c htl
  simp [Builtin.clear_,h0]
 rw [e1]; exact hr.n
theorem G1x (hT : TTok P tt) (r : HR B μ h w) {b : Builtin} {ts : Array Nat} {args : Array Operand} {cs : Array Bool} {ty : Nat} {k : K} {xs : List Operand} (hk : kBi tt b ts.toList args.toList = some (k,xs))
  {ρ : Operand → Value} {l : List V} (hv : VRs μ l (xs.map ρ)) {v : V} {h' : H} (he : opK k h l = some (v,h')) :
  RunsN P B μ h w (builtin b ts ty cs (args.map ρ)) v h':=by
 unfold kBi at hk
 cases ha : args.toList with
 | nil=>rw [ha] at hk; cases hk
 | cons x as =>
  rw [ha] at hk
  cases htl : ts.toList with
  | nil=>rw [htl] at hk; cases hk
  | cons t ts' =>
   rw [htl] at hk
   cases as with
   | nil =>
    have e:=Q3d (ρ:=ρ) ha
    rw [e]
    cases b <;> simp only at hk <;> try (cases hk; done)
    ·exact W4t (ty:=ty) hT r htl hk hv he
    ·exact W4s (ty:=ty) hT r htl hk hv he
    ·exact W4p (ty:=ty) hT r htl hk hv he
   | cons y as =>
    cases as with
    | cons z as=>cases hk
    | nil =>
     cases ts' with
     | nil=>cases hk
     | cons u ts' =>
      cases ts' with
      | cons _ _=>cases hk
      | nil =>
       have e:=Q3d (ρ:=ρ) ha
       have e2:=tysOf htl
       rw [e,e2]
       cases b <;> simp only at hk <;> try (cases hk; done)
       ·exact W4w (ty:=ty) hT r hk hv he
       ·exact W4r (ty:=ty) hT r hk hv he
       ·exact W4q (ty:=ty) hT r hk hv he
       ·simp only [Option.some.injEq,Prod.mk.injEq] at hk
        obtain ⟨rfl,rfl⟩:=hk
        exact W4o (ty:=ty) r hv he
end
end Go.X
end
