/- Regions of the abstract machine as code that the kernel runs in few steps. -/
import Derived.Test.YthhcifmblnbokaaGreatDoorXf
import Derived.LoopN
set_option linter.all false
set_option maxRecDepth 100000
noncomputable section
namespace Go.X
open Go.RowKit
inductive R where
 | n (e : E) (h : H) | x (id : Nat) (e : E) (h : H) | r (e : E) (h : H) | pn (v : V) (e : E) (h : H) | bad
structure Dn where
 get : List V → E → V
abbrev ydV (d : Dn) (l : List V) (e : E) : V:=d.get l e
def hdV (l : List V) : V:=List.rec (motive:=fun _=>V) .u (fun v _ _=>v) l
def tlV (l : List V) : List V:=List.rec (motive:=fun _=>List V) [] (fun _ l _=>l) l
def dnD (i : D) : Dn:=D.rec (motive:=fun _=>Dn) ⟨fun _ e=>e.a0⟩ ⟨fun _ e=>e.a1⟩ ⟨fun _ e=>e.a2⟩ ⟨fun _ e=>e.a3⟩ ⟨fun _ e=>e.a4⟩ ⟨fun _ e=>e.a5⟩ ⟨fun _ e=>e.a6⟩ ⟨fun _ e=>e.a7⟩ ⟨fun _ e=>e.a8⟩ ⟨fun _ e=>e.a9⟩ ⟨fun _ e=>e.a10⟩ ⟨fun _ e=>e.a11⟩ ⟨fun _ e=>e.a12⟩ ⟨fun _ e=>e.a13⟩ ⟨fun _ e=>e.a14⟩ ⟨fun _ e=>e.a15⟩ i
def ydR (k : Nat) : Dn:=match k with | 0=>⟨fun l _=>hdV l⟩ | 1=>⟨fun l _=>hdV (tlV l)⟩ | 2=>⟨fun l _=>hdV (tlV (tlV l))⟩ | k=>⟨fun l _=>nth l k⟩
def ydS (s : S) : Dn:=match s with | .a i=>dnD i | .b k=>⟨fun _ e=>C.at_ e.c k⟩
def J0d (o : Od) : Dn:=match o with | .c v=>⟨fun _ _=>v⟩ | .t s=>ydS s | .r k=>ydR k
theorem G2g (l : List V) : hdV l = nth l 0:=by cases l <;> rfl
theorem W6o (l : List V) (k : Nat) : nth (tlV l) k = nth l (k + 1):=by
 cases l with
 | nil=>rfl
 | cons x l=>rfl
theorem G9c (k : Nat) (res : List V) (e : E) : ydV (ydR k) res e = nth res k:=by
 unfold ydR
 split
 ·exact G2g _
 ·show hdV (tlV res) = _; rw [G2g,W6o]
 ·show hdV (tlV (tlV res)) = _; rw [G2g,W6o,W6o]
 ·rfl
theorem J0j (o : Od) (res : List V) (e : E) : ydV (J0d o) res e = odV res e o:=by
 cases o with
 | c v=>rfl
 | t s =>
  cases s with
  | a i=>cases i <;> rfl
  | b k=>rfl
 | r k=>exact G9c k res e
def ydL (l : List Dn) (res : List V) (e : E) : List V:=List.rec (motive:=fun _=>List V) [] (fun d _ ih=>d.get res e::ih) l
theorem J8j (l : List Od) (res : List V) (e : E) : ydL (l.map J0d) res e = l.map (odV res e):=by
 induction l with
 | nil=>rfl
 | cons o l ih=>show ydV (J0d o) res e::ydL (l.map J0d) res e = _; rw [ih,J0j]; rfl
def sbN (m n : Nat) : Int:=Bool.rec (.ofNat (Nat.sub m n)) (.negSucc (Nat.sub (Nat.sub n m) 1)) (Nat.ble (Nat.add m 1) n)
theorem W1i (m n : Nat) : sbN m n = (m : Int) - (n : Int):=by
 unfold sbN
 cases h : Nat.ble (Nat.add m 1) n
 ·have h1 : ¬ (m + 1 ≤ n):=fun k=>by rw [show Nat.ble (Nat.add m 1) n = Nat.ble (m + 1) n from rfl,Nat.ble_eq_true_of_le k] at h; cases h
  show ((m - n : Nat) : Int) = _
  omega
 ·have h1 : m + 1 ≤ n:=Nat.le_of_ble_eq_true h
  show Int.negSucc (n - m - 1) = _
  rw [Int.negSucc_eq]; omega
def addI (a b : Int) : Int:=Int.rec (motive:=fun _=>Int) (fun m=>Int.rec (motive:=fun _=>Int) (fun n=>.ofNat (Nat.add m n)) (fun n=>sbN m (Nat.add n 1)) b)
 (fun m=>Int.rec (motive:=fun _=>Int) (fun n=>sbN n (Nat.add m 1)) (fun n=>.negSucc (Nat.add (Nat.add m n) 1)) b) a
theorem Q8g (a b : Int) : addI a b = Int.add a b:=by
 show _ = a + b
 cases a with
 | ofNat m =>
  cases b with
  | ofNat n=>show ((m + n : Nat) : Int) = (m : Int) + (n : Int); omega
  | negSucc n=>show sbN m (n + 1) = (m : Int) + Int.negSucc n; rw [W1i,Int.negSucc_eq]; omega
 | negSucc m =>
  cases b with
  | ofNat n=>show sbN n (m + 1) = Int.negSucc m + (n : Int); rw [W1i,Int.negSucc_eq]; omega
  | negSucc n=>show Int.negSucc (m + n + 1) = Int.negSucc m + Int.negSucc n; rw [Int.negSucc_eq,Int.negSucc_eq,Int.negSucc_eq]; omega
def subI (a b : Int) : Int:=Int.rec (motive:=fun _=>Int) (fun m=>Int.rec (motive:=fun _=>Int) (fun n=>sbN m n) (fun n=>.ofNat (Nat.add m (Nat.add n 1))) b)
 (fun m=>Int.rec (motive:=fun _=>Int) (fun n=>.negSucc (Nat.add m n)) (fun n=>sbN n m) b) a
theorem W6w (a b : Int) : subI a b = Int.sub a b:=by
 show _ = a - b
 cases a with
 | ofNat m =>
  cases b with
  | ofNat n=>show sbN m n = (m : Int) - (n : Int); rw [W1i]
  | negSucc n=>show ((m + (n + 1) : Nat) : Int) = (m : Int) - Int.negSucc n; rw [Int.negSucc_eq]; omega
 | negSucc m =>
  cases b with
  | ofNat n=>show Int.negSucc (m + n) = Int.negSucc m - (n : Int); rw [Int.negSucc_eq,Int.negSucc_eq]; omega
  | negSucc n=>show sbN n m = Int.negSucc m - Int.negSucc n; rw [W1i,Int.negSucc_eq,Int.negSucc_eq]; omega
def mulI (a b : Int) : Int:=Int.rec (motive:=fun _=>Int) (fun m=>Int.rec (motive:=fun _=>Int) (fun n=>.ofNat (Nat.mul m n)) (fun n=>Int.mul a b) b) (fun _=>Int.mul a b) a
theorem Q6m (a b : Int) : mulI a b = Int.mul a b:=by
 cases a with
 | ofNat m=>cases b <;> rfl
 | negSucc m=>rfl
def wrY (k : IntKind) (n : Int) : Int :=
 Int.rec (motive:=fun _=>Int) (fun a=>Bool.rec (Bool.rec (.ofNat (Nat.mod a (Nat.add (lim k) 1))) (k.wrap n) (sgn k)) (.ofNat a) (Nat.ble a (lim k)))
  (fun a=>Bool.rec (Bool.rec (.ofNat (Nat.sub (lim k) (Nat.mod a (Nat.add (lim k) 1)))) (k.wrap n) (sgn k)) (.negSucc a) (sgn k && Nat.ble a (lim k))) n
theorem U2l (k : IntKind) (n : Int) : wrY k n = wr k n:=by
 rw [J6f]
 cases n with
 | ofNat a =>
  show Bool.rec (motive:=fun _=>Int) (Bool.rec (.ofNat (a % (lim k + 1))) (k.wrap (.ofNat a)) (sgn k)) (.ofNat a) (Nat.ble a (lim k)) = _
  cases h : Nat.ble a (lim k) with
  | false =>
   cases hs : sgn k with
   | true=>rfl
   | false =>
    show Int.ofNat (a % (lim k + 1)) = k.wrap (Int.ofNat a)
    have e : Int.ofNat a = (a : Int):=rfl
    rw [e]
    cases k <;> first | (cases hs; done) | (simp [IntKind.wrap,IntKind.bits,IntKind.signed,lim] <;> omega)
  | true =>
   have:=J6f k (.ofNat a)
   rw [← this]
   show Int.ofNat a = Bool.rec (motive:=fun _=>Int) (k.wrap (.ofNat a)) (.ofNat a) (Nat.ble a (lim k))
   rw [h]
 | negSucc a =>
  show Bool.rec (motive:=fun _=>Int) (Bool.rec (.ofNat (lim k - a % (lim k + 1))) (k.wrap (.negSucc a)) (sgn k)) (.negSucc a) (sgn k && Nat.ble a (lim k)) = _
  cases h : (sgn k && Nat.ble a (lim k)) with
  | false =>
   cases hs : sgn k with
   | true=>rfl
   | false =>
    show Int.ofNat (lim k - a % (lim k + 1)) = k.wrap (Int.negSucc a)
    have e : Int.ofNat (lim k - a % (lim k + 1)) = ((lim k - a % (lim k + 1) : Nat) : Int):=rfl
    rw [e,Int.negSucc_eq]
    cases k <;> first | (cases hs; done) | (simp only [IntKind.wrap,IntKind.bits,IntKind.signed,lim] <;> simp <;> omega)
  | true =>
   have:=J6f k (.negSucc a)
   rw [← this]
   show Int.negSucc a = Bool.rec (motive:=fun _=>Int) (k.wrap (.negSucc a)) (.negSucc a) (sgn k && Nat.ble a (lim k))
   rw [h]
def eqK (k k' : IntKind) : Bool:=Nat.beq (kno k) (kno k')
end Go.X
namespace Go.X
open Go.RowKit
def onI (x : V) (f : IntKind → Int → R) : R:=V.rec (motive_1:=fun _=>R) (motive_2:=fun _=>Unit) (fun _ _ _ _ _=>.bad) (fun _ _=>.bad) .bad (fun _ _=>.bad) (fun _ _ _ _ _=>.bad) .bad (fun _=>.bad) (fun _ _ _=>.bad) .bad (fun _ _=>.bad) (fun _=>.bad) (fun _=>.bad) (fun _ _=>.bad) (fun _ _=>.bad) .bad (fun _ _ _ _ _=>.bad) .bad .bad (fun _=>.bad) .bad (f) () (fun _ _ _ _=>()) (x)
def J5l (x : V) (z : R) (f : IntKind → Int → R) : R:=V.rec (motive_1:=fun _=>R) (motive_2:=fun _=>Unit) (fun _ _ _ _ _=>z) (fun _ _=>.bad) .bad (fun _ _=>.bad) (fun _ _ _ _ _=>.bad) .bad (fun _=>.bad) (fun _ _ _=>.bad) .bad (fun _ _=>.bad) (fun _=>.bad) (fun _=>.bad) (fun _ _=>.bad) (fun _ _=>.bad) .bad (fun _ _ _ _ _=>.bad) .bad .bad (fun _=>.bad) .bad f () (fun _ _ _ _=>()) x
def onB (x : V) (f : Bool → R) : R:=V.rec (motive_1:=fun _=>R) (motive_2:=fun _=>Unit) (fun _ _ _ _ _=>.bad) (fun _ _=>.bad) .bad (fun _ _=>.bad) (fun _ _ _ _ _=>.bad) .bad (fun _=>.bad) (fun _ _ _=>.bad) .bad (fun _ _=>.bad) (f) (fun _=>.bad) (fun _ _=>.bad) (fun _ _=>.bad) .bad (fun _ _ _ _ _=>.bad) .bad .bad (fun _=>.bad) .bad (fun _ _=>.bad) () (fun _ _ _ _=>()) (x)
def onP (x : V) (f : Nat → Nat → R) : R:=V.rec (motive_1:=fun _=>R) (motive_2:=fun _=>Unit) (fun _ _ _ _ _=>.bad) (fun _ _=>.bad) .bad (fun _ _=>.bad) (fun _ _ _ _ _=>.bad) .bad (fun _=>.bad) (fun _ _ _=>.bad) .bad (fun _ _=>.bad) (fun _=>.bad) (fun _=>.bad) (fun _ _=>.bad) (f) .bad (fun _ _ _ _ _=>.bad) .bad .bad (fun _=>.bad) .bad (fun _ _=>.bad) () (fun _ _ _ _=>()) (x)
def onSl (x : V) (f : Nat → Nat → Nat → Nat → Bool → R) : R:=V.rec (motive_1:=fun _=>R) (motive_2:=fun _=>Unit) (fun _ _ _ _ _=>.bad) (fun _ _=>.bad) .bad (fun _ _=>.bad) (fun _ _ _ _ _=>.bad) .bad (fun _=>.bad) (fun _ _ _=>.bad) .bad (fun _ _=>.bad) (fun _=>.bad) (fun _=>.bad) (fun _ _=>.bad) (fun _ _=>.bad) .bad (f) .bad .bad (fun _=>.bad) .bad (fun _ _=>.bad) () (fun _ _ _ _=>()) (x)
def onTu (x : V) (f : List V → R) : R:=V.rec (motive_1:=fun _=>R) (motive_2:=fun _=>Unit) (fun _ _ _ _ _=>.bad) (fun _ _=>.bad) .bad (fun _ _=>.bad) (fun _ _ _ _ _=>.bad) .bad (fun _=>.bad) (fun _ _ _=>.bad) .bad (fun x0 _=>f x0) (fun _=>.bad) (fun _=>.bad) (fun _ _=>.bad) (fun _ _=>.bad) .bad (fun _ _ _ _ _=>.bad) .bad .bad (fun _=>.bad) .bad (fun _ _=>.bad) () (fun _ _ _ _=>()) (x)
def onAg (x : V) (f : List V → R) : R:=V.rec (motive_1:=fun _=>R) (motive_2:=fun _=>Unit) (fun _ _ _ _ _=>.bad) (fun _ _=>.bad) .bad (fun _ _=>.bad) (fun _ _ _ _ _=>.bad) .bad (fun _=>.bad) (fun _ _ _=>.bad) .bad (fun _ _=>.bad) (fun _=>.bad) (fun _=>.bad) (fun x0 _=>f x0) (fun _ _=>.bad) .bad (fun _ _ _ _ _=>.bad) .bad .bad (fun _=>.bad) .bad (fun _ _=>.bad) () (fun _ _ _ _=>()) (x)
def onN (n : Int) (f : Nat → R) : R:=Int.rec (motive:=fun _=>R) f (fun _=>.bad) n
def onC (x : O) (f : Nat → C → Bool → R) : R:=O.rec (motive:=fun _=>R) .bad f (fun _ _ _=>.bad) (fun _ _=>.bad) (fun _ _ _ _=>.bad) (fun _ _ _ _ _=>.bad) x
def onO (x : Option V) (f : V → R) : R:=Option.rec (motive:=fun _=>R) .bad f x
def onOH (x : Option (V × H)) (f : V → H → R) : R:=Option.rec (motive:=fun _=>R) .bad (fun p=>Prod.rec (motive:=fun _=>R) f p) x
def Q2u (l : List V) : Nat → (V → R) → R:=List.rec (motive:=fun _=>Nat → (V → R) → R) (fun _ _=>.bad) (fun x _ ih n f=>Nat.rec (motive:=fun _=>R) (f x) (fun n _=>ih n f) n) l
theorem Q6c (x : Option (V × H)) (f : V → H → R) : onOH x f = .bad ∨ ∃ v h,x = some (v,h) ∧ onOH x f = f v h:=by rcases x with _ | ⟨v,h⟩ <;> first | exact .inl rfl | exact .inr ⟨_,_,rfl,rfl⟩
theorem W0g : ∀ (l : List V) (n : Nat) (f : V → R),Q2u l n f = .bad ∨ ∃ v,l[n]? = some v ∧ Q2u l n f = f v
 | [],n,f=>.inl rfl
 | x::l,0,f=>.inr ⟨x,rfl,rfl⟩
 | x::l,n + 1,f=>W0g l n f
def ifB (b : Bool) (r : R) : R:=Bool.rec .bad r b
abbrev KT:=List V → H → R
structure Fn where
 run : FC → E → List V → H → KT → R
def wpE (wp : List S) (e : E) : E:=List.rec (motive:=fun _=>E) e (fun s _ ih=>wrS s .u ih) wp
def J0a : Fn:=⟨fun _ _ res h K=>K res h⟩
def Q6b (x : V) : Bool:=V.rec (motive_1:=fun _=>Bool) (motive_2:=fun _=>Unit) (fun _ _ _ _ _=>true) (fun _ _=>true) false (fun _ _=>true) (fun _ _ _ _ _=>true) true (fun _=>true) (fun _ _ _=>true) true (fun _ _=>false) (fun _=>true) (fun _=>true) (fun _ _=>false) (fun _ _=>true) true (fun _ _ _ _ _=>true) true true (fun _=>true) true (fun _ _=>true) () (fun _ _ _ _=>()) x
theorem G0n (x : V) : Q6b x = x.one:=by cases x <;> rfl
def oneL (l : List V) : Nat → Bool:=List.rec (motive:=fun _=>Nat → Bool) (fun m=>Nat.beq m 0) (fun x _ ih m=>Nat.rec (motive:=fun _=>Bool) false (fun m _=>Bool.rec false (ih m) (Q6b x)) m) l
theorem G0o : ∀ (l : List V) (m : Nat),oneL l m = true → l.all V.one = true ∧ Nat.beq l.length m = true
 | [],m,h=>⟨rfl,by have h2 : Nat.beq m 0 = true:=h; have:=Nat.eq_of_beq_eq_true h2; subst this; rfl⟩
 | x::l,0,h=>by cases h
 | x::l,m + 1,h=>by
  have h2 : (Bool.rec false (oneL l m) (Q6b x) : Bool) = true:=h
  cases hx : Q6b x <;> rw [hx] at h2
  ·cases h2
  obtain ⟨h3,h4⟩:=G0o l m h2
  rw [G0n] at hx
  refine ⟨by simp only [List.all_cons,hx,h3,Bool.and_true],?_⟩
  have:=Nat.eq_of_beq_eq_true h4
  rw [List.length_cons,this]; exact Nat.beq_refl _
def bitN (op : BinOp) (m n : Nat) : Nat:=match op with | .and=>Nat.land m n | .or=>Nat.lor m n | _=>Nat.xor m n
def J5q (op : BinOp) (k : IntKind) (a b : Int) : Int :=
 Int.rec (motive:=fun _=>Int) (fun m=>Int.rec (motive:=fun _=>Int) (fun n=>Bool.rec (U5u op k a b) (.ofNat (bitN op m n)) (Nat.ble m (lim k) && Nat.ble n (lim k))) (fun _=>U5u op k a b) b) (fun _=>U5u op k a b) a
def btY (k : IntKind) : Nat:=match k with | .i8=>8 | .i16=>16 | .i32=>32 | .i64=>64 | .u8=>8 | .u16=>16 | .u32=>32 | .u64=>64
def G6j (k : IntKind) (a : Int) (n : Nat) : Int:=Int.rec (motive:=fun _=>Int) (fun m=>Bool.rec (shI true k a n) (wrY k (.ofNat (Nat.shiftLeft m n))) (Nat.ble n (btY k))) (fun _=>shI true k a n) a
def G6i (k : IntKind) (a : Int) (n : Nat) : Int:=Int.rec (motive:=fun _=>Int) (fun m=>Bool.rec (shI false k a n) (.ofNat (Nat.shiftRight m n)) (Nat.ble n (btY k))) (fun _=>shI false k a n) a
def ntB (b : Bool) : Bool:=Bool.rec true false b
theorem G0v (b : Bool) : ntB b = !b:=by cases b <;> rfl
theorem lim_lt (k : IntKind) : lim k < 2 ^ btY k:=by cases k <;> decide
theorem U5k (k : IntKind) : k.bits = btY k:=by cases k <;> rfl
theorem W0q (op : BinOp) (k : IntKind) (a b : Int) (h : op = .and ∨ op = .or ∨ op = .xor) : J5q op k a b = U5u op k a b:=by
 cases a with
 | negSucc m=>rfl
 | ofNat m =>
  cases b with
  | negSucc n=>rfl
  | ofNat n =>
   show Bool.rec (motive:=fun _=>Int) (U5u op k (.ofNat m) (.ofNat n)) (.ofNat (bitN op m n)) (Nat.ble m (lim k) && Nat.ble n (lim k)) = _
   cases hb : (Nat.ble m (lim k) && Nat.ble n (lim k))
   ·rfl
   simp only [Bool.and_eq_true] at hb
   have h1 : m ≤ lim k:=Nat.le_of_ble_eq_true hb.1
   have h2 : n ≤ lim k:=Nat.le_of_ble_eq_true hb.2
   have hl:=lim_lt k
   have hm : m % 2 ^ k.bits = m:=by rw [U5k]; exact Nat.mod_eq_of_lt (by omega)
   have hn : n % 2 ^ k.bits = n:=by rw [U5k]; exact Nat.mod_eq_of_lt (by omega)
   have hlim : ∃ j,lim k = 2 ^ j - 1:=by cases k <;> first | exact ⟨7,rfl⟩ | exact ⟨15,rfl⟩ | exact ⟨31,rfl⟩ | exact ⟨63,rfl⟩ | exact ⟨8,rfl⟩ | exact ⟨16,rfl⟩ | exact ⟨32,rfl⟩ | exact ⟨64,rfl⟩
   obtain ⟨j,hj⟩:=hlim
   have hp : 0 < 2 ^ j:=Nat.two_pow_pos j
   have wrs : ∀ x,x < 2 ^ j → wr k (.ofNat x) = .ofNat x:=by
    intro x hx
    show Bool.rec (motive:=fun _=>Int) (k.wrap (.ofNat x)) (.ofNat x) (Nat.ble x (lim k)) = _
    rw [Nat.ble_eq_true_of_le (show x ≤ lim k by omega)]
   have hm2 : m < 2 ^ j:=by omega
   have hn2 : n < 2 ^ j:=by omega
   rcases h with rfl | rfl | rfl
   ·show Int.ofNat (m &&& n) = wr k (.ofNat ((m % 2 ^ k.bits) &&& (n % 2 ^ k.bits)))
    rw [hm,hn,wrs _ (Nat.lt_of_le_of_lt Nat.and_le_left hm2)]
   ·show Int.ofNat (m ||| n) = wr k (.ofNat ((m % 2 ^ k.bits) ||| (n % 2 ^ k.bits)))
    rw [hm,hn,wrs _ (Nat.or_lt_two_pow hm2 hn2)]
   ·show Int.ofNat (m ^^^ n) = wr k (.ofNat ((m % 2 ^ k.bits) ^^^ (n % 2 ^ k.bits)))
    rw [hm,hn,wrs _ (Nat.xor_lt_two_pow hm2 hn2)]
theorem Q4k (k : IntKind) (a : Int) (n : Nat) : G6j k a n = shI true k a n:=by
 cases a with
 | negSucc m=>rfl
 | ofNat m =>
  show Bool.rec (motive:=fun _=>Int) (shI true k (.ofNat m) n) (wrY k (.ofNat (Nat.shiftLeft m n))) (Nat.ble n (btY k)) = _
  cases hb : Nat.ble n (btY k)
  ·rfl
  have h1 : n ≤ btY k:=Nat.le_of_ble_eq_true hb
  show wrY k (.ofNat (m <<< n)) = wr k (.ofNat (m * 2 ^ (Nat.min n k.bits)))
  rw [U2l,Nat.shiftLeft_eq,U5k]
  have : Nat.min n (btY k) = n:=Nat.min_eq_left h1
  rw [this]
theorem Q4i (k : IntKind) (a : Int) (n : Nat) : G6i k a n = shI false k a n:=by
 cases a with
 | negSucc m=>rfl
 | ofNat m =>
  show Bool.rec (motive:=fun _=>Int) (shI false k (.ofNat m) n) (.ofNat (Nat.shiftRight m n)) (Nat.ble n (btY k)) = _
  cases hb : Nat.ble n (btY k)
  ·rfl
  have h1 : n ≤ btY k:=Nat.le_of_ble_eq_true hb
  show Int.ofNat (m >>> n) = .ofNat (m / 2 ^ (Nat.min n k.bits))
  rw [Nat.shiftRight_eq_div_pow,U5k]
  have : Nat.min n (btY k) = n:=Nat.min_eq_left h1
  rw [this]
def fBad (next : Fn) : Fn:=⟨fun fc e res h K=>.bad⟩
def fQ (k : K) (xs : List Dn) (next : Fn) : Fn:=⟨fun fc e res h K=>Option.rec (motive:=fun _=>R) .bad (fun v=>next.run fc e (v::res) h K) (qK k h (ydL xs res e))⟩
def U2d (wp : List S) (xs : List Dn) (next : Fn) : Fn:=⟨fun fc e res h K=>RC.rec (motive:=fun _=>R) (fun v h=>next.run fc e (v::res) h K) (fun v h=>.pn v (wpE wp e) h) .bad (J6c fc .clo (ydL xs res e) h)⟩
def W0h (xs : List Dn) (next : Fn) : Fn:=⟨fun fc e res h K=>RC.rec (motive:=fun _=>R) (fun v h=>next.run fc e (v::res) h K) (fun _ _=>.bad) .bad (J6c fc .clo (ydL xs res e) h)⟩
def fPan (wp : List S) (xs : List Dn) (next : Fn) : Fn:=⟨fun fc e res h K=>RC.rec (motive:=fun _=>R) (fun v h=>next.run fc e (v::res) h K) (fun v h=>.pn v (wpE wp e) h) .bad (J6c fc .pan (ydL xs res e) h)⟩
def J3b (op : BinOp) (x y : Dn) (next : Fn) : Fn:=⟨fun fc e res h K=>Option.rec (motive:=fun _=>R) .bad (fun v=>next.run fc e (v::res) h K) (U5v op (x.get res e) (y.get res e))⟩
def fK (k : K) (xs : List Dn) (next : Fn) : Fn:=⟨fun fc e res h K=>Option.rec (motive:=fun _=>R) .bad (fun p=>Prod.rec (motive:=fun _=>R) (fun v h=>next.run fc e (v::res) h K) p) (opK k h (ydL xs res e))⟩
def G4w (x y : Dn) (next : Fn) : Fn:=⟨fun fc e res h K=>onI (x.get res e) (fun ka a=>onI (y.get res e) (fun kb b=>Bool.rec .bad (next.run fc e (.i ka (wrY ka (mulI a b))::res) h K) (eqK ka kb)))⟩
def J8o (op : BinOp) (x y : Dn) (next : Fn) : Fn:=⟨fun fc e res h K=>onI (x.get res e) (fun ka a=>onI (y.get res e) (fun kb b=>Bool.rec .bad (next.run fc e (.i ka (J5q op ka a b)::res) h K) (eqK ka kb)))⟩
def J3m (x y : Dn) (next : Fn) : Fn:=⟨fun fc e res h K=>J5l (x.get res e) ((J3b .sub x y next).run fc e res h K) (fun ka a=>J5l (y.get res e) ((J3b .sub x y next).run fc e res h K) (fun kb b=>Bool.rec .bad (next.run fc e (.i ka (wrY ka (subI a b))::res) h K) (eqK ka kb)))⟩
def J2f (x y : Dn) (next : Fn) : Fn:=⟨fun fc e res h K=>J5l (x.get res e) ((J3b .leq x y next).run fc e res h K) (fun ka a=>J5l (y.get res e) ((J3b .leq x y next).run fc e res h K) (fun kb b=>Bool.rec .bad (next.run fc e (.b (ntB (ltI b a))::res) h K) (eqK ka kb)))⟩
def J1s (neg : Bool) (x y : Dn) (next : Fn) : Fn:=⟨fun fc e res h K=>J5l (x.get res e) ((J3b (Bool.rec .eql .neq neg) x y next).run fc e res h K) (fun ka a=>J5l (y.get res e) ((J3b (Bool.rec .eql .neq neg) x y next).run fc e res h K) (fun kb b=>Bool.rec .bad (next.run fc e (.b (Bool.rec (eqI a b) (ntB (eqI a b)) neg)::res) h K) (eqK ka kb)))⟩
def J1a (x y : Dn) (next : Fn) : Fn:=⟨fun fc e res h K=>J5l (x.get res e) ((J3b .lss x y next).run fc e res h K) (fun ka a=>J5l (y.get res e) ((J3b .lss x y next).run fc e res h K) (fun kb b=>Bool.rec .bad (next.run fc e (.b (ltI a b)::res) h K) (eqK ka kb)))⟩
def J1h (x y : Dn) (next : Fn) : Fn:=⟨fun fc e res h K=>J5l (x.get res e) ((J3b .add x y next).run fc e res h K) (fun ka a=>J5l (y.get res e) ((J3b .add x y next).run fc e res h K) (fun kb b=>Bool.rec .bad (next.run fc e (.i ka (wrY ka (addI a b))::res) h K) (eqK ka kb)))⟩
def Q2w (x y : Dn) (next : Fn) : Fn:=⟨fun fc e res h K=>onI (x.get res e) (fun ka a=>onI (y.get res e) (fun _ b=>Int.rec (motive:=fun _=>R) (fun n=>next.run fc e (.i ka (G6j ka a n)::res) h K) (fun _=>.bad) b))⟩
def U5d (x y : Dn) (next : Fn) : Fn:=⟨fun fc e res h K=>J5l (x.get res e) ((J3b .shr x y next).run fc e res h K) (fun ka a=>J5l (y.get res e) ((J3b .shr x y next).run fc e res h K) (fun _ b=>Int.rec (motive:=fun _=>R) (fun n=>next.run fc e (.i ka (G6i ka a n)::res) h K) (fun _=>.bad) b))⟩
def fFl (off : Nat) (x : Dn) (next : Fn) : Fn:=⟨fun fc e res h K=>onAg (x.get res e) (fun l=>Q2u l off fun v=>next.run fc e (v::res) h K)⟩
def fG (d : Dn) (want : Bool) (o : Fn) (next : Fn) : Fn:=⟨fun fc e res h K=>V.rec (motive_1:=fun _=>R) (motive_2:=fun _=>Unit) (fun _ _ _ _ _=>.bad) (fun _ _=>.bad) .bad (fun _ _=>.bad) (fun _ _ _ _ _=>.bad) .bad (fun _=>.bad) (fun _ _ _=>.bad) .bad (fun _ _=>next.run fc e (.tu []::res) h K) (fun b=>Bool.rec (next.run fc e (.tu []::res) h K) (o.run fc e res h fun res h=>next.run fc e res h K) (eqB b want)) (fun _=>.bad) (fun _ _=>.bad) (fun _ _=>.bad) .bad (fun _ _ _ _ _=>.bad) .bad .bad (fun _=>.bad) .bad (fun _ _=>.bad) () (fun _ _ _ _=>()) (d.get res e)⟩
def fGD (uv : V) (d : Dn) (want : Bool) (o : Fn) (next : Fn) : Fn:=⟨fun fc e res h K=>V.rec (motive_1:=fun _=>R) (motive_2:=fun _=>Unit) (fun _ _ _ _ _=>.bad) (fun _ _=>.bad) .bad (fun _ _=>.bad) (fun _ _ _ _ _=>.bad) .bad (fun _=>.bad) (fun _ _ _=>.bad) .bad (fun _ _=>next.run fc e (uv::res) h K) (fun b=>Bool.rec (next.run fc e (uv::res) h K) (o.run fc e res h fun res h=>next.run fc e res h K) (eqB b want)) (fun _=>.bad) (fun _ _=>.bad) (fun _ _=>.bad) .bad (fun _ _ _ _ _=>.bad) .bad .bad (fun _=>.bad) .bad (fun _ _=>.bad) () (fun _ _ _ _=>()) (d.get res e)⟩
def J2g (len size : Nat) (x y : Dn) (next : Fn) : Fn:=⟨fun fc e res h K=>onI (y.get res e) (fun _ n=>Int.rec (motive:=fun _=>R) (fun i=>onP (x.get res e) (fun b o=>Bool.rec .bad (next.run fc e (.p b (Nat.add o (Nat.mul i size))::res) h K) (Nat.ble (Nat.add i 1) len))) (fun _=>.bad) n)⟩
def J1f (size : Nat) (x y : Dn) (next : Fn) : Fn:=⟨fun fc e res h K=>onI (y.get res e) (fun _ n=>Int.rec (motive:=fun _=>R) (fun i=>onSl (x.get res e) (fun b o len _ _=>Bool.rec .bad (next.run fc e (.p b (Nat.add o (Nat.mul i size))::res) h K) (Nat.ble (Nat.add i 1) len))) (fun _=>.bad) n)⟩
def J1n (m : Nat) (a x : Dn) (next : Fn) : Fn:=⟨fun fc e res h K=>onP (a.get res e) (fun b o=>onAg (x.get res e) (fun l=>O.rec (motive:=fun _=>R) .bad (fun n c z=>Bool.rec .bad (Bool.rec .bad (next.run fc e (.u::res) (H.upd h b (.cells n (C.puts l o c) z)) K) (Nat.ble (Nat.add o m) n)) (oneL l m)) (fun _ _ _=>.bad) (fun _ _=>.bad) (fun _ _ _ _=>.bad) (fun _ _ _ _ _=>.bad) (H.get h b)))⟩
def J0n (m : Nat) (x : Dn) (next : Fn) : Fn:=⟨fun fc e res h K=>onP (x.get res e) (fun b o=>O.rec (motive:=fun _=>R) .bad (fun n c _=>Bool.rec .bad (Bool.rec .bad (next.run fc e (.ag (C.list c m o)::res) h K) (Nat.ble 1 m)) (Nat.ble (Nat.add o m) n)) (fun _ _ _=>.bad) (fun _ _=>.bad) (fun _ _ _ _=>.bad) (fun _ _ _ _ _=>.bad) (H.get h b))⟩
def J0g (x : Dn) (next : Fn) : Fn:=⟨fun fc e res h K=>Option.rec (motive:=fun _=>R) .bad (fun v=>next.run fc e (v::res) h K) (Q6k (x.get res e))⟩
def J7c (k : IntKind) (x : Dn) (next : Fn) : Fn:=⟨fun fc e res h K=>J5l (x.get res e) ((fK (.cvI k) [x] next).run fc e res h K) (fun _ n=>next.run fc e (.i k (wrY k n)::res) h K)⟩
def fEx (n : Nat) (x : Dn) (next : Fn) : Fn:=⟨fun fc e res h K=>onTu (x.get res e) (fun l=>Q2u l n fun v=>next.run fc e (v::res) h K)⟩
def J2q (x : Dn) (next : Fn) : Fn:=⟨fun fc e res h K=>Option.rec (motive:=fun _=>R) .bad (fun v=>next.run fc e (v::res) h K) (lnL (x.get res e))⟩
def J0c (wp : List S) (f : Nat) (xs : List Dn) (next : Fn) : Fn:=⟨fun fc e res h K=>RC.rec (motive:=fun _=>R) (fun v h=>next.run fc e (v::res) h K) (fun v h=>.pn v (wpE wp e) h) .bad (fc.call f (ydL xs res e) h)⟩
def J0m (f : Nat) (xs : List Dn) (next : Fn) : Fn:=⟨fun fc e res h K=>RC.rec (motive:=fun _=>R) (fun v h=>next.run fc e (v::res) h K) (fun _ _=>.bad) .bad (fc.call f (ydL xs res e) h)⟩
def fSt (a x : Dn) (next : Fn) : Fn:=⟨fun fc e res h K=>onP (a.get res e) (fun b o=>O.rec (motive:=fun _=>R) .bad (fun n c z=>Bool.rec .bad (Bool.rec .bad (next.run fc e (.u::res) (H.upd h b (.cells n (C.put c o (x.get res e)) z)) K) (Nat.ble (Nat.add o 1) n)) (Q6b (x.get res e))) (fun _ _ _=>.bad) (fun _ _=>.bad) (fun _ _ _ _=>.bad) (fun _ _ _ _ _=>.bad) (H.get h b))⟩
def fLd (x : Dn) (next : Fn) : Fn:=⟨fun fc e res h K=>onP (x.get res e) (fun b o=>O.rec (motive:=fun _=>R) .bad (fun n c _=>Bool.rec .bad (next.run fc e (C.at_ c o::res) h K) (Nat.ble (Nat.add o 1) n)) (fun _ _ _=>.bad) (fun _ _=>.bad) (fun _ _ _ _=>.bad) (fun _ _ _ _ _=>.bad) (H.get h b))⟩
def fFa (off : Nat) (x : Dn) (next : Fn) : Fn:=⟨fun fc e res h K=>onP (x.get res e) (fun b o=>next.run fc e (.p b (Nat.add o off)::res) h K)⟩
def fMv (x : Dn) (next : Fn) : Fn:=⟨fun fc e res h K=>next.run fc e (x.get res e::res) h K⟩
def J1j (dr : Bool) (fc : FC) (k : RK) (l : List V) (h : H) : Option (V × H) :=
 match dr with
 | false=>W4e fc k l h
 | true=>match J7d k with
  | true=>W4e fc k l h
  | false=>match k with
   | .op k=>(match qK k h l with | some v=>some (v,h) | none=>none)
   | _=>none
def U4j (dr : Bool) (fc : FC) (e : E) (o : AO) (res : List V) (h : H) : Option (V × H) :=
 match o.g with
 | none=>J1j dr fc o.k (o.xs.map (odV res e)) h
 | some (g,want)=>match gB want (odV res e g) with
  | some b=>(match eqB b want with | false=>some (unw o.k,h) | true=>J1j dr fc o.k (o.xs.map (odV res e)) h)
  | none=>none
def runG (dr : Bool) (fc : FC) (e : E) : List AO → List V → H → Option (List V × H)
 | [],res,h=>some (res,h)
 | o::l,res,h=>match U4j dr fc e o res h with
  | some (v,h)=>runG dr fc e l (v::res) h
  | none=>none
def OpOK (dr : Bool) (k : RK) (xs : List Od) (y : Fn → Fn) : Prop :=
 ∀ (fc : FC) (e : E) (res : List V) (h : H) (next : Fn) (K : KT),(y next).run fc e res h K = .bad ∨ ∃ v h',J1j dr fc k (xs.map (odV res e)) h = some (v,h') ∧ (y next).run fc e res h K = next.run fc e (v::res) h' K
def OpC (wp : List S) (k : RK) (xs : List Od) (y : Fn → Fn) : Prop :=
 ∀ (fc : FC) (e : E) (res : List V) (h : H) (next : Fn) (K : KT),(y next).run fc e res h K = .bad ∨ (∃ v h',J6c fc k (xs.map (odV res e)) h = .ok v h' ∧ (y next).run fc e res h K = next.run fc e (v::res) h' K) ∨
  ∃ v h',J6c fc k (xs.map (odV res e)) h = .pn v h' ∧ (y next).run fc e res h K = .pn v (wpE wp e) h'
theorem G7e {x : RC} {v : V} {h : H} (he : ocR x = some (v,h)) : x = .ok v h:=by
 cases x <;> simp only [ocR] at he <;> cases he
 rfl
theorem OpOK.c {wp : List S} {k : RK} {xs : List Od} {y : Fn → Fn} (ho : OpOK false k xs y) : OpC wp k xs y:=by
 intro fc e res h next K
 rcases ho fc e res h next K with h1 | ⟨v,h',h1,h2⟩
 ·exact .inl h1
 ·exact .inr (.inl ⟨v,h',G7e h1,h2⟩)
theorem J0o {dr : Bool} {fc : FC} {k : K} {l : List V} {h : H} {v : V} {h' : H} (hk : G4x k = false) (hq : ∀ h l,qK k h l = unp (opK k h l)) (he : opK k h l = some (v,h')) : J1j dr fc (.op k) l h = some (v,h'):=by
 cases dr with
 | false=>show ocR (rcO (opK k h l)) = _; rw [he]; rfl
 | true =>
  have e1 : J7d (.op k) = false:=hk
  unfold J1j
  rw [e1]
  simp only
  have e2 : qK k h l = some v:=by rw [hq,he]; rfl
  rw [e2]
  have:=qK_op hk e2
  rw [he] at this
  simp only [Option.some.injEq,Prod.mk.injEq] at this
  simp only [this.2]
theorem J4k {dr : Bool} {fc : FC} {k : RK} {l : List V} {h : H} (hk : J7d k = true) : J1j dr fc k l h = W4e fc k l h:=by
 cases dr with
 | false=>rfl
 | true=>unfold J1j; rw [hk]
end Go.X
namespace Go.X
open Go.RowKit
abbrev OK1 (Y : R) (A : V → H → Prop) (nx : V → H → R) : Prop:=Y = .bad ∨ ∃ v h',A v h' ∧ Y = nx v h'
theorem W2n {a b : IntKind} (h : eqK a b = true) : eqK b a = true:=by
 have : kno a = kno b:=Nat.eq_of_beq_eq_true h
 show Nat.beq (kno b) (kno a) = true
 rw [this]; exact Nat.beq_refl _
theorem J7k {x y : V} (h : (∃ b j k lo hi,x = .q b j k lo hi) ∨ (∃ b j k lo hi,y = .q b j k lo hi)) : U5v .gtr x y = U5v .lss y x ∧ U5v .geq x y = U5v .leq y x:=by
 have key : ∀ (a c : QN),G4r .gtr a c = G4r .lss c a ∧ G4r .geq a c = G4r .leq c a:=by
  intro a c
  simp only [G4r,sym2]
  rw [Bool.and_comm]
  exact ⟨rfl,rfl⟩
 rcases h with ⟨b,j,k,lo,hi,rfl⟩ | ⟨b,j,k,lo,hi,rfl⟩
 ·cases y <;> first | exact ⟨rfl,rfl⟩ | exact key _ _
 ·cases x <;> first | exact ⟨rfl,rfl⟩ | exact key _ _
theorem G0p (dr : Bool) (op op' : BinOp) (x y : Od) (fc : FC) (e : E) (res : List V) (h : H) (next : Fn) (K : KT) (hs : U5v op (odV res e x) (odV res e y) = U5v op' (odV res e y) (odV res e x)) :
  OK1 ((J3b op' (J0d y) (J0d x) next).run fc e res h K) (fun v h'=>J1j dr fc (.op (.bin op)) [odV res e x,odV res e y] h = some (v,h')) (fun v h'=>next.run fc e (v::res) h' K):=by
 show OK1 (onO (U5v op' (ydV (J0d y) res e) (ydV (J0d x) res e)) _) _ _
 rw [J0j,J0j,← hs]
 cases hv : U5v op (odV res e x) (odV res e y) with
 | none=>exact .inl rfl
 | some v =>
  refine .inr ⟨v,h,J0o rfl (fun _ _=>rfl) ?_,rfl⟩
  show J0q h (U5v op (odV res e x) (odV res e y)) = _
  rw [hv]; rfl
theorem J6r (dr : Bool) (op : BinOp) (x y : Od) : OpOK dr (.op (.bin op)) [x,y] (J3b op (J0d x) (J0d y)):=by
 intro fc e res h next K
 show OK1 (onO (U5v op (ydV (J0d x) res e) (ydV (J0d y) res e)) _) (fun v h'=>J1j dr fc _ [odV res e x,odV res e y] h = some (v,h')) _
 rw [J0j,J0j]
 cases hv : U5v op (odV res e x) (odV res e y) with
 | none=>exact .inl rfl
 | some v =>
  refine .inr ⟨v,h,J0o rfl (fun _ _=>rfl) ?_,rfl⟩
  show J0q h (U5v op (odV res e x) (odV res e y)) = _
  rw [hv]; rfl
theorem ok_add (dr : Bool) (x y : Od) : OpOK dr (.op (.bin .add)) [x,y] (J1h (J0d x) (J0d y)):=by
 intro fc e res h next K
 have gen:=J6r dr .add x y fc e res h next K
 show OK1 (J5l (ydV (J0d x) res e) _ _) (fun v h'=>J1j dr fc _ [odV res e x,odV res e y] h = some (v,h')) _
 rw [J0j]
 generalize hx : odV res e x = vx
 cases vx <;> try (exact .inl rfl)
 ·show OK1 ((J3b .add (J0d x) (J0d y) next).run fc e res h K) _ _; rw [← hx]; exact gen
 rename_i ka a
 show OK1 (J5l (ydV (J0d y) res e) _ _) _ _
 rw [J0j]
 generalize hy : odV res e y = vy
 cases vy <;> try (exact .inl rfl)
 ·show OK1 ((J3b .add (J0d x) (J0d y) next).run fc e res h K) _ _; rw [← hx,← hy]; exact gen
 rename_i kb b
 show OK1 (ifB (eqK ka kb) _) _ _
 cases hb : eqK ka kb
 ·exact .inl rfl
 refine .inr ⟨.i ka (wrY ka (addI a b)),h,J0o rfl (fun _ _=>rfl) ?_,rfl⟩
 show J0q h (Bool.rec none (arI .add ka a b) (Nat.beq (kno ka) (kno kb))) = _
 rw [show Nat.beq (kno ka) (kno kb) = true from hb]
 show some (V.i ka (wr ka (Int.add a b)),h) = _
 rw [U2l,Q8g]
theorem ok_sub (dr : Bool) (x y : Od) : OpOK dr (.op (.bin .sub)) [x,y] (J3m (J0d x) (J0d y)):=by
 intro fc e res h next K
 have gen:=J6r dr .sub x y fc e res h next K
 show OK1 (J5l (ydV (J0d x) res e) _ _) (fun v h'=>J1j dr fc _ [odV res e x,odV res e y] h = some (v,h')) _
 rw [J0j]
 generalize hx : odV res e x = vx
 cases vx <;> try (exact .inl rfl)
 ·show OK1 ((J3b .sub (J0d x) (J0d y) next).run fc e res h K) _ _; rw [← hx]; exact gen
 rename_i ka a
 show OK1 (J5l (ydV (J0d y) res e) _ _) _ _
 rw [J0j]
 generalize hy : odV res e y = vy
 cases vy <;> try (exact .inl rfl)
 ·show OK1 ((J3b .sub (J0d x) (J0d y) next).run fc e res h K) _ _; rw [← hx,← hy]; exact gen
 rename_i kb b
 show OK1 (ifB (eqK ka kb) _) _ _
 cases hb : eqK ka kb
 ·exact .inl rfl
 refine .inr ⟨.i ka (wrY ka (subI a b)),h,J0o rfl (fun _ _=>rfl) ?_,rfl⟩
 show J0q h (Bool.rec none (arI .sub ka a b) (Nat.beq (kno ka) (kno kb))) = _
 rw [show Nat.beq (kno ka) (kno kb) = true from hb]
 show some (V.i ka (wr ka (Int.sub a b)),h) = _
 rw [U2l,W6w]
theorem ok_mul (dr : Bool) (x y : Od) : OpOK dr (.op (.bin .mul)) [x,y] (G4w (J0d x) (J0d y)):=by
 intro fc e res h next K
 show OK1 (onI (ydV (J0d x) res e) _) (fun v h'=>J1j dr fc _ [odV res e x,odV res e y] h = some (v,h')) _
 rw [J0j]
 generalize hx : odV res e x = vx
 cases vx <;> try (exact .inl rfl)
 rename_i ka a
 show OK1 (onI (ydV (J0d y) res e) _) _ _
 rw [J0j]
 generalize hy : odV res e y = vy
 cases vy <;> try (exact .inl rfl)
 rename_i kb b
 show OK1 (ifB (eqK ka kb) _) _ _
 cases hb : eqK ka kb
 ·exact .inl rfl
 refine .inr ⟨.i ka (wrY ka (mulI a b)),h,J0o rfl (fun _ _=>rfl) ?_,rfl⟩
 show J0q h (Bool.rec none (arI .mul ka a b) (Nat.beq (kno ka) (kno kb))) = _
 rw [show Nat.beq (kno ka) (kno kb) = true from hb]
 show some (V.i ka (wr ka (Int.mul a b)),h) = _
 rw [U2l,Q6m]
theorem ok_and (dr : Bool) (x y : Od) : OpOK dr (.op (.bin .and)) [x,y] (J8o .and (J0d x) (J0d y)):=by
 intro fc e res h next K
 show OK1 (onI (ydV (J0d x) res e) _) (fun v h'=>J1j dr fc _ [odV res e x,odV res e y] h = some (v,h')) _
 rw [J0j]
 generalize hx : odV res e x = vx
 cases vx <;> try (exact .inl rfl)
 rename_i ka a
 show OK1 (onI (ydV (J0d y) res e) _) _ _
 rw [J0j]
 generalize hy : odV res e y = vy
 cases vy <;> try (exact .inl rfl)
 rename_i kb b
 show OK1 (ifB (eqK ka kb) _) _ _
 cases hb : eqK ka kb
 ·exact .inl rfl
 refine .inr ⟨.i ka (J5q .and ka a b),h,J0o rfl (fun _ _=>rfl) ?_,rfl⟩
 show J0q h (Bool.rec none (arI .and ka a b) (Nat.beq (kno ka) (kno kb))) = _
 rw [show Nat.beq (kno ka) (kno kb) = true from hb]
 show some (V.i ka (U5u .and ka a b),h) = _
 rw [W0q _ _ _ _ (.inl rfl)]
theorem ok_or (dr : Bool) (x y : Od) : OpOK dr (.op (.bin .or)) [x,y] (J8o .or (J0d x) (J0d y)):=by
 intro fc e res h next K
 show OK1 (onI (ydV (J0d x) res e) _) (fun v h'=>J1j dr fc _ [odV res e x,odV res e y] h = some (v,h')) _
 rw [J0j]
 generalize hx : odV res e x = vx
 cases vx <;> try (exact .inl rfl)
 rename_i ka a
 show OK1 (onI (ydV (J0d y) res e) _) _ _
 rw [J0j]
 generalize hy : odV res e y = vy
 cases vy <;> try (exact .inl rfl)
 rename_i kb b
 show OK1 (ifB (eqK ka kb) _) _ _
 cases hb : eqK ka kb
 ·exact .inl rfl
 refine .inr ⟨.i ka (J5q .or ka a b),h,J0o rfl (fun _ _=>rfl) ?_,rfl⟩
 show J0q h (Bool.rec none (arI .or ka a b) (Nat.beq (kno ka) (kno kb))) = _
 rw [show Nat.beq (kno ka) (kno kb) = true from hb]
 show some (V.i ka (U5u .or ka a b),h) = _
 rw [W0q _ _ _ _ (.inr (.inl rfl))]
theorem ok_xor (dr : Bool) (x y : Od) : OpOK dr (.op (.bin .xor)) [x,y] (J8o .xor (J0d x) (J0d y)):=by
 intro fc e res h next K
 show OK1 (onI (ydV (J0d x) res e) _) (fun v h'=>J1j dr fc _ [odV res e x,odV res e y] h = some (v,h')) _
 rw [J0j]
 generalize hx : odV res e x = vx
 cases vx <;> try (exact .inl rfl)
 rename_i ka a
 show OK1 (onI (ydV (J0d y) res e) _) _ _
 rw [J0j]
 generalize hy : odV res e y = vy
 cases vy <;> try (exact .inl rfl)
 rename_i kb b
 show OK1 (ifB (eqK ka kb) _) _ _
 cases hb : eqK ka kb
 ·exact .inl rfl
 refine .inr ⟨.i ka (J5q .xor ka a b),h,J0o rfl (fun _ _=>rfl) ?_,rfl⟩
 show J0q h (Bool.rec none (arI .xor ka a b) (Nat.beq (kno ka) (kno kb))) = _
 rw [show Nat.beq (kno ka) (kno kb) = true from hb]
 show some (V.i ka (U5u .xor ka a b),h) = _
 rw [W0q _ _ _ _ (.inr (.inr rfl))]
theorem ok_eql (dr : Bool) (x y : Od) : OpOK dr (.op (.bin .eql)) [x,y] (J1s false (J0d x) (J0d y)):=by
 intro fc e res h next K
 have gen:=J6r dr .eql x y fc e res h next K
 show OK1 (J5l (ydV (J0d x) res e) _ _) (fun v h'=>J1j dr fc _ [odV res e x,odV res e y] h = some (v,h')) _
 rw [J0j]
 generalize hx : odV res e x = vx
 cases vx <;> try (exact .inl rfl)
 ·show OK1 ((J3b .eql (J0d x) (J0d y) next).run fc e res h K) _ _; rw [← hx]; exact gen
 rename_i ka a
 show OK1 (J5l (ydV (J0d y) res e) _ _) _ _
 rw [J0j]
 generalize hy : odV res e y = vy
 cases vy <;> try (exact .inl rfl)
 ·show OK1 ((J3b .eql (J0d x) (J0d y) next).run fc e res h K) _ _; rw [← hx,← hy]; exact gen
 rename_i kb b
 show OK1 (ifB (eqK ka kb) _) _ _
 cases hb : eqK ka kb
 ·exact .inl rfl
 refine .inr ⟨.b (eqI a b),h,J0o rfl (fun _ _=>rfl) ?_,rfl⟩
 show J0q h (Bool.rec none (arI .eql ka a b) (Nat.beq (kno ka) (kno kb))) = _
 rw [show Nat.beq (kno ka) (kno kb) = true from hb]
 rfl
theorem ok_neq (dr : Bool) (x y : Od) : OpOK dr (.op (.bin .neq)) [x,y] (J1s true (J0d x) (J0d y)):=by
 intro fc e res h next K
 have gen:=J6r dr .neq x y fc e res h next K
 show OK1 (J5l (ydV (J0d x) res e) _ _) (fun v h'=>J1j dr fc _ [odV res e x,odV res e y] h = some (v,h')) _
 rw [J0j]
 generalize hx : odV res e x = vx
 cases vx <;> try (exact .inl rfl)
 ·show OK1 ((J3b .neq (J0d x) (J0d y) next).run fc e res h K) _ _; rw [← hx]; exact gen
 rename_i ka a
 show OK1 (J5l (ydV (J0d y) res e) _ _) _ _
 rw [J0j]
 generalize hy : odV res e y = vy
 cases vy <;> try (exact .inl rfl)
 ·show OK1 ((J3b .neq (J0d x) (J0d y) next).run fc e res h K) _ _; rw [← hx,← hy]; exact gen
 rename_i kb b
 show OK1 (ifB (eqK ka kb) _) _ _
 cases hb : eqK ka kb
 ·exact .inl rfl
 refine .inr ⟨.b (ntB (eqI a b)),h,J0o rfl (fun _ _=>rfl) ?_,rfl⟩
 show J0q h (Bool.rec none (arI .neq ka a b) (Nat.beq (kno ka) (kno kb))) = _
 rw [show Nat.beq (kno ka) (kno kb) = true from hb]
 show some (V.b (!(eqI a b)),h) = _
 rw [G0v]
theorem ok_lss (dr : Bool) (x y : Od) : OpOK dr (.op (.bin .lss)) [x,y] (J1a (J0d x) (J0d y)):=by
 intro fc e res h next K
 have gen:=J6r dr .lss x y fc e res h next K
 show OK1 (J5l (ydV (J0d x) res e) _ _) (fun v h'=>J1j dr fc _ [odV res e x,odV res e y] h = some (v,h')) _
 rw [J0j]
 generalize hx : odV res e x = vx
 cases vx <;> try (exact .inl rfl)
 ·show OK1 ((J3b .lss (J0d x) (J0d y) next).run fc e res h K) _ _; rw [← hx]; exact gen
 rename_i ka a
 show OK1 (J5l (ydV (J0d y) res e) _ _) _ _
 rw [J0j]
 generalize hy : odV res e y = vy
 cases vy <;> try (exact .inl rfl)
 ·show OK1 ((J3b .lss (J0d x) (J0d y) next).run fc e res h K) _ _; rw [← hx,← hy]; exact gen
 rename_i kb b
 show OK1 (ifB (eqK ka kb) _) _ _
 cases hb : eqK ka kb
 ·exact .inl rfl
 refine .inr ⟨.b (ltI a b),h,J0o rfl (fun _ _=>rfl) ?_,rfl⟩
 show J0q h (Bool.rec none (arI .lss ka a b) (Nat.beq (kno ka) (kno kb))) = _
 rw [show Nat.beq (kno ka) (kno kb) = true from hb]
 rfl
theorem ok_gtr (dr : Bool) (x y : Od) : OpOK dr (.op (.bin .gtr)) [x,y] (J1a (J0d y) (J0d x)):=by
 intro fc e res h next K
 have gen:=fun hs=>G0p dr .gtr .lss x y fc e res h next K hs
 show OK1 (J5l (ydV (J0d y) res e) _ _) (fun v h'=>J1j dr fc _ [odV res e x,odV res e y] h = some (v,h')) _
 rw [J0j]
 generalize hx : odV res e y = vx
 cases vx <;> try (exact .inl rfl)
 ·show OK1 ((J3b .lss (J0d y) (J0d x) next).run fc e res h K) _ _; rw [← hx]; exact gen (J7k (.inr ⟨_,_,_,_,_,hx⟩)).1
 rename_i ka a
 show OK1 (J5l (ydV (J0d x) res e) _ _) _ _
 rw [J0j]
 generalize hy : odV res e x = vy
 cases vy <;> try (exact .inl rfl)
 ·show OK1 ((J3b .lss (J0d y) (J0d x) next).run fc e res h K) _ _; rw [← hx,← hy]; exact gen (J7k (.inl ⟨_,_,_,_,_,hy⟩)).1
 rename_i kb b
 show OK1 (ifB (eqK ka kb) _) _ _
 cases hb : eqK ka kb
 ·exact .inl rfl
 have hb:=W2n hb
 refine .inr ⟨.b (ltI a b),h,J0o rfl (fun _ _=>rfl) ?_,rfl⟩
 show J0q h (Bool.rec none (arI .gtr kb b a) (Nat.beq (kno kb) (kno ka))) = _
 rw [show Nat.beq (kno kb) (kno ka) = true from hb]
 rfl
theorem ok_leq (dr : Bool) (x y : Od) : OpOK dr (.op (.bin .leq)) [x,y] (J2f (J0d x) (J0d y)):=by
 intro fc e res h next K
 have gen:=J6r dr .leq x y fc e res h next K
 show OK1 (J5l (ydV (J0d x) res e) _ _) (fun v h'=>J1j dr fc _ [odV res e x,odV res e y] h = some (v,h')) _
 rw [J0j]
 generalize hx : odV res e x = vx
 cases vx <;> try (exact .inl rfl)
 ·show OK1 ((J3b .leq (J0d x) (J0d y) next).run fc e res h K) _ _; rw [← hx]; exact gen
 rename_i ka a
 show OK1 (J5l (ydV (J0d y) res e) _ _) _ _
 rw [J0j]
 generalize hy : odV res e y = vy
 cases vy <;> try (exact .inl rfl)
 ·show OK1 ((J3b .leq (J0d x) (J0d y) next).run fc e res h K) _ _; rw [← hx,← hy]; exact gen
 rename_i kb b
 show OK1 (ifB (eqK ka kb) _) _ _
 cases hb : eqK ka kb
 ·exact .inl rfl
 refine .inr ⟨.b (ntB (ltI b a)),h,J0o rfl (fun _ _=>rfl) ?_,rfl⟩
 show J0q h (Bool.rec none (arI .leq ka a b) (Nat.beq (kno ka) (kno kb))) = _
 rw [show Nat.beq (kno ka) (kno kb) = true from hb]
 show some (V.b (!(ltI b a)),h) = _
 rw [G0v]
theorem ok_geq (dr : Bool) (x y : Od) : OpOK dr (.op (.bin .geq)) [x,y] (J2f (J0d y) (J0d x)):=by
 intro fc e res h next K
 have gen:=fun hs=>G0p dr .geq .leq x y fc e res h next K hs
 show OK1 (J5l (ydV (J0d y) res e) _ _) (fun v h'=>J1j dr fc _ [odV res e x,odV res e y] h = some (v,h')) _
 rw [J0j]
 generalize hx : odV res e y = vx
 cases vx <;> try (exact .inl rfl)
 ·show OK1 ((J3b .leq (J0d y) (J0d x) next).run fc e res h K) _ _; rw [← hx]; exact gen (J7k (.inr ⟨_,_,_,_,_,hx⟩)).2
 rename_i ka a
 show OK1 (J5l (ydV (J0d x) res e) _ _) _ _
 rw [J0j]
 generalize hy : odV res e x = vy
 cases vy <;> try (exact .inl rfl)
 ·show OK1 ((J3b .leq (J0d y) (J0d x) next).run fc e res h K) _ _; rw [← hx,← hy]; exact gen (J7k (.inl ⟨_,_,_,_,_,hy⟩)).2
 rename_i kb b
 show OK1 (ifB (eqK ka kb) _) _ _
 cases hb : eqK ka kb
 ·exact .inl rfl
 have hb:=W2n hb
 refine .inr ⟨.b (ntB (ltI b a)),h,J0o rfl (fun _ _=>rfl) ?_,rfl⟩
 show J0q h (Bool.rec none (arI .geq kb b a) (Nat.beq (kno kb) (kno ka))) = _
 rw [show Nat.beq (kno kb) (kno ka) = true from hb]
 show some (V.b (!(ltI b a)),h) = _
 rw [G0v]
theorem ok_shl (dr : Bool) (x y : Od) : OpOK dr (.op (.bin .shl)) [x,y] (Q2w (J0d x) (J0d y)):=by
 intro fc e res h next K
 show OK1 (onI (ydV (J0d x) res e) _) (fun v h'=>J1j dr fc _ [odV res e x,odV res e y] h = some (v,h')) _
 rw [J0j]
 generalize hx : odV res e x = vx
 cases vx <;> try (exact .inl rfl)
 rename_i ka a
 show OK1 (onI (ydV (J0d y) res e) _) _ _
 rw [J0j]
 generalize hy : odV res e y = vy
 cases vy <;> try (exact .inl rfl)
 rename_i kb b
 show OK1 (onN b _) _ _
 rcases b with n | n <;> try (exact .inl rfl)
 refine .inr ⟨.i ka (G6j ka a n),h,J0o rfl (fun _ _=>rfl) ?_,rfl⟩
 show some (V.i ka (shI true ka a n),h) = _
 rw [Q4k]
theorem ok_shr (dr : Bool) (x y : Od) : OpOK dr (.op (.bin .shr)) [x,y] (U5d (J0d x) (J0d y)):=by
 intro fc e res h next K
 have gen:=J6r dr .shr x y fc e res h next K
 show OK1 (J5l (ydV (J0d x) res e) _ _) (fun v h'=>J1j dr fc _ [odV res e x,odV res e y] h = some (v,h')) _
 rw [J0j]
 generalize hx : odV res e x = vx
 cases vx <;> try (exact .inl rfl)
 ·show OK1 ((J3b .shr (J0d x) (J0d y) next).run fc e res h K) _ _; rw [← hx]; exact gen
 rename_i ka a
 show OK1 (J5l (ydV (J0d y) res e) _ _) _ _
 rw [J0j]
 generalize hy : odV res e y = vy
 cases vy <;> try (exact .inl rfl)
 ·show OK1 ((J3b .shr (J0d x) (J0d y) next).run fc e res h K) _ _; rw [← hx,← hy]; exact gen
 rename_i kb b
 show OK1 (onN b _) _ _
 rcases b with n | n <;> try (exact .inl rfl)
 refine .inr ⟨.i ka (G6i ka a n),h,J0o rfl (fun _ _=>rfl) ?_,rfl⟩
 show some (V.i ka (shI false ka a n),h) = _
 rw [Q4i]
theorem ok_mv (dr : Bool) (x : Od) : OpOK dr (.op .mv) [x] (fMv (J0d x)):=by
 intro fc e res h next K
 refine .inr ⟨ydV (J0d x) res e,h,J0o rfl (fun _ _=>rfl) ?_,rfl⟩
 rw [J0j]; rfl
theorem ok_nck (dr : Bool) (x : Od) : OpOK dr (.op .nck) [x] (J0g (J0d x)):=by
 intro fc e res h next K
 show OK1 (onO (Q6k (ydV (J0d x) res e)) _) (fun v h'=>J1j dr fc _ [odV res e x] h = some (v,h')) _
 rw [J0j]
 cases hv : Q6k (odV res e x) with
 | none=>exact .inl rfl
 | some v =>
  refine .inr ⟨v,h,J0o rfl (fun _ _=>rfl) ?_,rfl⟩
  show J0q h (Q6k (odV res e x)) = _
  rw [hv]; rfl
theorem ok_lnL (dr : Bool) (x : Od) : OpOK dr (.op .lnL) [x] (J2q (J0d x)):=by
 intro fc e res h next K
 show OK1 (onO (lnL (ydV (J0d x) res e)) _) (fun v h'=>J1j dr fc _ [odV res e x] h = some (v,h')) _
 rw [J0j]
 cases hv : lnL (odV res e x) with
 | none=>exact .inl rfl
 | some v =>
  refine .inr ⟨v,h,J0o rfl (fun _ _=>rfl) ?_,rfl⟩
  show J0q h (lnL (odV res e x)) = _
  rw [hv]; rfl
theorem ok_cvI (dr : Bool) (k : IntKind) (x : Od) : OpOK dr (.op (.cvI k)) [x] (J7c k (J0d x)):=by
 intro fc e res h next K
 show OK1 (J5l (ydV (J0d x) res e) _ _) (fun v h'=>J1j dr fc _ [odV res e x] h = some (v,h')) _
 generalize hz : (fK (.cvI k) [J0d x] next).run fc e res h K = z
 rw [J0j]
 generalize hx : odV res e x = vx
 cases vx <;> try (exact .inl rfl)
 ·rename_i b j0 k0 lo hi
  show OK1 z _ _
  rw [← hz]
  show OK1 (onOH (opK (.cvI k) h [ydV (J0d x) res e]) (fun v h=>next.run fc e (v::res) h K)) _ _
  rw [J0j,hx]
  show OK1 (onOH (J0q h (cvIV k (.q b j0 k0 lo hi))) (fun v h=>next.run fc e (v::res) h K)) _ _
  cases hv : cvIV k (.q b j0 k0 lo hi) with
  | none=>exact .inl rfl
  | some v =>
   refine .inr ⟨v,h,J0o rfl (fun _ _=>rfl) ?_,rfl⟩
   show J0q h (cvIV k (.q b j0 k0 lo hi)) = _
   rw [hv]; rfl
 rename_i k0 n
 refine .inr ⟨.i k (wrY k n),h,J0o rfl (fun _ _=>rfl) ?_,rfl⟩
 rw [U2l]; rfl
theorem ok_ex (dr : Bool) (n : Nat) (x : Od) : OpOK dr (.op (.ex n)) [x] (fEx n (J0d x)):=by
 intro fc e res h next K
 show OK1 (onTu (ydV (J0d x) res e) (fun l=>Q2u l n fun v=>next.run fc e (v::res) h K)) (fun v h'=>J1j dr fc _ [odV res e x] h = some (v,h')) _
 rw [J0j]
 generalize odV res e x = vx
 cases vx <;> try (exact .inl rfl)
 rename_i l
 show OK1 (Q2u l n (fun v=>next.run fc e (v::res) h K)) _ _
 rcases W0g l n (fun v=>next.run fc e (v::res) h K) with h1 | ⟨v,h1,h2⟩
 ·exact .inl h1
 ·refine .inr ⟨v,h,J0o rfl (fun _ _=>rfl) ?_,h2⟩
  show J0q h (l[n]?) = _
  rw [h1]; rfl
theorem ok_fl (dr : Bool) (off : Nat) (x : Od) : OpOK dr (.op (.fl off none)) [x] (fFl off (J0d x)):=by
 intro fc e res h next K
 show OK1 (onAg (ydV (J0d x) res e) (fun l=>Q2u l off fun v=>next.run fc e (v::res) h K)) (fun v h'=>J1j dr fc _ [odV res e x] h = some (v,h')) _
 rw [J0j]
 generalize odV res e x = vx
 cases vx <;> try (exact .inl rfl)
 rename_i l
 show OK1 (Q2u l off (fun v=>next.run fc e (v::res) h K)) _ _
 rcases W0g l off (fun v=>next.run fc e (v::res) h K) with h1 | ⟨v,h1,h2⟩
 ·exact .inl h1
 ·refine .inr ⟨v,h,J0o rfl (fun _ _=>rfl) ?_,h2⟩
  show J0q h (l[off]?) = _
  rw [h1]; rfl
theorem ok_fa (dr : Bool) (off : Nat) (x : Od) : OpOK dr (.op (.fa off)) [x] (fFa off (J0d x)):=by
 intro fc e res h next K
 show OK1 (onP (ydV (J0d x) res e) _) (fun v h'=>J1j dr fc _ [odV res e x] h = some (v,h')) _
 rw [J0j]
 generalize odV res e x = vx
 cases vx <;> try (exact .inl rfl)
 rename_i b o
 exact .inr ⟨.p b (Nat.add o off),h,J0o rfl (fun _ _=>rfl) rfl,rfl⟩
theorem ok_ias (dr : Bool) (size : Nat) (x y : Od) : OpOK dr (.op (.ia none size)) [x,y] (J1f size (J0d x) (J0d y)):=by
 intro fc e res h next K
 show OK1 (onI (ydV (J0d y) res e) _) (fun v h'=>J1j dr fc _ [odV res e x,odV res e y] h = some (v,h')) _
 rw [J0j]
 generalize odV res e y = vy
 cases vy <;> try (exact .inl rfl)
 rename_i k n
 cases n with
 | negSucc n=>exact .inl rfl
 | ofNat i =>
  show OK1 (onSl (ydV (J0d x) res e) _) _ _
  rw [J0j]
  generalize odV res e x = vx
  cases vx <;> try (exact .inl rfl)
  rename_i b o len cap ex
  show OK1 (ifB (Nat.ble (Nat.add i 1) len) _) _ _
  cases hb : Nat.ble (Nat.add i 1) len
  ·exact .inl rfl
  refine .inr ⟨.p b (Nat.add o (Nat.mul i size)),h,J0o rfl (fun _ _=>rfl) ?_,rfl⟩
  show J0q h (Bool.rec none (some (.p b (o + i * size))) (Nat.ble (i + 1) len)) = _
  rw [show Nat.ble (i + 1) len = true from hb]; rfl
theorem ok_iaa (dr : Bool) (len size : Nat) (x y : Od) : OpOK dr (.op (.ia (some len) size)) [x,y] (J2g len size (J0d x) (J0d y)):=by
 intro fc e res h next K
 show OK1 (onI (ydV (J0d y) res e) _) (fun v h'=>J1j dr fc _ [odV res e x,odV res e y] h = some (v,h')) _
 rw [J0j]
 generalize odV res e y = vy
 cases vy <;> try (exact .inl rfl)
 rename_i k n
 cases n with
 | negSucc n=>exact .inl rfl
 | ofNat i =>
  show OK1 (onP (ydV (J0d x) res e) _) _ _
  rw [J0j]
  generalize odV res e x = vx
  cases vx <;> try (exact .inl rfl)
  rename_i b o
  show OK1 (ifB (Nat.ble (Nat.add i 1) len) _) _ _
  cases hb : Nat.ble (Nat.add i 1) len
  ·exact .inl rfl
  refine .inr ⟨.p b (Nat.add o (Nat.mul i size)),h,J0o rfl (fun _ _=>rfl) ?_,rfl⟩
  show J0q h (Bool.rec none (some (.p b (o + i * size))) (Nat.ble (i + 1) len)) = _
  rw [show Nat.ble (i + 1) len = true from hb]; rfl
theorem ok_ld (dr : Bool) (x : Od) : OpOK dr (.op (.ld none)) [x] (fLd (J0d x)):=by
 intro fc e res h next K
 show OK1 (onP (ydV (J0d x) res e) _) (fun v h'=>J1j dr fc _ [odV res e x] h = some (v,h')) _
 rw [J0j]
 generalize odV res e x = vx
 cases vx <;> try (exact .inl rfl)
 rename_i b o
 show OK1 (onC (H.get h b) _) _ _
 cases ho : H.get h b <;> try (exact .inl rfl)
 rename_i n c z
 show OK1 (ifB (Nat.ble (Nat.add o 1) n) _) _ _
 cases hb : Nat.ble (Nat.add o 1) n
 ·exact .inl rfl
 refine .inr ⟨C.at_ c o,h,J0o rfl (fun _ _=>rfl) ?_,rfl⟩
 show J0q h (match h.get b with | .cells n c _=>(bif Nat.ble (o + 1) n then some (C.at_ c o) else none) | _=>none) = _
 rw [ho]
 simp only
 rw [show Nat.ble (o + 1) n = true from hb]; rfl
theorem ok_ldn (dr : Bool) (m : Nat) (x : Od) : OpOK dr (.op (.ld (some m))) [x] (J0n m (J0d x)):=by
 intro fc e res h next K
 show OK1 (onP (ydV (J0d x) res e) _) (fun v h'=>J1j dr fc _ [odV res e x] h = some (v,h')) _
 rw [J0j]
 generalize odV res e x = vx
 cases vx <;> try (exact .inl rfl)
 rename_i b o
 show OK1 (onC (H.get h b) _) _ _
 cases ho : H.get h b <;> try (exact .inl rfl)
 rename_i n c z
 show OK1 (ifB (Nat.ble (Nat.add o m) n) (ifB (Nat.ble 1 m) _)) _ _
 cases hb : Nat.ble (Nat.add o m) n
 ·exact .inl rfl
 cases hb1 : Nat.ble 1 m
 ·exact .inl rfl
 refine .inr ⟨.ag (C.list c m o),h,J0o rfl (fun _ _=>rfl) ?_,rfl⟩
 show J0q h (match h.get b with | .cells n c _=>(bif Nat.ble (o + m) n && Nat.ble 1 m then some (.ag (C.list c m o)) else none) | _=>none) = _
 rw [ho]
 simp only
 rw [show Nat.ble (o + m) n = true from hb,hb1]; rfl
theorem ok_st (dr : Bool) (a x : Od) : OpOK dr (.op (.st 1)) [a,x] (fSt (J0d a) (J0d x)):=by
 intro fc e res h next K
 show OK1 (onP (ydV (J0d a) res e) _) (fun v h'=>J1j dr fc _ [odV res e a,odV res e x] h = some (v,h')) _
 rw [J0j]
 generalize odV res e a = va
 cases va <;> try (exact .inl rfl)
 rename_i b o
 show OK1 (onC (H.get h b) _) _ _
 cases ho : H.get h b <;> try (exact .inl rfl)
 rename_i n c z
 show OK1 (ifB (Q6b (ydV (J0d x) res e)) (ifB (Nat.ble (Nat.add o 1) n) (next.run fc e (.u::res) (H.upd h b (.cells n (C.put c o (ydV (J0d x) res e)) z)) K))) _ _
 rw [J0j]
 generalize odV res e x = vx
 cases hx : Q6b vx
 ·exact .inl rfl
 cases hb : Nat.ble (Nat.add o 1) n
 ·exact .inl rfl
 rw [G0n] at hx
 refine .inr ⟨.u,H.upd h b (.cells n (C.put c o vx) z),?_,rfl⟩
 rw [J4k rfl]
 refine U9v ?_
 have hc : vx.cells = [vx]:=by cases vx <;> first | rfl | cases hx
 show U5z (match h.get b with | .cells n c z=>(bif vx.cells.all V.one && Nat.beq vx.cells.length 1 && Nat.ble (o + 1) n then some (h.upd b (.cells n (C.puts vx.cells o c) z)) else none) | _=>none) = _
 rw [ho]
 simp only
 rw [hc,show Nat.ble (o + 1) n = true from hb]
 simp only [List.all_cons,List.all_nil,hx,Bool.and_true,List.length_cons,List.length_nil]
 rfl
theorem ok_stn (dr : Bool) (m : Nat) (a x : Od) : OpOK dr (.op (.st m)) [a,x] (J1n m (J0d a) (J0d x)):=by
 intro fc e res h next K
 show OK1 (onP (ydV (J0d a) res e) _) (fun v h'=>J1j dr fc _ [odV res e a,odV res e x] h = some (v,h')) _
 rw [J0j]
 generalize odV res e a = va
 cases va <;> try (exact .inl rfl)
 rename_i b o
 show OK1 (onAg (ydV (J0d x) res e) _) _ _
 rw [J0j]
 generalize odV res e x = vx
 cases vx <;> try (exact .inl rfl)
 rename_i l
 show OK1 (onC (H.get h b) _) _ _
 cases ho : H.get h b <;> try (exact .inl rfl)
 rename_i n c z
 show OK1 (ifB (oneL l m) (ifB (Nat.ble (Nat.add o m) n) (next.run fc e (.u::res) (H.upd h b (.cells n (C.puts l o c) z)) K))) _ _
 cases hx : oneL l m
 ·exact .inl rfl
 cases hb : Nat.ble (Nat.add o m) n
 ·exact .inl rfl
 obtain ⟨h1,h2⟩:=G0o l m hx
 refine .inr ⟨.u,H.upd h b (.cells n (C.puts l o c) z),?_,rfl⟩
 rw [J4k rfl]
 refine U9v ?_
 show U5z (match h.get b with | .cells n c z=>(bif l.all V.one && Nat.beq l.length m && Nat.ble (o + m) n then some (h.upd b (.cells n (C.puts l o c) z)) else none) | _=>none) = _
 rw [ho]
 simp only
 rw [h1,h2,show Nat.ble (o + m) n = true from hb]
 rfl
theorem G7a (dr : Bool) (f : Nat) (xs : List Od) : OpOK dr (.call f) xs (J0m f (xs.map J0d)):=by
 intro fc e res h next K
 have E : (J0m f (xs.map J0d) next).run fc e res h K = RC.rec (motive:=fun _=>R) (fun v h=>next.run fc e (v::res) h K) (fun _ _=>.bad) .bad (fc.call f (ydL (xs.map J0d) res e) h):=rfl
 rw [E,J8j]
 cases hx : fc.call f (xs.map (odV res e)) h with
 | ok v h'=>exact .inr ⟨v,h',by rw [J4k rfl]; show ocR (fc.call f _ h) = _; rw [hx]; rfl,rfl⟩
 | pn v h'=>exact .inl rfl
 | bad=>exact .inl rfl
theorem Q6e (dr : Bool) (xs : List Od) : OpOK dr .clo xs (W0h (xs.map J0d)):=by
 intro fc e res h next K
 have E : (W0h (xs.map J0d) next).run fc e res h K = RC.rec (motive:=fun _=>R) (fun v h=>next.run fc e (v::res) h K) (fun _ _=>.bad) .bad (J6c fc .clo (ydL (xs.map J0d) res e) h):=rfl
 rw [E,J8j]
 cases hx : J6c fc .clo (xs.map (odV res e)) h with
 | ok v h'=>exact .inr ⟨v,h',by rw [J4k rfl]; show ocR (J6c fc .clo _ h) = _; rw [hx]; rfl,rfl⟩
 | pn v h'=>exact .inl rfl
 | bad=>exact .inl rfl
theorem G7c (wp : List S) (f : Nat) (xs : List Od) : OpC wp (.call f) xs (J0c wp f (xs.map J0d)):=by
 intro fc e res h next K
 have E : (J0c wp f (xs.map J0d) next).run fc e res h K = RC.rec (motive:=fun _=>R) (fun v h=>next.run fc e (v::res) h K) (fun v h=>.pn v (wpE wp e) h) .bad (fc.call f (ydL (xs.map J0d) res e) h):=rfl
 rw [E,J8j]
 cases hx : fc.call f (xs.map (odV res e)) h with
 | ok v h'=>exact .inr (.inl ⟨v,h',hx,rfl⟩)
 | pn v h'=>exact .inr (.inr ⟨v,h',hx,rfl⟩)
 | bad=>exact .inl rfl
theorem Q6g (wp : List S) (xs : List Od) : OpC wp .clo xs (U2d wp (xs.map J0d)):=by
 intro fc e res h next K
 have E : (U2d wp (xs.map J0d) next).run fc e res h K = RC.rec (motive:=fun _=>R) (fun v h=>next.run fc e (v::res) h K) (fun v h=>.pn v (wpE wp e) h) .bad (J6c fc .clo (ydL (xs.map J0d) res e) h):=rfl
 rw [E,J8j]
 cases hx : J6c fc .clo (xs.map (odV res e)) h with
 | ok v h'=>exact .inr (.inl ⟨v,h',rfl,rfl⟩)
 | pn v h'=>exact .inr (.inr ⟨v,h',rfl,rfl⟩)
 | bad=>exact .inl rfl
theorem Q6f (wp : List S) (xs : List Od) : OpC wp .pan xs (fPan wp (xs.map J0d)):=by
 intro fc e res h next K
 have E : (fPan wp (xs.map J0d) next).run fc e res h K = RC.rec (motive:=fun _=>R) (fun v h=>next.run fc e (v::res) h K) (fun v h=>.pn v (wpE wp e) h) .bad (J6c fc .pan (ydL (xs.map J0d) res e) h):=rfl
 rw [E,J8j]
 cases hx : J6c fc .pan (xs.map (odV res e)) h with
 | ok v h'=>exact .inr (.inl ⟨v,h',rfl,rfl⟩)
 | pn v h'=>exact .inr (.inr ⟨v,h',rfl,rfl⟩)
 | bad=>exact .inl rfl
theorem Q2l (dr : Bool) (k : RK) (xs : List Od) : OpOK dr k xs fBad:=fun _ _ _ _ _ _=>.inl rfl
theorem W1r (x : Option (V × H)) (f : V → H → R) : (Option.rec (motive:=fun _=>R) .bad (fun p=>Prod.rec (motive:=fun _=>R) f p) x : R) = .bad ∨ ∃ v h,x = some (v,h) ∧ (Option.rec (motive:=fun _=>R) .bad (fun p=>Prod.rec (motive:=fun _=>R) f p) x : R) = f v h:=Q6c x f
theorem ok_k (k : K) (xs : List Od) : OpOK false (.op k) xs (fK k (xs.map J0d)):=by
 intro fc e res h next K
 have E : (fK k (xs.map J0d) next).run fc e res h K = Option.rec (motive:=fun _=>R) .bad (fun p=>Prod.rec (motive:=fun _=>R) (fun v h=>next.run fc e (v::res) h K) p) (opK k h (ydL (xs.map J0d) res e)):=rfl
 rw [E,J8j]
 rcases W1r (opK k h (xs.map (odV res e))) (fun v h=>next.run fc e (v::res) h K) with h1 | ⟨v,h',h1,h2⟩
 ·exact .inl h1
 ·refine .inr ⟨v,h',?_,h2⟩
  show ocR (rcO (opK k h _)) = _
  rw [h1]; rfl
theorem Q6d (k : K) (xs : List Od) (hk : G4x k = true) : OpOK true (.op k) xs (fK k (xs.map J0d)):=by
 intro fc e res h next K
 have E : (fK k (xs.map J0d) next).run fc e res h K = Option.rec (motive:=fun _=>R) .bad (fun p=>Prod.rec (motive:=fun _=>R) (fun v h=>next.run fc e (v::res) h K) p) (opK k h (ydL (xs.map J0d) res e)):=rfl
 rw [E,J8j]
 rcases W1r (opK k h (xs.map (odV res e))) (fun v h=>next.run fc e (v::res) h K) with h1 | ⟨v,h',h1,h2⟩
 ·exact .inl h1
 ·refine .inr ⟨v,h',?_,h2⟩
  rw [J4k (k:=.op k) hk]
  show ocR (rcO (opK k h _)) = _
  rw [h1]; rfl
theorem ok_q (k : K) (xs : List Od) (hk : G4x k = false) : OpOK true (.op k) xs (fQ k (xs.map J0d)):=by
 intro fc e res h next K
 have E : (fQ k (xs.map J0d) next).run fc e res h K = Option.rec (motive:=fun _=>R) .bad (fun v=>next.run fc e (v::res) h K) (qK k h (ydL (xs.map J0d) res e)):=rfl
 rw [E,J8j]
 cases hv : qK k h (xs.map (odV res e)) with
 | none=>exact .inl rfl
 | some v =>
  refine .inr ⟨v,h,?_,rfl⟩
  unfold J1j
  rw [show J7d (.op k) = false from hk]
  simp only
  rw [hv]
def yoK (dr : Bool) (k : K) (xs : List Od) : Fn → Fn :=
 match dr with
 | false=>fK k (xs.map J0d)
 | true=>match G4x k with | true=>fK k (xs.map J0d) | false=>fQ k (xs.map J0d)
theorem U2w (dr : Bool) (k : K) (xs : List Od) : OpOK dr (.op k) xs (yoK dr k xs):=by
 cases dr with
 | false=>exact ok_k k xs
 | true =>
  unfold yoK
  cases hk : G4x k with
  | true=>exact Q6d k xs hk
  | false=>exact ok_q k xs hk
def yoB (op : BinOp) (x y : Od) : Fn → Fn :=
 match op with
 | .add=>J1h (J0d x) (J0d y) | .sub=>J3m (J0d x) (J0d y) | .mul=>G4w (J0d x) (J0d y)
 | .and=>J8o .and (J0d x) (J0d y) | .or=>J8o .or (J0d x) (J0d y) | .xor=>J8o .xor (J0d x) (J0d y)
 | .shl=>Q2w (J0d x) (J0d y) | .shr=>U5d (J0d x) (J0d y)
 | .eql=>J1s false (J0d x) (J0d y) | .neq=>J1s true (J0d x) (J0d y)
 | .lss=>J1a (J0d x) (J0d y) | .gtr=>J1a (J0d y) (J0d x) | .leq=>J2f (J0d x) (J0d y) | .geq=>J2f (J0d y) (J0d x)
 | op=>J3b op (J0d x) (J0d y)
theorem ok_yoB (dr : Bool) (op : BinOp) (x y : Od) : OpOK dr (.op (.bin op)) [x,y] (yoB op x y):=by
 cases op <;> first
  | exact ok_add dr x y | exact ok_sub dr x y | exact ok_mul dr x y | exact ok_and dr x y | exact ok_or dr x y | exact ok_xor dr x y | exact ok_shl dr x y | exact ok_shr dr x y
  | exact ok_eql dr x y | exact ok_neq dr x y | exact ok_lss dr x y | exact ok_gtr dr x y | exact ok_leq dr x y | exact ok_geq dr x y | exact J6r dr _ x y
def yoO (str dr : Bool) (k : RK) (xs : List Od) : Fn → Fn :=
 match k with
 | .bad=>fBad
 | .call f=>J0m f (xs.map J0d)
 | .clo=>W0h (xs.map J0d)
 | .pan=>fBad
 | .op k=>match xs with
  | [x]=>(match k with
   | .mv=>fMv (J0d x)
   | .nck=>J0g (J0d x)
   | .lnL=>J2q (J0d x)
   | .cvI k=>J7c k (J0d x)
   | .ex n=>fEx n (J0d x)
   | .fa off=>fFa off (J0d x)
   | .fl off none=>fFl off (J0d x)
   | .ld none=>fLd (J0d x)
   | .ld (some m)=>J0n m (J0d x)
   | k=>yoK dr k [x])
  | [x,y]=>(match k with
   | .bin op=>(match str with | true=>J3b op (J0d x) (J0d y) | false=>yoB op x y)
   | .ia none size=>J1f size (J0d x) (J0d y)
   | .ia (some len) size=>J2g len size (J0d x) (J0d y)
   | .st m=>(match str with | true=>J1n m (J0d x) (J0d y) | false=>match m with | 1=>fSt (J0d x) (J0d y) | m=>yoK dr (.st m) [x,y])
   | k=>yoK dr k [x,y])
  | xs=>yoK dr k xs
theorem W1s (str dr : Bool) (k : RK) (xs : List Od) : OpOK dr k xs (yoO str dr k xs):=by
 cases k with
 | bad=>exact Q2l _ _ _
 | pan=>exact Q2l _ _ _
 | call f=>exact G7a _ _ _
 | clo=>exact Q6e _ _
 | op k =>
  rcases xs with _ | ⟨x,_ | ⟨y,_ | ⟨z,xs⟩⟩⟩
  ·exact U2w _ _ _
  ·cases k
   case mv=>exact ok_mv _ _
   case nck=>exact ok_nck _ _
   case lnL=>exact ok_lnL _ _
   case cvI k=>exact ok_cvI _ _ _
   case ex n=>exact ok_ex _ _ _
   case fa off=>exact ok_fa _ _ _
   case fl off m =>
    cases m with
    | none=>exact ok_fl _ _ _
    | some m=>exact U2w _ _ _
   case ld m =>
    cases m with
    | none=>exact ok_ld _ _
    | some m=>exact ok_ldn _ _ _
   all_goals exact U2w _ _ _
  ·cases k
   case bin op =>
    cases str with
    | true=>exact J6r _ _ _ _
    | false=>exact ok_yoB _ _ _ _
   case ia arr size =>
    cases arr with
    | none=>exact ok_ias _ _ _ _
    | some len=>exact ok_iaa _ _ _ _ _
   case st m =>
    cases str with
    | true=>exact ok_stn _ _ _ _
    | false =>
     unfold yoO
     simp only
     split
     ·exact ok_st _ _ _
     ·exact U2w _ _ _
   all_goals exact U2w _ _ _
  ·exact U2w _ _ _
def yoC (wp : List S) (str : Bool) (k : RK) (xs : List Od) : Fn → Fn :=
 match k with
 | .call f=>J0c wp f (xs.map J0d)
 | .clo=>U2d wp (xs.map J0d)
 | .pan=>fPan wp (xs.map J0d)
 | k=>yoO str false k xs
theorem ok_yoC (wp : List S) (str : Bool) (k : RK) (xs : List Od) : OpC wp k xs (yoC wp str k xs):=by
 cases k with
 | bad=>exact (W1s str false _ xs).c
 | pan=>exact Q6f _ _
 | call f=>exact G7c _ _ _
 | clo=>exact Q6g _ _
 | op k=>exact (W1s str false _ xs).c
def yoG (str : Bool) (o : AO) (next : Fn) : Fn :=
 match o.g with
 | none=>yoO str true o.k o.xs next
 | some (g,want)=>fGD (unw o.k) (J0d g) want (yoO str true o.k o.xs J0a) next
def yoL : List (Bool × AO) → Fn
 | []=>J0a
 | o::l=>yoG o.1 o.2 (yoL l)
def ytG (wp : List S) (str : Bool) (o : AO) (next : Fn) : Fn :=
 match o.g with
 | none=>yoC wp str o.k o.xs next
 | some (g,want)=>fG (J0d g) want (yoC wp str o.k o.xs J0a) next
def ytL (wp : List S) : List (Bool × AO) → Fn
 | []=>J0a
 | o::l=>ytG wp o.1 o.2 (ytL wp l)
def onG (x : V) (z : R) (f : Bool → R) : R:=V.rec (motive_1:=fun _=>R) (motive_2:=fun _=>Unit) (fun _ _ _ _ _=>.bad) (fun _ _=>.bad) .bad (fun _ _=>.bad) (fun _ _ _ _ _=>.bad) .bad (fun _=>.bad) (fun _ _ _=>.bad) .bad (fun _ _=>z) f (fun _=>.bad) (fun _ _=>.bad) (fun _ _=>.bad) .bad (fun _ _ _ _ _=>.bad) .bad .bad (fun _=>.bad) .bad (fun _ _=>.bad) () (fun _ _ _ _=>()) x
theorem Q7p (uv : V) (d : Dn) (want : Bool) (o next : Fn) (fc : FC) (e : E) (res : List V) (h : H) (K : KT) : (fGD uv d want o next).run fc e res h K = onG (ydV d res e) (next.run fc e (uv::res) h K) fun b=>Bool.rec (next.run fc e (uv::res) h K) (o.run fc e res h fun res h=>next.run fc e res h K) (eqB b want):=rfl
theorem yoG_sp (str : Bool) (o : AO) (next : Fn) (fc : FC) (e : E) (res : List V) (h : H) (K : KT) :
  (yoG str o next).run fc e res h K = .bad ∨ ∃ v h',U4j true fc e o res h = some (v,h') ∧ (yoG str o next).run fc e res h K = next.run fc e (v::res) h' K:=by
 obtain ⟨g,k,xs⟩:=o
 cases g with
 | none=>exact W1s str true k xs fc e res h next K
 | some gw =>
  obtain ⟨g,want⟩:=gw
  show (fGD (unw k) (J0d g) want (yoO str true k xs J0a) next).run fc e res h K = .bad ∨ ∃ v h',_ ∧ (fGD (unw k) (J0d g) want (yoO str true k xs J0a) next).run fc e res h K = _
  rw [Q7p,J0j]
  cases hg : odV res e g <;> try (exact .inl rfl)
  ·refine .inr ⟨unw k,h,?_,rfl⟩
   unfold U4j; simp only [hg,gB]; cases want <;> rfl
  rename_i b
  show OK1 (Bool.rec (motive:=fun _=>R) (next.run fc e (unw k::res) h K) ((yoO str true k xs J0a).run fc e res h fun res h=>next.run fc e res h K) (eqB b want)) (fun v h'=>U4j true fc e ⟨some (g,want),k,xs⟩ res h = some (v,h')) (fun v h'=>next.run fc e (v::res) h' K)
  cases hb : eqB b want
  ·refine .inr ⟨unw k,h,?_,rfl⟩
   unfold U4j; simp only [hg,gB,hb]
  ·rcases W1s str true k xs fc e res h J0a (fun res h=>next.run fc e res h K) with h1 | ⟨v,h',h1,h2⟩
   ·exact .inl h1
   ·refine .inr ⟨v,h',?_,?_⟩
    ·unfold U4j; simp only [hg,gB,hb]; exact h1
    ·exact h2
theorem G9b (fc : FC) (e : E) (K : KT) : ∀ (l : List (Bool × AO)) (res : List V) (h : H),
  (yoL l).run fc e res h K = .bad ∨ ∃ res' h',runG true fc e (l.map (·.2)) res h = some (res',h') ∧ (yoL l).run fc e res h K = K res' h'
 | [],res,h=>.inr ⟨res,h,rfl,rfl⟩
 | o::l,res,h=>by
  show (yoG o.1 o.2 (yoL l)).run fc e res h K = .bad ∨ _
  rcases yoG_sp o.1 o.2 (yoL l) fc e res h K with h1 | ⟨v,h1',h1,h2⟩
  ·exact .inl h1
  ·rcases G9b fc e K l (v::res) h1' with h3 | ⟨res',h',h3,h4⟩
   ·exact .inl (h2.trans h3)
   ·refine .inr ⟨res',h',?_,h2.trans h4⟩
    show (match U4j true fc e o.2 res h with | some (v,h)=>runG true fc e (l.map (fun (x : Bool × AO)=>x.2)) (v::res) h | none=>none) = _
    rw [h1]; exact h3
theorem fG_run (d : Dn) (want : Bool) (o next : Fn) (fc : FC) (e : E) (res : List V) (h : H) (K : KT) : (fG d want o next).run fc e res h K = onG (ydV d res e) (next.run fc e (.tu []::res) h K) fun b=>Bool.rec (next.run fc e (.tu []::res) h K) (o.run fc e res h fun res h=>next.run fc e res h K) (eqB b want):=rfl
def SayL (wp : List S) (e : E) (Y : R) (x : RL) (K : KT) : Prop :=
 Y = .bad ∨ (∃ res' h',x = .ok res' h' ∧ Y = K res' h') ∨ ∃ v h',x = .pn v h' ∧ Y = .pn v (wpE wp e) h'
theorem U2k (wp : List S) (fc : FC) (e : E) (K : KT) : ∀ (l : List (Bool × AO)) (res : List V) (h : H),
  SayL wp e ((ytL wp l).run fc e res h K) (U5s fc e (l.map (·.2)) res h) K
 | [],res,h=>.inr (.inl ⟨res,h,rfl,rfl⟩)
 | o::l,res,h=>by
  obtain ⟨str,g,k,xs⟩:=o
  show SayL wp e ((ytG wp str ⟨g,k,xs⟩ (ytL wp l)).run fc e res h K) (U5s fc e (⟨g,k,xs⟩::l.map (·.2)) res h) K
  rw [J9r]
  have step : ∀ (next : Fn) (K' : KT),(∀ v h',SayL wp e (next.run fc e (v::res) h' K') (U5s fc e (l.map (·.2)) (v::res) h') K) → SayL wp e ((yoC wp str k xs next).run fc e res h K') (match J6c fc k (xs.map (odV res e)) h with
    | .ok v h=>U5s fc e (l.map (·.2)) (v::res) h
    | .pn v h=>.pn v h
    | .bad=>.bad) K:=by
   intro next K' hn
   rcases ok_yoC wp str k xs fc e res h next K' with h1 | ⟨v,h1',h1,h2⟩ | ⟨v,h1',h1,h2⟩
   ·exact .inl h1
   ·rw [h1,h2]; exact hn v h1'
   ·rw [h1,h2]; exact .inr (.inr ⟨v,h1',rfl,rfl⟩)
  cases g with
  | none=>exact step (ytL wp l) K fun v h'=>U2k wp fc e K l (v::res) h'
  | some gw =>
   obtain ⟨g,want⟩:=gw
   simp only
   show SayL wp e ((fG (J0d g) want (yoC wp str k xs J0a) (ytL wp l)).run fc e res h K) _ K
   rw [fG_run,J0j]
   cases hg : odV res e g <;> try (exact .inl rfl)
   case tu l'=>exact U2k wp fc e K l (.tu []::res) h
   rename_i b
   show SayL wp e (Bool.rec (motive:=fun _=>R) ((ytL wp l).run fc e (.tu []::res) h K) ((yoC wp str k xs J0a).run fc e res h fun res h=>(ytL wp l).run fc e res h K) (eqB b want)) (Bool.rec (motive:=fun _=>RL) (U5s fc e (l.map (·.2)) (.tu []::res) h) (match J6c fc k (xs.map (odV res e)) h with
    | .ok v h=>U5s fc e (l.map (·.2)) (v::res) h
    | .pn v h=>.pn v h
    | .bad=>.bad) (eqB b want)) K
   cases eqB b want
   ·exact U2k wp fc e K l (.tu []::res) h
   ·exact step J0a (fun res h=>(ytL wp l).run fc e res h K) fun v h'=>U2k wp fc e K l (v::res) h'
theorem W1k (fc : FC) (e : E) (nx n : Nat) (pe : List (Nat × O)) : ∀ (l : List AO) (j : Nat) (res : List V) (h : H) (hs : List H) (res' : List V) (h' : H),j + l.length ≤ n → runG true fc e l res h = some (res',h') →
  ∃ hs',U8l fc e nx (J4h 0 n l j) res h hs pe = some (res',h',hs',pe) ∧ res'.length = l.length + res.length
 | [],j,res,h,hs,res',h',_,hr=>by
  have : some (res,h) = some (res',h'):=hr
  cases this
  exact ⟨hs,rfl,by simp⟩
 | o::l,j,res,h,hs,res',h',hj,hr=>by
  have hjn : Nat.beq j n = false:=by
   cases hb : Nat.beq j n with
   | false=>rfl
   | true=>have:=Nat.eq_of_beq_eq_true hb; simp at hj; omega
  have hjt : Nat.testBit 0 j = false:=Nat.zero_testBit j
  have hj1 : j + 1 + l.length ≤ n:=by simp at hj; omega
  obtain ⟨g,k,xs⟩:=o
  have hr2 : (match U4j true fc e ⟨g,k,xs⟩ res h with | some (v,h)=>runG true fc e l (v::res) h | none=>none) = some (res',h'):=hr
  have step : ∀ v h1,J1j true fc k (xs.map (odV res e)) h = some (v,h1) → runG true fc e l (v::res) h1 = some (res',h') →
    ∃ hs',J9o fc e nx ⟨false,false,j,⟨g,k,xs⟩⟩ res h hs pe (U8l fc e nx (J4h 0 n l (j + 1))) = some (res',h',hs',pe) ∧ res'.length = (l.length + 1) + res.length:=by
   intro v h1 e1 e2
   unfold J1j at e1
   unfold J9o
   cases hk : J7d k with
   | true =>
    rw [hk] at e1
    simp only at e1 ⊢
    rw [e1]
    obtain ⟨hs',g1,g2⟩:=W1k fc e nx n pe l (j + 1) (v::res) h1 (h1::hs) res' h' hj1 e2
    exact ⟨hs',g1,by rw [g2]; simp only [List.length_cons]; omega⟩
   | false =>
    rw [hk] at e1
    simp only at e1 ⊢
    cases k with
    | op k =>
     simp only at e1 ⊢
     cases hq : qK k h (xs.map (odV res e)) with
     | none=>rw [hq] at e1; cases e1
     | some v' =>
      rw [hq] at e1
      simp only [Option.some.injEq,Prod.mk.injEq] at e1
      obtain ⟨rfl,rfl⟩:=e1
      obtain ⟨hs',g1,g2⟩:=W1k fc e nx n pe l (j + 1) (v'::res) h hs res' h' hj1 e2
      exact ⟨hs',g1,by rw [g2]; simp only [List.length_cons]; omega⟩
    | _=>cases e1
  have hcons : J4h 0 n (⟨g,k,xs⟩::l) j = ⟨false,false,j,⟨g,k,xs⟩⟩::J4h 0 n l (j + 1):=by
   show (⟨Nat.testBit 0 j,Nat.beq j n,j,⟨g,k,xs⟩⟩::J4h 0 n l (j + 1) : List DO) = _
   rw [hjn,hjt]
  rw [hcons]
  show ∃ hs',(match g with
   | none=>J9o fc e nx ⟨false,false,j,⟨g,k,xs⟩⟩ res h hs pe (U8l fc e nx (J4h 0 n l (j + 1)))
   | some (g',want)=>match gB want (odV res e g') with
    | some b=>Bool.rec (U8l fc e nx (J4h 0 n l (j + 1)) (unw k::res) h (Bool.rec hs (h::hs) (J7d k)) pe) (J9o fc e nx ⟨false,false,j,⟨g,k,xs⟩⟩ res h hs pe (U8l fc e nx (J4h 0 n l (j + 1)))) (eqB b want)
    | none=>none) = some (res',h',hs',pe) ∧ res'.length = (l.length + 1) + res.length
  unfold U4j at hr2
  cases g with
  | none =>
   simp only at hr2 ⊢
   cases hk : J1j true fc k (xs.map (odV res e)) h with
   | none=>rw [hk] at hr2; cases hr2
   | some p =>
    obtain ⟨v,h1⟩:=p
    rw [hk] at hr2
    exact step v h1 hk hr2
  | some gw =>
   obtain ⟨g',want⟩:=gw
   simp only at hr2 ⊢
   cases hg : gB want (odV res e g') <;> rw [hg] at hr2 <;> try (cases hr2; done)
   rename_i b
   simp only at hr2 ⊢
   cases hb : eqB b want <;> rw [hb] at hr2
   ·simp only at hr2 ⊢
    obtain ⟨hs',g1,g2⟩:=W1k fc e nx n pe l (j + 1) (unw k::res) h (Bool.rec hs (h::hs) (J7d k)) res' h' hj1 hr2
    exact ⟨hs',g1,by rw [g2]; simp only [List.length_cons]; omega⟩
   ·simp only at hr2 ⊢
    cases hk : J1j true fc k (xs.map (odV res e)) h with
    | none=>rw [hk] at hr2; cases hr2
    | some p =>
     obtain ⟨v,h1⟩:=p
     rw [hk] at hr2
     exact step v h1 hk hr2
def J7x (l : List (AO × List Nat)) : Bool:=List.rec (motive:=fun _=>Bool) true (fun o _ ih=>List.rec (motive:=fun _=>Bool) ih (fun _ _ _=>false) o.2) l
theorem U0c (e : E) (T : Option (List Nat)) (hs : List H) (m : Nat) : ∀ (l : List (AO × List Nat)) (res : List V),J7x l = true → l.length ≤ res.length → U6y e T hs m l res = true
 | [],res,_,_=>rfl
 | o::l,[],_,h=>by simp at h
 | o::l,v::res,h1,h2=>by
  obtain ⟨o,ks⟩:=o
  cases ks with
  | cons k ks=>cases h1
  | nil =>
   show (G7n e T hs m (o,[]) v res && U6y e T hs m l res) = true
   have h3 : J7x l = true:=h1
   rw [U0c e T hs m l res h3 (by simpa using h2)]
   rfl
theorem U9z (fc : FC) (e : E) (hs : List H) (m : Nat) (l : List (AO × List Nat)) (res : List V) (h : J7x l = true) (h2 : l.length ≤ res.length) : U3c fc e hs m l res = true:=U0c e _ hs m l res h h2
end Go.X
namespace Go.X
open Go.RowKit
inductive YC where
 | bad
 | drw (d : DR) (wl : List (Dn × S))
 | ret
 | exit (id : Nat)
 | skip
 | block (id : Nat) (a : YC)
 | loop (a : YC)
 | cond (c : Dn) (a b : YC)
 | seq (a b : YC)
 | reg (o : Fn) (wl : List (Dn × S))
def wlY (trk : Nat → Option S) (defs : List (Option Nat)) : Nat → List (Dn × S) :=
 List.rec (motive:=fun _=>Nat → List (Dn × S)) (fun _=>[]) (fun d _ ih k=>match d with
  | some t=>(match trk t with | some s=>(ydR k,s)::ih (k + 1) | none=>ih (k + 1))
  | none=>ih (k + 1)) defs
def wbY (wl : List (Dn × S)) (res : List V) (e : E) : E :=
 List.rec (motive:=fun _=>E) e (fun p _ ih=>Prod.rec (motive:=fun _=>E) (fun d s=>wrS s (d.get res e) ih) p) wl
theorem U5y (trk : Nat → Option S) (e : E) (res0 : List V) : ∀ (defs : List (Option Nat)) (k : Nat),wbY (wlY trk defs k) res0 e = wbk trk defs (res0.drop k) e
 | [],k=>rfl
 | none::defs,k=>by
  show wbY (wlY trk defs (k + 1)) res0 e = wbk trk defs (res0.drop k).tail e
  rw [U5y trk e res0 defs (k + 1),List.tail_drop]
 | some t::defs,k=>by
  have hh : ydV (ydR k) res0 e = (res0.drop k).headD .u:=by
   rw [G9c]
   have : ∀ (l : List V) (k : Nat),nth l k = (l.drop k).headD .u:=by
    intro l
    induction l with
    | nil=>intro k; simp [nth]
    | cons x l ih=>intro k; cases k with
     | zero=>rfl
     | succ k=>exact ih k
   exact this res0 k
  show wbY (match trk t with | some s=>(ydR k,s)::wlY trk defs (k + 1) | none=>wlY trk defs (k + 1)) res0 e = (match trk t with
   | some s=>wrS s ((res0.drop k).headD .u) (wbk trk defs (res0.drop k).tail e)
   | none=>wbk trk defs (res0.drop k).tail e)
  have ih:=U5y trk e res0 defs (k + 1)
  rw [List.tail_drop]
  cases trk t with
  | none=>exact ih
  | some s =>
   show wrS s (ydV (ydR k) res0 e) (wbY (wlY trk defs (k + 1)) res0 e) = _
   rw [ih,hh]
def strOf (tt : TT) (o : Oper) : Bool :=
 match o.op with
 | .binOp _ t _ _ _=>(match tt t with | some (d,_)=>(match d with | .int _=>false | _=>true) | none=>true)
 | .store t _ _=>(match tt t with | some (d,_)=>Q2s d | none=>true)
 | _=>false
def J8c (tt : TT) (os : List Oper) : List AO → List (Bool × AO) :=
 List.rec (motive:=fun _=>List AO → List (Bool × AO)) (fun l=>List.rec (motive:=fun _=>List (Bool × AO)) [] (fun a _ ih=>(false,a)::ih) l)
  (fun o _ ih l=>match l with | []=>[] | a::l=>(strOf tt o,a)::ih l) os
theorem J4n (tt : TT) : ∀ (os : List Oper) (l : List AO),(J8c tt os l).map (·.2) = l
 | [],[]=>rfl
 | [],a::l=>by
  have:=J4n tt [] l
  show a::(J8c tt [] l).map (·.2) = _
  rw [this]
 | o::os,[]=>rfl
 | o::os,a::l=>by
  show a::(J8c tt os l).map (·.2) = _
  rw [J4n tt os l]
def wpL (trk : Nat → Option S) (defs : List (Option Nat)) : List S :=
 List.rec (motive:=fun _=>List S) [] (fun d _ ih=>match d with | some t=>(match trk t with | some s=>s::ih | none=>ih) | none=>ih) defs
theorem W6k (trk : Nat → Option S) (e : E) : ∀ D : List (Option Nat),wpE (wpL trk D) e = wipe trk D e
 | []=>rfl
 | none::D=>by
  show wpE (wpL trk D) e = wbk trk D ((D.map fun _=>V.u)) e
  exact W6k trk e D
 | some t::D=>by
  show wpE (match trk t with | some s=>s::wpL trk D | none=>wpL trk D) e = (match trk t with
   | some s=>wrS s .u (wbk trk D (D.map fun _=>V.u) e)
   | none=>wbk trk D (D.map fun _=>V.u) e)
  have ih:=W6k trk e D
  cases trk t with
  | none=>exact ih
  | some s=>show wrS s .u (wpE (wpL trk D) e) = _; rw [ih]; rfl
def J0y (tt : TT) (trk : Nat → Option S) (N : Nat) (c : Code) : YC :=
 Code.rec (motive:=fun _=>YC) .skip
  (fun _ ops draw=>Bool.rec (.reg (ytL (wpL trk (J0f ops.toList [])) (J8c tt ops.toList (J1t tt trk N ops.toList ops.toList []))) (wlY trk (J0f ops.toList []) 0))
   (match W0l tt trk N ops.toList with
    | some d=>Bool.rec (.drw d (wlY trk (J0f ops.toList []) 0)) (.reg (yoL (J8c tt ops.toList d.ops)) (wlY trk (J0f ops.toList []) 0)) ((J7x d.rls && Nat.ble d.rls.length d.ops.length) && Nat.beq d.k 0)
    | none=>.bad) draw)
  (fun _ _ a b=>.seq a b) (fun c _ _ a b=>.cond (J0d (J2c trk [] c)) a b) (fun id _ a=>.block id a) (fun _ a=>.loop a)
  (fun _ _ _ _ _ _=>.bad) (fun id=>.exit id) (fun _ _=>.bad) (fun _=>.bad) (fun _=>.bad) .ret (fun _=>.bad) c
abbrev U8d:=YC → E → H → R
def yx (c : YC) : FC → U8d → E → H → R :=
 YC.rec (motive:=fun _=>FC → U8d → E → H → R)
  (fun _ _ _ _=>.bad)
  (fun d wl fc _ e h=>Option.rec (motive:=fun _=>R) .bad (fun p=>Prod.rec (motive:=fun _=>R) (fun res h=>.n (wbY wl res e) h) p) (U6i fc e d h))
  (fun _ _ e h=>.r e h)
  (fun id _ _ e h=>.x id e h)
  (fun _ _ e h=>.n e h)
  (fun id _ a fc self e h=>R.rec (motive:=fun _=>R) (fun e h=>.n e h) (fun i e h=>Bool.rec (.x i e h) (.n e h) (Nat.beq i id)) (fun e h=>.r e h) (fun v e h=>.pn v e h) .bad (a fc self e h))
  (fun b a fc self e h=>R.rec (motive:=fun _=>R) (fun e h=>self (.loop b) e h) (fun id e h=>.x id e h) (fun e h=>.r e h) (fun v e h=>.pn v e h) .bad (a fc self e h))
  (fun c _ _ a b fc self e h=>onB (ydV c [] e) fun x=>Bool.rec (b fc self e h) (a fc self e h) x)
  (fun _ _ a b fc self e h=>R.rec (motive:=fun _=>R) (fun e h=>b fc self e h) (fun id e h=>.x id e h) (fun e h=>.r e h) (fun v e h=>.pn v e h) .bad (a fc self e h))
  (fun o wl fc _ e h=>o.run fc e [] h fun res h=>.n (wbY wl res e) h) c
section
variable {P : Program} {B : Bs} {tt : TT} {trk : Nat → Option S} {N : Nat} {fc : FC} {Q : Exit → Act → World → Prop} {ro : Option Nat}
def Ends (Q : Exit → Act → World → Prop) (B : Bs) (trk : Nat → Option S) (N : Nat) (μ : M) (h : H) (w : World) (df : List Deferred) : R → Prop
 | .n e h'=>∀ a' w' μ',SR μ' trk N [] [] e a' → HR B μ' h' w' → Ext μ h w μ' h' w' → a'.defers = df → Q .normal a' w'
 | .x id e h'=>∀ a' w' μ',SR μ' trk N [] [] e a' → HR B μ' h' w' → Ext μ h w μ' h' w' → a'.defers = df → Q (.exit id) a' w'
 | .r e h'=>∀ a' w' μ',SR μ' trk N [] [] e a' → HR B μ' h' w' → Ext μ h w μ' h' w' → a'.defers = df → Q .ret a' w'
 | .pn v e h'=>∀ a' w' μ' y,SR μ' trk N [] [] e a' → HR B μ' h' w' → Ext μ h w μ' h' w' → a'.defers = df → VR μ' v y → Q (.panic (chn y)) a' w'
 | .bad=>False
def J7m (P : Program) (B : Bs) (tt : TT) (trk : Nat → Option S) (N n : Nat) (self : U8d) : Prop :=
 ∀ (ro : Option Nat) (c : Code) (Q : Exit → Act → World → Prop) (e : E) (h : H) (a : Act) (w : World) (μ : M),SR μ trk N [] [] e a → HR B μ h w → Ends Q B trk N μ h w a.defers (self (.loop (J0y tt trk N c)) e h) → Code.roundsIn (FW ro) 0 P c Q n a w
theorem Ends.mono {μ μ1 : M} {h h1 : H} {w w1 : World} {df : List Deferred} (he : Ext μ h w μ1 h1 w1) : ∀ {r : R},Ends Q B trk N μ h w df r → Ends Q B trk N μ1 h1 w1 df r
 | .n _ _,hr=>fun a' w' μ' g1 g2 g3 g4=>hr a' w' μ' g1 g2 (he.trans g3) g4
 | .x _ _ _,hr=>fun a' w' μ' g1 g2 g3 g4=>hr a' w' μ' g1 g2 (he.trans g3) g4
 | .r _ _,hr=>fun a' w' μ' g1 g2 g3 g4=>hr a' w' μ' g1 g2 (he.trans g3) g4
 | .pn _ _ _,hr=>fun a' w' μ' y g1 g2 g3 g4 g5=>hr a' w' μ' y g1 g2 (he.trans g3) g4 g5
 | .bad,hr=>hr
def R.rest (r : R) (next : E → H → R) : R:=R.rec (motive:=fun _=>R) next (fun id e h=>.x id e h) (fun e h=>.r e h) (fun v e h=>.pn v e h) .bad r
theorem J1r (hT : TTok P tt) (hF : FOK P B fc) (hm : P.follows .mixedOrders = true) (hN : TK trk) {self : U8d} {n : Nat} (hself : J7m P B tt trk N n self) :
  ∀ (c : Code) {Q : Exit → Act → World → Prop} {e : E} {h : H} {a : Act} {w : World} {μ : M},SR μ trk N [] [] e a → HR B μ h w → Ends Q B trk N μ h w a.defers (yx (J0y tt trk N c) fc self e h) → c.wpIn (FW ro) 0 P Q a w
 | .skip,Q,e,h,a,w,μ,hs,r,hr=>wpIn_skip (hr a w μ hs r (Ext.refl _ _ _) rfl)
 | .region id ops false,Q,e,h,a,w,μ,hs,r,hr=>by
  have hr2 : Ends Q B trk N μ h w a.defers ((ytL (wpL trk (J0f ops.toList [])) (J8c tt ops.toList (J1t tt trk N ops.toList ops.toList []))).run fc e [] h fun res h=>.n (wbY (wlY trk (J0f ops.toList []) 0) res e) h):=hr
  have hsay:=U2k (wpL trk (J0f ops.toList [])) fc e (fun res h=>.n (wbY (wlY trk (J0f ops.toList []) 0) res e) h) (J8c tt ops.toList (J1t tt trk N ops.toList ops.toList [])) [] h
  rw [J4n] at hsay
  refine wpIn_region ?_
  have fin : EndL Q B trk N e (J0f ops.toList []) μ h w a.defers (U5s fc e (J1t tt trk N ops.toList ops.toList []) [] h):=by
   rcases hsay with h1 | ⟨res,h',h1,h2⟩ | ⟨v,h',h1,h2⟩
   ·rw [h1] at hr2; exact hr2.elim
   ·rw [h2] at hr2
    rw [h1]
    intro a' w' μ' g1 g2 g3 g4 g5
    refine hr2 a' w' μ' ?_ g3 g4 g5
    rw [U5y]; exact g1.close hN g2
   ·rw [h2] at hr2
    rw [h1]
    intro a' w' μ' y g1 g2 g3 g4 g5
    refine hr2 a' w' μ' y ?_ g2 g3 g4 g5
    rw [W6k]; exact g1
  have:=J3n (ro:=ro) (Q:=Q) (ops:=ops) hT hF hN ops.toList 0 (post:=[]) (by simp) hs r rfl fin
  rw [List.range_eq_range']
  simpa using this
 | .region id ops true,Q,e,h,a,w,μ,hs,r,hr=>by
  have hr2 : Ends Q B trk N μ h w a.defers (yx (match W0l tt trk N ops.toList with
    | some d=>Bool.rec (.drw d (wlY trk (J0f ops.toList []) 0)) (.reg (yoL (J8c tt ops.toList d.ops)) (wlY trk (J0f ops.toList []) 0)) ((J7x d.rls && Nat.ble d.rls.length d.ops.length) && Nat.beq d.k 0)
    | none=>.bad) fc self e h):=hr
  cases hd : W0l tt trk N ops.toList with
  | none=>rw [hd] at hr2; exact hr2.elim
  | some d =>
   rw [hd] at hr2
   simp only at hr2
   have fin : ∀ res h',U6i fc e d h = some (res,h') → Ends Q B trk N μ h w a.defers (.n (wbY (wlY trk (J0f ops.toList []) 0) res e) h') → (Code.region id ops true).wpIn (FW ro) 0 P Q a w:=by
    intro res h' hrun hr3
    refine G2t hT hF hm hd hs r hrun fun a' w' μ' g1 g2 g3 g4 g5=>?_
    refine hr3 a' w' μ' ?_ g3 g4 g5
    rw [U5y]; exact g1.close hN g2
   cases hl : ((J7x d.rls && Nat.ble d.rls.length d.ops.length) && Nat.beq d.k 0) <;> rw [hl] at hr2
   ·have hr3 : Ends Q B trk N μ h w a.defers (Option.rec (motive:=fun _=>R) .bad (fun p=>Prod.rec (motive:=fun _=>R) (fun res h=>.n (wbY (wlY trk (J0f ops.toList []) 0) res e) h) p) (U6i fc e d h)):=hr2
    cases hrun : U6i fc e d h with
    | none=>rw [hrun] at hr3; exact hr3.elim
    | some rh =>
     obtain ⟨res,h'⟩:=rh
     rw [hrun] at hr3
     exact fin res h' hrun hr3
   ·have hr3 : Ends Q B trk N μ h w a.defers ((yoL (J8c tt ops.toList d.ops)).run fc e [] h fun res h=>.n (wbY (wlY trk (J0f ops.toList []) 0) res e) h):=hr2
    rcases G9b fc e (fun res h=>.n (wbY (wlY trk (J0f ops.toList []) 0) res e) h) (J8c tt ops.toList d.ops) [] h with h1 | ⟨res,h',h1,h2⟩
    ·rw [h1] at hr3; exact hr3.elim
    ·rw [h2] at hr3
     rw [J4n] at h1
     obtain ⟨hs',g1,g2⟩:=W1k fc e h.next d.ops.length [] d.ops 0 [] h [h] res h' (by simp) h1
     simp only [Bool.and_eq_true] at hl
     have hlen:=Nat.le_of_ble_eq_true hl.1.2
     have hk0:=Nat.eq_of_beq_eq_true hl.2
     refine fin res h' ?_ hr3
     unfold U6i
     rw [G3c hd hk0,hk0]
     have g1' : U8l fc e h.next (J4h 0 d.ops.length d.ops 0) [] (h.rsv 0) [h.rsv 0] [] = some (res,h',hs',[]):=g1
     rw [g1']
     simp only
     rw [U9z fc e hs' d.m d.rls res hl.1.1 (by rw [g2]; simpa using hlen)]
     cases d.acE <;> rfl
 | .seq x y,Q,e,h,a,w,μ,hs,r,hr=>by
  have hr2 : Ends Q B trk N μ h w a.defers ((yx (J0y tt trk N x) fc self e h).rest fun e h=>yx (J0y tt trk N y) fc self e h):=hr
  refine wpIn_seq (J1r hT hF hm hN hself x hs r ?_)
  cases hx : yx (J0y tt trk N x) fc self e h with
  | n e1 h1 =>
   rw [hx] at hr2
   intro a' w' μ' g1 g2 g3 g4
   refine J1r hT hF hm hN hself y g1 g2 ?_
   rw [g4]; exact Ends.mono g3 hr2
  | x id e1 h1=>rw [hx] at hr2; exact fun a' w' μ' g1 g2 g3 g4=>hr2 a' w' μ' g1 g2 g3 g4
  | r e1 h1=>rw [hx] at hr2; exact fun a' w' μ' g1 g2 g3 g4=>hr2 a' w' μ' g1 g2 g3 g4
  | pn v e1 h1=>rw [hx] at hr2; exact fun a' w' μ' y g1 g2 g3 g4 g5=>hr2 a' w' μ' y g1 g2 g3 g4 g5
  | bad=>rw [hx] at hr2; exact hr2.elim
 | .cond c x y,Q,e,h,a,w,μ,hs,r,hr=>by
  have hr2 : Ends Q B trk N μ h w a.defers (onB (ydV (J0d (J2c trk [] c)) [] e) fun z=>Bool.rec (yx (J0y tt trk N y) fc self e h) (yx (J0y tt trk N x) fc self e h) z):=hr
  have hv:=hs.op c
  rw [J0j] at hr2
  cases hc : odV [] e (J2c trk [] c) with
  | b z =>
   rw [hc] at hr2 hv
   rw [VR.b_iff] at hv
   cases z
   ·exact wpIn_cond_false hv (J1r hT hF hm hN hself y hs r hr2)
   ·exact wpIn_cond_true hv (J1r hT hF hm hN hself x hs r hr2)
  | _=>rw [hc] at hr2; exact hr2.elim
 | .block id x,Q,e,h,a,w,μ,hs,r,hr=>by
  have hr2 : Ends Q B trk N μ h w a.defers (R.rec (motive:=fun _=>R) (fun e h=>.n e h) (fun i e h=>Bool.rec (.x i e h) (.n e h) (Nat.beq i id)) (fun e h=>.r e h) (fun v e h=>.pn v e h) .bad (yx (J0y tt trk N x) fc self e h)):=hr
  refine wpIn_block (J1r hT hF hm hN hself x hs r ?_)
  cases hx : yx (J0y tt trk N x) fc self e h with
  | n e1 h1=>rw [hx] at hr2; exact fun a' w' μ' g1 g2 g3 g4=>hr2 a' w' μ' g1 g2 g3 g4
  | x i e1 h1 =>
   rw [hx] at hr2
   simp only at hr2
   intro a' w' μ' g1 g2 g3 g4
   show (if i = id then Q .normal a' w' else Q (.exit i) a' w')
   cases hb : Nat.beq i id <;> rw [hb] at hr2
   ·have hne : i ≠ id:=by intro e; rw [e,Nat.beq_refl] at hb; cases hb
    rw [if_neg hne]; exact hr2 a' w' μ' g1 g2 g3 g4
   ·rw [if_pos (Nat.eq_of_beq_eq_true hb)]; exact hr2 a' w' μ' g1 g2 g3 g4
  | r e1 h1=>rw [hx] at hr2; exact fun a' w' μ' g1 g2 g3 g4=>hr2 a' w' μ' g1 g2 g3 g4
  | pn v e1 h1=>rw [hx] at hr2; exact fun a' w' μ' y g1 g2 g3 g4 g5=>hr2 a' w' μ' y g1 g2 g3 g4 g5
  | bad=>rw [hx] at hr2; exact hr2.elim
 | .loop x,Q,e,h,a,w,μ,hs,r,hr=>by
  have hr2 : Ends Q B trk N μ h w a.defers ((yx (J0y tt trk N x) fc self e h).rest fun e h=>self (.loop (J0y tt trk N x)) e h):=hr
  refine wpIn_loop_rounds (n + 1) ?_
  show x.wpIn (FW ro) 0 P (Exit.then (Code.roundsIn (FW ro) 0 P x Q n) Q) a w
  refine J1r hT hF hm hN hself x hs r ?_
  cases hx : yx (J0y tt trk N x) fc self e h with
  | n e1 h1 =>
   rw [hx] at hr2
   intro a' w' μ' g1 g2 g3 g4
   refine hself ro x Q e1 h1 a' w' μ' g1 g2 ?_
   rw [g4]; exact Ends.mono g3 hr2
  | x id e1 h1=>rw [hx] at hr2; exact fun a' w' μ' g1 g2 g3 g4=>hr2 a' w' μ' g1 g2 g3 g4
  | r e1 h1=>rw [hx] at hr2; exact fun a' w' μ' g1 g2 g3 g4=>hr2 a' w' μ' g1 g2 g3 g4
  | pn v e1 h1=>rw [hx] at hr2; exact fun a' w' μ' y g1 g2 g3 g4 g5=>hr2 a' w' μ' y g1 g2 g3 g4 g5
  | bad=>rw [hx] at hr2; exact hr2.elim
 | .exit id,Q,e,h,a,w,μ,hs,r,hr=>wpIn_exit (hr a w μ hs r (Ext.refl _ _ _) rfl)
 | .ret,Q,e,h,a,w,μ,hs,r,hr=>wpIn_ret (hr a w μ hs r (Ext.refl _ _ _) rfl)
 | .rangeFunc _ _ _ _,Q,e,h,a,w,μ,hs,r,hr=>hr.elim
 | .scope _,Q,e,h,a,w,μ,hs,r,hr=>hr.elim
 | .label _,Q,e,h,a,w,μ,hs,r,hr=>hr.elim
 | .goto _,Q,e,h,a,w,μ,hs,r,hr=>hr.elim
 | .refuse _,Q,e,h,a,w,μ,hs,r,hr=>hr.elim
end
end Go.X
end
