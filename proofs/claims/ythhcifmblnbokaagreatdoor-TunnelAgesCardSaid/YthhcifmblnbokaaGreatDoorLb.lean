/- The rounds of TunnelAges' first loop, in pieces. -/
import Derived.Test.YthhcifmblnbokaaGreatDoorLa
import Derived.Test.YthhcifmblnbokaaGreatDoorZc
import Derived.WalkKit
import Derived.ProofKit
import Derived.Lib.Hide
set_option linter.all false
set_option maxRecDepth 100000
noncomputable section
namespace Go.X
open Go Go.RowKit Go.Proofs
def sqA : Code → Code | .seq a _=>a | c=>c
def sqB : Code → Code | .seq _ b=>b | c=>c
def bkC : Code → Code | .block _ a=>a | c=>c
def lpC : Code → Code | .loop a=>a | c=>c
def c3 : Code:=match Tryz.f3.body with | some c=>c | none=>.skip
def G5u : Nat → Option S:=J1d (J0k (ttP Tryz.prog) Tryz.f3 c3)
def cY (c : Code) : YC:=J0y (ttP Tryz.prog) G5u Tryz.f3.ntmps c
def cLp : Code:=lpC (bkC (sqB (sqA (sqB (sqB (sqB (sqB (sqB c3))))))))
def ysA (c : YC) : YC:=match c with | .seq a _=>a | c=>c
def ysB (c : YC) : YC:=match c with | .seq _ b=>b | c=>c
def ybk (c : YC) : YC:=match c with | .block _ a=>a | c=>c
def ylp (c : YC) : YC:=match c with | .loop a=>a | c=>c
def yLp : YC:=ylp (ybk (ysB (ysA (ysB (ysB (ysB (ysB (ysB q3.code))))))))
theorem W6j : cY cLp = yLp:=by kernel_rfl
def exT (n : Nat) : SLF:=U5e ftL ltG btT n
def fcT : FC:=W5s ftL ltG btT (exT 100000)
def itT (k : Nat) (e : E) (h : H) : R:=W4x yLp fcT (exT 100000).y k e h
def pcB (k : Nat) (e : E) (n : Nat) (L : List (Nat × O)) (e2 : E) (n2 : Nat) (L2 : List (Nat × O)) : Bool :=
 R.rec (motive:=fun _=>Bool) (fun e1 h1=>eqE e1 e2 && (Nat.beq h1.next n2 && J9n h1 L2)) (fun _ _ _=>false) (fun _ _=>false) (fun _ _ _=>false) false (itT k e (J2v n L))
end Go.X
namespace Go.X
open Go Go.RowKit Go.Proofs
def toR (k : Nat) (r : List V) : Nat → List V:=Nat.rec (motive:=fun _=>Nat → List V) (fun _=>r) (fun _ ih n=>.i .u8 (.ofNat (Nat.mod n 256))::ih (Nat.div n 256)) k
def ob0 : O:=.cells 6 (cl [(.b true),(ii 4),(ii 0),(.sl 101 0 3 35 false),.sn,(.s [97,108,108,111,119,32,42,32,62,32,42,32,42])]) true
def ob1 : O:=.cells 105 (cl ((ii 1)::(bs [80,200,238,145,110,35,182,81,191,15,153,119,114,44,196,7,221,107,122,82,34,23,105,207,37,166,31,130,73,147,133,101] ((ii 100000)::((.b false)::((ii 2)::(bs [41,121,206,225,237,6,5,205,106,254,216,115,210,201,164,55,128,226,62,64,230,242,168,66,224,62,255,64,110,133,47,107] ((ii 100000)::((.b false)::((ii 3)::(bs [167,79,182,73,34,36,37,196,220,232,227,71,154,210,160,45,20,239,111,28,226,36,132,188,221,190,219,94,28,237,172,26] [(ii 100000),(.b false)]))))))))))) true
def ob2 : O:=.map [((ii 2),(.p 880 0))] [0] 1
def ob3 : O:=.map [] [] 0
def ob4 : O:=.cells 2 (cl [(ii 0),(ii 65535)]) true
def ob5 : O:=.cells 72 (cl ((ii 2)::(bs [41,121,206,225,237,6,5,205,106,254,216,115,210,201,164,55,128,226,62,64,230,242,168,66,224,62,255,64,110,133,47,107] ((ii 100000)::((.sl 241 0 1 2 false)::((.sl 248 0 1 2 false)::((ii 3)::(bs [167,79,182,73,34,36,37,196,220,232,227,71,154,210,160,45,20,239,111,28,226,36,132,188,221,190,219,94,28,237,172,26] [(ii 100000),(.sl 283 0 1 2 false),(.sl 290 0 1 2 false)])))))))) true
def ob6 : O:=.map [((.ag (bs [41,121,206,225,237,6,5,205,106,254,216,115,210,201,164,55,128,226,62,64,230,242,168,66,224,62,255,64,110,133,47,107] [])),(ii 2)),((.ag (bs [167,79,182,73,34,36,37,196,220,232,227,71,154,210,160,45,20,239,111,28,226,36,132,188,221,190,219,94,28,237,172,26] [])),(ii 3))] [0,1] 2
def ob7 : O:=.map [((ii 2),(.ag ((ii 2)::(bs [41,121,206,225,237,6,5,205,106,254,216,115,210,201,164,55,128,226,62,64,230,242,168,66,224,62,255,64,110,133,47,107] [(ii 100000),(.sl 333 0 1 2 false),(.sl 335 0 1 2 false)])))),((ii 3),(.ag ((ii 3)::(bs [167,79,182,73,34,36,37,196,220,232,227,71,154,210,160,45,20,239,111,28,226,36,132,188,221,190,219,94,28,237,172,26] [(ii 100000),(.sl 338 0 1 2 false),(.sl 340 0 1 2 false)]))))] [0,1] 2
def ob8 : O:=.map [((ii 1),(.p 1862 0))] [0] 1
def ob9 : O:=.cells 72 (cl ((ii 1)::(bs [80,200,238,145,110,35,182,81,191,15,153,119,114,44,196,7,221,107,122,82,34,23,105,207,37,166,31,130,73,147,133,101] ((ii 100000)::((.sl 482 0 1 2 false)::((.sl 489 0 1 2 false)::((ii 3)::(bs [167,79,182,73,34,36,37,196,220,232,227,71,154,210,160,45,20,239,111,28,226,36,132,188,221,190,219,94,28,237,172,26] [(ii 100000),(.sl 530 0 1 2 false),(.sl 537 0 1 2 false)])))))))) true
def ob10 : O:=.map [((.ag (bs [80,200,238,145,110,35,182,81,191,15,153,119,114,44,196,7,221,107,122,82,34,23,105,207,37,166,31,130,73,147,133,101] [])),(ii 1)),((.ag (bs [167,79,182,73,34,36,37,196,220,232,227,71,154,210,160,45,20,239,111,28,226,36,132,188,221,190,219,94,28,237,172,26] [])),(ii 3))] [0,1] 2
def ob11 : O:=.map [((ii 1),(.ag ((ii 1)::(bs [80,200,238,145,110,35,182,81,191,15,153,119,114,44,196,7,221,107,122,82,34,23,105,207,37,166,31,130,73,147,133,101] [(ii 100000),(.sl 580 0 1 2 false),(.sl 582 0 1 2 false)])))),((ii 3),(.ag ((ii 3)::(bs [167,79,182,73,34,36,37,196,220,232,227,71,154,210,160,45,20,239,111,28,226,36,132,188,221,190,219,94,28,237,172,26] [(ii 100000),(.sl 585 0 1 2 false),(.sl 587 0 1 2 false)]))))] [0,1] 2
def ob12 : O:=.cells 72 (cl ((ii 1)::(bs [80,200,238,145,110,35,182,81,191,15,153,119,114,44,196,7,221,107,122,82,34,23,105,207,37,166,31,130,73,147,133,101] ((ii 100000)::((.sl 729 0 1 2 false)::((.sl 736 0 1 2 false)::((ii 2)::(bs [41,121,206,225,237,6,5,205,106,254,216,115,210,201,164,55,128,226,62,64,230,242,168,66,224,62,255,64,110,133,47,107] [(ii 100000),(.sl 770 0 1 2 false),(.sl 777 0 1 2 false)])))))))) true
def ob13 : O:=.map [((.ag (bs [80,200,238,145,110,35,182,81,191,15,153,119,114,44,196,7,221,107,122,82,34,23,105,207,37,166,31,130,73,147,133,101] [])),(ii 1)),((.ag (bs [41,121,206,225,237,6,5,205,106,254,216,115,210,201,164,55,128,226,62,64,230,242,168,66,224,62,255,64,110,133,47,107] [])),(ii 2))] [0,1] 2
def ob14 : O:=.map [((ii 1),(.ag ((ii 1)::(bs [80,200,238,145,110,35,182,81,191,15,153,119,114,44,196,7,221,107,122,82,34,23,105,207,37,166,31,130,73,147,133,101] [(ii 100000),(.sl 827 0 1 2 false),(.sl 829 0 1 2 false)])))),((ii 2),(.ag ((ii 2)::(bs [41,121,206,225,237,6,5,205,106,254,216,115,210,201,164,55,128,226,62,64,230,242,168,66,224,62,255,64,110,133,47,107] [(ii 100000),(.sl 832 0 1 2 false),(.sl 834 0 1 2 false)]))))] [0,1] 2
def ob15 : O:=.cells 36 (cl (bs [41,121,206,225,237,6,5,205,106,254,216,115,210,201,164,55,128,226,62,64,230,242,168,66,224,62,255,64,110,133,47,107] [.pn,.sn,(ii 0),.sn])) true
def ob16 : O:=.cells 36 (cl (bs [80,200,238,145,110,35,182,81,191,15,153,119,114,44,196,7,221,107,122,82,34,23,105,207,37,166,31,130,73,147,133,101] [.pn,.sn,(ii 0),.sn])) true
def baseL (r : List (Nat × O)) : List (Nat × O):=(0,ob0)::(101,ob1)::(117,ob2)::(118,ob3)::(241,ob4)::(248,ob4)::(283,ob4)::(290,ob4)::(292,ob5)::(329,ob6)::(330,ob7)::(333,ob4)::(335,ob4)::(338,ob4)::(340,ob4)::(364,ob8)::(482,ob4)::(489,ob4)::(530,ob4)::(537,ob4)::(539,ob9)::(576,ob10)::(577,ob11)::(580,ob4)::(582,ob4)::(585,ob4)::(587,ob4)::(611,ob3)::(612,ob3)::(620,ob3)::(729,ob4)::(736,ob4)::(770,ob4)::(777,ob4)::(779,ob12)::(823,ob13)::(824,ob14)::(827,ob4)::(829,ob4)::(832,ob4)::(834,ob4)::(880,ob15)::(1862,ob16)::r
def netO (C T : Nat) : O:=.cells 166 (cl (.pn::((.p 125 0)::((.p 372 0)::((.p 619 0)::((.p 0 0)::((ii 0)::((ii 0)::((ii 0)::(bs [0,0,0,0,0,0,0,0,0,0,0,0,0,0,0,0,0,0,0,0,0,0,0,0,0,0,0,0,0,0,0,0] ((ii 0)::(.sn::((ii 4)::((ii 0)::((ii 1)::(bs [80,200,238,145,110,35,182,81,191,15,153,119,114,44,196,7,221,107,122,82,34,23,105,207,37,166,31,130,73,147,133,101] ((ii 100000)::((.sl 292 0 2 36 false)::((ii 4)::((ii 0)::((ii 2)::(bs [41,121,206,225,237,6,5,205,106,254,216,115,210,201,164,55,128,226,62,64,230,242,168,66,224,62,255,64,110,133,47,107] ((ii 100000)::((.sl 539 0 2 36 false)::((ii 4)::((ii 0)::((ii 3)::(bs [167,79,182,73,34,36,37,196,220,232,227,71,154,210,160,45,20,239,111,28,226,36,132,188,221,190,219,94,28,237,172,26] ((ii 100000)::((.sl 779 0 2 36 false)::(.sn::((.m 1)::((.m 2)::(.mn::((.m 126)::((.m 373)::((.m 620)::((.b true)::[ii C,ii 0,ii T,ii T,ii T])))))))))))))))))))))))))))))))))))))) true
def tab1 (T : Nat) : O:=.cells 5 (cl [(ii 1),ii T,(ii 4),(.m 329),(.m 330)]) true
def tun1 (sl : V) (last T : Nat) : O:=.cells 74 (cl ((ii 1)::(bs [9,1,9,0,0,0,0,0,0,0,0,0,0,0,0,0,0,0,0,0,0,0,0,0,0,0,0,0,0,0,0,0,80,200,238,145,110,35,182,81,191,15,153,119,114,44,196,7,221,107,122,82,34,23,105,207,37,166,31,130,73,147,133,101] [ii T,(.b false),(.p 104 0),sl,(.m 117),(.m 118),ii last,.sn,.sn]))) true
def tab2 (T : Nat) : O:=.cells 5 (cl [(ii 2),ii T,(ii 4),(.m 576),(.m 577)]) true
def tun2 (sl : V) (last T : Nat) : O:=.cells 74 (cl ((ii 2)::(bs [9,2,9,0,0,0,0,0,0,0,0,0,0,0,0,0,0,0,0,0,0,0,0,0,0,0,0,0,0,0,0,0,41,121,206,225,237,6,5,205,106,254,216,115,210,201,164,55,128,226,62,64,230,242,168,66,224,62,255,64,110,133,47,107] [ii T,(.b false),(.p 351 0),sl,(.m 364),(.m 365),ii last,.sn,.sn]))) true
def tab3 (T : Nat) : O:=.cells 5 (cl [(ii 3),ii T,(ii 4),(.m 823),(.m 824)]) true
def tun3 (sl : V) (last T : Nat) : O:=.cells 74 (cl ((ii 3)::(bs [9,3,9,0,0,0,0,0,0,0,0,0,0,0,0,0,0,0,0,0,0,0,0,0,0,0,0,0,0,0,0,0,167,79,182,73,34,36,37,196,220,232,227,71,154,210,160,45,20,239,111,28,226,36,132,188,221,190,219,94,28,237,172,26] [ii T,(.b false),(.p 598 0),sl,(.m 611),(.m 612),ii last,.sn,.sn]))) true
def s2O (id2 id1 a born : Nat) : O:=.cells 41 (cl (ii id2::ii id1::ii 1::(bs [80,200,238,145,110,35,182,81,191,15,153,119,114,44,196,7,221,107,122,82,34,23,105,207,37,166,31,130,73,147,133,101] [.p (Nat.add a 4) 0,.p (Nat.add a 6) 0,.p (Nat.add a 7) 0,ii born,.b false,.b true]))) true
def s1O (id1 id2 b born : Nat) : O:=.cells 41 (cl (ii id1::ii id2::ii 2::(bs [41,121,206,225,237,6,5,205,106,254,216,115,210,201,164,55,128,226,62,64,230,242,168,66,224,62,255,64,110,133,47,107] [.p (Nat.add b 4) 0,.p (Nat.add b 6) 0,.p (Nat.add b 7) 0,ii born,.b true,.b true]))) true
def cipO (k c : Nat) : O:=.cells 34 (cl (.b true::toR 32 [ii c] k)) true
def sivO (m k : Nat) : O:=.cells 3 (cl [.b true,ii m,iu k]) true
structure SS where
 j : Nat
 a : Nat
 b : Nat
 kA : Nat
 kB : Nat
 born : Nat
 c : Nat
 m : Nat
 k : Nat
def id1 (j : Nat) : Nat:=Nat.mul 8 (Nat.add j 1)
def id2 (j : Nat) : Nat:=Nat.add (Nat.mul 8 (Nat.add j 1)) 1
def ssL (s : SS) (r : List (Nat × O)) : List (Nat × O) :=
 (s.a,s2O (id2 s.j) (id1 s.j) s.a s.born)::(Nat.add s.a 4,cipO s.kA 0)::(Nat.add s.a 6,cipO s.kB 0)::(Nat.add s.a 7,sivO s.m s.k) ::
 (s.b,s1O (id1 s.j) (id2 s.j) s.b s.born)::(Nat.add s.b 4,cipO s.kB s.c)::(Nat.add s.b 6,cipO s.kA 0)::(Nat.add s.b 7,sivO 0 0)::r
def ssA (l : List SS) (r : List (Nat × O)) : List (Nat × O):=List.rec (motive:=fun _=>List (Nat × O)) r (fun s _ ih=>ssL s ih) l
def lenN {α : Type} (l : List α) : Nat:=List.rec (motive:=fun _=>Nat) 0 (fun _ _ ih=>Nat.succ ih) l
def padV (n : Nat) : List V:=Nat.rec (motive:=fun _=>List V) [] (fun _ ih=>.pn::ih) n
def arP (f : SS → Nat) (l : List SS) (r : List V) : List V:=List.rec (motive:=fun _=>List V) r (fun s _ ih=>.p (f s) 0::ih) l
def arO (f : SS → Nat) (l : List SS) (n : Nat) : O:=.cells n (cl (arP f l (padV (Nat.sub n (lenN l))))) true
def pktE (n : Nat) : Nat → List (V × V):=Nat.rec (motive:=fun _=>Nat → List (V × V)) (fun _=>[]) (fun _ ih i=>(.ag [ii 1,ii 2,ii 80,.s [Nat.mod i 256,Nat.div i 256]],ii 1)::ih (Nat.add i 1)) n
def rngN (n : Nat) : Nat → List Nat:=Nat.rec (motive:=fun _=>Nat → List Nat) (fun _=>[]) (fun _ ih i=>i::ih (Nat.add i 1)) n
def pktM (n : Nat) : O:=.map (pktE n 0) (rngN n 0) n
def livE (f : Nat → Nat) (p : Nat) (l : List SS) : List (V × V):=List.rec (motive:=fun _=>List (V × V)) [] (fun s _ ih=>(ii (f s.j),ii p)::ih) l
def livB (l : List SS) : List Nat:=List.rec (motive:=fun _=>List Nat) [] (fun s _ ih=>s.j::ih) l
def grtO (g : Nat) : O:=.map [((.ag (bs [80,200,238,145,110,35,182,81,191,15,153,119,114,44,196,7,221,107,122,82,34,23,105,207,37,166,31,130,73,147,133,101] [])),ii g)] [0] 1
def stL (many C T a1 n1 a2 n2 cn g : Nat) (l : List SS) : List (Nat × O) :=
 baseL ((1,pktM many)::(2,pktM many)::(3,netO C T)::(104,tab1 T)::(351,tab2 T)::(598,tab3 T)::(125,tun1 (.sl a1 0 (lenN l) 1 false) (Nat.mul 8 cn) T)::(372,tun2 (.sl a2 0 (lenN l) 1 false) (Nat.add (Nat.mul 8 cn) 1) T)::(619,tun3 .sn 2 T) ::
  (126,.map (livE id1 2 l) (livB l) cn)::(373,.map (livE id2 1 l) (livB l) cn)::(365,grtO g)::(a1,arO SS.b l n1)::(a2,arO SS.a l n2)::ssA l [])
def stE (step t many : Nat) : E:=⟨.u,.u,ii t,.u,ii step,.u,.p 3 0,ii many,.u,.u,.u,.u,.u,.u,.u,.u,.e⟩
end Go.X
namespace Go.X
open Go Go.RowKit Go.Proofs
def brg (i n : Int) : Int:=if i.tmod n < 0 then i.tmod n + n else i.tmod n
theorem G8m (i n : Int) (h : 0 < n) : brg i n = i % n:=by
 have h1:=Int.tmod_lt_of_pos i h
 have h2:=Int.lt_tmod_of_pos i h
 have h3:=Int.mul_tdiv_add_tmod i n
 have h4 : ∃ k : Int,i = brg i n + n * k:=by
  unfold brg
  split
  ·exact ⟨i.tdiv n - 1,by rw [Int.mul_sub]; omega⟩
  ·exact ⟨i.tdiv n,by omega⟩
 have h5 : 0 ≤ brg i n ∧ brg i n < n:=by unfold brg; split <;> omega
 obtain ⟨k,hk⟩:=h4
 have : i % n = brg i n % n:=by
  conv=>lhs; rw [hk]
  exact Int.add_mul_emod_self_left _ _ _
 rw [this,Int.emod_eq_of_lt h5.1 h5.2]
theorem Tryz.bring_any (i n : Int) (w : World) (h0 : 0 < n) (h1 : n ≤ 9223372036854775807) :
  Calls Tryz.prog 6 #[.int .i64 i,.int .i64 n] w fun e w'=>e = .returned (.int .i64 (i % n)) ∧ w = w':=by
 have e : i % n = if i.tmod n < 0 then i.tmod n + n else i.tmod n:=(G8m i n h0).symm
 have ha:=Int.tmod_lt_of_pos i h0
 have hc:=Int.lt_tmod_of_pos i h0
 have E:=Lib.hid e
 clear e
 go_enter Tryz.func6,Tryz.ntmps6
 go_wp2
 all_goals go_ret
 all_goals rw [E.out]
 all_goals show Ending.returned (Value.int _ _) = _ ∧ _
 ·rw [if_pos ‹_›]; exact ⟨rfl,rfl⟩
 ·rw [if_neg (by omega)]; exact ⟨rfl,rfl⟩
def brG (vs : List V) : Option V :=
 match vs with
 | [.z k n,.i .i64 (.ofNat m)]=>Bool.rec none (some (.i .i64 (.ofNat (Nat.mod n 1024)))) (Nat.beq k 0 && (Nat.beq m (Nat.div n 1024) && (Nat.ble 1 m && Nat.ble m 1024)))
 | [.i .i64 (.ofNat a),.i .i64 (.ofNat m)]=>Bool.rec none (some (.i .i64 (.ofNat (Nat.mod a m)))) (Nat.ble 1 m && Nat.ble m 9223372036854775807)
 | _=>none
theorem brG_ok : PG 6 brG:=by
 intro n0 vs v h he
 refine .inl ⟨⟨_,_,Tryz.func6,by kernel_rfl,rfl⟩,fun μ w args r ha=>?_⟩
 unfold brG at he
 split at he
 ·rename_i k n m
  obtain ⟨x,y,e,h1,h2⟩:=vrs2 ha
  obtain rfl : args = #[x,y]:=Array.ext' (by rw [e])
  cases hc : (Nat.beq k 0 && (Nat.beq m (Nat.div n 1024) && (Nat.ble 1 m && Nat.ble m 1024))) <;> rw [hc] at he
  ·cases he
  cases he
  simp only [Bool.and_eq_true] at hc
  have k1:=Nat.eq_of_beq_eq_true hc.1
  have k2:=Nat.eq_of_beq_eq_true hc.2.1
  have k3:=Nat.le_of_ble_eq_true hc.2.2.1
  have k4:=Nat.le_of_ble_eq_true hc.2.2.2
  subst k1
  rw [VR.z0_iff] at h1
  rw [VR.i_iff] at h2
  obtain ⟨i,rfl,hi⟩:=h1
  subst h2
  refine (Tryz.bring_any i (Int.ofNat m) w (by simp; omega) (by simp; omega)).mono fun e w' ⟨e1,e2⟩=>?_
  subst e2
  refine ⟨_,μ,e1,?_,r,Ext.refl _ _ _⟩
  rw [VR.i_iff]
  have k2' : m = n / 1024:=k2
  have : i % Int.ofNat m = ((n % 1024 : Nat) : Int):=by rw [k2']; exact hi
  rw [this]; rfl
 ·rename_i a m
  obtain ⟨x,y,e,h1,h2⟩:=vrs2 ha
  obtain rfl : args = #[x,y]:=Array.ext' (by rw [e])
  cases hc : (Nat.ble 1 m && Nat.ble m 9223372036854775807) <;> rw [hc] at he
  ·cases he
  cases he
  simp only [Bool.and_eq_true] at hc
  have k3:=Nat.le_of_ble_eq_true hc.1
  have k4:=Nat.le_of_ble_eq_true hc.2
  rw [VR.i_iff] at h1 h2
  subst h1
  subst h2
  refine (Tryz.bring_any (Int.ofNat a) (Int.ofNat m) w (by simp; omega) (by simp; omega)).mono fun e w' ⟨e1,e2⟩=>?_
  subst e2
  exact ⟨_,μ,e1,by rw [VR.i_iff]; rfl,r,Ext.refl _ _ _⟩
 ·cases he
end Go.X
namespace Go.X
open Go Go.RowKit Go.Proofs
def okB (x : RC) : Bool:=RC.rec (motive:=fun _=>Bool) (fun v _=>ceq v (.b true)) (fun _ _=>false) false x
theorem G7d {x : RC} (h : okB x = true) : ∃ v h',x = .ok v h' ∧ ceq v (.b true) = true:=by
 cases x with
 | ok v h'=>exact ⟨v,h',rfl,h⟩
 | pn _ _=>cases h
 | bad=>cases h
theorem G3w : okB (G6p btS 4 [] H.e) = true:=by kernel_rfl
def awG (vs : List V) : Option V:=match vs with | []=>some (.b true) | _=>none
theorem awG_ok : PG 4 awG:=by
 intro n0 vs v h he
 unfold awG at he
 split at he
 ·cases he
  obtain ⟨v,h',e,hc⟩:=G7d G3w
  exact ((J4j btS_ok e n0).less fun μ y hy=>J2w hc hy).frame0 VPs.nil (VP.b true) h
 ·cases he
def L0 : List (Nat × O):=[(0,ob0),(1,ob3),(2,ob3),(3,netO 0 0),(101,ob1),(104,tab1 0),(117,ob3),(118,ob3),(125,tun1 .sn 0 0),(126,ob3),(241,ob4),(248,ob4),(283,ob4),(290,ob4),(292,ob5),(329,ob6),(330,ob7),(333,ob4),(335,ob4),(338,ob4),(340,ob4),(351,tab2 0),(364,ob3),(365,ob3),(372,tun2 .sn 1 0),(373,ob3),(482,ob4),(489,ob4),(530,ob4),(537,ob4),(539,ob9),(576,ob10),(577,ob11),(580,ob4),(582,ob4),(585,ob4),(587,ob4),(598,tab3 0),(611,ob3),(612,ob3),(619,tun3 .sn 2 0),(620,ob3),(729,ob4),(736,ob4),(770,ob4),(777,ob4),(779,ob12),(823,ob13),(824,ob14),(827,ob4),(829,ob4),(832,ob4),(834,ob4)]
def eNet : ME:=⟨[],0,[],.p 3 0,843,L0⟩
theorem Q7s : seg btS 5 eNet = true:=by kernel_rfl
theorem G8c : AllS btS 5 [eNet]:=⟨Q7s,trivial⟩
def btV : BT:=btC 6 (.p brG) (btC 4 (.p awG) (btC 5 (.h (memG [eNet])) btT))
theorem btV_ok : BG btV:=((BG.memo U1d btS_ok G8c).p awG_ok).p brG_ok
end Go.X
end
