/- awake, over the calls that are written out. -/
import Derived.Test.YtdehdggbpmdeeaaGreatDoorS1
import Derived.Test.YtdehdggbpmdeeaaGreatDoorS2
import Derived.Test.YtdehdggbpmdeeaaGreatDoorS3
import Derived.Test.YtdehdggbpmdeeaaGreatDoorS4
import Derived.Test.YtdehdggbpmdeeaaGreatDoorS5
import Derived.Test.YtdehdggbpmdeeaaGreatDoorS6
import Derived.Test.YtdehdggbpmdeeaaGreatDoorS7
import Derived.Test.YtdehdggbpmdeeaaGreatDoorIN
set_option linter.all false
set_option maxRecDepth 100000
namespace Go.X
open Go Go.RowKit Go.Proofs
noncomputable def es21 : List ME:=[e0,e4,e5,e6,e7,e8,e9,e10,e11,e12,e13,e14,e15,e16,e17,e18,e19,e20,e21,e22,e23,e25,e26,e27,e28,e29]
theorem es21_ok : AllS btS 21 es21:=⟨e0_ok,e4_ok,e5_ok,e6_ok,e7_ok,e8_ok,e9_ok,e10_ok,e11_ok,e12_ok,e13_ok,e14_ok,e15_ok,e16_ok,e17_ok,e18_ok,e19_ok,e20_ok,e21_ok,e22_ok,e23_ok,e25_ok,e26_ok,e27_ok,e28_ok,e29_ok,trivial⟩
noncomputable def es22 : List ME:=[e1,e2,e3]
theorem es22_ok : AllS btS 22 es22:=⟨e1_ok,e2_ok,e3_ok,trivial⟩
noncomputable def es9 : List ME:=[e24]
theorem es9_ok : AllS btS 9 es9:=⟨e24_ok,trivial⟩
noncomputable def es5 : List ME:=[e30]
theorem es5_ok : AllS btS 5 es5:=⟨e30_ok,trivial⟩
noncomputable def btW : BT:=btC 5 (.h (memG es5)) (btC 9 (.h (memG es9)) (btC 22 (.h (memG es22)) (btC 21 (.h (memG es21)) (btS))))
noncomputable def okB (x : RC) : Bool:=RC.rec (motive:=fun _=>Bool) (fun v _=>ceq v (.b true)) (fun _ _=>false) false x
theorem awake_run : okB (runL btW 4 [] H.e) = true:=by kernel_rfl
end Go.X
namespace Go.X
open Go Go.RowKit Go.Proofs
theorem btS_ok : BG btS:=(((((((((BG.nil.cons cmpG_ok).cons insG_ok).p ixbG_ok).p a64R_ok).p m64R_ok).cons prsF_ok).cons threeG_ok).cons twoG_ok).p blkG_ok).p xG_ok
theorem btW_ok : BG btW:=BG.memo (BG.memo (BG.memo (BG.memo btS_ok btS_ok es21_ok) btS_ok es22_ok) btS_ok es9_ok) btS_ok es5_ok
theorem okB_spec {x : RC} (h : okB x = true) : ∃ v h',x = .ok v h' ∧ ceq v (.b true) = true:=by
 cases x with
 | ok v h'=>exact ⟨v,h',rfl,h⟩
 | pn _ _=>cases h
 | bad=>cases h
noncomputable def awG (vs : List V) : Option V:=match vs with | []=>some (.b true) | _=>none
theorem awG_ok : PG 4 awG:=by
 intro n0 vs v h he
 unfold awG at he
 split at he
 ·cases he
  obtain ⟨v,h',e,hc⟩:=okB_spec awake_run
  exact ((runL_call btW_ok e n0).less fun μ y hy=>ceq_spec hc hy).frame0 VPs.nil (VP.b true) h
 ·cases he
noncomputable def btV : BT:=btC 6 (.p brG) (btC 4 (.p awG) (btC 22 (.h (memG es22)) (btC 21 (.h (memG es21)) btS)))
theorem btV_ok : BG btV:=((BG.memo (BG.memo btS_ok btS_ok es21_ok) btS_ok es22_ok).p awG_ok).p brG_ok
theorem true_of {bt : BT} (hb : BG bt) {f : Nat} {vs : List V} (h : okB (runL bt f vs H.e) = true) {fn : Func} {c : Code} (h1 : (Tryz.prog).funcs[f]? = some fn) (h2 : (fn.name == "runtime.NumGoroutine") = false) (h3 : fn.body = some c)
  {args : Array Value} (ha : VRs M.none vs args.toList) (w : World) : Calls Tryz.prog f args w fun e w'=>e = .returned (.bool true) ∧ Below w.heap.size w w':=by
 obtain ⟨v,h',e,hc⟩:=okB_spec h
 rcases (runL_call hb e w.heap.size).less fun μ y hy=>ceq_spec hc hy with ⟨_,hr⟩ | ⟨v1,h1',e1,hr⟩
 ·refine (hr M.none w args (HR.e (Nat.le_refl _)) ha).mono ?_
  rintro e w' ⟨y,μ',rfl,g1,g2,g3⟩
  rw [VR.b_iff] at g1
  exact ⟨by rw [g1],g3.below H.get_e⟩
 ·obtain ⟨y,w',μ',g1,_⟩:=hr M.none w args (HR.e (Nat.le_refl _)) ha
  rw [callFunc_enter h1 h2 h3] at g1
  cases g1
theorem vz {x : Int} {m r : Nat} (h : x % (m : Int) = (r : Int)) (hr : r < 1024) : VR M.none (.z 0 (m * 1024 + r)) (.int .i64 x):=by
 rw [VR.z0_iff]
 refine ⟨x,rfl,?_⟩
 rw [show (m * 1024 + r) / 1024 = m by omega,show (m * 1024 + r) % 1024 = r by omega]
 exact h
end Go.X
