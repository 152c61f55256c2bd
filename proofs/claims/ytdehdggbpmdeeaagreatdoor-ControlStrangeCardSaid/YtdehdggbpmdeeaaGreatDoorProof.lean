/- The law ControlStrange gives true for every node and every how, and leaves its arguments as they were: the tied card, without a condition of its own. -/
import Derived.Test.YtdehdggbpmdeeaaGreatDoorRows
import Derived.Test.YtdehdggbpmdeeaaGreatDoorCards
import Derived.Test.YtdehdggbpmdeeaaGreatDoorTie
import Derived.WalkKit
import Derived.ProofKit
import Derived.Below
import Derived.OpenShut
import Derived.LaidMore
import Derived.Lay
import Derived.SevenTiedAt
import Derived.Stop.Joined
import Derived.Test.YtdehdggbpmdeeaaGreatDoorCS0
import Derived.Test.YtdehdggbpmdeeaaGreatDoorCS1
import Derived.Test.YtdehdggbpmdeeaaGreatDoorCS2
import Derived.Test.YtdehdggbpmdeeaaGreatDoorCS3
import Derived.Test.YtdehdggbpmdeeaaGreatDoorCS4
import Derived.Test.YtdehdggbpmdeeaaGreatDoorCS5
import Derived.Test.YtdehdggbpmdeeaaGreatDoorCS6
import Derived.Test.YtdehdggbpmdeeaaGreatDoorCS7
import Derived.Test.YtdehdggbpmdeeaaGreatDoorCS8
import Derived.Test.YtdehdggbpmdeeaaGreatDoorFC
set_option linter.all false
set_option maxRecDepth 100000
namespace Go.Proofs.YtdehdggbpmdeeaaGreatDoor.controlStrange
open Go.ChangeShapes Go.WideShapes Go.ChangeAt Go.RowKit
set_option maxHeartbeats 0
theorem own : ownKnob Tryz.prog.godebug = none:=by kernel_rfl
theorem walk (a0 : Int) (a1 : Int) (w : World) :
  Calls Tryz.prog 3 #[.int .i64 a0,.int .i64 a1] w fun e w'=>e = .returned (.bool true) ∧ Below w.heap.size w w':=by
 have h0 : a0 % 3 = 0 ∨ a0 % 3 = 1 ∨ a0 % 3 = 2:=by omega
 have h1 : a1 % 3 = 0 ∨ a1 % 3 = 1 ∨ a1 % 3 = 2:=by omega
 have key : ∀ r s : Nat,a0 % 3 = (r : Int) → a1 % 3 = (s : Int) → r < 3 → s < 3 → Go.X.okB (Go.X.runL Go.X.btV 3 [.z 0 (3 * 1024 + r),.z 0 (3 * 1024 + s)] Go.X.H.e) = true →
   Calls Tryz.prog 3 #[.int .i64 a0,.int .i64 a1] w fun e w'=>e = .returned (.bool true) ∧ Below w.heap.size w w':=fun r s e0 e1 l0 l1 h =>
  Go.X.true_of Go.X.btV_ok h Tryz.func3 (by kernel_rfl) rfl (Go.X.VRs.cons_mk (Go.X.vz e0 (by omega)) (Go.X.VRs.cons_mk (Go.X.vz e1 (by omega)) (Go.X.VRs.nil_iff.2 rfl))) w
 rcases h0 with h0 | h0 | h0 <;> rcases h1 with h1 | h1 | h1
 ·exact key 0 0 (by omega) (by omega) (by decide) (by decide) Go.X.strange00
 ·exact key 0 1 (by omega) (by omega) (by decide) (by decide) Go.X.strange01
 ·exact key 0 2 (by omega) (by omega) (by decide) (by decide) Go.X.strange02
 ·exact key 1 0 (by omega) (by omega) (by decide) (by decide) Go.X.strange10
 ·exact key 1 1 (by omega) (by omega) (by decide) (by decide) Go.X.strange11
 ·exact key 1 2 (by omega) (by omega) (by decide) (by decide) Go.X.strange12
 ·exact key 2 0 (by omega) (by omega) (by decide) (by decide) Go.X.strange20
 ·exact key 2 1 (by omega) (by omega) (by decide) (by decide) Go.X.strange21
 ·exact key 2 2 (by omega) (by omega) (by decide) (by decide) Go.X.strange22
set_option maxRecDepth 100000 in
theorem lifted (os : Os) (started : os.Started) (H : Type) (enc : TypeId × Value → H) :
  ReturnsInHanded {} Tryz.checked os 3 .any (fun w args=>(Rows.controlStrangeSpec.pre enc Tryz.prog Tryz.f3 Rows.controlStrangeRow.domain false w args ∧ laidMetH Tryz.prog Rows.controlStrangeRow.laid w) ∧ sizedMet enc Tryz.prog Tryz.f3 (OpenSpec.ofChange Rows.controlStrangeSpec) false w args)
   (Rows.controlStrangeSpec.post enc Tryz.prog Tryz.f3 false true false false):=by
 refine returnsInHanded_of_change_and (C:=Tryz.checked) (X:=fun w _=>laidMetH Tryz.prog Rows.controlStrangeRow.laid w) (fun _ _ _ hh h=>h.of_heap hh) own started (by as_aux_lemma=>kernel_rfl) Tryz.func3
  (ChangeSpec.witness_shaped (enc:=enc) (C:=Tryz.checked) (os:=os) (X:=fun w _=>laidMetH Tryz.prog Rows.controlStrangeRow.laid w) false (World.laidAll Tryz.prog os Rows.controlStrangeRow.laid) #[.int .i64 0,.int .i64 0] 8 (World.laidAll_os _ _ _)
   (World.shaped_of_ZipB (by as_aux_lemma=>kernel_rfl) (by as_aux_lemma=>kernel_rfl)) (by as_aux_lemma=>kernel_rfl) (by as_aux_lemma=>kernel_rfl) (by as_aux_lemma=>kernel_rfl)
   (by rw [MakeChecks.laidMetH_plain _ _ _ (by as_aux_lemma=>kernel_rfl)]; exact laidMet_laidAll _ (by as_aux_lemma=>kernel_rfl) (by as_aux_lemma=>kernel_rfl))) ?_
 intro W base args ds gs before hval0 hW hcnd _ hL _
 have hval : ∀ (j : Nat) t v,Tryz.f3.params[j]? = some t → args[j]? = some v → Value.okWide Tryz.prog W .any base t v:=hval0
 have hW':=hW
 obtain ⟨p,q,hA0,hV,rfl,hfz,hnd⟩:=hW
 have hA : DataW.TrodAll enc Tryz.prog W 0 (fun _=>true) true Tryz.f3.params.toList args.toList ds p:=hA0
 rw [Tryz.params3] at hA hval
 obtain ⟨v0,vs0,d0,ds0,p0,q0,hargs,rfl,rfl,h0,r0⟩:=trodAll_cons hA
 obtain ⟨v1,vs1,d1,ds1,p1,q1,rfl,rfl,rfl,h1,r1⟩:=trodAll_cons r0
 obtain ⟨rfl,rfl,rfl⟩:=trodAll_nil r1
 obtain rfl : args = #[v0,v1]:=by cases args; simp_all
 obtain ⟨rfl,rfl⟩:=trodVars_none hV
 obtain ⟨a0,rfl,rfl,rfl,w0⟩:=open_int Tryz.underlying3 (hval 0 3 v0 rfl rfl) h0
 obtain ⟨a1,rfl,rfl,rfl,w1⟩:=open_int Tryz.underlying3 (hval 1 3 v1 rfl rfl) h1
 clear hA0 hval0
 simp only [List.append_nil] at hW'
 refine (walk a0 a1 W).mono fun e W' ⟨he,bel⟩=>?_
 subst he
 exact ⟨_,rfl,_,_,_,[],_,[],hW',trodAll_mk1 (shut_bool Tryz.underlying4 _),(trodAll_cons_mk (shut_int Tryz.underlying3 w0) (trodAll_cons_mk (shut_int Tryz.underlying3 w1) trodAll_mk0)),rfl,bel.frame _,fun h=>by cases h⟩
theorem over : Rows.ControlStrangeSaid :=
 OpenClaim.holds_of_wide 3 Tryz.f3 rfl rfl rfl rfl rfl rfl rfl ⟨rfl,rfl,rfl,rfl,rfl⟩ rfl rfl rfl rfl rfl (by as_aux_lemma=>kernel_rfl) Tryz.func3 closed
  (of_decide_eq_true (by as_aux_lemma=>kernel_rfl)) (by unfold Func.isWrapper; first | (rw [if_pos (by decide +kernel)]; kernel_rfl) | (rw [if_neg (by decide +kernel)]; exact ⟨rfl,rfl⟩))
  (fun os started H enc _=>lifted os started H enc)
theorem proved : Rows.ControlStrangeCardSaid :=
 Claim7.holds_tied_plain_at .later [] [.data, .data, .data, .data, .sentinel, .sentinel, .pinned] true (true, "946bd09683e3c0935237b9bb98ce8c49850ba506cac62c1f761b9f5cf5ecff45") true
  over (fun _ h=>by cases h) (by as_aux_lemma=>kernel_rfl) (fun _ h=>by cases h) controlStrange_row_tie rfl ⟨rfl,rfl⟩ (by as_aux_lemma=>kernel_rfl) rfl
  (fun f fn hf hfn=>by
   obtain rfl : f = 3:=Option.some.inj ((show Tryz.prog.funcNamed Rows.controlStrangeRow.func = some 3 by kernel_rfl).symm.trans hf) |>.symm
   obtain rfl : fn = Tryz.f3:=(Option.some.inj (Tryz.func3.symm.trans hfn)).symm
   exact ⟨by kernel_rfl,fun j t ht=>by
    rw [Tryz.params3] at ht
    have h3 : t = 3:=by
     rcases j with _ | _ | j
     ·simpa using ht.symm
     ·simpa using ht.symm
     ·simp at ht
    subst h3
    exact (show Tryz.prog.wantsStandIn 3 = false by kernel_rfl)⟩)
  (by as_aux_lemma=>kernel_rfl)
#print axioms proved
end Go.Proofs.YtdehdggbpmdeeaaGreatDoor.controlStrange
