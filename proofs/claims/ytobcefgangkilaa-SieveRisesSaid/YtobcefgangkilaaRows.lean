/-
  No cell of these rows narrows 'for every input' (looked for: loops, veiled, ifaces, maps, wideKeys, modest, calm, conditions, laid).
  DERIVED. THE GIVEN ROWS OF THIS SEAT. 8 by the template 'for every input the law returns true; each argument reads behind the call as it read before'; 0 by the template 'total and deterministic' (their statements: YtobcefgangkilaaTotals.lean).
  GIVEN WITH THE SEED: the statements are not yours to turn. If you find one false, say at which input.
  Laid BY PROGRAM, IN A SANDBOX (cutbox-rows.mjs): the forced cells as the released guide's own fill.sh prints them over the translation c6104b6492790075… (all of the seat's roots in one cut). By AI agents, Wed Nov 11 2026. No macro, syntax, notation, axiom, sorry.
-/
import Derived.Test.YtobcefgangkilaaChecked
import GoSem.Claim
import GoSem.ClaimJoined
import GoSem.ClaimMapViews
import Derived.JoinedTies
import Derived.KernelRfl
namespace Go.Proofs.Ytobcefgangkilaa
/- THE CELL 'sum', in the pinned program and in every row, IS THE sha256 OF THE DUMP (.gsa) THAT YtobcefgangkilaaProg.lean LOADS. Nothing in Lean hashes anything: it is a label: what it is worth is what the hold of that sum in a sandbox is worth. -/
noncomputable def Try.pinned : Pinned := { name := "ytobcefgangkilaa", sum := "c6104b6492790075ce125059fc1cc29db0311a1ee7de14414e6b75bd440942ca", checked := Try.checked }
namespace Rows
def none {H : Type} : Left H := { results := [], args := [] }

/-- 'causewaylaw11.SievePuts': WHATEVER THE INPUT: true; the input reads as it did. -/
def sievePutsSpec : ChangeSpec := { name := "sievePuts", fn := fun _ => fun
  | [d1, d2] => { results := [.lit (.bool true)], args := [d1, d2] }
  | _ => none }
def sievePutsRow : OpenClaim := { program := "ytobcefgangkilaa", sum := "c6104b6492790075ce125059fc1cc29db0311a1ee7de14414e6b75bd440942ca", func := "causeway/causewaylaw11.SievePuts", spec := "sievePuts", unfollowed := true, recurses := true, apart := false }
def SievePutsSaid : Prop := sievePutsRow.holds Try.pinned (OpenSpec.ofChange sievePutsSpec)

/-- ITS FALSE NEIGHBOUR: 'it returns false'. Refute it at one input. -/
def sievePutsWrong : ChangeSpec := { name := "sievePuts", fn := fun _ => fun
  | [d1, d2] => { results := [.lit (.bool false)], args := [d1, d2] }
  | _ => none }
def SievePutsWrongFalsely : Prop := sievePutsRow.holds Try.pinned (OpenSpec.ofChange sievePutsWrong)

/-- 'causewaylaw11.SieveOnce': WHATEVER THE INPUT: true; the input reads as it did. -/
def sieveOnceSpec : ChangeSpec := { name := "sieveOnce", fn := fun _ => fun
  | [d] => { results := [.lit (.bool true)], args := [d] }
  | _ => none }
def sieveOnceRow : OpenClaim := { program := "ytobcefgangkilaa", sum := "c6104b6492790075ce125059fc1cc29db0311a1ee7de14414e6b75bd440942ca", func := "causeway/causewaylaw11.SieveOnce", spec := "sieveOnce", unfollowed := true, recurses := true, apart := false }
def SieveOnceSaid : Prop := sieveOnceRow.holds Try.pinned (OpenSpec.ofChange sieveOnceSpec)

/-- ITS FALSE NEIGHBOUR: 'it returns false'. Refute it at one input. -/
def sieveOnceWrong : ChangeSpec := { name := "sieveOnce", fn := fun _ => fun
  | [d] => { results := [.lit (.bool false)], args := [d] }
  | _ => none }
def SieveOnceWrongFalsely : Prop := sieveOnceRow.holds Try.pinned (OpenSpec.ofChange sieveOnceWrong)

/-- 'causewaylaw11.SieveNear': WHATEVER THE INPUT: true; the input reads as it did. -/
def sieveNearSpec : ChangeSpec := { name := "sieveNear", fn := fun _ => fun
  | [d1, d2] => { results := [.lit (.bool true)], args := [d1, d2] }
  | _ => none }
def sieveNearRow : OpenClaim := { program := "ytobcefgangkilaa", sum := "c6104b6492790075ce125059fc1cc29db0311a1ee7de14414e6b75bd440942ca", func := "causeway/causewaylaw11.SieveNear", spec := "sieveNear", unfollowed := true, recurses := true, apart := false }
def SieveNearSaid : Prop := sieveNearRow.holds Try.pinned (OpenSpec.ofChange sieveNearSpec)

/-- ITS FALSE NEIGHBOUR: 'it returns false'. Refute it at one input. -/
def sieveNearWrong : ChangeSpec := { name := "sieveNear", fn := fun _ => fun
  | [d1, d2] => { results := [.lit (.bool false)], args := [d1, d2] }
  | _ => none }
def SieveNearWrongFalsely : Prop := sieveNearRow.holds Try.pinned (OpenSpec.ofChange sieveNearWrong)

/-- 'causewaylaw11.SieveRises': WHATEVER THE INPUT: true; the input reads as it did. -/
def sieveRisesSpec : ChangeSpec := { name := "sieveRises", fn := fun _ => fun
  | [d] => { results := [.lit (.bool true)], args := [d] }
  | _ => none }
def sieveRisesRow : OpenClaim := { program := "ytobcefgangkilaa", sum := "c6104b6492790075ce125059fc1cc29db0311a1ee7de14414e6b75bd440942ca", func := "causeway/causewaylaw11.SieveRises", spec := "sieveRises", unfollowed := true, recurses := true, apart := false }
def SieveRisesSaid : Prop := sieveRisesRow.holds Try.pinned (OpenSpec.ofChange sieveRisesSpec)

/-- ITS FALSE NEIGHBOUR: 'it returns false'. Refute it at one input. -/
def sieveRisesWrong : ChangeSpec := { name := "sieveRises", fn := fun _ => fun
  | [d] => { results := [.lit (.bool false)], args := [d] }
  | _ => none }
def SieveRisesWrongFalsely : Prop := sieveRisesRow.holds Try.pinned (OpenSpec.ofChange sieveRisesWrong)

/-- 'causewaylaw11.SieveOld': WHATEVER THE INPUT: true; the input reads as it did. -/
def sieveOldSpec : ChangeSpec := { name := "sieveOld", fn := fun _ => fun
  | [d1, d2] => { results := [.lit (.bool true)], args := [d1, d2] }
  | _ => none }
def sieveOldRow : OpenClaim := { program := "ytobcefgangkilaa", sum := "c6104b6492790075ce125059fc1cc29db0311a1ee7de14414e6b75bd440942ca", func := "causeway/causewaylaw11.SieveOld", spec := "sieveOld", unfollowed := true, recurses := true, apart := false }
def SieveOldSaid : Prop := sieveOldRow.holds Try.pinned (OpenSpec.ofChange sieveOldSpec)

/-- ITS FALSE NEIGHBOUR: 'it returns false'. Refute it at one input. -/
def sieveOldWrong : ChangeSpec := { name := "sieveOld", fn := fun _ => fun
  | [d1, d2] => { results := [.lit (.bool false)], args := [d1, d2] }
  | _ => none }
def SieveOldWrongFalsely : Prop := sieveOldRow.holds Try.pinned (OpenSpec.ofChange sieveOldWrong)

/-- 'causewaylaw11.SieveStays': WHATEVER THE INPUT: true; the input reads as it did. -/
def sieveStaysSpec : ChangeSpec := { name := "sieveStays", fn := fun _ => fun
  | [d1, d2] => { results := [.lit (.bool true)], args := [d1, d2] }
  | _ => none }
def sieveStaysRow : OpenClaim := { program := "ytobcefgangkilaa", sum := "c6104b6492790075ce125059fc1cc29db0311a1ee7de14414e6b75bd440942ca", func := "causeway/causewaylaw11.SieveStays", spec := "sieveStays", unfollowed := true, recurses := true, apart := false }
def SieveStaysSaid : Prop := sieveStaysRow.holds Try.pinned (OpenSpec.ofChange sieveStaysSpec)

/-- ITS FALSE NEIGHBOUR: 'it returns false'. Refute it at one input. -/
def sieveStaysWrong : ChangeSpec := { name := "sieveStays", fn := fun _ => fun
  | [d1, d2] => { results := [.lit (.bool false)], args := [d1, d2] }
  | _ => none }
def SieveStaysWrongFalsely : Prop := sieveStaysRow.holds Try.pinned (OpenSpec.ofChange sieveStaysWrong)

/-- 'causewaylaw11.SieveSame': WHATEVER THE INPUT: true; the input reads as it did. -/
def sieveSameSpec : ChangeSpec := { name := "sieveSame", fn := fun _ => fun
  | [d] => { results := [.lit (.bool true)], args := [d] }
  | _ => none }
def sieveSameRow : OpenClaim := { program := "ytobcefgangkilaa", sum := "c6104b6492790075ce125059fc1cc29db0311a1ee7de14414e6b75bd440942ca", func := "causeway/causewaylaw11.SieveSame", spec := "sieveSame", unfollowed := true, recurses := true, apart := false }
def SieveSameSaid : Prop := sieveSameRow.holds Try.pinned (OpenSpec.ofChange sieveSameSpec)

/-- ITS FALSE NEIGHBOUR: 'it returns false'. Refute it at one input. -/
def sieveSameWrong : ChangeSpec := { name := "sieveSame", fn := fun _ => fun
  | [d] => { results := [.lit (.bool false)], args := [d] }
  | _ => none }
def SieveSameWrongFalsely : Prop := sieveSameRow.holds Try.pinned (OpenSpec.ofChange sieveSameWrong)

/-- 'causewaylaw11.SieveKnown': WHATEVER THE INPUT: true; the input reads as it did. -/
def sieveKnownSpec : ChangeSpec := { name := "sieveKnown", fn := fun _ => fun
  | [] => { results := [.lit (.bool true)], args := [] }
  | _ => none }
def sieveKnownRow : OpenClaim := { program := "ytobcefgangkilaa", sum := "c6104b6492790075ce125059fc1cc29db0311a1ee7de14414e6b75bd440942ca", func := "causeway/causewaylaw11.SieveKnown", spec := "sieveKnown", unfollowed := true, recurses := true, apart := false }
def SieveKnownSaid : Prop := sieveKnownRow.holds Try.pinned (OpenSpec.ofChange sieveKnownSpec)

/-- ITS FALSE NEIGHBOUR: 'it returns false'. Refute it at one input. -/
def sieveKnownWrong : ChangeSpec := { name := "sieveKnown", fn := fun _ => fun
  | [] => { results := [.lit (.bool false)], args := [] }
  | _ => none }
def SieveKnownWrongFalsely : Prop := sieveKnownRow.holds Try.pinned (OpenSpec.ofChange sieveKnownWrong)

/- THE SECOND FORM. 'bulk': how many values and letters a reading holds, each counted each time it is reached (what is shared counts as often as it is met; a slice's spare places count too). A statement '..UptoSaid' is the law's where the arguments, and the package variables that the reading takes, are together of bulk at most 1048576: NARROWER than '..Said'. Prove '..Said' where nothing that the law and all that it calls make is longer than what came in: it says more and counts as full. Else prove '..UptoSaid'. A law counts once. -/
mutual
def uptoBulk {H : Type} : DataW H → Nat
  | .lit (.string bytes) => bytes.length + 1
  | .lit _ => 1
  | .nil => 1
  | .ptr d => uptoBulk d + 1
  | .slice elems spare => uptoBulkAll elems + uptoBulkAll spare + 1
  | .agg parts => uptoBulkAll parts + 1
  | .iface _ d => uptoBulk d + 1
  | .map entries => uptoBulkEntries entries + 1
  | .held _ => 1
def uptoBulkAll {H : Type} : List (DataW H) → Nat
  | [] => 0
  | d :: r => uptoBulk d + uptoBulkAll r
def uptoBulkEntries {H : Type} : List (Lit × DataW H) → Nat
  | [] => 0
  | x :: r => uptoBulkEntry x + uptoBulkEntries r
def uptoBulkEntry {H : Type} : Lit × DataW H → Nat
  | (.string bytes, d) => bytes.length + uptoBulk d + 1
  | (_, d) => uptoBulk d + 1
 end
def uptoSmall : (H : Type) → List (DataW H) → Bool := fun _ ds => decide (uptoBulkAll ds ≤ 1048576)
def OpenSpec.upto (s : _root_.Go.ChangeSpec) : _root_.Go.OpenSpec := { _root_.Go.OpenSpec.ofChange s with cond := some uptoSmall }

/-- 'causewaylaw11.SievePuts', WHERE WHAT IT READS IS OF BULK AT MOST 1048576: true; the input reads as it did. -/
def sievePutsUptoRow : OpenClaim := { program := "ytobcefgangkilaa", sum := "c6104b6492790075ce125059fc1cc29db0311a1ee7de14414e6b75bd440942ca", func := "causeway/causewaylaw11.SievePuts", spec := "sievePuts", unfollowed := true, recurses := true, apart := false, narrowed := true }
def SievePutsUptoSaid : Prop := sievePutsUptoRow.holds Try.pinned (OpenSpec.upto sievePutsSpec)

/-- 'causewaylaw11.SieveOnce', WHERE WHAT IT READS IS OF BULK AT MOST 1048576: true; the input reads as it did. -/
def sieveOnceUptoRow : OpenClaim := { program := "ytobcefgangkilaa", sum := "c6104b6492790075ce125059fc1cc29db0311a1ee7de14414e6b75bd440942ca", func := "causeway/causewaylaw11.SieveOnce", spec := "sieveOnce", unfollowed := true, recurses := true, apart := false, narrowed := true }
def SieveOnceUptoSaid : Prop := sieveOnceUptoRow.holds Try.pinned (OpenSpec.upto sieveOnceSpec)

/-- 'causewaylaw11.SieveNear', WHERE WHAT IT READS IS OF BULK AT MOST 1048576: true; the input reads as it did. -/
def sieveNearUptoRow : OpenClaim := { program := "ytobcefgangkilaa", sum := "c6104b6492790075ce125059fc1cc29db0311a1ee7de14414e6b75bd440942ca", func := "causeway/causewaylaw11.SieveNear", spec := "sieveNear", unfollowed := true, recurses := true, apart := false, narrowed := true }
def SieveNearUptoSaid : Prop := sieveNearUptoRow.holds Try.pinned (OpenSpec.upto sieveNearSpec)

/-- 'causewaylaw11.SieveRises', WHERE WHAT IT READS IS OF BULK AT MOST 1048576: true; the input reads as it did. -/
def sieveRisesUptoRow : OpenClaim := { program := "ytobcefgangkilaa", sum := "c6104b6492790075ce125059fc1cc29db0311a1ee7de14414e6b75bd440942ca", func := "causeway/causewaylaw11.SieveRises", spec := "sieveRises", unfollowed := true, recurses := true, apart := false, narrowed := true }
def SieveRisesUptoSaid : Prop := sieveRisesUptoRow.holds Try.pinned (OpenSpec.upto sieveRisesSpec)

/-- 'causewaylaw11.SieveOld', WHERE WHAT IT READS IS OF BULK AT MOST 1048576: true; the input reads as it did. -/
def sieveOldUptoRow : OpenClaim := { program := "ytobcefgangkilaa", sum := "c6104b6492790075ce125059fc1cc29db0311a1ee7de14414e6b75bd440942ca", func := "causeway/causewaylaw11.SieveOld", spec := "sieveOld", unfollowed := true, recurses := true, apart := false, narrowed := true }
def SieveOldUptoSaid : Prop := sieveOldUptoRow.holds Try.pinned (OpenSpec.upto sieveOldSpec)

/-- 'causewaylaw11.SieveStays', WHERE WHAT IT READS IS OF BULK AT MOST 1048576: true; the input reads as it did. -/
def sieveStaysUptoRow : OpenClaim := { program := "ytobcefgangkilaa", sum := "c6104b6492790075ce125059fc1cc29db0311a1ee7de14414e6b75bd440942ca", func := "causeway/causewaylaw11.SieveStays", spec := "sieveStays", unfollowed := true, recurses := true, apart := false, narrowed := true }
def SieveStaysUptoSaid : Prop := sieveStaysUptoRow.holds Try.pinned (OpenSpec.upto sieveStaysSpec)

/-- 'causewaylaw11.SieveSame', WHERE WHAT IT READS IS OF BULK AT MOST 1048576: true; the input reads as it did. -/
def sieveSameUptoRow : OpenClaim := { program := "ytobcefgangkilaa", sum := "c6104b6492790075ce125059fc1cc29db0311a1ee7de14414e6b75bd440942ca", func := "causeway/causewaylaw11.SieveSame", spec := "sieveSame", unfollowed := true, recurses := true, apart := false, narrowed := true }
def SieveSameUptoSaid : Prop := sieveSameUptoRow.holds Try.pinned (OpenSpec.upto sieveSameSpec)

/-- 'causewaylaw11.SieveKnown', WHERE WHAT IT READS IS OF BULK AT MOST 1048576: true; the input reads as it did. -/
def sieveKnownUptoRow : OpenClaim := { program := "ytobcefgangkilaa", sum := "c6104b6492790075ce125059fc1cc29db0311a1ee7de14414e6b75bd440942ca", func := "causeway/causewaylaw11.SieveKnown", spec := "sieveKnown", unfollowed := true, recurses := true, apart := false, narrowed := true }
def SieveKnownUptoSaid : Prop := sieveKnownUptoRow.holds Try.pinned (OpenSpec.upto sieveKnownSpec)

end Rows
end Go.Proofs.Ytobcefgangkilaa
