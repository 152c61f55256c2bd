/- The closed facts of ControlStrange's row. -/
import Derived.Test.YtdehdggbpmdeeaaGreatDoorRows
import Derived.WalkKit
import Derived.ProofKit
import Derived.JoinedOf
set_option linter.all false
set_option maxRecDepth 100000
namespace Go.Proofs.YtdehdggbpmdeeaaGreatDoor.controlStrange
set_option maxHeartbeats 0
theorem band {a b : Bool} (h : a = true) (k : b = true) : (a && b) = true:=by rw [h,k]; rfl
theorem closed : joinedFacts Tryz.pinned.checked.prog 3 Tryz.f3 Rows.controlStrangeSpec Rows.controlStrangeRow = true:=by
 unfold joinedFacts
 repeat' (with_reducible apply band)
 all_goals (as_aux_lemma=>kernel_rfl)
end Go.Proofs.YtdehdggbpmdeeaaGreatDoor.controlStrange
