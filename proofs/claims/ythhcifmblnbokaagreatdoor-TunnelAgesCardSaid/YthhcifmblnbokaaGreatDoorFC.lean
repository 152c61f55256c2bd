/- The closed facts of TunnelAges's row. -/
import Derived.Test.YthhcifmblnbokaaGreatDoorRows
import Derived.WalkKit
import Derived.ProofKit
import Derived.JoinedOf
set_option linter.all false
set_option maxRecDepth 100000
namespace Go.Proofs.YthhcifmblnbokaaGreatDoor.tunnelAges
set_option maxHeartbeats 0
theorem band {a b : Bool} (h : a = true) (k : b = true) : (a && b) = true:=by rw [h,k]; rfl
theorem closed : joinedFacts Tryz.pinned.checked.prog 3 Tryz.f3 Rows.tunnelAgesSpec Rows.tunnelAgesRow = true:=by
 unfold joinedFacts
 repeat' (with_reducible apply band)
 all_goals (as_aux_lemma=>kernel_rfl)
end Go.Proofs.YthhcifmblnbokaaGreatDoor.tunnelAges
