/- Calls that are written out, each run by the kernel. -/
import Derived.Test.YtdehdggbpmdeeaaGreatDoorLa
set_option linter.all false
set_option maxRecDepth 100000
namespace Go.X
open Go Go.RowKit Go.Proofs
noncomputable def e30 : ME:=⟨[],0,[],(.p 1 0),144,[(0,o0),(1,o1),(4,o2),(5,o2),(6,o3),(67,o4),(72,o5),(101,o6),(106,o7),(133,o8),(138,o8),(140,o9),(143,o10)]⟩
theorem e30_ok : seg btS 5 e30 = true:=by kernel_rfl
end Go.X
