/- Closed facts of the row over ApplyClosed. Conditions: none. -/
import Derived.Test.YtlgjiecmmajjjaaGreatRows
import Derived.WalkKit
import Derived.ProofKit
import Derived.OpenShut
namespace Go.Proofs.YtlgjiecmmajjjaaGreat.applyClosed
open Go.ChangeShapes Go.WideShapes Go.ChangeAt Go.RowKit
set_option maxRecDepth 100000
theorem k11 : ((Rows.applyClosedRow.recurses == Tryz.pinned.checked.prog.recurses 8)) = true := by kernel_rfl
end Go.Proofs.YtlgjiecmmajjjaaGreat.applyClosed
