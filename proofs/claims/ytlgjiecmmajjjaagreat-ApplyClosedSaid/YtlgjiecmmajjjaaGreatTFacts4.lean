/- Closed facts of the row over ApplyClosed. Conditions: none. -/
import Derived.Test.YtlgjiecmmajjjaaGreatRows
import Derived.WalkKit
import Derived.ProofKit
import Derived.OpenShut
namespace Go.Proofs.YtlgjiecmmajjjaaGreat.applyClosed
open Go.ChangeShapes Go.WideShapes Go.ChangeAt Go.RowKit
set_option maxRecDepth 100000
theorem k1 : (laidOutB Tryz.pinned.checked.prog) = true := by kernel_rfl
theorem k25 : (Tryz.pinned.checked.prog.mayEnter) = true := by kernel_rfl
end Go.Proofs.YtlgjiecmmajjjaaGreat.applyClosed
