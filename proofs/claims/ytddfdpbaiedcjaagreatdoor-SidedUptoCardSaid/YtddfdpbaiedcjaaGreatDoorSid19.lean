/- SidedRow. Part 19 of 21. -/
import Derived.Test.YtddfdpbaiedcjaaGreatDoorSid17
set_option linter.all false
/- Sided, second form: what is read off the program. -/
namespace Go.Proofs.YtddfdpbaiedcjaaGreatDoor.sided
open Go.ChangeShapes Go.WideShapes Go.ChangeAt Go.RowKit

theorem joined : joinedFacts Tryz.pinned.checked.prog 3 Tryz.f3 (Rows.OpenSpec.upto Rows.sidedSpec).bare ({ Rows.sidedUptoRow with leaving := false } : OpenClaim) = true := by kernel_rfl
end Go.Proofs.YtddfdpbaiedcjaaGreatDoor.sided
