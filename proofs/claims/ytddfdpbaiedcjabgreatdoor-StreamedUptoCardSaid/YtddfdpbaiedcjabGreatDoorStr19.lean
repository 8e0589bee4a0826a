/- Streamed. Part 19 of 21. -/
import Derived.Test.YtddfdpbaiedcjabGreatDoorStr12
set_option linter.all false
/- Streamed, second form: what is read off the program. -/
namespace Go.Proofs.YtddfdpbaiedcjabGreatDoor.streamed
open Go.ChangeShapes Go.WideShapes Go.ChangeAt Go.RowKit

theorem joined : joinedFacts Tryz.pinned.checked.prog 4 Tryz.f4 (Rows.OpenSpec.upto Rows.streamedSpec).bare Rows.streamedUptoRow = true := by kernel_rfl
end Go.Proofs.YtddfdpbaiedcjabGreatDoor.streamed
