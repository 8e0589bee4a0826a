/- Streamed. Part 20 of 21. -/
import Derived.Test.YtddfdpbaiedcjabGreatDoorStr18
import Derived.Test.YtddfdpbaiedcjabGreatDoorStr19
set_option linter.all false
/- Streamed, second form: the row. -/
namespace Go.Proofs.YtddfdpbaiedcjabGreatDoor.streamed
open Go.ChangeShapes Go.WideShapes Go.ChangeAt Go.RowKit

theorem saidUpto : Rows.StreamedUptoSaid :=
  OpenClaim.holds_of_cond 4 Tryz.f4 rfl rfl rfl rfl rfl rfl rfl ⟨rfl, rfl, rfl, rfl, rfl⟩ rfl rfl rfl rfl rfl (by kernel_rfl) Tryz.func4 joined
    (of_decide_eq_true (by kernel_rfl)) (by unfold Func.isWrapper; first | (rw [if_pos (by decide +kernel)]; kernel_rfl) | (rw [if_neg (by decide +kernel)]; exact ⟨rfl, rfl⟩))
    (fun os started H enc _ F => by rw [OpenClaim.pre_eq_preRow]; exact liftedUpto os started H enc F)
end Go.Proofs.YtddfdpbaiedcjabGreatDoor.streamed
