/- A part of Given's proof. Conditions: none. Part 17 of 18. -/
import Derived.Test.YtddfdpbaiedcjaaGreatDoorGiv16
set_option linter.all false
/- Given, second form: the row. -/
namespace Go.Proofs.YtddfdpbaiedcjaaGreatDoor.given
open Go.ChangeShapes Go.WideShapes Go.ChangeAt Go.RowKit

theorem saidAlone : ({ Rows.givenUptoRow with leaving := false } : OpenClaim).holds Tryz.pinned (Rows.OpenSpec.upto Rows.givenSpec) :=
  OpenClaim.holds_of_cond 7 Tryz.f7 rfl rfl rfl rfl rfl rfl rfl ⟨rfl, rfl, rfl, rfl, rfl⟩ rfl rfl rfl rfl rfl (by kernel_rfl) Tryz.func7 (by kernel_rfl)
    (of_decide_eq_true (by kernel_rfl)) (by unfold Func.isWrapper; first | (rw [if_pos (by decide +kernel)]; kernel_rfl) | (rw [if_neg (by decide +kernel)]; exact ⟨rfl, rfl⟩))
    (fun os started H enc _ F => by rw [OpenClaim.pre_eq_preRow]; exact liftedUpto os started H enc F)

theorem saidUpto : Rows.GivenUptoSaid := holds_leaving rfl rfl (by kernel_rfl) saidAlone rfl
end Go.Proofs.YtddfdpbaiedcjaaGreatDoor.given
