/- A part of Carried's proof. Conditions: none. Part 15 of 16. -/
import Derived.Test.YtddfdpbaiedcjaaGreatDoorCar14
set_option linter.all false
/- Carried, second form: the row. -/
namespace Go.Proofs.YtddfdpbaiedcjaaGreatDoor.carried
open Go.ChangeShapes Go.WideShapes Go.ChangeAt Go.RowKit

theorem saidAlone : ({ Rows.carriedUptoRow with leaving := false } : OpenClaim).holds Tryz.pinned (Rows.OpenSpec.upto Rows.carriedSpec) :=
  OpenClaim.holds_of_cond 5 Tryz.f5 rfl rfl rfl rfl rfl rfl rfl ⟨rfl, rfl, rfl, rfl, rfl⟩ rfl rfl rfl rfl rfl (by kernel_rfl) Tryz.func5 (by kernel_rfl)
    (of_decide_eq_true (by kernel_rfl)) (by unfold Func.isWrapper; first | (rw [if_pos (by decide +kernel)]; kernel_rfl) | (rw [if_neg (by decide +kernel)]; exact ⟨rfl, rfl⟩))
    (fun os started H enc _ F => by rw [OpenClaim.pre_eq_preRow]; exact liftedUpto os started H enc F)

theorem saidUpto : Rows.CarriedUptoSaid := holds_leaving rfl rfl (by kernel_rfl) saidAlone rfl
end Go.Proofs.YtddfdpbaiedcjaaGreatDoor.carried
