/- SidedRow. Part 20 of 21. -/
import Derived.Test.YtddfdpbaiedcjaaGreatDoorSid18
import Derived.Test.YtddfdpbaiedcjaaGreatDoorSid19
set_option linter.all false
/- Sided, second form: the row. -/
namespace Go.Proofs.YtddfdpbaiedcjaaGreatDoor.sided
open Go.ChangeShapes Go.WideShapes Go.ChangeAt Go.RowKit

theorem saidAlone : ({ Rows.sidedUptoRow with leaving := false } : OpenClaim).holds Tryz.pinned (Rows.OpenSpec.upto Rows.sidedSpec) :=
  OpenClaim.holds_of_cond 3 Tryz.f3 rfl rfl rfl rfl rfl rfl rfl ⟨rfl, rfl, rfl, rfl, rfl⟩ rfl rfl rfl rfl rfl (by kernel_rfl) Tryz.func3 joined
    (of_decide_eq_true (by kernel_rfl)) (by unfold Func.isWrapper; first | (rw [if_pos (by decide +kernel)]; kernel_rfl) | (rw [if_neg (by decide +kernel)]; exact ⟨rfl, rfl⟩))
    (fun os started H enc _ F => by rw [OpenClaim.pre_eq_preRow]; exact liftedUpto os started H enc F)

theorem saidUpto : Rows.SidedUptoSaid := holds_leaving rfl rfl (by kernel_rfl) saidAlone rfl
end Go.Proofs.YtddfdpbaiedcjaaGreatDoor.sided
