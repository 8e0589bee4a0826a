/- A part of Live's proof. Conditions: none. Part 17 of 18. -/
import Derived.Test.YtddfdpbaiedcjaaGreatDoorLiv16
set_option linter.all false
/- Live, second form: the row. -/
namespace Go.Proofs.YtddfdpbaiedcjaaGreatDoor.live
open Go.ChangeShapes Go.WideShapes Go.ChangeAt Go.RowKit

theorem saidAlone : ({ Rows.liveUptoRow with leaving := false } : OpenClaim).holds Tryz.pinned (Rows.OpenSpec.upto Rows.liveSpec) :=
  OpenClaim.holds_of_cond 6 Tryz.f6 rfl rfl rfl rfl rfl rfl rfl ⟨rfl, rfl, rfl, rfl, rfl⟩ rfl rfl rfl rfl rfl (by kernel_rfl) Tryz.func6 (by kernel_rfl)
    (of_decide_eq_true (by kernel_rfl)) (by unfold Func.isWrapper; first | (rw [if_pos (by decide +kernel)]; kernel_rfl) | (rw [if_neg (by decide +kernel)]; exact ⟨rfl, rfl⟩))
    (fun os started H enc _ F => by rw [OpenClaim.pre_eq_preRow]; exact liftedUpto os started H enc F)

theorem saidUpto : Rows.LiveUptoSaid := holds_leaving rfl rfl (by kernel_rfl) saidAlone rfl
end Go.Proofs.YtddfdpbaiedcjaaGreatDoor.live
