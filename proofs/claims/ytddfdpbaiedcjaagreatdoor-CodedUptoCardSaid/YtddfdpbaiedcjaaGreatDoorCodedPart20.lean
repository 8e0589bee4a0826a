/- The statement Coded, second form, its card: where what the law reads is of bulk at most 1048576, and the two listed variables read as listed, it returns true, and its argument reads behind the call as before. Part 20 of 21. -/
import Derived.Test.YtddfdpbaiedcjaaGreatDoorCodedPart19
/- Coded, second form: the row. -/
namespace Go.Proofs.YtddfdpbaiedcjaaGreatDoor.coded
open Go.ChangeShapes Go.WideShapes Go.ChangeAt Go.RowKit

theorem saidAlone : ({ Rows.codedUptoRow with leaving := false } : OpenClaim).holds Tryz.pinned (Rows.OpenSpec.upto Rows.codedSpec) :=
  OpenClaim.holds_of_cond 11 Tryz.f11 rfl rfl rfl rfl rfl rfl rfl ⟨rfl, rfl, rfl, rfl, rfl⟩ rfl rfl rfl rfl rfl (by kernel_rfl) Tryz.func11 (by kernel_rfl)
    (of_decide_eq_true (by kernel_rfl)) (by unfold Func.isWrapper; first | (rw [if_pos (by decide +kernel)]; kernel_rfl) | (rw [if_neg (by decide +kernel)]; exact ⟨rfl, rfl⟩))
    (fun os started H enc _ F => by rw [OpenClaim.pre_eq_preRow]; exact liftedUpto os started H enc F)

theorem saidUpto : Rows.CodedUptoSaid := holds_leaving rfl rfl (by kernel_rfl) saidAlone rfl
end Go.Proofs.YtddfdpbaiedcjaaGreatDoor.coded
