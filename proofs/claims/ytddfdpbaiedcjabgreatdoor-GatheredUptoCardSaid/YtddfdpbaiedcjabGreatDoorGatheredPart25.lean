/- The statement Gathered, second form, its card: where what the law reads is of bulk at most 1048576, and the two listed variables read as listed, it returns true, and its argument reads behind the call as before. Part 25 of 26. -/
import Derived.Test.YtddfdpbaiedcjabGreatDoorGatheredPart24
/- Gathered, second form: the row. -/
namespace Go.Proofs.YtddfdpbaiedcjabGreatDoor.gathered
open Go.ChangeShapes Go.WideShapes Go.ChangeAt Go.RowKit

theorem saidUpto : Rows.GatheredUptoSaid :=
  OpenClaim.holds_of_cond 3 Tryz.f3 rfl rfl rfl rfl rfl rfl rfl ⟨rfl, rfl, rfl, rfl, rfl⟩ rfl rfl rfl rfl rfl (by kernel_rfl) Tryz.func3 (by kernel_rfl)
    (of_decide_eq_true (by kernel_rfl)) (by unfold Func.isWrapper; first | (rw [if_pos (by decide +kernel)]; kernel_rfl) | (rw [if_neg (by decide +kernel)]; exact ⟨rfl, rfl⟩))
    (fun os started H enc _ F => by rw [OpenClaim.pre_eq_preRow]; exact liftedUpto os started H enc F)
end Go.Proofs.YtddfdpbaiedcjabGreatDoor.gathered
