/- A part of Urgent's proof. Conditions: none. Part 35 of 35. -/
import Derived.Test.YtddfdpbaiedcjaaGreatDoorUrg34
import Derived.Test.YtddfdpbaiedcjaaGreatDoorCards
import Derived.Test.YtddfdpbaiedcjaaGreatDoorTie
set_option linter.all false
/- The statement Urgent (second form, its card): where what the law reads is of bulk at most 1048576, and the two listed variables read as listed, it returns true, and its arguments read behind the call as before. -/
namespace Go.Proofs.YtddfdpbaiedcjaaGreatDoor.urgent
open Go.ChangeShapes Go.WideShapes Go.ChangeAt Go.RowKit

theorem plain (f : FuncId) (fn : Func) (hf : Tryz.pinned.checked.prog.funcNamed "mediawire/mediawirekeep.Urgent" = some f) (hfn : Tryz.pinned.checked.prog.funcs[f]? = some fn) :
    true = Tryz.pinned.checked.prog.looks [] ∧ ∀ (j : Nat) t, fn.params[j]? = some t → Tryz.pinned.checked.prog.wantsStandIn t = false := by
  obtain rfl : f = 9 := Option.some.inj ((show Tryz.prog.funcNamed "mediawire/mediawirekeep.Urgent" = some 9 by kernel_rfl).symm.trans hf) |>.symm
  obtain rfl : fn = Tryz.f9 := (Option.some.inj (Tryz.func9.symm.trans hfn)).symm
  refine ⟨by kernel_rfl, fun j t ht => ?_⟩
  rw [Tryz.params9] at ht
  have h : t = 53 ∨ t = 53 ∨ t = 3 := by simpa using Array.mem_of_getElem? ht
  rcases h with rfl | rfl | rfl
  · exact (show Tryz.prog.wantsStandIn 53 = false by kernel_rfl)
  · exact (show Tryz.prog.wantsStandIn 53 = false by kernel_rfl)
  · exact (show Tryz.prog.wantsStandIn 3 = false by kernel_rfl)

/-- The statement: the second form's card. -/
theorem proved : Rows.UrgentUptoCardSaid :=
  card_going .later _ _ _ _ saidUpto (by kernel_rfl) urgentUpto_row_tie rfl ⟨rfl, rfl⟩ (by kernel_rfl) rfl plain (by kernel_rfl)
#print axioms proved
end Go.Proofs.YtddfdpbaiedcjaaGreatDoor.urgent
