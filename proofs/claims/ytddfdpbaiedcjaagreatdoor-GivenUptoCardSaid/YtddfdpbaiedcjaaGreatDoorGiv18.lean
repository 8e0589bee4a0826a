/- A part of Given's proof. Conditions: none. Part 18 of 18. -/
import Derived.Test.YtddfdpbaiedcjaaGreatDoorGiv17
import Derived.Test.YtddfdpbaiedcjaaGreatDoorCards
import Derived.Test.YtddfdpbaiedcjaaGreatDoorTie
set_option linter.all false
/- Given Conditions: the second form's bound on size (what the law reads is of bulk at most 1048576), and the two listed variables read as listed. -/
namespace Go.Proofs.YtddfdpbaiedcjaaGreatDoor.given
open Go.ChangeShapes Go.WideShapes Go.ChangeAt Go.RowKit

theorem plain (f : FuncId) (fn : Func) (hf : Tryz.pinned.checked.prog.funcNamed "mediawire/mediawirekeep.Given" = some f) (hfn : Tryz.pinned.checked.prog.funcs[f]? = some fn) :
    true = Tryz.pinned.checked.prog.looks [] ∧ ∀ (j : Nat) t, fn.params[j]? = some t → Tryz.pinned.checked.prog.wantsStandIn t = false := by
  obtain rfl : f = 7 := Option.some.inj ((show Tryz.prog.funcNamed "mediawire/mediawirekeep.Given" = some 7 by kernel_rfl).symm.trans hf) |>.symm
  obtain rfl : fn = Tryz.f7 := (Option.some.inj (Tryz.func7.symm.trans hfn)).symm
  refine ⟨by kernel_rfl, fun j t ht => ?_⟩
  rw [Tryz.params7] at ht
  have h : t = 26 ∨ t = 3 ∨ t = 3 ∨ t = 3 := by simpa using Array.mem_of_getElem? ht
  rcases h with rfl | rfl | rfl | rfl
  · exact (show Tryz.prog.wantsStandIn 26 = false by kernel_rfl)
  · exact (show Tryz.prog.wantsStandIn 3 = false by kernel_rfl)
  · exact (show Tryz.prog.wantsStandIn 3 = false by kernel_rfl)
  · exact (show Tryz.prog.wantsStandIn 3 = false by kernel_rfl)

/-- The statement: the second form's card. -/
theorem proved : Rows.GivenUptoCardSaid :=
  card_going .later _ _ _ _ saidUpto (by kernel_rfl) givenUpto_row_tie rfl ⟨rfl, rfl⟩ (by kernel_rfl) rfl plain (by kernel_rfl)
#print axioms proved
end Go.Proofs.YtddfdpbaiedcjaaGreatDoor.given
