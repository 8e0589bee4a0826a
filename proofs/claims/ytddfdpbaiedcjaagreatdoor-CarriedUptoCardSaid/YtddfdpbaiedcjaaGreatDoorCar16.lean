/- A part of Carried's proof. Conditions: none. Part 16 of 16. -/
import Derived.Test.YtddfdpbaiedcjaaGreatDoorCar15
import Derived.Test.YtddfdpbaiedcjaaGreatDoorCards
import Derived.Test.YtddfdpbaiedcjaaGreatDoorTie
set_option linter.all false
/- The statement Carried, by its second form's card: streams without any that is given up, over a network that loses, doubles, turns around and spoils: it returns true. Conditions: the second form's bound on size (what the law reads is of bulk at most 1048576), and the two listed variables read as listed. -/
namespace Go.Proofs.YtddfdpbaiedcjaaGreatDoor.carried
open Go.ChangeShapes Go.WideShapes Go.ChangeAt Go.RowKit

theorem plain (f : FuncId) (fn : Func) (hf : Tryz.pinned.checked.prog.funcNamed "mediawire/mediawirekeep.Carried" = some f) (hfn : Tryz.pinned.checked.prog.funcs[f]? = some fn) :
    true = Tryz.pinned.checked.prog.looks [] ∧ ∀ (j : Nat) t, fn.params[j]? = some t → Tryz.pinned.checked.prog.wantsStandIn t = false := by
  obtain rfl : f = 5 := Option.some.inj ((show Tryz.prog.funcNamed "mediawire/mediawirekeep.Carried" = some 5 by kernel_rfl).symm.trans hf) |>.symm
  obtain rfl : fn = Tryz.f5 := (Option.some.inj (Tryz.func5.symm.trans hfn)).symm
  refine ⟨by kernel_rfl, fun j t ht => ?_⟩
  rw [Tryz.params5] at ht
  have h : t = 26 ∨ t = 3 ∨ t = 3 ∨ t = 3 := by simpa using Array.mem_of_getElem? ht
  rcases h with rfl | rfl | rfl | rfl
  · exact (show Tryz.prog.wantsStandIn 26 = false by kernel_rfl)
  · exact (show Tryz.prog.wantsStandIn 3 = false by kernel_rfl)
  · exact (show Tryz.prog.wantsStandIn 3 = false by kernel_rfl)
  · exact (show Tryz.prog.wantsStandIn 3 = false by kernel_rfl)

/-- The statement: the second form's card. -/
theorem proved : Rows.CarriedUptoCardSaid :=
  card_going .later _ _ _ _ saidUpto (by kernel_rfl) carriedUpto_row_tie rfl ⟨rfl, rfl⟩ (by kernel_rfl) rfl plain (by kernel_rfl)
#print axioms proved
end Go.Proofs.YtddfdpbaiedcjaaGreatDoor.carried
