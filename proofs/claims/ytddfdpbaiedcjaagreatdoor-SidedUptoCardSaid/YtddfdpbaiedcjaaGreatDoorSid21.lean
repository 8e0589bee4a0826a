/- SidedRow. Part 21 of 21. -/
import Derived.Test.YtddfdpbaiedcjaaGreatDoorSid20
import Derived.Test.YtddfdpbaiedcjaaGreatDoorCards
import Derived.Test.YtddfdpbaiedcjaaGreatDoorTie
set_option linter.all false
/- The statement Sided (second form, its card): where what the law reads is of bulk at most 1048576, and the two listed variables read as listed, it returns true, and its argument reads behind the call as before. -/
namespace Go.Proofs.YtddfdpbaiedcjaaGreatDoor.sided
open Go.ChangeShapes Go.WideShapes Go.ChangeAt Go.RowKit

theorem plain (f : FuncId) (fn : Func) (hf : Tryz.pinned.checked.prog.funcNamed "mediawire/mediawirelaw.Sided" = some f) (hfn : Tryz.pinned.checked.prog.funcs[f]? = some fn) :
    true = Tryz.pinned.checked.prog.looks [] ∧ ∀ (j : Nat) t, fn.params[j]? = some t → Tryz.pinned.checked.prog.wantsStandIn t = false := by
  obtain rfl : f = 3 := Option.some.inj ((show Tryz.prog.funcNamed "mediawire/mediawirelaw.Sided" = some 3 by kernel_rfl).symm.trans hf) |>.symm
  obtain rfl : fn = Tryz.f3 := (Option.some.inj (Tryz.func3.symm.trans hfn)).symm
  refine ⟨by kernel_rfl, fun j t ht => ?_⟩
  rw [Tryz.params3] at ht
  have h : t = 22 := by simpa using Array.mem_of_getElem? ht
  subst h
  exact (show Tryz.prog.wantsStandIn 22 = false by kernel_rfl)

/-- The statement: the second form's card. -/
theorem proved : Rows.SidedUptoCardSaid :=
  card_going .later _ _ _ _ saidUpto (by kernel_rfl) sidedUpto_row_tie rfl ⟨rfl, rfl⟩ (by kernel_rfl) rfl plain (by kernel_rfl)
#print axioms proved
end Go.Proofs.YtddfdpbaiedcjaaGreatDoor.sided
