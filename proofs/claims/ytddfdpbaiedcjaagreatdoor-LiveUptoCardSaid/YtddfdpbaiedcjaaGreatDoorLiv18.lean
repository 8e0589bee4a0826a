/- A part of Live's proof. Conditions: none. Part 18 of 18. -/
import Derived.Test.YtddfdpbaiedcjaaGreatDoorLiv17
import Derived.Test.YtddfdpbaiedcjaaGreatDoorCards
import Derived.Test.YtddfdpbaiedcjaaGreatDoorTie
set_option linter.all false
/- The statement Live, by its second form's card: when the network becomes fair all comes through, in as many ticks as are enough, and then nothing more is sent: it returns true. Conditions: the second form's bound on size (what the law reads is of bulk at most 1048576), and the two listed variables read as listed. -/
namespace Go.Proofs.YtddfdpbaiedcjaaGreatDoor.live
open Go.ChangeShapes Go.WideShapes Go.ChangeAt Go.RowKit

theorem plain (f : FuncId) (fn : Func) (hf : Tryz.pinned.checked.prog.funcNamed "mediawire/mediawirekeep.Live" = some f) (hfn : Tryz.pinned.checked.prog.funcs[f]? = some fn) :
    true = Tryz.pinned.checked.prog.looks [] ∧ ∀ (j : Nat) t, fn.params[j]? = some t → Tryz.pinned.checked.prog.wantsStandIn t = false := by
  obtain rfl : f = 6 := Option.some.inj ((show Tryz.prog.funcNamed "mediawire/mediawirekeep.Live" = some 6 by kernel_rfl).symm.trans hf) |>.symm
  obtain rfl : fn = Tryz.f6 := (Option.some.inj (Tryz.func6.symm.trans hfn)).symm
  refine ⟨by kernel_rfl, fun j t ht => ?_⟩
  rw [Tryz.params6] at ht
  have h : t = 26 ∨ t = 3 ∨ t = 3 ∨ t = 3 := by simpa using Array.mem_of_getElem? ht
  rcases h with rfl | rfl | rfl | rfl
  · exact (show Tryz.prog.wantsStandIn 26 = false by kernel_rfl)
  · exact (show Tryz.prog.wantsStandIn 3 = false by kernel_rfl)
  · exact (show Tryz.prog.wantsStandIn 3 = false by kernel_rfl)
  · exact (show Tryz.prog.wantsStandIn 3 = false by kernel_rfl)

/-- The statement: the second form's card. -/
theorem proved : Rows.LiveUptoCardSaid :=
  card_going .later _ _ _ _ saidUpto (by kernel_rfl) liveUpto_row_tie rfl ⟨rfl, rfl⟩ (by kernel_rfl) rfl plain (by kernel_rfl)
#print axioms proved
end Go.Proofs.YtddfdpbaiedcjaaGreatDoor.live
