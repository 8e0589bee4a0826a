/- Streamed. Part 21 of 21. -/
import Derived.Test.YtddfdpbaiedcjabGreatDoorStr20
import Derived.Test.YtddfdpbaiedcjabGreatDoorCards
import Derived.Test.YtddfdpbaiedcjabGreatDoorTie
set_option linter.all false
/- The statement Streamed (second form, its card): where what the law reads is of bulk at most 1048576, and the two listed variables read as listed, it returns true, and its argument reads behind the call as before. -/
namespace Go.Proofs.YtddfdpbaiedcjabGreatDoor.streamed
open Go.ChangeShapes Go.WideShapes Go.ChangeAt Go.RowKit

theorem plain (f : FuncId) (fn : Func) (hf : Tryz.pinned.checked.prog.funcNamed "mediawire/mediawirelaw.Streamed" = some f) (hfn : Tryz.pinned.checked.prog.funcs[f]? = some fn) :
    true = Tryz.pinned.checked.prog.looks [] ∧ ∀ (j : Nat) t, fn.params[j]? = some t → Tryz.pinned.checked.prog.wantsStandIn t = false := by
  obtain rfl : f = 4 := Option.some.inj ((show Tryz.prog.funcNamed "mediawire/mediawirelaw.Streamed" = some 4 by kernel_rfl).symm.trans hf) |>.symm
  obtain rfl : fn = Tryz.f4 := (Option.some.inj (Tryz.func4.symm.trans hfn)).symm
  refine ⟨by kernel_rfl, fun j t ht => ?_⟩
  rw [Tryz.params4] at ht
  have h : t = 22 := by simpa using Array.mem_of_getElem? ht
  subst h
  exact (show Tryz.prog.wantsStandIn 22 = false by kernel_rfl)

/-- The statement: the second form's card. -/
theorem proved : Rows.StreamedUptoCardSaid :=
  Claim7.holds_tied_plain_at .later [] _ _ _ _ saidUpto (fun _ h => by cases h) (by kernel_rfl) (fun _ h => by cases h) streamedUpto_row_tie rfl ⟨rfl, rfl⟩ (by kernel_rfl) rfl plain (by kernel_rfl)
#print axioms proved
end Go.Proofs.YtddfdpbaiedcjabGreatDoor.streamed
