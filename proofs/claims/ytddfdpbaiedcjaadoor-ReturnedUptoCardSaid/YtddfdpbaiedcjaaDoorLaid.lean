/- What the listed package variables give a walk: errors' own variable, the table of sums; a world that holds them. -/
import Derived.Test.YtddfdpbaiedcjaaDoorRows
import Derived.Test.YtddfdpbaiedcjaaDoorErr3
import Derived.LaidLaws
import Derived.LaidHandle
import Derived.Lib.LaidTab
import Derived.Stop.Joined
import Derived.Deep.DeepHandedRow
namespace Go.Proofs.YtddfdpbaiedcjaaDoor
open Go.ChangeShapes Go.WideShapes Go.ChangeAt Go.RowKit

def laid2 {H : Type} : List (String × DataW H) := [("errors.errorType", Rows.laid_errors_errorType), ("mediawire/wire.table", Rows.laid_mediawire_wire_table)]

theorem gErr : Tryd.prog.globalNamed "errors.errorType" = some 0 := by kernel_rfl
theorem gTab : Tryd.prog.globalNamed "mediawire/wire.table" = some 1 := by kernel_rfl
theorem tyTab : (Tryd.prog.globals[1]?).map (·.type) = some 97 := by kernel_rfl
theorem cells_tab : Tryd.prog.cellsOf 97 = 16 := by kernel_rfl
theorem cells_u32 : Tryd.prog.cellsOf 61 = 1 := by kernel_rfl
theorem rtype_row : (Tryd.prog.cutTypes.find? (·.1 == "internal/reflectlite.rtype")).map (·.2) = some 105 := by kernel_rfl
theorem one_error : ((List.range Tryd.prog.types.size).filter fun t => Tryd.prog.rowNamed t [101, 114, 114, 111, 114]) = [40] := by kernel_rfl
theorem err_handle : typeHandle Tryd.prog 40 = .pointer (some ⟨2, 40, none⟩) := by kernel_rfl

def ctabZ : List Int := [0, 498536548, 997073096, 651767980, 1994146192, 1802195444, 1303535960, 1342533948, 3988292384, 4027552580, 3604390888, 3412177804, 2607071920, 2262029012, 2685067896, 3183342108]

theorem tab_of {W : World} (h : laidMetH Tryd.prog laid2 W) : Tab W := by
  have h' : laidMet Tryd.prog [("mediawire/wire.table", Lib.tabData .u32 ctabZ)] W ∧ handlesMet Tryd.prog [("errors.errorType", Rows.laid_errors_errorType)] W := h
  have ht := Lib.tabIs_of_head (rest := []) gTab tyTab Tryd.underlying97 Tryd.underlying61 cells_u32 cells_tab h'.1
  intro i hi
  have := ht.cell gTab i (by simpa [ctabZ] using hi)
  rw [this]
  have e : ∀ j : Fin 16, ctabZ.getD j.val 0 = (ct j.val : Int) := by decide
  rw [e ⟨i, hi⟩]

theorem errT_of {W : World} (h : laidMetH Tryd.prog laid2 W) : ErrT W := by
  have h' : laidMet Tryd.prog [("mediawire/wire.table", Lib.tabData .u32 ctabZ)] W ∧ handlesMet Tryd.prog [("errors.errorType", Rows.laid_errors_errorType)] W := h
  obtain ⟨name, u, ty, e1, e2, e3, e4, e5⟩ := h'.2 _ (List.mem_singleton.2 rfl)
  have en : name = [101, 114, 114, 111, 114] := (Option.some.inj e1).symm
  subst en
  obtain rfl := Option.some.inj (rtype_row.symm.trans e2)
  have hm : ty ∈ (List.range Tryd.prog.types.size).filter fun t => Tryd.prog.rowNamed t [101, 114, 114, 111, 114] := List.mem_filter.2 ⟨List.mem_range.2 e3, e4⟩
  rw [one_error] at hm
  obtain rfl := List.mem_singleton.1 hm
  rw [err_handle] at e5
  unfold ErrT
  simpa using World.var?_cell gErr e5 0

/-- A world that holds them: the settled one, with the two variables' cells. -/
noncomputable def laidWorld (os : Os) : World :=
  let w0 := World.holding Tryd.prog os ⟨#[], #[], []⟩
  let w1 : World := { w0 with heap := w0.heap.modify 0 fun
      | .cells _ t frozen => .cells #[.iface 105 (.agg #[.pointer (some ⟨2, 40, none⟩)])] t frozen
      | o => o }
  { w1 with heap := w1.heap.modify 1 fun
      | .cells _ t frozen => .cells (ctabZ.map fun z => Value.int .u32 z).toArray t frozen
      | o => o }

theorem laid_met (os : Os) (args : Array Value) : laidMetH Tryd.prog laid2 ((laidWorld os).forCall (fun _ _ => 0) ⟨#[], args, []⟩).memory :=
  laidMetH_of_parts (laidMet_of_run' 8 (by kernel_rfl) (by kernel_rfl)) (by kernel_rfl)
end Go.Proofs.YtddfdpbaiedcjaaDoor
