/- wire.Decode's deferred function. -/
import Derived.Test.YtddfdpbaiedcjaaDoorRead6
import Derived.Defers
import Derived.Recover
import Derived.Tactics2
import Derived.Laws.Pointers
namespace Go.Proofs.YtddfdpbaiedcjaaDoor
open Go.RowKit

/-- A body's rest that ends as it should. -/
def FinD (G : World → Prop) : Exit → Act → World → Prop := fun ex a w' => (ex = .normal ∨ ex = .ret) ∧ a.defers = [] ∧ G w'

theorem catch_idle (a b c : Value) (w : World) :
    CallsD Tryd.prog 21 #[a, b, c] .returning w fun e u' w' => e = .returned (.tuple #[]) ∧ u' = .returning ∧ w' = w := by
  refine callsD_of_wpS Tryd.func21 rfl fun c₀ cs hu => ?_
  apply wpS_seq
  apply wpS_region
  simp [wpOpsS, go_sem, recoverD, hu, Tryd.ntmps21, Exit.thenS]
  rw [show #[a, b, c] ++ ((Array.replicate 19 undef).setIfInBounds 3 Value.nilIface).setIfInBounds 0 Value.nilIface = (#[a, b, c, .nilIface, undef, undef, .nilIface, undef, undef, undef, undef, undef, undef, undef, undef, undef, undef, undef, undef, undef, undef, undef] : Array Value) from by kernel_rfl]
  refine wpS_of_wp (wp_mono (Q := FinD (fun w' => w' = w)) ?_ ?_)
  · go_wp2_with fail
    exact ⟨by first | exact .inl rfl | exact .inr rfl, rfl, rfl⟩
  · rintro e a w' ⟨he, hd, rfl⟩
    have hc : ({ c₀ with mode := .returning } : Frame) = c₀ := by
      cases c₀
      simp at hu
      simp [hu]
    rcases he with rfl | rfl
    all_goals exact ⟨hd, _, by rw [hc], _, results_none rfl _ _ _, rfl, rfl, rfl⟩

/-- Behind what was caught: no packet; the error with its place. -/
def Caught (w : World) (pb eb at_ : Nat) (w' : World) : Prop :=
  w'.heap[pb]? = some (.cells #[.int .u64 0, .slice none 0 0] 25 (0, 0)) ∧
  (∃ fa, w'.heap[eb]? = some (.cells #[.iface 51 (.pointer (some ⟨fa, 0, none⟩))] 40 (0, 0)) ∧ w'.heap[fa]? = some (.cells #[.int .i64 8, .int .i64 (at_ : Int)] 56 (0, 0)) ∧ w.heap.size ≤ fa) ∧
  Mod (fun k => k = pb ∨ k = eb) w w'

set_option maxRecDepth 100000 in
theorem catch_short (atb pb eb at_ : Nat) (n0 f0v e0 : Value) (older : List PanicEntry) (w : World) (ha : w.cell? ⟨atb, 0, none⟩ = some (.int .i64 (at_ : Int))) (hp : w.heap[pb]? = some (.cells #[n0, f0v] 25 (0, 0))) (he : w.heap[eb]? = some (.cells #[e0] 40 (0, 0))) (hne : pb ≠ eb) :
    CallsD Tryd.prog 21 #[.pointer (some ⟨atb, 0, none⟩), .pointer (some ⟨pb, 0, none⟩), .pointer (some ⟨eb, 0, none⟩)] (.panicking ({ v := .iface 67 (.agg #[]), recovered := false } :: older)) w fun e u' w' =>
      e = .returned (.tuple #[]) ∧ u' = .panicking ({ v := .iface 67 (.agg #[]), recovered := true } :: older) ∧ Caught w pb eb at_ w' := by
  refine callsD_of_wpS Tryd.func21 rfl fun c₀ cs hu => ?_
  have Hp := hide hp
  have He := hide he
  have hpl := lt_of_cell (cell_of_obj (o := 0) hp rfl)
  have hel := lt_of_cell (cell_of_obj (o := 0) he rfl)
  have hal := lt_of_cell ha
  have p0 : w.cell? ⟨pb, 0, none⟩ = some n0 := cell_of_obj (o := 0) hp rfl
  have p1 : w.cell? ⟨pb, 1, none⟩ = some f0v := cell_of_obj (o := 1) hp rfl
  have q0 : w.cell? ⟨eb, 0, none⟩ = some e0 := cell_of_obj (o := 0) he rfl
  have hta : ∀ w, (Instr.typeAssert (.iface 67 (.agg #[])) 20 67 true).run Tryd.prog w = .ok (.tuple #[.agg #[], .bool true]) w := fun _ => by kernel_rfl
  have pz : ∀ j, w.frozen? ⟨pb, j, none⟩ = false := fun j => frozen_of_obj hp
  have qz : ∀ j, w.frozen? ⟨eb, j, none⟩ = false := fun j => frozen_of_obj he
  apply wpS_seq
  apply wpS_region
  simp [wpOpsS, go_sem, recoverD, hu, Tryd.ntmps21, Exit.thenS]
  rw [show #[Value.pointer (some ⟨atb, 0, none⟩), Value.pointer (some ⟨pb, 0, none⟩), Value.pointer (some ⟨eb, 0, none⟩)] ++ ((Array.replicate 19 undef).setIfInBounds 3 (Value.iface 67 (.agg #[]))).setIfInBounds 0 (Value.iface 67 (.agg #[])) = (#[.pointer (some ⟨atb, 0, none⟩), .pointer (some ⟨pb, 0, none⟩), .pointer (some ⟨eb, 0, none⟩), .iface 67 (.agg #[]), undef, undef, .iface 67 (.agg #[]), undef, undef, undef, undef, undef, undef, undef, undef, undef, undef, undef, undef, undef, undef, undef] : Array Value) from by kernel_rfl]
  refine wpS_of_wp (wp_mono (Q := FinD (Caught w pb eb at_)) ?_ ?_)
  · clear hp he hu
    go_wp2_with fail
    refine ⟨.inl rfl, rfl, ?_⟩
    obtain ⟨W, hW⟩ : ∃ W, ((w.setCell ⟨pb, 0, none⟩ (.int .u64 0)).setCell ⟨pb, 1, none⟩ (.slice none 0 0)).setCell ⟨eb, 0, none⟩ (.iface 51 (.pointer (some ⟨w.heap.size + 1, 0, none⟩))) = W := ⟨_, rfl⟩
    rw [hW]
    have mW : Mod (fun k => k = pb ∨ k = eb) w W := by
      rw [← hW]
      exact (((Mod.refl (fun k => k = pb ∨ k = eb) w).setCell (p := ⟨pb, 0, none⟩) (.inl (.inl rfl)) _).setCell (p := ⟨pb, 1, none⟩) (.inl (.inl rfl)) _).setCell (p := ⟨eb, 0, none⟩) (.inl (.inr rfl)) _
    have o1 := obj_setCell (i := 1) (v := .slice none 0 0) (obj_setCell (i := 0) (v := .int .u64 0) Hp.out)
    have oP : W.heap[pb]? = some (.cells #[.int .u64 0, .slice none 0 0] 25 (0, 0)) := by
      rw [← hW]
      exact (((Mod.refl (fun k => k = eb) _).setCell (p := ⟨eb, 0, none⟩) (.inl rfl) _).obj hne o1).trans (by simp)
    have oE : W.heap[eb]? = some (.cells #[.iface 51 (.pointer (some ⟨w.heap.size + 1, 0, none⟩))] 40 (0, 0)) := by
      rw [← hW]
      have e1 := (((Mod.refl (fun k => k = pb) w).setCell (p := ⟨pb, 0, none⟩) (.inl rfl) (.int .u64 0)).setCell (p := ⟨pb, 1, none⟩) (.inl rfl) (.slice none 0 0)).obj (fun e => hne e.symm) He.out
      exact (obj_setCell (i := 0) e1).trans (by simp)
    have hs : W.heap.size = w.heap.size := by rw [← hW]; simp [World.setCell]
    have m2 : Mod NoB W ((W.alloc (.cells #[] 67)).alloc (.cells #[.int .i64 8, .int .i64 (at_ : Int)] 56)) := ((Mod.refl _ _).alloc _).alloc _
    refine ⟨m2.obj (fun x => x) oP, ⟨w.heap.size + 1, m2.obj (fun x => x) oE, ?_, by omega⟩, mW.then m2 (fun _ x => x.elim)⟩
    have : (W.alloc (.cells #[] 67)).heap.size = w.heap.size + 1 := by simp [hs]
    rw [← this]
    exact heap_alloc_new _ _
  · rintro e a w' ⟨he, hd, hg⟩
    rcases he with rfl | rfl
    all_goals exact ⟨hd, _, rfl, _, results_none rfl _ _ _, rfl, rfl, hg⟩
end Go.Proofs.YtddfdpbaiedcjaaDoor
