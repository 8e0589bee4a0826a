/- plain.Told, plain.number: an error as a number and a place. -/
import Derived.Test.YtddfdpbaiedcjaaDoorErr3
namespace Go.Proofs.YtddfdpbaiedcjaaDoor
open Go.RowKit

def OnlyB (b : Nat) : Nat → Prop := fun k => k = b

theorem as_ff (e : Addr) (tb : Nat) (old : Value) (w : World) (hg : ErrT w) (ht : w.cell? ⟨tb, 0, none⟩ = some old) (hf : w.frozen? ⟨tb, 0, none⟩ = false) :
    Calls Tryd.prog 15 #[.iface 51 (.pointer (some e)), .iface 53 (.pointer (some ⟨tb, 0, none⟩))] w fun ev w' => ev = .returned (.bool true) ∧ Mod (OnlyB tb) w w' ∧ w'.cell? ⟨tb, 0, none⟩ = some (.pointer (some e)) := by
  refine (as_FF e ⟨tb, 0, none⟩ old w hg ht hf).mono ?_
  rintro ev w' ⟨rfl, rfl⟩
  have hl := lt_of_cell ht
  refine ⟨rfl, (((((Mod.refl (OnlyB tb) w).alloc _).alloc _).alloc _).alloc _).setCell (p := ⟨tb, 0, none⟩) (.inl rfl) _, World.cell?_setCell_same _ _ _ ((((((Mod.refl NoB w).alloc _).alloc _).alloc _).alloc _).cell (a := ⟨tb, 0, none⟩) (fun x => x) ht)⟩

theorem as_ee (n : Int) (tb : Nat) (old : Value) (w : World) (hg : ErrT w) (ht : w.cell? ⟨tb, 0, none⟩ = some old) (hf : w.frozen? ⟨tb, 0, none⟩ = false) :
    Calls Tryd.prog 15 #[.iface 30 (.int .i64 n), .iface 57 (.pointer (some ⟨tb, 0, none⟩))] w fun ev w' => ev = .returned (.bool true) ∧ Mod (OnlyB tb) w w' ∧ w'.cell? ⟨tb, 0, none⟩ = some (.int .i64 n) := by
  refine (as_EE n ⟨tb, 0, none⟩ old w hg ht hf).mono ?_
  rintro ev w' ⟨rfl, rfl⟩
  refine ⟨rfl, (((((Mod.refl (OnlyB tb) w).alloc _).alloc _).alloc _).alloc _).setCell (p := ⟨tb, 0, none⟩) (.inl rfl) _, World.cell?_setCell_same _ _ _ ((((((Mod.refl NoB w).alloc _).alloc _).alloc _).alloc _).cell (a := ⟨tb, 0, none⟩) (fun x => x) ht)⟩

theorem as_ef (n : Int) (tb : Nat) (old : Value) (w : World) (hg : ErrT w) (ht : w.cell? ⟨tb, 0, none⟩ = some old) :
    Calls Tryd.prog 15 #[.iface 30 (.int .i64 n), .iface 53 (.pointer (some ⟨tb, 0, none⟩))] w fun ev w' => ev = .returned (.bool false) ∧ Mod NoB w w' := by
  refine (as_EF n ⟨tb, 0, none⟩ old w hg ht).mono ?_
  rintro ev w' ⟨rfl, rfl⟩
  exact ⟨rfl, (((Mod.refl NoB w).alloc _).alloc _).alloc _⟩

theorem ErrT.mod {S : Nat → Prop} {w w' : World} (h : ErrT w) (m : Mod S w w') (hs : ¬ S 0) : ErrT w' := m.cell (a := ⟨0, 0, none⟩) hs h

def IsTold (w : World) (n at_ : Int) (e : Ending) (w' : World) : Prop := e = .returned (.tuple #[.int .i64 n, .int .i64 at_]) ∧ Mod NoB w w'

theorem told_nil (w : World) : Calls Tryd.prog 12 #[.nilIface] w (IsTold w 0 (-1)) := by
  go_enter Tryd.func12, Tryd.ntmps12
  go_wp2_with fail
  go_ret2
  exact ⟨rfl, ((Mod.refl _ _).alloc _).alloc _⟩

theorem eq_nil_E (n : Int) (w : World) : (binOp .eql 40 (.iface 30 (.int .i64 n)) .nilIface).run Tryd.prog w = .ok (.bool false) w := by kernel_rfl
theorem eq_nil_F (p : Addr) (w : World) : (binOp .eql 40 (.iface 51 (.pointer (some p))) .nilIface).run Tryd.prog w = .ok (.bool false) w := by kernel_rfl

/-- Told's two variables. -/
structure ToldAt (w W : World) : Prop where
  o0 : W.heap[w.heap.size]? = some (.cells #[.pointer none] 51 (0, 0))
  o1 : W.heap[w.heap.size + 1]? = some (.cells #[.int .i64 0] 30 (0, 0))
  m : Mod NoB w W

theorem told_start (w : World) : ToldAt w ((w.alloc (.cells #[.pointer none] 51)).alloc (.cells #[.int .i64 0] 30)) := by
  have e1 : (w.alloc (.cells #[.pointer none] 51)).heap.size = w.heap.size + 1 := by simp
  refine ⟨((Mod.refl NoB _).alloc _).obj (fun x => x) (heap_alloc_new w _), ?_, ((Mod.refl NoB w).alloc _).alloc _⟩
  rw [← e1]
  exact heap_alloc_new _ _

set_option maxRecDepth 100000 in
theorem told_E (n : Int) (w : World) (hg : ErrT w) : Calls Tryd.prog 12 #[.iface 30 (.int .i64 n)] w (IsTold w n (-1)) := by
  have q0 := eq_nil_E n
  have T0 := told_start w
  obtain ⟨W, hW⟩ : ∃ W, (w.alloc (.cells #[.pointer none] 51)).alloc (.cells #[.int .i64 0] 30) = W := ⟨_, rfl⟩
  rw [hW] at T0
  have hs : W.heap.size = w.heap.size + 1 + 1 := by rw [← hW]; simp
  have h0 : 0 < w.heap.size := lt_of_cell hg
  have gW : ErrT W := hg.mod T0.m (fun x => x)
  have k1 := as_ef n w.heap.size _ W gW (cell_of_obj T0.o0 rfl)
  have HT := hide T0
  have HG := hide gW
  have HW := hide hW
  have HS := hide hs
  clear T0 gW hW hs hg
  go_enter Tryd.func12, Tryd.ntmps12
  go_wp2_with fail
  rw [HW.out]
  refine k1.mono ?_
  rintro e w1 ⟨rfl, m1⟩
  have k2 := as_ee n (w.heap.size + 1) _ w1 (HG.out.mod m1 (fun x => x)) (cell_of_obj (m1.obj (fun x => x) HT.out.o1) rfl) (frozen_of_obj (m1.obj (fun x => x) HT.out.o1))
  clear k1
  have M1 := hide m1
  clear m1
  go_wp2_with fail
  refine k2.mono ?_
  rintro e w2 ⟨rfl, m2, c2⟩
  have k3 := is_EE n w2
  have M2 := hide m2
  clear m2 k2
  go_wp2_with fail
  refine k3.mono ?_
  rintro e w3 ⟨rfl, rfl⟩
  go_wp2_with fail
  go_ret2
  exact ⟨rfl, (HT.out.m.trans M1.out).then M2.out (fun k hk => by unfold OnlyB at hk; omega)⟩

set_option maxRecDepth 100000 in
theorem told_F (p : Nat) (n at_ : Int) (w : World) (hg : ErrT w) (hp : w.cell? ⟨p, 0, none⟩ = some (.int .i64 n)) (hp1 : w.cell? ⟨p, 1, none⟩ = some (.int .i64 at_)) : Calls Tryd.prog 12 #[.iface 51 (.pointer (some ⟨p, 0, none⟩))] w (IsTold w n at_) := by
  have q0 := eq_nil_F ⟨p, 0, none⟩
  have T0 := told_start w
  obtain ⟨W, hW⟩ : ∃ W, (w.alloc (.cells #[.pointer none] 51)).alloc (.cells #[.int .i64 0] 30) = W := ⟨_, rfl⟩
  rw [hW] at T0
  have hpl := lt_of_cell hp
  have h0 : 0 < w.heap.size := lt_of_cell hg
  have gW : ErrT W := hg.mod T0.m (fun x => x)
  have k1 := as_ff ⟨p, 0, none⟩ w.heap.size _ W gW (cell_of_obj T0.o0 rfl) (frozen_of_obj T0.o0)
  have p0 : W.cell? ⟨p, 0, none⟩ = some (.int .i64 n) := T0.m.cell (a := ⟨p, 0, none⟩) (fun x => x) hp
  have p1 : W.cell? ⟨p, 1, none⟩ = some (.int .i64 at_) := T0.m.cell (a := ⟨p, 1, none⟩) (fun x => x) hp1
  have HT := hide T0
  have HW := hide hW
  clear T0 gW hW hg
  go_enter Tryd.func12, Tryd.ntmps12
  go_wp2_with fail
  rw [HW.out]
  refine k1.mono ?_
  rintro e w1 ⟨rfl, m1, c1⟩
  have hne : ¬ OnlyB w.heap.size p := by unfold OnlyB; omega
  have r0 := m1.cell (a := ⟨p, 0, none⟩) hne p0
  have r1 := m1.cell (a := ⟨p, 1, none⟩) hne p1
  have k3 := is_FE p n w1 r0
  have M1 := hide m1
  clear m1 k1 p0 p1 hp hp1
  go_wp2_with fail
  refine k3.mono ?_
  rintro e w3 ⟨rfl, rfl⟩
  clear k3
  go_wp2_with fail
  go_quiet (fail)
  go_wp2_with fail
  go_ret2
  exact ⟨rfl, (HT.out.m.then M1.out (fun k hk => by unfold OnlyB at hk; omega)).drewN _⟩

def IsNumber (w : World) (n : Int) (e : Ending) (w' : World) : Prop := e = .returned (.int .i64 n) ∧ Mod NoB w w'

theorem number_of (v : Value) (n at_ : Int) (w : World) (h : Calls Tryd.prog 12 #[v] w (IsTold w n at_)) : Calls Tryd.prog 10 #[v] w (IsNumber w n) := by
  go_enter Tryd.func10, Tryd.ntmps10
  go_wp2_with fail
  refine h.mono ?_
  rintro e w1 ⟨rfl, m1⟩
  go_wp2_with fail
  go_ret
  exact ⟨rfl, m1⟩
end Go.Proofs.YtddfdpbaiedcjaaDoor
