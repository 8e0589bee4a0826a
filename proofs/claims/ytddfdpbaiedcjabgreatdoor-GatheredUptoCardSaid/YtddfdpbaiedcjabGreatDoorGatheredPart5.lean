/- The statement Gathered, second form, its card: where what the law reads is of bulk at most 1048576, and the two listed variables read as listed, it returns true, and its argument reads behind the call as before. Part 5 of 23. -/
import Derived.Test.YtddfdpbaiedcjabGreatDoorGatheredPart4
import Derived.Test.YtddfdpbaiedcjabGreatDoorGatheredPart2
import Derived.RegionTactic
import Derived.BigRegion
/- Frames in memory; how each kind is written. -/
namespace Go.Proofs.YtddfdpbaiedcjabGreatDoor
open Go.RowKit

structure Frm where
  kind : Int
  stream : Int
  off : Nat
  rel : Nat
  lim : Nat
  fin : Bool
  id : Nat
  dl : Nat
  data : List UInt8
  rngs : Rngs

def frCells (f : Frm) (rv : Value) : Array Value :=
  #[.int .i64 f.kind, .int .i64 f.stream, .int .u64 (f.off : Int), .int .u64 (f.rel : Int), .int .u64 (f.lim : Int), .bool f.fin, .int .u64 (f.id : Int), .int .u64 (f.dl : Int), .string (strOf f.data), rv]

/-- A frame is the block. -/
def FrameAt (w : World) (b : Nat) (f : Frm) (rv : Value) : Prop := w.heap[b]? = some (.cells (frCells f rv) 48 (0, 0))

theorem FrameAt.cell {w : World} {b : Nat} {f : Frm} {rv : Value} (h : FrameAt w b f rv) {i : Nat} {v : Value} (hv : (frCells f rv)[i]? = some v) : w.cell? ⟨b, i, none⟩ = some v := cell_of_obj h hv

theorem FrameAt.mod {S : Nat → Prop} {w w' : World} {b : Nat} {f : Frm} {rv : Value} (h : FrameAt w b f rv) (m : Mod S w w') (hs : ¬ S b) : FrameAt w' b f rv := m.obj hs h

theorem App.mod {w w' : World} {v v' : Value} {l new : List UInt8} (h : App w v l new v' w') : Mod (fun k => v.ownBlock = some k) w w' := (Mod.refl _ w).grown h.grown (fun k hk => .inl hk)

/-- A frame's block is no row of bytes. -/
theorem OB.apart {w : World} {v : Value} {l : List UInt8} {b : Nat} {f : Frm} {rv : Value} (h : OB w v l) (hf : FrameAt w b f rv) : ¬ v.ownBlock = some b := by
  intro hb
  rcases h.2 with ⟨rfl, _⟩ | ⟨g, cap, cur, rfl, _, hg, _⟩
  · cases hb
  · simp [Value.ownBlock] at hb
    subst hb
    unfold FrameAt at hf
    rw [hg] at hf
    simp at hf

theorem FrameAt.app {w w' : World} {v v' : Value} {l new : List UInt8} {b : Nat} {f : Frm} {rv : Value} (hf : FrameAt w b f rv) (h : OB w v l) (ha : App w v l new v' w') : FrameAt w' b f rv :=
  hf.mod ha.mod (h.apart hf)

theorem lit1_app (w : World) (v : Value) (l : List UInt8) (t : UInt8) (z : Int) (h : OB w v l) (hz : z = (t.toNat : Int)) (hl : l.length ≤ 70368744177664) :
    ∃ v' w', (∀ ty, (Builtin.append_ #[44, 44] ty #[v, .slice (some ⟨w.heap.size, 0, none⟩) 1 1]).run Tryz.prog (w.alloc (.cells #[.int .u8 z] 5)) = .ok v' w') ∧ App w v l [t] v' w' :=
  lit_app w v l [t] #[.int .u8 z] 1 h (by simp [bcells, hz]) rfl (by omega)

theorem FrameAt.cells {w : World} {b : Nat} {f : Frm} {rv : Value} (h : FrameAt w b f rv) :
    w.cell? ⟨b, 0, none⟩ = some (.int .i64 f.kind) ∧ w.cell? ⟨b, 1, none⟩ = some (.int .i64 f.stream) ∧ w.cell? ⟨b, 2, none⟩ = some (.int .u64 (f.off : Int)) ∧ w.cell? ⟨b, 3, none⟩ = some (.int .u64 (f.rel : Int)) ∧ w.cell? ⟨b, 4, none⟩ = some (.int .u64 (f.lim : Int)) ∧
    w.cell? ⟨b, 5, none⟩ = some (.bool f.fin) ∧ w.cell? ⟨b, 6, none⟩ = some (.int .u64 (f.id : Int)) ∧ w.cell? ⟨b, 7, none⟩ = some (.int .u64 (f.dl : Int)) ∧ w.cell? ⟨b, 8, none⟩ = some (.string (strOf f.data)) ∧ w.cell? ⟨b, 9, none⟩ = some rv :=
  ⟨h.cell rfl, h.cell rfl, h.cell rfl, h.cell rfl, h.cell rfl, h.cell rfl, h.cell rfl, h.cell rfl, h.cell rfl, h.cell rfl⟩

theorem App.drew {w w' : World} {v v' : Value} {l new : List UInt8} (h : App w.drew v l new v' w') : App w v l new v' w' :=
  ⟨h.own, h.old, ⟨h.grown.os, h.grown.tape, h.grown.output, h.grown.size, h.grown.block⟩, h.at_⟩

theorem varint_int (v : Value) (l : List UInt8) (z : Int) (w : World) (h : OB w v l) (hl : l.length ≤ 70368744177664) (h0 : 0 ≤ z) (hn : z < 4611686018427387904) :
    Calls Tryz.prog 84 #[v, .int .u64 z] w fun e w' => ∃ v', e = .returned v' ∧ App w v l (vint z.toNat) v' w' := by
  have := varint_any v l z.toNat w h hl (by omega)
  rwa [Int.toNat_of_nonneg h0] at this

/-- A frame whose numbers can be written. -/
structure Frm.Bounds (f : Frm) : Prop where
  s0 : 0 ≤ f.stream
  s8 : f.stream < 8
  bo : f.off < 4611686018427387904
  br : f.rel < 4611686018427387904
  bl : f.lim < 4611686018427387904
  bi : f.id < 4611686018427387904
  bd : f.dl < 4611686018427387904
  bt : f.data.length ≤ 35184372088832

/-- What a codec of one number has captured: its first byte, and where the number lies. -/
def CapAt (w : World) (tb ab : Nat) (t : UInt8) : Prop := w.cell? ⟨tb, 0, none⟩ = some (.int .u8 (t.toNat : Int)) ∧ w.cell? ⟨ab, 0, none⟩ = some (.func (.func 184) #[] #[])

theorem CapAt.mod {S : Nat → Prop} {w w' : World} {tb ab : Nat} {t : UInt8} (h : CapAt w tb ab t) (m : Mod S w w') (h1 : ¬ S tb) (h2 : ¬ S ab) : CapAt w' tb ab t := ⟨m.cell (a := ⟨tb, 0, none⟩) h1 h.1, m.cell (a := ⟨ab, 0, none⟩) h2 h.2⟩
theorem CapAt.app {w w' : World} {v v' : Value} {l new : List UInt8} {tb ab : Nat} {t : UInt8} (h : CapAt w tb ab t) (h1 : ¬ v.ownBlock = some tb) (h2 : ¬ v.ownBlock = some ab) (a : App w v l new v' w') : CapAt w' tb ab t := h.mod a.mod h1 h2

theorem limit_any (b : Nat) (w : World) : Calls Tryz.prog 184 #[.pointer (some ⟨b, 0, none⟩)] w fun e w' => e = .returned (.pointer (some ⟨b, 4, none⟩)) ∧ w = w' := by
  go_enter Tryz.func184, Tryz.ntmps184
  go_wp2_with fail
  go_ret
  exact ⟨rfl, rfl⟩

/-- It answers with a slice that owns what was there and these bytes. -/
def Apps (w : World) (v : Value) (l new : List UInt8) (e : Ending) (w' : World) : Prop := ∃ v', e = .returned v' ∧ App w v l new v' w'

-- WRITERS (by mkframe.py)
def bwrite6 (f : Frm) : List UInt8 := [17] ++ vint f.stream.toNat ++ vint f.lim
set_option maxHeartbeats 400000 in
theorem write6 (v : Value) (l : List UInt8) (b : Nat) (f : Frm) (rv : Value) (w : World) (hf : FrameAt w b f rv) (h : OB w v l) (hl : l.length ≤ 35184372088832) (hb : f.Bounds) :
    Calls Tryz.prog 185 #[v, .pointer (some ⟨b, 0, none⟩)] w (Apps w v l (bwrite6 f)) := by
  obtain ⟨s0, s8, bo, br, bl, bi, bd, bt⟩ := hb
  have hwr : IntKind.u64.wrap f.stream = f.stream := by rw [IntKind.wrap_u64]; omega
  obtain ⟨v1, w1, hr1, A1⟩ := lit1_app w.drew v l 17 17 h rfl (by omega)
  have F1 := FrameAt.app (w := w.drew) hf h A1
  have L1 : (l ++ [(17 : UInt8)]).length ≤ 35184372088832 + 1 := by simp; omega
  go_enter Tryz.func185, Tryz.ntmps185
  go_wp2_with fail
  refine GT_start 15 (fun w' => FrameAt w' b f rv) (by kernel_rfl) (by kernel_rfl) (hf) ?_
  refine GT_take (i := 0) (v := ?_) rfl (by kernel_rfl) (fun _ _ _ h => h) (Or.inl ⟨by rfl, ?_⟩) ?_
  rotate_left
  · (intro wx hFx; (try dsimp only at hFx); have hc := hFx.cells; clear hFx; obtain ⟨c0, c1, c2, c3, c4, c5, c6, c7, c8, c9⟩ := hc; go_simp) <;> (try with_reducible rfl)
  try simp only [Act.put, List.setIfInBounds_toArray, List.set_cons_zero, List.set_cons_succ, List.getElem_toArray, List.getElem_cons_zero, List.getElem_cons_succ]
  refine GT_take (i := 3) (v := ?_) rfl (by kernel_rfl) (fun _ _ _ h => h) (Or.inl ⟨by rfl, ?_⟩) ?_
  rotate_left
  · (intro wx hFx; (try dsimp only at hFx); have hc := hFx.cells; clear hFx; obtain ⟨c0, c1, c2, c3, c4, c5, c6, c7, c8, c9⟩ := hc; go_simp) <;> (try with_reducible rfl)
  try simp only [Act.put, List.setIfInBounds_toArray, List.set_cons_zero, List.set_cons_succ, List.getElem_toArray, List.getElem_cons_zero, List.getElem_cons_succ]
  refine GT_take (i := 4) (v := ?_) rfl (by kernel_rfl) (fun _ _ _ h => h) (Or.inl ⟨by rfl, ?_⟩) ?_
  rotate_left
  · (intro wx hFx; (try dsimp only at hFx); have hc := hFx.cells; clear hFx; obtain ⟨c0, c1, c2, c3, c4, c5, c6, c7, c8, c9⟩ := hc; go_simp) <;> (try with_reducible rfl)
  try simp only [Act.put, List.setIfInBounds_toArray, List.set_cons_zero, List.set_cons_succ, List.getElem_toArray, List.getElem_cons_zero, List.getElem_cons_succ]
  refine GT_take (i := 5) (v := ?_) rfl (by kernel_rfl) (fun _ _ _ h => h) (Or.inl ⟨by rfl, ?_⟩) ?_
  rotate_left
  · (intro wx hFx; (try dsimp only at hFx); have hc := hFx.cells; clear hFx; obtain ⟨c0, c1, c2, c3, c4, c5, c6, c7, c8, c9⟩ := hc; go_simp) <;> (try with_reducible rfl)
  try simp only [Act.put, List.setIfInBounds_toArray, List.set_cons_zero, List.set_cons_succ, List.getElem_toArray, List.getElem_cons_zero, List.getElem_cons_succ]
  refine GT_take (i := 6) (v := ?_) rfl (by kernel_rfl) (fun _ _ _ h => h) (Or.inl ⟨by rfl, ?_⟩) ?_
  rotate_left
  · (intro wx hFx; (try dsimp only at hFx); have hc := hFx.cells; clear hFx; obtain ⟨c0, c1, c2, c3, c4, c5, c6, c7, c8, c9⟩ := hc; go_simp) <;> (try with_reducible rfl)
  try simp only [Act.put, List.setIfInBounds_toArray, List.set_cons_zero, List.set_cons_succ, List.getElem_toArray, List.getElem_cons_zero, List.getElem_cons_succ]
  refine GT_take (i := 7) (v := ?_) rfl (by kernel_rfl) (fun _ _ _ h => h) (Or.inl ⟨by rfl, ?_⟩) ?_
  rotate_left
  · (intro wx hFx; (try dsimp only at hFx); have hc := hFx.cells; clear hFx; obtain ⟨c0, c1, c2, c3, c4, c5, c6, c7, c8, c9⟩ := hc; go_simp) <;> (try with_reducible rfl)
  try simp only [Act.put, List.setIfInBounds_toArray, List.set_cons_zero, List.set_cons_succ, List.getElem_toArray, List.getElem_cons_zero, List.getElem_cons_succ]
  refine GT_take (i := 9) (v := ?_) rfl (by kernel_rfl) (fun _ _ _ h => h) (Or.inl ⟨by rfl, ?_⟩) ?_
  rotate_left
  · (intro wx hFx; (try dsimp only at hFx); have hc := hFx.cells; clear hFx; obtain ⟨c0, c1, c2, c3, c4, c5, c6, c7, c8, c9⟩ := hc; go_simp) <;> (try with_reducible rfl)
  try simp only [Act.put, List.setIfInBounds_toArray, List.set_cons_zero, List.set_cons_succ, List.getElem_toArray, List.getElem_cons_zero, List.getElem_cons_succ]
  refine GT_take (i := 10) (v := ?_) rfl (by kernel_rfl) (fun _ _ _ h => h) (Or.inl ⟨by rfl, ?_⟩) ?_
  rotate_left
  · (intro wx hFx; (try dsimp only at hFx); have hc := hFx.cells; clear hFx; obtain ⟨c0, c1, c2, c3, c4, c5, c6, c7, c8, c9⟩ := hc; go_simp) <;> (try with_reducible rfl)
  try simp only [Act.put, List.setIfInBounds_toArray, List.set_cons_zero, List.set_cons_succ, List.getElem_toArray, List.getElem_cons_zero, List.getElem_cons_succ]
  refine GT_take (i := 11) (v := ?_) rfl (by kernel_rfl) (fun _ _ _ h => h) (Or.inl ⟨by rfl, ?_⟩) ?_
  rotate_left
  · (intro wx hFx; (try dsimp only at hFx); have hc := hFx.cells; clear hFx; obtain ⟨c0, c1, c2, c3, c4, c5, c6, c7, c8, c9⟩ := hc; go_simp) <;> (try with_reducible rfl)
  try simp only [Act.put, List.setIfInBounds_toArray, List.set_cons_zero, List.set_cons_succ, List.getElem_toArray, List.getElem_cons_zero, List.getElem_cons_succ]
  refine GT_take (i := 12) (v := ?_) rfl (by kernel_rfl) (fun _ _ _ h => h) (Or.inl ⟨by rfl, ?_⟩) ?_
  rotate_left
  · (intro wx hFx; (try dsimp only at hFx); have hc := hFx.cells; clear hFx; obtain ⟨c0, c1, c2, c3, c4, c5, c6, c7, c8, c9⟩ := hc; go_simp) <;> (try with_reducible rfl)
  try simp only [Act.put, List.setIfInBounds_toArray, List.set_cons_zero, List.set_cons_succ, List.getElem_toArray, List.getElem_cons_zero, List.getElem_cons_succ]
  refine GT_one (i := 1) rfl (by kernel_rfl) (fun K hK => ?_)
  go_simp
  refine hK.out _ _ ?_ ?_
  · exact FrameAt.mod (w := w.drew) (S := NoB) hf ((Mod.refl _ _).alloc _) (fun x => x)
  clear hK K
  try simp only [Act.put, List.setIfInBounds_toArray, List.set_cons_zero, List.set_cons_succ, List.getElem_toArray, List.getElem_cons_zero, List.getElem_cons_succ]
  refine GT_one (i := 2) rfl (by kernel_rfl) (fun K hK => ?_)
  refine step_append_is rfl _ _ _ _ rfl _ _ _ rfl rfl hr1 ?_
  refine hK.out _ _ F1 ?_
  clear hK K
  try simp only [Act.put, List.setIfInBounds_toArray, List.set_cons_zero, List.set_cons_succ, List.getElem_toArray, List.getElem_cons_zero, List.getElem_cons_succ]
  refine GT_one (i := 8) rfl (by kernel_rfl) (fun K hK => ?_)
  go_simp
  refine (varint_int v1 (l ++ ([17])) (f.stream) w1 A1.own (by omega) (by omega) (by omega)).mono ?_
  rintro e w2 ⟨v2, rfl, ap⟩
  have F2 := F1.app A1.own ap
  have A2 := A1.trans ap
  have L2 : (l ++ ([17] ++ vint f.stream.toNat)).length ≤ 35184372088832 + 9 := by have := vint_length (f.stream.toNat); simp at this L1 ⊢; omega
  refine hK.out _ _ F2 ?_
  clear ap
  clear hK K
  try simp only [Act.put, List.setIfInBounds_toArray, List.set_cons_zero, List.set_cons_succ, List.getElem_toArray, List.getElem_cons_zero, List.getElem_cons_succ]
  refine GT_one (i := 13) rfl (by kernel_rfl) (fun K hK => ?_)
  go_simp
  refine (varint_any v2 (l ++ ([17] ++ vint f.stream.toNat)) (f.lim) w2 A2.own (by omega) (by omega)).mono ?_
  rintro e w3 ⟨v3, rfl, ap⟩
  have F3 := F2.app A2.own ap
  have A3 := A2.trans ap
  have L3 : (l ++ ([17] ++ vint f.stream.toNat ++ vint f.lim)).length ≤ 35184372088832 + 17 := by have := vint_length (f.lim); simp at this L2 ⊢; omega
  refine hK.out _ _ F3 ?_
  clear ap
  clear hK K
  try simp only [Act.put, List.setIfInBounds_toArray, List.set_cons_zero, List.set_cons_succ, List.getElem_toArray, List.getElem_cons_zero, List.getElem_cons_succ]
  refine GT_take (i := 14) (v := ?_) rfl (by kernel_rfl) (fun _ _ _ h => h) (Or.inl ⟨by rfl, ?_⟩) ?_
  rotate_left
  · (intro wx hFx; (try dsimp only at hFx); have hc := hFx.cells; clear hFx; obtain ⟨c0, c1, c2, c3, c4, c5, c6, c7, c8, c9⟩ := hc; go_simp) <;> (try with_reducible rfl)
  try simp only [Act.put, List.setIfInBounds_toArray, List.set_cons_zero, List.set_cons_succ, List.getElem_toArray, List.getElem_cons_zero, List.getElem_cons_succ]
  refine GT_done (by kernel_rfl) ?_
  go_wp2_with fail
  go_ret
  exact ⟨_, rfl, A3.drew⟩

def bwrite3 (f : Frm) : List UInt8 := [36] ++ vint f.stream.toNat ++ vint f.off ++ vint f.rel
set_option maxHeartbeats 400000 in
theorem write3 (v : Value) (l : List UInt8) (b : Nat) (f : Frm) (rv : Value) (w : World) (hf : FrameAt w b f rv) (h : OB w v l) (hl : l.length ≤ 35184372088832) (hb : f.Bounds) :
    Calls Tryz.prog 174 #[v, .pointer (some ⟨b, 0, none⟩)] w (Apps w v l (bwrite3 f)) := by
  obtain ⟨s0, s8, bo, br, bl, bi, bd, bt⟩ := hb
  have hwr : IntKind.u64.wrap f.stream = f.stream := by rw [IntKind.wrap_u64]; omega
  obtain ⟨v1, w1, hr1, A1⟩ := lit1_app w.drew v l 36 36 h rfl (by omega)
  have F1 := FrameAt.app (w := w.drew) hf h A1
  have L1 : (l ++ [(36 : UInt8)]).length ≤ 35184372088832 + 1 := by simp; omega
  go_enter Tryz.func174, Tryz.ntmps174
  go_wp2_with fail
  refine GT_start 20 (fun w' => FrameAt w' b f rv) (by kernel_rfl) (by kernel_rfl) (hf) ?_
  refine GT_take (i := 0) (v := ?_) rfl (by kernel_rfl) (fun _ _ _ h => h) (Or.inl ⟨by rfl, ?_⟩) ?_
  rotate_left
  · (intro wx hFx; (try dsimp only at hFx); have hc := hFx.cells; clear hFx; obtain ⟨c0, c1, c2, c3, c4, c5, c6, c7, c8, c9⟩ := hc; go_simp) <;> (try with_reducible rfl)
  try simp only [Act.put, List.setIfInBounds_toArray, List.set_cons_zero, List.set_cons_succ, List.getElem_toArray, List.getElem_cons_zero, List.getElem_cons_succ]
  refine GT_take (i := 3) (v := ?_) rfl (by kernel_rfl) (fun _ _ _ h => h) (Or.inl ⟨by rfl, ?_⟩) ?_
  rotate_left
  · (intro wx hFx; (try dsimp only at hFx); have hc := hFx.cells; clear hFx; obtain ⟨c0, c1, c2, c3, c4, c5, c6, c7, c8, c9⟩ := hc; go_simp) <;> (try with_reducible rfl)
  try simp only [Act.put, List.setIfInBounds_toArray, List.set_cons_zero, List.set_cons_succ, List.getElem_toArray, List.getElem_cons_zero, List.getElem_cons_succ]
  refine GT_take (i := 4) (v := ?_) rfl (by kernel_rfl) (fun _ _ _ h => h) (Or.inl ⟨by rfl, ?_⟩) ?_
  rotate_left
  · (intro wx hFx; (try dsimp only at hFx); have hc := hFx.cells; clear hFx; obtain ⟨c0, c1, c2, c3, c4, c5, c6, c7, c8, c9⟩ := hc; go_simp) <;> (try with_reducible rfl)
  try simp only [Act.put, List.setIfInBounds_toArray, List.set_cons_zero, List.set_cons_succ, List.getElem_toArray, List.getElem_cons_zero, List.getElem_cons_succ]
  refine GT_take (i := 5) (v := ?_) rfl (by kernel_rfl) (fun _ _ _ h => h) (Or.inl ⟨by rfl, ?_⟩) ?_
  rotate_left
  · (intro wx hFx; (try dsimp only at hFx); have hc := hFx.cells; clear hFx; obtain ⟨c0, c1, c2, c3, c4, c5, c6, c7, c8, c9⟩ := hc; go_simp) <;> (try with_reducible rfl)
  try simp only [Act.put, List.setIfInBounds_toArray, List.set_cons_zero, List.set_cons_succ, List.getElem_toArray, List.getElem_cons_zero, List.getElem_cons_succ]
  refine GT_take (i := 6) (v := ?_) rfl (by kernel_rfl) (fun _ _ _ h => h) (Or.inl ⟨by rfl, ?_⟩) ?_
  rotate_left
  · (intro wx hFx; (try dsimp only at hFx); have hc := hFx.cells; clear hFx; obtain ⟨c0, c1, c2, c3, c4, c5, c6, c7, c8, c9⟩ := hc; go_simp) <;> (try with_reducible rfl)
  try simp only [Act.put, List.setIfInBounds_toArray, List.set_cons_zero, List.set_cons_succ, List.getElem_toArray, List.getElem_cons_zero, List.getElem_cons_succ]
  refine GT_take (i := 7) (v := ?_) rfl (by kernel_rfl) (fun _ _ _ h => h) (Or.inl ⟨by rfl, ?_⟩) ?_
  rotate_left
  · (intro wx hFx; (try dsimp only at hFx); have hc := hFx.cells; clear hFx; obtain ⟨c0, c1, c2, c3, c4, c5, c6, c7, c8, c9⟩ := hc; go_simp) <;> (try with_reducible rfl)
  try simp only [Act.put, List.setIfInBounds_toArray, List.set_cons_zero, List.set_cons_succ, List.getElem_toArray, List.getElem_cons_zero, List.getElem_cons_succ]
  refine GT_take (i := 9) (v := ?_) rfl (by kernel_rfl) (fun _ _ _ h => h) (Or.inl ⟨by rfl, ?_⟩) ?_
  rotate_left
  · (intro wx hFx; (try dsimp only at hFx); have hc := hFx.cells; clear hFx; obtain ⟨c0, c1, c2, c3, c4, c5, c6, c7, c8, c9⟩ := hc; go_simp) <;> (try with_reducible rfl)
  try simp only [Act.put, List.setIfInBounds_toArray, List.set_cons_zero, List.set_cons_succ, List.getElem_toArray, List.getElem_cons_zero, List.getElem_cons_succ]
  refine GT_take (i := 10) (v := ?_) rfl (by kernel_rfl) (fun _ _ _ h => h) (Or.inl ⟨by rfl, ?_⟩) ?_
  rotate_left
  · (intro wx hFx; (try dsimp only at hFx); have hc := hFx.cells; clear hFx; obtain ⟨c0, c1, c2, c3, c4, c5, c6, c7, c8, c9⟩ := hc; go_simp) <;> (try with_reducible rfl)
  try simp only [Act.put, List.setIfInBounds_toArray, List.set_cons_zero, List.set_cons_succ, List.getElem_toArray, List.getElem_cons_zero, List.getElem_cons_succ]
  refine GT_take (i := 11) (v := ?_) rfl (by kernel_rfl) (fun _ _ _ h => h) (Or.inl ⟨by rfl, ?_⟩) ?_
  rotate_left
  · (intro wx hFx; (try dsimp only at hFx); have hc := hFx.cells; clear hFx; obtain ⟨c0, c1, c2, c3, c4, c5, c6, c7, c8, c9⟩ := hc; go_simp) <;> (try with_reducible rfl)
  try simp only [Act.put, List.setIfInBounds_toArray, List.set_cons_zero, List.set_cons_succ, List.getElem_toArray, List.getElem_cons_zero, List.getElem_cons_succ]
  refine GT_take (i := 12) (v := ?_) rfl (by kernel_rfl) (fun _ _ _ h => h) (Or.inl ⟨by rfl, ?_⟩) ?_
  rotate_left
  · (intro wx hFx; (try dsimp only at hFx); have hc := hFx.cells; clear hFx; obtain ⟨c0, c1, c2, c3, c4, c5, c6, c7, c8, c9⟩ := hc; go_simp) <;> (try with_reducible rfl)
  try simp only [Act.put, List.setIfInBounds_toArray, List.set_cons_zero, List.set_cons_succ, List.getElem_toArray, List.getElem_cons_zero, List.getElem_cons_succ]
  refine GT_take (i := 14) (v := ?_) rfl (by kernel_rfl) (fun _ _ _ h => h) (Or.inl ⟨by rfl, ?_⟩) ?_
  rotate_left
  · (intro wx hFx; (try dsimp only at hFx); have hc := hFx.cells; clear hFx; obtain ⟨c0, c1, c2, c3, c4, c5, c6, c7, c8, c9⟩ := hc; go_simp) <;> (try with_reducible rfl)
  try simp only [Act.put, List.setIfInBounds_toArray, List.set_cons_zero, List.set_cons_succ, List.getElem_toArray, List.getElem_cons_zero, List.getElem_cons_succ]
  refine GT_take (i := 15) (v := ?_) rfl (by kernel_rfl) (fun _ _ _ h => h) (Or.inl ⟨by rfl, ?_⟩) ?_
  rotate_left
  · (intro wx hFx; (try dsimp only at hFx); have hc := hFx.cells; clear hFx; obtain ⟨c0, c1, c2, c3, c4, c5, c6, c7, c8, c9⟩ := hc; go_simp) <;> (try with_reducible rfl)
  try simp only [Act.put, List.setIfInBounds_toArray, List.set_cons_zero, List.set_cons_succ, List.getElem_toArray, List.getElem_cons_zero, List.getElem_cons_succ]
  refine GT_take (i := 16) (v := ?_) rfl (by kernel_rfl) (fun _ _ _ h => h) (Or.inl ⟨by rfl, ?_⟩) ?_
  rotate_left
  · (intro wx hFx; (try dsimp only at hFx); have hc := hFx.cells; clear hFx; obtain ⟨c0, c1, c2, c3, c4, c5, c6, c7, c8, c9⟩ := hc; go_simp) <;> (try with_reducible rfl)
  try simp only [Act.put, List.setIfInBounds_toArray, List.set_cons_zero, List.set_cons_succ, List.getElem_toArray, List.getElem_cons_zero, List.getElem_cons_succ]
  refine GT_take (i := 17) (v := ?_) rfl (by kernel_rfl) (fun _ _ _ h => h) (Or.inl ⟨by rfl, ?_⟩) ?_
  rotate_left
  · (intro wx hFx; (try dsimp only at hFx); have hc := hFx.cells; clear hFx; obtain ⟨c0, c1, c2, c3, c4, c5, c6, c7, c8, c9⟩ := hc; go_simp) <;> (try with_reducible rfl)
  try simp only [Act.put, List.setIfInBounds_toArray, List.set_cons_zero, List.set_cons_succ, List.getElem_toArray, List.getElem_cons_zero, List.getElem_cons_succ]
  refine GT_one (i := 1) rfl (by kernel_rfl) (fun K hK => ?_)
  go_simp
  refine hK.out _ _ ?_ ?_
  · exact FrameAt.mod (w := w.drew) (S := NoB) hf ((Mod.refl _ _).alloc _) (fun x => x)
  clear hK K
  try simp only [Act.put, List.setIfInBounds_toArray, List.set_cons_zero, List.set_cons_succ, List.getElem_toArray, List.getElem_cons_zero, List.getElem_cons_succ]
  refine GT_one (i := 2) rfl (by kernel_rfl) (fun K hK => ?_)
  refine step_append_is rfl _ _ _ _ rfl _ _ _ rfl rfl hr1 ?_
  refine hK.out _ _ F1 ?_
  clear hK K
  try simp only [Act.put, List.setIfInBounds_toArray, List.set_cons_zero, List.set_cons_succ, List.getElem_toArray, List.getElem_cons_zero, List.getElem_cons_succ]
  refine GT_one (i := 8) rfl (by kernel_rfl) (fun K hK => ?_)
  go_simp
  refine (varint_int v1 (l ++ ([36])) (f.stream) w1 A1.own (by omega) (by omega) (by omega)).mono ?_
  rintro e w2 ⟨v2, rfl, ap⟩
  have F2 := F1.app A1.own ap
  have A2 := A1.trans ap
  have L2 : (l ++ ([36] ++ vint f.stream.toNat)).length ≤ 35184372088832 + 9 := by have := vint_length (f.stream.toNat); simp at this L1 ⊢; omega
  refine hK.out _ _ F2 ?_
  clear ap
  clear hK K
  try simp only [Act.put, List.setIfInBounds_toArray, List.set_cons_zero, List.set_cons_succ, List.getElem_toArray, List.getElem_cons_zero, List.getElem_cons_succ]
  refine GT_one (i := 13) rfl (by kernel_rfl) (fun K hK => ?_)
  go_simp
  refine (varint_any v2 (l ++ ([36] ++ vint f.stream.toNat)) (f.off) w2 A2.own (by omega) (by omega)).mono ?_
  rintro e w3 ⟨v3, rfl, ap⟩
  have F3 := F2.app A2.own ap
  have A3 := A2.trans ap
  have L3 : (l ++ ([36] ++ vint f.stream.toNat ++ vint f.off)).length ≤ 35184372088832 + 17 := by have := vint_length (f.off); simp at this L2 ⊢; omega
  refine hK.out _ _ F3 ?_
  clear ap
  clear hK K
  try simp only [Act.put, List.setIfInBounds_toArray, List.set_cons_zero, List.set_cons_succ, List.getElem_toArray, List.getElem_cons_zero, List.getElem_cons_succ]
  refine GT_one (i := 18) rfl (by kernel_rfl) (fun K hK => ?_)
  go_simp
  refine (varint_any v3 (l ++ ([36] ++ vint f.stream.toNat ++ vint f.off)) (f.rel) w3 A3.own (by omega) (by omega)).mono ?_
  rintro e w4 ⟨v4, rfl, ap⟩
  have F4 := F3.app A3.own ap
  have A4 := A3.trans ap
  have L4 : (l ++ ([36] ++ vint f.stream.toNat ++ vint f.off ++ vint f.rel)).length ≤ 35184372088832 + 25 := by have := vint_length (f.rel); simp at this L3 ⊢; omega
  refine hK.out _ _ F4 ?_
  clear ap
  clear hK K
  try simp only [Act.put, List.setIfInBounds_toArray, List.set_cons_zero, List.set_cons_succ, List.getElem_toArray, List.getElem_cons_zero, List.getElem_cons_succ]
  refine GT_take (i := 19) (v := ?_) rfl (by kernel_rfl) (fun _ _ _ h => h) (Or.inl ⟨by rfl, ?_⟩) ?_
  rotate_left
  · (intro wx hFx; (try dsimp only at hFx); have hc := hFx.cells; clear hFx; obtain ⟨c0, c1, c2, c3, c4, c5, c6, c7, c8, c9⟩ := hc; go_simp) <;> (try with_reducible rfl)
  try simp only [Act.put, List.setIfInBounds_toArray, List.set_cons_zero, List.set_cons_succ, List.getElem_toArray, List.getElem_cons_zero, List.getElem_cons_succ]
  refine GT_done (by kernel_rfl) ?_
  go_wp2_with fail
  go_ret
  exact ⟨_, rfl, A4.drew⟩

def bwrite7 (f : Frm) : List UInt8 := [48] ++ vint f.id ++ vint f.dl ++ (vint f.data.length ++ f.data)
set_option maxHeartbeats 400000 in
theorem write7 (v : Value) (l : List UInt8) (b : Nat) (f : Frm) (rv : Value) (w : World) (hf : FrameAt w b f rv) (h : OB w v l) (hl : l.length ≤ 35184372088832) (hb : f.Bounds) :
    Calls Tryz.prog 187 #[v, .pointer (some ⟨b, 0, none⟩)] w (Apps w v l (bwrite7 f)) := by
  obtain ⟨s0, s8, bo, br, bl, bi, bd, bt⟩ := hb
  have hwr : IntKind.u64.wrap f.stream = f.stream := by rw [IntKind.wrap_u64]; omega
  obtain ⟨v1, w1, hr1, A1⟩ := lit1_app w.drew v l 48 48 h rfl (by omega)
  have F1 := FrameAt.app (w := w.drew) hf h A1
  have L1 : (l ++ [(48 : UInt8)]).length ≤ 35184372088832 + 1 := by simp; omega
  go_enter Tryz.func187, Tryz.ntmps187
  go_wp2_with fail
  refine GT_start 19 (fun w' => FrameAt w' b f rv) (by kernel_rfl) (by kernel_rfl) (hf) ?_
  refine GT_take (i := 0) (v := ?_) rfl (by kernel_rfl) (fun _ _ _ h => h) (Or.inl ⟨by rfl, ?_⟩) ?_
  rotate_left
  · (intro wx hFx; (try dsimp only at hFx); have hc := hFx.cells; clear hFx; obtain ⟨c0, c1, c2, c3, c4, c5, c6, c7, c8, c9⟩ := hc; go_simp) <;> (try with_reducible rfl)
  try simp only [Act.put, List.setIfInBounds_toArray, List.set_cons_zero, List.set_cons_succ, List.getElem_toArray, List.getElem_cons_zero, List.getElem_cons_succ]
  refine GT_take (i := 3) (v := ?_) rfl (by kernel_rfl) (fun _ _ _ h => h) (Or.inl ⟨by rfl, ?_⟩) ?_
  rotate_left
  · (intro wx hFx; (try dsimp only at hFx); have hc := hFx.cells; clear hFx; obtain ⟨c0, c1, c2, c3, c4, c5, c6, c7, c8, c9⟩ := hc; go_simp) <;> (try with_reducible rfl)
  try simp only [Act.put, List.setIfInBounds_toArray, List.set_cons_zero, List.set_cons_succ, List.getElem_toArray, List.getElem_cons_zero, List.getElem_cons_succ]
  refine GT_take (i := 4) (v := ?_) rfl (by kernel_rfl) (fun _ _ _ h => h) (Or.inl ⟨by rfl, ?_⟩) ?_
  rotate_left
  · (intro wx hFx; (try dsimp only at hFx); have hc := hFx.cells; clear hFx; obtain ⟨c0, c1, c2, c3, c4, c5, c6, c7, c8, c9⟩ := hc; go_simp) <;> (try with_reducible rfl)
  try simp only [Act.put, List.setIfInBounds_toArray, List.set_cons_zero, List.set_cons_succ, List.getElem_toArray, List.getElem_cons_zero, List.getElem_cons_succ]
  refine GT_take (i := 5) (v := ?_) rfl (by kernel_rfl) (fun _ _ _ h => h) (Or.inl ⟨by rfl, ?_⟩) ?_
  rotate_left
  · (intro wx hFx; (try dsimp only at hFx); have hc := hFx.cells; clear hFx; obtain ⟨c0, c1, c2, c3, c4, c5, c6, c7, c8, c9⟩ := hc; go_simp) <;> (try with_reducible rfl)
  try simp only [Act.put, List.setIfInBounds_toArray, List.set_cons_zero, List.set_cons_succ, List.getElem_toArray, List.getElem_cons_zero, List.getElem_cons_succ]
  refine GT_take (i := 6) (v := ?_) rfl (by kernel_rfl) (fun _ _ _ h => h) (Or.inl ⟨by rfl, ?_⟩) ?_
  rotate_left
  · (intro wx hFx; (try dsimp only at hFx); have hc := hFx.cells; clear hFx; obtain ⟨c0, c1, c2, c3, c4, c5, c6, c7, c8, c9⟩ := hc; go_simp) <;> (try with_reducible rfl)
  try simp only [Act.put, List.setIfInBounds_toArray, List.set_cons_zero, List.set_cons_succ, List.getElem_toArray, List.getElem_cons_zero, List.getElem_cons_succ]
  refine GT_take (i := 8) (v := ?_) rfl (by kernel_rfl) (fun _ _ _ h => h) (Or.inl ⟨by rfl, ?_⟩) ?_
  rotate_left
  · (intro wx hFx; (try dsimp only at hFx); have hc := hFx.cells; clear hFx; obtain ⟨c0, c1, c2, c3, c4, c5, c6, c7, c8, c9⟩ := hc; go_simp) <;> (try with_reducible rfl)
  try simp only [Act.put, List.setIfInBounds_toArray, List.set_cons_zero, List.set_cons_succ, List.getElem_toArray, List.getElem_cons_zero, List.getElem_cons_succ]
  refine GT_take (i := 9) (v := ?_) rfl (by kernel_rfl) (fun _ _ _ h => h) (Or.inl ⟨by rfl, ?_⟩) ?_
  rotate_left
  · (intro wx hFx; (try dsimp only at hFx); have hc := hFx.cells; clear hFx; obtain ⟨c0, c1, c2, c3, c4, c5, c6, c7, c8, c9⟩ := hc; go_simp) <;> (try with_reducible rfl)
  try simp only [Act.put, List.setIfInBounds_toArray, List.set_cons_zero, List.set_cons_succ, List.getElem_toArray, List.getElem_cons_zero, List.getElem_cons_succ]
  refine GT_take (i := 10) (v := ?_) rfl (by kernel_rfl) (fun _ _ _ h => h) (Or.inl ⟨by rfl, ?_⟩) ?_
  rotate_left
  · (intro wx hFx; (try dsimp only at hFx); have hc := hFx.cells; clear hFx; obtain ⟨c0, c1, c2, c3, c4, c5, c6, c7, c8, c9⟩ := hc; go_simp) <;> (try with_reducible rfl)
  try simp only [Act.put, List.setIfInBounds_toArray, List.set_cons_zero, List.set_cons_succ, List.getElem_toArray, List.getElem_cons_zero, List.getElem_cons_succ]
  refine GT_take (i := 11) (v := ?_) rfl (by kernel_rfl) (fun _ _ _ h => h) (Or.inl ⟨by rfl, ?_⟩) ?_
  rotate_left
  · (intro wx hFx; (try dsimp only at hFx); have hc := hFx.cells; clear hFx; obtain ⟨c0, c1, c2, c3, c4, c5, c6, c7, c8, c9⟩ := hc; go_simp) <;> (try with_reducible rfl)
  try simp only [Act.put, List.setIfInBounds_toArray, List.set_cons_zero, List.set_cons_succ, List.getElem_toArray, List.getElem_cons_zero, List.getElem_cons_succ]
  refine GT_take (i := 13) (v := ?_) rfl (by kernel_rfl) (fun _ _ _ h => h) (Or.inl ⟨by rfl, ?_⟩) ?_
  rotate_left
  · (intro wx hFx; (try dsimp only at hFx); have hc := hFx.cells; clear hFx; obtain ⟨c0, c1, c2, c3, c4, c5, c6, c7, c8, c9⟩ := hc; go_simp) <;> (try with_reducible rfl)
  try simp only [Act.put, List.setIfInBounds_toArray, List.set_cons_zero, List.set_cons_succ, List.getElem_toArray, List.getElem_cons_zero, List.getElem_cons_succ]
  refine GT_take (i := 14) (v := ?_) rfl (by kernel_rfl) (fun _ _ _ h => h) (Or.inl ⟨by rfl, ?_⟩) ?_
  rotate_left
  · (intro wx hFx; (try dsimp only at hFx); have hc := hFx.cells; clear hFx; obtain ⟨c0, c1, c2, c3, c4, c5, c6, c7, c8, c9⟩ := hc; go_simp) <;> (try with_reducible rfl)
  try simp only [Act.put, List.setIfInBounds_toArray, List.set_cons_zero, List.set_cons_succ, List.getElem_toArray, List.getElem_cons_zero, List.getElem_cons_succ]
  refine GT_take (i := 15) (v := ?_) rfl (by kernel_rfl) (fun _ _ _ h => h) (Or.inl ⟨by rfl, ?_⟩) ?_
  rotate_left
  · (intro wx hFx; (try dsimp only at hFx); have hc := hFx.cells; clear hFx; obtain ⟨c0, c1, c2, c3, c4, c5, c6, c7, c8, c9⟩ := hc; go_simp) <;> (try with_reducible rfl)
  try simp only [Act.put, List.setIfInBounds_toArray, List.set_cons_zero, List.set_cons_succ, List.getElem_toArray, List.getElem_cons_zero, List.getElem_cons_succ]
  refine GT_take (i := 16) (v := ?_) rfl (by kernel_rfl) (fun _ _ _ h => h) (Or.inl ⟨by rfl, ?_⟩) ?_
  rotate_left
  · (intro wx hFx; (try dsimp only at hFx); have hc := hFx.cells; clear hFx; obtain ⟨c0, c1, c2, c3, c4, c5, c6, c7, c8, c9⟩ := hc; go_simp) <;> (try with_reducible rfl)
  try simp only [Act.put, List.setIfInBounds_toArray, List.set_cons_zero, List.set_cons_succ, List.getElem_toArray, List.getElem_cons_zero, List.getElem_cons_succ]
  refine GT_one (i := 1) rfl (by kernel_rfl) (fun K hK => ?_)
  go_simp
  refine hK.out _ _ ?_ ?_
  · exact FrameAt.mod (w := w.drew) (S := NoB) hf ((Mod.refl _ _).alloc _) (fun x => x)
  clear hK K
  try simp only [Act.put, List.setIfInBounds_toArray, List.set_cons_zero, List.set_cons_succ, List.getElem_toArray, List.getElem_cons_zero, List.getElem_cons_succ]
  refine GT_one (i := 2) rfl (by kernel_rfl) (fun K hK => ?_)
  refine step_append_is rfl _ _ _ _ rfl _ _ _ rfl rfl hr1 ?_
  refine hK.out _ _ F1 ?_
  clear hK K
  try simp only [Act.put, List.setIfInBounds_toArray, List.set_cons_zero, List.set_cons_succ, List.getElem_toArray, List.getElem_cons_zero, List.getElem_cons_succ]
  refine GT_one (i := 7) rfl (by kernel_rfl) (fun K hK => ?_)
  go_simp
  refine (varint_any v1 (l ++ ([48])) (f.id) w1 A1.own (by omega) (by omega)).mono ?_
  rintro e w2 ⟨v2, rfl, ap⟩
  have F2 := F1.app A1.own ap
  have A2 := A1.trans ap
  have L2 : (l ++ ([48] ++ vint f.id)).length ≤ 35184372088832 + 9 := by have := vint_length (f.id); simp at this L1 ⊢; omega
  refine hK.out _ _ F2 ?_
  clear ap
  clear hK K
  try simp only [Act.put, List.setIfInBounds_toArray, List.set_cons_zero, List.set_cons_succ, List.getElem_toArray, List.getElem_cons_zero, List.getElem_cons_succ]
  refine GT_one (i := 12) rfl (by kernel_rfl) (fun K hK => ?_)
  go_simp
  refine (varint_any v2 (l ++ ([48] ++ vint f.id)) (f.dl) w2 A2.own (by omega) (by omega)).mono ?_
  rintro e w3 ⟨v3, rfl, ap⟩
  have F3 := F2.app A2.own ap
  have A3 := A2.trans ap
  have L3 : (l ++ ([48] ++ vint f.id ++ vint f.dl)).length ≤ 35184372088832 + 17 := by have := vint_length (f.dl); simp at this L2 ⊢; omega
  refine hK.out _ _ F3 ?_
  clear ap
  clear hK K
  try simp only [Act.put, List.setIfInBounds_toArray, List.set_cons_zero, List.set_cons_succ, List.getElem_toArray, List.getElem_cons_zero, List.getElem_cons_succ]
  refine GT_one (i := 17) rfl (by kernel_rfl) (fun K hK => ?_)
  go_simp
  refine (text_any v3 (l ++ ([48] ++ vint f.id ++ vint f.dl)) f.data w3 A3.own (by omega) bt).mono ?_
  rintro e w4 ⟨v4, rfl, ap⟩
  have F4 := F3.app A3.own ap
  have A4 := A3.trans ap
  refine hK.out _ _ F4 ?_
  clear ap
  clear hK K
  try simp only [Act.put, List.setIfInBounds_toArray, List.set_cons_zero, List.set_cons_succ, List.getElem_toArray, List.getElem_cons_zero, List.getElem_cons_succ]
  refine GT_take (i := 18) (v := ?_) rfl (by kernel_rfl) (fun _ _ _ h => h) (Or.inl ⟨by rfl, ?_⟩) ?_
  rotate_left
  · (intro wx hFx; (try dsimp only at hFx); have hc := hFx.cells; clear hFx; obtain ⟨c0, c1, c2, c3, c4, c5, c6, c7, c8, c9⟩ := hc; go_simp) <;> (try with_reducible rfl)
  try simp only [Act.put, List.setIfInBounds_toArray, List.set_cons_zero, List.set_cons_succ, List.getElem_toArray, List.getElem_cons_zero, List.getElem_cons_succ]
  refine GT_done (by kernel_rfl) ?_
  go_wp2_with fail
  go_ret
  exact ⟨_, rfl, A4.drew⟩

def bwrite4 (f : Frm) : List UInt8 := [8] ++ vint f.stream.toNat ++ vint f.off ++ (vint f.data.length ++ f.data)
set_option maxHeartbeats 400000 in
theorem write4 (v : Value) (l : List UInt8) (b : Nat) (f : Frm) (rv : Value) (w : World) (hf : FrameAt w b f rv) (h : OB w v l) (hl : l.length ≤ 35184372088832) (hb : f.Bounds) (hfin : f.fin = false) :
    Calls Tryz.prog 178 #[v, .pointer (some ⟨b, 0, none⟩)] w (Apps w v l (bwrite4 f)) := by
  obtain ⟨s0, s8, bo, br, bl, bi, bd, bt⟩ := hb
  have hwr : IntKind.u64.wrap f.stream = f.stream := by rw [IntKind.wrap_u64]; omega
  obtain ⟨v1, w1, hr1, A1⟩ := lit1_app w.drew v l 8 8 h rfl (by omega)
  have F1 := FrameAt.app (w := w.drew) hf h A1
  have L1 : (l ++ [(8 : UInt8)]).length ≤ 35184372088832 + 1 := by simp; omega
  have d5 : w.cell? ⟨b, 5, none⟩ = some (.bool false) := by rw [← hfin]; exact hf.cell rfl
  go_enter Tryz.func178, Tryz.ntmps178
  go_wp2_with fail
  refine GT_start 21 (fun w' => FrameAt w' b f rv) (by kernel_rfl) (by kernel_rfl) (hf) ?_
  refine GT_take (i := 0) (v := ?_) rfl (by kernel_rfl) (fun _ _ _ h => h) (Or.inl ⟨by rfl, ?_⟩) ?_
  rotate_left
  · (intro wx hFx; (try dsimp only at hFx); have hc := hFx.cells; clear hFx; obtain ⟨c0, c1, c2, c3, c4, c5, c6, c7, c8, c9⟩ := hc; go_simp) <;> (try with_reducible rfl)
  try simp only [Act.put, List.setIfInBounds_toArray, List.set_cons_zero, List.set_cons_succ, List.getElem_toArray, List.getElem_cons_zero, List.getElem_cons_succ]
  refine GT_take (i := 1) (v := ?_) rfl (by kernel_rfl) (fun _ _ _ h => h) (Or.inl ⟨by rfl, ?_⟩) ?_
  rotate_left
  · (intro wx hFx; (try dsimp only at hFx); have hc := hFx.cells; clear hFx; obtain ⟨c0, c1, c2, c3, c4, c5, c6, c7, c8, c9⟩ := hc; go_simp) <;> (try with_reducible rfl)
  try simp only [Act.put, List.setIfInBounds_toArray, List.set_cons_zero, List.set_cons_succ, List.getElem_toArray, List.getElem_cons_zero, List.getElem_cons_succ]
  refine GT_take (i := 4) (v := ?_) rfl (by kernel_rfl) (fun _ _ _ h => h) (Or.inl ⟨by rfl, ?_⟩) ?_
  rotate_left
  · (intro wx hFx; (try dsimp only at hFx); have hc := hFx.cells; clear hFx; obtain ⟨c0, c1, c2, c3, c4, c5, c6, c7, c8, c9⟩ := hc; go_simp) <;> (try with_reducible rfl)
  try simp only [Act.put, List.setIfInBounds_toArray, List.set_cons_zero, List.set_cons_succ, List.getElem_toArray, List.getElem_cons_zero, List.getElem_cons_succ]
  refine GT_take (i := 5) (v := ?_) rfl (by kernel_rfl) (fun _ _ _ h => h) (Or.inl ⟨by rfl, ?_⟩) ?_
  rotate_left
  · (intro wx hFx; (try dsimp only at hFx); have hc := hFx.cells; clear hFx; obtain ⟨c0, c1, c2, c3, c4, c5, c6, c7, c8, c9⟩ := hc; go_simp) <;> (try with_reducible rfl)
  try simp only [Act.put, List.setIfInBounds_toArray, List.set_cons_zero, List.set_cons_succ, List.getElem_toArray, List.getElem_cons_zero, List.getElem_cons_succ]
  refine GT_take (i := 6) (v := ?_) rfl (by kernel_rfl) (fun _ _ _ h => h) (Or.inl ⟨by rfl, ?_⟩) ?_
  rotate_left
  · (intro wx hFx; (try dsimp only at hFx); have hc := hFx.cells; clear hFx; obtain ⟨c0, c1, c2, c3, c4, c5, c6, c7, c8, c9⟩ := hc; go_simp) <;> (try with_reducible rfl)
  try simp only [Act.put, List.setIfInBounds_toArray, List.set_cons_zero, List.set_cons_succ, List.getElem_toArray, List.getElem_cons_zero, List.getElem_cons_succ]
  refine GT_take (i := 7) (v := ?_) rfl (by kernel_rfl) (fun _ _ _ h => h) (Or.inl ⟨by rfl, ?_⟩) ?_
  rotate_left
  · (intro wx hFx; (try dsimp only at hFx); have hc := hFx.cells; clear hFx; obtain ⟨c0, c1, c2, c3, c4, c5, c6, c7, c8, c9⟩ := hc; go_simp) <;> (try with_reducible rfl)
  try simp only [Act.put, List.setIfInBounds_toArray, List.set_cons_zero, List.set_cons_succ, List.getElem_toArray, List.getElem_cons_zero, List.getElem_cons_succ]
  refine GT_take (i := 8) (v := ?_) rfl (by kernel_rfl) (fun _ _ _ h => h) (Or.inl ⟨by rfl, ?_⟩) ?_
  rotate_left
  · (intro wx hFx; (try dsimp only at hFx); have hc := hFx.cells; clear hFx; obtain ⟨c0, c1, c2, c3, c4, c5, c6, c7, c8, c9⟩ := hc; go_simp) <;> (try with_reducible rfl)
  try simp only [Act.put, List.setIfInBounds_toArray, List.set_cons_zero, List.set_cons_succ, List.getElem_toArray, List.getElem_cons_zero, List.getElem_cons_succ]
  refine GT_take (i := 10) (v := ?_) rfl (by kernel_rfl) (fun _ _ _ h => h) (Or.inl ⟨by rfl, ?_⟩) ?_
  rotate_left
  · (intro wx hFx; (try dsimp only at hFx); have hc := hFx.cells; clear hFx; obtain ⟨c0, c1, c2, c3, c4, c5, c6, c7, c8, c9⟩ := hc; go_simp) <;> (try with_reducible rfl)
  try simp only [Act.put, List.setIfInBounds_toArray, List.set_cons_zero, List.set_cons_succ, List.getElem_toArray, List.getElem_cons_zero, List.getElem_cons_succ]
  refine GT_take (i := 11) (v := ?_) rfl (by kernel_rfl) (fun _ _ _ h => h) (Or.inl ⟨by rfl, ?_⟩) ?_
  rotate_left
  · (intro wx hFx; (try dsimp only at hFx); have hc := hFx.cells; clear hFx; obtain ⟨c0, c1, c2, c3, c4, c5, c6, c7, c8, c9⟩ := hc; go_simp) <;> (try with_reducible rfl)
  try simp only [Act.put, List.setIfInBounds_toArray, List.set_cons_zero, List.set_cons_succ, List.getElem_toArray, List.getElem_cons_zero, List.getElem_cons_succ]
  refine GT_take (i := 12) (v := ?_) rfl (by kernel_rfl) (fun _ _ _ h => h) (Or.inl ⟨by rfl, ?_⟩) ?_
  rotate_left
  · (intro wx hFx; (try dsimp only at hFx); have hc := hFx.cells; clear hFx; obtain ⟨c0, c1, c2, c3, c4, c5, c6, c7, c8, c9⟩ := hc; go_simp) <;> (try with_reducible rfl)
  try simp only [Act.put, List.setIfInBounds_toArray, List.set_cons_zero, List.set_cons_succ, List.getElem_toArray, List.getElem_cons_zero, List.getElem_cons_succ]
  refine GT_take (i := 13) (v := ?_) rfl (by kernel_rfl) (fun _ _ _ h => h) (Or.inl ⟨by rfl, ?_⟩) ?_
  rotate_left
  · (intro wx hFx; (try dsimp only at hFx); have hc := hFx.cells; clear hFx; obtain ⟨c0, c1, c2, c3, c4, c5, c6, c7, c8, c9⟩ := hc; go_simp) <;> (try with_reducible rfl)
  try simp only [Act.put, List.setIfInBounds_toArray, List.set_cons_zero, List.set_cons_succ, List.getElem_toArray, List.getElem_cons_zero, List.getElem_cons_succ]
  refine GT_take (i := 15) (v := ?_) rfl (by kernel_rfl) (fun _ _ _ h => h) (Or.inl ⟨by rfl, ?_⟩) ?_
  rotate_left
  · (intro wx hFx; (try dsimp only at hFx); have hc := hFx.cells; clear hFx; obtain ⟨c0, c1, c2, c3, c4, c5, c6, c7, c8, c9⟩ := hc; go_simp) <;> (try with_reducible rfl)
  try simp only [Act.put, List.setIfInBounds_toArray, List.set_cons_zero, List.set_cons_succ, List.getElem_toArray, List.getElem_cons_zero, List.getElem_cons_succ]
  refine GT_take (i := 16) (v := ?_) rfl (by kernel_rfl) (fun _ _ _ h => h) (Or.inl ⟨by rfl, ?_⟩) ?_
  rotate_left
  · (intro wx hFx; (try dsimp only at hFx); have hc := hFx.cells; clear hFx; obtain ⟨c0, c1, c2, c3, c4, c5, c6, c7, c8, c9⟩ := hc; go_simp) <;> (try with_reducible rfl)
  try simp only [Act.put, List.setIfInBounds_toArray, List.set_cons_zero, List.set_cons_succ, List.getElem_toArray, List.getElem_cons_zero, List.getElem_cons_succ]
  refine GT_take (i := 17) (v := ?_) rfl (by kernel_rfl) (fun _ _ _ h => h) (Or.inl ⟨by rfl, ?_⟩) ?_
  rotate_left
  · (intro wx hFx; (try dsimp only at hFx); have hc := hFx.cells; clear hFx; obtain ⟨c0, c1, c2, c3, c4, c5, c6, c7, c8, c9⟩ := hc; go_simp) <;> (try with_reducible rfl)
  try simp only [Act.put, List.setIfInBounds_toArray, List.set_cons_zero, List.set_cons_succ, List.getElem_toArray, List.getElem_cons_zero, List.getElem_cons_succ]
  refine GT_take (i := 18) (v := ?_) rfl (by kernel_rfl) (fun _ _ _ h => h) (Or.inl ⟨by rfl, ?_⟩) ?_
  rotate_left
  · (intro wx hFx; (try dsimp only at hFx); have hc := hFx.cells; clear hFx; obtain ⟨c0, c1, c2, c3, c4, c5, c6, c7, c8, c9⟩ := hc; go_simp) <;> (try with_reducible rfl)
  try simp only [Act.put, List.setIfInBounds_toArray, List.set_cons_zero, List.set_cons_succ, List.getElem_toArray, List.getElem_cons_zero, List.getElem_cons_succ]
  refine GT_one (i := 2) rfl (by kernel_rfl) (fun K hK => ?_)
  go_simp
  refine hK.out _ _ ?_ ?_
  · exact FrameAt.mod (w := w.drew) (S := NoB) hf ((Mod.refl _ _).alloc _) (fun x => x)
  clear hK K
  try simp only [Act.put, List.setIfInBounds_toArray, List.set_cons_zero, List.set_cons_succ, List.getElem_toArray, List.getElem_cons_zero, List.getElem_cons_succ]
  refine GT_one (i := 3) rfl (by kernel_rfl) (fun K hK => ?_)
  refine step_append_is rfl _ _ _ _ rfl _ _ _ rfl rfl hr1 ?_
  refine hK.out _ _ F1 ?_
  clear hK K
  try simp only [Act.put, List.setIfInBounds_toArray, List.set_cons_zero, List.set_cons_succ, List.getElem_toArray, List.getElem_cons_zero, List.getElem_cons_succ]
  refine GT_one (i := 9) rfl (by kernel_rfl) (fun K hK => ?_)
  go_simp
  refine (varint_int v1 (l ++ ([8])) (f.stream) w1 A1.own (by omega) (by omega) (by omega)).mono ?_
  rintro e w2 ⟨v2, rfl, ap⟩
  have F2 := F1.app A1.own ap
  have A2 := A1.trans ap
  have L2 : (l ++ ([8] ++ vint f.stream.toNat)).length ≤ 35184372088832 + 9 := by have := vint_length (f.stream.toNat); simp at this L1 ⊢; omega
  refine hK.out _ _ F2 ?_
  clear ap
  clear hK K
  try simp only [Act.put, List.setIfInBounds_toArray, List.set_cons_zero, List.set_cons_succ, List.getElem_toArray, List.getElem_cons_zero, List.getElem_cons_succ]
  refine GT_one (i := 14) rfl (by kernel_rfl) (fun K hK => ?_)
  go_simp
  refine (varint_any v2 (l ++ ([8] ++ vint f.stream.toNat)) (f.off) w2 A2.own (by omega) (by omega)).mono ?_
  rintro e w3 ⟨v3, rfl, ap⟩
  have F3 := F2.app A2.own ap
  have A3 := A2.trans ap
  have L3 : (l ++ ([8] ++ vint f.stream.toNat ++ vint f.off)).length ≤ 35184372088832 + 17 := by have := vint_length (f.off); simp at this L2 ⊢; omega
  refine hK.out _ _ F3 ?_
  clear ap
  clear hK K
  try simp only [Act.put, List.setIfInBounds_toArray, List.set_cons_zero, List.set_cons_succ, List.getElem_toArray, List.getElem_cons_zero, List.getElem_cons_succ]
  refine GT_one (i := 19) rfl (by kernel_rfl) (fun K hK => ?_)
  go_simp
  refine (text_any v3 (l ++ ([8] ++ vint f.stream.toNat ++ vint f.off)) f.data w3 A3.own (by omega) bt).mono ?_
  rintro e w4 ⟨v4, rfl, ap⟩
  have F4 := F3.app A3.own ap
  have A4 := A3.trans ap
  refine hK.out _ _ F4 ?_
  clear ap
  clear hK K
  try simp only [Act.put, List.setIfInBounds_toArray, List.set_cons_zero, List.set_cons_succ, List.getElem_toArray, List.getElem_cons_zero, List.getElem_cons_succ]
  refine GT_take (i := 20) (v := ?_) rfl (by kernel_rfl) (fun _ _ _ h => h) (Or.inl ⟨by rfl, ?_⟩) ?_
  rotate_left
  · (intro wx hFx; (try dsimp only at hFx); have hc := hFx.cells; clear hFx; obtain ⟨c0, c1, c2, c3, c4, c5, c6, c7, c8, c9⟩ := hc; go_simp) <;> (try with_reducible rfl)
  try simp only [Act.put, List.setIfInBounds_toArray, List.set_cons_zero, List.set_cons_succ, List.getElem_toArray, List.getElem_cons_zero, List.getElem_cons_succ]
  refine GT_done (by kernel_rfl) ?_
  go_wp2_with fail
  go_ret
  exact ⟨_, rfl, A4.drew⟩

def bwrite4f (f : Frm) : List UInt8 := [9] ++ vint f.stream.toNat ++ vint f.off ++ (vint f.data.length ++ f.data)
set_option maxHeartbeats 400000 in
theorem write4f (v : Value) (l : List UInt8) (b : Nat) (f : Frm) (rv : Value) (w : World) (hf : FrameAt w b f rv) (h : OB w v l) (hl : l.length ≤ 35184372088832) (hb : f.Bounds) (hfin : f.fin = true) :
    Calls Tryz.prog 178 #[v, .pointer (some ⟨b, 0, none⟩)] w (Apps w v l (bwrite4f f)) := by
  obtain ⟨s0, s8, bo, br, bl, bi, bd, bt⟩ := hb
  have hwr : IntKind.u64.wrap f.stream = f.stream := by rw [IntKind.wrap_u64]; omega
  obtain ⟨v1, w1, hr1, A1⟩ := lit1_app w.drew v l 9 9 h rfl (by omega)
  have F1 := FrameAt.app (w := w.drew) hf h A1
  have L1 : (l ++ [(9 : UInt8)]).length ≤ 35184372088832 + 1 := by simp; omega
  have d5 : w.cell? ⟨b, 5, none⟩ = some (.bool true) := by rw [← hfin]; exact hf.cell rfl
  go_enter Tryz.func178, Tryz.ntmps178
  go_wp2_with fail
  refine GT_start 21 (fun w' => FrameAt w' b f rv) (by kernel_rfl) (by kernel_rfl) (hf) ?_
  refine GT_take (i := 0) (v := ?_) rfl (by kernel_rfl) (fun _ _ _ h => h) (Or.inl ⟨by rfl, ?_⟩) ?_
  rotate_left
  · (intro wx hFx; (try dsimp only at hFx); have hc := hFx.cells; clear hFx; obtain ⟨c0, c1, c2, c3, c4, c5, c6, c7, c8, c9⟩ := hc; go_simp) <;> (try with_reducible rfl)
  try simp only [Act.put, List.setIfInBounds_toArray, List.set_cons_zero, List.set_cons_succ, List.getElem_toArray, List.getElem_cons_zero, List.getElem_cons_succ]
  refine GT_take (i := 1) (v := ?_) rfl (by kernel_rfl) (fun _ _ _ h => h) (Or.inl ⟨by rfl, ?_⟩) ?_
  rotate_left
  · (intro wx hFx; (try dsimp only at hFx); have hc := hFx.cells; clear hFx; obtain ⟨c0, c1, c2, c3, c4, c5, c6, c7, c8, c9⟩ := hc; go_simp) <;> (try with_reducible rfl)
  try simp only [Act.put, List.setIfInBounds_toArray, List.set_cons_zero, List.set_cons_succ, List.getElem_toArray, List.getElem_cons_zero, List.getElem_cons_succ]
  refine GT_take (i := 4) (v := ?_) rfl (by kernel_rfl) (fun _ _ _ h => h) (Or.inl ⟨by rfl, ?_⟩) ?_
  rotate_left
  · (intro wx hFx; (try dsimp only at hFx); have hc := hFx.cells; clear hFx; obtain ⟨c0, c1, c2, c3, c4, c5, c6, c7, c8, c9⟩ := hc; go_simp) <;> (try with_reducible rfl)
  try simp only [Act.put, List.setIfInBounds_toArray, List.set_cons_zero, List.set_cons_succ, List.getElem_toArray, List.getElem_cons_zero, List.getElem_cons_succ]
  refine GT_take (i := 5) (v := ?_) rfl (by kernel_rfl) (fun _ _ _ h => h) (Or.inl ⟨by rfl, ?_⟩) ?_
  rotate_left
  · (intro wx hFx; (try dsimp only at hFx); have hc := hFx.cells; clear hFx; obtain ⟨c0, c1, c2, c3, c4, c5, c6, c7, c8, c9⟩ := hc; go_simp) <;> (try with_reducible rfl)
  try simp only [Act.put, List.setIfInBounds_toArray, List.set_cons_zero, List.set_cons_succ, List.getElem_toArray, List.getElem_cons_zero, List.getElem_cons_succ]
  refine GT_take (i := 6) (v := ?_) rfl (by kernel_rfl) (fun _ _ _ h => h) (Or.inl ⟨by rfl, ?_⟩) ?_
  rotate_left
  · (intro wx hFx; (try dsimp only at hFx); have hc := hFx.cells; clear hFx; obtain ⟨c0, c1, c2, c3, c4, c5, c6, c7, c8, c9⟩ := hc; go_simp) <;> (try with_reducible rfl)
  try simp only [Act.put, List.setIfInBounds_toArray, List.set_cons_zero, List.set_cons_succ, List.getElem_toArray, List.getElem_cons_zero, List.getElem_cons_succ]
  refine GT_take (i := 7) (v := ?_) rfl (by kernel_rfl) (fun _ _ _ h => h) (Or.inl ⟨by rfl, ?_⟩) ?_
  rotate_left
  · (intro wx hFx; (try dsimp only at hFx); have hc := hFx.cells; clear hFx; obtain ⟨c0, c1, c2, c3, c4, c5, c6, c7, c8, c9⟩ := hc; go_simp) <;> (try with_reducible rfl)
  try simp only [Act.put, List.setIfInBounds_toArray, List.set_cons_zero, List.set_cons_succ, List.getElem_toArray, List.getElem_cons_zero, List.getElem_cons_succ]
  refine GT_take (i := 8) (v := ?_) rfl (by kernel_rfl) (fun _ _ _ h => h) (Or.inl ⟨by rfl, ?_⟩) ?_
  rotate_left
  · (intro wx hFx; (try dsimp only at hFx); have hc := hFx.cells; clear hFx; obtain ⟨c0, c1, c2, c3, c4, c5, c6, c7, c8, c9⟩ := hc; go_simp) <;> (try with_reducible rfl)
  try simp only [Act.put, List.setIfInBounds_toArray, List.set_cons_zero, List.set_cons_succ, List.getElem_toArray, List.getElem_cons_zero, List.getElem_cons_succ]
  refine GT_take (i := 10) (v := ?_) rfl (by kernel_rfl) (fun _ _ _ h => h) (Or.inl ⟨by rfl, ?_⟩) ?_
  rotate_left
  · (intro wx hFx; (try dsimp only at hFx); have hc := hFx.cells; clear hFx; obtain ⟨c0, c1, c2, c3, c4, c5, c6, c7, c8, c9⟩ := hc; go_simp) <;> (try with_reducible rfl)
  try simp only [Act.put, List.setIfInBounds_toArray, List.set_cons_zero, List.set_cons_succ, List.getElem_toArray, List.getElem_cons_zero, List.getElem_cons_succ]
  refine GT_take (i := 11) (v := ?_) rfl (by kernel_rfl) (fun _ _ _ h => h) (Or.inl ⟨by rfl, ?_⟩) ?_
  rotate_left
  · (intro wx hFx; (try dsimp only at hFx); have hc := hFx.cells; clear hFx; obtain ⟨c0, c1, c2, c3, c4, c5, c6, c7, c8, c9⟩ := hc; go_simp) <;> (try with_reducible rfl)
  try simp only [Act.put, List.setIfInBounds_toArray, List.set_cons_zero, List.set_cons_succ, List.getElem_toArray, List.getElem_cons_zero, List.getElem_cons_succ]
  refine GT_take (i := 12) (v := ?_) rfl (by kernel_rfl) (fun _ _ _ h => h) (Or.inl ⟨by rfl, ?_⟩) ?_
  rotate_left
  · (intro wx hFx; (try dsimp only at hFx); have hc := hFx.cells; clear hFx; obtain ⟨c0, c1, c2, c3, c4, c5, c6, c7, c8, c9⟩ := hc; go_simp) <;> (try with_reducible rfl)
  try simp only [Act.put, List.setIfInBounds_toArray, List.set_cons_zero, List.set_cons_succ, List.getElem_toArray, List.getElem_cons_zero, List.getElem_cons_succ]
  refine GT_take (i := 13) (v := ?_) rfl (by kernel_rfl) (fun _ _ _ h => h) (Or.inl ⟨by rfl, ?_⟩) ?_
  rotate_left
  · (intro wx hFx; (try dsimp only at hFx); have hc := hFx.cells; clear hFx; obtain ⟨c0, c1, c2, c3, c4, c5, c6, c7, c8, c9⟩ := hc; go_simp) <;> (try with_reducible rfl)
  try simp only [Act.put, List.setIfInBounds_toArray, List.set_cons_zero, List.set_cons_succ, List.getElem_toArray, List.getElem_cons_zero, List.getElem_cons_succ]
  refine GT_take (i := 15) (v := ?_) rfl (by kernel_rfl) (fun _ _ _ h => h) (Or.inl ⟨by rfl, ?_⟩) ?_
  rotate_left
  · (intro wx hFx; (try dsimp only at hFx); have hc := hFx.cells; clear hFx; obtain ⟨c0, c1, c2, c3, c4, c5, c6, c7, c8, c9⟩ := hc; go_simp) <;> (try with_reducible rfl)
  try simp only [Act.put, List.setIfInBounds_toArray, List.set_cons_zero, List.set_cons_succ, List.getElem_toArray, List.getElem_cons_zero, List.getElem_cons_succ]
  refine GT_take (i := 16) (v := ?_) rfl (by kernel_rfl) (fun _ _ _ h => h) (Or.inl ⟨by rfl, ?_⟩) ?_
  rotate_left
  · (intro wx hFx; (try dsimp only at hFx); have hc := hFx.cells; clear hFx; obtain ⟨c0, c1, c2, c3, c4, c5, c6, c7, c8, c9⟩ := hc; go_simp) <;> (try with_reducible rfl)
  try simp only [Act.put, List.setIfInBounds_toArray, List.set_cons_zero, List.set_cons_succ, List.getElem_toArray, List.getElem_cons_zero, List.getElem_cons_succ]
  refine GT_take (i := 17) (v := ?_) rfl (by kernel_rfl) (fun _ _ _ h => h) (Or.inl ⟨by rfl, ?_⟩) ?_
  rotate_left
  · (intro wx hFx; (try dsimp only at hFx); have hc := hFx.cells; clear hFx; obtain ⟨c0, c1, c2, c3, c4, c5, c6, c7, c8, c9⟩ := hc; go_simp) <;> (try with_reducible rfl)
  try simp only [Act.put, List.setIfInBounds_toArray, List.set_cons_zero, List.set_cons_succ, List.getElem_toArray, List.getElem_cons_zero, List.getElem_cons_succ]
  refine GT_take (i := 18) (v := ?_) rfl (by kernel_rfl) (fun _ _ _ h => h) (Or.inl ⟨by rfl, ?_⟩) ?_
  rotate_left
  · (intro wx hFx; (try dsimp only at hFx); have hc := hFx.cells; clear hFx; obtain ⟨c0, c1, c2, c3, c4, c5, c6, c7, c8, c9⟩ := hc; go_simp) <;> (try with_reducible rfl)
  try simp only [Act.put, List.setIfInBounds_toArray, List.set_cons_zero, List.set_cons_succ, List.getElem_toArray, List.getElem_cons_zero, List.getElem_cons_succ]
  refine GT_one (i := 2) rfl (by kernel_rfl) (fun K hK => ?_)
  go_simp
  refine hK.out _ _ ?_ ?_
  · exact FrameAt.mod (w := w.drew) (S := NoB) hf ((Mod.refl _ _).alloc _) (fun x => x)
  clear hK K
  try simp only [Act.put, List.setIfInBounds_toArray, List.set_cons_zero, List.set_cons_succ, List.getElem_toArray, List.getElem_cons_zero, List.getElem_cons_succ]
  refine GT_one (i := 3) rfl (by kernel_rfl) (fun K hK => ?_)
  refine step_append_is rfl _ _ _ _ rfl _ _ _ rfl rfl hr1 ?_
  refine hK.out _ _ F1 ?_
  clear hK K
  try simp only [Act.put, List.setIfInBounds_toArray, List.set_cons_zero, List.set_cons_succ, List.getElem_toArray, List.getElem_cons_zero, List.getElem_cons_succ]
  refine GT_one (i := 9) rfl (by kernel_rfl) (fun K hK => ?_)
  go_simp
  refine (varint_int v1 (l ++ ([9])) (f.stream) w1 A1.own (by omega) (by omega) (by omega)).mono ?_
  rintro e w2 ⟨v2, rfl, ap⟩
  have F2 := F1.app A1.own ap
  have A2 := A1.trans ap
  have L2 : (l ++ ([9] ++ vint f.stream.toNat)).length ≤ 35184372088832 + 9 := by have := vint_length (f.stream.toNat); simp at this L1 ⊢; omega
  refine hK.out _ _ F2 ?_
  clear ap
  clear hK K
  try simp only [Act.put, List.setIfInBounds_toArray, List.set_cons_zero, List.set_cons_succ, List.getElem_toArray, List.getElem_cons_zero, List.getElem_cons_succ]
  refine GT_one (i := 14) rfl (by kernel_rfl) (fun K hK => ?_)
  go_simp
  refine (varint_any v2 (l ++ ([9] ++ vint f.stream.toNat)) (f.off) w2 A2.own (by omega) (by omega)).mono ?_
  rintro e w3 ⟨v3, rfl, ap⟩
  have F3 := F2.app A2.own ap
  have A3 := A2.trans ap
  have L3 : (l ++ ([9] ++ vint f.stream.toNat ++ vint f.off)).length ≤ 35184372088832 + 17 := by have := vint_length (f.off); simp at this L2 ⊢; omega
  refine hK.out _ _ F3 ?_
  clear ap
  clear hK K
  try simp only [Act.put, List.setIfInBounds_toArray, List.set_cons_zero, List.set_cons_succ, List.getElem_toArray, List.getElem_cons_zero, List.getElem_cons_succ]
  refine GT_one (i := 19) rfl (by kernel_rfl) (fun K hK => ?_)
  go_simp
  refine (text_any v3 (l ++ ([9] ++ vint f.stream.toNat ++ vint f.off)) f.data w3 A3.own (by omega) bt).mono ?_
  rintro e w4 ⟨v4, rfl, ap⟩
  have F4 := F3.app A3.own ap
  have A4 := A3.trans ap
  refine hK.out _ _ F4 ?_
  clear ap
  clear hK K
  try simp only [Act.put, List.setIfInBounds_toArray, List.set_cons_zero, List.set_cons_succ, List.getElem_toArray, List.getElem_cons_zero, List.getElem_cons_succ]
  refine GT_take (i := 20) (v := ?_) rfl (by kernel_rfl) (fun _ _ _ h => h) (Or.inl ⟨by rfl, ?_⟩) ?_
  rotate_left
  · (intro wx hFx; (try dsimp only at hFx); have hc := hFx.cells; clear hFx; obtain ⟨c0, c1, c2, c3, c4, c5, c6, c7, c8, c9⟩ := hc; go_simp) <;> (try with_reducible rfl)
  try simp only [Act.put, List.setIfInBounds_toArray, List.set_cons_zero, List.set_cons_succ, List.getElem_toArray, List.getElem_cons_zero, List.getElem_cons_succ]
  refine GT_done (by kernel_rfl) ?_
  go_wp2_with fail
  go_ret
  exact ⟨_, rfl, A4.drew⟩

def bnum (t : UInt8) (f : Frm) : List UInt8 := [t] ++ vint f.lim
set_option maxHeartbeats 400000 in
theorem write_num (v : Value) (l : List UInt8) (b tb ab : Nat) (t : UInt8) (f : Frm) (rv : Value) (w : World) (hf : FrameAt w b f rv) (hc : CapAt w tb ab t) (hv1 : ¬ v.ownBlock = some tb) (hv2 : ¬ v.ownBlock = some ab) (h : OB w v l) (hl : l.length ≤ 35184372088832) (hb : f.Bounds) :
    Calls Tryz.prog 191 #[v, .pointer (some ⟨b, 0, none⟩), .pointer (some ⟨tb, 0, none⟩), .pointer (some ⟨ab, 0, none⟩)] w (Apps w v l (bnum t f)) := by
  obtain ⟨s0, s8, bo, br, bl, bi, bd, bt⟩ := hb
  obtain ⟨v1, w1, hr1, A1⟩ := lit1_app w.drew v l t (t.toNat : Int) h rfl (by omega)
  have F1 : FrameAt w1 b f rv ∧ CapAt w1 tb ab t := ⟨FrameAt.app (w := w.drew) hf h A1, CapAt.app (w := w.drew) hc hv1 hv2 A1⟩
  have L1 : (l ++ [t]).length ≤ 35184372088832 + 1 := by simp; omega
  go_enter Tryz.func191, Tryz.ntmps191
  go_wp2_with fail
  refine GT_start 11 (fun w' => FrameAt w' b f rv ∧ CapAt w' tb ab t) (by kernel_rfl) (by kernel_rfl) (⟨hf, hc⟩) ?_
  refine GT_take (i := 0) (v := ?_) rfl (by kernel_rfl) (fun _ _ _ h => h) (Or.inl ⟨by rfl, ?_⟩) ?_
  rotate_left
  · (intro wx hFx; (try dsimp only at hFx); have hc := hFx.1.cells; obtain ⟨ca, cb⟩ := hFx.2; clear hFx; obtain ⟨c0, c1, c2, c3, c4, c5, c6, c7, c8, c9⟩ := hc; go_simp) <;> (try with_reducible rfl)
  try simp only [Act.put, List.setIfInBounds_toArray, List.set_cons_zero, List.set_cons_succ, List.getElem_toArray, List.getElem_cons_zero, List.getElem_cons_succ]
  refine GT_take (i := 1) (v := ?_) rfl (by kernel_rfl) (fun _ _ _ h => h) (Or.inl ⟨by rfl, ?_⟩) ?_
  rotate_left
  · (intro wx hFx; (try dsimp only at hFx); have hc := hFx.1.cells; obtain ⟨ca, cb⟩ := hFx.2; clear hFx; obtain ⟨c0, c1, c2, c3, c4, c5, c6, c7, c8, c9⟩ := hc; go_simp) <;> (try with_reducible rfl)
  try simp only [Act.put, List.setIfInBounds_toArray, List.set_cons_zero, List.set_cons_succ, List.getElem_toArray, List.getElem_cons_zero, List.getElem_cons_succ]
  refine GT_take (i := 4) (v := ?_) rfl (by kernel_rfl) (fun _ _ _ h => h) (Or.inl ⟨by rfl, ?_⟩) ?_
  rotate_left
  · (intro wx hFx; (try dsimp only at hFx); have hc := hFx.1.cells; obtain ⟨ca, cb⟩ := hFx.2; clear hFx; obtain ⟨c0, c1, c2, c3, c4, c5, c6, c7, c8, c9⟩ := hc; go_simp) <;> (try with_reducible rfl)
  try simp only [Act.put, List.setIfInBounds_toArray, List.set_cons_zero, List.set_cons_succ, List.getElem_toArray, List.getElem_cons_zero, List.getElem_cons_succ]
  refine GT_take (i := 5) (v := ?_) rfl (by kernel_rfl) (fun _ _ _ h => h) (Or.inl ⟨by rfl, ?_⟩) ?_
  rotate_left
  · (intro wx hFx; (try dsimp only at hFx); have hc := hFx.1.cells; obtain ⟨ca, cb⟩ := hFx.2; clear hFx; obtain ⟨c0, c1, c2, c3, c4, c5, c6, c7, c8, c9⟩ := hc; go_simp) <;> (try with_reducible rfl)
  try simp only [Act.put, List.setIfInBounds_toArray, List.set_cons_zero, List.set_cons_succ, List.getElem_toArray, List.getElem_cons_zero, List.getElem_cons_succ]
  refine GT_one (i := 2) rfl (by kernel_rfl) (fun K hK => ?_)
  go_simp
  refine hK.out _ _ ?_ ?_
  · exact ⟨FrameAt.mod (w := w.drew) (S := NoB) hf ((Mod.refl _ _).alloc _) (fun x => x), CapAt.mod (w := w.drew) (S := NoB) hc ((Mod.refl _ _).alloc _) (fun x => x) (fun x => x)⟩
  clear hK K
  try simp only [Act.put, List.setIfInBounds_toArray, List.set_cons_zero, List.set_cons_succ, List.getElem_toArray, List.getElem_cons_zero, List.getElem_cons_succ]
  refine GT_one (i := 3) rfl (by kernel_rfl) (fun K hK => ?_)
  refine step_append_is rfl _ _ _ _ rfl _ _ _ rfl rfl hr1 ?_
  refine hK.out _ _ F1 ?_
  clear hK K
  try simp only [Act.put, List.setIfInBounds_toArray, List.set_cons_zero, List.set_cons_succ, List.getElem_toArray, List.getElem_cons_zero, List.getElem_cons_succ]
  refine GT_one (i := 6) rfl (by kernel_rfl) (fun K hK => ?_)
  go_simp
  refine (limit_any b w1).mono ?_
  rintro e w' ⟨rfl, rfl⟩
  refine hK.out _ _ F1 ?_
  clear hK K
  try simp only [Act.put, List.setIfInBounds_toArray, List.set_cons_zero, List.set_cons_succ, List.getElem_toArray, List.getElem_cons_zero, List.getElem_cons_succ]
  refine GT_take (i := 7) (v := ?_) rfl (by kernel_rfl) (fun _ _ _ h => h) (Or.inl ⟨by rfl, ?_⟩) ?_
  rotate_left
  · (intro wx hFx; (try dsimp only at hFx); have hc := hFx.1.cells; obtain ⟨ca, cb⟩ := hFx.2; clear hFx; obtain ⟨c0, c1, c2, c3, c4, c5, c6, c7, c8, c9⟩ := hc; go_simp) <;> (try with_reducible rfl)
  try simp only [Act.put, List.setIfInBounds_toArray, List.set_cons_zero, List.set_cons_succ, List.getElem_toArray, List.getElem_cons_zero, List.getElem_cons_succ]
  refine GT_take (i := 8) (v := ?_) rfl (by kernel_rfl) (fun _ _ _ h => h) (Or.inl ⟨by rfl, ?_⟩) ?_
  rotate_left
  · (intro wx hFx; (try dsimp only at hFx); have hc := hFx.1.cells; obtain ⟨ca, cb⟩ := hFx.2; clear hFx; obtain ⟨c0, c1, c2, c3, c4, c5, c6, c7, c8, c9⟩ := hc; go_simp) <;> (try with_reducible rfl)
  try simp only [Act.put, List.setIfInBounds_toArray, List.set_cons_zero, List.set_cons_succ, List.getElem_toArray, List.getElem_cons_zero, List.getElem_cons_succ]
  refine GT_one (i := 9) rfl (by kernel_rfl) (fun K hK => ?_)
  go_simp
  refine (varint_any v1 (l ++ [t]) f.lim w1 A1.own (by omega) bl).mono ?_
  rintro e w2 ⟨v2, rfl, ap⟩
  have A2 := A1.trans ap
  have F2 : FrameAt w2 b f rv ∧ CapAt w2 tb ab t := ⟨FrameAt.app (w := w.drew) hf h A2, CapAt.app (w := w.drew) hc hv1 hv2 A2⟩
  refine hK.out _ _ F2 ?_
  clear ap
  clear hK K
  try simp only [Act.put, List.setIfInBounds_toArray, List.set_cons_zero, List.set_cons_succ, List.getElem_toArray, List.getElem_cons_zero, List.getElem_cons_succ]
  refine GT_take (i := 10) (v := ?_) rfl (by kernel_rfl) (fun _ _ _ h => h) (Or.inl ⟨by rfl, ?_⟩) ?_
  rotate_left
  · (intro wx hFx; (try dsimp only at hFx); have hc := hFx.1.cells; obtain ⟨ca, cb⟩ := hFx.2; clear hFx; obtain ⟨c0, c1, c2, c3, c4, c5, c6, c7, c8, c9⟩ := hc; go_simp) <;> (try with_reducible rfl)
  try simp only [Act.put, List.setIfInBounds_toArray, List.set_cons_zero, List.set_cons_succ, List.getElem_toArray, List.getElem_cons_zero, List.getElem_cons_succ]
  refine GT_done (by kernel_rfl) ?_
  go_wp2_with fail
  go_ret
  exact ⟨_, rfl, A2.drew⟩

theorem write1 (v : Value) (l : List UInt8) (b : Nat) (w : World) (h : OB w v l) (hl : l.length ≤ 35184372088832) :
    Calls Tryz.prog 168 #[v, .pointer (some ⟨b, 0, none⟩)] w (Apps w v l [1]) := by
  obtain ⟨v1, w1, hr1, A1⟩ := lit1_app w v l 1 1 h rfl (by omega)
  obtain ⟨a, cap, rfl, _⟩ := own_form h
  have H := hide A1
  clear A1
  go_enter Tryz.func168, Tryz.ntmps168
  go_wp2_with (at_builtin; refine wpList_append_is rfl _ _ _ _ rfl _ _ _ rfl rfl hr1 ?_)
  go_ret
  exact ⟨_, rfl, H.out⟩

-- END WRITERS
end Go.Proofs.YtddfdpbaiedcjabGreatDoor
