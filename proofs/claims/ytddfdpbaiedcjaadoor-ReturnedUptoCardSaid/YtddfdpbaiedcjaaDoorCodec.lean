/- wire.of, wire.sound, wire.Append: the codec of a kind. -/
import Derived.Test.YtddfdpbaiedcjaaDoorAck2
import Derived.Laws.EntriesVeiled
namespace Go.Proofs.YtddfdpbaiedcjaaDoor
open Go.RowKit

def Goes (F : FuncId) : Prop := ∀ args w, (callFunc F args).run Tryd.prog w = .ok (.enter F args) w

/-- A codec lies there: how it writes, reads, is sound. -/
def CodecAt (w : World) (b : Nat) (wv rv sv : Value) : Prop := w.cell? ⟨b, 0, none⟩ = some wv ∧ w.cell? ⟨b, 1, none⟩ = some rv ∧ w.cell? ⟨b, 2, none⟩ = some sv

theorem CodecAt.mod {S : Nat → Prop} {w w' : World} {b : Nat} {wv rv sv : Value} (h : CodecAt w b wv rv sv) (m : Mod S w w') (hs : ¬ S b) : CodecAt w' b wv rv sv :=
  ⟨m.cell (a := ⟨b, 0, none⟩) hs h.1, m.cell (a := ⟨b, 1, none⟩) hs h.2.1, m.cell (a := ⟨b, 2, none⟩) hs h.2.2⟩

def fnv (F : FuncId) : Value := .func (.func F) #[] #[]

/-- It answers with a codec. -/
def IsCodec (w : World) (wv rv sv : Value) (e : Ending) (w' : World) : Prop := ∃ b, e = .returned (.pointer (some ⟨b, 0, none⟩)) ∧ CodecAt w' b wv rv sv ∧ Mod NoB w w' ∧ w.heap.size ≤ b
/-- It answers with the codec of one number. -/
def IsNum (w : World) (t : UInt8) (e : Ending) (w' : World) : Prop := ∃ b tb ab, e = .returned (.pointer (some ⟨b, 0, none⟩)) ∧ CodecAt w' b (.func (.func 57) #[] #[.pointer (some ⟨tb, 0, none⟩), .pointer (some ⟨ab, 0, none⟩)]) (.func (.func 58) #[] #[.pointer (some ⟨ab, 0, none⟩)]) (fnv 36) ∧ CapAt w' tb ab t ∧ Mod NoB w w' ∧ w.heap.size ≤ b ∧ w.heap.size ≤ tb ∧ w.heap.size ≤ ab

theorem number_any (t : UInt8) (w : World) : Calls Tryd.prog 49 #[.int .u8 (t.toNat : Int), .func (.func 50) #[] #[]] w fun e w' => e = .returned (.agg #[.func (.func 57) #[] #[.pointer (some ⟨w.heap.size, 0, none⟩), .pointer (some ⟨w.heap.size + 1, 0, none⟩)], .func (.func 58) #[] #[.pointer (some ⟨w.heap.size + 1, 0, none⟩)], .func (.func 36) #[] #[]]) ∧
    w' = ((w.alloc (.cells #[.int .u8 (t.toNat : Int)] 5)).alloc (.cells #[.func (.func 50) #[] #[]] 102)).alloc (.cells #[.func (.func 57) #[] #[.pointer (some ⟨w.heap.size, 0, none⟩), .pointer (some ⟨w.heap.size + 1, 0, none⟩)], .func (.func 58) #[] #[.pointer (some ⟨w.heap.size + 1, 0, none⟩)], .func (.func 36) #[] #[]] 79) := by
  go_enter Tryd.func49, Tryd.ntmps49
  go_wp2_with fail
  exact bodyPost_ret (by simp [results, Tryd.results49, go_sem]) rfl ⟨rfl, rfl⟩

theorem of_1 (w : World) : Calls Tryd.prog 26 #[.int .i64 1] w (IsCodec w (fnv 34) (fnv 35) (fnv 36)) := by
  go_enter Tryd.func26, Tryd.ntmps26
  go_wp2_with fail
  go_ret
  exact ⟨w.heap.size, rfl, ⟨by simp [fnv], by simp [fnv], by simp [fnv]⟩, (Mod.refl _ _).alloc _, Nat.le_refl _⟩

theorem of_2 (w : World) : Calls Tryd.prog 26 #[.int .i64 2] w (IsCodec w (fnv 37) (fnv 38) (fnv 39)) := by
  go_enter Tryd.func26, Tryd.ntmps26
  go_wp2_with fail
  go_ret
  exact ⟨w.heap.size, rfl, ⟨by simp [fnv], by simp [fnv], by simp [fnv]⟩, (Mod.refl _ _).alloc _, Nat.le_refl _⟩

theorem of_3 (w : World) : Calls Tryd.prog 26 #[.int .i64 3] w (IsCodec w (fnv 40) (fnv 41) (fnv 43)) := by
  go_enter Tryd.func26, Tryd.ntmps26
  go_wp2_with fail
  go_ret
  exact ⟨w.heap.size, rfl, ⟨by simp [fnv], by simp [fnv], by simp [fnv]⟩, (Mod.refl _ _).alloc _, Nat.le_refl _⟩

theorem of_4 (w : World) : Calls Tryd.prog 26 #[.int .i64 4] w (IsCodec w (fnv 44) (fnv 46) (fnv 48)) := by
  go_enter Tryd.func26, Tryd.ntmps26
  go_wp2_with fail
  go_ret
  exact ⟨w.heap.size, rfl, ⟨by simp [fnv], by simp [fnv], by simp [fnv]⟩, (Mod.refl _ _).alloc _, Nat.le_refl _⟩

theorem of_6 (w : World) : Calls Tryd.prog 26 #[.int .i64 6] w (IsCodec w (fnv 51) (fnv 52) (fnv 36)) := by
  go_enter Tryd.func26, Tryd.ntmps26
  go_wp2_with fail
  go_ret
  exact ⟨w.heap.size, rfl, ⟨by simp [fnv], by simp [fnv], by simp [fnv]⟩, (Mod.refl _ _).alloc _, Nat.le_refl _⟩

theorem of_7 (w : World) : Calls Tryd.prog 26 #[.int .i64 7] w (IsCodec w (fnv 53) (fnv 54) (fnv 36)) := by
  go_enter Tryd.func26, Tryd.ntmps26
  go_wp2_with fail
  go_ret
  exact ⟨w.heap.size, rfl, ⟨by simp [fnv], by simp [fnv], by simp [fnv]⟩, (Mod.refl _ _).alloc _, Nat.le_refl _⟩

theorem num_caps (w : World) (o o' : Obj) (t : UInt8) (z : Int) (T T' : Nat) (hz : z = (t.toNat : Int)) : CapAt ((((w.alloc o).alloc (.cells #[.int .u8 z] T)).alloc (.cells #[.func (.func 50) #[] #[]] T')).alloc o') (w.heap.size + 1) (w.heap.size + 1 + 1) t := by
  subst hz
  have e1 : (w.alloc o).heap.size = w.heap.size + 1 := by simp
  have e2 : ((w.alloc o).alloc (.cells #[.int .u8 (t.toNat : Int)] T)).heap.size = w.heap.size + 1 + 1 := by simp
  have c1 : ((w.alloc o).alloc (.cells #[.int .u8 (t.toNat : Int)] T)).cell? ⟨w.heap.size + 1, 0, none⟩ = some (.int .u8 (t.toNat : Int)) := by rw [← e1]; exact cell_of_obj (heap_alloc_new _ _) rfl
  have c2 : (((w.alloc o).alloc (.cells #[.int .u8 (t.toNat : Int)] T)).alloc (.cells #[.func (.func 50) #[] #[]] T')).cell? ⟨w.heap.size + 1 + 1, 0, none⟩ = some (.func (.func 50) #[] #[]) := by rw [← e2]; exact cell_of_obj (heap_alloc_new _ _) rfl
  exact ⟨(((Mod.refl NoB _).alloc _).alloc _).cell (a := ⟨_, 0, none⟩) (fun x => x) c1, ((Mod.refl NoB _).alloc _).cell (a := ⟨_, 0, none⟩) (fun x => x) c2⟩

theorem of_5 (w : World) : Calls Tryd.prog 26 #[.int .i64 5] w (IsNum w 16) := by
  go_enter Tryd.func26, Tryd.ntmps26
  go_wp2_with (go_at_call 49; refine (number_any 16 _).mono ?_; rintro e w' ⟨rfl, rfl⟩)
  go_ret
  refine ⟨w.heap.size, w.heap.size + 1, w.heap.size + 1 + 1, rfl, ?_, ?_, ?_, Nat.le_refl _, by omega, by omega⟩
  · have h0 : ∀ (a b c : Value), CodecAt (w.alloc (.cells #[a, b, c] 79)) w.heap.size a b c := fun a b c => ⟨cell_of_obj (heap_alloc_new w _) rfl, cell_of_obj (heap_alloc_new w _) rfl, cell_of_obj (heap_alloc_new w _) rfl⟩
    exact (h0 _ _ _).mod ((((Mod.refl NoB _).alloc _).alloc _).alloc _) (fun x => x)
  · exact num_caps w _ _ _ _ _ _ rfl
  · exact ((((Mod.refl _ _).alloc _).alloc _).alloc _).alloc _

theorem of_8 (w : World) : Calls Tryd.prog 26 #[.int .i64 8] w (IsNum w 28) := by
  go_enter Tryd.func26, Tryd.ntmps26
  go_wp2_with (go_at_call 49; refine (number_any 28 _).mono ?_; rintro e w' ⟨rfl, rfl⟩)
  go_ret
  refine ⟨w.heap.size, w.heap.size + 1, w.heap.size + 1 + 1, rfl, ?_, ?_, ?_, Nat.le_refl _, by omega, by omega⟩
  · have h0 : ∀ (a b c : Value), CodecAt (w.alloc (.cells #[a, b, c] 79)) w.heap.size a b c := fun a b c => ⟨cell_of_obj (heap_alloc_new w _) rfl, cell_of_obj (heap_alloc_new w _) rfl, cell_of_obj (heap_alloc_new w _) rfl⟩
    exact (h0 _ _ _).mod ((((Mod.refl NoB _).alloc _).alloc _).alloc _) (fun x => x)
  · exact num_caps w _ _ _ _ _ _ rfl
  · exact ((((Mod.refl _ _).alloc _).alloc _).alloc _).alloc _

theorem of_no (k : Int) (hk : k < 1 ∨ 8 < k) (w : World) : Calls Tryd.prog 26 #[.int .i64 k] w fun e w' => e = .returned (.pointer none) ∧ Mod NoB w w' := by
  have d1 : (k == 1) = false := by simp; omega
  have d2 : (k == 2) = false := by simp; omega
  have d3 : (k == 3) = false := by simp; omega
  have d4 : (k == 4) = false := by simp; omega
  have d5 : (k == 5) = false := by simp; omega
  have d6 : (k == 6) = false := by simp; omega
  have d7 : (k == 7) = false := by simp; omega
  have d8 : (k == 8) = false := by simp; omega
  go_enter Tryd.func26, Tryd.ntmps26
  go_wp2_with fail
  go_ret
  exact ⟨rfl, (Mod.refl _ _).alloc _⟩
end Go.Proofs.YtddfdpbaiedcjaaDoor
