/- The statement Gathered, second form, its card: where what the law reads is of bulk at most 1048576, and the two listed variables read as listed, it returns true, and its argument reads behind the call as before. Part 15 of 23. -/
import Derived.Test.YtddfdpbaiedcjabGreatDoorGatheredPart14
/- mediawireref.written: a frame behind bytes; all kinds but the answer's (printed by mkrwrite.py). -/
namespace Go.Proofs.YtddfdpbaiedcjabGreatDoor
open Go.RowKit

theorem rvint_int (v : Value) (l : List UInt8) (z : Int) (w : World) (h : OB w v l) (hl : l.length ≤ 35184372088832) (h0 : 0 ≤ z) (hn : z < 4611686018427387904) :
    Calls Tryz.prog 50 #[v, .int .u64 z] w fun e w' => ∃ v', e = .returned v' ∧ App w v l (vint z.toNat) v' w' := by
  have := rvint_any v l z.toNat w h hl (by omega)
  rwa [Int.toNat_of_nonneg h0] at this

set_option maxRecDepth 100000 in
set_option maxHeartbeats 1000000 in
theorem rwrite_1 (v : Value) (l : List UInt8) (f : Frm) (rv : Value) (w : World) (h : OB w v l) (hl : l.length ≤ 17592186044416) (hb : f.Bounds) (hk : f.kind = 1) :
    Calls Tryz.prog 51 #[v, .agg (frCells f rv)] w (Apps w v l (bytesF f)) := by
  obtain ⟨s0, s8, bo, br, bl, bi, bd, bt⟩ := hb
  have hwr : IntKind.u64.wrap f.stream = f.stream := by rw [IntKind.wrap_u64]; omega
  have m0 : Mod NoB w (w.alloc (.cells (frCells f rv) 48)) := (Mod.refl _ _).alloc _
  have F0 : FrameAt (w.alloc (.cells (frCells f rv) 48)) w.heap.size f rv := heap_alloc_new w _
  have h0 : OB (w.alloc (.cells (frCells f rv) 48)) v l := h.mod0 m0
  obtain ⟨v1, w1, hr1, A1⟩ := lit1_app (w.alloc (.cells (frCells f rv) 48)) v l 1 1 h0 rfl (by omega)
  have F1 := F0.app h0 A1
  have L1 : (l ++ [(1 : UInt8)]).length ≤ 17592186044416 + 1 := by simp; omega
  have hsz : (w.alloc (.cells (frCells f rv) 48)).heap.size = w.heap.size + 1 := by simp
  rw [hsz] at hr1
  clear hsz
  have M0 := hide m0
  obtain ⟨a, cap, rfl, _⟩ := own_form h
  obtain ⟨c0, c1, c2, c3, c4, c5, c6, c7, c8, c9⟩ := F1.cells
  have HA1 := hide A1
  have HF1 := hide F1
  clear m0 F0 h h0 A1 F1
  unfold frCells at hr1 HA1 M0 ⊢
  rw [hk] at hr1 c0 HA1 M0
  go_enter Tryz.func51, Tryz.ntmps51
  go_wp2_with (at_builtin; refine wpList_append_is rfl _ _ _ _ rfl _ _ _ rfl rfl hr1 ?_; clear hr1)
  go_ret
  refine ⟨_, rfl, App.after M0.out ?_⟩
  have e : bytesF f = [1] := by simp [bytesF, bwrite3, bwrite4, bwrite4f, bwrite6, bwrite7, bnum, hk]
  rw [e]
  exact HA1.out

set_option maxRecDepth 100000 in
set_option maxHeartbeats 1000000 in
theorem rwrite_3 (v : Value) (l : List UInt8) (f : Frm) (rv : Value) (w : World) (h : OB w v l) (hl : l.length ≤ 17592186044416) (hb : f.Bounds) (hk : f.kind = 3) :
    Calls Tryz.prog 51 #[v, .agg (frCells f rv)] w (Apps w v l (bytesF f)) := by
  obtain ⟨s0, s8, bo, br, bl, bi, bd, bt⟩ := hb
  have hwr : IntKind.u64.wrap f.stream = f.stream := by rw [IntKind.wrap_u64]; omega
  have m0 : Mod NoB w (w.alloc (.cells (frCells f rv) 48)) := (Mod.refl _ _).alloc _
  have F0 : FrameAt (w.alloc (.cells (frCells f rv) 48)) w.heap.size f rv := heap_alloc_new w _
  have h0 : OB (w.alloc (.cells (frCells f rv) 48)) v l := h.mod0 m0
  obtain ⟨v1, w1, hr1, A1⟩ := lit1_app (w.alloc (.cells (frCells f rv) 48)) v l 36 36 h0 rfl (by omega)
  have F1 := F0.app h0 A1
  have L1 : (l ++ [(36 : UInt8)]).length ≤ 17592186044416 + 1 := by simp; omega
  have hsz : (w.alloc (.cells (frCells f rv) 48)).heap.size = w.heap.size + 1 := by simp
  rw [hsz] at hr1
  clear hsz
  have M0 := hide m0
  obtain ⟨a, cap, rfl, _⟩ := own_form h
  obtain ⟨c0, c1, c2, c3, c4, c5, c6, c7, c8, c9⟩ := F1.cells
  have HA1 := hide A1
  have HF1 := hide F1
  clear m0 F0 h h0 A1 F1
  unfold frCells at hr1 HA1 M0 ⊢
  rw [hk] at hr1 c0 HA1 M0
  go_enter Tryz.func51, Tryz.ntmps51
  go_wp2_with (at_builtin; refine wpList_append_is rfl _ _ _ _ rfl _ _ _ rfl rfl hr1 ?_; clear hr1)
  refine (rvint_int v1 (l ++ ([36])) f.stream w1 HA1.out.own (by omega) (by omega) (by omega)).mono ?_
  rintro e w2 ⟨v2, rfl, ap⟩
  have HF2 := hide (HF1.out.app HA1.out.own ap)
  have HA2 := hide (HA1.out.trans ap)
  have L2 : (l ++ ([36] ++ vint f.stream.toNat)).length ≤ 17592186044416 + 9 := by have := vint_length (f.stream.toNat); simp at this L1 ⊢; omega
  clear ap c0 c1 c2 c3 c4 c5 c6 c7 c8 c9
  obtain ⟨c0, c1, c2, c3, c4, c5, c6, c7, c8, c9⟩ := HF2.out.cells
  rw [hk] at c0
  go_wp2_with fail
  refine (rvint_any v2 (l ++ ([36] ++ vint f.stream.toNat)) (f.off) w2 HA2.out.own (by omega) (by omega)).mono ?_
  rintro e w3 ⟨v3, rfl, ap⟩
  have HF3 := hide (HF2.out.app HA2.out.own ap)
  have HA3 := hide (HA2.out.trans ap)
  have L3 : (l ++ ([36] ++ vint f.stream.toNat ++ vint f.off)).length ≤ 17592186044416 + 17 := by have := vint_length (f.off); simp at this L2 ⊢; omega
  clear ap c0 c1 c2 c3 c4 c5 c6 c7 c8 c9
  obtain ⟨c0, c1, c2, c3, c4, c5, c6, c7, c8, c9⟩ := HF3.out.cells
  rw [hk] at c0
  go_wp2_with fail
  refine (rvint_any v3 (l ++ ([36] ++ vint f.stream.toNat ++ vint f.off)) (f.rel) w3 HA3.out.own (by omega) (by omega)).mono ?_
  rintro e w4 ⟨v4, rfl, ap⟩
  have HF4 := hide (HF3.out.app HA3.out.own ap)
  have HA4 := hide (HA3.out.trans ap)
  have L4 : (l ++ ([36] ++ vint f.stream.toNat ++ vint f.off ++ vint f.rel)).length ≤ 17592186044416 + 25 := by have := vint_length (f.rel); simp at this L3 ⊢; omega
  clear ap c0 c1 c2 c3 c4 c5 c6 c7 c8 c9
  obtain ⟨c0, c1, c2, c3, c4, c5, c6, c7, c8, c9⟩ := HF4.out.cells
  rw [hk] at c0
  go_wp2_with fail
  go_ret
  refine ⟨_, rfl, App.after M0.out ?_⟩
  have e : bytesF f = [36] ++ vint f.stream.toNat ++ vint f.off ++ vint f.rel := by simp [bytesF, bwrite3, bwrite4, bwrite4f, bwrite6, bwrite7, bnum, hk]
  rw [e]
  exact HA4.out

set_option maxRecDepth 100000 in
set_option maxHeartbeats 1000000 in
theorem rwrite_4 (v : Value) (l : List UInt8) (f : Frm) (rv : Value) (w : World) (h : OB w v l) (hl : l.length ≤ 17592186044416) (hb : f.Bounds) (hk : f.kind = 4) (hfin : f.fin = false) :
    Calls Tryz.prog 51 #[v, .agg (frCells f rv)] w (Apps w v l (bytesF f)) := by
  obtain ⟨s0, s8, bo, br, bl, bi, bd, bt⟩ := hb
  have hwr : IntKind.u64.wrap f.stream = f.stream := by rw [IntKind.wrap_u64]; omega
  have m0 : Mod NoB w (w.alloc (.cells (frCells f rv) 48)) := (Mod.refl _ _).alloc _
  have F0 : FrameAt (w.alloc (.cells (frCells f rv) 48)) w.heap.size f rv := heap_alloc_new w _
  have h0 : OB (w.alloc (.cells (frCells f rv) 48)) v l := h.mod0 m0
  obtain ⟨v1, w1, hr1, A1⟩ := lit1_app (w.alloc (.cells (frCells f rv) 48)) v l 8 8 h0 rfl (by omega)
  have F1 := F0.app h0 A1
  have L1 : (l ++ [(8 : UInt8)]).length ≤ 17592186044416 + 1 := by simp; omega
  have hsz : (w.alloc (.cells (frCells f rv) 48)).heap.size = w.heap.size + 1 := by simp
  rw [hsz] at hr1
  clear hsz
  have M0 := hide m0
  obtain ⟨a, cap, rfl, _⟩ := own_form h
  obtain ⟨c0, c1, c2, c3, c4, c5, c6, c7, c8, c9⟩ := F1.cells
  have HA1 := hide A1
  have HF1 := hide F1
  clear m0 F0 h h0 A1 F1
  unfold frCells at hr1 HA1 M0 ⊢
  rw [hk] at hr1 c0 HA1 M0
  rw [hfin] at hr1 c5 HA1 M0
  have hz := strOf_size f.data
  have hzm : (strOf f.data).size ≤ 9223372036854775807 := by omega
  go_enter Tryz.func51, Tryz.ntmps51
  go_wp2_with (at_builtin; refine wpList_append_is rfl _ _ _ _ rfl _ _ _ rfl rfl hr1 ?_; clear hr1)
  refine (rvint_int v1 (l ++ ([8])) f.stream w1 HA1.out.own (by omega) (by omega) (by omega)).mono ?_
  rintro e w2 ⟨v2, rfl, ap⟩
  have HF2 := hide (HF1.out.app HA1.out.own ap)
  have HA2 := hide (HA1.out.trans ap)
  have L2 : (l ++ ([8] ++ vint f.stream.toNat)).length ≤ 17592186044416 + 9 := by have := vint_length (f.stream.toNat); simp at this L1 ⊢; omega
  clear ap c0 c1 c2 c3 c4 c5 c6 c7 c8 c9
  obtain ⟨c0, c1, c2, c3, c4, c5, c6, c7, c8, c9⟩ := HF2.out.cells
  rw [hk] at c0
  go_wp2_with fail
  refine (rvint_any v2 (l ++ ([8] ++ vint f.stream.toNat)) (f.off) w2 HA2.out.own (by omega) (by omega)).mono ?_
  rintro e w3 ⟨v3, rfl, ap⟩
  have HF3 := hide (HF2.out.app HA2.out.own ap)
  have HA3 := hide (HA2.out.trans ap)
  have L3 : (l ++ ([8] ++ vint f.stream.toNat ++ vint f.off)).length ≤ 17592186044416 + 17 := by have := vint_length (f.off); simp at this L2 ⊢; omega
  clear ap c0 c1 c2 c3 c4 c5 c6 c7 c8 c9
  obtain ⟨c0, c1, c2, c3, c4, c5, c6, c7, c8, c9⟩ := HF3.out.cells
  rw [hk] at c0
  go_wp2_with fail
  refine (rvint_any v3 (l ++ ([8] ++ vint f.stream.toNat ++ vint f.off)) (f.data.length) w3 HA3.out.own (by omega) (by omega)).mono ?_
  rintro e w4 ⟨v4, rfl, ap⟩
  have HF4 := hide (HF3.out.app HA3.out.own ap)
  have HA4 := hide (HA3.out.trans ap)
  have L4 : (l ++ ([8] ++ vint f.stream.toNat ++ vint f.off ++ vint f.data.length)).length ≤ 17592186044416 + 25 := by have := vint_length (f.data.length); simp at this L3 ⊢; omega
  clear ap c0 c1 c2 c3 c4 c5 c6 c7 c8 c9
  obtain ⟨c0, c1, c2, c3, c4, c5, c6, c7, c8, c9⟩ := HF4.out.cells
  rw [hk] at c0
  have ow := HA4.out.own
  obtain ⟨LL, hLL⟩ : ∃ LL, l ++ ([8] ++ vint f.stream.toNat ++ vint f.off ++ vint f.data.length) = LL := ⟨_, rfl⟩
  rw [hLL] at ow L4
  obtain ⟨v5, w5, hr5, A5⟩ := str_app w4 v4 LL (strOf f.data) ow (by rw [strOf_size]; omega)
  rw [strOf_list] at A5
  have HA5 := hide (HA4.out.trans (by rw [hLL]; exact A5))
  clear A5 hLL
  obtain ⟨xa, xc, rfl, _⟩ := own_form ow
  clear ow
  go_wp2_with (at_builtin; refine wpList_append_is rfl _ _ _ _ rfl _ _ _ rfl rfl hr5 ?_)
  go_ret
  refine ⟨_, rfl, App.after M0.out ?_⟩
  have e : bytesF f = [8] ++ vint f.stream.toNat ++ vint f.off ++ vint f.data.length ++ f.data := by simp [bytesF, bwrite3, bwrite4, bwrite4f, bwrite6, bwrite7, bnum, hk, hfin]
  rw [e]
  exact HA5.out

set_option maxRecDepth 100000 in
set_option maxHeartbeats 1000000 in
theorem rwrite_4f (v : Value) (l : List UInt8) (f : Frm) (rv : Value) (w : World) (h : OB w v l) (hl : l.length ≤ 17592186044416) (hb : f.Bounds) (hk : f.kind = 4) (hfin : f.fin = true) :
    Calls Tryz.prog 51 #[v, .agg (frCells f rv)] w (Apps w v l (bytesF f)) := by
  obtain ⟨s0, s8, bo, br, bl, bi, bd, bt⟩ := hb
  have hwr : IntKind.u64.wrap f.stream = f.stream := by rw [IntKind.wrap_u64]; omega
  have m0 : Mod NoB w (w.alloc (.cells (frCells f rv) 48)) := (Mod.refl _ _).alloc _
  have F0 : FrameAt (w.alloc (.cells (frCells f rv) 48)) w.heap.size f rv := heap_alloc_new w _
  have h0 : OB (w.alloc (.cells (frCells f rv) 48)) v l := h.mod0 m0
  obtain ⟨v1, w1, hr1, A1⟩ := lit1_app (w.alloc (.cells (frCells f rv) 48)) v l 9 9 h0 rfl (by omega)
  have F1 := F0.app h0 A1
  have L1 : (l ++ [(9 : UInt8)]).length ≤ 17592186044416 + 1 := by simp; omega
  have hsz : (w.alloc (.cells (frCells f rv) 48)).heap.size = w.heap.size + 1 := by simp
  rw [hsz] at hr1
  clear hsz
  have M0 := hide m0
  obtain ⟨a, cap, rfl, _⟩ := own_form h
  obtain ⟨c0, c1, c2, c3, c4, c5, c6, c7, c8, c9⟩ := F1.cells
  have HA1 := hide A1
  have HF1 := hide F1
  clear m0 F0 h h0 A1 F1
  unfold frCells at hr1 HA1 M0 ⊢
  rw [hk] at hr1 c0 HA1 M0
  rw [hfin] at hr1 c5 HA1 M0
  have hz := strOf_size f.data
  have hzm : (strOf f.data).size ≤ 9223372036854775807 := by omega
  go_enter Tryz.func51, Tryz.ntmps51
  go_wp2_with (at_builtin; refine wpList_append_is rfl _ _ _ _ rfl _ _ _ rfl rfl hr1 ?_; clear hr1)
  refine (rvint_int v1 (l ++ ([9])) f.stream w1 HA1.out.own (by omega) (by omega) (by omega)).mono ?_
  rintro e w2 ⟨v2, rfl, ap⟩
  have HF2 := hide (HF1.out.app HA1.out.own ap)
  have HA2 := hide (HA1.out.trans ap)
  have L2 : (l ++ ([9] ++ vint f.stream.toNat)).length ≤ 17592186044416 + 9 := by have := vint_length (f.stream.toNat); simp at this L1 ⊢; omega
  clear ap c0 c1 c2 c3 c4 c5 c6 c7 c8 c9
  obtain ⟨c0, c1, c2, c3, c4, c5, c6, c7, c8, c9⟩ := HF2.out.cells
  rw [hk] at c0
  go_wp2_with fail
  refine (rvint_any v2 (l ++ ([9] ++ vint f.stream.toNat)) (f.off) w2 HA2.out.own (by omega) (by omega)).mono ?_
  rintro e w3 ⟨v3, rfl, ap⟩
  have HF3 := hide (HF2.out.app HA2.out.own ap)
  have HA3 := hide (HA2.out.trans ap)
  have L3 : (l ++ ([9] ++ vint f.stream.toNat ++ vint f.off)).length ≤ 17592186044416 + 17 := by have := vint_length (f.off); simp at this L2 ⊢; omega
  clear ap c0 c1 c2 c3 c4 c5 c6 c7 c8 c9
  obtain ⟨c0, c1, c2, c3, c4, c5, c6, c7, c8, c9⟩ := HF3.out.cells
  rw [hk] at c0
  go_wp2_with fail
  refine (rvint_any v3 (l ++ ([9] ++ vint f.stream.toNat ++ vint f.off)) (f.data.length) w3 HA3.out.own (by omega) (by omega)).mono ?_
  rintro e w4 ⟨v4, rfl, ap⟩
  have HF4 := hide (HF3.out.app HA3.out.own ap)
  have HA4 := hide (HA3.out.trans ap)
  have L4 : (l ++ ([9] ++ vint f.stream.toNat ++ vint f.off ++ vint f.data.length)).length ≤ 17592186044416 + 25 := by have := vint_length (f.data.length); simp at this L3 ⊢; omega
  clear ap c0 c1 c2 c3 c4 c5 c6 c7 c8 c9
  obtain ⟨c0, c1, c2, c3, c4, c5, c6, c7, c8, c9⟩ := HF4.out.cells
  rw [hk] at c0
  have ow := HA4.out.own
  obtain ⟨LL, hLL⟩ : ∃ LL, l ++ ([9] ++ vint f.stream.toNat ++ vint f.off ++ vint f.data.length) = LL := ⟨_, rfl⟩
  rw [hLL] at ow L4
  obtain ⟨v5, w5, hr5, A5⟩ := str_app w4 v4 LL (strOf f.data) ow (by rw [strOf_size]; omega)
  rw [strOf_list] at A5
  have HA5 := hide (HA4.out.trans (by rw [hLL]; exact A5))
  clear A5 hLL
  obtain ⟨xa, xc, rfl, _⟩ := own_form ow
  clear ow
  go_wp2_with (at_builtin; refine wpList_append_is rfl _ _ _ _ rfl _ _ _ rfl rfl hr5 ?_)
  go_ret
  refine ⟨_, rfl, App.after M0.out ?_⟩
  have e : bytesF f = [9] ++ vint f.stream.toNat ++ vint f.off ++ vint f.data.length ++ f.data := by simp [bytesF, bwrite3, bwrite4, bwrite4f, bwrite6, bwrite7, bnum, hk, hfin]
  rw [e]
  exact HA5.out

set_option maxRecDepth 100000 in
set_option maxHeartbeats 1000000 in
theorem rwrite_5 (v : Value) (l : List UInt8) (f : Frm) (rv : Value) (w : World) (h : OB w v l) (hl : l.length ≤ 17592186044416) (hb : f.Bounds) (hk : f.kind = 5) :
    Calls Tryz.prog 51 #[v, .agg (frCells f rv)] w (Apps w v l (bytesF f)) := by
  obtain ⟨s0, s8, bo, br, bl, bi, bd, bt⟩ := hb
  have hwr : IntKind.u64.wrap f.stream = f.stream := by rw [IntKind.wrap_u64]; omega
  have m0 : Mod NoB w (w.alloc (.cells (frCells f rv) 48)) := (Mod.refl _ _).alloc _
  have F0 : FrameAt (w.alloc (.cells (frCells f rv) 48)) w.heap.size f rv := heap_alloc_new w _
  have h0 : OB (w.alloc (.cells (frCells f rv) 48)) v l := h.mod0 m0
  obtain ⟨v1, w1, hr1, A1⟩ := lit1_app (w.alloc (.cells (frCells f rv) 48)) v l 16 16 h0 rfl (by omega)
  have F1 := F0.app h0 A1
  have L1 : (l ++ [(16 : UInt8)]).length ≤ 17592186044416 + 1 := by simp; omega
  have hsz : (w.alloc (.cells (frCells f rv) 48)).heap.size = w.heap.size + 1 := by simp
  rw [hsz] at hr1
  clear hsz
  have M0 := hide m0
  obtain ⟨a, cap, rfl, _⟩ := own_form h
  obtain ⟨c0, c1, c2, c3, c4, c5, c6, c7, c8, c9⟩ := F1.cells
  have HA1 := hide A1
  have HF1 := hide F1
  clear m0 F0 h h0 A1 F1
  unfold frCells at hr1 HA1 M0 ⊢
  rw [hk] at hr1 c0 HA1 M0
  go_enter Tryz.func51, Tryz.ntmps51
  go_wp2_with (at_builtin; refine wpList_append_is rfl _ _ _ _ rfl _ _ _ rfl rfl hr1 ?_; clear hr1)
  refine (rvint_any v1 (l ++ ([16])) (f.lim) w1 HA1.out.own (by omega) (by omega)).mono ?_
  rintro e w2 ⟨v2, rfl, ap⟩
  have HF2 := hide (HF1.out.app HA1.out.own ap)
  have HA2 := hide (HA1.out.trans ap)
  have L2 : (l ++ ([16] ++ vint f.lim)).length ≤ 17592186044416 + 9 := by have := vint_length (f.lim); simp at this L1 ⊢; omega
  clear ap c0 c1 c2 c3 c4 c5 c6 c7 c8 c9
  obtain ⟨c0, c1, c2, c3, c4, c5, c6, c7, c8, c9⟩ := HF2.out.cells
  rw [hk] at c0
  go_wp2_with fail
  go_ret
  refine ⟨_, rfl, App.after M0.out ?_⟩
  have e : bytesF f = [16] ++ vint f.lim := by simp [bytesF, bwrite3, bwrite4, bwrite4f, bwrite6, bwrite7, bnum, hk]
  rw [e]
  exact HA2.out

set_option maxRecDepth 100000 in
set_option maxHeartbeats 1000000 in
theorem rwrite_6 (v : Value) (l : List UInt8) (f : Frm) (rv : Value) (w : World) (h : OB w v l) (hl : l.length ≤ 17592186044416) (hb : f.Bounds) (hk : f.kind = 6) :
    Calls Tryz.prog 51 #[v, .agg (frCells f rv)] w (Apps w v l (bytesF f)) := by
  obtain ⟨s0, s8, bo, br, bl, bi, bd, bt⟩ := hb
  have hwr : IntKind.u64.wrap f.stream = f.stream := by rw [IntKind.wrap_u64]; omega
  have m0 : Mod NoB w (w.alloc (.cells (frCells f rv) 48)) := (Mod.refl _ _).alloc _
  have F0 : FrameAt (w.alloc (.cells (frCells f rv) 48)) w.heap.size f rv := heap_alloc_new w _
  have h0 : OB (w.alloc (.cells (frCells f rv) 48)) v l := h.mod0 m0
  obtain ⟨v1, w1, hr1, A1⟩ := lit1_app (w.alloc (.cells (frCells f rv) 48)) v l 17 17 h0 rfl (by omega)
  have F1 := F0.app h0 A1
  have L1 : (l ++ [(17 : UInt8)]).length ≤ 17592186044416 + 1 := by simp; omega
  have hsz : (w.alloc (.cells (frCells f rv) 48)).heap.size = w.heap.size + 1 := by simp
  rw [hsz] at hr1
  clear hsz
  have M0 := hide m0
  obtain ⟨a, cap, rfl, _⟩ := own_form h
  obtain ⟨c0, c1, c2, c3, c4, c5, c6, c7, c8, c9⟩ := F1.cells
  have HA1 := hide A1
  have HF1 := hide F1
  clear m0 F0 h h0 A1 F1
  unfold frCells at hr1 HA1 M0 ⊢
  rw [hk] at hr1 c0 HA1 M0
  go_enter Tryz.func51, Tryz.ntmps51
  go_wp2_with (at_builtin; refine wpList_append_is rfl _ _ _ _ rfl _ _ _ rfl rfl hr1 ?_; clear hr1)
  refine (rvint_int v1 (l ++ ([17])) f.stream w1 HA1.out.own (by omega) (by omega) (by omega)).mono ?_
  rintro e w2 ⟨v2, rfl, ap⟩
  have HF2 := hide (HF1.out.app HA1.out.own ap)
  have HA2 := hide (HA1.out.trans ap)
  have L2 : (l ++ ([17] ++ vint f.stream.toNat)).length ≤ 17592186044416 + 9 := by have := vint_length (f.stream.toNat); simp at this L1 ⊢; omega
  clear ap c0 c1 c2 c3 c4 c5 c6 c7 c8 c9
  obtain ⟨c0, c1, c2, c3, c4, c5, c6, c7, c8, c9⟩ := HF2.out.cells
  rw [hk] at c0
  go_wp2_with fail
  refine (rvint_any v2 (l ++ ([17] ++ vint f.stream.toNat)) (f.lim) w2 HA2.out.own (by omega) (by omega)).mono ?_
  rintro e w3 ⟨v3, rfl, ap⟩
  have HF3 := hide (HF2.out.app HA2.out.own ap)
  have HA3 := hide (HA2.out.trans ap)
  have L3 : (l ++ ([17] ++ vint f.stream.toNat ++ vint f.lim)).length ≤ 17592186044416 + 17 := by have := vint_length (f.lim); simp at this L2 ⊢; omega
  clear ap c0 c1 c2 c3 c4 c5 c6 c7 c8 c9
  obtain ⟨c0, c1, c2, c3, c4, c5, c6, c7, c8, c9⟩ := HF3.out.cells
  rw [hk] at c0
  go_wp2_with fail
  go_ret
  refine ⟨_, rfl, App.after M0.out ?_⟩
  have e : bytesF f = [17] ++ vint f.stream.toNat ++ vint f.lim := by simp [bytesF, bwrite3, bwrite4, bwrite4f, bwrite6, bwrite7, bnum, hk]
  rw [e]
  exact HA3.out

set_option maxRecDepth 100000 in
set_option maxHeartbeats 1000000 in
theorem rwrite_7 (v : Value) (l : List UInt8) (f : Frm) (rv : Value) (w : World) (h : OB w v l) (hl : l.length ≤ 17592186044416) (hb : f.Bounds) (hk : f.kind = 7) :
    Calls Tryz.prog 51 #[v, .agg (frCells f rv)] w (Apps w v l (bytesF f)) := by
  obtain ⟨s0, s8, bo, br, bl, bi, bd, bt⟩ := hb
  have hwr : IntKind.u64.wrap f.stream = f.stream := by rw [IntKind.wrap_u64]; omega
  have m0 : Mod NoB w (w.alloc (.cells (frCells f rv) 48)) := (Mod.refl _ _).alloc _
  have F0 : FrameAt (w.alloc (.cells (frCells f rv) 48)) w.heap.size f rv := heap_alloc_new w _
  have h0 : OB (w.alloc (.cells (frCells f rv) 48)) v l := h.mod0 m0
  obtain ⟨v1, w1, hr1, A1⟩ := lit1_app (w.alloc (.cells (frCells f rv) 48)) v l 48 48 h0 rfl (by omega)
  have F1 := F0.app h0 A1
  have L1 : (l ++ [(48 : UInt8)]).length ≤ 17592186044416 + 1 := by simp; omega
  have hsz : (w.alloc (.cells (frCells f rv) 48)).heap.size = w.heap.size + 1 := by simp
  rw [hsz] at hr1
  clear hsz
  have M0 := hide m0
  obtain ⟨a, cap, rfl, _⟩ := own_form h
  obtain ⟨c0, c1, c2, c3, c4, c5, c6, c7, c8, c9⟩ := F1.cells
  have HA1 := hide A1
  have HF1 := hide F1
  clear m0 F0 h h0 A1 F1
  unfold frCells at hr1 HA1 M0 ⊢
  rw [hk] at hr1 c0 HA1 M0
  have hz := strOf_size f.data
  have hzm : (strOf f.data).size ≤ 9223372036854775807 := by omega
  go_enter Tryz.func51, Tryz.ntmps51
  go_wp2_with (at_builtin; refine wpList_append_is rfl _ _ _ _ rfl _ _ _ rfl rfl hr1 ?_; clear hr1)
  refine (rvint_any v1 (l ++ ([48])) (f.id) w1 HA1.out.own (by omega) (by omega)).mono ?_
  rintro e w2 ⟨v2, rfl, ap⟩
  have HF2 := hide (HF1.out.app HA1.out.own ap)
  have HA2 := hide (HA1.out.trans ap)
  have L2 : (l ++ ([48] ++ vint f.id)).length ≤ 17592186044416 + 9 := by have := vint_length (f.id); simp at this L1 ⊢; omega
  clear ap c0 c1 c2 c3 c4 c5 c6 c7 c8 c9
  obtain ⟨c0, c1, c2, c3, c4, c5, c6, c7, c8, c9⟩ := HF2.out.cells
  rw [hk] at c0
  go_wp2_with fail
  refine (rvint_any v2 (l ++ ([48] ++ vint f.id)) (f.dl) w2 HA2.out.own (by omega) (by omega)).mono ?_
  rintro e w3 ⟨v3, rfl, ap⟩
  have HF3 := hide (HF2.out.app HA2.out.own ap)
  have HA3 := hide (HA2.out.trans ap)
  have L3 : (l ++ ([48] ++ vint f.id ++ vint f.dl)).length ≤ 17592186044416 + 17 := by have := vint_length (f.dl); simp at this L2 ⊢; omega
  clear ap c0 c1 c2 c3 c4 c5 c6 c7 c8 c9
  obtain ⟨c0, c1, c2, c3, c4, c5, c6, c7, c8, c9⟩ := HF3.out.cells
  rw [hk] at c0
  go_wp2_with fail
  refine (rvint_any v3 (l ++ ([48] ++ vint f.id ++ vint f.dl)) (f.data.length) w3 HA3.out.own (by omega) (by omega)).mono ?_
  rintro e w4 ⟨v4, rfl, ap⟩
  have HF4 := hide (HF3.out.app HA3.out.own ap)
  have HA4 := hide (HA3.out.trans ap)
  have L4 : (l ++ ([48] ++ vint f.id ++ vint f.dl ++ vint f.data.length)).length ≤ 17592186044416 + 25 := by have := vint_length (f.data.length); simp at this L3 ⊢; omega
  clear ap c0 c1 c2 c3 c4 c5 c6 c7 c8 c9
  obtain ⟨c0, c1, c2, c3, c4, c5, c6, c7, c8, c9⟩ := HF4.out.cells
  rw [hk] at c0
  have ow := HA4.out.own
  obtain ⟨LL, hLL⟩ : ∃ LL, l ++ ([48] ++ vint f.id ++ vint f.dl ++ vint f.data.length) = LL := ⟨_, rfl⟩
  rw [hLL] at ow L4
  obtain ⟨v5, w5, hr5, A5⟩ := str_app w4 v4 LL (strOf f.data) ow (by rw [strOf_size]; omega)
  rw [strOf_list] at A5
  have HA5 := hide (HA4.out.trans (by rw [hLL]; exact A5))
  clear A5 hLL
  obtain ⟨xa, xc, rfl, _⟩ := own_form ow
  clear ow
  go_wp2_with (at_builtin; refine wpList_append_is rfl _ _ _ _ rfl _ _ _ rfl rfl hr5 ?_)
  go_ret
  refine ⟨_, rfl, App.after M0.out ?_⟩
  have e : bytesF f = [48] ++ vint f.id ++ vint f.dl ++ vint f.data.length ++ f.data := by simp [bytesF, bwrite3, bwrite4, bwrite4f, bwrite6, bwrite7, bnum, hk]
  rw [e]
  exact HA5.out

set_option maxRecDepth 100000 in
set_option maxHeartbeats 1000000 in
theorem rwrite_8 (v : Value) (l : List UInt8) (f : Frm) (rv : Value) (w : World) (h : OB w v l) (hl : l.length ≤ 17592186044416) (hb : f.Bounds) (hk : f.kind = 8) :
    Calls Tryz.prog 51 #[v, .agg (frCells f rv)] w (Apps w v l (bytesF f)) := by
  obtain ⟨s0, s8, bo, br, bl, bi, bd, bt⟩ := hb
  have hwr : IntKind.u64.wrap f.stream = f.stream := by rw [IntKind.wrap_u64]; omega
  have m0 : Mod NoB w (w.alloc (.cells (frCells f rv) 48)) := (Mod.refl _ _).alloc _
  have F0 : FrameAt (w.alloc (.cells (frCells f rv) 48)) w.heap.size f rv := heap_alloc_new w _
  have h0 : OB (w.alloc (.cells (frCells f rv) 48)) v l := h.mod0 m0
  obtain ⟨v1, w1, hr1, A1⟩ := lit1_app (w.alloc (.cells (frCells f rv) 48)) v l 28 28 h0 rfl (by omega)
  have F1 := F0.app h0 A1
  have L1 : (l ++ [(28 : UInt8)]).length ≤ 17592186044416 + 1 := by simp; omega
  have hsz : (w.alloc (.cells (frCells f rv) 48)).heap.size = w.heap.size + 1 := by simp
  rw [hsz] at hr1
  clear hsz
  have M0 := hide m0
  obtain ⟨a, cap, rfl, _⟩ := own_form h
  obtain ⟨c0, c1, c2, c3, c4, c5, c6, c7, c8, c9⟩ := F1.cells
  have HA1 := hide A1
  have HF1 := hide F1
  clear m0 F0 h h0 A1 F1
  unfold frCells at hr1 HA1 M0 ⊢
  rw [hk] at hr1 c0 HA1 M0
  go_enter Tryz.func51, Tryz.ntmps51
  go_wp2_with (at_builtin; refine wpList_append_is rfl _ _ _ _ rfl _ _ _ rfl rfl hr1 ?_; clear hr1)
  refine (rvint_any v1 (l ++ ([28])) (f.lim) w1 HA1.out.own (by omega) (by omega)).mono ?_
  rintro e w2 ⟨v2, rfl, ap⟩
  have HF2 := hide (HF1.out.app HA1.out.own ap)
  have HA2 := hide (HA1.out.trans ap)
  have L2 : (l ++ ([28] ++ vint f.lim)).length ≤ 17592186044416 + 9 := by have := vint_length (f.lim); simp at this L1 ⊢; omega
  clear ap c0 c1 c2 c3 c4 c5 c6 c7 c8 c9
  obtain ⟨c0, c1, c2, c3, c4, c5, c6, c7, c8, c9⟩ := HF2.out.cells
  rw [hk] at c0
  go_wp2_with fail
  go_ret
  refine ⟨_, rfl, App.after M0.out ?_⟩
  have e : bytesF f = [28] ++ vint f.lim := by simp [bytesF, bwrite3, bwrite4, bwrite4f, bwrite6, bwrite7, bnum, hk]
  rw [e]
  exact HA2.out

end Go.Proofs.YtddfdpbaiedcjabGreatDoor
