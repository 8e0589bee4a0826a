/- The statement Gathered, second form, its card: where what the law reads is of bulk at most 1048576, and the two listed variables read as listed, it returns true, and its argument reads behind the call as before. Part 16 of 23. -/
import Derived.Test.YtddfdpbaiedcjabGreatDoorGatheredPart15
import Derived.Test.YtddfdpbaiedcjabGreatDoorGatheredPart6
import Derived.Test.YtddfdpbaiedcjabGreatDoorGatheredPart13
/- mediawireref.written: an answer behind bytes (printed by mkrwrite2.py). -/
namespace Go.Proofs.YtddfdpbaiedcjabGreatDoor
open Go.RowKit

set_option maxRecDepth 100000 in
set_option maxHeartbeats 1000000 in
theorem rwrite_2 (v : Value) (l : List UInt8) (f : Frm) (a : Option Addr) (cap : Nat) (w : World) (hk : f.kind = 2) (hr : RR w (.slice a f.rngs.length cap) f.rngs) (hs : soundRs f.rngs = true) (hn : f.rngs.length ≤ 1099511627776) (hoff : OffS (fun k => v.ownBlock = some k) (.slice a f.rngs.length cap)) (h : OB w v l) (hl : l.length ≤ 8796093022208) :
    Calls Tryz.prog 51 #[v, .agg (frCells f (.slice a f.rngs.length cap))] w (Apps w v l (bytesF f)) := by
  have hpos : 0 < f.rngs.length := by
    unfold soundRs at hs
    simp only [Bool.and_eq_true, decide_eq_true_eq] at hs
    exact hs.2
  obtain ⟨a', cap', hav, h1, h2, h3⟩ := id hr
  cases hav
  unfold maxLen at h2
  obtain ⟨g, o, rfl, e1, e2, b1, b2⟩ := h3 0 hpos
  obtain ⟨k1, k2, _⟩ := ok_facts hs hpos
  have hgl := lt_of_cell e1
  have hvg : ¬ v.ownBlock = some g := hoff g o _ _ rfl
  have HB : Hid (bytesF f = ((([2] ++ vint (hiAt f.rngs 0)) ++ vint (f.rngs.length - 1)) ++ vint (hiAt f.rngs 0 - loAt f.rngs 0)) ++ ackB f.rngs (f.rngs.length - 1)) := by
    show _ = _
    simp [bytesF, hk, bwrite2]
  have hH : ∀ i, i < f.rngs.length → loAt f.rngs i ≤ hiAt f.rngs i ∧ hiAt f.rngs i ≤ 4611686018427387903 ∧ (0 < i → hiAt f.rngs i + 2 ≤ loAt f.rngs (i - 1)) := fun i hi => ok_facts hs hi
  have HH := hide hH
  clear hH
  obtain ⟨lo, hlo⟩ : ∃ x, loAt f.rngs 0 = x := ⟨_, rfl⟩
  obtain ⟨hi, hhi⟩ : ∃ x, hiAt f.rngs 0 = x := ⟨_, rfl⟩
  rw [hlo] at e1 b1 k1
  rw [hhi] at e2 b2 k1 k2
  rw [hlo, hhi] at HB
  simp only [Nat.zero_mul, Nat.add_zero] at e1 e2
  have HLO := hide hlo
  clear hlo hhi h3
  have z1 : IntKind.i64.wrap ((f.rngs.length : Int) - 1) = (f.rngs.length : Int) - 1 := IntWalk.i64_in _ (by omega)
  have z2 : IntKind.u64.wrap ((f.rngs.length : Int) - 1) = ((f.rngs.length - 1 : Nat) : Int) := by rw [IntKind.wrap_u64]; omega
  have z3 : IntKind.u64.wrap ((hi : Int) - lo) = ((hi - lo : Nat) : Int) := by rw [IntKind.wrap_u64]; omega
  have m0 : Mod NoB w (w.alloc (.cells (frCells f (.slice (some ⟨g, o, none⟩) f.rngs.length cap)) 48)) := (Mod.refl _ _).alloc _
  have F0 : FrameAt (w.alloc (.cells (frCells f (.slice (some ⟨g, o, none⟩) f.rngs.length cap)) 48)) w.heap.size f (.slice (some ⟨g, o, none⟩) f.rngs.length cap) := heap_alloc_new w _
  have h0 : OB (w.alloc (.cells (frCells f (.slice (some ⟨g, o, none⟩) f.rngs.length cap)) 48)) v l := h.mod0 m0
  obtain ⟨v1, w1, hr1, A1⟩ := lit1_app (w.alloc (.cells (frCells f (.slice (some ⟨g, o, none⟩) f.rngs.length cap)) 48)) v l 2 2 h0 rfl (by omega)
  have F1 := F0.app h0 A1
  have L1 : (l ++ [(2 : UInt8)]).length ≤ 8796093022208 + 1 := by simp; omega
  have hsz : (w.alloc (.cells (frCells f (.slice (some ⟨g, o, none⟩) f.rngs.length cap)) 48)).heap.size = w.heap.size + 1 := by simp
  rw [hsz] at hr1
  clear hsz
  obtain ⟨W0, hW0⟩ : ∃ W0, w.alloc (.cells (frCells f (.slice (some ⟨g, o, none⟩) f.rngs.length cap)) 48) = W0 := ⟨_, rfl⟩
  have M0 : Hid (Mod NoB w W0) := by rw [← hW0]; exact m0
  have HR0 : Hid (RR W0 (.slice (some ⟨g, o, none⟩) f.rngs.length cap) f.rngs) := by rw [← hW0]; exact hr.mod m0 (OffS.no _)
  have HA1 : Hid (App W0 v l [2] v1 w1) := by rw [← hW0]; exact A1
  have HF0 : Hid (FrameAt W0 w.heap.size f (.slice (some ⟨g, o, none⟩) f.rngs.length cap)) := by rw [← hW0]; exact F0
  have HO0 : Hid (OB W0 v l) := by rw [← hW0]; exact h0
  have HF1 := hide F1
  have g1 : w1.cell? ⟨g, o, none⟩ = some (.int .u64 (lo : Int)) := A1.mod.cell (a := ⟨g, o, none⟩) hvg (m0.cell (a := ⟨g, o, none⟩) (fun x => x) e1)
  have g2 : w1.cell? ⟨g, o + 1, none⟩ = some (.int .u64 (hi : Int)) := A1.mod.cell (a := ⟨g, o + 1, none⟩) hvg (m0.cell (a := ⟨g, o + 1, none⟩) (fun x => x) e2)
  obtain ⟨c0, c1, c2, c3, c4, c5, c6, c7, c8, c9⟩ := F1.cells
  have HE2 : Hid (W0.cell? ⟨g, o + 1, none⟩ = some (.int .u64 (hi : Int))) := by rw [← hW0]; exact m0.cell (a := ⟨g, o + 1, none⟩) (fun x => x) e2
  obtain ⟨va, vc, rfl, _⟩ := own_form h
  have HK := hide hk
  have HVG := hide hvg
  clear m0 F0 h0 A1 F1 hr hs hoff e1 e2 h hvg
  unfold frCells at hr1 hW0 ⊢
  rw [hk] at hr1 c0 hW0
  have HW0 := hide hW0
  clear hW0
  go_enter Tryz.func51, Tryz.ntmps51
  go_wp2_with (at_builtin; refine wpList_append_is rfl _ _ _ _ rfl _ _ _ rfl rfl hr1 ?_; clear hr1)
  refine (rvint_any v1 (l ++ ([2])) (hi) w1 HA1.out.own (by omega) (by omega)).mono ?_
  rintro e w2 ⟨v2, rfl, ap⟩
  have HF2 := hide (HF1.out.app HA1.out.own ap)
  have HA2 := hide (HA1.out.trans ap)
  have L2 : (l ++ ([2] ++ vint hi)).length ≤ 8796093022208 + 9 := by have := vint_length (hi); simp at this L1 ⊢; omega
  clear ap g1 g2
  have hg2 : ¬ v2.ownBlock = some g := fun hx => by
    rcases HA2.out.at_ g hx with x | x
    · exact HVG.out x
    · have := M0.out.size
      omega
  have g1 : w2.cell? ⟨g, o, none⟩ = some (.int .u64 (lo : Int)) := HA2.out.mod.cell (a := ⟨g, o, none⟩) HVG.out (by have := HR0.out.cell0 hpos; simpa [HLO.out] using this)
  have g2 : w2.cell? ⟨g, o + 1, none⟩ = some (.int .u64 (hi : Int)) := HA2.out.mod.cell (a := ⟨g, o + 1, none⟩) HVG.out HE2.out
  clear c0 c1 c2 c3 c4 c5 c6 c7 c8 c9
  obtain ⟨c0, c1, c2, c3, c4, c5, c6, c7, c8, c9⟩ := HF2.out.cells
  rw [HK.out] at c0
  go_wp2_with fail
  refine (rvint_any v2 (l ++ ([2] ++ vint hi)) (f.rngs.length - 1) w2 HA2.out.own (by omega) (by omega)).mono ?_
  rintro e w3 ⟨v3, rfl, ap⟩
  have HF3 := hide (HF2.out.app HA2.out.own ap)
  have HA3 := hide (HA2.out.trans ap)
  have L3 : (l ++ ([2] ++ vint hi ++ vint (f.rngs.length - 1))).length ≤ 8796093022208 + 17 := by have := vint_length (f.rngs.length - 1); simp at this L2 ⊢; omega
  clear ap g1 g2
  have hg3 : ¬ v3.ownBlock = some g := fun hx => by
    rcases HA3.out.at_ g hx with x | x
    · exact HVG.out x
    · have := M0.out.size
      omega
  have g1 : w3.cell? ⟨g, o, none⟩ = some (.int .u64 (lo : Int)) := HA3.out.mod.cell (a := ⟨g, o, none⟩) HVG.out (by have := HR0.out.cell0 hpos; simpa [HLO.out] using this)
  have g2 : w3.cell? ⟨g, o + 1, none⟩ = some (.int .u64 (hi : Int)) := HA3.out.mod.cell (a := ⟨g, o + 1, none⟩) HVG.out HE2.out
  clear c0 c1 c2 c3 c4 c5 c6 c7 c8 c9
  obtain ⟨c0, c1, c2, c3, c4, c5, c6, c7, c8, c9⟩ := HF3.out.cells
  rw [HK.out] at c0
  go_wp2_with fail
  have A3 : App W0 (.slice va l.length vc) l ([2] ++ vint hi ++ vint (f.rngs.length - 1)) v3 w3.drew := HA3.out.drewR
  have F3 : FrameAt w3.drew w.heap.size f (.slice (some ⟨g, o, none⟩) f.rngs.length cap) := HF3.out.mod (S := NoB) (Mod.refl _ _).drew (fun x => x)
  clear c0 c1 c2 c3 c4 c5 c6 c7 c8 c9
  refine GT_start 14 (fun w' => FrameAt w' w.heap.size f (.slice (some ⟨g, o, none⟩) f.rngs.length cap) ∧ w'.cell? ⟨g, o, none⟩ = some (.int .u64 (lo : Int)) ∧ w'.cell? ⟨g, o + 1, none⟩ = some (.int .u64 (hi : Int))) (by kernel_rfl) (by kernel_rfl) ⟨F3, g1, g2⟩ ?_
  refine GT_take (i := 0) (v := ?_) rfl (by kernel_rfl) (fun _ _ _ h => h) (Or.inl ⟨by rfl, ?_⟩) ?_
  rotate_left
  · (intro wx hFx; (try dsimp only at hFx); have hc := hFx.1.cells; obtain ⟨ca, cb⟩ := hFx.2; clear hFx; obtain ⟨c0, c1, c2, c3, c4, c5, c6, c7, c8, c9⟩ := hc; go_simp) <;> (try with_reducible rfl)
  try simp only [Act.put, List.setIfInBounds_toArray, List.set_cons_zero, List.set_cons_succ, List.getElem_toArray, List.getElem_cons_zero, List.getElem_cons_succ]
  refine GT_take (i := 1) (v := ?_) rfl (by kernel_rfl) (fun _ _ _ h => h) (Or.inl ⟨by rfl, ?_⟩) ?_
  rotate_left
  · (intro wx hFx; (try dsimp only at hFx); have hc := hFx.1.cells; obtain ⟨ca, cb⟩ := hFx.2; clear hFx; obtain ⟨c0, c1, c2, c3, c4, c5, c6, c7, c8, c9⟩ := hc; go_simp) <;> (try with_reducible rfl)
  try simp only [Act.put, List.setIfInBounds_toArray, List.set_cons_zero, List.set_cons_succ, List.getElem_toArray, List.getElem_cons_zero, List.getElem_cons_succ]
  refine GT_take (i := 2) (v := ?_) rfl (by kernel_rfl) (fun _ _ _ h => h) (Or.inl ⟨by rfl, ?_⟩) ?_
  rotate_left
  · (intro wx hFx; (try dsimp only at hFx); have hc := hFx.1.cells; obtain ⟨ca, cb⟩ := hFx.2; clear hFx; obtain ⟨c0, c1, c2, c3, c4, c5, c6, c7, c8, c9⟩ := hc; go_simp) <;> (try with_reducible rfl)
  try simp only [Act.put, List.setIfInBounds_toArray, List.set_cons_zero, List.set_cons_succ, List.getElem_toArray, List.getElem_cons_zero, List.getElem_cons_succ]
  refine GT_take (i := 3) (v := ?_) rfl (by kernel_rfl) (fun _ _ _ h => h) (Or.inl ⟨by rfl, ?_⟩) ?_
  rotate_left
  · (intro wx hFx; (try dsimp only at hFx); have hc := hFx.1.cells; obtain ⟨ca, cb⟩ := hFx.2; clear hFx; obtain ⟨c0, c1, c2, c3, c4, c5, c6, c7, c8, c9⟩ := hc; go_simp) <;> (try with_reducible rfl)
  try simp only [Act.put, List.setIfInBounds_toArray, List.set_cons_zero, List.set_cons_succ, List.getElem_toArray, List.getElem_cons_zero, List.getElem_cons_succ]
  refine GT_take (i := 4) (v := ?_) rfl (by kernel_rfl) (fun _ _ _ h => h) (Or.inl ⟨by rfl, ?_⟩) ?_
  rotate_left
  · (intro wx hFx; (try dsimp only at hFx); have hc := hFx.1.cells; obtain ⟨ca, cb⟩ := hFx.2; clear hFx; obtain ⟨c0, c1, c2, c3, c4, c5, c6, c7, c8, c9⟩ := hc; go_simp) <;> (try with_reducible rfl)
  try simp only [Act.put, List.setIfInBounds_toArray, List.set_cons_zero, List.set_cons_succ, List.getElem_toArray, List.getElem_cons_zero, List.getElem_cons_succ]
  refine GT_take (i := 5) (v := ?_) rfl (by kernel_rfl) (fun _ _ _ h => h) (Or.inl ⟨by rfl, ?_⟩) ?_
  rotate_left
  · (intro wx hFx; (try dsimp only at hFx); have hc := hFx.1.cells; obtain ⟨ca, cb⟩ := hFx.2; clear hFx; obtain ⟨c0, c1, c2, c3, c4, c5, c6, c7, c8, c9⟩ := hc; go_simp) <;> (try with_reducible rfl)
  try simp only [Act.put, List.setIfInBounds_toArray, List.set_cons_zero, List.set_cons_succ, List.getElem_toArray, List.getElem_cons_zero, List.getElem_cons_succ]
  refine GT_take (i := 6) (v := ?_) rfl (by kernel_rfl) (fun _ _ _ h => h) (Or.inl ⟨by rfl, ?_⟩) ?_
  rotate_left
  · (intro wx hFx; (try dsimp only at hFx); have hc := hFx.1.cells; obtain ⟨ca, cb⟩ := hFx.2; clear hFx; obtain ⟨c0, c1, c2, c3, c4, c5, c6, c7, c8, c9⟩ := hc; go_simp) <;> (try with_reducible rfl)
  try simp only [Act.put, List.setIfInBounds_toArray, List.set_cons_zero, List.set_cons_succ, List.getElem_toArray, List.getElem_cons_zero, List.getElem_cons_succ]
  refine GT_take (i := 7) (v := ?_) rfl (by kernel_rfl) (fun _ _ _ h => h) (Or.inl ⟨by rfl, ?_⟩) ?_
  rotate_left
  · (intro wx hFx; (try dsimp only at hFx); have hc := hFx.1.cells; obtain ⟨ca, cb⟩ := hFx.2; clear hFx; obtain ⟨c0, c1, c2, c3, c4, c5, c6, c7, c8, c9⟩ := hc; go_simp) <;> (try with_reducible rfl)
  try simp only [Act.put, List.setIfInBounds_toArray, List.set_cons_zero, List.set_cons_succ, List.getElem_toArray, List.getElem_cons_zero, List.getElem_cons_succ]
  refine GT_take (i := 8) (v := ?_) rfl (by kernel_rfl) (fun _ _ _ h => h) (Or.inl ⟨by rfl, ?_⟩) ?_
  rotate_left
  · (intro wx hFx; (try dsimp only at hFx); have hc := hFx.1.cells; obtain ⟨ca, cb⟩ := hFx.2; clear hFx; obtain ⟨c0, c1, c2, c3, c4, c5, c6, c7, c8, c9⟩ := hc; go_simp) <;> (try with_reducible rfl)
  try simp only [Act.put, List.setIfInBounds_toArray, List.set_cons_zero, List.set_cons_succ, List.getElem_toArray, List.getElem_cons_zero, List.getElem_cons_succ]
  refine GT_take (i := 9) (v := ?_) rfl (by kernel_rfl) (fun _ _ _ h => h) (Or.inl ⟨by rfl, ?_⟩) ?_
  rotate_left
  · (intro wx hFx; (try dsimp only at hFx); have hc := hFx.1.cells; obtain ⟨ca, cb⟩ := hFx.2; clear hFx; obtain ⟨c0, c1, c2, c3, c4, c5, c6, c7, c8, c9⟩ := hc; go_simp) <;> (try with_reducible rfl)
  try simp only [Act.put, List.setIfInBounds_toArray, List.set_cons_zero, List.set_cons_succ, List.getElem_toArray, List.getElem_cons_zero, List.getElem_cons_succ]
  refine GT_take (i := 10) (v := ?_) rfl (by kernel_rfl) (fun _ _ _ h => h) (Or.inl ⟨by rfl, ?_⟩) ?_
  rotate_left
  · (intro wx hFx; (try dsimp only at hFx); have hc := hFx.1.cells; obtain ⟨ca, cb⟩ := hFx.2; clear hFx; obtain ⟨c0, c1, c2, c3, c4, c5, c6, c7, c8, c9⟩ := hc; go_simp) <;> (try with_reducible rfl)
  try simp only [Act.put, List.setIfInBounds_toArray, List.set_cons_zero, List.set_cons_succ, List.getElem_toArray, List.getElem_cons_zero, List.getElem_cons_succ]
  refine GT_take (i := 11) (v := ?_) rfl (by kernel_rfl) (fun _ _ _ h => h) (Or.inl ⟨by rfl, ?_⟩) ?_
  rotate_left
  · (intro wx hFx; (try dsimp only at hFx); have hc := hFx.1.cells; obtain ⟨ca, cb⟩ := hFx.2; clear hFx; obtain ⟨c0, c1, c2, c3, c4, c5, c6, c7, c8, c9⟩ := hc; go_simp) <;> (try with_reducible rfl)
  try simp only [Act.put, List.setIfInBounds_toArray, List.set_cons_zero, List.set_cons_succ, List.getElem_toArray, List.getElem_cons_zero, List.getElem_cons_succ]
  refine GT_one (i := 12) rfl (by kernel_rfl) (fun K hK => ?_)
  go_simp
  refine (rvint_any v3 (l ++ ([2] ++ vint hi ++ vint (f.rngs.length - 1))) (hi - lo) w3.drew A3.own (by omega) (by omega)).mono ?_
  rintro e w4 ⟨v4, rfl, ap⟩
  have F4 := F3.app A3.own ap
  have A4 := A3.trans ap
  have g14 : w4.cell? ⟨g, o, none⟩ = some (.int .u64 (lo : Int)) := ap.mod.cell (a := ⟨g, o, none⟩) hg3 g1
  have g24 : w4.cell? ⟨g, o + 1, none⟩ = some (.int .u64 (hi : Int)) := ap.mod.cell (a := ⟨g, o + 1, none⟩) hg3 g2
  have L4 : (l ++ ([2] ++ vint hi ++ vint (f.rngs.length - 1) ++ vint (hi - lo))).length ≤ 8796093022208 + 25 := by have := vint_length (hi - lo); simp at this L3 ⊢; omega
  refine hK.out _ _ ⟨F4, g14, g24⟩ ?_
  clear ap
  clear hK K
  try simp only [Act.put, List.setIfInBounds_toArray, List.set_cons_zero, List.set_cons_succ, List.getElem_toArray, List.getElem_cons_zero, List.getElem_cons_succ]
  refine GT_take (i := 13) (v := ?_) rfl (by kernel_rfl) (fun _ _ _ h => h) (Or.inl ⟨by rfl, ?_⟩) ?_
  rotate_left
  · (intro wx hFx; (try dsimp only at hFx); have hc := hFx.1.cells; obtain ⟨ca, cb⟩ := hFx.2; clear hFx; obtain ⟨c0, c1, c2, c3, c4, c5, c6, c7, c8, c9⟩ := hc; go_simp) <;> (try with_reducible rfl)
  try simp only [Act.put, List.setIfInBounds_toArray, List.set_cons_zero, List.set_cons_succ, List.getElem_toArray, List.getElem_cons_zero, List.getElem_cons_succ]
  refine GT_done (by kernel_rfl) ?_
  have HF4 := hide F4
  have HA4 := hide A4
  obtain ⟨acc, hacc⟩ : ∃ acc, [2] ++ vint hi ++ vint (f.rngs.length - 1) ++ vint (hi - lo) = acc := ⟨_, rfl⟩
  rw [hacc] at HA4 HB L4
  clear F4 A4 F3 A3 HF1 HF2 HF3 HA1 HA2 HA3 L1 L2 L3 hacc z1 z2 z3 g1 g2 g14 g24 hg2 hg3 HLO HE2 b1 b2 k1 k2
  go_wp2_with fail
  go_loopw [0, 5] (fun vb i wr => ∃ j : Nat, 1 ≤ j ∧ j ≤ f.rngs.length ∧ i = .int .i64 j ∧ App W0 (.slice va l.length vc) l (acc ++ ackB f.rngs (j - 1)) vb wr) (fun _ i _ => f.rngs.length - (intOf i).toNat)
  case atStart => exact ⟨1, Nat.le_refl _, hpos, rfl, by simpa [ackB] using HA4.out⟩
  case round =>
    obtain ⟨j, hj1, hj2, rfl, hA⟩ := hrel
    have HFR : FrameAt wr w.heap.size f (.slice (some ⟨g, o, none⟩) f.rngs.length cap) := FrameAt.app HF0.out HO0.out hA
    obtain ⟨c0, c1, c2, c3, c4, c5, c6, c7, c8, c9⟩ := HFR.cells
    have hblr := lt_of_cell c9
    have HAk := hide hA
    by_cases hlt : j < f.rngs.length
    · have hrr : RR wr (.slice (some ⟨g, o, none⟩) f.rngs.length cap) f.rngs := HR0.out.mod hA.mod (fun g' o' n' c' e hx => by cases e; exact HVG.out hx)
      obtain ⟨_, _, hvv, _, _, h3⟩ := hrr
      cases hvv
      obtain ⟨g', o', hgo, e1, _, b1, _⟩ := h3 (j - 1) (by omega)
      cases hgo
      obtain ⟨g', o', hgo, e3, e4, b3, b4⟩ := h3 j hlt
      cases hgo
      obtain ⟨q1, q2, q3⟩ := HH.out j hlt
      have q4 := q3 (by omega)
      obtain ⟨r1, r2, _⟩ := HH.out (j - 1) (by omega)
      have hgl2 := lt_of_cell e1
      have HS : Hid (ackB f.rngs (j + 1 - 1) = (ackB f.rngs (j - 1) ++ vint (loAt f.rngs (j - 1) - hiAt f.rngs j - 2)) ++ vint (hiAt f.rngs j - loAt f.rngs j)) := by
        show _ = _
        rw [show j + 1 - 1 = (j - 1) + 1 by omega]
        simp only [ackB]
        rw [show j - 1 + 1 = j by omega]
      have HL := ackB_length f.rngs (j - 1)
      obtain ⟨pl, hpl⟩ : ∃ x, loAt f.rngs (j - 1) = x := ⟨_, rfl⟩
      obtain ⟨lo', hlo'⟩ : ∃ x, loAt f.rngs j = x := ⟨_, rfl⟩
      obtain ⟨hi', hhi'⟩ : ∃ x, hiAt f.rngs j = x := ⟨_, rfl⟩
      rw [hpl] at e1 b1 q4 HS r1
      have r3 := Nat.le_trans r1 r2
      clear r1 r2
      rw [hlo'] at e3 b3 q1 HS
      rw [hhi'] at e4 b4 q1 q2 q4 HS
      clear hpl hlo' hhi' q3 h3
      have z1 : IntKind.u64.wrap ((pl : Int) - hi') = (pl : Int) - hi' := by rw [IntKind.wrap_u64]; omega
      have z2 : IntKind.u64.wrap ((pl : Int) - hi' - 2) = ((pl - hi' - 2 : Nat) : Int) := by rw [IntKind.wrap_u64]; omega
      have z3 : IntKind.u64.wrap ((hi' : Int) - lo') = ((hi' - lo' : Nat) : Int) := by rw [IntKind.wrap_u64]; omega
      have s1 : IntKind.i64.wrap ((j : Int) - 1) = (j : Int) - 1 := IntWalk.i64_in _ (by omega)
      have s2 : ((j : Int) - 1).toNat = j - 1 := by omega
      have s3 : 0 ≤ (j : Int) - 1 := by omega
      have s4 : (j : Int) - 1 < f.rngs.length := by omega
      have s5 : 1 ≤ (j : Int) := by omega
      have hoA := hA.own
      have hgv : ∀ vb wb, App W0 (.slice va l.length vc) l vb u0 wb → True := fun _ _ _ => trivial
      have hg0 : ¬ u0.ownBlock = some g := fun hx => by
        rcases HAk.out.at_ g hx with x | x
        · exact HVG.out x
        · have := M0.out.size
          omega
      clear hA hgv
      go_wp2_with fail
      have A0 : App W0 (.slice va l.length vc) l (acc ++ ackB f.rngs (j - 1)) u0 wr.drew := HAk.out.drewR
      have F0 : FrameAt wr.drew w.heap.size f (.slice (some ⟨g, o, none⟩) f.rngs.length cap) := HFR.mod (S := NoB) (Mod.refl _ _).drew (fun x => x)
      clear c0 c1 c2 c3 c4 c5 c6 c7 c8 c9
      refine GT_start 18 (fun w' => FrameAt w' w.heap.size f (.slice (some ⟨g, o, none⟩) f.rngs.length cap) ∧ w'.cell? ⟨g, o + (j - 1) * 2, none⟩ = some (.int .u64 (pl : Int)) ∧ w'.cell? ⟨g, o + j * 2, none⟩ = some (.int .u64 (lo' : Int)) ∧ w'.cell? ⟨g, o + j * 2 + 1, none⟩ = some (.int .u64 (hi' : Int))) (by kernel_rfl) (by kernel_rfl) ⟨F0, e1, e3, e4⟩ ?_
      refine GT_take (i := 0) (v := ?_) rfl (by kernel_rfl) (fun _ _ _ h => h) (Or.inl ⟨by rfl, ?_⟩) ?_
      rotate_left
      · (intro wx hFx; (try dsimp only at hFx); have hc := hFx.1.cells; obtain ⟨ca, cb, cd⟩ := hFx.2; clear hFx; obtain ⟨c0, c1, c2, c3, c4, c5, c6, c7, c8, c9⟩ := hc; go_simp) <;> (try with_reducible rfl)
      try simp only [Act.put, List.setIfInBounds_toArray, List.set_cons_zero, List.set_cons_succ, List.getElem_toArray, List.getElem_cons_zero, List.getElem_cons_succ]
      refine GT_take (i := 1) (v := ?_) rfl (by kernel_rfl) (fun _ _ _ h => h) (Or.inl ⟨by rfl, ?_⟩) ?_
      rotate_left
      · (intro wx hFx; (try dsimp only at hFx); have hc := hFx.1.cells; obtain ⟨ca, cb, cd⟩ := hFx.2; clear hFx; obtain ⟨c0, c1, c2, c3, c4, c5, c6, c7, c8, c9⟩ := hc; go_simp) <;> (try with_reducible rfl)
      try simp only [Act.put, List.setIfInBounds_toArray, List.set_cons_zero, List.set_cons_succ, List.getElem_toArray, List.getElem_cons_zero, List.getElem_cons_succ]
      refine GT_take (i := 2) (v := ?_) rfl (by kernel_rfl) (fun _ _ _ h => h) (Or.inl ⟨by rfl, ?_⟩) ?_
      rotate_left
      · (intro wx hFx; (try dsimp only at hFx); have hc := hFx.1.cells; obtain ⟨ca, cb, cd⟩ := hFx.2; clear hFx; obtain ⟨c0, c1, c2, c3, c4, c5, c6, c7, c8, c9⟩ := hc; go_simp) <;> (try with_reducible rfl)
      try simp only [Act.put, List.setIfInBounds_toArray, List.set_cons_zero, List.set_cons_succ, List.getElem_toArray, List.getElem_cons_zero, List.getElem_cons_succ]
      refine GT_take (i := 3) (v := ?_) rfl (by kernel_rfl) (fun _ _ _ h => h) (Or.inl ⟨by rfl, ?_⟩) ?_
      rotate_left
      · (intro wx hFx; (try dsimp only at hFx); have hc := hFx.1.cells; obtain ⟨ca, cb, cd⟩ := hFx.2; clear hFx; obtain ⟨c0, c1, c2, c3, c4, c5, c6, c7, c8, c9⟩ := hc; go_simp) <;> (try with_reducible rfl)
      try simp only [Act.put, List.setIfInBounds_toArray, List.set_cons_zero, List.set_cons_succ, List.getElem_toArray, List.getElem_cons_zero, List.getElem_cons_succ]
      refine GT_take (i := 4) (v := ?_) rfl (by kernel_rfl) (fun _ _ _ h => h) (Or.inl ⟨by rfl, ?_⟩) ?_
      rotate_left
      · (intro wx hFx; (try dsimp only at hFx); have hc := hFx.1.cells; obtain ⟨ca, cb, cd⟩ := hFx.2; clear hFx; obtain ⟨c0, c1, c2, c3, c4, c5, c6, c7, c8, c9⟩ := hc; go_simp) <;> (try with_reducible rfl)
      try simp only [Act.put, List.setIfInBounds_toArray, List.set_cons_zero, List.set_cons_succ, List.getElem_toArray, List.getElem_cons_zero, List.getElem_cons_succ]
      refine GT_take (i := 5) (v := ?_) rfl (by kernel_rfl) (fun _ _ _ h => h) (Or.inl ⟨by rfl, ?_⟩) ?_
      rotate_left
      · (intro wx hFx; (try dsimp only at hFx); have hc := hFx.1.cells; obtain ⟨ca, cb, cd⟩ := hFx.2; clear hFx; obtain ⟨c0, c1, c2, c3, c4, c5, c6, c7, c8, c9⟩ := hc; go_simp) <;> (try with_reducible rfl)
      try simp only [Act.put, List.setIfInBounds_toArray, List.set_cons_zero, List.set_cons_succ, List.getElem_toArray, List.getElem_cons_zero, List.getElem_cons_succ]
      refine GT_take (i := 6) (v := ?_) rfl (by kernel_rfl) (fun _ _ _ h => h) (Or.inl ⟨by rfl, ?_⟩) ?_
      rotate_left
      · (intro wx hFx; (try dsimp only at hFx); have hc := hFx.1.cells; obtain ⟨ca, cb, cd⟩ := hFx.2; clear hFx; obtain ⟨c0, c1, c2, c3, c4, c5, c6, c7, c8, c9⟩ := hc; go_simp) <;> (try with_reducible rfl)
      try simp only [Act.put, List.setIfInBounds_toArray, List.set_cons_zero, List.set_cons_succ, List.getElem_toArray, List.getElem_cons_zero, List.getElem_cons_succ]
      refine GT_take (i := 7) (v := ?_) rfl (by kernel_rfl) (fun _ _ _ h => h) (Or.inl ⟨by rfl, ?_⟩) ?_
      rotate_left
      · (intro wx hFx; (try dsimp only at hFx); have hc := hFx.1.cells; obtain ⟨ca, cb, cd⟩ := hFx.2; clear hFx; obtain ⟨c0, c1, c2, c3, c4, c5, c6, c7, c8, c9⟩ := hc; go_simp) <;> (try with_reducible rfl)
      try simp only [Act.put, List.setIfInBounds_toArray, List.set_cons_zero, List.set_cons_succ, List.getElem_toArray, List.getElem_cons_zero, List.getElem_cons_succ]
      refine GT_take (i := 8) (v := ?_) rfl (by kernel_rfl) (fun _ _ _ h => h) (Or.inl ⟨by rfl, ?_⟩) ?_
      rotate_left
      · (intro wx hFx; (try dsimp only at hFx); have hc := hFx.1.cells; obtain ⟨ca, cb, cd⟩ := hFx.2; clear hFx; obtain ⟨c0, c1, c2, c3, c4, c5, c6, c7, c8, c9⟩ := hc; go_simp) <;> (try with_reducible rfl)
      try simp only [Act.put, List.setIfInBounds_toArray, List.set_cons_zero, List.set_cons_succ, List.getElem_toArray, List.getElem_cons_zero, List.getElem_cons_succ]
      refine GT_take (i := 9) (v := ?_) rfl (by kernel_rfl) (fun _ _ _ h => h) (Or.inl ⟨by rfl, ?_⟩) ?_
      rotate_left
      · (intro wx hFx; (try dsimp only at hFx); have hc := hFx.1.cells; obtain ⟨ca, cb, cd⟩ := hFx.2; clear hFx; obtain ⟨c0, c1, c2, c3, c4, c5, c6, c7, c8, c9⟩ := hc; go_simp) <;> (try with_reducible rfl)
      try simp only [Act.put, List.setIfInBounds_toArray, List.set_cons_zero, List.set_cons_succ, List.getElem_toArray, List.getElem_cons_zero, List.getElem_cons_succ]
      refine GT_take (i := 10) (v := ?_) rfl (by kernel_rfl) (fun _ _ _ h => h) (Or.inl ⟨by rfl, ?_⟩) ?_
      rotate_left
      · (intro wx hFx; (try dsimp only at hFx); have hc := hFx.1.cells; obtain ⟨ca, cb, cd⟩ := hFx.2; clear hFx; obtain ⟨c0, c1, c2, c3, c4, c5, c6, c7, c8, c9⟩ := hc; go_simp) <;> (try with_reducible rfl)
      try simp only [Act.put, List.setIfInBounds_toArray, List.set_cons_zero, List.set_cons_succ, List.getElem_toArray, List.getElem_cons_zero, List.getElem_cons_succ]
      refine GT_take (i := 11) (v := ?_) rfl (by kernel_rfl) (fun _ _ _ h => h) (Or.inl ⟨by rfl, ?_⟩) ?_
      rotate_left
      · (intro wx hFx; (try dsimp only at hFx); have hc := hFx.1.cells; obtain ⟨ca, cb, cd⟩ := hFx.2; clear hFx; obtain ⟨c0, c1, c2, c3, c4, c5, c6, c7, c8, c9⟩ := hc; go_simp) <;> (try with_reducible rfl)
      try simp only [Act.put, List.setIfInBounds_toArray, List.set_cons_zero, List.set_cons_succ, List.getElem_toArray, List.getElem_cons_zero, List.getElem_cons_succ]
      refine GT_take (i := 12) (v := ?_) rfl (by kernel_rfl) (fun _ _ _ h => h) (Or.inl ⟨by rfl, ?_⟩) ?_
      rotate_left
      · (intro wx hFx; (try dsimp only at hFx); have hc := hFx.1.cells; obtain ⟨ca, cb, cd⟩ := hFx.2; clear hFx; obtain ⟨c0, c1, c2, c3, c4, c5, c6, c7, c8, c9⟩ := hc; go_simp) <;> (try with_reducible rfl)
      try simp only [Act.put, List.setIfInBounds_toArray, List.set_cons_zero, List.set_cons_succ, List.getElem_toArray, List.getElem_cons_zero, List.getElem_cons_succ]
      refine GT_take (i := 13) (v := ?_) rfl (by kernel_rfl) (fun _ _ _ h => h) (Or.inl ⟨by rfl, ?_⟩) ?_
      rotate_left
      · (intro wx hFx; (try dsimp only at hFx); have hc := hFx.1.cells; obtain ⟨ca, cb, cd⟩ := hFx.2; clear hFx; obtain ⟨c0, c1, c2, c3, c4, c5, c6, c7, c8, c9⟩ := hc; go_simp) <;> (try with_reducible rfl)
      try simp only [Act.put, List.setIfInBounds_toArray, List.set_cons_zero, List.set_cons_succ, List.getElem_toArray, List.getElem_cons_zero, List.getElem_cons_succ]
      refine GT_take (i := 14) (v := ?_) rfl (by kernel_rfl) (fun _ _ _ h => h) (Or.inl ⟨by rfl, ?_⟩) ?_
      rotate_left
      · (intro wx hFx; (try dsimp only at hFx); have hc := hFx.1.cells; obtain ⟨ca, cb, cd⟩ := hFx.2; clear hFx; obtain ⟨c0, c1, c2, c3, c4, c5, c6, c7, c8, c9⟩ := hc; go_simp) <;> (try with_reducible rfl)
      try simp only [Act.put, List.setIfInBounds_toArray, List.set_cons_zero, List.set_cons_succ, List.getElem_toArray, List.getElem_cons_zero, List.getElem_cons_succ]
      refine GT_take (i := 15) (v := ?_) rfl (by kernel_rfl) (fun _ _ _ h => h) (Or.inl ⟨by rfl, ?_⟩) ?_
      rotate_left
      · (intro wx hFx; (try dsimp only at hFx); have hc := hFx.1.cells; obtain ⟨ca, cb, cd⟩ := hFx.2; clear hFx; obtain ⟨c0, c1, c2, c3, c4, c5, c6, c7, c8, c9⟩ := hc; go_simp) <;> (try with_reducible rfl)
      try simp only [Act.put, List.setIfInBounds_toArray, List.set_cons_zero, List.set_cons_succ, List.getElem_toArray, List.getElem_cons_zero, List.getElem_cons_succ]
      refine GT_one (i := 16) rfl (by kernel_rfl) (fun K hK => ?_)
      go_simp
      refine (rvint_any u0 (l ++ (acc ++ ackB f.rngs (j - 1))) (pl - hi' - 2) wr.drew A0.own (by simp at L4 ⊢; omega) (by omega)).mono ?_
      rintro e y1 ⟨x1, rfl, ap⟩
      have F1 := F0.app A0.own ap
      have A1 := A0.trans ap
      have e1x : y1.cell? ⟨g, o + (j - 1) * 2, none⟩ = some (.int .u64 (pl : Int)) := ap.mod.cell (a := ⟨g, _, none⟩) hg0 e1
      have e3x : y1.cell? ⟨g, o + j * 2, none⟩ = some (.int .u64 (lo' : Int)) := ap.mod.cell (a := ⟨g, _, none⟩) hg0 e3
      have e4x : y1.cell? ⟨g, o + j * 2 + 1, none⟩ = some (.int .u64 (hi' : Int)) := ap.mod.cell (a := ⟨g, _, none⟩) hg0 e4
      have hl1 := vint_length (pl - hi' - 2)
      refine hK.out _ _ ⟨F1, e1x, e3x, e4x⟩ ?_
      clear ap
      clear hK K
      try simp only [Act.put, List.setIfInBounds_toArray, List.set_cons_zero, List.set_cons_succ, List.getElem_toArray, List.getElem_cons_zero, List.getElem_cons_succ]
      refine GT_take (i := 17) (v := ?_) rfl (by kernel_rfl) (fun _ _ _ h => h) (Or.inl ⟨by rfl, ?_⟩) ?_
      rotate_left
      · (intro wx hFx; (try dsimp only at hFx); have hc := hFx.1.cells; obtain ⟨ca, cb, cd⟩ := hFx.2; clear hFx; obtain ⟨c0, c1, c2, c3, c4, c5, c6, c7, c8, c9⟩ := hc; go_simp) <;> (try with_reducible rfl)
      try simp only [Act.put, List.setIfInBounds_toArray, List.set_cons_zero, List.set_cons_succ, List.getElem_toArray, List.getElem_cons_zero, List.getElem_cons_succ]
      refine GT_done (by kernel_rfl) ?_
      have hg1 : ¬ x1.ownBlock = some g := fun hx => by
        rcases A1.at_ g hx with x | x
        · exact HVG.out x
        · have := M0.out.size
          omega
      obtain ⟨c0, c1, c2, c3, c4, c5, c6, c7, c8, c9⟩ := F1.cells
      have HA1 := hide A1
      have HF1 := hide F1
      clear e1 e3 e4 F1 A1 F0 A0
      go_wp2_with fail
      have A1 : App W0 (.slice va l.length vc) l (acc ++ ackB f.rngs (j - 1) ++ vint (pl - hi' - 2)) x1 y1.drew := HA1.out.drewR
      have F1 : FrameAt y1.drew w.heap.size f (.slice (some ⟨g, o, none⟩) f.rngs.length cap) := HF1.out.mod (S := NoB) (Mod.refl _ _).drew (fun x => x)
      clear c0 c1 c2 c3 c4 c5 c6 c7 c8 c9
      refine GT_start 16 (fun w' => FrameAt w' w.heap.size f (.slice (some ⟨g, o, none⟩) f.rngs.length cap) ∧ w'.cell? ⟨g, o + (j - 1) * 2, none⟩ = some (.int .u64 (pl : Int)) ∧ w'.cell? ⟨g, o + j * 2, none⟩ = some (.int .u64 (lo' : Int)) ∧ w'.cell? ⟨g, o + j * 2 + 1, none⟩ = some (.int .u64 (hi' : Int))) (by kernel_rfl) (by kernel_rfl) ⟨F1, e1x, e3x, e4x⟩ ?_
      refine GT_take (i := 0) (v := ?_) rfl (by kernel_rfl) (fun _ _ _ h => h) (Or.inl ⟨by rfl, ?_⟩) ?_
      rotate_left
      · (intro wx hFx; (try dsimp only at hFx); have hc := hFx.1.cells; obtain ⟨ca, cb, cd⟩ := hFx.2; clear hFx; obtain ⟨c0, c1, c2, c3, c4, c5, c6, c7, c8, c9⟩ := hc; go_simp) <;> (try with_reducible rfl)
      try simp only [Act.put, List.setIfInBounds_toArray, List.set_cons_zero, List.set_cons_succ, List.getElem_toArray, List.getElem_cons_zero, List.getElem_cons_succ]
      refine GT_take (i := 1) (v := ?_) rfl (by kernel_rfl) (fun _ _ _ h => h) (Or.inl ⟨by rfl, ?_⟩) ?_
      rotate_left
      · (intro wx hFx; (try dsimp only at hFx); have hc := hFx.1.cells; obtain ⟨ca, cb, cd⟩ := hFx.2; clear hFx; obtain ⟨c0, c1, c2, c3, c4, c5, c6, c7, c8, c9⟩ := hc; go_simp) <;> (try with_reducible rfl)
      try simp only [Act.put, List.setIfInBounds_toArray, List.set_cons_zero, List.set_cons_succ, List.getElem_toArray, List.getElem_cons_zero, List.getElem_cons_succ]
      refine GT_take (i := 2) (v := ?_) rfl (by kernel_rfl) (fun _ _ _ h => h) (Or.inl ⟨by rfl, ?_⟩) ?_
      rotate_left
      · (intro wx hFx; (try dsimp only at hFx); have hc := hFx.1.cells; obtain ⟨ca, cb, cd⟩ := hFx.2; clear hFx; obtain ⟨c0, c1, c2, c3, c4, c5, c6, c7, c8, c9⟩ := hc; go_simp) <;> (try with_reducible rfl)
      try simp only [Act.put, List.setIfInBounds_toArray, List.set_cons_zero, List.set_cons_succ, List.getElem_toArray, List.getElem_cons_zero, List.getElem_cons_succ]
      refine GT_take (i := 3) (v := ?_) rfl (by kernel_rfl) (fun _ _ _ h => h) (Or.inl ⟨by rfl, ?_⟩) ?_
      rotate_left
      · (intro wx hFx; (try dsimp only at hFx); have hc := hFx.1.cells; obtain ⟨ca, cb, cd⟩ := hFx.2; clear hFx; obtain ⟨c0, c1, c2, c3, c4, c5, c6, c7, c8, c9⟩ := hc; go_simp) <;> (try with_reducible rfl)
      try simp only [Act.put, List.setIfInBounds_toArray, List.set_cons_zero, List.set_cons_succ, List.getElem_toArray, List.getElem_cons_zero, List.getElem_cons_succ]
      refine GT_take (i := 4) (v := ?_) rfl (by kernel_rfl) (fun _ _ _ h => h) (Or.inl ⟨by rfl, ?_⟩) ?_
      rotate_left
      · (intro wx hFx; (try dsimp only at hFx); have hc := hFx.1.cells; obtain ⟨ca, cb, cd⟩ := hFx.2; clear hFx; obtain ⟨c0, c1, c2, c3, c4, c5, c6, c7, c8, c9⟩ := hc; go_simp) <;> (try with_reducible rfl)
      try simp only [Act.put, List.setIfInBounds_toArray, List.set_cons_zero, List.set_cons_succ, List.getElem_toArray, List.getElem_cons_zero, List.getElem_cons_succ]
      refine GT_take (i := 5) (v := ?_) rfl (by kernel_rfl) (fun _ _ _ h => h) (Or.inl ⟨by rfl, ?_⟩) ?_
      rotate_left
      · (intro wx hFx; (try dsimp only at hFx); have hc := hFx.1.cells; obtain ⟨ca, cb, cd⟩ := hFx.2; clear hFx; obtain ⟨c0, c1, c2, c3, c4, c5, c6, c7, c8, c9⟩ := hc; go_simp) <;> (try with_reducible rfl)
      try simp only [Act.put, List.setIfInBounds_toArray, List.set_cons_zero, List.set_cons_succ, List.getElem_toArray, List.getElem_cons_zero, List.getElem_cons_succ]
      refine GT_take (i := 6) (v := ?_) rfl (by kernel_rfl) (fun _ _ _ h => h) (Or.inl ⟨by rfl, ?_⟩) ?_
      rotate_left
      · (intro wx hFx; (try dsimp only at hFx); have hc := hFx.1.cells; obtain ⟨ca, cb, cd⟩ := hFx.2; clear hFx; obtain ⟨c0, c1, c2, c3, c4, c5, c6, c7, c8, c9⟩ := hc; go_simp) <;> (try with_reducible rfl)
      try simp only [Act.put, List.setIfInBounds_toArray, List.set_cons_zero, List.set_cons_succ, List.getElem_toArray, List.getElem_cons_zero, List.getElem_cons_succ]
      refine GT_take (i := 7) (v := ?_) rfl (by kernel_rfl) (fun _ _ _ h => h) (Or.inl ⟨by rfl, ?_⟩) ?_
      rotate_left
      · (intro wx hFx; (try dsimp only at hFx); have hc := hFx.1.cells; obtain ⟨ca, cb, cd⟩ := hFx.2; clear hFx; obtain ⟨c0, c1, c2, c3, c4, c5, c6, c7, c8, c9⟩ := hc; go_simp) <;> (try with_reducible rfl)
      try simp only [Act.put, List.setIfInBounds_toArray, List.set_cons_zero, List.set_cons_succ, List.getElem_toArray, List.getElem_cons_zero, List.getElem_cons_succ]
      refine GT_take (i := 8) (v := ?_) rfl (by kernel_rfl) (fun _ _ _ h => h) (Or.inl ⟨by rfl, ?_⟩) ?_
      rotate_left
      · (intro wx hFx; (try dsimp only at hFx); have hc := hFx.1.cells; obtain ⟨ca, cb, cd⟩ := hFx.2; clear hFx; obtain ⟨c0, c1, c2, c3, c4, c5, c6, c7, c8, c9⟩ := hc; go_simp) <;> (try with_reducible rfl)
      try simp only [Act.put, List.setIfInBounds_toArray, List.set_cons_zero, List.set_cons_succ, List.getElem_toArray, List.getElem_cons_zero, List.getElem_cons_succ]
      refine GT_take (i := 9) (v := ?_) rfl (by kernel_rfl) (fun _ _ _ h => h) (Or.inl ⟨by rfl, ?_⟩) ?_
      rotate_left
      · (intro wx hFx; (try dsimp only at hFx); have hc := hFx.1.cells; obtain ⟨ca, cb, cd⟩ := hFx.2; clear hFx; obtain ⟨c0, c1, c2, c3, c4, c5, c6, c7, c8, c9⟩ := hc; go_simp) <;> (try with_reducible rfl)
      try simp only [Act.put, List.setIfInBounds_toArray, List.set_cons_zero, List.set_cons_succ, List.getElem_toArray, List.getElem_cons_zero, List.getElem_cons_succ]
      refine GT_take (i := 10) (v := ?_) rfl (by kernel_rfl) (fun _ _ _ h => h) (Or.inl ⟨by rfl, ?_⟩) ?_
      rotate_left
      · (intro wx hFx; (try dsimp only at hFx); have hc := hFx.1.cells; obtain ⟨ca, cb, cd⟩ := hFx.2; clear hFx; obtain ⟨c0, c1, c2, c3, c4, c5, c6, c7, c8, c9⟩ := hc; go_simp) <;> (try with_reducible rfl)
      try simp only [Act.put, List.setIfInBounds_toArray, List.set_cons_zero, List.set_cons_succ, List.getElem_toArray, List.getElem_cons_zero, List.getElem_cons_succ]
      refine GT_take (i := 11) (v := ?_) rfl (by kernel_rfl) (fun _ _ _ h => h) (Or.inl ⟨by rfl, ?_⟩) ?_
      rotate_left
      · (intro wx hFx; (try dsimp only at hFx); have hc := hFx.1.cells; obtain ⟨ca, cb, cd⟩ := hFx.2; clear hFx; obtain ⟨c0, c1, c2, c3, c4, c5, c6, c7, c8, c9⟩ := hc; go_simp) <;> (try with_reducible rfl)
      try simp only [Act.put, List.setIfInBounds_toArray, List.set_cons_zero, List.set_cons_succ, List.getElem_toArray, List.getElem_cons_zero, List.getElem_cons_succ]
      refine GT_take (i := 12) (v := ?_) rfl (by kernel_rfl) (fun _ _ _ h => h) (Or.inl ⟨by rfl, ?_⟩) ?_
      rotate_left
      · (intro wx hFx; (try dsimp only at hFx); have hc := hFx.1.cells; obtain ⟨ca, cb, cd⟩ := hFx.2; clear hFx; obtain ⟨c0, c1, c2, c3, c4, c5, c6, c7, c8, c9⟩ := hc; go_simp) <;> (try with_reducible rfl)
      try simp only [Act.put, List.setIfInBounds_toArray, List.set_cons_zero, List.set_cons_succ, List.getElem_toArray, List.getElem_cons_zero, List.getElem_cons_succ]
      refine GT_take (i := 13) (v := ?_) rfl (by kernel_rfl) (fun _ _ _ h => h) (Or.inl ⟨by rfl, ?_⟩) ?_
      rotate_left
      · (intro wx hFx; (try dsimp only at hFx); have hc := hFx.1.cells; obtain ⟨ca, cb, cd⟩ := hFx.2; clear hFx; obtain ⟨c0, c1, c2, c3, c4, c5, c6, c7, c8, c9⟩ := hc; go_simp) <;> (try with_reducible rfl)
      try simp only [Act.put, List.setIfInBounds_toArray, List.set_cons_zero, List.set_cons_succ, List.getElem_toArray, List.getElem_cons_zero, List.getElem_cons_succ]
      refine GT_one (i := 14) rfl (by kernel_rfl) (fun K hK => ?_)
      go_simp
      refine (rvint_any x1 (l ++ (acc ++ ackB f.rngs (j - 1) ++ vint (pl - hi' - 2))) (hi' - lo') y1.drew A1.own (by simp at L4 ⊢; omega) (by omega)).mono ?_
      rintro e y2 ⟨x2, rfl, ap⟩
      have F2 := F1.app A1.own ap
      have A2 := A1.trans ap
      refine hK.out _ _ ⟨F2, ap.mod.cell (a := ⟨g, _, none⟩) hg1 e1x, ap.mod.cell (a := ⟨g, _, none⟩) hg1 e3x, ap.mod.cell (a := ⟨g, _, none⟩) hg1 e4x⟩ ?_
      clear ap
      clear hK K
      try simp only [Act.put, List.setIfInBounds_toArray, List.set_cons_zero, List.set_cons_succ, List.getElem_toArray, List.getElem_cons_zero, List.getElem_cons_succ]
      refine GT_take (i := 15) (v := ?_) rfl (by kernel_rfl) (fun _ _ _ h => h) (Or.inl ⟨by rfl, ?_⟩) ?_
      rotate_left
      · (intro wx hFx; (try dsimp only at hFx); have hc := hFx.1.cells; obtain ⟨ca, cb, cd⟩ := hFx.2; clear hFx; obtain ⟨c0, c1, c2, c3, c4, c5, c6, c7, c8, c9⟩ := hc; go_simp) <;> (try with_reducible rfl)
      try simp only [Act.put, List.setIfInBounds_toArray, List.set_cons_zero, List.set_cons_succ, List.getElem_toArray, List.getElem_cons_zero, List.getElem_cons_succ]
      refine GT_done (by kernel_rfl) ?_
      have HA2 := hide A2
      clear A2 F2 F1 A1 e1x e3x e4x z1 z2 z3 s1 s2 s3 s4
      go_wp2_with fail
      go_roundw
      case rel => exact ⟨j + 1, by omega, by omega, by go_num, by rw [HS.out, ← List.append_assoc, ← List.append_assoc]; exact HA2.out⟩
      case measure => simp [intOf]; omega
    · have hjn : j = f.rngs.length := by omega
      have HF : Hid (bytesF f = acc ++ ackB f.rngs (j - 1)) := by rw [hjn]; exact HB.out
      clear hA hjn
      go_wp2_with fail
      go_ret
      exact ⟨_, rfl, App.after M0.out (by rw [HF.out]; exact HAk.out)⟩
end Go.Proofs.YtddfdpbaiedcjabGreatDoor
/- plain.turn: it writes into a packet's own lists. -/
namespace Go.Proofs.YtddfdpbaiedcjabGreatDoor
open Go.RowKit

/-- Blocks of S hold other cells, but as many of them and of the same type. -/
def Shape (S : Nat → Prop) (w wr : World) : Prop :=
  Mod S w wr ∧ ∀ k, S k → ∀ cs t, w.heap[k]? = some (.cells cs t (0, 0)) → ∃ cs', wr.heap[k]? = some (.cells cs' t (0, 0)) ∧ cs'.size = cs.size

theorem Shape.refl (S : Nat → Prop) (w : World) : Shape S w w := ⟨Mod.refl _ _, fun _ _ cs _ h => ⟨cs, h, rfl⟩⟩

theorem Shape.set {S : Nat → Prop} {w wr : World} (h : Shape S w wr) {b : Nat} (hb : S b) (i : Nat) (v : Value) : Shape S w (wr.setCell ⟨b, i, none⟩ v) := by
  refine ⟨h.1.setCell (p := ⟨b, i, none⟩) (.inl hb) v, fun k hk cs t hc => ?_⟩
  obtain ⟨cs', h1, h2⟩ := h.2 k hk cs t hc
  by_cases e : k = b
  · subst e
    exact ⟨_, obj_setCell h1, by simpa using h2⟩
  · exact ⟨cs', ((Mod.refl (fun x => x = b) wr).setCell (p := ⟨b, i, none⟩) (.inl rfl) v).obj e h1, h2⟩

theorem Shape.cell {S : Nat → Prop} {w wr : World} (h : Shape S w wr) {b t : Nat} {cs : Array Value} (hb : S b) (hc : w.heap[b]? = some (.cells cs t (0, 0))) {i : Nat} (hi : i < cs.size) :
    (∃ v, wr.cell? ⟨b, i, none⟩ = some v) ∧ wr.frozen? ⟨b, i, none⟩ = false := by
  obtain ⟨cs', h1, h2⟩ := h.2 b hb cs t hc
  exact ⟨⟨cs'[i], cell_of_obj h1 (Array.getElem?_eq_getElem (by omega))⟩, frozen_of_obj h1⟩

/-- The blocks of a packet's own lists. -/
def Lists (v : Value) (rvs : List (Frm × Value)) : Nat → Prop := fun k => v.ownBlock = some k ∨ ∃ x ∈ rvs, x.2.ownBlock = some k

/-- From the k-th frame on each has the ranges that it had. -/
def TurnAt (W : World) (g : Nat) (v : Value) (rvs : List (Frm × Value)) (k : Nat) (wr : World) : Prop :=
  Shape (Lists v rvs) W wr ∧ ∀ j x, k ≤ j → rvs[j]? = some x → wr.cell? ⟨g, j * 10 + 9, none⟩ = some x.2

theorem TurnAt.more {W wr : World} {g k : Nat} {v : Value} {rvs : List (Frm × Value)} (h : TurnAt W g v rvs k wr) : TurnAt W g v rvs (k + 1) wr := ⟨h.1, fun j x hj => h.2 j x (by omega)⟩

theorem TurnAt.set {W wr : World} {g k i : Nat} {v : Value} {rvs : List (Frm × Value)} (h : TurnAt W g v rvs (k + 1) wr) (hg : Lists v rvs g) (hi : i < k * 10 + 10) (u : Value) : TurnAt W g v rvs (k + 1) (wr.setCell ⟨g, i, none⟩ u) := by
  refine ⟨h.1.set hg i u, fun j x hj hx => ?_⟩
  rw [World.cell?_setCell_other _ _ _ _ (by simp <;> omega)]
  exact h.2 j x hj hx

theorem own_obj {w : World} {e sz n : Nat} {g cap : Nat} {xs : List Value} (h : w.ownsRow 0 e sz (.slice (some ⟨g, 0, none⟩) n cap) n xs) : ∃ cur, w.heap[g]? = some (.cells cur e (0, 0)) ∧ cur.size = cap * sz ∧ n ≤ cap := by
  rcases h.2 with ⟨hv, _⟩ | ⟨g', cap', cur, hv, _, hg, h1, _, h3, _⟩
  · cases hv
  · cases hv
    exact ⟨cur, hg, h3, h1⟩

set_option maxRecDepth 100000 in
set_option maxHeartbeats 1000000 in
theorem turn_any (n : Nat) (rvs : List (Frm × Value)) (v : Value) (w : World) (h : OwnF w v rvs) :
    Calls Tryz.prog 73 #[.agg #[.int .u64 (n : Int), v]] w fun e w' => e = .returned (.tuple #[]) ∧ Mod (Lists v rvs) w w' := by
  obtain ⟨a, cap, rfl, h1, h2, h3⟩ := own_form h.1
  unfold maxLen at h2
  obtain ⟨W0, hW0⟩ : ∃ W0, w.alloc (.cells #[.int .u64 (n : Int), .slice a rvs.length cap] 37) = W0 := ⟨_, rfl⟩
  have m0 : Mod NoB w W0 := by rw [← hW0]; exact (Mod.refl _ _).alloc _
  have oP : W0.heap[w.heap.size]? = some (.cells #[.int .u64 (n : Int), .slice a rvs.length cap] 37 (0, 0)) := by rw [← hW0]; exact heap_alloc_new w _
  have o0 : OwnF W0 (.slice a rvs.length cap) rvs := OwnF.mod h m0 (fun i hi => hi.elim)
  have hnP : ¬ Lists (.slice a rvs.length cap) rvs w.heap.size := by
    rintro (hx | ⟨x, hx, hy⟩)
    · have := own_lt' h.1 _ hx
      omega
    · have := own_lt' (h.2 x hx).1 _ hy
      omega
  have HP := hide oP
  have HM0 := hide m0
  have HO := hide o0
  have HNP := hide hnP
  have HW0 := hide hW0
  clear h m0 oP o0 hnP hW0
  go_enter Tryz.func73, Tryz.ntmps73
  go_wp2_with fail
  rw [HW0.out]
  have p1 : W0.cell? ⟨w.heap.size, 1, none⟩ = some (.slice a rvs.length cap) := cell_of_obj HP.out rfl
  go_wp2_with fail
  go_loopw [7] (fun i wr => ∃ k : Nat, k ≤ rvs.length ∧ i = .int .i64 k ∧ (a = none → Mod (Lists (.slice a rvs.length cap) rvs) W0 wr) ∧ ∀ g, a = some ⟨g, 0, none⟩ → TurnAt W0 g (.slice a rvs.length cap) rvs k wr) (fun i _ => rvs.length - (intOf i).toNat)
  case atStart =>
    refine ⟨0, Nat.zero_le _, rfl, fun _ => Mod.refl _ _, fun g hg => ⟨Shape.refl _ _, fun j x _ hj => ?_⟩⟩
    subst hg
    have := HO.out.1.cells (g := g) rfl _ _ (fcells_at rvs j x hj 9 x.2 rfl)
    rwa [addr_add, Nat.zero_add] at this
  case round =>
    obtain ⟨k, hk, rfl, hM, hT⟩ := hrel
    by_cases hlt : k < rvs.length
    · obtain ⟨g, rfl⟩ := h3 (by omega)
      have hTg := hT g rfl
      clear hT
      obtain ⟨⟨f, rv⟩, hx⟩ : ∃ x, rvs[k]? = some x := ⟨rvs[k], List.getElem?_eq_getElem hlt⟩
      have hxm := List.mem_of_getElem? hx
      have ox := HO.out.2 _ hxm
      simp only at ox
      obtain ⟨xa, xc, rfl, hx1, hx2, hx3⟩ := own_form ox.1
      unfold maxLen at hx2
      obtain ⟨cg, og, sg, _⟩ := own_obj HO.out.1
      have hne : ∀ h, xa = some ⟨h, 0, none⟩ → h ≠ g := fun h e1 e2 => two_types HO.out.1 ox.1 (by decide) (g := g) rfl (by rw [e1, e2]; rfl)
      have hSg : Lists (.slice (some ⟨g, 0, none⟩) rvs.length cap) rvs g := .inl rfl
      have c9 := hTg.2 k _ (Nat.le_refl _) hx
      simp only at c9
      have pP : wr.cell? ⟨w.heap.size, 1, none⟩ = some (.slice (some ⟨g, 0, none⟩) rvs.length cap) := hTg.1.1.cell (a := ⟨_, 1, none⟩) HNP.out p1
      have HOX := hide ox
      have HX := hide hx
      have HXM := hide hxm
      have HT := hide hTg
      have HOG := hide og
      have HSG := hide sg
      clear ox hx hxm hTg og sg
      go_wp2_with fail
      go_loopw [17] (fun i wq => ∃ j : Nat, j ≤ f.rngs.length ∧ i = .int .i64 j ∧ TurnAt W0 g (.slice (some ⟨g, 0, none⟩) rvs.length cap) rvs k wq) (fun i _ => f.rngs.length - (intOf i).toNat)
      case atStart => exact ⟨0, Nat.zero_le _, rfl, HT.out⟩
      case round =>
        obtain ⟨j, hj, rfl, hTq⟩ := hrel
        have pQ : wr.cell? ⟨w.heap.size, 1, none⟩ = some (.slice (some ⟨g, 0, none⟩) rvs.length cap) := hTq.1.1.cell (a := ⟨_, 1, none⟩) HNP.out p1
        have d9 := hTq.2 k _ (Nat.le_refl _) HX.out
        simp only at d9
        by_cases hjl : j < f.rngs.length
        · obtain ⟨h, rfl⟩ := hx3 (by omega)
          have hneg := hne h rfl
          have hSh : Lists (.slice (some ⟨g, 0, none⟩) rvs.length cap) rvs h := .inr ⟨_, HXM.out, rfl⟩
          obtain ⟨ch, oh, sh, _⟩ := own_obj HOX.out.1
          obtain ⟨⟨v0, e0⟩, z0⟩ := hTq.1.cell hSh oh (i := j * 2) (by omega)
          obtain ⟨⟨v1, e1⟩, z1⟩ := hTq.1.cell hSh oh (i := j * 2 + 1) (by omega)
          have z1' : (wr.setCell ⟨h, j * 2, none⟩ (.int .u64 7)).frozen? ⟨h, j * 2 + 1, none⟩ = false := ((hTq.1.set hSh (j * 2) (.int .u64 7)).cell hSh oh (i := j * 2 + 1) (by omega)).2
          have HTN : Hid (TurnAt W0 g (.slice (some ⟨g, 0, none⟩) rvs.length cap) rvs k ((wr.setCell ⟨h, j * 2, none⟩ (.int .u64 7)).setCell ⟨h, j * 2 + 1, none⟩ (.int .u64 7))) := by
            refine ⟨(hTq.1.set hSh _ _).set hSh _ _, fun i x hi hix => ?_⟩
            exact cell_set_ne (cell_set_ne (hTq.2 i x hi hix) (fun e => hneg e.symm)) (fun e => hneg e.symm)
          clear oh hTq
          go_wp2_with fail
          go_roundw
          case rel => exact ⟨j + 1, by omega, by go_num, HTN.out⟩
          case measure => simp [intOf]; omega
        · have hjn : j = f.rngs.length := by omega
          have hTq' := hide hTq
          have hc : ∀ i, i < 10 → (∃ v, wr.cell? ⟨g, k * 10 + i, none⟩ = some v) ∧ wr.frozen? ⟨g, k * 10 + i, none⟩ = false := fun i hi => hTq.1.cell hSg HOG.out (i := k * 10 + i) (by rw [HSG.out]; omega)
          obtain ⟨⟨v0, e0⟩, z0⟩ := hc 0 (by omega)
          obtain ⟨⟨v1, e1⟩, z1⟩ := hc 1 (by omega)
          obtain ⟨⟨v2, e2⟩, z2⟩ := hc 2 (by omega)
          obtain ⟨⟨v3, e3⟩, z3⟩ := hc 3 (by omega)
          obtain ⟨⟨v4, e4⟩, z4⟩ := hc 4 (by omega)
          obtain ⟨⟨v5, e5⟩, z5⟩ := hc 5 (by omega)
          obtain ⟨⟨v6, e6⟩, z6⟩ := hc 6 (by omega)
          obtain ⟨⟨v7, e7⟩, z7⟩ := hc 7 (by omega)
          obtain ⟨⟨v8, e8⟩, z8⟩ := hc 8 (by omega)
          obtain ⟨_, z9⟩ := hc 9 (by omega)
          rw [Nat.add_zero] at e0 z0
          clear hc hTq hjn
          go_wp2_with fail
          go_roundw
          case rel =>
            refine ⟨k + 1, by omega, by go_num, (fun e => by cases e), fun g' e => ?_⟩
            cases e
            exact ((((((((((hTq'.out.more.set hSg (by omega) _).set hSg (by omega) _).set hSg (by omega) _).set hSg (by omega) _).set hSg (by omega) _).set hSg (by omega) _).set hSg (by omega) _).set hSg (by omega) _).set hSg (by omega) _).set hSg (by omega) _)
          case measure => simp [intOf]; omega
    · have hT' := hide hT
      have hkn := hide (show k = rvs.length by omega)
      clear hT
      go_wp2_with fail
      refine bodyPost_end (results_none rfl _ _ _) rfl ⟨rfl, ?_⟩
      refine (HM0.out.mono (fun i hi => hi.elim)).trans ?_
      rcases HO.out.1.2 with ⟨hv, _⟩ | ⟨g, _, _, hv, _⟩
      · exact hM (Value.slice.inj hv).1
      · exact (hT'.out g (Value.slice.inj hv).1).1.1
end Go.Proofs.YtddfdpbaiedcjabGreatDoor
