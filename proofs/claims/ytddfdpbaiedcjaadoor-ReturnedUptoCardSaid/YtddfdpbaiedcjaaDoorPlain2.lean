/- plain.Decode. -/
import Derived.Test.YtddfdpbaiedcjaaDoorPlain
namespace Go.Proofs.YtddfdpbaiedcjaaDoor
open Go.RowKit

/-- append of bytes onto nothing: a copy. -/
theorem bs_copy (w : World) (v : Value) (l : List UInt8) (h : BR w v l) (hl : l.length ≤ 70368744177664) :
    ∃ v' w', (∀ ty, (Builtin.append_ #[29, 29] ty #[.slice none 0 0, v]).run Tryd.prog w = .ok v' w') ∧ OB w' v' l ∧ Mod NoB w w' ∧ (∀ g, v'.ownBlock = some g → w.heap.size ≤ g) := by
  obtain ⟨i, hi1, hz, hz1, hz2⟩ := info_parts info_u8
  obtain ⟨a, cap, rfl, h1, h2, h3⟩ := id h
  by_cases h0 : l.length = 0
  · have hrs : l = [] := List.eq_nil_of_length_eq_zero h0
    subst hrs
    cases a with
    | none =>
      refine ⟨.slice none 0 0, w, fun ty => ?_, OB.nil w, Mod.refl _ _, fun g hg => by cases hg⟩
      simp [Builtin.append_, run_underlying Tryd.underlying29, sizeOf, typeInfo, hi1, Builtin.lenOf, Builtin.firstCells, loadCells, loadCellsFrom]
    | some a =>
      obtain ⟨v', w', k1, k2, k3, k4⟩ := run_append_owned_at (P := Tryd.prog) w 29 5 i (.int .u8 0) 1 1 Tryd.underlying29 hi1 hz hz1 hz2 rfl (by decide) (.slice none 0 0) 0 [] (World.ownsRow_nil w 0 _ 1)
        a 0 cap [] rfl (by intro j u hu; cases hu) (by intro u hu; cases hu) (by unfold maxLen; omega) (by omega)
      exact ⟨v', w', k1, k2, (Mod.refl _ w).grown k3 (fun k hk => by cases hk), fun g hg => (k4 g hg).elim (fun x => by cases x) id⟩
  · obtain ⟨g, o, rfl, _⟩ := h3 0 l[0] (List.getElem?_eq_getElem (by omega))
    obtain ⟨v', w', k1, k2, k3, k4⟩ := run_append_owned_at (P := Tryd.prog) w 29 5 i (.int .u8 0) 1 1 Tryd.underlying29 hi1 hz hz1 hz2 rfl (by decide) (.slice none 0 0) 0 [] (World.ownsRow_nil w 0 _ 1)
      ⟨g, o, none⟩ l.length cap (bcells l) (by rw [bcells_length, Nat.mul_one]) (by
        intro j u hu
        simp only [bcells, List.getElem?_map, Option.map_eq_some_iff] at hu
        obtain ⟨c, hc, rfl⟩ := hu
        obtain ⟨g', o', e, hh⟩ := h3 j c hc
        cases e
        rw [addr_add]
        exact hh) (bcells_one l) (by unfold maxLen; omega) (by omega)
    refine ⟨v', w', k1, ?_, (Mod.refl _ w).grown k3 (fun k hk => by cases hk), fun g hg => (k4 g hg).elim (fun x => by cases x) id⟩
    rw [Nat.zero_add, List.nil_append] at k2
    exact k2

theorem results_packet2 (tmps : Array Value) (w : World) (qb : Nat) (n fv : Value) (h2 : tmps.getD 2 undef = .pointer (some ⟨qb, 0, none⟩))
    (c0 : w.cell? ⟨qb, 0, none⟩ = some n) (c1 : w.cell? ⟨qb, 1, none⟩ = some fv) :
    (results Tryd.f11 tmps).run Tryd.prog w = .ok (.tuple #[.agg #[n, fv], tmps.getD 3 undef]) w := by
  have h2' : tmps[2]?.getD undef = .pointer (some ⟨qb, 0, none⟩) := by rw [← h2]; simp
  simp [results, Tryd.results11, go_sem, h2', c0, c1]

theorem Decoded.shape {w : World} {r : DecR} {e : Ending} {w' : World} (h : Decoded w r e w') : ∃ x fa fl fc ev, e = .returned (.tuple #[.agg #[.int .u64 x, .slice fa fl fc], ev]) := by
  cases r with
  | sum => exact ⟨_, _, _, _, _, h.2⟩
  | bad a => obtain ⟨_, fa, he, _⟩ := h; exact ⟨_, _, _, _, _, he⟩
  | ok n fs =>
    obtain ⟨_, fv, rvs, he, ho, _⟩ := h
    obtain ⟨fa, fc, rfl, _⟩ := own_form ho.1
    exact ⟨_, _, _, _, _, he⟩

theorem Decoded.from {w X : World} {r : DecR} {e : Ending} {w' : World} (m : Mod NoB w X) (h : Decoded X r e w') : Decoded w r e w' := by
  refine ⟨m.trans h.1, ?_⟩
  have hs := m.size
  cases r with
  | sum => exact h.2
  | bad a =>
    obtain ⟨_, fa, he, ho, hl⟩ := h
    exact ⟨fa, he, ho, by omega⟩
  | ok n fs =>
    obtain ⟨_, fv, rvs, he, ho, hm, h1, h2⟩ := h
    exact ⟨fv, rvs, he, ho, hm, fun g hg => by have := h1 g hg; omega, fun x hx g hg => by have := h2 x hx g hg; omega⟩

/-- Only blocks of neither frames nor ranges, nor faults, have turned, and old ones of B. -/
theorem Decoded.to {w X Y : World} {r : DecR} {e : Ending} {S : Nat → Prop} (h : Decoded w r e X) (m : Mod S X Y) (hS : ∀ i, S i → ∃ cs T fz, X.heap[i]? = some (.cells cs T fz) ∧ T ≠ 28 ∧ T ≠ 50 ∧ T ≠ 56) (hw : ∀ i, S i → w.heap.size ≤ i) : Decoded w r e Y := by
  refine ⟨h.1.then m (fun i hi => .inr (hw i hi)), ?_⟩
  cases r with
  | sum => exact h.2
  | bad a =>
    obtain ⟨_, fa, he, ho, hl⟩ := h
    refine ⟨fa, he, m.obj (fun hx => ?_) ho, hl⟩
    obtain ⟨cs, T, fz, h1, _, _, h4⟩ := hS fa hx
    rw [h1] at ho
    simp at ho
    exact h4 ho.2.1
  | ok n fs =>
    obtain ⟨_, fv, rvs, he, ho, hm, h1, h2⟩ := h
    exact ⟨fv, rvs, he, OwnF.mod ho m (fun i hi => .inr (by obtain ⟨cs, T, fz, q1, q2, q3, _⟩ := hS i hi; exact ⟨cs, T, fz, q1, q2, q3⟩)), hm, h1, h2⟩

set_option maxRecDepth 100000 in
theorem mdecode_any (v : Value) (bs : List UInt8) (w : World) (hb : BR w v bs) (ht : Tab w) (hl : bs.length < 1099511627776) : Calls Tryd.prog 11 #[v] w (Decoded w (dec bs)) := by
  have m0 : Mod NoB w (w.alloc (.cells #[.int .u64 0, .slice none 0 0] 25)) := (Mod.refl _ _).alloc _
  have oQ : (w.alloc (.cells #[.int .u64 0, .slice none 0 0] 25)).heap[w.heap.size]? = some (.cells #[.int .u64 0, .slice none 0 0] 25 (0, 0)) := heap_alloc_new w _
  obtain ⟨W0, hW0⟩ : ∃ W0, w.alloc (.cells #[.int .u64 0, .slice none 0 0] 25) = W0 := ⟨_, rfl⟩
  rw [hW0] at m0 oQ
  have k1 := wdecode_any v bs W0 (hb.mod m0 (OffS.no _)) (ht.mod m0 (fun x => x)) hl
  have M0 := hide m0
  have HQ := hide oQ
  have HW0 := hide hW0
  obtain ⟨a, cap, rfl, _⟩ := hb
  clear m0 oQ hW0 ht
  go_enter Tryd.func11, Tryd.ntmps11
  go_wp2_with fail
  rw [HW0.out]
  refine k1.mono ?_
  intro e w1 hD
  obtain ⟨x, fa, fl, fc, ev, rfl⟩ := hD.shape
  have oQ : w1.heap[w.heap.size]? = some (.cells #[.int .u64 0, .slice none 0 0] 25 (0, 0)) := hD.1.obj (fun x => x) HQ.out
  have q0 : w1.cell? ⟨w.heap.size, 0, none⟩ = some (.int .u64 0) := cell_of_obj oQ rfl
  have q1 : w1.cell? ⟨w.heap.size, 1, none⟩ = some (.slice none 0 0) := cell_of_obj oQ rfl
  have z0 : w1.frozen? ⟨w.heap.size, 0, none⟩ = false := frozen_of_obj oQ
  have z1 : w1.frozen? ⟨w.heap.size, 1, none⟩ = false := frozen_of_obj oQ
  have HD := hide hD
  have HOQ := hide oQ
  clear hD k1 oQ
  go_wp2_with fail
  obtain ⟨WF, hWF⟩ : ∃ WF, (w1.setCell ⟨w.heap.size, 0, none⟩ (.int .u64 x)).setCell ⟨w.heap.size, 1, none⟩ (.slice fa fl fc) = WF := ⟨_, rfl⟩
  rw [hWF]
  have mF : Mod (fun k => k = w.heap.size) w1 WF := by
    rw [← hWF]
    exact ((Mod.refl (fun k => k = w.heap.size) w1).setCell (p := ⟨w.heap.size, 0, none⟩) (.inl rfl) _).setCell (p := ⟨w.heap.size, 1, none⟩) (.inl rfl) _
  have oF : WF.heap[w.heap.size]? = some (.cells #[.int .u64 x, .slice fa fl fc] 25 (0, 0)) := by
    rw [← hWF]
    exact obj_setCell (obj_setCell HOQ.out)
  refine bodyPost_ret (results_packet2 _ _ w.heap.size (.int .u64 x) (.slice fa fl fc) rfl (cell_of_obj oF rfl) (cell_of_obj oF rfl)) rfl ?_
  refine Decoded.to (HD.out.from M0.out) mF (fun i hi => ?_) (fun i hi => ?_)
  · have hi : i = w.heap.size := hi
    subst hi
    exact ⟨_, _, _, HOQ.out, by decide, by decide, by decide⟩
  · have hi : i = w.heap.size := hi
    omega

/-- What plain.Decode answers. -/
def PDec (w : World) (r : DecR) (e : Ending) (w' : World) : Prop :=
  Mod NoB w w' ∧ match r with
  | .sum => e = .returned (.tuple #[.agg #[.int .u64 0, .slice none 0 0], .int .i64 7, .int .i64 (-1)])
  | .bad at_ => e = .returned (.tuple #[.agg #[.int .u64 0, .slice none 0 0], .int .i64 8, .int .i64 (at_ : Int)])
  | .ok num fs => ∃ fv rvs, e = .returned (.tuple #[.agg #[.int .u64 (num : Int), fv], .int .i64 0, .int .i64 (-1)]) ∧ OwnF w' fv rvs ∧ rvs.map (·.1) = fs ∧ (∀ g, fv.ownBlock = some g → w.heap.size ≤ g) ∧ ∀ x ∈ rvs, ∀ g, x.2.ownBlock = some g → w.heap.size ≤ g

theorem results_packet3 (tmps : Array Value) (w : World) (qb : Nat) (n fv : Value) (h2 : tmps.getD 2 undef = .pointer (some ⟨qb, 0, none⟩))
    (c0 : w.cell? ⟨qb, 0, none⟩ = some n) (c1 : w.cell? ⟨qb, 1, none⟩ = some fv) :
    (results Tryd.f5 tmps).run Tryd.prog w = .ok (.tuple #[.agg #[n, fv], tmps.getD 3 undef, tmps.getD 4 undef]) w := by
  have h2' : tmps[2]?.getD undef = .pointer (some ⟨qb, 0, none⟩) := by rw [← h2]; simp
  simp [results, Tryd.results5, go_sem, h2', c0, c1]

/-- The row of bytes that is being written into. -/
def BangAt (W : World) (v : Value) (wr : World) : Prop := Shape (fun k => v.ownBlock = some k) W wr

/-- What Told answers of what Decode answered. -/
theorem decoded_told {w X : World} {r : DecR} {p ev : Value} (h : Decoded w r (.returned (.tuple #[p, ev])) X) (hg : ErrT X) :
    ∃ n at_, Calls Tryd.prog 12 #[ev] X (IsTold X n at_) ∧ ∀ w', Mod NoB X w' → PDec w r (.returned (.tuple #[p, .int .i64 n, .int .i64 at_])) w' := by
  cases r with
  | sum =>
    obtain ⟨m, he⟩ := h
    cases he
    exact ⟨7, -1, told_E 7 X hg, fun w' m' => ⟨m.trans m', rfl⟩⟩
  | bad a =>
    obtain ⟨m, fa, he, ho, hl⟩ := h
    cases he
    exact ⟨8, a, told_F fa 8 a X hg (cell_of_obj ho rfl) (cell_of_obj ho rfl), fun w' m' => ⟨m.trans m', rfl⟩⟩
  | ok n fs =>
    obtain ⟨m, fv, rvs, he, ho, hm, h1, h2⟩ := h
    cases he
    exact ⟨0, -1, told_nil X, fun w' m' => ⟨m.trans m', fv, rvs, rfl, OwnF.mod ho m' (fun i hi => hi.elim), hm, h1, h2⟩⟩

theorem PDec.from {w X : World} {r : DecR} {e : Ending} {w' : World} (m : Mod NoB w X) (h : PDec X r e w') : PDec w r e w' := by
  refine ⟨m.trans h.1, ?_⟩
  have hs := m.size
  cases r with
  | sum => exact h.2
  | bad a => exact h.2
  | ok n fs =>
    obtain ⟨_, fv, rvs, he, ho, hm, h1, h2⟩ := h
    exact ⟨fv, rvs, he, ho, hm, fun g hg => by have := h1 g hg; omega, fun x hx g hg => by have := h2 x hx g hg; omega⟩

theorem PDec.to {w X Y : World} {r : DecR} {e : Ending} {S : Nat → Prop} (h : PDec w r e X) (m : Mod S X Y) (hS : ∀ i, S i → ∃ cs T fz, X.heap[i]? = some (.cells cs T fz) ∧ T ≠ 28 ∧ T ≠ 50) (hw : ∀ i, S i → w.heap.size ≤ i) : PDec w r e Y := by
  refine ⟨h.1.then m (fun i hi => .inr (hw i hi)), ?_⟩
  cases r with
  | sum => exact h.2
  | bad a => exact h.2
  | ok n fs =>
    obtain ⟨_, fv, rvs, he, ho, hm, h1, h2⟩ := h
    exact ⟨fv, rvs, he, OwnF.mod ho m (fun i hi => .inr (hS i hi)), hm, h1, h2⟩

set_option maxRecDepth 100000 in
set_option maxHeartbeats 1000000 in
theorem pdecode_any (v : Value) (bs : List UInt8) (w : World) (hb : BR w v bs) (ht : Tab w) (hg : ErrT w) (hl : bs.length < 1099511627776) : Calls Tryd.prog 5 #[v] w (PDec w (dec bs)) := by
  obtain ⟨W0, hW0⟩ : ∃ W0, w.alloc (.cells #[.int .u64 0, .slice none 0 0] 25) = W0 := ⟨_, rfl⟩
  have m0 : Mod NoB w W0 := by rw [← hW0]; exact (Mod.refl _ _).alloc _
  have oQ : W0.heap[w.heap.size]? = some (.cells #[.int .u64 0, .slice none 0 0] 25 (0, 0)) := by rw [← hW0]; exact heap_alloc_new w _
  have hs0 : W0.heap.size = w.heap.size + 1 := by rw [← hW0]; simp
  obtain ⟨v1, W1, hr1, own1, m1, hn1⟩ := bs_copy W0 v bs (hb.mod m0 (OffS.no _)) (by omega)
  have k1 := mdecode_any v1 bs W1 own1.br ((ht.mod m0 (fun x => x)).mod m1 (fun x => x)) hl
  have gE1 : ErrT W1 := (hg.mod m0 (fun x => x)).mod m1 (fun x => x)
  obtain ⟨xa, xc, rfl, hx1, hx2, hx3⟩ := own_form own1
  unfold maxLen at hx2
  have hlt := own_lt' own1
  obtain ⟨a, cap, rfl, _⟩ := hb
  have HW0 := hide hW0
  have HQ := hide (m1.obj (fun x => x) oQ)
  have M1 := hide (m0.trans m1)
  have HGE := hide gE1
  have HOWN := hide own1
  have hs1 := m1.size
  have h1p : 0 < w.heap.size := lt_of_cell hg
  clear m0 oQ own1 m1 gE1 ht hg hW0
  go_enter Tryd.func5, Tryd.ntmps5
  go_wp2_with (rw [HW0.out]; at_builtin; refine wpList_append_is rfl _ _ _ _ rfl _ _ _ rfl rfl hr1 ?_; clear hr1)
  refine k1.mono ?_
  clear k1
  intro e w1 hD
  obtain ⟨x, fa, fl, fc, ev, rfl⟩ := hD.shape
  have HEAD : True := trivial
  obtain ⟨W2, hW2⟩ : ∃ W2, w1.alloc (.cells #[.int .u64 x, .slice fa fl fc] 25) = W2 := ⟨_, rfl⟩
  have m2 : Mod NoB w1 W2 := by rw [← hW2]; exact (Mod.refl _ _).alloc _
  have oP : W2.heap[w1.heap.size]? = some (.cells #[.int .u64 x, .slice fa fl fc] 25 (0, 0)) := by rw [← hW2]; exact heap_alloc_new w1 _
  have oQ2 : W2.heap[w.heap.size]? = some (.cells #[.int .u64 0, .slice none 0 0] 25 (0, 0)) := m2.obj (fun x => x) (hD.1.obj (fun x => x) HQ.out)
  have ow2 : OB W2 (.slice xa bs.length xc) bs := (HOWN.out.mod0 hD.1).mod0 m2
  have gE2 : ErrT W2 := (HGE.out.mod hD.1 (fun x => x)).mod m2 (fun x => x)
  have hD2 : Decoded w (dec bs) (.returned (.tuple #[.agg #[.int .u64 x, .slice fa fl fc], ev])) W2 := (hD.from M1.out).to m2 (fun i hi => hi.elim) (fun i hi => hi.elim)
  have hs2 := hD.1.size
  have HW2 := hide hW2
  have HP := hide oP
  have HQ2 := hide oQ2
  have HOW2 := hide ow2
  have HGE2 := hide gE2
  have HD2 := hide hD2
  clear hD m2 oP oQ2 ow2 gE2 hD2 hW2 HEAD
  go_wp2_with fail
  rw [HW2.out]
  go_loopw [20] (fun i wr => ∃ k : Nat, k ≤ bs.length ∧ i = .int .i64 k ∧ BangAt W2 (.slice xa bs.length xc) wr) (fun i _ => bs.length - (intOf i).toNat)
  case atStart => exact ⟨0, Nat.zero_le _, rfl, Shape.refl _ _⟩
  case round =>
    obtain ⟨k, hk, rfl, hB⟩ := hrel
    by_cases hlt2 : k < bs.length
    · obtain ⟨g, rfl⟩ := hx3 (by omega)
      obtain ⟨cg, og, sg, _⟩ := own_obj HOW2.out
      obtain ⟨⟨v0, e0⟩, z0⟩ := hB.cell (b := g) rfl og (i := k) (by omega)
      have HB := hide (hB.set (b := g) rfl k (.int .u8 33))
      clear hB og
      go_wp2_with fail
      go_roundw
      case rel => exact ⟨k + 1, by omega, by go_num, HB.out⟩
      case measure => simp [intOf]; omega
    · have hSl : ∀ i, (Value.slice xa bs.length xc).ownBlock = some i → W0.heap.size ≤ i ∧ i < W1.heap.size := fun i hi => ⟨hn1 i hi, hlt i hi⟩
      have oP3 : wr.heap[w1.heap.size]? = some (.cells #[.int .u64 x, .slice fa fl fc] 25 (0, 0)) := hB.1.obj (fun hx => by have := hSl _ hx; omega) HP.out
      have oQ3 : wr.heap[w.heap.size]? = some (.cells #[.int .u64 0, .slice none 0 0] 25 (0, 0)) := hB.1.obj (fun hx => by have := hSl _ hx; omega) HQ2.out
      have gE3 : ErrT wr := HGE2.out.mod hB.1 (fun hx => by have := hSl _ hx; omega)
      have hD3 := HD2.out.to hB.1 (fun i hi => by
        have hi : (Value.slice xa bs.length xc).ownBlock = some i := hi
        rcases HOW2.out.2 with ⟨hv, _⟩ | ⟨g, cap', cur, hv, _, hg, _⟩
        · rw [hv] at hi
          cases hi
        · rw [hv] at hi
          have hi : g = i := by simpa [Value.ownBlock] using hi
          subst hi
          exact ⟨_, _, _, hg, by decide, by decide, by decide⟩) (fun i hi => by have := hSl _ hi; omega)
      obtain ⟨nn, na, hc, hP⟩ := decoded_told hD3 gE3
      have HPd := hide hP
      have HP3 := hide oP3
      have HQ3 := hide oQ3
      clear hB oP3 oQ3 gE3 hD3 hP
      go_wp2_with fail
      refine hc.mono ?_
      rintro e w4 ⟨rfl, m4⟩
      clear hc
      have oP4 := m4.obj (fun x => x) HP3.out
      have oQ4 := m4.obj (fun x => x) HQ3.out
      have p0 : w4.cell? ⟨w1.heap.size, 0, none⟩ = some (.int .u64 x) := cell_of_obj oP4 rfl
      have p1 : w4.cell? ⟨w1.heap.size, 1, none⟩ = some (.slice fa fl fc) := cell_of_obj oP4 rfl
      have q0 : w4.cell? ⟨w.heap.size, 0, none⟩ = some (.int .u64 0) := cell_of_obj oQ4 rfl
      have q1 : w4.cell? ⟨w.heap.size, 1, none⟩ = some (.slice none 0 0) := cell_of_obj oQ4 rfl
      have z0 : w4.frozen? ⟨w.heap.size, 0, none⟩ = false := frozen_of_obj oQ4
      have z1 : w4.frozen? ⟨w.heap.size, 1, none⟩ = false := frozen_of_obj oQ4
      have HPD := hide (HPd.out w4 m4)
      have HOQ := hide oQ4
      clear m4 oP4 oQ4
      go_wp2_with fail
      obtain ⟨WF, hWF⟩ : ∃ WF, (w4.setCell ⟨w.heap.size, 0, none⟩ (.int .u64 x)).setCell ⟨w.heap.size, 1, none⟩ (.slice fa fl fc) = WF := ⟨_, rfl⟩
      rw [hWF]
      have mF : Mod (fun k => k = w.heap.size) w4 WF := by
        rw [← hWF]
        exact ((Mod.refl (fun k => k = w.heap.size) w4).setCell (p := ⟨w.heap.size, 0, none⟩) (.inl rfl) _).setCell (p := ⟨w.heap.size, 1, none⟩) (.inl rfl) _
      have oF : WF.heap[w.heap.size]? = some (.cells #[.int .u64 x, .slice fa fl fc] 25 (0, 0)) := by
        rw [← hWF]
        exact obj_setCell (obj_setCell HOQ.out)
      refine bodyPost_ret (results_packet3 _ _ w.heap.size (.int .u64 x) (.slice fa fl fc) rfl (cell_of_obj oF rfl) (cell_of_obj oF rfl)) rfl ?_
      refine PDec.to HPD.out mF (fun i hi => ?_) (fun i hi => ?_)
      · have hi : i = w.heap.size := hi
        subst hi
        exact ⟨_, _, _, HOQ.out, by decide, by decide⟩
      · have hi : i = w.heap.size := hi
        omega
end Go.Proofs.YtddfdpbaiedcjaaDoor
