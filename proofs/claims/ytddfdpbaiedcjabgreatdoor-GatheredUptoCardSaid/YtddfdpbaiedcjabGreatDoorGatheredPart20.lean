/- The statement Gathered, second form, its card: where what the law reads is of bulk at most 1048576, and the two listed variables read as listed, it returns true, and its argument reads behind the call as before. Part 20 of 23. -/
import Derived.Test.YtddfdpbaiedcjabGreatDoorGatheredPart17
import Derived.Test.YtddfdpbaiedcjabGreatDoorGatheredPart14
import Derived.Test.YtddfdpbaiedcjabGreatDoorGatheredPart19
import Derived.Test.YtddfdpbaiedcjabGreatDoorGatheredPart12
import Derived.Test.YtddfdpbaiedcjabGreatDoorGatheredPart18
import Derived.Test.YtddfdpbaiedcjabGreatDoorGatheredPart4
import Derived.Lib.ConvBytes
/- plain.Decode. -/
namespace Go.Proofs.YtddfdpbaiedcjabGreatDoor
open Go.RowKit

theorem results_packet2 (tmps : Array Value) (w : World) (qb : Nat) (n fv : Value) (h2 : tmps.getD 2 undef = .pointer (some ⟨qb, 0, none⟩))
    (c0 : w.cell? ⟨qb, 0, none⟩ = some n) (c1 : w.cell? ⟨qb, 1, none⟩ = some fv) :
    (results Tryz.f74 tmps).run Tryz.prog w = .ok (.tuple #[.agg #[n, fv], tmps.getD 3 undef]) w := by
  have h2' : tmps[2]?.getD undef = .pointer (some ⟨qb, 0, none⟩) := by rw [← h2]; simp
  simp [results, Tryz.results74, go_sem, h2', c0, c1]

theorem Decoded.shape {w : World} {r : DecR} {e : Ending} {w' : World} (h : Decoded w r e w') : ∃ x fa fl fc ev, e = .returned (.tuple #[.agg #[.int .u64 x, .slice fa fl fc], ev]) := by
  cases r with
  | sum => exact ⟨_, _, _, _, _, h.2⟩
  | bad a => obtain ⟨_, fa, he, _⟩ := h; exact ⟨_, _, _, _, _, he⟩
  | ok n fs =>
    obtain ⟨_, fv, rvs, he, ho, _⟩ := h
    obtain ⟨fa, fc, rfl, _⟩ := own_form ho.1
    exact ⟨_, _, _, _, _, he⟩

theorem Decoded.from {w X : World} {r : DecR} {e : Ending} {w' : World} (m : Mod NoB w X) (h : Decoded X r e w') : Decoded w r e w' := by
  refine ⟨m.trans h.1, ?_⟩
  have hs := m.size
  cases r with
  | sum => exact h.2
  | bad a =>
    obtain ⟨_, fa, he, ho, hl⟩ := h
    exact ⟨fa, he, ho, by omega⟩
  | ok n fs =>
    obtain ⟨_, fv, rvs, he, ho, hm, h1, h2⟩ := h
    exact ⟨fv, rvs, he, ho, hm, fun g hg => by have := h1 g hg; omega, fun x hx g hg => by have := h2 x hx g hg; omega⟩

/-- Only blocks of neither frames nor ranges, nor faults, have turned, and old ones of B. -/
theorem Decoded.to {w X Y : World} {r : DecR} {e : Ending} {S : Nat → Prop} (h : Decoded w r e X) (m : Mod S X Y) (hS : ∀ i, S i → ∃ cs T fz, X.heap[i]? = some (.cells cs T fz) ∧ T ≠ 48 ∧ T ≠ 110 ∧ T ≠ 183) (hw : ∀ i, S i → w.heap.size ≤ i) : Decoded w r e Y := by
  refine ⟨h.1.then m (fun i hi => .inr (hw i hi)), ?_⟩
  cases r with
  | sum => exact h.2
  | bad a =>
    obtain ⟨_, fa, he, ho, hl⟩ := h
    refine ⟨fa, he, m.obj (fun hx => ?_) ho, hl⟩
    obtain ⟨cs, T, fz, h1, _, _, h4⟩ := hS fa hx
    rw [h1] at ho
    simp at ho
    exact h4 ho.2.1
  | ok n fs =>
    obtain ⟨_, fv, rvs, he, ho, hm, h1, h2⟩ := h
    exact ⟨fv, rvs, he, OwnF.mod ho m (fun i hi => .inr (by obtain ⟨cs, T, fz, q1, q2, q3, _⟩ := hS i hi; exact ⟨cs, T, fz, q1, q2, q3⟩)), hm, h1, h2⟩

set_option maxRecDepth 100000 in
theorem mdecode_any (v : Value) (bs : List UInt8) (w : World) (hb : BR w v bs) (ht : Tab w) (hl : bs.length < 1099511627776) : Calls Tryz.prog 74 #[v] w (Decoded w (dec bs)) := by
  have m0 : Mod NoB w (w.alloc (.cells #[.int .u64 0, .slice none 0 0] 37)) := (Mod.refl _ _).alloc _
  have oQ : (w.alloc (.cells #[.int .u64 0, .slice none 0 0] 37)).heap[w.heap.size]? = some (.cells #[.int .u64 0, .slice none 0 0] 37 (0, 0)) := heap_alloc_new w _
  obtain ⟨W0, hW0⟩ : ∃ W0, w.alloc (.cells #[.int .u64 0, .slice none 0 0] 37) = W0 := ⟨_, rfl⟩
  rw [hW0] at m0 oQ
  have k1 := wdecode_any v bs W0 (hb.mod m0 (OffS.no _)) (ht.mod m0 (fun x => x)) hl
  have M0 := hide m0
  have HQ := hide oQ
  have HW0 := hide hW0
  obtain ⟨a, cap, rfl, _⟩ := hb
  clear m0 oQ hW0 ht
  go_enter Tryz.func74, Tryz.ntmps74
  go_wp2_with fail
  rw [HW0.out]
  refine k1.mono ?_
  intro e w1 hD
  obtain ⟨x, fa, fl, fc, ev, rfl⟩ := hD.shape
  have oQ : w1.heap[w.heap.size]? = some (.cells #[.int .u64 0, .slice none 0 0] 37 (0, 0)) := hD.1.obj (fun x => x) HQ.out
  have q0 : w1.cell? ⟨w.heap.size, 0, none⟩ = some (.int .u64 0) := cell_of_obj oQ rfl
  have q1 : w1.cell? ⟨w.heap.size, 1, none⟩ = some (.slice none 0 0) := cell_of_obj oQ rfl
  have z0 : w1.frozen? ⟨w.heap.size, 0, none⟩ = false := frozen_of_obj oQ
  have z1 : w1.frozen? ⟨w.heap.size, 1, none⟩ = false := frozen_of_obj oQ
  have HD := hide hD
  have HOQ := hide oQ
  clear hD k1 oQ
  go_wp2_with fail
  obtain ⟨WF, hWF⟩ : ∃ WF, (w1.setCell ⟨w.heap.size, 0, none⟩ (.int .u64 x)).setCell ⟨w.heap.size, 1, none⟩ (.slice fa fl fc) = WF := ⟨_, rfl⟩
  rw [hWF]
  have mF : Mod (fun k => k = w.heap.size) w1 WF := by
    rw [← hWF]
    exact ((Mod.refl (fun k => k = w.heap.size) w1).setCell (p := ⟨w.heap.size, 0, none⟩) (.inl rfl) _).setCell (p := ⟨w.heap.size, 1, none⟩) (.inl rfl) _
  have oF : WF.heap[w.heap.size]? = some (.cells #[.int .u64 x, .slice fa fl fc] 37 (0, 0)) := by
    rw [← hWF]
    exact obj_setCell (obj_setCell HOQ.out)
  refine bodyPost_ret (results_packet2 _ _ w.heap.size (.int .u64 x) (.slice fa fl fc) rfl (cell_of_obj oF rfl) (cell_of_obj oF rfl)) rfl ?_
  refine Decoded.to (HD.out.from M0.out) mF (fun i hi => ?_) (fun i hi => ?_)
  · have hi : i = w.heap.size := hi
    subst hi
    exact ⟨_, _, _, HOQ.out, by decide, by decide, by decide⟩
  · have hi : i = w.heap.size := hi
    omega

/-- What plain.Decode answers. -/
def PDec (w : World) (r : DecR) (e : Ending) (w' : World) : Prop :=
  Mod NoB w w' ∧ match r with
  | .sum => e = .returned (.tuple #[.agg #[.int .u64 0, .slice none 0 0], .int .i64 7, .int .i64 (-1)])
  | .bad at_ => e = .returned (.tuple #[.agg #[.int .u64 0, .slice none 0 0], .int .i64 8, .int .i64 (at_ : Int)])
  | .ok num fs => ∃ fv rvs, e = .returned (.tuple #[.agg #[.int .u64 (num : Int), fv], .int .i64 0, .int .i64 (-1)]) ∧ OwnF w' fv rvs ∧ rvs.map (·.1) = fs ∧ (∀ g, fv.ownBlock = some g → w.heap.size ≤ g) ∧ ∀ x ∈ rvs, ∀ g, x.2.ownBlock = some g → w.heap.size ≤ g

theorem results_packet3 (tmps : Array Value) (w : World) (qb : Nat) (n fv : Value) (h2 : tmps.getD 2 undef = .pointer (some ⟨qb, 0, none⟩))
    (c0 : w.cell? ⟨qb, 0, none⟩ = some n) (c1 : w.cell? ⟨qb, 1, none⟩ = some fv) :
    (results Tryz.f36 tmps).run Tryz.prog w = .ok (.tuple #[.agg #[n, fv], tmps.getD 3 undef, tmps.getD 4 undef]) w := by
  have h2' : tmps[2]?.getD undef = .pointer (some ⟨qb, 0, none⟩) := by rw [← h2]; simp
  simp [results, Tryz.results36, go_sem, h2', c0, c1]

/-- The row of bytes that is being written into. -/
def BangAt (W : World) (v : Value) (wr : World) : Prop := Shape (fun k => v.ownBlock = some k) W wr

/-- What Told answers of what Decode answered. -/
theorem decoded_told {w X : World} {r : DecR} {p ev : Value} (h : Decoded w r (.returned (.tuple #[p, ev])) X) (hg : ErrT X) :
    ∃ n at_, Calls Tryz.prog 70 #[ev] X (IsTold X n at_) ∧ ∀ w', Mod NoB X w' → PDec w r (.returned (.tuple #[p, .int .i64 n, .int .i64 at_])) w' := by
  cases r with
  | sum =>
    obtain ⟨m, he⟩ := h
    cases he
    exact ⟨7, -1, told_E 7 X hg, fun w' m' => ⟨m.trans m', rfl⟩⟩
  | bad a =>
    obtain ⟨m, fa, he, ho, hl⟩ := h
    cases he
    exact ⟨8, a, told_F fa 8 a X hg (cell_of_obj ho rfl) (cell_of_obj ho rfl), fun w' m' => ⟨m.trans m', rfl⟩⟩
  | ok n fs =>
    obtain ⟨m, fv, rvs, he, ho, hm, h1, h2⟩ := h
    cases he
    exact ⟨0, -1, told_nil X, fun w' m' => ⟨m.trans m', fv, rvs, rfl, OwnF.mod ho m' (fun i hi => hi.elim), hm, h1, h2⟩⟩

theorem PDec.from {w X : World} {r : DecR} {e : Ending} {w' : World} (m : Mod NoB w X) (h : PDec X r e w') : PDec w r e w' := by
  refine ⟨m.trans h.1, ?_⟩
  have hs := m.size
  cases r with
  | sum => exact h.2
  | bad a => exact h.2
  | ok n fs =>
    obtain ⟨_, fv, rvs, he, ho, hm, h1, h2⟩ := h
    exact ⟨fv, rvs, he, ho, hm, fun g hg => by have := h1 g hg; omega, fun x hx g hg => by have := h2 x hx g hg; omega⟩

theorem PDec.to {w X Y : World} {r : DecR} {e : Ending} {S : Nat → Prop} (h : PDec w r e X) (m : Mod S X Y) (hS : ∀ i, S i → ∃ cs T fz, X.heap[i]? = some (.cells cs T fz) ∧ T ≠ 48 ∧ T ≠ 110) (hw : ∀ i, S i → w.heap.size ≤ i) : PDec w r e Y := by
  refine ⟨h.1.then m (fun i hi => .inr (hw i hi)), ?_⟩
  cases r with
  | sum => exact h.2
  | bad a => exact h.2
  | ok n fs =>
    obtain ⟨_, fv, rvs, he, ho, hm, h1, h2⟩ := h
    exact ⟨fv, rvs, he, OwnF.mod ho m (fun i hi => .inr (hS i hi)), hm, h1, h2⟩

set_option maxRecDepth 100000 in
set_option maxHeartbeats 1000000 in
theorem pdecode_any (v : Value) (bs : List UInt8) (w : World) (hb : BR w v bs) (ht : Tab w) (hg : ErrT w) (hl : bs.length < 1099511627776) : Calls Tryz.prog 36 #[v] w (PDec w (dec bs)) := by
  obtain ⟨W0, hW0⟩ : ∃ W0, w.alloc (.cells #[.int .u64 0, .slice none 0 0] 37) = W0 := ⟨_, rfl⟩
  have m0 : Mod NoB w W0 := by rw [← hW0]; exact (Mod.refl _ _).alloc _
  have oQ : W0.heap[w.heap.size]? = some (.cells #[.int .u64 0, .slice none 0 0] 37 (0, 0)) := by rw [← hW0]; exact heap_alloc_new w _
  have hs0 : W0.heap.size = w.heap.size + 1 := by rw [← hW0]; simp
  obtain ⟨v1, W1, hr1, own1, m1, hn1⟩ := bs_copy W0 v bs (hb.mod m0 (OffS.no _)) (by omega)
  have k1 := mdecode_any v1 bs W1 own1.br ((ht.mod m0 (fun x => x)).mod m1 (fun x => x)) hl
  have gE1 : ErrT W1 := (hg.mod m0 (fun x => x)).mod m1 (fun x => x)
  obtain ⟨xa, xc, rfl, hx1, hx2, hx3⟩ := own_form own1
  unfold maxLen at hx2
  have hlt := own_lt' own1
  obtain ⟨a, cap, rfl, _⟩ := hb
  have HW0 := hide hW0
  have HQ := hide (m1.obj (fun x => x) oQ)
  have M1 := hide (m0.trans m1)
  have HGE := hide gE1
  have HOWN := hide own1
  have hs1 := m1.size
  have h1p : 0 < w.heap.size := lt_of_cell hg
  clear m0 oQ own1 m1 gE1 ht hg hW0
  go_enter Tryz.func36, Tryz.ntmps36
  go_wp2_with (rw [HW0.out]; at_builtin; refine wpList_append_is rfl _ _ _ _ rfl _ _ _ rfl rfl hr1 ?_; clear hr1)
  refine k1.mono ?_
  clear k1
  intro e w1 hD
  obtain ⟨x, fa, fl, fc, ev, rfl⟩ := hD.shape
  have HEAD : True := trivial
  obtain ⟨W2, hW2⟩ : ∃ W2, w1.alloc (.cells #[.int .u64 x, .slice fa fl fc] 37) = W2 := ⟨_, rfl⟩
  have m2 : Mod NoB w1 W2 := by rw [← hW2]; exact (Mod.refl _ _).alloc _
  have oP : W2.heap[w1.heap.size]? = some (.cells #[.int .u64 x, .slice fa fl fc] 37 (0, 0)) := by rw [← hW2]; exact heap_alloc_new w1 _
  have oQ2 : W2.heap[w.heap.size]? = some (.cells #[.int .u64 0, .slice none 0 0] 37 (0, 0)) := m2.obj (fun x => x) (hD.1.obj (fun x => x) HQ.out)
  have ow2 : OB W2 (.slice xa bs.length xc) bs := (HOWN.out.mod0 hD.1).mod0 m2
  have gE2 : ErrT W2 := (HGE.out.mod hD.1 (fun x => x)).mod m2 (fun x => x)
  have hD2 : Decoded w (dec bs) (.returned (.tuple #[.agg #[.int .u64 x, .slice fa fl fc], ev])) W2 := (hD.from M1.out).to m2 (fun i hi => hi.elim) (fun i hi => hi.elim)
  have hs2 := hD.1.size
  have HW2 := hide hW2
  have HP := hide oP
  have HQ2 := hide oQ2
  have HOW2 := hide ow2
  have HGE2 := hide gE2
  have HD2 := hide hD2
  clear hD m2 oP oQ2 ow2 gE2 hD2 hW2 HEAD
  go_wp2_with fail
  rw [HW2.out]
  go_loopw [20] (fun i wr => ∃ k : Nat, k ≤ bs.length ∧ i = .int .i64 k ∧ BangAt W2 (.slice xa bs.length xc) wr) (fun i _ => bs.length - (intOf i).toNat)
  case atStart => exact ⟨0, Nat.zero_le _, rfl, Shape.refl _ _⟩
  case round =>
    obtain ⟨k, hk, rfl, hB⟩ := hrel
    by_cases hlt2 : k < bs.length
    · obtain ⟨g, rfl⟩ := hx3 (by omega)
      obtain ⟨cg, og, sg, _⟩ := own_obj HOW2.out
      obtain ⟨⟨v0, e0⟩, z0⟩ := hB.cell (b := g) rfl og (i := k) (by omega)
      have HB := hide (hB.set (b := g) rfl k (.int .u8 33))
      clear hB og
      go_wp2_with fail
      go_roundw
      case rel => exact ⟨k + 1, by omega, by go_num, HB.out⟩
      case measure => simp [intOf]; omega
    · have hSl : ∀ i, (Value.slice xa bs.length xc).ownBlock = some i → W0.heap.size ≤ i ∧ i < W1.heap.size := fun i hi => ⟨hn1 i hi, hlt i hi⟩
      have oP3 : wr.heap[w1.heap.size]? = some (.cells #[.int .u64 x, .slice fa fl fc] 37 (0, 0)) := hB.1.obj (fun hx => by have := hSl _ hx; omega) HP.out
      have oQ3 : wr.heap[w.heap.size]? = some (.cells #[.int .u64 0, .slice none 0 0] 37 (0, 0)) := hB.1.obj (fun hx => by have := hSl _ hx; omega) HQ2.out
      have gE3 : ErrT wr := HGE2.out.mod hB.1 (fun hx => by have := hSl _ hx; omega)
      have hD3 := HD2.out.to hB.1 (fun i hi => by
        have hi : (Value.slice xa bs.length xc).ownBlock = some i := hi
        rcases HOW2.out.2 with ⟨hv, _⟩ | ⟨g, cap', cur, hv, _, hg, _⟩
        · rw [hv] at hi
          cases hi
        · rw [hv] at hi
          have hi : g = i := by simpa [Value.ownBlock] using hi
          subst hi
          exact ⟨_, _, _, hg, by decide, by decide, by decide⟩) (fun i hi => by have := hSl _ hi; omega)
      obtain ⟨nn, na, hc, hP⟩ := decoded_told hD3 gE3
      have HPd := hide hP
      have HP3 := hide oP3
      have HQ3 := hide oQ3
      clear hB oP3 oQ3 gE3 hD3 hP
      go_wp2_with fail
      refine hc.mono ?_
      rintro e w4 ⟨rfl, m4⟩
      clear hc
      have oP4 := m4.obj (fun x => x) HP3.out
      have oQ4 := m4.obj (fun x => x) HQ3.out
      have p0 : w4.cell? ⟨w1.heap.size, 0, none⟩ = some (.int .u64 x) := cell_of_obj oP4 rfl
      have p1 : w4.cell? ⟨w1.heap.size, 1, none⟩ = some (.slice fa fl fc) := cell_of_obj oP4 rfl
      have q0 : w4.cell? ⟨w.heap.size, 0, none⟩ = some (.int .u64 0) := cell_of_obj oQ4 rfl
      have q1 : w4.cell? ⟨w.heap.size, 1, none⟩ = some (.slice none 0 0) := cell_of_obj oQ4 rfl
      have z0 : w4.frozen? ⟨w.heap.size, 0, none⟩ = false := frozen_of_obj oQ4
      have z1 : w4.frozen? ⟨w.heap.size, 1, none⟩ = false := frozen_of_obj oQ4
      have HPD := hide (HPd.out w4 m4)
      have HOQ := hide oQ4
      clear m4 oP4 oQ4
      go_wp2_with fail
      obtain ⟨WF, hWF⟩ : ∃ WF, (w4.setCell ⟨w.heap.size, 0, none⟩ (.int .u64 x)).setCell ⟨w.heap.size, 1, none⟩ (.slice fa fl fc) = WF := ⟨_, rfl⟩
      rw [hWF]
      have mF : Mod (fun k => k = w.heap.size) w4 WF := by
        rw [← hWF]
        exact ((Mod.refl (fun k => k = w.heap.size) w4).setCell (p := ⟨w.heap.size, 0, none⟩) (.inl rfl) _).setCell (p := ⟨w.heap.size, 1, none⟩) (.inl rfl) _
      have oF : WF.heap[w.heap.size]? = some (.cells #[.int .u64 x, .slice fa fl fc] 37 (0, 0)) := by
        rw [← hWF]
        exact obj_setCell (obj_setCell HOQ.out)
      refine bodyPost_ret (results_packet3 _ _ w.heap.size (.int .u64 x) (.slice fa fl fc) rfl (cell_of_obj oF rfl) (cell_of_obj oF rfl)) rfl ?_
      refine PDec.to HPD.out mF (fun i hi => ?_) (fun i hi => ?_)
      · have hi : i = w.heap.size := hi
        subst hi
        exact ⟨_, _, _, HOQ.out, by decide, by decide⟩
      · have hi : i = w.heap.size := hi
        omega
end Go.Proofs.YtddfdpbaiedcjabGreatDoor
/- mediawireref.Decode. -/
namespace Go.Proofs.YtddfdpbaiedcjabGreatDoor
open Go.RowKit

/-- Bytes that end in their own sum. -/
theorem sealed_iff {bs : List UInt8} {n : Nat} (h : bs.length = n + 4) : bs.take n ++ sum4 (crc (bs.take n)) = bs ↔ be4 bs n = crc (bs.take n) := by
  have hl : (bs.take n).length = n := by simp; omega
  constructor
  · intro e
    have := be4_sum (bs.take n) (crc (bs.take n)) (crc_lt _)
    rw [hl, e] at this
    exact this
  · intro e
    rw [← e]
    have hd : bs = bs.take n ++ bs.drop n := (List.take_append_drop n bs).symm
    have hdl : (bs.drop n).length = 4 := by simp; omega
    have hx : ∀ i, bs.getD (n + i) 0 = (bs.drop n).getD i 0 := fun i => by simp [List.getD_eq_getElem?_getD]
    have h0 := hx 0
    have h1 := hx 1
    have h2 := hx 2
    have h3 := hx 3
    rw [Nat.add_zero] at h0
    unfold be4 byteAt
    rw [h0, h1, h2, h3]
    conv => rhs; rw [hd]
    congr 1
    match bs.drop n, hdl with
    | [a, b, c, d], _ =>
      have ha := a.toNat_lt
      have hb := b.toNat_lt
      have hc := c.toNat_lt
      have hd := d.toNat_lt
      have e : ∀ (x : UInt8) (m : Nat), m % 256 = x.toNat → UInt8.ofNat m = x := fun x m hm => by
        apply UInt8.toNat_inj.1
        rw [UInt8.toNat_ofNat']
        exact hm
      simp only [sum4, List.getD_cons_zero, List.getD_cons_succ]
      rw [e a _ (by omega), e b _ (by omega), e c _ (by omega), e d _ (by omega)]

theorem str_list (l : List UInt8) : (strOf l).toList = l := by simp [strOf]

theorem ownf_push {W W7 : World} {v v7 rv : Value} {rvs : List (Frm × Value)} {f : Frm} (h : OwnF W v rvs) (ho : OwnR W rv f.rngs)
    (q1 : W7.ownsRow 0 48 10 v7 (rvs.length + 1) (fcells (rvs ++ [(f, rv)]))) (q2 : W.grownBy W7 v.ownBlock) : OwnF W7 v7 (rvs ++ [(f, rv)]) := by
  have m3 : Mod (fun k => v.ownBlock = some k) W W7 := (Mod.refl _ _).grown q2 (fun k hk => .inl hk)
  refine ⟨by simpa using q1, fun x hx => ?_⟩
  rcases List.mem_append.1 hx with hx | hx
  · exact (h.2 x hx).mod m3 (fun g hg hj => two_types h.1 (h.2 x hx).1 (by decide) hj hg)
  · simp only [List.mem_singleton] at hx
    subst hx
    exact ho.mod m3 (fun g hg hj => two_types h.1 ho.1 (by decide) hj hg)

theorem results_rdec (tmps : Array Value) (w : World) (qb : Nat) (n fv : Value) (h2 : tmps.getD 2 undef = .pointer (some ⟨qb, 0, none⟩))
    (c0 : w.cell? ⟨qb, 0, none⟩ = some n) (c1 : w.cell? ⟨qb, 1, none⟩ = some fv) :
    (results Tryz.f8 tmps).run Tryz.prog w = .ok (.tuple #[.agg #[n, fv], tmps.getD 3 undef, tmps.getD 4 undef]) w := by
  have h2' : tmps[2]?.getD undef = .pointer (some ⟨qb, 0, none⟩) := by rw [← h2]; simp
  simp [results, Tryz.results8, go_sem, h2', c0, c1]

/-- A packet of nothing lies there. -/
def ZPk (w : World) (qb : Nat) : Prop := w.heap[qb]? = some (.cells #[.int .u64 0, .slice none 0 0] 37 (0, 0))

/-- Midway through the frames. -/
def RDecAt (w wr : World) (rb pb : Nat) (v : Value) (bd : List UInt8) (num : Nat) (R : DecR) : Prop :=
  ∃ fuel pos fv rvs, RRd wr rb v pos false ∧ PkAt wr pb num fv ∧ ZPk wr w.heap.size ∧ OwnF wr fv rvs ∧ (∀ g, fv.ownBlock = some g → w.heap.size ≤ g) ∧ (∀ x ∈ rvs, ∀ g, x.2.ownBlock = some g → w.heap.size ≤ g) ∧
    pos ≤ bd.length ∧ bd.length - pos < fuel ∧ rvs.length ≤ pos ∧ Mod NoB w wr ∧ BR wr v bd ∧ R = rdLoop bd fuel num pos (rvs.map (·.1))

/-- Where the loop is. -/
def rposOf (w : World) (rb : Nat) : Nat := match w.cell? ⟨rb, 1, none⟩ with
  | some (.int _ n) => n.toNat
  | _ => 0

theorem rposOf_at {w : World} {rb pos : Nat} {v : Value} {bad : Bool} (h : RRd w rb v pos bad) : rposOf w rb = pos := by
  unfold rposOf
  rw [h.c1]
  simp

theorem ZPk.set {W : World} {q : Nat} (h : ZPk W q) : ZPk ((W.setCell ⟨q, 0, none⟩ (.int .u64 0)).setCell ⟨q, 1, none⟩ (.slice none 0 0)) q := by
  unfold ZPk at h ⊢
  rw [obj_setCell (obj_setCell h)]
  simp

theorem set2_mod (W : World) (q : Nat) (x y : Value) : Mod (fun k => k = q) W ((W.setCell ⟨q, 0, none⟩ x).setCell ⟨q, 1, none⟩ y) :=
  ((Mod.refl (fun k => k = q) W).setCell (p := ⟨q, 0, none⟩) (.inl rfl) _).setCell (p := ⟨q, 1, none⟩) (.inl rfl) _

theorem zpk_start (w : World) : ZPk (w.alloc (.cells #[.int .u64 0, .slice none 0 0] 37)) w.heap.size := heap_alloc_new w _

set_option maxRecDepth 100000 in
theorem rdec_short (v : Value) (bs : List UInt8) (w : World) (hb : BR w v bs) (hs : bs.length < 4) :
    Calls Tryz.prog 8 #[v] w (PDec w .sum) := by
  obtain ⟨a, cap, rfl, h1, h2, h3⟩ := hb
  unfold maxLen at h2
  have d : (bs.length : Int) < 4 := by omega
  have oQ := zpk_start w
  have m0 : Mod NoB w (w.alloc (.cells #[.int .u64 0, .slice none 0 0] 37)) := (Mod.refl _ _).alloc _
  obtain ⟨W0, hW0⟩ : ∃ W0, w.alloc (.cells #[.int .u64 0, .slice none 0 0] 37) = W0 := ⟨_, rfl⟩
  rw [hW0] at oQ m0
  have q0 : W0.cell? ⟨w.heap.size, 0, none⟩ = some (.int .u64 0) := cell_of_obj oQ rfl
  have q1 : W0.cell? ⟨w.heap.size, 1, none⟩ = some (.slice none 0 0) := cell_of_obj oQ rfl
  have z0 : W0.frozen? ⟨w.heap.size, 0, none⟩ = false := frozen_of_obj oQ
  have z1 : W0.frozen? ⟨w.heap.size, 1, none⟩ = false := frozen_of_obj oQ
  have HQ := hide oQ
  have M0 := hide m0
  clear h3 oQ m0
  go_enter Tryz.func8, Tryz.ntmps8
  go_wp2_with fail
  have oF := HQ.out.set
  refine bodyPost_ret (results_rdec _ _ w.heap.size (.int .u64 0) (.slice none 0 0) rfl (cell_of_obj oF rfl) (cell_of_obj oF rfl)) rfl ?_
  exact ⟨M0.out.then (set2_mod _ _ _ _) (fun k hk => .inr (by have hk : k = w.heap.size := hk; omega)), rfl⟩

set_option maxRecDepth 100000 in
set_option maxHeartbeats 1000000 in
theorem rdec_sum (v : Value) (bs : List UInt8) (n : Nat) (w : World) (hb : BR w v bs) (hn : bs.length = n + 4) (hl : bs.length ≤ 549755813888) (hs : be4 bs n ≠ crc (bs.take n)) :
    Calls Tryz.prog 8 #[v] w (PDec w .sum) := by
  have HB := hide hb
  obtain ⟨a, cap, rfl, h1, h2, h3⟩ := id hb
  unfold maxLen at h2
  have d : ¬ (bs.length : Int) < 4 := by omega
  have z1 : IntKind.i64.wrap ((bs.length : Int) - 4) = (n : Int) := by rw [show (bs.length : Int) - 4 = n by omega]; exact IntWalk.i64_in _ (by omega)
  have oQ := zpk_start w
  have m0 : Mod NoB w (w.alloc (.cells #[.int .u64 0, .slice none 0 0] 37)) := (Mod.refl _ _).alloc _
  obtain ⟨W0, hW0⟩ : ∃ W0, w.alloc (.cells #[.int .u64 0, .slice none 0 0] 37) = W0 := ⟨_, rfl⟩
  rw [hW0] at oQ m0
  have hpre : BR W0 (.slice a n cap) (bs.take n) := (hb.pre (n := n) (by omega)).mod m0 (OffS.no _)
  have hpl : (bs.take n).length = n := by simp; omega
  have ks := rsealed_any (.slice a n cap) (bs.take n) W0 hpre (by omega)
  have hne : ¬ bs.take n ++ sum4 (crc (bs.take n)) = bs := fun e => hs ((sealed_iff hn).1 e)
  have HS : ((strOf (bs.take n ++ sum4 (crc (bs.take n)))).toList == (strOf bs).toList) = false := by
    rw [str_list, str_list, beq_eq_false_iff_ne]
    exact hne
  obtain ⟨os, hos⟩ : ∃ os, bs.take n ++ sum4 (crc (bs.take n)) = os := ⟨_, rfl⟩
  rw [hos] at ks HS
  have HQ := hide oQ
  have M0 := hide m0
  have HW0 := hide hW0
  have hnc : n ≤ cap := by omega
  clear h3 oQ m0 hb hW0 hpre hs hos hn hne
  go_enter Tryz.func8, Tryz.ntmps8
  go_wp2_with fail
  rw [HW0.out]
  refine ks.mono ?_
  clear ks
  rintro e w1 ⟨v1, rfl, ho, m1, hn1⟩
  have c1 := br_string ho.br
  have c2 := br_string ((HB.out.mod M0.out (OffS.no _)).mod m1 (OffS.no _))
  have oQ1 := m1.obj (fun x => x) HQ.out
  obtain ⟨xa, xc, rfl, _⟩ := own_form ho
  have q0 : w1.cell? ⟨w.heap.size, 0, none⟩ = some (.int .u64 0) := cell_of_obj oQ1 rfl
  have q1 : w1.cell? ⟨w.heap.size, 1, none⟩ = some (.slice none 0 0) := cell_of_obj oQ1 rfl
  have y0 : w1.frozen? ⟨w.heap.size, 0, none⟩ = false := frozen_of_obj oQ1
  have y1 : w1.frozen? ⟨w.heap.size, 1, none⟩ = false := frozen_of_obj oQ1
  have HQ1 : Hid (ZPk w1 w.heap.size) := oQ1
  have M1 := hide (M0.out.trans m1)
  clear oQ1 m1 ho
  go_wp2_with fail
  have oF := HQ1.out.set
  refine bodyPost_ret (results_rdec _ _ w.heap.size (.int .u64 0) (.slice none 0 0) rfl (cell_of_obj oF rfl) (cell_of_obj oF rfl)) rfl ?_
  exact ⟨M1.out.then (set2_mod _ _ _ _) (fun k hk => .inr (by have hk : k = w.heap.size := hk; omega)), rfl⟩
end Go.Proofs.YtddfdpbaiedcjabGreatDoor
/- mediawireref.Decode: what is sealed. -/
namespace Go.Proofs.YtddfdpbaiedcjabGreatDoor
open Go.RowKit

/-- It answers: no packet. -/
theorem rdec_bad {w X : World} {at_ : Nat} {tmps : Array Value} (m : Mod NoB w X) (hz : ZPk X w.heap.size) (h2 : tmps.getD 2 undef = .pointer (some ⟨w.heap.size, 0, none⟩)) (h3 : tmps.getD 3 undef = .int .i64 8) (h4 : tmps.getD 4 undef = .int .i64 (at_ : Int)) :
    bodyPost Tryz.prog Tryz.f8 (PDec w (.bad at_)) .ret { tmps := tmps, defers := [] } ((X.setCell ⟨w.heap.size, 0, none⟩ (.int .u64 0)).setCell ⟨w.heap.size, 1, none⟩ (.slice none 0 0)) := by
  have oF := hz.set
  refine bodyPost_ret (results_rdec _ _ w.heap.size (.int .u64 0) (.slice none 0 0) h2 (cell_of_obj oF rfl) (cell_of_obj oF rfl)) rfl ?_
  refine ⟨m.then (set2_mod _ _ _ _) (fun k hk => .inr (by have hk : k = w.heap.size := hk; omega)), ?_⟩
  show _ = _
  rw [h3, h4]

set_option maxRecDepth 100000 in
set_option maxHeartbeats 4000000 in
theorem rdec_main (v : Value) (bs : List UInt8) (n : Nat) (w : World) (hb : BR w v bs) (hn : bs.length = n + 4) (hl : bs.length ≤ 549755813888) (hs : be4 bs n = crc (bs.take n)) :
    Calls Tryz.prog 8 #[v] w (PDec w (decBody (bs.take n))) := by
  have HB := hide hb
  obtain ⟨a, cap, rfl, h1, h2, h3⟩ := id hb
  unfold maxLen at h2
  obtain ⟨g, o, rfl, kk⟩ := hb.byte (i := n) (by omega)
  have hgl := lt_of_cell kk
  have d : ¬ (bs.length : Int) < 4 := by omega
  have z1 : IntKind.i64.wrap ((bs.length : Int) - 4) = (n : Int) := by rw [show (bs.length : Int) - 4 = n by omega]; exact IntWalk.i64_in _ (by omega)
  have oQ := zpk_start w
  have m0 : Mod NoB w (w.alloc (.cells #[.int .u64 0, .slice none 0 0] 37)) := (Mod.refl _ _).alloc _
  obtain ⟨W0, hW0⟩ : ∃ W0, w.alloc (.cells #[.int .u64 0, .slice none 0 0] 37) = W0 := ⟨_, rfl⟩
  rw [hW0] at oQ m0
  have hs0 : W0.heap.size = w.heap.size + 1 := by rw [← hW0]; simp
  have hpre : BR W0 (.slice (some ⟨g, o, none⟩) n cap) (bs.take n) := (hb.pre (n := n) (by omega)).mod m0 (OffS.no _)
  have hpl : (bs.take n).length = n := by simp; omega
  have ks := rsealed_any (.slice (some ⟨g, o, none⟩) n cap) (bs.take n) W0 hpre (by omega)
  rw [(sealed_iff hn).2 hs] at ks
  have HP := hide hpre
  have HQ := hide oQ
  have M0 := hide m0
  have HW0 := hide hW0
  have hnc : n ≤ cap := by omega
  have hn4 : n ≤ 549755813884 := by omega
  obtain ⟨bd, hbd⟩ : ∃ bd, bs.take n = bd := ⟨_, rfl⟩
  rw [hbd] at HP hpl
  rw [hbd]
  obtain ⟨R, hRR⟩ : ∃ R, decBody bd = R := ⟨_, rfl⟩
  have HDB := hide hRR
  rw [hRR]
  clear hRR
  clear h3 oQ m0 hb hW0 hpre hs hn kk hbd
  go_enter Tryz.func8, Tryz.ntmps8
  go_wp2_with fail
  rw [HW0.out]
  refine ks.mono ?_
  clear ks
  rintro e w1 ⟨v1, rfl, ho, m1, hn1⟩
  have c1 := br_string ho.br
  have c2 := br_string ((HB.out.mod M0.out (OffS.no _)).mod m1 (OffS.no _))
  obtain ⟨xa, xc, rfl, _⟩ := own_form ho
  have hs1 := m1.size
  have hr0 : RRd (w1.alloc (.cells #[.slice (some ⟨g, o, none⟩) n cap, .int .i64 0, .bool false] 52)) w1.heap.size (.slice (some ⟨g, o, none⟩) n cap) 0 false := heap_alloc_new w1 _
  have m2 : Mod NoB w1 (w1.alloc (.cells #[.slice (some ⟨g, o, none⟩) n cap, .int .i64 0, .bool false] 52)) := (Mod.refl _ _).alloc _
  have oQ1 := m2.obj (fun x => x) (m1.obj (fun x => x) HQ.out)
  have hb2 := (HP.out.mod m1 (OffS.no _)).mod m2 (OffS.no _)
  obtain ⟨W2, hW2⟩ : ∃ W2, w1.alloc (.cells #[.slice (some ⟨g, o, none⟩) n cap, .int .i64 0, .bool false] 52) = W2 := ⟨_, rfl⟩
  rw [hW2] at hr0 m2 oQ1 hb2
  have HOFF : Hid (OffS (Only w1.heap.size) (.slice (some ⟨g, o, none⟩) n cap)) := by
    intro g' o' n' c' e hx
    cases e
    have hx : g = w1.heap.size := hx
    omega
  have kn := rnumber_any w1.heap.size 0 (.slice (some ⟨g, o, none⟩) n cap) bd false W2 hr0 hb2 HOFF.out (Nat.zero_le _) (by omega)
  have HW2 := hide hW2
  have HQ1 : Hid (ZPk W2 w.heap.size) := oQ1
  have M2 := hide ((M0.out.trans m1).trans m2)
  have HB2 := hide hb2
  have hw1 : w.heap.size < w1.heap.size := by omega
  have hw2 : w1.heap.size < W2.heap.size := lt_of_cell hr0.c0
  clear oQ1 m1 m2 ho hr0 hW2 hn1 hb2
  go_wp2_with fail
  rw [HW2.out]
  refine kn.mono ?_
  clear kn
  rintro e w3 ⟨num, p, bad, rfl, hr3, hp0, hp1, hnum, m3, res⟩
  have hs3 := m3.size
  have m4 : Mod NoB w3 (w3.alloc (.cells #[.int .u64 (num : Int), .slice none 0 0] 37)) := (Mod.refl _ _).alloc _
  have oP : PkAt (w3.alloc (.cells #[.int .u64 (num : Int), .slice none 0 0] 37)) w3.heap.size num (.slice none 0 0) := heap_alloc_new w3 _
  have r4 := hr3.mod m4 (fun x => x)
  have q4 : ZPk (w3.alloc (.cells #[.int .u64 (num : Int), .slice none 0 0] 37)) w.heap.size := m4.obj (fun x => x) (m3.obj (fun e => by have e : w.heap.size = w1.heap.size := e; omega) HQ1.out)
  have M4 : Hid (Mod NoB w (w3.alloc (.cells #[.int .u64 (num : Int), .slice none 0 0] 37))) := (M2.out.then m3 (fun k hk => .inr (by have hk : k = w1.heap.size := hk; omega))).trans m4
  have b4 := (HB2.out.mod m3 HOFF.out).mod m4 (OffS.no _)
  obtain ⟨W4, hW4⟩ : ∃ W4, w3.alloc (.cells #[.int .u64 (num : Int), .slice none 0 0] 37) = W4 := ⟨_, rfl⟩
  rw [hW4] at m4 oP r4 q4 M4 b4
  have HW4 := hide hW4
  have HR4 := hide r4
  have HP4 := hide oP
  have HQ4 := hide q4
  have HB4 := hide b4
  have RES := hide res
  have t0 := r4.c0
  have t1 := r4.c1
  have t2 := r4.c2
  have y0 : W4.cell? ⟨w.heap.size, 0, none⟩ = some (.int .u64 0) := cell_of_obj q4 rfl
  have y1 : W4.cell? ⟨w.heap.size, 1, none⟩ = some (.slice none 0 0) := cell_of_obj q4 rfl
  have yz0 : W4.frozen? ⟨w.heap.size, 0, none⟩ = false := frozen_of_obj q4
  have yz1 : W4.frozen? ⟨w.heap.size, 1, none⟩ = false := frozen_of_obj q4
  have hpb : w1.heap.size < w3.heap.size := by omega
  clear hr3 m3 m4 oP r4 q4 hW4 res b4
  cases bad
  · have hdv : decBody bd = if p = bd.length then .bad 0 else rdLoop bd (bd.length + 1) num p [] := by
      unfold decBody
      rcases RES.out with ⟨_, e⟩ | ⟨e, _⟩
      · rw [e]
      · cases e
    have HDV := hide hdv
    clear hdv
    by_cases hpe : p = n
    · have HD2 : Hid (decBody bd = .bad 0) := by show _ = _; rw [HDV.out, if_pos (by omega)]
      have hd : decide ((p : Int) = n) = true := decide_eq_true (by omega)
      go_wp2_with fail
      rw [HW4.out]
      go_quiet (fail)
      go_wp2_with fail
      rw [← HDB.out, HD2.out]
      refine rdec_bad (at_ := 0) (M4.out.drewN nq) HQ4.out ?_ ?_ ?_ <;> rfl
    · have HD2 : Hid (decBody bd = rdLoop bd (bd.length + 1) num p []) := by show _ = _; rw [HDV.out, if_neg (by omega)]
      have hpn : ((p : Int) == n) = false := by rw [beq_eq_false_iff_ne]; omega
      go_wp2_with fail
      rw [HW4.out]
      go_quiet (fail)
      go_wp2_with fail
      have HL0 : Hid (RDecAt w (W4.drewN nq) w1.heap.size w3.heap.size (.slice (some ⟨g, o, none⟩) n cap) bd num (decBody bd)) := by
        have md : Mod NoB W4 (W4.drewN nq) := (Mod.refl _ _).drewN nq
        exact ⟨bd.length + 1, p, .slice none 0 0, [], HR4.out.mod md (fun x => x), HP4.out, HQ4.out, OwnF.nil _, (fun g hg => by cases hg), (fun x hx => by cases hx), hp1, by omega, Nat.zero_le _, M4.out.trans md, HB4.out.mod md (OffS.no _), HD2.out⟩
      obtain ⟨W5, hW5⟩ : ∃ W5, W4.drewN nq = W5 := ⟨_, rfl⟩
      rw [hW5] at HL0
      rw [hW5]
      clear t0 t1 t2 y0 y1 yz0 yz1 hW5
      rw [HDB.out] at HL0
      go_loopw [8] (fun _ wr => RDecAt w wr w1.heap.size w3.heap.size (.slice (some ⟨g, o, none⟩) n cap) bd num R) (fun _ wr => bd.length - rposOf wr w1.heap.size)
      case atStart => exact HL0.out
      case round =>
        obtain ⟨fuel, pos, fv, rvs, hr, hpk, hz, hof, hn1, hn2, hpl2, hfu, hrl, hm, hbr, hR⟩ := hrel
        obtain ⟨fa, fc, rfl, _⟩ := own_form hof.1
        have HRD := hide hr
        have HPK := hide hpk
        have HZ := hide hz
        have HOF := hide hof
        have HN1 := hide hn1
        have HN2 := hide hn2
        have HM := hide hm
        have HBR := hide hbr
        have HRR := hide hR
        have t0 := hr.c0
        have t1 := hr.c1
        clear hr hpk hz hof hn1 hn2 hm hbr hR
        by_cases hlt : pos < bd.length
        · have dl : decide ((pos : Int) < n) = true := decide_eq_true (by omega)
          obtain ⟨t, ht⟩ : ∃ t, bd[pos]? = some t := ⟨bd[pos], List.getElem?_eq_getElem hlt⟩
          go_wp2_with fail
          go_quiet (fail)
          obtain ⟨q1, hq1⟩ : ∃ q1, nq = q1 := ⟨_, rfl⟩
          rw [hq1]
          clear hq1
          have kf := rframe_any w1.heap.size pos (.slice (some ⟨g, o, none⟩) n cap) bd t (wr.drewN q1) (HRD.out.mod (S := NoB) ((Mod.refl _ _).drewN q1) (fun x => x)) (HBR.out.mod (S := NoB) ((Mod.refl _ _).drewN q1) (OffS.no _)) HOFF.out ht (by omega)
          go_wp2_with fail
          refine kf.mono ?_
          clear kf
          rintro e w5 ⟨f, rv, p5, bad5, rfl, ow5, hn5, hr5, hp5, hq5, hd5, hl5, m5, j5⟩
          obtain ⟨xa5, xc5, rfl, _⟩ := own_form ow5.1
          have hwm := HM.out.size
          have hrbl : w1.heap.size < wr.heap.size := lt_of_cell t0
          have mf : Mod NoB w5 (w5.alloc (.cells (frCells f (.slice xa5 f.rngs.length xc5)) 48)) := (Mod.refl _ _).alloc _
          have of6 : FrameAt (w5.alloc (.cells (frCells f (.slice xa5 f.rngs.length xc5)) 48)) w5.heap.size f (.slice xa5 f.rngs.length xc5) := heap_alloc_new w5 _
          have hRB : ∀ k, Only w1.heap.size k → w.heap.size ≤ k := fun k hk => by have hk : k = w1.heap.size := hk; omega
          have m05 : Mod (Only w1.heap.size) wr w5 := ((Mod.refl (Only w1.heap.size) wr).drewN q1).trans m5
          have M56 : Mod NoB w (w5.alloc (.cells (frCells f (.slice xa5 f.rngs.length xc5)) 48)) := (HM.out.then m05 (fun k hk => .inr (hRB k hk))).trans mf
          have hr6 : RRd (w5.alloc (.cells (frCells f (.slice xa5 f.rngs.length xc5)) 48)) w1.heap.size (.slice (some ⟨g, o, none⟩) n cap) p5 bad5 := hr5.mod mf (fun x => x)
          have hp6 : PkAt (w5.alloc (.cells (frCells f (.slice xa5 f.rngs.length xc5)) 48)) w3.heap.size num (.slice fa rvs.length fc) := mf.obj (fun x => x) (m05.obj (fun e => by have e : w3.heap.size = w1.heap.size := e; omega) HPK.out)
          have hz6 : ZPk (w5.alloc (.cells (frCells f (.slice xa5 f.rngs.length xc5)) 48)) w.heap.size := mf.obj (fun x => x) (m05.obj (fun e => by have e : w.heap.size = w1.heap.size := e; omega) HZ.out)
          have hbr6 : BR (w5.alloc (.cells (frCells f (.slice xa5 f.rngs.length xc5)) 48)) (.slice (some ⟨g, o, none⟩) n cap) bd := (HBR.out.mod m05 HOFF.out).mod mf (OffS.no _)
          have hof6 : OwnF (w5.alloc (.cells (frCells f (.slice xa5 f.rngs.length xc5)) 48)) (.slice fa rvs.length fc) rvs :=
            OwnF.mod (OwnF.mod HOF.out m05 (fun k hk => .inr (by have hk : k = w1.heap.size := hk; subst hk; exact ⟨_, _, _, HRD.out, by decide, by decide⟩))) mf (fun k hk => hk.elim)
          have ow6 : OwnR (w5.alloc (.cells (frCells f (.slice xa5 f.rngs.length xc5)) 48)) (.slice xa5 f.rngs.length xc5) f.rngs := ow5.mod mf (fun _ _ x => x)
          have hs5 := m05.size
          obtain ⟨W6, hW6⟩ : ∃ W6, w5.alloc (.cells (frCells f (.slice xa5 f.rngs.length xc5)) 48) = W6 := ⟨_, rfl⟩
          rw [hW6] at mf of6 M56 hr6 hp6 hz6 hbr6 hof6 ow6
          have hs6 := mf.size
          obtain ⟨e0, e1, e2, e3, e4, e5, e6, e7, e8, e9⟩ := of6.cells
          have p1 : W6.cell? ⟨w3.heap.size, 1, none⟩ = some (.slice fa rvs.length fc) := cell_of_obj hp6 rfl
          have b2 := hr6.c2
          have y0 : W6.cell? ⟨w.heap.size, 0, none⟩ = some (.int .u64 0) := cell_of_obj hz6 rfl
          have y1 : W6.cell? ⟨w.heap.size, 1, none⟩ = some (.slice none 0 0) := cell_of_obj hz6 rfl
          have yz0 : W6.frozen? ⟨w.heap.size, 0, none⟩ = false := frozen_of_obj hz6
          have yz1 : W6.frozen? ⟨w.heap.size, 1, none⟩ = false := frozen_of_obj hz6
          have HR6 := hide hr6
          have HP6 := hide hp6
          have HZ6 := hide hz6
          have HBR6 := hide hbr6
          have HOF6 := hide hof6
          have HOW6 := hide ow6
          have HF6 := hide of6
          have HM6 := hide M56
          have HJ5 := hide j5
          have HN5 := hide hn5
          have hsz5 : wr.heap.size ≤ W6.heap.size := Nat.le_trans hs5 hs6
          unfold frCells at hW6 ⊢
          have HW6 := hide hW6
          clear hr6 hp6 hz6 hbr6 hof6 ow6 of6 M56 mf m05 hr5 ow5 m5 j5 hn5 hW6
          have hstep : ∀ X, rdFrame bd pos = X → R = match X with | none => .bad pos | some r => rdLoop bd (fuel - 1) num r.2 (rvs.map (·.1) ++ [r.1]) := by
            intro X hX
            rw [HRR.out, show fuel = (fuel - 1) + 1 by omega]
            conv => lhs; unfold rdLoop
            rw [if_pos hlt, hX]
            rfl
          have HST := hide hstep
          clear hstep
          cases bad5
          · have hR2 : R = rdLoop bd (fuel - 1) num p5 (rvs.map (·.1) ++ [f]) := by
              rcases HJ5.out with ⟨_, e⟩ | ⟨e, _⟩
              · exact HST.out _ e
              · cases e
            have HR2 := hide hR2
            clear hR2
            obtain ⟨v7, W7, hr7, own7, gr7, nw7⟩ := flit_app W6 (.slice fa rvs.length fc) rvs f xa5 f.rngs.length xc5 HOF6.out.1 (by omega)
            have of7 : OwnF W7 v7 (rvs ++ [(f, .slice xa5 f.rngs.length xc5)]) := ownf_push HOF6.out HOW6.out own7 gr7
            have m7 : Mod (fun k => (Value.slice fa rvs.length fc).ownBlock = some k) W6 W7 := (Mod.refl _ _).grown gr7 (fun k hk => .inl hk)
            have hp7 : PkAt W7 w3.heap.size num (.slice fa rvs.length fc) := m7.obj (fun hx => own_not_type HOF6.out.1 HP6.out (by decide) hx) HP6.out
            have p7 : W7.cell? ⟨w3.heap.size, 1, none⟩ = some (.slice fa rvs.length fc) := cell_of_obj hp7 rfl
            have pz7 : W7.frozen? ⟨w3.heap.size, 1, none⟩ = false := frozen_of_obj hp7
            have HNEXT : Hid (RDecAt w (W7.setCell ⟨w3.heap.size, 1, none⟩ v7) w1.heap.size w3.heap.size (.slice (some ⟨g, o, none⟩) n cap) bd num R ∧ rposOf (W7.setCell ⟨w3.heap.size, 1, none⟩ v7) w1.heap.size = p5) := by
              have m8 : Mod (fun k => k = w3.heap.size) W7 (W7.setCell ⟨w3.heap.size, 1, none⟩ v7) := (Mod.refl (fun k => k = w3.heap.size) W7).setCell (p := ⟨w3.heap.size, 1, none⟩) (.inl rfl) _
              have r7 := HR6.out.mod m7 (fun hx => own_not_type HOF6.out.1 HR6.out (by decide) hx)
              have r8 := r7.mod m8 (fun e => by have e : w1.heap.size = w3.heap.size := e; omega)
              refine ⟨⟨fuel - 1, p5, v7, rvs ++ [(f, .slice xa5 f.rngs.length xc5)], r8, ?_, ?_, OwnF.mod of7 m8 (fun k hk => .inr (by have hk : k = w3.heap.size := hk; subst hk; exact ⟨_, _, _, hp7, by decide, by decide⟩)), fun k hk => ?_, fun x hx k hk => ?_, hq5, by omega, by simp; omega, ?_, ?_, ?_⟩, rposOf_at r8⟩
              · unfold PkAt
                rw [obj_setCell hp7]
                simp
              · exact m8.obj (fun e => by have e : w.heap.size = w3.heap.size := e; omega) (m7.obj (fun hx => own_not_type HOF6.out.1 HZ6.out (by decide) hx) HZ6.out)
              · rcases nw7 k hk with x | x
                · exact HN1.out k x
                · omega
              · rcases List.mem_append.1 hx with hx | hx
                · exact HN2.out x hx k hk
                · simp only [List.mem_singleton] at hx
                  subst hx
                  have := HN5.out k hk
                  simp only [World.drewN] at this
                  omega
              · exact (HM6.out.then m7 (fun k hk => .inr (HN1.out k hk))).then m8 (fun k hk => .inr (by have hk : k = w3.heap.size := hk; omega))
              · refine (HBR6.out.mod m7 (fun g' o' n' c' e hx => ?_)).mod m8 (fun g' o' n' c' e hx => ?_)
                · cases e
                  have := HN1.out g hx
                  omega
                · cases e
                  have hx : g = w3.heap.size := hx
                  omega
              · rw [HR2.out, List.map_append]
                rfl
            have HPOS : Hid (rposOf wr w1.heap.size = pos) := rposOf_at HRD.out
            unfold frCells at hr7
            obtain ⟨a7, c7, rfl, _⟩ := own_form of7.1
            obtain ⟨L7, hL7⟩ : ∃ L7, (rvs ++ [(f, Value.slice xa5 f.rngs.length xc5)]).length = L7 := ⟨_, rfl⟩
            rw [hL7] at hr7 HNEXT
            clear own7 gr7 nw7 of7 m7 hp7 hL7
            go_upto_region 13 with fail
            rw [HW6.out]
            go_wp2_with (at_builtin; refine wpList_append_is rfl _ _ _ _ rfl _ _ _ rfl rfl hr7 ?_; clear hr7)
            go_roundw
            case rel => exact HNEXT.out.1
            case measure =>
              rw [HNEXT.out.2, HPOS.out]
              omega
          · have hR2 : R = .bad pos := by
              rcases HJ5.out with ⟨e, _⟩ | ⟨_, e⟩
              · cases e
              · exact HST.out _ e
            have HR2 := hide hR2
            clear hR2
            go_upto_region 13 with fail
            rw [HW6.out]
            go_wp2_with fail
            rw [HR2.out]
            refine rdec_bad (at_ := pos) HM6.out HZ6.out ?_ ?_ ?_ <;> rfl
        · have dl : decide ((pos : Int) < n) = false := decide_eq_false (by omega)
          have hR2 : R = .ok num (rvs.map (·.1)) := by
            rw [HRR.out, show fuel = (fuel - 1) + 1 by omega]
            unfold rdLoop
            rw [if_neg hlt]
          have HR2 := hide hR2
          clear hR2
          have p0 : wr.cell? ⟨w3.heap.size, 0, none⟩ = some (.int .u64 (num : Int)) := cell_of_obj HPK.out rfl
          have p1 : wr.cell? ⟨w3.heap.size, 1, none⟩ = some (.slice fa rvs.length fc) := cell_of_obj HPK.out rfl
          have y0 : wr.cell? ⟨w.heap.size, 0, none⟩ = some (.int .u64 0) := cell_of_obj HZ.out rfl
          have y1 : wr.cell? ⟨w.heap.size, 1, none⟩ = some (.slice none 0 0) := cell_of_obj HZ.out rfl
          have yz0 : wr.frozen? ⟨w.heap.size, 0, none⟩ = false := frozen_of_obj HZ.out
          have yz1 : wr.frozen? ⟨w.heap.size, 1, none⟩ = false := frozen_of_obj HZ.out
          go_wp2_with fail
          go_quiet (fail)
          go_wp2_with fail
          have oF : (((wr.drewN nq).setCell ⟨w.heap.size, 0, none⟩ (.int .u64 (num : Int))).setCell ⟨w.heap.size, 1, none⟩ (.slice fa rvs.length fc)).heap[w.heap.size]? = some (.cells #[.int .u64 (num : Int), .slice fa rvs.length fc] 37 (0, 0)) := by
            have hz : ZPk (wr.drewN nq) w.heap.size := HZ.out
            unfold ZPk at hz
            rw [obj_setCell (obj_setCell hz)]
            simp
          refine bodyPost_ret (results_rdec _ _ w.heap.size (.int .u64 (num : Int)) (.slice fa rvs.length fc) rfl (cell_of_obj oF rfl) (cell_of_obj oF rfl)) rfl ?_
          have mF := set2_mod (wr.drewN nq) w.heap.size (.int .u64 (num : Int)) (.slice fa rvs.length fc)
          rw [HR2.out]
          refine ⟨(HM.out.drewN nq).then mF (fun k hk => .inr (by have hk : k = w.heap.size := hk; omega)), .slice fa rvs.length fc, rvs, rfl, ?_, rfl, HN1.out, HN2.out⟩
          refine OwnF.mod (OwnF.mod HOF.out ((Mod.refl NoB wr).drewN nq) (fun k hk => hk.elim)) mF (fun k hk => .inr ?_)
          have hk : k = w.heap.size := hk
          subst hk
          exact ⟨_, _, _, HZ.out, by decide, by decide⟩
  · have HD2 : Hid (decBody bd = .bad 0) := by
      show _ = _
      unfold decBody
      rcases RES.out with ⟨e, _⟩ | ⟨_, e⟩
      · cases e
      · rw [e]
    go_wp2_with fail
    rw [HW4.out]
    go_quiet (fail)
    go_wp2_with fail
    rw [← HDB.out, HD2.out]
    refine rdec_bad (at_ := 0) (M4.out.drewN nq) HQ4.out ?_ ?_ ?_ <;> rfl

theorem rdecode_any (v : Value) (bs : List UInt8) (w : World) (hb : BR w v bs) (hl : bs.length ≤ 549755813888) : Calls Tryz.prog 8 #[v] w (PDec w (dec bs)) := by
  unfold dec
  by_cases h4 : bs.length < 4
  · rw [if_pos h4]
    exact rdec_short v bs w hb h4
  · rw [if_neg h4]
    obtain ⟨n, hn⟩ : ∃ n, bs.length = n + 4 := ⟨bs.length - 4, by omega⟩
    rw [show bs.length - 4 = n by omega]
    by_cases hs : be4 bs n = crc (bs.take n)
    · rw [if_pos hs]
      exact rdec_main v bs n w hb hn hl hs
    · rw [if_neg hs]
      exact rdec_sum v bs n w hb hn hl hs
end Go.Proofs.YtddfdpbaiedcjabGreatDoor
/- mediawirelaw.encoded, mediawirelaw.decoded. -/
namespace Go.Proofs.YtddfdpbaiedcjabGreatDoor
open Go.RowKit

set_option maxRecDepth 100000 in
set_option maxHeartbeats 1000000 in
theorem lencoded_any (n : Nat) (fs : List (Frm × Value)) (v : Value) (w : World) (h : FrsAt w v fs) (ht : Tab w) (hg : ErrT w) (hl : fs.length ≤ 1099511627775) (hb : (bodyF n (fs.map (·.1))).length ≤ 8796093022208)
    (hd : ∀ fr ∈ fs, fr.1.data.length ≤ 35184372088832 ∧ fr.1.rngs.length ≤ 1099511627776) :
    Calls Tryz.prog 15 #[.agg #[.int .u64 (n : Int), v]] w (Says w true) := by
  obtain ⟨W0, hW0⟩ : ∃ W0, w.alloc (.cells #[.int .u64 (n : Int), v] 37) = W0 := ⟨_, rfl⟩
  have m0 : Mod NoB w W0 := by rw [← hW0]; exact (Mod.refl _ _).alloc _
  have oP : W0.heap[w.heap.size]? = some (.cells #[.int .u64 (n : Int), v] 37 (0, 0)) := by rw [← hW0]; exact heap_alloc_new w _
  have k1 := lcopied_any n fs v W0 (h.mod0 m0) hl (fun fr hfr => (hd fr hfr).2)
  have H := hide (h.mod0 m0)
  have HT := hide (ht.mod m0 (fun x => x))
  have HG := hide (hg.mod m0 (fun x => x))
  have HB := hide hb
  have HD := hide hd
  have HL := hide hl
  have M0 := hide m0
  have HP := hide oP
  have HW0 := hide hW0
  obtain ⟨va, vc, rfl, _⟩ := id h
  clear h ht hg hb hd hl m0 oP hW0
  go_enter Tryz.func15, Tryz.ntmps15
  go_wp2_with fail
  rw [HW0.out]
  refine k1.mono ?_
  clear k1
  rintro e w1 ⟨v1, rvs, rfl, own1, hmap, hn1, hn2, m1⟩
  have hlen : rvs.length = fs.length := by simpa using congrArg List.length hmap
  obtain ⟨xa, xc, rfl, _⟩ := own_form own1.1
  obtain ⟨W2, hW2⟩ : ∃ W2, w1.alloc (.cells #[.int .u64 (n : Int), .slice xa rvs.length xc] 37) = W2 := ⟨_, rfl⟩
  have m2 : Mod NoB w1 W2 := by rw [← hW2]; exact (Mod.refl _ _).alloc _
  have oQ : W2.heap[w1.heap.size]? = some (.cells #[.int .u64 (n : Int), .slice xa rvs.length xc] 37 (0, 0)) := by rw [← hW2]; exact heap_alloc_new w1 _
  have mA := m1.trans m2
  have own2 : OwnF W2 (.slice xa rvs.length xc) rvs := OwnF.mod own1 m2 (fun i hi => hi.elim)
  have hdr : ∀ fr ∈ rvs, fr.1.data.length ≤ 35184372088832 ∧ fr.1.rngs.length ≤ 1099511627776 := fun fr hfr => by
    have hin : fr.1 ∈ fs.map (·.1) := by rw [← hmap]; exact List.mem_map_of_mem hfr
    obtain ⟨fr', h1, h2⟩ := List.mem_map.1 hin
    rw [← h2]
    exact HD.out fr' h1
  have k2 := pencode_any n rvs (.slice xa rvs.length xc) W2 own2.frs (HT.out.mod mA (fun x => x)) (HG.out.mod mA (fun x => x)) (by have := HL.out; omega) (by rw [hmap]; have := HB.out; omega) hdr
  rw [hmap] at k2
  have oPq : W2.heap[w.heap.size]? = some (.cells #[.int .u64 (n : Int), .slice va fs.length vc] 37 (0, 0)) := mA.obj (fun x => x) HP.out
  have HP2 := hide oPq
  have HQ := hide oQ
  have MA := hide mA
  have OWN := hide own2.frs
  have HMAP := hide hmap
  have HDR := hide hdr
  have p0 : W2.cell? ⟨w.heap.size, 0, none⟩ = some (.int .u64 (n : Int)) := cell_of_obj oPq rfl
  have p1 : W2.cell? ⟨w.heap.size, 1, none⟩ = some (.slice va fs.length vc) := cell_of_obj oPq rfl
  have q0 : W2.cell? ⟨w1.heap.size, 0, none⟩ = some (.int .u64 (n : Int)) := cell_of_obj oQ rfl
  have q1 : W2.cell? ⟨w1.heap.size, 1, none⟩ = some (.slice xa rvs.length xc) := cell_of_obj oQ rfl
  have HW2 := hide hW2
  have HLEN := hide hlen
  clear hW2 hlen m1 m2 mA own1 own2 oQ oPq hmap hn1 hn2 hdr
  go_wp2_with fail
  rw [HW2.out]
  refine k2.mono ?_
  clear k2
  rintro e w3 ⟨m3, res⟩
  have M3 := hide m3
  have k3 := rencode_any n fs (.slice va fs.length vc) w3 ((H.out.mod0 MA.out).mod0 m3) HB.out HD.out
  have p0 := m3.cell (a := ⟨w.heap.size, 0, none⟩) (fun x => x) p0
  have p1 := m3.cell (a := ⟨w.heap.size, 1, none⟩) (fun x => x) p1
  have q0 := m3.cell (a := ⟨w1.heap.size, 0, none⟩) (fun x => x) q0
  have q1 := m3.cell (a := ⟨w1.heap.size, 1, none⟩) (fun x => x) q1
  clear m3
  have hbp : 0 < (sealed (bodyF n (fs.map (·.1)))).length := by
    unfold sealed sum4
    simp
  obtain ⟨bs, hbs⟩ : ∃ bs, sealed (bodyF n (fs.map (·.1))) = bs := ⟨_, rfl⟩
  have HBS := hide hbs
  rw [hbs] at res hbp
  clear hbs
  rcases res with ⟨ho, v2, rfl, ob2, hn2⟩ | ⟨ho, rfl⟩
  · have OB2 := hide ob2
    have HO := hide ho
    obtain ⟨ya, yc, rfl, _⟩ := own_form ob2
    clear ob2 ho hn2
    go_wp2_with fail
    refine k3.mono ?_
    clear k3
    rintro e w4 ⟨m4, res⟩
    rcases res with ⟨_, v4, rfl, ob4, _⟩ | ⟨ho, _⟩
    · have ks := samepk_any n (.slice xa rvs.length xc) (.slice va fs.length vc) rvs fs w4 ((OWN.out.mod0 M3.out).mod0 m4) (((H.out.mod0 MA.out).mod0 M3.out).mod0 m4) HMAP.out
      rw [HBS.out] at ob4
      have OB4 := hide ob4
      obtain ⟨za, zc, rfl, _⟩ := own_form ob4
      have p0 := m4.cell (a := ⟨w.heap.size, 0, none⟩) (fun x => x) p0
      have p1 := m4.cell (a := ⟨w.heap.size, 1, none⟩) (fun x => x) p1
      have q0 := m4.cell (a := ⟨w1.heap.size, 0, none⟩) (fun x => x) q0
      have q1 := m4.cell (a := ⟨w1.heap.size, 1, none⟩) (fun x => x) q1
      have OB5 := hide (OB2.out.mod0 m4)
      have M4 := hide (((M0.out.trans MA.out).trans M3.out).trans m4)
      clear m4 ob4
      go_wp2_with fail
      refine ks.mono ?_
      clear ks
      rintro e w5 ⟨rfl, m5⟩
      have c1 := br_string (OB5.out.mod0 m5).br
      have c2 := br_string (OB4.out.mod0 m5).br
      have M5 := hide (M4.out.trans m5)
      clear m5
      go_wp2_with fail
      go_ret
      exact ⟨rfl, M5.out⟩
    · rw [HO.out] at ho
      cases ho
  · have HO := hide ho
    clear ho
    go_wp2_with fail
    refine k3.mono ?_
    clear k3
    rintro e w4 ⟨m4, res⟩
    rcases res with ⟨ho, _⟩ | ⟨_, rfl⟩
    · rw [HO.out] at ho
      cases ho
    · have ks := samepk_any n (.slice xa rvs.length xc) (.slice va fs.length vc) rvs fs w4 ((OWN.out.mod0 M3.out).mod0 m4) (((H.out.mod0 MA.out).mod0 M3.out).mod0 m4) HMAP.out
      have p0 := m4.cell (a := ⟨w.heap.size, 0, none⟩) (fun x => x) p0
      have p1 := m4.cell (a := ⟨w.heap.size, 1, none⟩) (fun x => x) p1
      have q0 := m4.cell (a := ⟨w1.heap.size, 0, none⟩) (fun x => x) q0
      have q1 := m4.cell (a := ⟨w1.heap.size, 1, none⟩) (fun x => x) q1
      have M4 := hide (((M0.out.trans MA.out).trans M3.out).trans m4)
      clear m4
      go_wp2_with fail
      refine ks.mono ?_
      clear ks
      rintro e w5 ⟨rfl, m5⟩
      have c1 := br_string (OB.nil w5).br
      have qn : (binOp .eql 44 (.slice none 0 0) (.slice none 0 0)).run Tryz.prog w5 = .ok (.bool true) w5 := _root_.Go.run_eql_slice_nil w5 _ _ none 0 0 Tryz.underlying44
      have M5 := hide (M4.out.trans m5)
      clear m5
      go_wp2_with fail
      go_ret
      exact ⟨rfl, M5.out⟩

def numR : DecR → Nat
  | .ok n _ => n
  | _ => 0
def frsR : DecR → List Frm
  | .ok _ fs => fs
  | _ => []
def errR : DecR → Int
  | .ok _ _ => 0
  | .sum => 7
  | .bad _ => 8
def atR : DecR → Int
  | .bad a => a
  | _ => -1

theorem PDec.shape {w w' : World} {R : DecR} {e : Ending} (h : PDec w R e w') : Mod NoB w w' ∧ ∃ fa fc rvs, e = .returned (.tuple #[.agg #[.int .u64 (numR R : Int), .slice fa rvs.length fc], .int .i64 (errR R), .int .i64 (atR R)]) ∧ OwnF w' (.slice fa rvs.length fc) rvs ∧ rvs.map (·.1) = frsR R := by
  refine ⟨h.1, ?_⟩
  cases R with
  | sum => exact ⟨none, 0, [], h.2, OwnF.nil w', rfl⟩
  | bad a => exact ⟨none, 0, [], h.2, OwnF.nil w', rfl⟩
  | ok n fs =>
    obtain ⟨_, fv, rvs, he, ho, hm, _⟩ := h
    obtain ⟨fa, fc, rfl, _⟩ := own_form ho.1
    exact ⟨fa, fc, rvs, he, ho, hm⟩

set_option maxRecDepth 100000 in
set_option maxHeartbeats 1000000 in
theorem ldecoded_any (v : Value) (bs : List UInt8) (w : World) (hb : BR w v bs) (ht : Tab w) (hg : ErrT w) (hl : bs.length ≤ 549755813888) :
    Calls Tryz.prog 16 #[v] w (Says w true) := by
  have k1 := pdecode_any v bs w hb ht hg (by omega)
  have HB := hide hb
  obtain ⟨a, cap, rfl, _⟩ := id hb
  clear hb ht hg
  go_enter Tryz.func16, Tryz.ntmps16
  go_wp2_with fail
  refine k1.mono ?_
  clear k1
  rintro e w1 hp1
  obtain ⟨m1, fa, fc, rvs, rfl, own1, hm1⟩ := hp1.shape
  obtain ⟨R, hR⟩ : ∃ R, dec bs = R := ⟨_, rfl⟩
  rw [hR] at hm1
  obtain ⟨W2, hW2⟩ : ∃ W2, w1.alloc (.cells #[.int .u64 (numR R : Int), .slice fa rvs.length fc] 37) = W2 := ⟨_, rfl⟩
  have m2 : Mod NoB w1 W2 := by rw [← hW2]; exact (Mod.refl _ _).alloc _
  have oP : W2.heap[w1.heap.size]? = some (.cells #[.int .u64 (numR R : Int), .slice fa rvs.length fc] 37 (0, 0)) := by rw [← hW2]; exact heap_alloc_new w1 _
  have MA := hide (m1.trans m2)
  have k2 := rdecode_any (.slice a bs.length cap) bs W2 (HB.out.mod MA.out (OffS.no _)) hl
  rw [hR] at k2
  rw [hR]
  have HW2 := hide hW2
  have HP := hide oP
  have OWN := hide (own1.frs.mod0 m2)
  have HM1 := hide hm1
  clear hR hl hW2 oP m1 m2 own1 hm1 hp1
  go_wp2_with fail
  rw [HW2.out]
  refine k2.mono ?_
  clear k2
  rintro e w3 hp3
  obtain ⟨m3, ga, gc, qvs, rfl, own3, hm3⟩ := hp3.shape
  obtain ⟨W4, hW4⟩ : ∃ W4, w3.alloc (.cells #[.int .u64 (numR R : Int), .slice ga qvs.length gc] 37) = W4 := ⟨_, rfl⟩
  have m4 : Mod NoB w3 W4 := by rw [← hW4]; exact (Mod.refl _ _).alloc _
  have oQ : W4.heap[w3.heap.size]? = some (.cells #[.int .u64 (numR R : Int), .slice ga qvs.length gc] 37 (0, 0)) := by rw [← hW4]; exact heap_alloc_new w3 _
  have oP4 : W4.heap[w1.heap.size]? = some (.cells #[.int .u64 (numR R : Int), .slice fa rvs.length fc] 37 (0, 0)) := (m3.trans m4).obj (fun x => x) HP.out
  have p0 : W4.cell? ⟨w1.heap.size, 0, none⟩ = some (.int .u64 (numR R : Int)) := cell_of_obj oP4 rfl
  have p1 : W4.cell? ⟨w1.heap.size, 1, none⟩ = some (.slice fa rvs.length fc) := cell_of_obj oP4 rfl
  have q0 : W4.cell? ⟨w3.heap.size, 0, none⟩ = some (.int .u64 (numR R : Int)) := cell_of_obj oQ rfl
  have q1 : W4.cell? ⟨w3.heap.size, 1, none⟩ = some (.slice ga qvs.length gc) := cell_of_obj oQ rfl
  have ks := samepk_any (numR R) (.slice fa rvs.length fc) (.slice ga qvs.length gc) rvs qvs W4 (OWN.out.mod0 (m3.trans m4)) (own3.frs.mod0 m4) (by rw [HM1.out, hm3])
  have M4 := hide ((MA.out.trans m3).trans m4)
  have HW4 := hide hW4
  rw [← hW4] at p0 p1 q0 q1
  clear m3 m4 oQ oP4 hW4 own3 hm3 hp3
  go_wp2_with fail
  rw [HW4.out]
  refine ks.mono ?_
  clear ks
  rintro e w5 ⟨rfl, m5⟩
  have M5 := hide (M4.out.trans m5)
  clear m5 p0 p1 q0 q1
  go_wp2_with fail
  go_ret
  exact ⟨rfl, M5.out⟩
end Go.Proofs.YtddfdpbaiedcjabGreatDoor
/- A string as bytes. -/
namespace Go.Proofs.YtddfdpbaiedcjabGreatDoor
open Go.RowKit

set_option maxRecDepth 100000 in
theorem str_bytes (w : World) (l : List UInt8) (hl : l.length ≤ 4611686018427387904) : ∃ cap w', (convert 9 44 (.string (strOf l))).run Tryz.prog w = .ok (.slice (some ⟨w.heap.size, 0, none⟩) l.length cap) w' ∧ BR w' (.slice (some ⟨w.heap.size, 0, none⟩) l.length cap) l ∧ Mod NoB w w' ∧ w'.heap.size = w.heap.size + 1 := by
  have h := Lib.run_convert_string_bytes (P := Tryz.prog) w 9 44 5 (strOf l) (u := .string) Tryz.underlying9 Tryz.underlying44 Tryz.underlying5
  have hge := grownCap_ge w (strOf l).size 0 5
  have hcm : grownCap w (strOf l).size 0 5 ≤ maxLen := grownCap_le_maxLen w _ 0 _ (by rw [strOf_size]; unfold maxLen; omega)
  rw [strOf_size] at h hge hcm
  refine ⟨_, _, h, ⟨_, _, rfl, hge, hcm, fun i c hc => ⟨_, _, rfl, ?_⟩⟩, ⟨?_, ?_, ?_, ?_, ?_⟩, Lib.bytesWorld_size _ _ _⟩
  · have hi : i < l.length := (List.getElem?_eq_some_iff.1 hc).1
    have := Lib.bytesWorld_cell w 5 (strOf l) i (by rw [strOf_size]; exact hi)
    rw [Nat.zero_add, this]
    simp only [strOf, List.getD, hc, Option.getD_some]
  · simp [Lib.bytesWorld, World.freeze, World.alloc, World.drew, -World.alloc_eq, -World.drew_eq]
  · simp [Lib.bytesWorld, World.freeze, World.alloc, World.drew, -World.alloc_eq, -World.drew_eq]
  · simp [Lib.bytesWorld, World.freeze, World.alloc, World.drew, -World.alloc_eq, -World.drew_eq]
  · rw [Lib.bytesWorld_size]; omega
  · intro k hk _
    exact Lib.bytesWorld_at_old w _ _ k hk
end Go.Proofs.YtddfdpbaiedcjabGreatDoor
