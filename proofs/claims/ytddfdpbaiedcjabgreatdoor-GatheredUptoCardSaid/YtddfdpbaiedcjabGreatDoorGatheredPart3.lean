/- The statement Gathered, second form, its card: where what the law reads is of bulk at most 1048576, and the two listed variables read as listed, it returns true, and its argument reads behind the call as before. Part 3 of 23. -/
import Derived.Test.YtddfdpbaiedcjabGreatDoorGatheredPart2
import Derived.Deep.RegionHeld3
import Derived.BigRegion
import Derived.Deep.DeepCutAuto
/- Set.Add: the walk. -/
namespace Go.Proofs.YtddfdpbaiedcjabGreatDoor
open Go.RowKit

/-- Ranges that rise, with something between; all their numbers below 2^64. -/
def WF (rs : Rngs) : Prop := (∀ i, i < rs.length → loAt rs i ≤ hiAt rs i ∧ hiAt rs i < 18446744073709551616) ∧ ∀ i j, i < j → j < rs.length → hiAt rs i + 1 < loAt rs j

theorem from_le_to {rs : Rngs} {lo hi m1 m2 : Nat} (h : WF rs) (hlh : lo ≤ hi) (h1 : SearchIs rs.length (atLo rs lo) m1) (h2 : SearchIs rs.length (pastHi rs hi) m2) : m1 ≤ m2 := by
  obtain ⟨a1, b1, c1⟩ := h1
  obtain ⟨a2, b2, c2⟩ := h2
  by_cases hlt : m2 < m1
  · have e1 := b1 (by omega)
    have e2 := c2 (by omega)
    simp only [atLo, decide_eq_false_iff_not] at e1
    simp only [pastHi, decide_eq_true_eq] at e2
    have hw := h.1 m2 (by omega)
    by_cases he : m2 = m1 - 1
    · rw [← he] at e1; omega
    · have := h.2 m2 (m1 - 1) (by omega) (by omega)
      have hw2 := h.1 (m1 - 1) (by omega)
      omega
  · omega

theorem setCell_same_block {w : World} {b o : Nat} {v : Value} (h : w.cell? ⟨b, o, none⟩ = some v) : (w.setCell ⟨b, o, none⟩ v).heap[b]? = w.heap[b]? := by
  unfold World.cell? at h
  simp only [World.setCell, Array.getElem?_modify]
  split at h
  · rename_i c e fz hb
    simp only at hb
    rw [hb]
    simp only [Option.isSome_none, Bool.false_eq_true, if_false] at h
    have : c.setIfInBounds o v = c := by
      apply Array.ext_getElem?
      intro j
      rw [Array.getElem?_setIfInBounds]
      split
      · rename_i hj
        subst hj
        split
        · exact h.symm
        · rename_i hn
          simp [Array.getElem?_eq_none (Nat.le_of_not_lt hn)] at h
      · rfl
    simp [this]
  · cases h

theorem setCell_three (w : World) (b o : Nat) (x y z : Value) : (((w.setCell ⟨b, o, none⟩ x).setCell ⟨b, o + 1, none⟩ y).setCell ⟨b, o, none⟩ z).heap[b]? = ((w.setCell ⟨b, o, none⟩ z).setCell ⟨b, o + 1, none⟩ y).heap[b]? := by
  simp only [World.setCell, Array.getElem?_modify, if_true]
  cases w.heap[b]? with
  | none => rfl
  | some ob =>
    cases ob with
    | cells c e fz =>
      simp only [Option.map_some, Option.isSome_none, Bool.false_eq_true, if_false]
      congr 2
      apply Array.ext_getElem?
      intro j
      simp only [Array.getElem?_setIfInBounds, Array.size_setIfInBounds]
      by_cases h1 : o = j
      · subst h1
        simp
      · by_cases h2 : o + 1 = j
        · subst h2
          simp
        · simp [h1, h2]
    | _ => rfl

/-- Where Add stands: its three boxes; the set; nothing old has turned. -/
structure AddSt (w W : World) (b o S L H : Nat) (v : Value) (rs : Rngs) (fl most lo hi : Nat) : Prop where
  cs : W.cell? ⟨S, 0, none⟩ = some (.pointer (some ⟨b, o, none⟩))
  cl : W.cell? ⟨L, 0, none⟩ = some (.int .u64 (lo : Int))
  ch : W.cell? ⟨H, 0, none⟩ = some (.int .u64 (hi : Int))
  fz : W.frozen? ⟨L, 0, none⟩ = false
  set : SetAt W b o v rs fl most
  mod : Mod NoB w W
  ns : w.heap.size ≤ S ∧ w.heap.size ≤ L ∧ w.heap.size ≤ H
  ne : S ≠ L ∧ H ≠ L

theorem AddSt.drewN {w W : World} {b o S L H : Nat} {v : Value} {rs : Rngs} {fl most lo hi : Nat} (h : AddSt w W b o S L H v rs fl most lo hi) (k : Nat) : AddSt w (W.drewN k) b o S L H v rs fl most lo hi :=
  ⟨h.cs, h.cl, h.ch, h.fz, h.set.mod ((Mod.refl NoB W).drewN k) (fun x => x) (fun _ _ x => x), h.mod.drewN k, h.ns, h.ne⟩

theorem AddSt.alloc {w W : World} {b o S L H : Nat} {v : Value} {rs : Rngs} {fl most lo hi : Nat} (h : AddSt w W b o S L H v rs fl most lo hi) (x : Obj) : AddSt w (W.alloc x) b o S L H v rs fl most lo hi := by
  have hm : Mod NoB W (W.alloc x) := (Mod.refl NoB W).alloc x
  exact ⟨hm.cell (fun x => x) h.cs, hm.cell (fun x => x) h.cl, hm.cell (fun x => x) h.ch, by rw [World.frozen?_of_block (w := W) (hm.block L (lt_of_cell h.cl) (fun x => x))]; exact h.fz, h.set.mod hm (fun x => x) (fun _ _ x => x), h.mod.alloc x, h.ns, h.ne⟩

theorem AddSt.start (w : World) (b o : Nat) (v : Value) (rs : Rngs) (fl most lo hi t1 t2 t3 : Nat) (h : SetAt w b o v rs fl most) :
    AddSt w (((w.alloc (.cells #[.pointer (some ⟨b, o, none⟩)] t1)).alloc (.cells #[.int .u64 lo] t2)).alloc (.cells #[.int .u64 hi] t3)) b o w.heap.size (w.heap.size + 1) (w.heap.size + 1 + 1) v rs fl most lo hi := by
  have hm : Mod NoB w (((w.alloc (.cells #[.pointer (some ⟨b, o, none⟩)] t1)).alloc (.cells #[.int .u64 lo] t2)).alloc (.cells #[.int .u64 hi] t3)) := (((Mod.refl _ _).alloc _).alloc _).alloc _
  have e1 : (((w.alloc (.cells #[.pointer (some ⟨b, o, none⟩)] t1)).alloc (.cells #[.int .u64 lo] t2)).alloc (.cells #[.int .u64 hi] t3)).heap[w.heap.size]? = some (.cells #[.pointer (some ⟨b, o, none⟩)] t1 (0, 0)) := by
    rw [Below.heap_alloc _ _ _ (by simp; omega), Below.heap_alloc _ _ _ (by simp)]
    exact heap_alloc_new w _
  have e2 : (((w.alloc (.cells #[.pointer (some ⟨b, o, none⟩)] t1)).alloc (.cells #[.int .u64 lo] t2)).alloc (.cells #[.int .u64 hi] t3)).heap[w.heap.size + 1]? = some (.cells #[.int .u64 lo] t2 (0, 0)) := by
    rw [Below.heap_alloc _ _ _ (by simp)]
    have := heap_alloc_new (w.alloc (.cells #[.pointer (some ⟨b, o, none⟩)] t1)) (.cells #[.int .u64 lo] t2)
    simpa using this
  have e3 : (((w.alloc (.cells #[.pointer (some ⟨b, o, none⟩)] t1)).alloc (.cells #[.int .u64 lo] t2)).alloc (.cells #[.int .u64 hi] t3)).heap[w.heap.size + 2]? = some (.cells #[.int .u64 hi] t3 (0, 0)) := by
    have := heap_alloc_new ((w.alloc (.cells #[.pointer (some ⟨b, o, none⟩)] t1)).alloc (.cells #[.int .u64 lo] t2)) (.cells #[.int .u64 hi] t3)
    simpa using this
  exact ⟨cell_of_obj e1 rfl, cell_of_obj e2 rfl, cell_of_obj e3 rfl, frozen_of_obj e2, h.mod hm (fun x => x) (fun _ _ x => x), hm, ⟨by omega, by omega, by omega⟩, ⟨by omega, by omega⟩⟩

theorem AddSt.raise {w W : World} {b o S L H : Nat} {v : Value} {rs : Rngs} {fl most lo hi : Nat} (h : AddSt w W b o S L H v rs fl most lo hi) (hb : b < w.heap.size) (hv : ∀ g, v.ownBlock = some g → g < w.heap.size) (lo' : Nat) :
    AddSt w (W.setCell ⟨L, 0, none⟩ (.int .u64 (lo' : Int))) b o S L H v rs fl most lo' hi := by
  have hm : Mod (fun k => k = L) W (W.setCell ⟨L, 0, none⟩ (.int .u64 (lo' : Int))) := (Mod.refl (fun k => k = L) W).setCell (p := ⟨L, 0, none⟩) (.inl rfl) _
  obtain ⟨n1, n2, n3⟩ := h.ns
  exact ⟨hm.cell h.ne.1 h.cs, by rw [World.cell?_setCell_same _ _ _ h.cl], hm.cell h.ne.2 h.ch, by rw [World.frozen?_setCell]; exact h.fz, h.set.mod hm (by show ¬ b = L; omega) (fun g hg => by show ¬ g = L; have := hv g hg; omega),
    h.mod.setCell (.inr n2) _, h.ns, h.ne⟩

theorem AddSt.newR {w W : World} {b o : Nat} {v : Value} {rs : Rngs} {fl most lo hi R : Nat} (h : AddSt w W b o w.heap.size (w.heap.size + 1) (w.heap.size + 1 + 1) v rs fl most lo hi) (hR : w.heap.size + 1 + 1 < R) (hb : b < R) (hg : ∀ g, v.ownBlock = some g → g < R) (x y : Value) :
    AddSt w ((W.setCell ⟨R, 0, none⟩ x).setCell ⟨R, 1, none⟩ y).drew b o w.heap.size (w.heap.size + 1) (w.heap.size + 1 + 1) v rs fl most lo hi := by
  have hm : Mod (fun k => k = R) W ((W.setCell ⟨R, 0, none⟩ x).setCell ⟨R, 1, none⟩ y).drew := (((Mod.refl (fun k => k = R) W).setCell (p := ⟨R, 0, none⟩) (.inl rfl) x).setCell (p := ⟨R, 1, none⟩) (.inl rfl) y).drew
  have n1 : ¬ w.heap.size = R := by omega
  have n2 : ¬ w.heap.size + 1 = R := by omega
  have n3 : ¬ w.heap.size + 1 + 1 = R := by omega
  have n4 : ¬ b = R := by omega
  exact ⟨hm.cell n1 h.cs, hm.cell n2 h.cl, hm.cell n3 h.ch, by rw [World.frozen?_of_block (w := W) (hm.block (w.heap.size + 1) (lt_of_cell h.cl) n2)]; exact h.fz, h.set.mod hm n4 (fun g hgg => by show ¬ g = R; have := hg g hgg; omega),
    ((h.mod.setCell (p := ⟨R, 0, none⟩) (.inr (by show _ ≤ R; omega)) x).setCell (p := ⟨R, 1, none⟩) (.inr (by show _ ≤ R; omega)) y).drew, h.ns, h.ne⟩

theorem setR2 {W : World} {R t : Nat} {x0 y0 : Value} (h : W.heap[R]? = some (.cells #[x0, y0] t (0, 0))) (x y : Int) (x' y' : Nat) (hx : x = (x' : Int)) (hy : y = (y' : Int)) :
    (((W.setCell ⟨R, 0, none⟩ (.int .u64 x)).setCell ⟨R, 1, none⟩ (.int .u64 y)).drew).heap[R]? = some (.cells #[.int .u64 (x' : Int), .int .u64 (y' : Int)] t (0, 0)) := by
  subst hx hy
  have h1 : (W.setCell ⟨R, 0, none⟩ (.int .u64 x')).heap[R]? = some (.cells #[.int .u64 x', y0] t (0, 0)) := by
    rw [setCell_eq_setRow W R 0 #[x0, y0] t (0, 0) _ h]
    exact setRow_heap W R _ _ _ _ h
  show ((W.setCell ⟨R, 0, none⟩ (.int .u64 x')).setCell ⟨R, 1, none⟩ (.int .u64 y')).heap[R]? = _
  rw [setCell_eq_setRow _ R 1 #[.int .u64 x', y0] t (0, 0) _ h1]
  exact setRow_heap _ R _ _ _ _ h1

set_option maxRecDepth 100000 in
set_option maxHeartbeats 1000000 in
theorem add_out (rs : Rngs) (fl most b o lo hi : Nat) (v : Value) (w : World) (h : SetAt w b o v rs fl most)
    (hv : ∀ g, v.ownBlock = some g → g < w.heap.size) (hout : hi < max lo fl) :
    Calls Tryz.prog 38 #[.pointer (some ⟨b, o, none⟩), .int .u64 lo, .int .u64 hi] w fun e w' => e = .returned (.tuple #[]) ∧ Mod NoB w w' := by
  have hbw := lt_of_cell h.cf
  have st0 := AddSt.start w b o v rs fl most lo hi 101 34 34 h
  obtain ⟨W0, hW0⟩ : ∃ W0, (((w.alloc (.cells #[.pointer (some ⟨b, o, none⟩)] 101)).alloc (.cells #[.int .u64 lo] 34)).alloc (.cells #[.int .u64 hi] 34)) = W0 := ⟨_, rfl⟩
  rw [hW0] at st0
  have HW0 := hide hW0
  clear hW0
  obtain ⟨m, hm⟩ : ∃ m, max lo fl = m := ⟨_, rfl⟩
  have st1 := (st0.raise hbw hv m).drewN 1
  have Hif : Hid ((if lo < fl then (fl : Int) else lo) = (m : Int)) := by
    show _ = _
    split <;> omega
  rw [hm] at hout
  obtain ⟨W1, hW1⟩ : ∃ W1, (W0.setCell ⟨w.heap.size + 1, 0, none⟩ (.int .u64 (m : Int))).drew = W1 := ⟨_, rfl⟩
  have HW1 := hide hW1
  rw [show (W0.setCell ⟨w.heap.size + 1, 0, none⟩ (.int .u64 (m : Int))).drewN 1 = W1 from hW1] at st1
  clear hW1 hm
  have c1 := st0.cs
  have c2 := st0.cl
  have c3 := st0.set.cf
  have c4 := st0.fz
  go_enter Tryz.func38, Tryz.ntmps38
  go_wp2_with fail
  rw [HW0.out]
  go_region
  rw [Hif.out, HW1.out]
  clear c1 c2 c3 c4
  have c2 := st1.cl
  have c3 := st1.ch
  have hlt : (hi : Int) < m := by omega
  go_wp2_with fail
  refine bodyPost_ret (results_none rfl _ _ _) rfl ?_
  exact ⟨rfl, st1.mod⟩

/-- The new range. -/
def addR (rs : Rngs) (m hi m1 m2 : Nat) : Nat × Nat := if m1 < m2 then (min m (loAt rs m1), max hi (hiAt rs (m2 - 1))) else (m, hi)
/-- The ranges behind the Add, ahead of the bound. -/
def addRs (rs : Rngs) (m hi m1 m2 : Nat) : Rngs := rs.take m1 ++ addR rs m hi m1 m2 :: rs.drop m2

def AddPost (rs : Rngs) (fl most b o lo hi : Nat) (v : Value) (w : World) (e : Ending) (w' : World) : Prop :=
  ∃ m1 m2 v' rs' fl', SearchIs rs.length (atLo rs (max lo fl)) m1 ∧ SearchIs rs.length (pastHi rs hi) m2 ∧
    (rs', fl') = (if most < (addRs rs (max lo fl) hi m1 m2).length then ((addRs rs (max lo fl) hi m1 m2).drop 1, hiAt (addRs rs (max lo fl) hi m1 m2) 0 + 1) else (addRs rs (max lo fl) hi m1 m2, fl)) ∧
    e = .returned (.tuple #[]) ∧ w'.ownsRow 0 110 2 v' rs'.length (rcells rs') ∧ w'.heap[b]? = ((w.setCell ⟨b, o, none⟩ v').setCell ⟨b, o + 1, none⟩ (.int .u64 (fl' : Int))).heap[b]? ∧
    Mod (fun k => k = b ∨ v.ownBlock = some k) w w' ∧ NewOr w v v'

set_option maxRecDepth 100000 in
set_option maxHeartbeats 1000000 in
/-- The part of Add behind its first test: the two searches, the new range, its place. -/
theorem add_in (rs : Rngs) (fl most b o lo hi : Nat) (v : Value) (w : World) (h : SetAt w b o v rs fl most) (hwf : WF rs) (hlo : lo < 18446744073709551616) (hhi : hi < 18446744073709551616) (hfl : fl < 18446744073709551616)
    (hv : ∀ g, v.ownBlock = some g → g < w.heap.size) (hvb : v.ownBlock ≠ some b) (hin : max lo fl ≤ hi)
    (hmost : 1 ≤ most) (hmost2 : most ≤ 9223372036854775807) (hpure : ∀ m1 m2, SearchIs rs.length (atLo rs (max lo fl)) m1 → SearchIs rs.length (pastHi rs hi) m2 → WF (addRs rs (max lo fl) hi m1 m2)) :
    Calls Tryz.prog 38 #[.pointer (some ⟨b, o, none⟩), .int .u64 lo, .int .u64 hi] w fun e w' => AddPost rs fl most b o lo hi v w e w' := by
  have hbw := lt_of_cell h.cf
  have hlen := h.len
  have st0 := AddSt.start w b o v rs fl most lo hi 101 34 34 h
  obtain ⟨W0, hW0⟩ : ∃ W0, (((w.alloc (.cells #[.pointer (some ⟨b, o, none⟩)] 101)).alloc (.cells #[.int .u64 lo] 34)).alloc (.cells #[.int .u64 hi] 34)) = W0 := ⟨_, rfl⟩
  rw [hW0] at st0
  have HW0 := hide hW0
  clear hW0
  obtain ⟨m, hm⟩ : ∃ m, max lo fl = m := ⟨_, rfl⟩
  have hmb : m < 18446744073709551616 := by omega
  have st1 := (st0.raise hbw hv m).drewN 1
  have Hif : Hid ((if lo < fl then (fl : Int) else lo) = (m : Int)) := by
    show _ = _
    split <;> omega
  have HM := hide hm
  rw [hm] at hin hpure
  obtain ⟨W1, hW1⟩ : ∃ W1, (W0.setCell ⟨w.heap.size + 1, 0, none⟩ (.int .u64 (m : Int))).drew = W1 := ⟨_, rfl⟩
  have HW1 := hide hW1
  rw [show (W0.setCell ⟨w.heap.size + 1, 0, none⟩ (.int .u64 (m : Int))).drewN 1 = W1 from hW1] at st1
  clear hW1 hm
  have c1 := st0.cs
  have c2 := st0.cl
  have c3 := st0.set.cf
  have c4 := st0.fz
  have hs1 : ∀ k0, Calls Tryz.prog 75 #[.int .i64 rs.length, .func (.func 76) #[] #[.pointer (some ⟨w.heap.size, 0, none⟩), .pointer (some ⟨w.heap.size + 1, 0, none⟩)]] (W1.drewN k0) fun e w' => ∃ m1, SearchIs rs.length (atLo rs m) m1 ∧ e = .returned (.int .i64 m1) ∧ ∃ k, w' = W1.drewN k := fun k0 =>
    (search rs.length 76 #[.pointer (some ⟨w.heap.size, 0, none⟩), .pointer (some ⟨w.heap.size + 1, 0, none⟩)] (atLo rs m) (W1.drewN k0) (by omega) enters_add1 (fun i k hi0 =>
      (add1_any rs i b o w.heap.size (w.heap.size + 1) m v ((W1.drewN k0).drewN k) st1.cs st1.cl hmb st1.set.cl st1.set.own hi0).mono fun e w' ⟨he, k', hw⟩ => ⟨he, k + k', by rw [hw, World.drewN_drewN]⟩)).mono
      fun e w' ⟨m1, h1, he, k', hw⟩ => ⟨m1, h1, he, k0 + k', by rw [hw, World.drewN_drewN]⟩
  have hs2 : ∀ k0, Calls Tryz.prog 75 #[.int .i64 rs.length, .func (.func 77) #[] #[.pointer (some ⟨w.heap.size, 0, none⟩), .pointer (some ⟨w.heap.size + 1 + 1, 0, none⟩)]] (W1.drewN k0) fun e w' => ∃ m2, SearchIs rs.length (pastHi rs hi) m2 ∧ e = .returned (.int .i64 m2) ∧ AddSt w w' b o w.heap.size (w.heap.size + 1) (w.heap.size + 1 + 1) v rs fl most m hi := fun k0 =>
    (search rs.length 77 #[.pointer (some ⟨w.heap.size, 0, none⟩), .pointer (some ⟨w.heap.size + 1 + 1, 0, none⟩)] (pastHi rs hi) (W1.drewN k0) (by omega) enters_add2 (fun i k hi0 =>
      (add2_any rs i b o w.heap.size (w.heap.size + 1 + 1) hi v ((W1.drewN k0).drewN k) st1.cs st1.ch (fun i hi => by have := hwf.1 i hi; omega) st1.set.cl st1.set.own hi0).mono fun e w' ⟨he, k', hw⟩ => ⟨he, k + k', by rw [hw, World.drewN_drewN]⟩)).mono
      fun e w' ⟨m1, h1, he, k', hw⟩ => ⟨m1, h1, he, by rw [hw]; exact (st1.drewN k0).drewN k'⟩
  obtain ⟨a, cap, hv', n1, n2, n3⟩ := own_form h.own
  have HS1 := hide hs1
  have HS2 := hide hs2
  clear hs1 hs2
  go_enter Tryz.func38, Tryz.ntmps38
  go_wp2_with fail
  rw [HW0.out]
  go_region
  rw [Hif.out, HW1.out]
  clear c1 c2 c3 c4
  have c1 := st1.cs
  have c2 := st1.cl
  have c3 := st1.ch
  have c5 := st1.set.cl
  rw [hv'] at c5
  have hle : ¬ (hi : Int) < m := by omega
  have tok : True := trivial
  go_upto_if 37 with (first | (go_at_call 75; have _t := tok; refine (HS1.out 0).mono ?_; rintro e w' ⟨m1, hm1, rfl, k1, rfl⟩; clear tok) | (go_at_call 75; refine (HS2.out _).mono ?_; rintro e W2 ⟨m2, hm2, rfl, st2⟩; have d1 := st2.cs; have d2 := st2.cl; have d3 := st2.ch; have d5 := st2.set.cl; rw [hv'] at d5; clear c1 c2 c3 c5))
  obtain ⟨R, hR⟩ : ∃ R, W2.heap.size = R := ⟨_, rfl⟩
  obtain ⟨W3, hW3⟩ : ∃ W3, W2.alloc (.cells #[.int .u64 (m : Int), .int .u64 (hi : Int)] 110) = W3 := ⟨_, rfl⟩
  have st3 : AddSt w W3 b o w.heap.size (w.heap.size + 1) (w.heap.size + 1 + 1) v rs fl most m hi := hW3 ▸ st2.alloc _
  have hR3 : W3.heap[R]? = some (.cells #[.int .u64 (m : Int), .int .u64 (hi : Int)] 110 (0, 0)) := by rw [← hW3, ← hR]; exact heap_alloc_new W2 _
  have hRn : w.heap.size + 1 + 1 < R := by rw [← hR]; exact lt_of_cell st2.ch
  have hRb : b < R := by omega
  have hRs : w.heap.size < R := by omega
  rw [hR, hW3]
  clear hR hW3 d1 d2 d3 d5 st2 st1 st0 HS1 HS2 HW0 HW1 Hif
  go_cut [6, 7] (fun f t wx => f = .int .i64 m1 ∧ t = .int .i64 m2 ∧ AddSt w wx b o w.heap.size (w.heap.size + 1) (w.heap.size + 1 + 1) v rs fl most m hi ∧
    wx.heap[R]? = some (.cells #[.int .u64 ((addR rs m hi m1 m2).1 : Int), .int .u64 ((addR rs m hi m1 m2).2 : Int)] 110 (0, 0)))
  case first =>
    have d1 := st3.cs
    have d2 := st3.cl
    have d3 := st3.ch
    have d5 := st3.set.cl
    rw [hv'] at d5
    have e1 := cell_of_obj (o := 0) hR3 rfl
    have e2 := cell_of_obj (o := 1) hR3 rfl
    have e3 := frozen_of_obj (o := 0) hR3
    have e4 := frozen_of_obj (o := 1) hR3
    by_cases hlt : m1 < m2
    · have hm2l := hm2.1
      obtain ⟨g, rfl⟩ := n3 (by omega)
      have hgR : g < R := by
        have := hv g (by rw [hv']; rfl)
        omega
      have r1 := (own_rcells (hv' ▸ st3.set.own) m1 (by omega)).1
      have r2 := (own_rcells (hv' ▸ st3.set.own) (m2 - 1) (by omega)).2
      have i0 : (m1 : Int) < m2 := by omega
      have i1 : (m1 : Int) < rs.length := by omega
      have i2 : (m2 : Int) - 1 < rs.length := by omega
      have i3 : 0 ≤ (m2 : Int) - 1 := by omega
      have i4 : IntKind.i64.wrap ((m2 : Int) - 1) = (m2 : Int) - 1 := IntWalk.i64_in _ (by omega)
      have i5 : ((m2 : Int) - 1).toNat = m2 - 1 := by omega
      have i6 : (1 : Int) ≤ m2 := by omega
      have q1 : ¬ w.heap.size = R := by omega
      have q2 : ¬ w.heap.size + 1 = R := by omega
      have q3 : ¬ w.heap.size + 1 + 1 = R := by omega
      have q4 : ¬ b = R := by omega
      have q5 : ¬ g = R := by omega
      have Hr : Hid (addR rs m hi m1 m2 = (min m (loAt rs m1), max hi (hiAt rs (m2 - 1)))) := by
        show _ = _
        rw [addR, if_pos hlt]
      have Hmn : Hid ((if loAt rs m1 < m then (loAt rs m1 : Int) else (m : Int)) = ((min m (loAt rs m1) : Nat) : Int)) := by
        show _ = _
        split <;> omega
      have Hmx : Hid ((if hi < hiAt rs (m2 - 1) then (hiAt rs (m2 - 1) : Int) else (hi : Int)) = ((max hi (hiAt rs (m2 - 1)) : Nat) : Int)) := by
        show _ = _
        split <;> omega
      go_wp2_with fail
      go_region_held3 (fun w' => w'.cell? ⟨w.heap.size, 0, none⟩ = some (.pointer (some ⟨b, o, none⟩)) ∧ w'.cell? ⟨w.heap.size + 1, 0, none⟩ = some (.int .u64 (m : Int)) ∧ w'.cell? ⟨w.heap.size + 1 + 1, 0, none⟩ = some (.int .u64 (hi : Int)) ∧ w'.cell? ⟨b, o, none⟩ = some (.slice (some ⟨g, 0, none⟩) rs.length cap) ∧ w'.cell? ⟨g, m1 * 2, none⟩ = some (.int .u64 (loAt rs m1 : Int)) ∧ w'.cell? ⟨g, (m2 - 1) * 2 + 1, none⟩ = some (.int .u64 (hiAt rs (m2 - 1) : Int))) (first | exact ⟨d1, d2, d3, d5, r1, r2⟩ | exact ⟨keep1 d1 q1, keep1 d2 q2, keep1 d3 q3, keep1 d5 q4, keep1 r1 q5, keep1 r2 q5⟩ | exact ⟨keep2 d1 q1, keep2 d2 q2, keep2 d3 q3, keep2 d5 q4, keep2 r1 q5, keep2 r2 q5⟩) ((fail))
      all_goals
        rw [Hmn.out, Hmx.out]
        generalize hmn : min m (loAt rs m1) = mn at *
        generalize hmx : max hi (hiAt rs (m2 - 1)) = mx at *
        have st4 := st3.newR hRn hRb (by rw [hv']; intro k hk; simp [Value.ownBlock] at hk; omega) (.int .u64 (mn : Int)) (.int .u64 (mx : Int))
        have hR4 : (((W3.setCell ⟨R, 0, none⟩ (.int .u64 (mn : Int))).setCell ⟨R, 1, none⟩ (.int .u64 (mx : Int))).drew).heap[R]? = some (.cells #[.int .u64 ((addR rs m hi m1 m2).1 : Int), .int .u64 ((addR rs m hi m1 m2).2 : Int)] 110 (0, 0)) := by
          rw [Hr.out]
          exact setR2 hR3 mn mx mn mx rfl rfl
        clear d1 d2 d3 d5 e1 e2 e3 e4 r1 r2 hR3 st3 hmn hmx Hmn Hmx
        generalize ((W3.setCell ⟨R, 0, none⟩ (.int .u64 (mn : Int))).setCell ⟨R, 1, none⟩ (.int .u64 (mx : Int))).drew = W4 at *
        go_wp2_with fail
        go_meet
        exact ⟨rfl, rfl, st4, hR4⟩
    · have Hr : Hid (addR rs m hi m1 m2 = (m, hi)) := by
        show _ = _
        rw [addR, if_neg hlt]
      go_wp2_with fail
      go_meet
      exact ⟨rfl, rfl, st3, by rw [Hr.out]; exact hR3⟩
  case rest =>
    obtain ⟨rfl, rfl, st4, hR4⟩ := hcut
    clear hR3 st3 n3
    have hm2l := hm2.1
    have hft := from_le_to hwf hin hm1 hm2
    obtain ⟨rl, hrl⟩ : ∃ x, (addR rs m hi m1 m2).1 = x := ⟨_, rfl⟩
    obtain ⟨rh, hrh⟩ : ∃ x, (addR rs m hi m1 m2).2 = x := ⟨_, rfl⟩
    rw [hrl, hrh] at hR4
    have Hr : Hid (addR rs m hi m1 m2 = (rl, rh)) := by
      show _ = _
      rw [← hrl, ← hrh]
    clear hrl hrh
    have d1 := st4.cs
    have d5 := st4.set.cl
    rw [hv'] at d5
    have e1 := cell_of_obj (o := 0) hR4 rfl
    have e2 := cell_of_obj (o := 1) hR4 rfl
    have l1 : w.heap.size < wc.heap.size := lt_of_cell st4.cs
    have l2 : b < wc.heap.size := by omega
    have l3 : R < wc.heap.size := (Array.getElem?_eq_some_iff.1 hR4).1
    have q1 : ¬ w.heap.size = wc.heap.size := by omega
    have q2 : ¬ b = wc.heap.size := by omega
    have q3 : ¬ R = wc.heap.size := by omega
    have q4 : ¬ w.heap.size = b := by omega
    have q5 : ¬ R = b := by omega
    have own4 := st4.set.own
    rw [hv'] at own4
    have hov : (Value.slice a rs.length cap).ownBlock ≠ some wc.heap.size := by
      intro hx
      have := own4.lt _ hx
      omega
    have p1 : some w.heap.size ≠ (Value.slice a rs.length cap).ownBlock := by
      intro hx
      have := hv _ (hv' ▸ hx.symm)
      omega
    have p2 : some b ≠ (Value.slice a rs.length cap).ownBlock := fun hx => hvb (hv' ▸ hx.symm)
    have p3 : some R ≠ (Value.slice a rs.length cap).ownBlock := by
      intro hx
      have := hv _ (hv' ▸ hx.symm)
      omega
    have hma : Mod NoB wc (wc.alloc (.cells #[.int .u64 (rl : Int), .int .u64 (rh : Int)] 110)).drew := ((Mod.refl NoB wc).alloc _).drew
    have hm0 := And.intro (hma.cell (fun x => x) d1) (And.intro (hma.cell (fun x => x) d5) (And.intro (hma.cell (fun x => x) e1) (hma.cell (fun x => x) e2)))
    have hfz4 : ∀ w4, World.grownBy (wc.alloc (.cells #[.int .u64 (rl : Int), .int .u64 (rh : Int)] 110)).drew w4 (Value.slice a rs.length cap).ownBlock → w4.frozen? ⟨b, o, none⟩ = false := by
      intro w4 hgr
      rw [World.frozen?_of_block (w := (wc.alloc (.cells #[.int .u64 (rl : Int), .int .u64 (rh : Int)] 110)).drew) (hgr.block b (Nat.lt_of_lt_of_le l2 hma.size) p2)]
      exact (st4.set.mod hma (fun x => x) (fun _ _ x => x)).fz o
    go_upto_region 8 with fail
    refine GT_start 12 (fun w' => w'.cell? ⟨w.heap.size, 0, none⟩ = some (.pointer (some ⟨b, o, none⟩)) ∧ w'.cell? ⟨b, o, none⟩ = some (.slice a rs.length cap) ∧ w'.cell? ⟨R, 0, none⟩ = some (.int .u64 (rl : Int)) ∧ w'.cell? ⟨R, 1, none⟩ = some (.int .u64 (rh : Int))) (by kernel_rfl) (by kernel_rfl) ⟨d1, d5, e1, e2⟩ ?_
    refine GT_take (i := 0) (v := ?_) rfl (by kernel_rfl) (fun _ _ _ h => h) (Or.inl ⟨by rfl, ?_⟩) ?_
    rotate_left
    · (intro wx hFx; (try dsimp only at hFx); go_simp) <;> (try with_reducible rfl)
    try simp only [Act.put, List.setIfInBounds_toArray, List.set_cons_zero, List.set_cons_succ]
    refine GT_take (i := 1) (v := ?_) rfl (by kernel_rfl) (fun _ _ _ h => h) (Or.inl ⟨by rfl, ?_⟩) ?_
    rotate_left
    · (intro wx hFx; (try dsimp only at hFx); go_simp) <;> (try with_reducible rfl)
    try simp only [Act.put, List.setIfInBounds_toArray, List.set_cons_zero, List.set_cons_succ]
    refine GT_take (i := 2) (v := ?_) rfl (by kernel_rfl) (fun _ _ _ h => h) (Or.inl ⟨by rfl, ?_⟩) ?_
    rotate_left
    · (intro wx hFx; (try dsimp only at hFx); go_simp) <;> (try with_reducible rfl)
    try simp only [Act.put, List.setIfInBounds_toArray, List.set_cons_zero, List.set_cons_succ]
    refine GT_take (i := 3) (v := ?_) rfl (by kernel_rfl) (fun _ _ _ h => h) (Or.inl ⟨by rfl, ?_⟩) ?_
    rotate_left
    · (intro wx hFx; (try dsimp only at hFx); go_simp) <;> (try with_reducible rfl)
    try simp only [Act.put, List.setIfInBounds_toArray, List.set_cons_zero, List.set_cons_succ]
    refine GT_take (i := 4) (v := ?_) rfl (by kernel_rfl) (fun _ _ _ h => h) (Or.inl ⟨by rfl, ?_⟩) ?_
    rotate_left
    · (intro wx hFx; (try dsimp only at hFx); go_simp) <;> (try with_reducible rfl)
    try simp only [Act.put, List.setIfInBounds_toArray, List.set_cons_zero, List.set_cons_succ]
    refine GT_take (i := 5) (v := ?_) rfl (by kernel_rfl) (fun _ _ _ h => h) (Or.inl ⟨by rfl, ?_⟩) ?_
    rotate_left
    · (intro wx hFx; (try dsimp only at hFx); go_simp) <;> (try with_reducible rfl)
    try simp only [Act.put, List.setIfInBounds_toArray, List.set_cons_zero, List.set_cons_succ]
    refine GT_take (i := 6) (v := ?_) rfl (by kernel_rfl) (fun _ _ _ h => h) (Or.inl ⟨by rfl, ?_⟩) ?_
    rotate_left
    · (intro wx hFx; (try dsimp only at hFx); go_simp) <;> (try with_reducible rfl)
    try simp only [Act.put, List.setIfInBounds_toArray, List.set_cons_zero, List.set_cons_succ]
    refine GT_take (i := 7) (v := ?_) rfl (by kernel_rfl) (fun _ _ _ h => h) (Or.inl ⟨by rfl, ?_⟩) ?_
    rotate_left
    · (intro wx hFx; (try dsimp only at hFx); go_simp) <;> (try with_reducible rfl)
    try simp only [Act.put, List.setIfInBounds_toArray, List.set_cons_zero, List.set_cons_succ]
    refine GT_one (i := 8) rfl (by kernel_rfl) (fun K hK => ?_)
    go_simp
    refine hK.out _ _ hm0 ?_
    clear hK K
    try simp only [Act.put, List.setIfInBounds_toArray, List.set_cons_zero, List.set_cons_succ]
    refine GT_one (i := 9) rfl (by kernel_rfl) (fun K hK => ?_)
    go_simp
    refine (replace_any (.slice a rs.length cap) rs m1 m2 (rl, rh) wc.heap.size _ hft hm2l hlen ?_ ?_ hov).mono ?_
    · exact (((Mod.refl NoB wc).alloc _).drew).owns own4 (fun _ _ x => x)
    · exact heap_alloc_new wc _
    rintro e w4 ⟨v', rfl, ho, hgr, hnw⟩
    have f1 := hgr.cell hm0.1 p1
    have f2 := hgr.cell hm0.2.1 p2
    have f3 := hgr.cell hm0.2.2.1 p3
    have f4 := hgr.cell hm0.2.2.2 p3
    have f5 := hfz4 _ hgr
    refine hK.out _ _ ⟨f1, f2, f3, f4⟩ ?_
    clear hK K
    try simp only [Act.put, List.setIfInBounds_toArray, List.set_cons_zero, List.set_cons_succ]
    refine GT_take (i := 10) (v := ?_) rfl (by kernel_rfl) (fun _ _ _ h => h) (Or.inl ⟨by rfl, ?_⟩) ?_
    rotate_left
    · (intro wx hFx; (try dsimp only at hFx); go_simp) <;> (try with_reducible rfl)
    try simp only [Act.put, List.setIfInBounds_toArray, List.set_cons_zero, List.set_cons_succ]
    refine GT_take (i := 11) (v := ?_) rfl (by kernel_rfl) (fun _ _ _ h => h) (Or.inl ⟨by rfl, ?_⟩) ?_
    rotate_left
    · (intro wx hFx; (try dsimp only at hFx); go_simp) <;> (try with_reducible rfl)
    try simp only [Act.put, List.setIfInBounds_toArray, List.set_cons_zero, List.set_cons_succ]
    obtain ⟨rs5, hrs5⟩ : ∃ x, rs.take m1 ++ (rl, rh) :: rs.drop m2 = x := ⟨_, rfl⟩
    rw [hrs5] at ho
    have HR5 : Hid (addRs rs m hi m1 m2 = rs5) := by
      show _ = _
      rw [addRs, Hr.out, hrs5]
    have hw5 : WF rs5 := by rw [← HR5.out]; exact hpure m1 m2 hm1 hm2
    have hl5 : rs5.length ≤ rs.length + 1 := by
      rw [← hrs5]
      simp
      omega
    clear hrs5
    have hbv' : (v' : Value).ownBlock ≠ some b := by
      intro hx
      rcases hnw b hx with h1 | h1
      · exact p2 h1.symm
      · simp at h1
        omega
    obtain ⟨a', cap', rfl, k1, k2, k3⟩ := own_form ho
    have hmod4 : Mod (fun k => v.ownBlock = some k) wc w4 := (hma.mono (fun _ x => x.elim)).grown hgr (fun k hk => .inl (by rw [hv', hk]))
    have hnwv : NewOr w v (.slice a' rs5.length cap') := fun k hk => by
      rcases hnw k hk with h1 | h1
      · exact .inl (by rw [hv']; exact h1)
      · refine .inr ?_
        have := st4.mod.size
        simp at h1
        omega
    have hnwc : ∀ k, (Value.slice a' rs5.length cap').ownBlock = some k → v.ownBlock = some k ∨ wc.heap.size ≤ k := fun k hk => by
      rcases hnw k hk with h1 | h1
      · exact .inl (by rw [hv']; exact h1)
      · exact .inr (by simp at h1; omega)
    obtain ⟨W5, hW5⟩ : ∃ W5, w4.setCell ⟨b, o, none⟩ (.slice a' rs5.length cap') = W5 := ⟨_, rfl⟩
    have g1 : W5.cell? ⟨w.heap.size, 0, none⟩ = some (.pointer (some ⟨b, o, none⟩)) := by rw [← hW5]; exact cell_set_ne f1 q4
    have g2 : W5.cell? ⟨b, o, none⟩ = some (.slice a' rs5.length cap') := by rw [← hW5, World.cell?_setCell_same _ _ _ f2]
    have g3 : W5.cell? ⟨b, o + 1, none⟩ = some (.int .u64 (fl : Int)) := by
      rw [← hW5, World.cell?_setCell_other _ _ _ _ (by simp)]
      exact hmod4.cell hvb st4.set.cf
    have g4 : W5.cell? ⟨b, o + 2, none⟩ = some (.int .i64 (most : Int)) := by
      rw [← hW5, World.cell?_setCell_other _ _ _ _ (by simp)]
      exact hmod4.cell hvb st4.set.cm
    have g5 : ∀ j, W5.frozen? ⟨b, j, none⟩ = false := by
      intro j
      rw [← hW5, World.frozen?_setCell, World.frozen?_of_block (w := wc) (hmod4.block b l2 hvb)]
      exact st4.set.fz j
    have own5 : W5.ownsRow 0 110 2 (.slice a' rs5.length cap') rs5.length (rcells rs5) := by
      rw [← hW5]
      exact ((Mod.refl (fun k => k = b) w4).setCell (p := ⟨b, o, none⟩) (.inl rfl) _).owns ho (fun g hg x => hbv' (hg.trans (congrArg some x)))
    have mod5 : Mod (fun k => k = b ∨ v.ownBlock = some k) w W5 := by
      rw [← hW5]
      exact ((st4.mod.mono (fun _ x => x.elim)).then (S' := fun k => v.ownBlock = some k) hmod4 (fun i hi => .inl (.inr hi))).setCell (p := ⟨b, o, none⟩) (.inl (.inl rfl)) _
    have heap5 : W5.heap[b]? = (w.setCell ⟨b, o, none⟩ (.slice a' rs5.length cap')).heap[b]? := by
      rw [← hW5]
      exact setCell_block ((hmod4.block b l2 hvb).trans (st4.mod.block b hbw (fun x => x))) _ _
    refine GT_last rfl (by kernel_rfl) (fun K hK => ?_)
    go_simp
    refine hK.out _ _ ?_
    clear hK K
    try simp only [Act.put, List.setIfInBounds_toArray, List.set_cons_zero, List.set_cons_succ]
    refine GT_done (by kernel_rfl) ?_
    try rw [hW5]
    clear hW5 hmod4 f1 f2 f3 f4 f5 hfz4 hm0 hma d1 d5 e1 e2 hR4 st4 hgr hnw own4 hov p1 p2 p3
    have hn5 : (rs5.length : Int) ≤ 1099511627777 := by omega
    by_cases hmost : most < rs5.length
    · have hd : (most : Int) < rs5.length := by omega
      have k0 : 2 ≤ rs5.length := by omega
      obtain ⟨g, rfl⟩ := k3 (by omega)
      have r1 : W5.cell? ⟨g, 1, none⟩ = some (.int .u64 (hiAt rs5 0 : Int)) := by simpa using (own_rcells own5 0 (by omega)).2
      have hb1 : hiAt rs5 0 + 1 < 18446744073709551616 := by
        have h1 := hw5.2 0 1 (by omega) (by omega)
        have h2 := hw5.1 1 (by omega)
        omega
      have hz : (0 : Int) < rs5.length := by omega
      have hz' : 0 < rs5.length := by omega
      have hsum : IntKind.u64.wrap ((hiAt rs5 0 : Int) + 1) = (hiAt rs5 0 : Int) + 1 := by rw [IntKind.wrap_u64]; omega
      go_wp2_with fail
      go_quiet (fail)
      go_wp2_with fail
      refine GT_start 11 (fun w' => w'.cell? ⟨w.heap.size, 0, none⟩ = some (.pointer (some ⟨b, o, none⟩)) ∧ w'.cell? ⟨b, o, none⟩ = some (.slice (some ⟨g, 0, none⟩) rs5.length cap') ∧ w'.cell? ⟨g, 1, none⟩ = some (.int .u64 (hiAt rs5 0 : Int))) (by kernel_rfl) (by kernel_rfl) ⟨g1, g2, r1⟩ ?_
      refine GT_take (i := 0) (v := ?_) rfl (by kernel_rfl) (fun _ _ _ h => h) (Or.inl ⟨by rfl, ?_⟩) ?_
      rotate_left
      · (intro wx hFx; (try dsimp only at hFx); go_simp) <;> (try with_reducible rfl)
      try simp only [Act.put, List.setIfInBounds_toArray, List.set_cons_zero, List.set_cons_succ]
      refine GT_take (i := 1) (v := ?_) rfl (by kernel_rfl) (fun _ _ _ h => h) (Or.inl ⟨by rfl, ?_⟩) ?_
      rotate_left
      · (intro wx hFx; (try dsimp only at hFx); go_simp) <;> (try with_reducible rfl)
      try simp only [Act.put, List.setIfInBounds_toArray, List.set_cons_zero, List.set_cons_succ]
      refine GT_take (i := 2) (v := ?_) rfl (by kernel_rfl) (fun _ _ _ h => h) (Or.inl ⟨by rfl, ?_⟩) ?_
      rotate_left
      · (intro wx hFx; (try dsimp only at hFx); go_simp) <;> (try with_reducible rfl)
      try simp only [Act.put, List.setIfInBounds_toArray, List.set_cons_zero, List.set_cons_succ]
      refine GT_take (i := 3) (v := ?_) rfl (by kernel_rfl) (fun _ _ _ h => h) (Or.inl ⟨by rfl, ?_⟩) ?_
      rotate_left
      · (intro wx hFx; (try dsimp only at hFx); go_simp) <;> (try with_reducible rfl)
      try simp only [Act.put, List.setIfInBounds_toArray, List.set_cons_zero, List.set_cons_succ]
      refine GT_take (i := 4) (v := ?_) rfl (by kernel_rfl) (fun _ _ _ h => h) (Or.inl ⟨by rfl, ?_⟩) ?_
      rotate_left
      · (intro wx hFx; (try dsimp only at hFx); go_simp) <;> (try with_reducible rfl)
      try simp only [Act.put, List.setIfInBounds_toArray, List.set_cons_zero, List.set_cons_succ]
      refine GT_take (i := 5) (v := ?_) rfl (by kernel_rfl) (fun _ _ _ h => h) (Or.inl ⟨by rfl, ?_⟩) ?_
      rotate_left
      · (intro wx hFx; (try dsimp only at hFx); go_simp) <;> (try with_reducible rfl)
      try simp only [Act.put, List.setIfInBounds_toArray, List.set_cons_zero, List.set_cons_succ]
      refine GT_take (i := 6) (v := ?_) rfl (by kernel_rfl) (fun _ _ _ h => h) (Or.inl ⟨by rfl, ?_⟩) ?_
      rotate_left
      · (intro wx hFx; (try dsimp only at hFx); go_simp) <;> (try with_reducible rfl)
      try simp only [Act.put, List.setIfInBounds_toArray, List.set_cons_zero, List.set_cons_succ]
      refine GT_take (i := 7) (v := ?_) rfl (by kernel_rfl) (fun _ _ _ h => h) (Or.inl ⟨by rfl, ?_⟩) ?_
      rotate_left
      · (intro wx hFx; (try dsimp only at hFx); go_simp) <;> (try with_reducible rfl)
      try simp only [Act.put, List.setIfInBounds_toArray, List.set_cons_zero, List.set_cons_succ]
      refine GT_take (i := 8) (v := ?_) rfl (by kernel_rfl) (fun _ _ _ h => h) (Or.inl ⟨by rfl, ?_⟩) ?_
      rotate_left
      · (intro wx hFx; (try dsimp only at hFx); go_simp) <;> (try with_reducible rfl)
      try simp only [Act.put, List.setIfInBounds_toArray, List.set_cons_zero, List.set_cons_succ]
      refine GT_take (i := 9) (v := ?_) rfl (by kernel_rfl) (fun _ _ _ h => h) (Or.inl ⟨by rfl, ?_⟩) ?_
      rotate_left
      · (intro wx hFx; (try dsimp only at hFx); go_simp) <;> (try with_reducible rfl)
      try simp only [Act.put, List.setIfInBounds_toArray, List.set_cons_zero, List.set_cons_succ]
      refine GT_take (i := 10) (v := ?_) rfl (by kernel_rfl) (fun _ _ _ h => h) (Or.inl ⟨by rfl, ?_⟩) ?_
      rotate_left
      · (intro wx hFx; (try dsimp only at hFx); go_simp) <;> (try with_reducible rfl)
      try simp only [Act.put, List.setIfInBounds_toArray, List.set_cons_zero, List.set_cons_succ]
      have g5' := g5 (o + 1)
      refine GT_last rfl (by kernel_rfl) (fun K hK => ?_)
      go_simp
      refine hK.out _ _ ?_
      clear hK K
      try simp only [Act.put, List.setIfInBounds_toArray, List.set_cons_zero, List.set_cons_succ]
      refine GT_done (by kernel_rfl) ?_
      obtain ⟨W6, hW6⟩ : ∃ W6, (W5.drewN (nq + 1)).setCell ⟨b, o + 1, none⟩ (.int .u64 ((hiAt rs5 0 : Int) + 1)) = W6 := ⟨_, rfl⟩
      have hm6 : Mod (fun k => k = b) W5 W6 := by
        rw [← hW6]
        exact ((Mod.refl (fun k => k = b) W5).drewN (nq + 1)).setCell (p := ⟨b, o + 1, none⟩) (.inl rfl) _
      have s1 : W6.cell? ⟨w.heap.size, 0, none⟩ = some (.pointer (some ⟨b, o, none⟩)) := hm6.cell q4 g1
      have s2 : W6.cell? ⟨b, o, none⟩ = some (.slice (some ⟨g, 0, none⟩) rs5.length cap') := by
        rw [← hW6, World.cell?_setCell_other _ _ _ _ (by simp)]
        exact g2
      have s3 : W6.frozen? ⟨b, o, none⟩ = false := by
        rw [← hW6, World.frozen?_setCell]
        exact g5 o
      have own6 : W6.ownsRow 0 110 2 (.slice (some ⟨g, 0, none⟩) rs5.length cap') rs5.length (rcells rs5) := hm6.owns own5 (fun k hk x => hbv' (hk.trans (congrArg some x)))
      have mod6 : Mod (fun k => k = b ∨ v.ownBlock = some k) w W6 := mod5.then hm6 (fun i hi => .inl (.inl hi))
      have heap6 : W6.heap[b]? = ((w.setCell ⟨b, o, none⟩ (.slice (some ⟨g, 0, none⟩) rs5.length cap')).setCell ⟨b, o + 1, none⟩ (.int .u64 ((hiAt rs5 0 : Int) + 1))).heap[b]? := by
        rw [← hW6]
        exact setCell_block (w' := W5.drewN (nq + 1)) heap5 _ _
      rw [hW6]
      clear hW6 g1 g2 g3 g4 g5' r1 heap5 mod5 own5
      go_wp2_with fail
      refine GT_start 8 (fun w' => w'.cell? ⟨w.heap.size, 0, none⟩ = some (.pointer (some ⟨b, o, none⟩)) ∧ w'.cell? ⟨b, o, none⟩ = some (.slice (some ⟨g, 0, none⟩) rs5.length cap')) (by kernel_rfl) (by kernel_rfl) ⟨s1, s2⟩ ?_
      refine GT_take (i := 0) (v := ?_) rfl (by kernel_rfl) (fun _ _ _ h => h) (Or.inl ⟨by rfl, ?_⟩) ?_
      rotate_left
      · (intro wx hFx; (try dsimp only at hFx); go_simp) <;> (try with_reducible rfl)
      try simp only [Act.put, List.setIfInBounds_toArray, List.set_cons_zero, List.set_cons_succ]
      refine GT_take (i := 1) (v := ?_) rfl (by kernel_rfl) (fun _ _ _ h => h) (Or.inl ⟨by rfl, ?_⟩) ?_
      rotate_left
      · (intro wx hFx; (try dsimp only at hFx); go_simp) <;> (try with_reducible rfl)
      try simp only [Act.put, List.setIfInBounds_toArray, List.set_cons_zero, List.set_cons_succ]
      refine GT_take (i := 2) (v := ?_) rfl (by kernel_rfl) (fun _ _ _ h => h) (Or.inl ⟨by rfl, ?_⟩) ?_
      rotate_left
      · (intro wx hFx; (try dsimp only at hFx); go_simp) <;> (try with_reducible rfl)
      try simp only [Act.put, List.setIfInBounds_toArray, List.set_cons_zero, List.set_cons_succ]
      refine GT_take (i := 3) (v := ?_) rfl (by kernel_rfl) (fun _ _ _ h => h) (Or.inl ⟨by rfl, ?_⟩) ?_
      rotate_left
      · (intro wx hFx; (try dsimp only at hFx); go_simp) <;> (try with_reducible rfl)
      try simp only [Act.put, List.setIfInBounds_toArray, List.set_cons_zero, List.set_cons_succ]
      refine GT_take (i := 4) (v := ?_) rfl (by kernel_rfl) (fun _ _ _ h => h) (Or.inl ⟨by rfl, ?_⟩) ?_
      rotate_left
      · (intro wx hFx; (try dsimp only at hFx); go_simp) <;> (try with_reducible rfl)
      try simp only [Act.put, List.setIfInBounds_toArray, List.set_cons_zero, List.set_cons_succ]
      refine GT_one (i := 5) rfl (by kernel_rfl) (fun K hK => ?_)
      go_simp
      refine (delete_any (.slice (some ⟨g, 0, none⟩) rs5.length cap') rs5 _ k0 ?_).mono ?_
      · exact ((Mod.refl NoB W6).drew).owns own6 (fun _ _ x => x)
      rintro e w7 ⟨v7, rfl, ho7, hgr7, hnw7⟩
      have p2 : some b ≠ (Value.slice (some ⟨g, 0, none⟩) rs5.length cap').ownBlock := fun hx => hbv' hx.symm
      have p1 : some w.heap.size ≠ (Value.slice (some ⟨g, 0, none⟩) rs5.length cap').ownBlock := by
        intro hx
        rcases hnwc _ hx.symm with h1 | h1
        · have := hv _ h1
          omega
        · omega
      have f1 := hgr7.cell (w := W6.drew) s1 p1
      have f2 := hgr7.cell (w := W6.drew) s2 p2
      have hbW6 : b < W6.heap.size := lt_of_cell s2
      have f5 : w7.frozen? ⟨b, o, none⟩ = false := by
        rw [World.frozen?_of_block (w := W6.drew) (hgr7.block b hbW6 p2)]
        exact s3
      refine hK.out _ _ ⟨f1, f2⟩ ?_
      clear hK K
      try simp only [Act.put, List.setIfInBounds_toArray, List.set_cons_zero, List.set_cons_succ]
      refine GT_take (i := 6) (v := ?_) rfl (by kernel_rfl) (fun _ _ _ h => h) (Or.inl ⟨by rfl, ?_⟩) ?_
      rotate_left
      · (intro wx hFx; (try dsimp only at hFx); go_simp) <;> (try with_reducible rfl)
      try simp only [Act.put, List.setIfInBounds_toArray, List.set_cons_zero, List.set_cons_succ]
      refine GT_take (i := 7) (v := ?_) rfl (by kernel_rfl) (fun _ _ _ h => h) (Or.inl ⟨by rfl, ?_⟩) ?_
      rotate_left
      · (intro wx hFx; (try dsimp only at hFx); go_simp) <;> (try with_reducible rfl)
      try simp only [Act.put, List.setIfInBounds_toArray, List.set_cons_zero, List.set_cons_succ]
      obtain ⟨a7, cap7, rfl, k71, k72, k73⟩ := own_form ho7
      refine GT_last rfl (by kernel_rfl) (fun K hK => ?_)
      go_simp
      refine hK.out _ _ ?_
      clear hK K
      try simp only [Act.put, List.setIfInBounds_toArray, List.set_cons_zero, List.set_cons_succ]
      refine GT_done (by kernel_rfl) ?_
      have hbv7 : (Value.slice a7 (rs5.drop 1).length cap7).ownBlock ≠ some b := by
        intro hx
        rcases hnw7 b hx with h1 | h1
        · exact hbv' h1
        · have h2 : W6.heap.size ≤ b := h1
          omega
      have mod7 : Mod (fun k => k = b ∨ v.ownBlock = some k) w w7 := mod6.drew.grown hgr7 (fun k hk => (hnwv k hk).imp .inr id)
      go_wp2_with fail
      refine bodyPost_ret (results_none rfl _ _ _) rfl ?_
      refine ⟨m1, m2, .slice a7 (rs5.drop 1).length cap7, rs5.drop 1, hiAt rs5 0 + 1, by rw [HM.out]; exact hm1, hm2, ?_, rfl, ?_, ?_, ?_, ?_⟩
      · rw [HM.out, HR5.out, if_pos hmost]
      · have := ((Mod.refl (fun k => k = b) w7).setCell (p := ⟨b, o, none⟩) (.inl rfl) (.slice a7 (rs5.drop 1).length cap7)).owns ho7 (fun k hk x => hbv7 (hk.trans (congrArg some x)))
        simpa using this
      · have h1 : w7.heap[b]? = W6.heap[b]? := hgr7.block b hbW6 p2
        have := (setCell_block (h1.trans heap6) o (.slice a7 (rs5.drop 1).length cap7)).trans (setCell_three _ _ _ _ _ _)
        simpa using this
      · have := mod7.setCell (p := ⟨b, o, none⟩) (.inl (.inl rfl)) (.slice a7 (rs5.drop 1).length cap7)
        simpa using this
      · intro k hk
        rcases hnw7 k hk with h1 | h1
        · exact hnwv k h1
        · have h2 : W6.heap.size ≤ k := h1
          exact .inr (Nat.le_trans mod6.size h2)
    · have hd : ¬ (most : Int) < rs5.length := by omega
      go_wp2_with fail
      go_quiet (fail)
      go_wp2_with fail
      refine bodyPost_ret (results_none rfl _ _ _) rfl ?_
      refine ⟨m1, m2, .slice a' rs5.length cap', rs5, fl, by rw [HM.out]; exact hm1, hm2, ?_, rfl, own5, ?_, mod5.drewN _, hnwv⟩
      · rw [HM.out, HR5.out, if_neg hmost]
      · exact (setCell_same_block g3).symm.trans (setCell_block heap5 _ _)
end Go.Proofs.YtddfdpbaiedcjabGreatDoor
/- Sets of numbers: what Add does to the ranges, in plain Lean. -/
namespace Go.Proofs.YtddfdpbaiedcjabGreatDoor
open Go.RowKit

/-- The number lies in a range. -/
def inRs (rs : Rngs) (n : Nat) : Prop := ∃ i, i < rs.length ∧ loAt rs i ≤ n ∧ n ≤ hiAt rs i

theorem at_append_left (a b : Rngs) (i : Nat) (h : i < a.length) : loAt (a ++ b) i = loAt a i ∧ hiAt (a ++ b) i = hiAt a i := by
  simp [loAt, hiAt, List.getElem?_append_left h]

theorem at_append_right (a b : Rngs) (i : Nat) (h : a.length ≤ i) : loAt (a ++ b) i = loAt b (i - a.length) ∧ hiAt (a ++ b) i = hiAt b (i - a.length) := by
  simp [loAt, hiAt, List.getElem?_append_right h]

theorem at_take (rs : Rngs) (k i : Nat) (h : i < k) : loAt (rs.take k) i = loAt rs i ∧ hiAt (rs.take k) i = hiAt rs i := by
  simp [loAt, hiAt, List.getD_eq_getElem?_getD, h]

theorem at_drop (rs : Rngs) (k i : Nat) : loAt (rs.drop k) i = loAt rs (k + i) ∧ hiAt (rs.drop k) i = hiAt rs (k + i) := by
  simp [loAt, hiAt, List.getD_eq_getElem?_getD, List.getElem?_drop]

theorem at_cons_zero (r : Nat × Nat) (rs : Rngs) : loAt (r :: rs) 0 = r.1 ∧ hiAt (r :: rs) 0 = r.2 := ⟨rfl, rfl⟩
theorem at_cons_succ (r : Nat × Nat) (rs : Rngs) (i : Nat) : loAt (r :: rs) (i + 1) = loAt rs i ∧ hiAt (r :: rs) (i + 1) = hiAt rs i := ⟨rfl, rfl⟩

theorem addRs_length (rs : Rngs) (m hi m1 m2 : Nat) (h1 : m1 ≤ m2) (h2 : m2 ≤ rs.length) : (addRs rs m hi m1 m2).length = m1 + 1 + (rs.length - m2) := by
  simp [addRs]
  omega

theorem addRs_lo (rs : Rngs) (m hi m1 m2 i : Nat) (h1 : m1 ≤ m2) (h2 : m2 ≤ rs.length) (hi1 : i < m1) :
    loAt (addRs rs m hi m1 m2) i = loAt rs i ∧ hiAt (addRs rs m hi m1 m2) i = hiAt rs i := by
  unfold addRs
  have hl : i < (rs.take m1).length := by simp; omega
  rw [(at_append_left _ _ i hl).1, (at_append_left _ _ i hl).2]
  exact at_take rs m1 i hi1

theorem addRs_mid (rs : Rngs) (m hi m1 m2 : Nat) (h1 : m1 ≤ m2) (h2 : m2 ≤ rs.length) :
    loAt (addRs rs m hi m1 m2) m1 = (addR rs m hi m1 m2).1 ∧ hiAt (addRs rs m hi m1 m2) m1 = (addR rs m hi m1 m2).2 := by
  unfold addRs
  have hl : (rs.take m1).length = m1 := by simp; omega
  rw [(at_append_right _ _ m1 (by omega)).1, (at_append_right _ _ m1 (by omega)).2, hl, Nat.sub_self]
  exact at_cons_zero _ _

theorem addRs_hi (rs : Rngs) (m hi m1 m2 i : Nat) (h1 : m1 ≤ m2) (h2 : m2 ≤ rs.length) (hi1 : m1 < i) :
    loAt (addRs rs m hi m1 m2) i = loAt rs (m2 + (i - m1 - 1)) ∧ hiAt (addRs rs m hi m1 m2) i = hiAt rs (m2 + (i - m1 - 1)) := by
  unfold addRs
  have hl : (rs.take m1).length = m1 := by simp; omega
  rw [(at_append_right _ _ i (by omega)).1, (at_append_right _ _ i (by omega)).2, hl]
  obtain ⟨j, hj⟩ : ∃ j, i - m1 = j + 1 := ⟨i - m1 - 1, by omega⟩
  rw [hj, (at_cons_succ _ _ j).1, (at_cons_succ _ _ j).2]
  exact at_drop rs m2 j

theorem below_from {rs : Rngs} {m m1 : Nat} (hw : WF rs) (h1 : SearchIs rs.length (atLo rs m) m1) : ∀ i, i < m1 → hiAt rs i + 1 < m := by
  intro i hi
  obtain ⟨a1, b1, _⟩ := h1
  have e := b1 (by omega)
  simp only [atLo, decide_eq_false_iff_not] at e
  by_cases he : i = m1 - 1
  · rw [he]; omega
  · have := hw.2 i (m1 - 1) (by omega) (by omega)
    have h2 := hw.1 (m1 - 1) (by omega)
    omega

theorem above_to {rs : Rngs} {hi m2 : Nat} (hw : WF rs) (h2 : SearchIs rs.length (pastHi rs hi) m2) : ∀ i, m2 ≤ i → i < rs.length → hi + 1 < loAt rs i := by
  intro i h1 hi
  obtain ⟨_, _, c2⟩ := h2
  have e := c2 (by omega)
  simp only [pastHi, decide_eq_true_eq] at e
  by_cases he : i = m2
  · rw [he]; exact e
  · have := hw.2 m2 i (by omega) hi
    have h3 := hw.1 m2 (by omega)
    omega

theorem addR_facts {rs : Rngs} {m hi m1 m2 : Nat} (hw : WF rs) (hhi : hi < 18446744073709551616) (h1 : SearchIs rs.length (atLo rs m) m1) (h2 : SearchIs rs.length (pastHi rs hi) m2) :
    (addR rs m hi m1 m2).1 ≤ m ∧ hi ≤ (addR rs m hi m1 m2).2 ∧ (addR rs m hi m1 m2).2 < 18446744073709551616 ∧ (∀ i, i < m1 → hiAt rs i + 1 < (addR rs m hi m1 m2).1) ∧ (∀ i, m2 ≤ i → i < rs.length → (addR rs m hi m1 m2).2 + 1 < loAt rs i) := by
  have hf := below_from hw h1
  have ht := above_to hw h2
  have hm2 := h2.1
  unfold addR
  split
  · rename_i hlt
    have w2 := hw.1 (m2 - 1) (by omega)
    refine ⟨Nat.min_le_left _ _, Nat.le_max_left _ _, by show max _ _ < _; omega, fun i hi => ?_, fun i h3 h4 => ?_⟩
    · have := hf i hi
      have h5 := hw.2 i m1 hi (by omega)
      show _ < min _ _
      omega
    · have := ht i h3 h4
      have h5 := hw.2 (m2 - 1) i (by omega) h4
      show max _ _ + 1 < _
      omega
  · exact ⟨Nat.le_refl _, Nat.le_refl _, hhi, hf, ht⟩

theorem addRs_wf {rs : Rngs} {m hi m1 m2 : Nat} (hw : WF rs) (hlh : m ≤ hi) (hhi : hi < 18446744073709551616) (h1 : SearchIs rs.length (atLo rs m) m1) (h2 : SearchIs rs.length (pastHi rs hi) m2) :
    WF (addRs rs m hi m1 m2) := by
  have hft := from_le_to hw hlh h1 h2
  have hm2 := h2.1
  have hl := addRs_length rs m hi m1 m2 hft hm2
  obtain ⟨r1, r2, r3, r4, r5⟩ := addR_facts hw hhi h1 h2
  have am := addRs_mid rs m hi m1 m2 hft hm2
  refine ⟨fun i hi1 => ?_, fun i j hij hj => ?_⟩
  · rcases Nat.lt_trichotomy i m1 with hc | hc | hc
    · have e := addRs_lo rs m hi m1 m2 i hft hm2 hc
      rw [e.1, e.2]
      exact hw.1 i (by omega)
    · subst hc
      rw [am.1, am.2]
      omega
    · have e := addRs_hi rs m hi m1 m2 i hft hm2 hc
      rw [e.1, e.2]
      exact hw.1 _ (by omega)
  · rcases Nat.lt_trichotomy i m1 with hc | hc | hc
    · have e := addRs_lo rs m hi m1 m2 i hft hm2 hc
      rw [e.2]
      rcases Nat.lt_trichotomy j m1 with hd | hd | hd
      · rw [(addRs_lo rs m hi m1 m2 j hft hm2 hd).1]
        exact hw.2 i j hij (by omega)
      · subst hd
        rw [am.1]
        exact r4 i hc
      · rw [(addRs_hi rs m hi m1 m2 j hft hm2 hd).1]
        exact hw.2 i _ (by omega) (by omega)
    · subst hc
      rw [am.2, (addRs_hi rs m hi i m2 j hft hm2 hij).1]
      exact r5 _ (by omega) (by omega)
    · rw [(addRs_hi rs m hi m1 m2 i hft hm2 hc).2, (addRs_hi rs m hi m1 m2 j hft hm2 (by omega)).1]
      exact hw.2 _ _ (by omega) (by omega)

theorem lo_mono {rs : Rngs} (hw : WF rs) {i j : Nat} (h : i ≤ j) (hj : j < rs.length) : loAt rs i ≤ loAt rs j ∧ hiAt rs i ≤ hiAt rs j := by
  by_cases he : i = j
  · subst he; exact ⟨Nat.le_refl _, Nat.le_refl _⟩
  · have := hw.2 i j (by omega) hj
    have h1 := hw.1 i (by omega)
    have h2 := hw.1 j hj
    omega

theorem addRs_in {rs : Rngs} {m hi m1 m2 : Nat} (hw : WF rs) (hlh : m ≤ hi) (h1 : SearchIs rs.length (atLo rs m) m1) (h2 : SearchIs rs.length (pastHi rs hi) m2) (n : Nat) :
    inRs (addRs rs m hi m1 m2) n ↔ inRs rs n ∨ (m ≤ n ∧ n ≤ hi) := by
  have hft := from_le_to hw hlh h1 h2
  have hm2 := h2.1
  have hl := addRs_length rs m hi m1 m2 hft hm2
  have am := addRs_mid rs m hi m1 m2 hft hm2
  constructor
  · rintro ⟨i, hi1, hlo, hhi⟩
    rcases Nat.lt_trichotomy i m1 with hc | hc | hc
    · have e := addRs_lo rs m hi m1 m2 i hft hm2 hc
      rw [e.1] at hlo
      rw [e.2] at hhi
      exact .inl ⟨i, by omega, hlo, hhi⟩
    · subst hc
      rw [am.1] at hlo
      rw [am.2] at hhi
      by_cases hin : m ≤ n ∧ n ≤ hi
      · exact .inr hin
      · refine .inl ?_
        unfold addR at hlo hhi
        split at hlo
        · rename_i hlt
          rw [if_pos hlt] at hhi
          simp only at hlo hhi
          have c1 := h1.2.2 (by omega)
          simp only [atLo, decide_eq_true_eq] at c1
          have b2 := h2.2.1 (by omega)
          simp only [pastHi, decide_eq_false_iff_not] at b2
          by_cases hn : n < m
          · exact ⟨i, by omega, by omega, by omega⟩
          · exact ⟨m2 - 1, by omega, by omega, by omega⟩
        · rename_i hlt
          rw [if_neg hlt] at hhi
          simp only at hlo hhi
          omega
    · have e := addRs_hi rs m hi m1 m2 i hft hm2 hc
      rw [e.1] at hlo
      rw [e.2] at hhi
      exact .inl ⟨_, by omega, hlo, hhi⟩
  · rintro (⟨i, hi1, hlo, hhi⟩ | ⟨ha, hb⟩)
    · by_cases hc : i < m1
      · have e := addRs_lo rs m hi m1 m2 i hft hm2 hc
        exact ⟨i, by omega, by rw [e.1]; exact hlo, by rw [e.2]; exact hhi⟩
      · by_cases hd : m2 ≤ i
        · have e := addRs_hi rs m hi m1 m2 (m1 + 1 + (i - m2)) hft hm2 (by omega)
          have e2 : m2 + (m1 + 1 + (i - m2) - m1 - 1) = i := by omega
          rw [e2] at e
          exact ⟨m1 + 1 + (i - m2), by omega, by rw [e.1]; exact hlo, by rw [e.2]; exact hhi⟩
        · have l1 := (lo_mono hw (i := m1) (j := i) (by omega) hi1).1
          have l2 := (lo_mono hw (i := i) (j := m2 - 1) (by omega) (by omega)).2
          refine ⟨m1, by omega, ?_, ?_⟩
          · rw [am.1, addR, if_pos (by omega)]
            show min _ _ ≤ _
            omega
          · rw [am.2, addR, if_pos (by omega)]
            show _ ≤ max _ _
            omega
    · refine ⟨m1, by omega, ?_, ?_⟩
      · rw [am.1, addR]
        split
        · show min _ _ ≤ _
          omega
        · exact ha
      · rw [am.2, addR]
        split
        · show _ ≤ max _ _
          omega
        · exact hb

/-- What Has answers. -/
theorem has_iff {rs : Rngs} {n m : Nat} (hw : WF rs) (h : SearchIs rs.length (hiGe rs n) m) : (m < rs.length ∧ loAt rs m ≤ n) ↔ inRs rs n := by
  obtain ⟨a, b, c⟩ := h
  constructor
  · rintro ⟨h1, h2⟩
    have := c h1
    simp only [hiGe, decide_eq_true_eq] at this
    exact ⟨m, h1, h2, this⟩
  · rintro ⟨i, hi, hlo, hhi⟩
    by_cases hc : i < m
    · have e := b (by omega)
      simp only [hiGe, decide_eq_false_iff_not] at e
      have := (lo_mono hw (i := i) (j := m - 1) (by omega) (by omega)).2
      omega
    · have := (lo_mono hw (i := m) (j := i) (by omega) hi).1
      exact ⟨by omega, by omega⟩
end Go.Proofs.YtddfdpbaiedcjabGreatDoor
/- The document's Add, in plain Lean: round by round it comes to the same ranges. -/
namespace Go.Proofs.YtddfdpbaiedcjabGreatDoor
open Go.RowKit

def stR (rs : Rngs) (m hi m1 m2 i : Nat) : Nat × Nat := addR rs m hi m1 (min i m2)
def outR (rs : Rngs) (m hi m1 m2 i : Nat) : Rngs := if i ≤ m2 then rs.take (min i m1) else rs.take m1 ++ addR rs m hi m1 m2 :: (rs.drop m2).take (i - m2)

theorem at_get {rs : Rngs} {i : Nat} (h : i < rs.length) : rs[i]? = some (loAt rs i, hiAt rs i) := by
  simp [loAt, hiAt, List.getD_eq_getElem?_getD, List.getElem?_eq_getElem h]

theorem from_at {rs : Rngs} {m m1 : Nat} (hw : WF rs) (h1 : SearchIs rs.length (atLo rs m) m1) : ∀ i, m1 ≤ i → i < rs.length → m ≤ hiAt rs i + 1 := by
  intro i hi1 hil
  obtain ⟨a1, b1, c1⟩ := h1
  have e := c1 (by omega)
  simp only [atLo, decide_eq_true_eq] at e
  have := lo_mono hw hi1 hil
  omega

theorem to_at {rs : Rngs} {hi m2 : Nat} (hw : WF rs) (h2 : SearchIs rs.length (pastHi rs hi) m2) : ∀ i, i < m2 → loAt rs i ≤ hi + 1 := by
  intro i hi1
  obtain ⟨a1, b1, c1⟩ := h2
  have e := b1 (by omega)
  simp only [pastHi, decide_eq_false_iff_not] at e
  have := lo_mono hw (show i ≤ m2 - 1 by omega) (by omega)
  omega

/-- Ahead of the first that meets it. -/
theorem round_below {rs : Rngs} {m hi m1 m2 : Nat} (hw : WF rs) (hlh : m ≤ hi) (h1 : SearchIs rs.length (atLo rs m) m1) (h2 : SearchIs rs.length (pastHi rs hi) m2) {i : Nat} (hi1 : i < m1) : stR rs m hi m1 m2 i = (m, hi) ∧ hiAt rs i + 1 < m ∧ stR rs m hi m1 m2 (i + 1) = (m, hi) ∧ outR rs m hi m1 m2 (i + 1) = outR rs m hi m1 m2 i ++ [(loAt rs i, hiAt rs i)] ∧ i < m2 ∧ i + 1 ≤ m2 := by
  have hft := from_le_to hw hlh h1 h2
  have hm2 := h2.1
  have hb := below_from hw h1 i hi1
  refine ⟨?_, hb, ?_, ?_, by omega, by omega⟩
  · unfold stR addR
    rw [if_neg (by omega)]
  · unfold stR addR
    rw [if_neg (by omega)]
  · unfold outR
    rw [if_pos (by omega), if_pos (by omega), show min (i + 1) m1 = i + 1 by omega, show min i m1 = i by omega, List.take_add_one, at_get (by omega)]
    rfl

/-- One that meets it. -/
theorem round_in {rs : Rngs} {m hi m1 m2 : Nat} (hw : WF rs) (h1 : SearchIs rs.length (atLo rs m) m1) (h2 : SearchIs rs.length (pastHi rs hi) m2) {i : Nat} (hi1 : m1 ≤ i) (hi2 : i < m2) : (stR rs m hi m1 m2 i).1 ≤ hiAt rs i + 1 ∧ loAt rs i ≤ (stR rs m hi m1 m2 i).2 + 1 ∧
    stR rs m hi m1 m2 (i + 1) = (min (stR rs m hi m1 m2 i).1 (loAt rs i), max (stR rs m hi m1 m2 i).2 (hiAt rs i)) ∧ outR rs m hi m1 m2 (i + 1) = outR rs m hi m1 m2 i := by
  have hm2 := h2.1
  have q1 := from_at hw h1 i hi1 (by omega)
  have q2 := to_at hw h2 i hi2
  have hm := lo_mono hw hi1 (show i < rs.length by omega)
  unfold stR
  rw [show min i m2 = i by omega, show min (i + 1) m2 = i + 1 by omega]
  refine ⟨?_, ?_, ?_, ?_⟩
  · unfold addR
    split
    · show min m (loAt rs m1) ≤ _
      omega
    · exact q1
  · unfold addR
    split
    · show _ ≤ max hi (hiAt rs (i - 1)) + 1
      omega
    · exact q2
  · unfold addR
    rw [if_pos (show m1 < i + 1 by omega), Nat.add_sub_cancel]
    by_cases hc : m1 < i
    · rw [if_pos hc]
      have h3 := lo_mono hw (show i - 1 ≤ i by omega) (show i < rs.length by omega)
      show (min m (loAt rs m1), max hi (hiAt rs i)) = (min (min m (loAt rs m1)) (loAt rs i), max (max hi (hiAt rs (i - 1))) (hiAt rs i))
      rw [show min (min m (loAt rs m1)) (loAt rs i) = min m (loAt rs m1) by omega, show max (max hi (hiAt rs (i - 1))) (hiAt rs i) = max hi (hiAt rs i) by omega]
    · rw [if_neg hc, show i = m1 by omega]
  · unfold outR
    rw [if_pos (by omega), if_pos (by omega), show min (i + 1) m1 = min i m1 by omega]

/-- One behind. -/
theorem round_above {rs : Rngs} {m hi m1 m2 : Nat} (hw : WF rs) (hlh : m ≤ hi) (hhi : hi < 18446744073709551616) (h1 : SearchIs rs.length (atLo rs m) m1) (h2 : SearchIs rs.length (pastHi rs hi) m2) {i : Nat} (hi2 : m2 ≤ i) (hil : i < rs.length) : stR rs m hi m1 m2 i = addR rs m hi m1 m2 ∧ stR rs m hi m1 m2 (i + 1) = addR rs m hi m1 m2 ∧ (addR rs m hi m1 m2).2 + 1 < loAt rs i ∧ (addR rs m hi m1 m2).1 ≤ (addR rs m hi m1 m2).2 ∧
    (i = m2 → outR rs m hi m1 m2 (i + 1) = outR rs m hi m1 m2 i ++ [addR rs m hi m1 m2] ++ [(loAt rs i, hiAt rs i)]) ∧ (m2 < i → outR rs m hi m1 m2 (i + 1) = outR rs m hi m1 m2 i ++ [(loAt rs i, hiAt rs i)]) := by
  have hft := from_le_to hw hlh h1 h2
  obtain ⟨f1, f2, f3, f4, f5⟩ := addR_facts hw hhi h1 h2
  refine ⟨?_, ?_, f5 i hi2 hil, by omega, ?_, ?_⟩
  · unfold stR
    rw [show min i m2 = m2 by omega]
  · unfold stR
    rw [show min (i + 1) m2 = m2 by omega]
  · intro e
    subst e
    unfold outR
    rw [if_neg (by omega), if_pos (by omega), show min i m1 = m1 by omega, Nat.add_sub_cancel_left]
    rw [show (rs.drop i).take 1 = [(loAt rs i, hiAt rs i)] by
      rw [List.take_one, List.head?_drop, at_get hil]
      rfl]
    simp
  · intro e
    unfold outR
    rw [if_neg (by omega), if_neg (by omega), show i + 1 - m2 = (i - m2) + 1 by omega, List.take_add_one, List.getElem?_drop, show m2 + (i - m2) = i by omega, at_get hil]
    simp

/-- At the end. -/
theorem round_end {rs : Rngs} {m hi m1 m2 : Nat} (hw : WF rs) (hlh : m ≤ hi) (h1 : SearchIs rs.length (atLo rs m) m1) (h2 : SearchIs rs.length (pastHi rs hi) m2) : (rs.length ≤ m2 → outR rs m hi m1 m2 rs.length ++ [addR rs m hi m1 m2] = addRs rs m hi m1 m2 ∧ stR rs m hi m1 m2 rs.length = addR rs m hi m1 m2) ∧ (m2 < rs.length → outR rs m hi m1 m2 rs.length = addRs rs m hi m1 m2) := by
  have hft := from_le_to hw hlh h1 h2
  have hm2 := h2.1
  refine ⟨fun e => ?_, fun e => ?_⟩
  · have e' : m2 = rs.length := by omega
    unfold outR addRs stR
    rw [if_pos (by omega), show min rs.length m1 = m1 by omega, show min rs.length m2 = m2 by omega, e', List.drop_length]
    exact ⟨rfl, rfl⟩
  · unfold outR addRs
    rw [if_neg (by omega), List.take_of_length_le (l := rs.drop m2) (by simp)]

theorem st_zero (rs : Rngs) (m hi m1 m2 : Nat) : stR rs m hi m1 m2 0 = (m, hi) := by
  unfold stR addR
  rw [if_neg (by omega)]

theorem st_le {rs : Rngs} {m hi : Nat} (m1 m2 i : Nat) (h : m ≤ hi) : (stR rs m hi m1 m2 i).1 ≤ (stR rs m hi m1 m2 i).2 := by
  unfold stR addR
  split
  · show min m _ ≤ max hi _
    omega
  · exact h

theorem addRs_pos (rs : Rngs) (m hi m1 m2 : Nat) : 0 < (addRs rs m hi m1 m2).length := by
  unfold addRs
  simp
  omega

theorem out_zero (rs : Rngs) (m hi m1 m2 : Nat) : outR rs m hi m1 m2 0 = [] := by
  unfold outR
  rw [if_pos (by omega)]
  simp

theorem out_len (rs : Rngs) (m hi m1 m2 i : Nat) : (outR rs m hi m1 m2 i).length ≤ 2 * rs.length + 1 := by
  unfold outR
  split
  · simp
    omega
  · simp
    omega
end Go.Proofs.YtddfdpbaiedcjabGreatDoor
