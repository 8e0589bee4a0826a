/- The statement Gathered, second form, its card: where what the law reads is of bulk at most 1048576, and the two listed variables read as listed, it returns true, and its argument reads behind the call as before. Part 6 of 23. -/
import Derived.Test.YtddfdpbaiedcjabGreatDoorGatheredPart5
import Derived.Laws.EntriesVeiled
/- wire.soundAck, wire.writeAck: the ranges of an answer. -/
namespace Go.Proofs.YtddfdpbaiedcjabGreatDoor
open Go.RowKit

/-- Ranges that can be read there. -/
def RR (w : World) (v : Value) (rs : Rngs) : Prop :=
  ∃ a cap, v = .slice a rs.length cap ∧ rs.length ≤ cap ∧ cap ≤ maxLen ∧ ∀ i, i < rs.length → ∃ g o, a = some ⟨g, o, none⟩ ∧ w.cell? ⟨g, o + i * 2, none⟩ = some (.int .u64 (loAt rs i : Int)) ∧ w.cell? ⟨g, o + i * 2 + 1, none⟩ = some (.int .u64 (hiAt rs i : Int)) ∧ loAt rs i < 18446744073709551616 ∧ hiAt rs i < 18446744073709551616

/-- The block of a slice's cells is not of S. -/
def OffS (S : Nat → Prop) (v : Value) : Prop := ∀ g o n c, v = .slice (some ⟨g, o, none⟩) n c → ¬ S g

theorem RR.mod {S : Nat → Prop} {w w' : World} {v : Value} {rs : Rngs} (h : RR w v rs) (m : Mod S w w') (hs : OffS S v) : RR w' v rs := by
  obtain ⟨a, cap, rfl, h1, h2, h3⟩ := h
  refine ⟨a, cap, rfl, h1, h2, fun i hi => ?_⟩
  obtain ⟨g, o, rfl, c1, c2, c3⟩ := h3 i hi
  exact ⟨g, o, rfl, m.cell (a := ⟨g, _, none⟩) (hs g o _ _ rfl) c1, m.cell (a := ⟨g, _, none⟩) (hs g o _ _ rfl) c2, c3⟩

theorem OffS.no (v : Value) : OffS NoB v := fun _ _ _ _ _ x => x

def okAt (rs : Rngs) (i : Nat) : Bool :=
  decide (loAt rs i ≤ hiAt rs i) && decide (hiAt rs i ≤ 4611686018427387903) && (decide (i = 0) || (decide (2 ≤ loAt rs (i - 1)) && decide (hiAt rs i + 2 ≤ loAt rs (i - 1))))

def okTo (rs : Rngs) (k : Nat) : Bool := (List.range k).all (okAt rs)
theorem okTo_succ (rs : Rngs) (k : Nat) : okTo rs (k + 1) = (okTo rs k && okAt rs k) := by simp [okTo, List.range_succ]

/-- Can the ranges be told? -/
def soundRs (rs : Rngs) : Bool := okTo rs rs.length && decide (0 < rs.length)

theorem okTo_false {rs : Rngs} {k : Nat} (hk : k < rs.length) (h : okAt rs k = false) : soundRs rs = false := by
  unfold soundRs
  have : okTo rs rs.length = false := by
    cases hq : okTo rs rs.length
    · rfl
    · unfold okTo at hq
      rw [List.all_eq_true] at hq
      have := hq k (List.mem_range.2 hk)
      rw [h] at this
      cases this
  rw [this]
  rfl

/-- It answers this, and no old block has turned. -/
def Says (w : World) (x : Bool) (e : Ending) (w' : World) : Prop := e = .returned (.bool x) ∧ Mod NoB w w'

set_option maxHeartbeats 1000000 in
theorem soundack_any (b : Nat) (f : Frm) (rv : Value) (w : World) (hf : FrameAt w b f rv) (hr : RR w rv f.rngs) (hb : f.rngs.length ≤ 1099511627776) :
    Calls Tryz.prog 173 #[.pointer (some ⟨b, 0, none⟩)] w (Says w (soundRs f.rngs)) := by
  have c9 := hf.cells.2.2.2.2.2.2.2.2.2
  obtain ⟨a, cap, rfl, h1, h2, h3⟩ := id hr
  unfold maxLen at h2
  clear h3
  go_enter Tryz.func173, Tryz.ntmps173
  go_wp2_with fail
  go_loopw [10] (fun i wr => ∃ k : Nat, k ≤ f.rngs.length ∧ i = .int .i64 k ∧ okTo f.rngs k = true ∧ Mod NoB w wr) (fun i _ => f.rngs.length - (intOf i).toNat)
  case atStart => exact ⟨0, Nat.zero_le _, rfl, rfl, Mod.refl _ _⟩
  case round =>
    obtain ⟨k, hk, rfl, hok, hm⟩ := hrel
    have Hok := hide hok
    clear hok
    by_cases hlt : k < f.rngs.length
    · obtain ⟨a', cap', hv, _, _, h3⟩ := hr.mod hm (OffS.no _)
      cases hv
      obtain ⟨g, o, rfl, e1, e2, b1, b2⟩ := h3 k hlt
      have e3 : 0 < k → wr.cell? ⟨g, o + (k - 1) * 2, none⟩ = some (.int .u64 (loAt f.rngs (k - 1) : Int)) ∧ loAt f.rngs (k - 1) < 18446744073709551616 := fun h0 => by
        obtain ⟨g', o', hg, e3, _, b3, _⟩ := h3 (k - 1) (by omega)
        cases hg
        exact ⟨e3, b3⟩
      have c9r := (hf.mod hm (fun x => x)).cells.2.2.2.2.2.2.2.2.2
      have hbl := lt_of_cell c9r
      have hgl := lt_of_cell e1
      have HS := hide (okTo_succ f.rngs k)
      have HF := hide (fun h => okTo_false (rs := f.rngs) hlt h)
      have HA : Hid (okAt f.rngs k = (decide (loAt f.rngs k ≤ hiAt f.rngs k) && decide (hiAt f.rngs k ≤ 4611686018427387903) && (decide (k = 0) || (decide (2 ≤ loAt f.rngs (k - 1)) && decide (hiAt f.rngs k + 2 ≤ loAt f.rngs (k - 1)))))) := rfl
      obtain ⟨lo, hlo⟩ : ∃ x, loAt f.rngs k = x := ⟨_, rfl⟩
      obtain ⟨hi, hhi⟩ : ∃ x, hiAt f.rngs k = x := ⟨_, rfl⟩
      obtain ⟨pl, hpl⟩ : ∃ x, loAt f.rngs (k - 1) = x := ⟨_, rfl⟩
      rw [hlo, hhi, hpl] at HA
      rw [hlo] at e1 b1
      rw [hhi] at e2 b2
      rw [hpl] at e3
      clear hlo hhi hpl h3 hr
      clear hf c9
      by_cases d1 : hi < lo
      · have hd1 : decide (hi < lo) = true := by simpa using d1
        go_wp2_with fail
        go_quiet (fail)
        go_wp2_with fail
        go_ret
        exact ⟨by rw [HF.out (by rw [HA.out]; simp; omega)]; rfl, (hm.alloc _).drewN _⟩
      · have hd1 : decide (hi < lo) = false := by simpa using d1
        by_cases d2 : (4611686018427387903 : Int) < hi
        · have hd2 : decide ((4611686018427387903 : Int) < hi) = true := by simpa using d2
          go_wp2_with fail
          go_quiet (fail)
          go_wp2_with fail
          go_ret
          exact ⟨by rw [HF.out (by rw [HA.out]; simp; omega)]; rfl, (hm.alloc _).drewN _⟩
        · have hd2 : decide ((4611686018427387903 : Int) < hi) = false := by simpa using d2
          by_cases d3 : 0 < k
          · have hd3 : decide (0 < k) = true := by simpa using d3
            obtain ⟨e4, b4⟩ := e3 (by omega)
            have s1 : IntKind.i64.wrap ((k : Int) - 1) = (k : Int) - 1 := IntWalk.i64_in _ (by omega)
            have s2 : ((k : Int) - 1).toNat = k - 1 := by omega
            have s3 : 0 ≤ (k : Int) - 1 := by omega
            have s4 : (k : Int) - 1 < f.rngs.length := by omega
            clear e3
            by_cases d4 : (pl : Int) < 2
            · have hd4 : decide ((pl : Int) < 2) = true := by simpa using d4
              go_wp2_with fail
              go_quiet (fail)
              go_wp2_with fail
              go_ret
              exact ⟨by rw [HF.out (by rw [HA.out]; simp; omega)]; rfl, (hm.alloc _).drewN _⟩
            · have hd4 : decide ((pl : Int) < 2) = false := by simpa using d4
              have s5 : IntKind.u64.wrap ((pl : Int) - 2) = (pl : Int) - 2 := by rw [IntKind.wrap_u64]; omega
              by_cases d5 : (pl : Int) - 2 < hi
              · have hd5 : decide ((pl : Int) - 2 < hi) = true := by simpa using d5
                go_wp2_with fail
                go_quiet (fail)
                go_wp2_with fail
                go_ret
                exact ⟨by rw [HF.out (by rw [HA.out]; simp; omega)]; rfl, (hm.alloc _).drewN _⟩
              · have hd5 : decide ((pl : Int) - 2 < hi) = false := by simpa using d5
                go_wp2_with fail
                go_quiet (fail)
                go_wp2_with fail
                go_roundw
                case rel => exact ⟨k + 1, by omega, by go_num, by rw [HS.out, Hok.out, HA.out]; simp; omega, (hm.alloc _).drewN _⟩
                case measure => simp [intOf]; omega
          · have hd3 : decide (0 < k) = false := by simpa using d3
            clear e3
            go_wp2_with fail
            go_quiet (fail)
            go_wp2_with fail
            go_roundw
            case rel => exact ⟨k + 1, by omega, by go_num, by rw [HS.out, Hok.out, HA.out]; simp; omega, (hm.alloc _).drewN _⟩
            case measure => simp [intOf]; omega
    · have hkn : k = f.rngs.length := by omega
      have HE : Hid (soundRs f.rngs = decide (0 < f.rngs.length)) := by
        show _ = _
        unfold soundRs
        have := Hok.out
        rw [hkn] at this
        rw [this]
        simp
      have c9r := (hf.mod hm (fun x => x)).cells.2.2.2.2.2.2.2.2.2
      clear hkn
      go_wp2_with fail
      go_ret
      exact ⟨by rw [HE.out]; rfl, hm⟩
end Go.Proofs.YtddfdpbaiedcjabGreatDoor
/- wire.writeAck. -/
namespace Go.Proofs.YtddfdpbaiedcjabGreatDoor
open Go.RowKit

/-- The ranges behind the first, up to the k-th. -/
def ackB (rs : Rngs) : Nat → List UInt8
  | 0 => []
  | k + 1 => (ackB rs k ++ vint (loAt rs k - hiAt rs (k + 1) - 2)) ++ vint (hiAt rs (k + 1) - loAt rs (k + 1))

theorem ackB_length (rs : Rngs) : ∀ k, (ackB rs k).length ≤ 16 * k
  | 0 => by simp [ackB]
  | k + 1 => by
    have h1 := ackB_length rs k
    have h2 := vint_length (loAt rs k - hiAt rs (k + 1) - 2)
    have h3 := vint_length (hiAt rs (k + 1) - loAt rs (k + 1))
    simp only [ackB, List.length_append]
    omega

def bwrite2 (f : Frm) : List UInt8 := ((([2] ++ vint (hiAt f.rngs 0)) ++ vint (f.rngs.length - 1)) ++ vint (hiAt f.rngs 0 - loAt f.rngs 0)) ++ ackB f.rngs (f.rngs.length - 1)

theorem okAt_of {rs : Rngs} (h : soundRs rs = true) {i : Nat} (hi : i < rs.length) : okAt rs i = true := by
  unfold soundRs okTo at h
  simp only [Bool.and_eq_true, List.all_eq_true, List.mem_range] at h
  exact h.1 i hi

theorem ok_facts {rs : Rngs} (h : soundRs rs = true) {i : Nat} (hi : i < rs.length) : loAt rs i ≤ hiAt rs i ∧ hiAt rs i ≤ 4611686018427387903 ∧ (0 < i → hiAt rs i + 2 ≤ loAt rs (i - 1)) := by
  have := okAt_of h hi
  simp only [okAt, Bool.and_eq_true, Bool.or_eq_true, decide_eq_true_eq] at this
  obtain ⟨⟨h1, h2⟩, h3⟩ := this
  refine ⟨h1, h2, fun h0 => ?_⟩
  rcases h3 with h3 | h3
  · omega
  · exact h3.2

theorem App.alloc {w w' : World} {v v' : Value} {l new : List UInt8} (h : App w v l new v' w') (o : Obj) : App w v l new v' (w'.alloc o) :=
  ⟨World.ownsRow.alloc h.own o, World.ownsRow.alloc h.old o, ⟨h.grown.os, h.grown.tape, h.grown.output, Nat.le_trans h.grown.size (by simp), fun k hk hn => (Below.heap_alloc w' o k (Nat.lt_of_lt_of_le hk h.grown.size)).trans (h.grown.block k hk hn)⟩, h.at_⟩

theorem App.drewR {w w' : World} {v v' : Value} {l new : List UInt8} (h : App w v l new v' w') : App w v l new v' w'.drew :=
  ⟨h.own, h.old, ⟨h.grown.os, h.grown.tape, h.grown.output, h.grown.size, h.grown.block⟩, h.at_⟩

theorem RR.cell0 {w : World} {g o n c : Nat} {rs : Rngs} (h : RR w (.slice (some ⟨g, o, none⟩) n c) rs) (hp : 0 < rs.length) : w.cell? ⟨g, o + 0 * 2, none⟩ = some (.int .u64 (loAt rs 0 : Int)) := by
  obtain ⟨a, cap, hv, _, _, h3⟩ := h
  obtain ⟨g', o', e, e1, _⟩ := h3 0 hp
  cases hv
  cases e
  exact e1

theorem OB.mod0 {w w' : World} {v : Value} {l : List UInt8} (h : OB w v l) (m : Mod NoB w w') : OB w' v l := m.owns h (fun _ _ x => x)
theorem ob_lt {w : World} {v : Value} {l : List UInt8} (h : OB w v l) : ∀ g, v.ownBlock = some g → g < w.heap.size := by
  intro g hg
  rcases h.2 with ⟨rfl, _⟩ | ⟨g', cap, cur, rfl, _, h0, _⟩
  · cases hg
  · simp [Value.ownBlock] at hg
    subst hg
    exact (Array.getElem?_eq_some_iff.1 h0).1

set_option maxHeartbeats 1000000 in
theorem write2 (v : Value) (l : List UInt8) (b : Nat) (f : Frm) (rv : Value) (w : World) (hf : FrameAt w b f rv) (hr : RR w rv f.rngs) (hs : soundRs f.rngs = true) (hn : f.rngs.length ≤ 1099511627776) (hoff : OffS (fun k => v.ownBlock = some k) rv) (h : OB w v l) (hl : l.length ≤ 35184372088832) :
    Calls Tryz.prog 171 #[v, .pointer (some ⟨b, 0, none⟩)] w (Apps w v l (bwrite2 f)) := by
  have c9 := hf.cells.2.2.2.2.2.2.2.2.2
  have hbl := lt_of_cell c9
  have hpos : 0 < f.rngs.length := by
    unfold soundRs at hs
    simp only [Bool.and_eq_true, decide_eq_true_eq] at hs
    exact hs.2
  obtain ⟨a, cap, rfl, h1, h2, h3⟩ := id hr
  unfold maxLen at h2
  obtain ⟨g, o, rfl, e1, e2, b1, b2⟩ := h3 0 hpos
  have hgl := lt_of_cell e1
  obtain ⟨k1, k2, _⟩ := ok_facts hs hpos
  have HB : Hid (bwrite2 f = ((([2] ++ vint (hiAt f.rngs 0)) ++ vint (f.rngs.length - 1)) ++ vint (hiAt f.rngs 0 - loAt f.rngs 0)) ++ ackB f.rngs (f.rngs.length - 1)) := rfl
  have hH : ∀ i, i < f.rngs.length → loAt f.rngs i ≤ hiAt f.rngs i ∧ hiAt f.rngs i ≤ 4611686018427387903 ∧ (0 < i → hiAt f.rngs i + 2 ≤ loAt f.rngs (i - 1)) := fun i hi => ok_facts hs hi
  have HH := hide hH
  clear hH
  obtain ⟨lo, hlo⟩ : ∃ x, loAt f.rngs 0 = x := ⟨_, rfl⟩
  obtain ⟨hi, hhi⟩ : ∃ x, hiAt f.rngs 0 = x := ⟨_, rfl⟩
  rw [hlo] at e1 b1 k1
  rw [hhi] at e2 b2 k1 k2
  rw [hlo, hhi] at HB
  simp only [Nat.zero_mul, Nat.add_zero] at e1 e2
  clear hlo hhi h3
  have z1 : IntKind.i64.wrap ((f.rngs.length : Int) - 1) = (f.rngs.length : Int) - 1 := IntWalk.i64_in _ (by omega)
  have z2 : IntKind.u64.wrap ((f.rngs.length : Int) - 1) = ((f.rngs.length - 1 : Nat) : Int) := by rw [IntKind.wrap_u64]; omega
  have z3 : IntKind.u64.wrap ((hi : Int) - lo) = ((hi - lo : Nat) : Int) := by rw [IntKind.wrap_u64]; omega
  go_enter Tryz.func171, Tryz.ntmps171
  go_wp2_with fail
  obtain ⟨X0, hX0⟩ : ∃ X0, (w.alloc (.cells #[.int .u64 (lo : Int), .int .u64 (hi : Int)] 110)).drew = X0 := ⟨_, rfl⟩
  have mX : Mod NoB w X0 := by rw [← hX0]; exact ((Mod.refl _ _).alloc _).drew
  have FX : FrameAt X0 b f (.slice (some ⟨g, o, none⟩) f.rngs.length cap) := hf.mod mX (fun x => x)
  have hB : X0.heap[w.heap.size]? = some (.cells #[.int .u64 (lo : Int), .int .u64 (hi : Int)] 110 (0, 0)) := by rw [← hX0]; exact heap_alloc_new w _
  have cX0 : X0.cell? ⟨w.heap.size, 0, none⟩ = some (.int .u64 (lo : Int)) := cell_of_obj hB rfl
  have cX1 : X0.cell? ⟨w.heap.size, 1, none⟩ = some (.int .u64 (hi : Int)) := cell_of_obj hB rfl
  have hvB : ¬ v.ownBlock = some w.heap.size := fun hx => by have := ob_lt h _ hx; omega
  have hX : OB X0 v l := h.mod0 mX
  obtain ⟨v1, w1, hr1, A1⟩ := lit1_app X0 v l 2 2 hX rfl (by omega)
  have F1 : FrameAt w1 b f (.slice (some ⟨g, o, none⟩) f.rngs.length cap) ∧ w1.cell? ⟨w.heap.size, 0, none⟩ = some (.int .u64 (lo : Int)) ∧ w1.cell? ⟨w.heap.size, 1, none⟩ = some (.int .u64 (hi : Int)) := ⟨FrameAt.app (w := X0) FX (h.mod0 mX) A1, A1.mod.cell (a := ⟨w.heap.size, 0, none⟩) hvB cX0, A1.mod.cell (a := ⟨w.heap.size, 1, none⟩) hvB cX1⟩
  have L1 : (l ++ [(2 : UInt8)]).length ≤ 35184372088832 + 1 := by simp; omega
  have HX := hide (mX.trans (S := NoB) (Mod.refl _ _))
  refine GT_start 21 (fun w' => FrameAt w' b f (.slice (some ⟨g, o, none⟩) f.rngs.length cap) ∧ w'.cell? ⟨w.heap.size, 0, none⟩ = some (.int .u64 (lo : Int)) ∧ w'.cell? ⟨w.heap.size, 1, none⟩ = some (.int .u64 (hi : Int))) (by kernel_rfl) (by kernel_rfl) ?_ ?_
  · rw [hX0]
    exact ⟨FX, cX0, cX1⟩
  rw [hX0]
  clear hX0
  refine GT_take (i := 0) (v := ?_) rfl (by kernel_rfl) (fun _ _ _ h => h) (Or.inl ⟨by rfl, ?_⟩) ?_
  rotate_left
  · (intro wx hFx; (try dsimp only at hFx); have hc := hFx.1.cells; obtain ⟨ca, cb⟩ := hFx.2; clear hFx; obtain ⟨c0, c1, c2, c3, c4, c5, c6, c7, c8, c9⟩ := hc; go_simp) <;> (try with_reducible rfl)
  try simp only [Act.put, List.setIfInBounds_toArray, List.set_cons_zero, List.set_cons_succ, List.getElem_toArray, List.getElem_cons_zero, List.getElem_cons_succ]
  refine GT_take (i := 3) (v := ?_) rfl (by kernel_rfl) (fun _ _ _ h => h) (Or.inl ⟨by rfl, ?_⟩) ?_
  rotate_left
  · (intro wx hFx; (try dsimp only at hFx); have hc := hFx.1.cells; obtain ⟨ca, cb⟩ := hFx.2; clear hFx; obtain ⟨c0, c1, c2, c3, c4, c5, c6, c7, c8, c9⟩ := hc; go_simp) <;> (try with_reducible rfl)
  try simp only [Act.put, List.setIfInBounds_toArray, List.set_cons_zero, List.set_cons_succ, List.getElem_toArray, List.getElem_cons_zero, List.getElem_cons_succ]
  refine GT_take (i := 4) (v := ?_) rfl (by kernel_rfl) (fun _ _ _ h => h) (Or.inl ⟨by rfl, ?_⟩) ?_
  rotate_left
  · (intro wx hFx; (try dsimp only at hFx); have hc := hFx.1.cells; obtain ⟨ca, cb⟩ := hFx.2; clear hFx; obtain ⟨c0, c1, c2, c3, c4, c5, c6, c7, c8, c9⟩ := hc; go_simp) <;> (try with_reducible rfl)
  try simp only [Act.put, List.setIfInBounds_toArray, List.set_cons_zero, List.set_cons_succ, List.getElem_toArray, List.getElem_cons_zero, List.getElem_cons_succ]
  refine GT_take (i := 6) (v := ?_) rfl (by kernel_rfl) (fun _ _ _ h => h) (Or.inl ⟨by rfl, ?_⟩) ?_
  rotate_left
  · (intro wx hFx; (try dsimp only at hFx); have hc := hFx.1.cells; obtain ⟨ca, cb⟩ := hFx.2; clear hFx; obtain ⟨c0, c1, c2, c3, c4, c5, c6, c7, c8, c9⟩ := hc; go_simp) <;> (try with_reducible rfl)
  try simp only [Act.put, List.setIfInBounds_toArray, List.set_cons_zero, List.set_cons_succ, List.getElem_toArray, List.getElem_cons_zero, List.getElem_cons_succ]
  refine GT_take (i := 7) (v := ?_) rfl (by kernel_rfl) (fun _ _ _ h => h) (Or.inl ⟨by rfl, ?_⟩) ?_
  rotate_left
  · (intro wx hFx; (try dsimp only at hFx); have hc := hFx.1.cells; obtain ⟨ca, cb⟩ := hFx.2; clear hFx; obtain ⟨c0, c1, c2, c3, c4, c5, c6, c7, c8, c9⟩ := hc; go_simp) <;> (try with_reducible rfl)
  try simp only [Act.put, List.setIfInBounds_toArray, List.set_cons_zero, List.set_cons_succ, List.getElem_toArray, List.getElem_cons_zero, List.getElem_cons_succ]
  refine GT_take (i := 8) (v := ?_) rfl (by kernel_rfl) (fun _ _ _ h => h) (Or.inl ⟨by rfl, ?_⟩) ?_
  rotate_left
  · (intro wx hFx; (try dsimp only at hFx); have hc := hFx.1.cells; obtain ⟨ca, cb⟩ := hFx.2; clear hFx; obtain ⟨c0, c1, c2, c3, c4, c5, c6, c7, c8, c9⟩ := hc; go_simp) <;> (try with_reducible rfl)
  try simp only [Act.put, List.setIfInBounds_toArray, List.set_cons_zero, List.set_cons_succ, List.getElem_toArray, List.getElem_cons_zero, List.getElem_cons_succ]
  refine GT_take (i := 9) (v := ?_) rfl (by kernel_rfl) (fun _ _ _ h => h) (Or.inl ⟨by rfl, ?_⟩) ?_
  rotate_left
  · (intro wx hFx; (try dsimp only at hFx); have hc := hFx.1.cells; obtain ⟨ca, cb⟩ := hFx.2; clear hFx; obtain ⟨c0, c1, c2, c3, c4, c5, c6, c7, c8, c9⟩ := hc; go_simp) <;> (try with_reducible rfl)
  try simp only [Act.put, List.setIfInBounds_toArray, List.set_cons_zero, List.set_cons_succ, List.getElem_toArray, List.getElem_cons_zero, List.getElem_cons_succ]
  refine GT_take (i := 10) (v := ?_) rfl (by kernel_rfl) (fun _ _ _ h => h) (Or.inl ⟨by rfl, ?_⟩) ?_
  rotate_left
  · (intro wx hFx; (try dsimp only at hFx); have hc := hFx.1.cells; obtain ⟨ca, cb⟩ := hFx.2; clear hFx; obtain ⟨c0, c1, c2, c3, c4, c5, c6, c7, c8, c9⟩ := hc; go_simp) <;> (try with_reducible rfl)
  try simp only [Act.put, List.setIfInBounds_toArray, List.set_cons_zero, List.set_cons_succ, List.getElem_toArray, List.getElem_cons_zero, List.getElem_cons_succ]
  refine GT_take (i := 11) (v := ?_) rfl (by kernel_rfl) (fun _ _ _ h => h) (Or.inl ⟨by rfl, ?_⟩) ?_
  rotate_left
  · (intro wx hFx; (try dsimp only at hFx); have hc := hFx.1.cells; obtain ⟨ca, cb⟩ := hFx.2; clear hFx; obtain ⟨c0, c1, c2, c3, c4, c5, c6, c7, c8, c9⟩ := hc; go_simp) <;> (try with_reducible rfl)
  try simp only [Act.put, List.setIfInBounds_toArray, List.set_cons_zero, List.set_cons_succ, List.getElem_toArray, List.getElem_cons_zero, List.getElem_cons_succ]
  refine GT_take (i := 12) (v := ?_) rfl (by kernel_rfl) (fun _ _ _ h => h) (Or.inl ⟨by rfl, ?_⟩) ?_
  rotate_left
  · (intro wx hFx; (try dsimp only at hFx); have hc := hFx.1.cells; obtain ⟨ca, cb⟩ := hFx.2; clear hFx; obtain ⟨c0, c1, c2, c3, c4, c5, c6, c7, c8, c9⟩ := hc; go_simp) <;> (try with_reducible rfl)
  try simp only [Act.put, List.setIfInBounds_toArray, List.set_cons_zero, List.set_cons_succ, List.getElem_toArray, List.getElem_cons_zero, List.getElem_cons_succ]
  refine GT_take (i := 14) (v := ?_) rfl (by kernel_rfl) (fun _ _ _ h => h) (Or.inl ⟨by rfl, ?_⟩) ?_
  rotate_left
  · (intro wx hFx; (try dsimp only at hFx); have hc := hFx.1.cells; obtain ⟨ca, cb⟩ := hFx.2; clear hFx; obtain ⟨c0, c1, c2, c3, c4, c5, c6, c7, c8, c9⟩ := hc; go_simp) <;> (try with_reducible rfl)
  try simp only [Act.put, List.setIfInBounds_toArray, List.set_cons_zero, List.set_cons_succ, List.getElem_toArray, List.getElem_cons_zero, List.getElem_cons_succ]
  refine GT_take (i := 15) (v := ?_) rfl (by kernel_rfl) (fun _ _ _ h => h) (Or.inl ⟨by rfl, ?_⟩) ?_
  rotate_left
  · (intro wx hFx; (try dsimp only at hFx); have hc := hFx.1.cells; obtain ⟨ca, cb⟩ := hFx.2; clear hFx; obtain ⟨c0, c1, c2, c3, c4, c5, c6, c7, c8, c9⟩ := hc; go_simp) <;> (try with_reducible rfl)
  try simp only [Act.put, List.setIfInBounds_toArray, List.set_cons_zero, List.set_cons_succ, List.getElem_toArray, List.getElem_cons_zero, List.getElem_cons_succ]
  refine GT_take (i := 16) (v := ?_) rfl (by kernel_rfl) (fun _ _ _ h => h) (Or.inl ⟨by rfl, ?_⟩) ?_
  rotate_left
  · (intro wx hFx; (try dsimp only at hFx); have hc := hFx.1.cells; obtain ⟨ca, cb⟩ := hFx.2; clear hFx; obtain ⟨c0, c1, c2, c3, c4, c5, c6, c7, c8, c9⟩ := hc; go_simp) <;> (try with_reducible rfl)
  try simp only [Act.put, List.setIfInBounds_toArray, List.set_cons_zero, List.set_cons_succ, List.getElem_toArray, List.getElem_cons_zero, List.getElem_cons_succ]
  refine GT_take (i := 17) (v := ?_) rfl (by kernel_rfl) (fun _ _ _ h => h) (Or.inl ⟨by rfl, ?_⟩) ?_
  rotate_left
  · (intro wx hFx; (try dsimp only at hFx); have hc := hFx.1.cells; obtain ⟨ca, cb⟩ := hFx.2; clear hFx; obtain ⟨c0, c1, c2, c3, c4, c5, c6, c7, c8, c9⟩ := hc; go_simp) <;> (try with_reducible rfl)
  try simp only [Act.put, List.setIfInBounds_toArray, List.set_cons_zero, List.set_cons_succ, List.getElem_toArray, List.getElem_cons_zero, List.getElem_cons_succ]
  refine GT_take (i := 18) (v := ?_) rfl (by kernel_rfl) (fun _ _ _ h => h) (Or.inl ⟨by rfl, ?_⟩) ?_
  rotate_left
  · (intro wx hFx; (try dsimp only at hFx); have hc := hFx.1.cells; obtain ⟨ca, cb⟩ := hFx.2; clear hFx; obtain ⟨c0, c1, c2, c3, c4, c5, c6, c7, c8, c9⟩ := hc; go_simp) <;> (try with_reducible rfl)
  try simp only [Act.put, List.setIfInBounds_toArray, List.set_cons_zero, List.set_cons_succ, List.getElem_toArray, List.getElem_cons_zero, List.getElem_cons_succ]
  refine GT_one (i := 1) rfl (by kernel_rfl) (fun K hK => ?_)
  go_simp
  refine hK.out _ _ ?_ ?_
  · exact ⟨FX.mod (S := NoB) ((Mod.refl _ _).alloc _) (fun x => x), ((Mod.refl NoB X0).alloc _).cell (a := ⟨w.heap.size, 0, none⟩) (fun x => x) cX0, ((Mod.refl NoB X0).alloc _).cell (a := ⟨w.heap.size, 1, none⟩) (fun x => x) cX1⟩
  clear hK K
  try simp only [Act.put, List.setIfInBounds_toArray, List.set_cons_zero, List.set_cons_succ, List.getElem_toArray, List.getElem_cons_zero, List.getElem_cons_succ]
  refine GT_one (i := 2) rfl (by kernel_rfl) (fun K hK => ?_)
  refine step_append_is rfl _ _ _ _ rfl _ _ _ rfl rfl hr1 ?_
  refine hK.out _ _ F1 ?_
  clear hK K
  try simp only [Act.put, List.setIfInBounds_toArray, List.set_cons_zero, List.set_cons_succ, List.getElem_toArray, List.getElem_cons_zero, List.getElem_cons_succ]
  refine GT_one (i := 5) rfl (by kernel_rfl) (fun K hK => ?_)
  go_simp
  refine (varint_any v1 (l ++ ([2])) hi w1 A1.own (by omega) (by omega)).mono ?_
  rintro e w2 ⟨v2, rfl, ap⟩
  have A2 := A1.trans ap
  have F2 : FrameAt w2 b f (.slice (some ⟨g, o, none⟩) f.rngs.length cap) ∧ w2.cell? ⟨w.heap.size, 0, none⟩ = some (.int .u64 (lo : Int)) ∧ w2.cell? ⟨w.heap.size, 1, none⟩ = some (.int .u64 (hi : Int)) := ⟨FrameAt.app (w := X0) FX (h.mod0 mX) A2, A2.mod.cell (a := ⟨w.heap.size, 0, none⟩) hvB cX0, A2.mod.cell (a := ⟨w.heap.size, 1, none⟩) hvB cX1⟩
  have L2 : (l ++ ([2] ++ vint hi)).length ≤ 35184372088832 + 9 := by have := vint_length hi; simp at this L1 ⊢; omega
  refine hK.out _ _ F2 ?_
  clear ap
  clear hK K
  try simp only [Act.put, List.setIfInBounds_toArray, List.set_cons_zero, List.set_cons_succ, List.getElem_toArray, List.getElem_cons_zero, List.getElem_cons_succ]
  refine GT_one (i := 13) rfl (by kernel_rfl) (fun K hK => ?_)
  go_simp
  refine (varint_any v2 (l ++ ([2] ++ vint hi)) (f.rngs.length - 1) w2 A2.own (by omega) (by omega)).mono ?_
  rintro e w3 ⟨v3, rfl, ap⟩
  have A3 := A2.trans ap
  have F3 : FrameAt w3 b f (.slice (some ⟨g, o, none⟩) f.rngs.length cap) ∧ w3.cell? ⟨w.heap.size, 0, none⟩ = some (.int .u64 (lo : Int)) ∧ w3.cell? ⟨w.heap.size, 1, none⟩ = some (.int .u64 (hi : Int)) := ⟨FrameAt.app (w := X0) FX (h.mod0 mX) A3, A3.mod.cell (a := ⟨w.heap.size, 0, none⟩) hvB cX0, A3.mod.cell (a := ⟨w.heap.size, 1, none⟩) hvB cX1⟩
  have L3 : (l ++ ([2] ++ vint hi ++ vint (f.rngs.length - 1))).length ≤ 35184372088832 + 17 := by have := vint_length (f.rngs.length - 1); simp at this L2 ⊢; omega
  refine hK.out _ _ F3 ?_
  clear ap
  clear hK K
  try simp only [Act.put, List.setIfInBounds_toArray, List.set_cons_zero, List.set_cons_succ, List.getElem_toArray, List.getElem_cons_zero, List.getElem_cons_succ]
  refine GT_one (i := 19) rfl (by kernel_rfl) (fun K hK => ?_)
  go_simp
  refine (varint_any v3 (l ++ ([2] ++ vint hi ++ vint (f.rngs.length - 1))) (hi - lo) w3 A3.own (by omega) (by omega)).mono ?_
  rintro e w4 ⟨v4, rfl, ap⟩
  have A4 := A3.trans ap
  have F4 : FrameAt w4 b f (.slice (some ⟨g, o, none⟩) f.rngs.length cap) ∧ w4.cell? ⟨w.heap.size, 0, none⟩ = some (.int .u64 (lo : Int)) ∧ w4.cell? ⟨w.heap.size, 1, none⟩ = some (.int .u64 (hi : Int)) := ⟨FrameAt.app (w := X0) FX (h.mod0 mX) A4, A4.mod.cell (a := ⟨w.heap.size, 0, none⟩) hvB cX0, A4.mod.cell (a := ⟨w.heap.size, 1, none⟩) hvB cX1⟩
  have L4 : (l ++ ([2] ++ vint hi ++ vint (f.rngs.length - 1) ++ vint (hi - lo))).length ≤ 35184372088832 + 25 := by have := vint_length (hi - lo); simp at this L3 ⊢; omega
  refine hK.out _ _ F4 ?_
  clear ap
  clear hK K
  try simp only [Act.put, List.setIfInBounds_toArray, List.set_cons_zero, List.set_cons_succ, List.getElem_toArray, List.getElem_cons_zero, List.getElem_cons_succ]
  refine GT_take (i := 20) (v := ?_) rfl (by kernel_rfl) (fun _ _ _ h => h) (Or.inl ⟨by rfl, ?_⟩) ?_
  rotate_left
  · (intro wx hFx; (try dsimp only at hFx); have hc := hFx.1.cells; obtain ⟨ca, cb⟩ := hFx.2; clear hFx; obtain ⟨c0, c1, c2, c3, c4, c5, c6, c7, c8, c9⟩ := hc; go_simp) <;> (try with_reducible rfl)
  try simp only [Act.put, List.setIfInBounds_toArray, List.set_cons_zero, List.set_cons_succ, List.getElem_toArray, List.getElem_cons_zero, List.getElem_cons_succ]
  refine GT_done (by kernel_rfl) ?_
  have c9b := F4.1.cells.2.2.2.2.2.2.2.2.2
  have hX1 : RR X0 (.slice (some ⟨g, o, none⟩) f.rngs.length cap) f.rngs := hr.mod mX (OffS.no _)
  have HA4 := hide A4
  have HfX := hide FX
  have HvB := hide hvB
  obtain ⟨acc, hacc⟩ : ∃ acc, [2] ++ vint hi ++ vint (f.rngs.length - 1) ++ vint (hi - lo) = acc := ⟨_, rfl⟩
  rw [hacc] at HA4 HB
  have Lacc : (l ++ acc).length ≤ 35184372088832 + 25 := by rw [← hacc]; exact L4
  have HHX := hide hX
  have HHr := hide hX1
  clear F1 F2 F3 F4 A1 A2 A3 A4 L1 L2 L3 L4 hacc z1 z2 z3 hf hr h hX hX1 hr1 cX0 cX1 hB mX FX hvB k1 k2 b1 b2 e1 e2 c9
  have HFIN : Hid (∀ k vb wr, bwrite2 f = acc ++ ackB f.rngs k → App X0 v l (acc ++ ackB f.rngs k) vb wr → App w v l (bwrite2 f) vb wr) := by
    intro k vb wr hq hA
    rw [hq]
    exact ⟨hA.own, hA.old, ⟨hA.grown.os.trans HX.out.os, hA.grown.tape.trans HX.out.tape, hA.grown.output.trans HX.out.output, Nat.le_trans HX.out.size hA.grown.size, fun i hi hn => (hA.grown.block i (Nat.lt_of_lt_of_le hi HX.out.size) hn).trans (HX.out.block i hi (fun x => x))⟩, fun i hi => (hA.at_ i hi).imp id (fun q => Nat.le_trans HX.out.size q)⟩
  by_cases hn1 : f.rngs.length ≤ 1
  · have HF : Hid (bwrite2 f = acc ++ ackB f.rngs 0) := by
      have : f.rngs.length - 1 = 0 := by omega
      show _ = _
      rw [HB.out, this]
    have Hn := hide hn1
    have hn2 : (f.rngs.length : Int) - 1 ≤ 0 := by omega
    have hn3 : f.rngs.length - 1 ≤ 0 := by omega
    go_wp2_with fail
    all_goals
      refine wp_loop_rounds 1 ?_
      rw [rounds_succ]
      go_wp2_with fail
    all_goals
      go_ret
      exact ⟨_, rfl, HFIN.out 0 _ _ HF.out (by simpa [ackB] using HA4.out)⟩
  have hcap1 : 1 < cap := by omega
  have hcap2 : ¬ (1 = cap) := by omega
  have hcap3 : ¬ (cap = 1) := by omega
  go_wp2_with fail
  go_loopw [0, 40] (fun vb i wr => ∃ k : Nat, k ≤ f.rngs.length - 1 ∧ i = .int .i64 k ∧ App X0 v l (acc ++ ackB f.rngs k) vb wr) (fun _ i _ => f.rngs.length - 1 - (intOf i).toNat)
  case atStart => exact ⟨0, Nat.zero_le _, rfl, by simpa [ackB] using HA4.out⟩
  case round =>
    obtain ⟨k, hk, rfl, hA⟩ := hrel
    have hvo := ob_lt hA.own
    have HRR : RR wr (.slice (some ⟨g, o, none⟩) f.rngs.length cap) f.rngs := HHr.out.mod hA.mod hoff
    have HFR : FrameAt wr b f (.slice (some ⟨g, o, none⟩) f.rngs.length cap) := FrameAt.app HfX.out HHX.out hA
    have c9r := HFR.cells.2.2.2.2.2.2.2.2.2
    have hblr := lt_of_cell c9r
    obtain ⟨_, _, hvv, _, _, h3⟩ := HRR
    cases hvv
    by_cases hlt : k < f.rngs.length - 1
    · obtain ⟨g', o', hgo, e1, _, b1, _⟩ := h3 k (by omega)
      cases hgo
      obtain ⟨g', o', hgo, e3, e4, b3, b4⟩ := h3 (k + 1) (by omega)
      cases hgo
      obtain ⟨q1, q2, q3⟩ := HH.out (k + 1) (by omega)
      have q4 := q3 (by omega)
      obtain ⟨r1, r2, _⟩ := HH.out k (by omega)
      simp only [Nat.add_sub_cancel] at q4
      have hgl := lt_of_cell e1
      have hltn : k < f.rngs.length := by omega
      have HS : Hid (ackB f.rngs (k + 1) = (ackB f.rngs k ++ vint (loAt f.rngs k - hiAt f.rngs (k + 1) - 2)) ++ vint (hiAt f.rngs (k + 1) - loAt f.rngs (k + 1))) := rfl
      have HL := ackB_length f.rngs k
      obtain ⟨pl, hpl⟩ : ∃ x, loAt f.rngs k = x := ⟨_, rfl⟩
      obtain ⟨lo', hlo'⟩ : ∃ x, loAt f.rngs (k + 1) = x := ⟨_, rfl⟩
      obtain ⟨hi', hhi'⟩ : ∃ x, hiAt f.rngs (k + 1) = x := ⟨_, rfl⟩
      rw [hpl] at e1 b1 q4 HS r1
      have r3 := Nat.le_trans r1 r2
      clear r1 r2
      rw [hlo'] at e3 b3 q1 HS
      rw [hhi'] at e4 b4 q1 q2 q4 HS
      clear hpl hlo' hhi' q3 h3
      have p1 : o + (k + 1) * 2 = o + 2 + k * 2 := by omega
      rw [p1] at e3 e4
      have z1 : IntKind.u64.wrap ((pl : Int) - hi') = (pl : Int) - hi' := by rw [IntKind.wrap_u64]; omega
      have z2 : IntKind.u64.wrap ((pl : Int) - hi' - 2) = ((pl - hi' - 2 : Nat) : Int) := by rw [IntKind.wrap_u64]; omega
      have z3 : IntKind.u64.wrap ((hi' : Int) - lo') = ((hi' - lo' : Nat) : Int) := by rw [IntKind.wrap_u64]; omega
      have HAk := hide hA
      clear hA p1
      go_wp2_with fail
      obtain ⟨Y, hY⟩ : ∃ Y, (wr.alloc (.cells #[.int .u64 (lo' : Int), .int .u64 (hi' : Int)] 110)).drew = Y := ⟨_, rfl⟩
      have mX : Mod NoB wr Y := by rw [← hY]; exact ((Mod.refl _ _).alloc _).drew
      have AY : App X0 v l (acc ++ ackB f.rngs k) u0 Y := by rw [← hY]; exact (HAk.out.alloc _).drewR
      have hOX := AY.own
      have FX : FrameAt Y b f (.slice (some ⟨g, o, none⟩) f.rngs.length cap) := HFR.mod mX (fun x => x)
      have hB : Y.heap[wr.heap.size]? = some (.cells #[.int .u64 (lo' : Int), .int .u64 (hi' : Int)] 110 (0, 0)) := by rw [← hY]; exact heap_alloc_new wr _
      have cX0 : Y.cell? ⟨wr.heap.size, 0, none⟩ = some (.int .u64 (lo' : Int)) := cell_of_obj hB rfl
      have cX1 : Y.cell? ⟨wr.heap.size, 1, none⟩ = some (.int .u64 (hi' : Int)) := cell_of_obj hB rfl
      have eX : Y.cell? ⟨g, o + k * 2, none⟩ = some (.int .u64 (pl : Int)) := mX.cell (a := ⟨g, _, none⟩) (fun x => x) e1
      have hvR : ¬ u0.ownBlock = some wr.heap.size := fun hx => by have := hvo _ hx; omega
      have hvG : ¬ u0.ownBlock = some g := fun hx => by
        rcases HAk.out.at_ _ hx with h1 | h1
        · exact hoff g o _ _ rfl h1
        · exact absurd (lt_of_cell (HHr.out.cell0 (by omega))) (by omega)
      clear HFR c9r
      refine GT_start 21 (fun w' => FrameAt w' b f (.slice (some ⟨g, o, none⟩) f.rngs.length cap) ∧ w'.cell? ⟨wr.heap.size, 0, none⟩ = some (.int .u64 (lo' : Int)) ∧ w'.cell? ⟨wr.heap.size, 1, none⟩ = some (.int .u64 (hi' : Int)) ∧ w'.cell? ⟨g, o + k * 2, none⟩ = some (.int .u64 (pl : Int))) (by kernel_rfl) (by kernel_rfl) ?_ ?_
      · rw [hY]
        exact ⟨FX, cX0, cX1, eX⟩
      rw [hY]
      clear hY
      refine GT_take (i := 0) (v := ?_) rfl (by kernel_rfl) (fun _ _ _ h => h) (Or.inl ⟨by rfl, ?_⟩) ?_
      rotate_left
      · (intro wx hFx; (try dsimp only at hFx); have hc := hFx.1.cells; obtain ⟨ca, cb, cd⟩ := hFx.2; clear hFx; obtain ⟨c0, c1, c2, c3, c4, c5, c6, c7, c8, c9⟩ := hc; go_simp) <;> (try with_reducible rfl)
      try simp only [Act.put, List.setIfInBounds_toArray, List.set_cons_zero, List.set_cons_succ, List.getElem_toArray, List.getElem_cons_zero, List.getElem_cons_succ]
      refine GT_take (i := 1) (v := ?_) rfl (by kernel_rfl) (fun _ _ _ h => h) (Or.inl ⟨by rfl, ?_⟩) ?_
      rotate_left
      · (intro wx hFx; (try dsimp only at hFx); have hc := hFx.1.cells; obtain ⟨ca, cb, cd⟩ := hFx.2; clear hFx; obtain ⟨c0, c1, c2, c3, c4, c5, c6, c7, c8, c9⟩ := hc; go_simp) <;> (try with_reducible rfl)
      try simp only [Act.put, List.setIfInBounds_toArray, List.set_cons_zero, List.set_cons_succ, List.getElem_toArray, List.getElem_cons_zero, List.getElem_cons_succ]
      refine GT_take (i := 2) (v := ?_) rfl (by kernel_rfl) (fun _ _ _ h => h) (Or.inl ⟨by rfl, ?_⟩) ?_
      rotate_left
      · (intro wx hFx; (try dsimp only at hFx); have hc := hFx.1.cells; obtain ⟨ca, cb, cd⟩ := hFx.2; clear hFx; obtain ⟨c0, c1, c2, c3, c4, c5, c6, c7, c8, c9⟩ := hc; go_simp) <;> (try with_reducible rfl)
      try simp only [Act.put, List.setIfInBounds_toArray, List.set_cons_zero, List.set_cons_succ, List.getElem_toArray, List.getElem_cons_zero, List.getElem_cons_succ]
      refine GT_take (i := 3) (v := ?_) rfl (by kernel_rfl) (fun _ _ _ h => h) (Or.inl ⟨by rfl, ?_⟩) ?_
      rotate_left
      · (intro wx hFx; (try dsimp only at hFx); have hc := hFx.1.cells; obtain ⟨ca, cb, cd⟩ := hFx.2; clear hFx; obtain ⟨c0, c1, c2, c3, c4, c5, c6, c7, c8, c9⟩ := hc; go_simp) <;> (try with_reducible rfl)
      try simp only [Act.put, List.setIfInBounds_toArray, List.set_cons_zero, List.set_cons_succ, List.getElem_toArray, List.getElem_cons_zero, List.getElem_cons_succ]
      refine GT_take (i := 4) (v := ?_) rfl (by kernel_rfl) (fun _ _ _ h => h) (Or.inl ⟨by rfl, ?_⟩) ?_
      rotate_left
      · (intro wx hFx; (try dsimp only at hFx); have hc := hFx.1.cells; obtain ⟨ca, cb, cd⟩ := hFx.2; clear hFx; obtain ⟨c0, c1, c2, c3, c4, c5, c6, c7, c8, c9⟩ := hc; go_simp) <;> (try with_reducible rfl)
      try simp only [Act.put, List.setIfInBounds_toArray, List.set_cons_zero, List.set_cons_succ, List.getElem_toArray, List.getElem_cons_zero, List.getElem_cons_succ]
      refine GT_take (i := 5) (v := ?_) rfl (by kernel_rfl) (fun _ _ _ h => h) (Or.inl ⟨by rfl, ?_⟩) ?_
      rotate_left
      · (intro wx hFx; (try dsimp only at hFx); have hc := hFx.1.cells; obtain ⟨ca, cb, cd⟩ := hFx.2; clear hFx; obtain ⟨c0, c1, c2, c3, c4, c5, c6, c7, c8, c9⟩ := hc; go_simp) <;> (try with_reducible rfl)
      try simp only [Act.put, List.setIfInBounds_toArray, List.set_cons_zero, List.set_cons_succ, List.getElem_toArray, List.getElem_cons_zero, List.getElem_cons_succ]
      refine GT_take (i := 6) (v := ?_) rfl (by kernel_rfl) (fun _ _ _ h => h) (Or.inl ⟨by rfl, ?_⟩) ?_
      rotate_left
      · (intro wx hFx; (try dsimp only at hFx); have hc := hFx.1.cells; obtain ⟨ca, cb, cd⟩ := hFx.2; clear hFx; obtain ⟨c0, c1, c2, c3, c4, c5, c6, c7, c8, c9⟩ := hc; go_simp) <;> (try with_reducible rfl)
      try simp only [Act.put, List.setIfInBounds_toArray, List.set_cons_zero, List.set_cons_succ, List.getElem_toArray, List.getElem_cons_zero, List.getElem_cons_succ]
      refine GT_take (i := 7) (v := ?_) rfl (by kernel_rfl) (fun _ _ _ h => h) (Or.inl ⟨by rfl, ?_⟩) ?_
      rotate_left
      · (intro wx hFx; (try dsimp only at hFx); have hc := hFx.1.cells; obtain ⟨ca, cb, cd⟩ := hFx.2; clear hFx; obtain ⟨c0, c1, c2, c3, c4, c5, c6, c7, c8, c9⟩ := hc; go_simp) <;> (try with_reducible rfl)
      try simp only [Act.put, List.setIfInBounds_toArray, List.set_cons_zero, List.set_cons_succ, List.getElem_toArray, List.getElem_cons_zero, List.getElem_cons_succ]
      refine GT_take (i := 8) (v := ?_) rfl (by kernel_rfl) (fun _ _ _ h => h) (Or.inl ⟨by rfl, ?_⟩) ?_
      rotate_left
      · (intro wx hFx; (try dsimp only at hFx); have hc := hFx.1.cells; obtain ⟨ca, cb, cd⟩ := hFx.2; clear hFx; obtain ⟨c0, c1, c2, c3, c4, c5, c6, c7, c8, c9⟩ := hc; go_simp) <;> (try with_reducible rfl)
      try simp only [Act.put, List.setIfInBounds_toArray, List.set_cons_zero, List.set_cons_succ, List.getElem_toArray, List.getElem_cons_zero, List.getElem_cons_succ]
      refine GT_take (i := 9) (v := ?_) rfl (by kernel_rfl) (fun _ _ _ h => h) (Or.inl ⟨by rfl, ?_⟩) ?_
      rotate_left
      · (intro wx hFx; (try dsimp only at hFx); have hc := hFx.1.cells; obtain ⟨ca, cb, cd⟩ := hFx.2; clear hFx; obtain ⟨c0, c1, c2, c3, c4, c5, c6, c7, c8, c9⟩ := hc; go_simp) <;> (try with_reducible rfl)
      try simp only [Act.put, List.setIfInBounds_toArray, List.set_cons_zero, List.set_cons_succ, List.getElem_toArray, List.getElem_cons_zero, List.getElem_cons_succ]
      refine GT_take (i := 10) (v := ?_) rfl (by kernel_rfl) (fun _ _ _ h => h) (Or.inl ⟨by rfl, ?_⟩) ?_
      rotate_left
      · (intro wx hFx; (try dsimp only at hFx); have hc := hFx.1.cells; obtain ⟨ca, cb, cd⟩ := hFx.2; clear hFx; obtain ⟨c0, c1, c2, c3, c4, c5, c6, c7, c8, c9⟩ := hc; go_simp) <;> (try with_reducible rfl)
      try simp only [Act.put, List.setIfInBounds_toArray, List.set_cons_zero, List.set_cons_succ, List.getElem_toArray, List.getElem_cons_zero, List.getElem_cons_succ]
      refine GT_take (i := 11) (v := ?_) rfl (by kernel_rfl) (fun _ _ _ h => h) (Or.inl ⟨by rfl, ?_⟩) ?_
      rotate_left
      · (intro wx hFx; (try dsimp only at hFx); have hc := hFx.1.cells; obtain ⟨ca, cb, cd⟩ := hFx.2; clear hFx; obtain ⟨c0, c1, c2, c3, c4, c5, c6, c7, c8, c9⟩ := hc; go_simp) <;> (try with_reducible rfl)
      try simp only [Act.put, List.setIfInBounds_toArray, List.set_cons_zero, List.set_cons_succ, List.getElem_toArray, List.getElem_cons_zero, List.getElem_cons_succ]
      refine GT_take (i := 12) (v := ?_) rfl (by kernel_rfl) (fun _ _ _ h => h) (Or.inl ⟨by rfl, ?_⟩) ?_
      rotate_left
      · (intro wx hFx; (try dsimp only at hFx); have hc := hFx.1.cells; obtain ⟨ca, cb, cd⟩ := hFx.2; clear hFx; obtain ⟨c0, c1, c2, c3, c4, c5, c6, c7, c8, c9⟩ := hc; go_simp) <;> (try with_reducible rfl)
      try simp only [Act.put, List.setIfInBounds_toArray, List.set_cons_zero, List.set_cons_succ, List.getElem_toArray, List.getElem_cons_zero, List.getElem_cons_succ]
      refine GT_take (i := 14) (v := ?_) rfl (by kernel_rfl) (fun _ _ _ h => h) (Or.inl ⟨by rfl, ?_⟩) ?_
      rotate_left
      · (intro wx hFx; (try dsimp only at hFx); have hc := hFx.1.cells; obtain ⟨ca, cb, cd⟩ := hFx.2; clear hFx; obtain ⟨c0, c1, c2, c3, c4, c5, c6, c7, c8, c9⟩ := hc; go_simp) <;> (try with_reducible rfl)
      try simp only [Act.put, List.setIfInBounds_toArray, List.set_cons_zero, List.set_cons_succ, List.getElem_toArray, List.getElem_cons_zero, List.getElem_cons_succ]
      refine GT_take (i := 15) (v := ?_) rfl (by kernel_rfl) (fun _ _ _ h => h) (Or.inl ⟨by rfl, ?_⟩) ?_
      rotate_left
      · (intro wx hFx; (try dsimp only at hFx); have hc := hFx.1.cells; obtain ⟨ca, cb, cd⟩ := hFx.2; clear hFx; obtain ⟨c0, c1, c2, c3, c4, c5, c6, c7, c8, c9⟩ := hc; go_simp) <;> (try with_reducible rfl)
      try simp only [Act.put, List.setIfInBounds_toArray, List.set_cons_zero, List.set_cons_succ, List.getElem_toArray, List.getElem_cons_zero, List.getElem_cons_succ]
      refine GT_take (i := 16) (v := ?_) rfl (by kernel_rfl) (fun _ _ _ h => h) (Or.inl ⟨by rfl, ?_⟩) ?_
      rotate_left
      · (intro wx hFx; (try dsimp only at hFx); have hc := hFx.1.cells; obtain ⟨ca, cb, cd⟩ := hFx.2; clear hFx; obtain ⟨c0, c1, c2, c3, c4, c5, c6, c7, c8, c9⟩ := hc; go_simp) <;> (try with_reducible rfl)
      try simp only [Act.put, List.setIfInBounds_toArray, List.set_cons_zero, List.set_cons_succ, List.getElem_toArray, List.getElem_cons_zero, List.getElem_cons_succ]
      refine GT_take (i := 17) (v := ?_) rfl (by kernel_rfl) (fun _ _ _ h => h) (Or.inl ⟨by rfl, ?_⟩) ?_
      rotate_left
      · (intro wx hFx; (try dsimp only at hFx); have hc := hFx.1.cells; obtain ⟨ca, cb, cd⟩ := hFx.2; clear hFx; obtain ⟨c0, c1, c2, c3, c4, c5, c6, c7, c8, c9⟩ := hc; go_simp) <;> (try with_reducible rfl)
      try simp only [Act.put, List.setIfInBounds_toArray, List.set_cons_zero, List.set_cons_succ, List.getElem_toArray, List.getElem_cons_zero, List.getElem_cons_succ]
      refine GT_take (i := 18) (v := ?_) rfl (by kernel_rfl) (fun _ _ _ h => h) (Or.inl ⟨by rfl, ?_⟩) ?_
      rotate_left
      · (intro wx hFx; (try dsimp only at hFx); have hc := hFx.1.cells; obtain ⟨ca, cb, cd⟩ := hFx.2; clear hFx; obtain ⟨c0, c1, c2, c3, c4, c5, c6, c7, c8, c9⟩ := hc; go_simp) <;> (try with_reducible rfl)
      try simp only [Act.put, List.setIfInBounds_toArray, List.set_cons_zero, List.set_cons_succ, List.getElem_toArray, List.getElem_cons_zero, List.getElem_cons_succ]
      refine GT_one (i := 13) rfl (by kernel_rfl) (fun K hK => ?_)
      go_simp
      refine (varint_any u0 (l ++ (acc ++ ackB f.rngs k)) (pl - hi' - 2) Y hOX (by simp at Lacc ⊢; omega) (by omega)).mono ?_
      rintro e y1 ⟨x1, rfl, ap1⟩
      have G1 : FrameAt y1 b f (.slice (some ⟨g, o, none⟩) f.rngs.length cap) ∧ y1.cell? ⟨wr.heap.size, 0, none⟩ = some (.int .u64 (lo' : Int)) ∧ y1.cell? ⟨wr.heap.size, 1, none⟩ = some (.int .u64 (hi' : Int)) ∧ y1.cell? ⟨g, o + k * 2, none⟩ = some (.int .u64 (pl : Int)) := ⟨FrameAt.app FX (hOX) ap1, ap1.mod.cell (a := ⟨wr.heap.size, 0, none⟩) hvR cX0, ap1.mod.cell (a := ⟨wr.heap.size, 1, none⟩) hvR cX1, ap1.mod.cell (a := ⟨g, _, none⟩) hvG eX⟩
      have B1 := AY.trans ap1
      have hl1 := vint_length (pl - hi' - 2)
      refine hK.out _ _ G1 ?_
      clear hK K
      try simp only [Act.put, List.setIfInBounds_toArray, List.set_cons_zero, List.set_cons_succ, List.getElem_toArray, List.getElem_cons_zero, List.getElem_cons_succ]
      refine GT_one (i := 19) rfl (by kernel_rfl) (fun K hK => ?_)
      go_simp
      refine (varint_any x1 (l ++ (acc ++ ackB f.rngs k ++ vint (pl - hi' - 2))) (hi' - lo') y1 B1.own (by simp at Lacc ⊢; omega) (by omega)).mono ?_
      rintro e y2 ⟨x2, rfl, ap2⟩
      have B2 := B1.trans ap2
      have ap12 := ap1.trans (by rw [List.append_assoc]; exact ap2)
      have G2 : FrameAt y2 b f (.slice (some ⟨g, o, none⟩) f.rngs.length cap) ∧ y2.cell? ⟨wr.heap.size, 0, none⟩ = some (.int .u64 (lo' : Int)) ∧ y2.cell? ⟨wr.heap.size, 1, none⟩ = some (.int .u64 (hi' : Int)) ∧ y2.cell? ⟨g, o + k * 2, none⟩ = some (.int .u64 (pl : Int)) := ⟨FrameAt.app FX (hOX) ap12, ap12.mod.cell (a := ⟨wr.heap.size, 0, none⟩) hvR cX0, ap12.mod.cell (a := ⟨wr.heap.size, 1, none⟩) hvR cX1, ap12.mod.cell (a := ⟨g, _, none⟩) hvG eX⟩
      refine hK.out _ _ G2 ?_
      clear hK K
      try simp only [Act.put, List.setIfInBounds_toArray, List.set_cons_zero, List.set_cons_succ, List.getElem_toArray, List.getElem_cons_zero, List.getElem_cons_succ]
      refine GT_take (i := 20) (v := ?_) rfl (by kernel_rfl) (fun _ _ _ h => h) (Or.inl ⟨by rfl, ?_⟩) ?_
      rotate_left
      · (intro wx hFx; (try dsimp only at hFx); have hc := hFx.1.cells; obtain ⟨ca, cb, cd⟩ := hFx.2; clear hFx; obtain ⟨c0, c1, c2, c3, c4, c5, c6, c7, c8, c9⟩ := hc; go_simp) <;> (try with_reducible rfl)
      try simp only [Act.put, List.setIfInBounds_toArray, List.set_cons_zero, List.set_cons_succ, List.getElem_toArray, List.getElem_cons_zero, List.getElem_cons_succ]
      refine GT_done (by kernel_rfl) ?_
      go_wp2_with fail
      go_roundw
      case rel => exact ⟨k + 1, by omega, by go_num, by rw [HS.out, ← List.append_assoc, ← List.append_assoc]; exact B2⟩
      case measure => simp [intOf]; omega
    · have hkn : k = f.rngs.length - 1 := by omega
      have HF : Hid (bwrite2 f = acc ++ ackB f.rngs k) := by rw [hkn]; exact HB.out
      have HAk := hide hA
      clear hA hkn
      go_wp2_with fail
      go_ret
      exact ⟨_, rfl, HFIN.out k _ _ HF.out HAk.out⟩
end Go.Proofs.YtddfdpbaiedcjabGreatDoor
/- wire.of, wire.sound, wire.Append: the codec of a kind. -/
namespace Go.Proofs.YtddfdpbaiedcjabGreatDoor
open Go.RowKit

def Goes (F : FuncId) : Prop := ∀ args w, (callFunc F args).run Tryz.prog w = .ok (.enter F args) w

/-- A codec lies there: how it writes, reads, is sound. -/
def CodecAt (w : World) (b : Nat) (wv rv sv : Value) : Prop := w.cell? ⟨b, 0, none⟩ = some wv ∧ w.cell? ⟨b, 1, none⟩ = some rv ∧ w.cell? ⟨b, 2, none⟩ = some sv

theorem CodecAt.mod {S : Nat → Prop} {w w' : World} {b : Nat} {wv rv sv : Value} (h : CodecAt w b wv rv sv) (m : Mod S w w') (hs : ¬ S b) : CodecAt w' b wv rv sv :=
  ⟨m.cell (a := ⟨b, 0, none⟩) hs h.1, m.cell (a := ⟨b, 1, none⟩) hs h.2.1, m.cell (a := ⟨b, 2, none⟩) hs h.2.2⟩

def fnv (F : FuncId) : Value := .func (.func F) #[] #[]

/-- It answers with a codec. -/
def IsCodec (w : World) (wv rv sv : Value) (e : Ending) (w' : World) : Prop := ∃ b, e = .returned (.pointer (some ⟨b, 0, none⟩)) ∧ CodecAt w' b wv rv sv ∧ Mod NoB w w' ∧ w.heap.size ≤ b
/-- It answers with the codec of one number. -/
def IsNum (w : World) (t : UInt8) (e : Ending) (w' : World) : Prop := ∃ b tb ab, e = .returned (.pointer (some ⟨b, 0, none⟩)) ∧ CodecAt w' b (.func (.func 191) #[] #[.pointer (some ⟨tb, 0, none⟩), .pointer (some ⟨ab, 0, none⟩)]) (.func (.func 192) #[] #[.pointer (some ⟨ab, 0, none⟩)]) (fnv 170) ∧ CapAt w' tb ab t ∧ Mod NoB w w' ∧ w.heap.size ≤ b ∧ w.heap.size ≤ tb ∧ w.heap.size ≤ ab

theorem number_any (t : UInt8) (w : World) : Calls Tryz.prog 183 #[.int .u8 (t.toNat : Int), .func (.func 184) #[] #[]] w fun e w' => e = .returned (.agg #[.func (.func 191) #[] #[.pointer (some ⟨w.heap.size, 0, none⟩), .pointer (some ⟨w.heap.size + 1, 0, none⟩)], .func (.func 192) #[] #[.pointer (some ⟨w.heap.size + 1, 0, none⟩)], .func (.func 170) #[] #[]]) ∧
    w' = ((w.alloc (.cells #[.int .u8 (t.toNat : Int)] 5)).alloc (.cells #[.func (.func 184) #[] #[]] 277)).alloc (.cells #[.func (.func 191) #[] #[.pointer (some ⟨w.heap.size, 0, none⟩), .pointer (some ⟨w.heap.size + 1, 0, none⟩)], .func (.func 192) #[] #[.pointer (some ⟨w.heap.size + 1, 0, none⟩)], .func (.func 170) #[] #[]] 241) := by
  go_enter Tryz.func183, Tryz.ntmps183
  go_wp2_with fail
  exact bodyPost_ret (by simp [results, Tryz.results183, go_sem]) rfl ⟨rfl, rfl⟩

theorem of_1 (w : World) : Calls Tryz.prog 149 #[.int .i64 1] w (IsCodec w (fnv 168) (fnv 169) (fnv 170)) := by
  go_enter Tryz.func149, Tryz.ntmps149
  go_wp2_with fail
  go_ret
  exact ⟨w.heap.size, rfl, ⟨by simp [fnv], by simp [fnv], by simp [fnv]⟩, (Mod.refl _ _).alloc _, Nat.le_refl _⟩

theorem of_2 (w : World) : Calls Tryz.prog 149 #[.int .i64 2] w (IsCodec w (fnv 171) (fnv 172) (fnv 173)) := by
  go_enter Tryz.func149, Tryz.ntmps149
  go_wp2_with fail
  go_ret
  exact ⟨w.heap.size, rfl, ⟨by simp [fnv], by simp [fnv], by simp [fnv]⟩, (Mod.refl _ _).alloc _, Nat.le_refl _⟩

theorem of_3 (w : World) : Calls Tryz.prog 149 #[.int .i64 3] w (IsCodec w (fnv 174) (fnv 175) (fnv 177)) := by
  go_enter Tryz.func149, Tryz.ntmps149
  go_wp2_with fail
  go_ret
  exact ⟨w.heap.size, rfl, ⟨by simp [fnv], by simp [fnv], by simp [fnv]⟩, (Mod.refl _ _).alloc _, Nat.le_refl _⟩

theorem of_4 (w : World) : Calls Tryz.prog 149 #[.int .i64 4] w (IsCodec w (fnv 178) (fnv 180) (fnv 182)) := by
  go_enter Tryz.func149, Tryz.ntmps149
  go_wp2_with fail
  go_ret
  exact ⟨w.heap.size, rfl, ⟨by simp [fnv], by simp [fnv], by simp [fnv]⟩, (Mod.refl _ _).alloc _, Nat.le_refl _⟩

theorem of_6 (w : World) : Calls Tryz.prog 149 #[.int .i64 6] w (IsCodec w (fnv 185) (fnv 186) (fnv 170)) := by
  go_enter Tryz.func149, Tryz.ntmps149
  go_wp2_with fail
  go_ret
  exact ⟨w.heap.size, rfl, ⟨by simp [fnv], by simp [fnv], by simp [fnv]⟩, (Mod.refl _ _).alloc _, Nat.le_refl _⟩

theorem of_7 (w : World) : Calls Tryz.prog 149 #[.int .i64 7] w (IsCodec w (fnv 187) (fnv 188) (fnv 170)) := by
  go_enter Tryz.func149, Tryz.ntmps149
  go_wp2_with fail
  go_ret
  exact ⟨w.heap.size, rfl, ⟨by simp [fnv], by simp [fnv], by simp [fnv]⟩, (Mod.refl _ _).alloc _, Nat.le_refl _⟩

theorem num_caps (w : World) (o o' : Obj) (t : UInt8) (z : Int) (T T' : Nat) (hz : z = (t.toNat : Int)) : CapAt ((((w.alloc o).alloc (.cells #[.int .u8 z] T)).alloc (.cells #[.func (.func 184) #[] #[]] T')).alloc o') (w.heap.size + 1) (w.heap.size + 1 + 1) t := by
  subst hz
  have e1 : (w.alloc o).heap.size = w.heap.size + 1 := by simp
  have e2 : ((w.alloc o).alloc (.cells #[.int .u8 (t.toNat : Int)] T)).heap.size = w.heap.size + 1 + 1 := by simp
  have c1 : ((w.alloc o).alloc (.cells #[.int .u8 (t.toNat : Int)] T)).cell? ⟨w.heap.size + 1, 0, none⟩ = some (.int .u8 (t.toNat : Int)) := by rw [← e1]; exact cell_of_obj (heap_alloc_new _ _) rfl
  have c2 : (((w.alloc o).alloc (.cells #[.int .u8 (t.toNat : Int)] T)).alloc (.cells #[.func (.func 184) #[] #[]] T')).cell? ⟨w.heap.size + 1 + 1, 0, none⟩ = some (.func (.func 184) #[] #[]) := by rw [← e2]; exact cell_of_obj (heap_alloc_new _ _) rfl
  exact ⟨(((Mod.refl NoB _).alloc _).alloc _).cell (a := ⟨_, 0, none⟩) (fun x => x) c1, ((Mod.refl NoB _).alloc _).cell (a := ⟨_, 0, none⟩) (fun x => x) c2⟩

theorem of_5 (w : World) : Calls Tryz.prog 149 #[.int .i64 5] w (IsNum w 16) := by
  go_enter Tryz.func149, Tryz.ntmps149
  go_wp2_with (go_at_call 183; refine (number_any 16 _).mono ?_; rintro e w' ⟨rfl, rfl⟩)
  go_ret
  refine ⟨w.heap.size, w.heap.size + 1, w.heap.size + 1 + 1, rfl, ?_, ?_, ?_, Nat.le_refl _, by omega, by omega⟩
  · have h0 : ∀ (a b c : Value), CodecAt (w.alloc (.cells #[a, b, c] 241)) w.heap.size a b c := fun a b c => ⟨cell_of_obj (heap_alloc_new w _) rfl, cell_of_obj (heap_alloc_new w _) rfl, cell_of_obj (heap_alloc_new w _) rfl⟩
    exact (h0 _ _ _).mod ((((Mod.refl NoB _).alloc _).alloc _).alloc _) (fun x => x)
  · exact num_caps w _ _ _ _ _ _ rfl
  · exact ((((Mod.refl _ _).alloc _).alloc _).alloc _).alloc _

theorem of_8 (w : World) : Calls Tryz.prog 149 #[.int .i64 8] w (IsNum w 28) := by
  go_enter Tryz.func149, Tryz.ntmps149
  go_wp2_with (go_at_call 183; refine (number_any 28 _).mono ?_; rintro e w' ⟨rfl, rfl⟩)
  go_ret
  refine ⟨w.heap.size, w.heap.size + 1, w.heap.size + 1 + 1, rfl, ?_, ?_, ?_, Nat.le_refl _, by omega, by omega⟩
  · have h0 : ∀ (a b c : Value), CodecAt (w.alloc (.cells #[a, b, c] 241)) w.heap.size a b c := fun a b c => ⟨cell_of_obj (heap_alloc_new w _) rfl, cell_of_obj (heap_alloc_new w _) rfl, cell_of_obj (heap_alloc_new w _) rfl⟩
    exact (h0 _ _ _).mod ((((Mod.refl NoB _).alloc _).alloc _).alloc _) (fun x => x)
  · exact num_caps w _ _ _ _ _ _ rfl
  · exact ((((Mod.refl _ _).alloc _).alloc _).alloc _).alloc _

theorem of_no (k : Int) (hk : k < 1 ∨ 8 < k) (w : World) : Calls Tryz.prog 149 #[.int .i64 k] w fun e w' => e = .returned (.pointer none) ∧ Mod NoB w w' := by
  have d1 : (k == 1) = false := by simp; omega
  have d2 : (k == 2) = false := by simp; omega
  have d3 : (k == 3) = false := by simp; omega
  have d4 : (k == 4) = false := by simp; omega
  have d5 : (k == 5) = false := by simp; omega
  have d6 : (k == 6) = false := by simp; omega
  have d7 : (k == 7) = false := by simp; omega
  have d8 : (k == 8) = false := by simp; omega
  go_enter Tryz.func149, Tryz.ntmps149
  go_wp2_with fail
  go_ret
  exact ⟨rfl, (Mod.refl _ _).alloc _⟩
end Go.Proofs.YtddfdpbaiedcjabGreatDoor
