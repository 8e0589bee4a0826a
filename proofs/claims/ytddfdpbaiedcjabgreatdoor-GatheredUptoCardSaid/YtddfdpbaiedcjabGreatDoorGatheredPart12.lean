/- The statement Gathered, second form, its card: where what the law reads is of bulk at most 1048576, and the two listed variables read as listed, it returns true, and its argument reads behind the call as before. Part 12 of 23. -/
import Derived.Test.YtddfdpbaiedcjabGreatDoorGatheredPart11
import Derived.Test.YtddfdpbaiedcjabGreatDoorGatheredPart2
import Derived.Test.YtddfdpbaiedcjabGreatDoorGatheredPart7
import Derived.Test.YtddfdpbaiedcjabGreatDoorGatheredPart10
import Derived.Defers
import Derived.Recover
import Derived.Tactics2
import Derived.Laws.Pointers
/- mediawirelaw.early, mediawirelaw.small. -/
namespace Go.Proofs.YtddfdpbaiedcjabGreatDoor
open Go.RowKit

def earlyK (k : Int) : Bool := !(k == 3 || k == 7 || k == 8)
def earlyF (l : List Frm) : Bool := l.all fun f => earlyK f.kind
def earlyTo (fs : List (Frm × Value)) (k : Nat) : Bool := (fs.take k).all fun fr => earlyK fr.1.kind

theorem earlyTo_succ (fs : List (Frm × Value)) (k : Nat) (fr : Frm × Value) (h : fs[k]? = some fr) : earlyTo fs (k + 1) = (earlyTo fs k && earlyK fr.1.kind) := by
  unfold earlyTo
  rw [List.take_add_one, h]
  simp

theorem earlyF_to (fs : List (Frm × Value)) : earlyF (fs.map (·.1)) = earlyTo fs fs.length := by
  unfold earlyF earlyTo
  rw [List.take_length, List.all_map]
  rfl

theorem earlyF_false (fs : List (Frm × Value)) (k : Nat) (fr : Frm × Value) (h : fs[k]? = some fr) (hk : earlyK fr.1.kind = false) : earlyF (fs.map (·.1)) = false := by
  unfold earlyF
  cases hq : (fs.map (·.1)).all fun f => earlyK f.kind
  · rfl
  · rw [List.all_eq_true] at hq
    have := hq fr.1 (List.mem_map_of_mem (List.mem_of_getElem? h))
    rw [hk] at this
    cases this

set_option maxRecDepth 100000 in
set_option maxHeartbeats 1000000 in
theorem early_any (n : Nat) (fs : List (Frm × Value)) (v : Value) (w : World) (h : FrsAt w v fs) : Calls Tryz.prog 7 #[.agg #[.int .u64 (n : Int), v]] w (Says w (earlyF (fs.map (·.1)))) := by
  obtain ⟨a, cap, rfl, h1, h2, h3⟩ := id h
  unfold maxLen at h2
  have H := hide h
  obtain ⟨W0, hW0⟩ : ∃ W0, w.alloc (.cells #[.int .u64 (n : Int), .slice a fs.length cap] 37) = W0 := ⟨_, rfl⟩
  have m0 : Mod NoB w W0 := by rw [← hW0]; exact (Mod.refl _ _).alloc _
  have c1 : W0.cell? ⟨w.heap.size, 1, none⟩ = some (.slice a fs.length cap) := by rw [← hW0]; exact cell_of_obj (heap_alloc_new w _) rfl
  have HM0 := hide m0
  have Hc1 := hide c1
  have HW0 := hide hW0
  obtain ⟨E, hE⟩ : ∃ E, earlyF (fs.map (·.1)) = E := ⟨_, rfl⟩
  have HE := hide hE
  rw [hE]
  clear m0 c1 hW0 h3 h hE
  go_enter Tryz.func7, Tryz.ntmps7
  go_wp2_with fail
  rw [HW0.out]
  go_loopw [3] (fun i wr => ∃ k : Nat, k ≤ fs.length ∧ i = .int .i64 k ∧ Mod NoB W0 wr ∧ Hid (earlyTo fs k = true)) (fun i _ => fs.length - (intOf i).toNat)
  case atStart => exact ⟨0, Nat.zero_le _, rfl, Mod.refl _ _, hide rfl⟩
  case round =>
    obtain ⟨k, hk, rfl, m, he⟩ := hrel
    have M := hide m
    have p1 := m.cell (a := ⟨w.heap.size, 1, none⟩) (fun x => x) Hc1.out
    by_cases hlt : k < fs.length
    · obtain ⟨fr, hfr⟩ : ∃ fr, fs[k]? = some fr := ⟨fs[k], List.getElem?_eq_getElem hlt⟩
      have HFS : FrsAt wr (.slice a fs.length cap) fs := (H.out.mod0 HM0.out).mod0 m
      obtain ⟨a', cap', hv', _, _, h3⟩ := HFS
      cases hv'
      obtain ⟨⟨g, o, rfl, hc⟩, _⟩ := h3 k fr hfr
      obtain ⟨hc0, _⟩ := fr_cells hc
      have HS := hide (earlyTo_succ fs k fr hfr)
      have HF := hide (earlyF_false fs k fr hfr)
      obtain ⟨z, hz⟩ : ∃ z, fr.1.kind = z := ⟨_, rfl⟩
      rw [hz] at hc0 HS HF
      clear hz hc h3 m hfr
      by_cases e3 : z = 3
      · subst e3
        have HO := hide (HF.out rfl)
        go_wp2_with fail
        go_ret
        refine ⟨?_, HM0.out.trans M.out⟩
        rw [← HE.out, HO.out]
        rfl
      by_cases e7 : z = 7
      · subst e7
        have HO := hide (HF.out rfl)
        go_wp2_with fail
        go_ret
        refine ⟨?_, HM0.out.trans M.out⟩
        rw [← HE.out, HO.out]
        rfl
      by_cases e8 : z = 8
      · subst e8
        have HO := hide (HF.out rfl)
        go_wp2_with fail
        go_ret
        refine ⟨?_, HM0.out.trans M.out⟩
        rw [← HE.out, HO.out]
        rfl
      have b3 : (z == 3) = false := beq_eq_false_iff_ne.2 e3
      have b7 : (z == 7) = false := beq_eq_false_iff_ne.2 e7
      have b8 : (z == 8) = false := beq_eq_false_iff_ne.2 e8
      have HO : Hid (earlyTo fs (k + 1) = true) := by
        show _ = _
        rw [HS.out, he.out, earlyK, b3, b7, b8]
        rfl
      clear e3 e7 e8
      go_wp2_with fail
      go_roundw
      case rel => exact ⟨k + 1, by omega, by go_num, M.out, HO⟩
      case measure => simp [intOf]; omega
    · have hkn : k = fs.length := by omega
      have HO : Hid (E = true) := by
        show _ = _
        rw [← HE.out, earlyF_to, ← hkn]
        exact he.out
      clear m hkn
      go_wp2_with fail
      go_ret
      refine ⟨?_, HM0.out.trans M.out⟩
      rw [HO.out]
      rfl

/-- It answers. -/
def SaysAny (w : World) (e : Ending) (w' : World) : Prop := ∃ b, Says w b e w'

set_option maxRecDepth 100000 in
set_option maxHeartbeats 1000000 in
theorem small_any (l : List Stp) (v : Value) (w : World) (h : ScrAt w v l) (hb : bulkS l ≤ 1048576) : Calls Tryz.prog 6 #[v] w (SaysAny w) := by
  obtain ⟨a, cap, rfl, h1, h2, h3⟩ := id h
  unfold maxLen at h2
  have H := hide h
  have HB := hide (bulkS_le l)
  have HBB := hide hb
  have hll : l.length ≤ 1048576 := by have := (bulkS_le l).1; omega
  clear h h3 hb
  go_enter Tryz.func6, Tryz.ntmps6
  go_wp2_with fail
  go_loopw [3, 4] (fun nv i wr => ∃ k : Nat, ∃ n : Int, k ≤ l.length ∧ nv = .int .i64 n ∧ 0 ≤ n ∧ n ≤ 4194304 ∧ i = .int .i64 k ∧ Mod NoB w wr) (fun _ i _ => l.length - (intOf i).toNat)
  case atStart => exact ⟨0, l.length, Nat.zero_le _, rfl, by omega, by omega, rfl, Mod.refl _ _⟩
  case round =>
    obtain ⟨k, n, hk, rfl, hn0, hn1, rfl, m⟩ := hrel
    have M := hide m
    by_cases hn : n ≤ 65536
    · by_cases hlt : k < l.length
      · obtain ⟨o, ho⟩ : ∃ o, l[k]? = some o := ⟨l[k], List.getElem?_eq_getElem hlt⟩
        obtain ⟨a', cap', hv', _, _, h3⟩ := H.out.mod0 m
        cases hv'
        obtain ⟨⟨g, off, rfl, hc⟩, hf, _⟩ := h3 k o ho
        obtain ⟨hc0, hc1, hc2, hc3, hc4, hc5, hc6⟩ := st_cells hc
        obtain ⟨b1, b2⟩ := HB.out.2 o (List.mem_of_getElem? ho)
        obtain ⟨_, b3, b4⟩ := flat_le o.fs
        have hbb := HBB.out
        obtain ⟨fa, fc, hfv, f1, f2, f3⟩ := id hf
        have HF := hide hf
        rw [hfv] at hc6
        have hd : ∀ fr ∈ o.fs, fr.1.data.length ≤ 1048576 ∧ fr.1.rngs.length ≤ 1048576 := fun fr hfr => by have := b4 fr hfr; omega
        have HD := hide hd
        have hsl : o.s.length ≤ 1048576 := by omega
        have hfl : o.fs.length ≤ 1048576 := by omega
        clear hd hc h3 b1 b2 b3 b4 hbb f1 f2 f3 hf m
        obtain ⟨WB, hWB⟩ : ∃ WB, WB = wr := ⟨_, rfl⟩
        subst hWB
        have z1 : wrap64 (n + o.s.length) = n + o.s.length := IntWalk.wrap64_in _ (by omega)
        have z2 : wrap64 (n + o.s.length + o.fs.length) = n + o.s.length + o.fs.length := IntWalk.wrap64_in _ (by omega)
        go_wp2_with fail
        go_quiet (fail)
        go_wp2_with fail
        go_loopw [3, 5] (fun nv j wr => ∃ q : Nat, ∃ n : Int, q ≤ o.fs.length ∧ nv = .int .i64 n ∧ 0 ≤ n ∧ n ≤ 4194304 ∧ j = .int .i64 q ∧ Mod NoB WB wr) (fun _ j _ => o.fs.length - (intOf j).toNat)
        case atStart => exact ⟨0, n + o.s.length + o.fs.length, Nat.zero_le _, by rw [strOf_size, show wrap64 (n + (o.s.length : Int)) = n + o.s.length from z1, show wrap64 (n + (o.s.length : Int) + (o.fs.length : Int)) = n + o.s.length + o.fs.length from z2], by omega, by omega, rfl, (Mod.refl _ _).drewN _⟩
        case round =>
          obtain ⟨q, n', hq, rfl, hn0', hn1', rfl, m⟩ := hrel
          have hc6' := m.cell (a := ⟨g, _, none⟩) (fun x => x) hc6
          have M2 := hide (M.out.trans m)
          have HMM := hide m
          by_cases hlq : q < o.fs.length
          · obtain ⟨fr, hfr⟩ : ∃ fr, o.fs[q]? = some fr := ⟨o.fs[q], List.getElem?_eq_getElem hlq⟩
            obtain ⟨fa', fc', hfv', _, _, f3⟩ := HF.out.mod0 m
            rw [hfv] at hfv'
            cases hfv'
            obtain ⟨⟨fg, fo, rfl, fc⟩, frr⟩ := f3 q fr hfr
            obtain ⟨fc0, fc1, fc2, fc3, fc4, fc5, fc6, fc7, fc8, fc9⟩ := fr_cells fc
            obtain ⟨ra, rc, hrv, _⟩ := frr
            rw [hrv] at fc9
            obtain ⟨d1, d2⟩ := HD.out fr (List.mem_of_getElem? hfr)
            clear m fc f3 hfr fc0 fc1 fc2 fc3 fc4 fc5 fc6 fc7
            by_cases hn' : n' ≤ 65536
            · have z3 : wrap64 (n' + fr.1.data.length) = n' + fr.1.data.length := IntWalk.wrap64_in _ (by omega)
              have z4 : wrap64 (n' + fr.1.data.length + fr.1.rngs.length) = n' + fr.1.data.length + fr.1.rngs.length := IntWalk.wrap64_in _ (by omega)
              go_wp2_with fail
              go_quiet (fail)
              go_wp2_with fail
              go_roundw
              case rel => exact ⟨q + 1, n' + fr.1.data.length + fr.1.rngs.length, by omega, by rw [strOf_size, show wrap64 (n' + (fr.1.data.length : Int)) = n' + fr.1.data.length from z3, show wrap64 (n' + (fr.1.data.length : Int) + (fr.1.rngs.length : Int)) = n' + fr.1.data.length + fr.1.rngs.length from z4], by omega, by omega, by go_num, HMM.out.drewN _⟩
              case measure => simp [intOf]; omega
            · go_wp2_with fail
              go_roundw
              case rel => exact ⟨k + 1, n', by omega, rfl, by omega, by omega, by go_num, M2.out⟩
              case measure => simp [intOf]; omega
          · clear m
            go_wp2_with fail
            go_roundw
            case rel => exact ⟨k + 1, n', by omega, rfl, by omega, by omega, by go_num, M2.out⟩
            case measure => simp [intOf]; omega
      · clear m
        go_wp2_with fail
        go_ret
        exact ⟨_, rfl, M.out⟩
    · clear m
      by_cases hlt : k < l.length
      · go_wp2_with fail
        go_ret
        exact ⟨_, rfl, M.out⟩
      · go_wp2_with fail
        go_ret
        exact ⟨_, rfl, M.out⟩
end Go.Proofs.YtddfdpbaiedcjabGreatDoor
/- mediawirelaw.sameRanges, mediawirelaw.samePackets: of what is the same. -/
namespace Go.Proofs.YtddfdpbaiedcjabGreatDoor
open Go.RowKit

set_option maxRecDepth 100000 in
theorem samers_any (va vb : Value) (l : List (Nat × Nat)) (w : World) (ha : RR w va l) (hb : RR w vb l) :
    Calls Tryz.prog 44 #[va, vb] w (Says w true) := by
  obtain ⟨a, ca, rfl, a1, a2, a3⟩ := id ha
  obtain ⟨b, cb, rfl, b1, b2, b3⟩ := id hb
  have HA := hide a3
  have HB := hide b3
  unfold maxLen at a2 b2
  clear ha hb a3 b3
  go_enter Tryz.func44, Tryz.ntmps44
  go_wp2_with fail
  go_loopw [5] (fun i wr => ∃ k : Nat, k ≤ l.length ∧ i = .int .i64 k ∧ Mod NoB w wr) (fun i _ => l.length - (intOf i).toNat)
  case atStart => exact ⟨0, Nat.zero_le _, rfl, Mod.refl _ _⟩
  case round =>
    obtain ⟨k, hk, rfl, m⟩ := hrel
    have M := hide m
    by_cases hlt : k < l.length
    · obtain ⟨g, o, rfl, x1, x2, _, _⟩ := HA.out k hlt
      obtain ⟨g', o', rfl, y1, y2, _, _⟩ := HB.out k hlt
      have x1 := m.cell (a := ⟨g, _, none⟩) (fun x => x) x1
      have x2 := m.cell (a := ⟨g, _, none⟩) (fun x => x) x2
      have y1 := m.cell (a := ⟨g', _, none⟩) (fun x => x) y1
      have y2 := m.cell (a := ⟨g', _, none⟩) (fun x => x) y2
      clear m
      go_wp2_with fail
      go_quiet (fail)
      go_wp2_with fail
      go_roundw
      case rel => exact ⟨k + 1, by omega, by go_num, M.out.drewN _⟩
      case measure => simp [intOf]; omega
    · clear m
      go_wp2_with fail
      go_ret
      exact ⟨rfl, M.out⟩

set_option maxRecDepth 100000 in
set_option maxHeartbeats 1000000 in
theorem samepk_any (n : Nat) (va vb : Value) (fs gs : List (Frm × Value)) (w : World) (ha : FrsAt w va fs) (hb : FrsAt w vb gs) (he : fs.map (·.1) = gs.map (·.1)) :
    Calls Tryz.prog 35 #[.agg #[.int .u64 (n : Int), va], .agg #[.int .u64 (n : Int), vb]] w (Says w true) := by
  have hl : fs.length = gs.length := by simpa using congrArg List.length he
  obtain ⟨a, ca, rfl, a1, a2, a3⟩ := id ha
  obtain ⟨b, cb, rfl, b1, b2, b3⟩ := id hb
  have HA := hide ha
  have HB := hide hb
  have HE := hide he
  unfold maxLen at a2 b2
  rw [← hl] at HB b1
  rw [← hl]
  have HL := hide hl
  obtain ⟨W0, hW0⟩ : ∃ W0, (w.alloc (.cells #[.int .u64 (n : Int), .slice a fs.length ca] 37)).alloc (.cells #[.int .u64 (n : Int), .slice b fs.length cb] 37) = W0 := ⟨_, rfl⟩
  have m0 : Mod NoB w W0 := by rw [← hW0]; exact ((Mod.refl _ _).alloc _).alloc _
  have e1 : (w.alloc (.cells #[.int .u64 (n : Int), .slice a fs.length ca] 37)).heap.size = w.heap.size + 1 := by simp
  have oP : W0.heap[w.heap.size]? = some (.cells #[.int .u64 (n : Int), .slice a fs.length ca] 37 (0, 0)) := by rw [← hW0]; exact ((Mod.refl NoB _).alloc _).obj (fun x => x) (heap_alloc_new w _)
  have oQ : W0.heap[w.heap.size + 1]? = some (.cells #[.int .u64 (n : Int), .slice b fs.length cb] 37 (0, 0)) := by rw [← hW0, ← e1]; exact heap_alloc_new _ _
  have HP := hide oP
  have HQ := hide oQ
  have HM0 := hide m0
  have HW0 := hide hW0
  clear oP oQ m0 hW0 e1 a3 b3 ha hb he hl
  go_enter Tryz.func35, Tryz.ntmps35
  go_wp2_with fail
  rw [HW0.out]
  go_loopw [5] (fun i wr => ∃ k : Nat, k ≤ fs.length ∧ i = .int .i64 k ∧ Mod NoB W0 wr) (fun i _ => fs.length - (intOf i).toNat)
  case atStart => exact ⟨0, Nat.zero_le _, rfl, Mod.refl _ _⟩
  case round =>
    obtain ⟨k, hk, rfl, m⟩ := hrel
    have M := hide m
    have p1 : wr.cell? ⟨w.heap.size, 1, none⟩ = some (.slice a fs.length ca) := cell_of_obj (m.obj (fun x => x) HP.out) rfl
    have q1 : wr.cell? ⟨w.heap.size + 1, 1, none⟩ = some (.slice b fs.length cb) := cell_of_obj (m.obj (fun x => x) HQ.out) rfl
    by_cases hlt : k < fs.length
    · obtain ⟨fr, hfr⟩ : ∃ fr, fs[k]? = some fr := ⟨fs[k], List.getElem?_eq_getElem hlt⟩
      obtain ⟨gr, hgr⟩ : ∃ gr, gs[k]? = some gr := ⟨gs[k]'(by have := HL.out; omega), List.getElem?_eq_getElem _⟩
      have hfg : fr.1 = gr.1 := by
        have h1 : (fs.map (·.1))[k]? = some fr.1 := by rw [List.getElem?_map, hfr]; rfl
        have h2 : (gs.map (·.1))[k]? = some gr.1 := by rw [List.getElem?_map, hgr]; rfl
        rw [HE.out, h2] at h1
        exact (Option.some.inj h1).symm
      obtain ⟨f, rv⟩ := fr
      obtain ⟨f', rv'⟩ := gr
      simp only at hfg
      subst hfg
      obtain ⟨a', cap', hv', _, _, h3⟩ := HA.out
      cases hv'
      obtain ⟨⟨g, o, rfl, hc⟩, hrr⟩ := h3 k (f, rv) hfr
      obtain ⟨b', cap', hv', _, _, h3'⟩ := HB.out
      rw [← HL.out] at hv'
      cases hv'
      obtain ⟨⟨g', o', rfl, hc'⟩, hrr'⟩ := h3' k (f, rv') hgr
      simp only at hc hrr hc' hrr'
      have M2 := HM0.out.trans m
      have hc := fr_cells (fun j x hx => M2.cell (a := ⟨g, _, none⟩) (fun x => x) (hc j x hx))
      obtain ⟨hc0, hc1, hc2, hc3, hc4, hc5, hc6, hc7, hc8, hc9⟩ := hc
      obtain ⟨ra, rc, rfl, _⟩ := id hrr
      obtain ⟨ra', rc', rfl, _⟩ := id hrr'
      have m3 : Mod NoB wr (wr.alloc (.cells (frCells f (.slice ra f.rngs.length rc)) 48)) := (Mod.refl _ _).alloc _
      obtain ⟨d0, d1, d2, d3, d4, d5, d6, d7, d8, d9⟩ := fr_cells (fun j x hx => m3.cell (a := ⟨g', _, none⟩) (fun x => x) (by have := M2.cell (a := ⟨g', _, none⟩) (fun x => x) (hc' j x hx); exact this))
      have q1' := m3.cell (a := ⟨w.heap.size + 1, 1, none⟩) (fun x => x) q1
      obtain ⟨W1, hW1⟩ : ∃ W1, (wr.alloc (.cells (frCells f (.slice ra f.rngs.length rc)) 48)).alloc (.cells (frCells f (.slice ra' f.rngs.length rc')) 48) = W1 := ⟨_, rfl⟩
      have m4 : Mod NoB wr W1 := by rw [← hW1]; exact m3.alloc _
      have e1 : (wr.alloc (.cells (frCells f (.slice ra f.rngs.length rc)) 48)).heap.size = wr.heap.size + 1 := by simp
      have fP : FrameAt W1 wr.heap.size f (.slice ra f.rngs.length rc) := by rw [← hW1]; exact ((Mod.refl NoB _).alloc _).obj (fun x => x) (heap_alloc_new wr _)
      have fQ : FrameAt W1 (wr.heap.size + 1) f (.slice ra' f.rngs.length rc') := by rw [← hW1, ← e1]; exact heap_alloc_new _ _
      have M3 := M2.trans m4
      have ks := samers_any (.slice ra f.rngs.length rc) (.slice ra' f.rngs.length rc') f.rngs W1 (hrr.mod M3 (OffS.no _)) (hrr'.mod M3 (OffS.no _))
      obtain ⟨s0, s1, s2, s3, s4, s5, s6, s7, s8, s9⟩ := fP.cells
      obtain ⟨t0, t1, t2, t3, t4, t5, t6, t7, t8, t9⟩ := fQ.cells
      have FP := hide fP
      have FQ := hide fQ
      have M4 := hide (m.trans m4)
      have HW1 := hide hW1
      clear h3 h3' hc hc' hrr hrr' m m3 M2 M3 m4 e1 fP fQ hfr hgr hW1
      unfold frCells at d0 d1 d2 d3 d4 d5 d6 d7 d8 d9 q1' HW1
      go_wp2_with fail
      rw [HW1.out]
      refine ks.mono ?_
      clear ks
      rintro e w2 ⟨rfl, m5⟩
      obtain ⟨s0, s1, s2, s3, s4, s5, s6, s7, s8, s9⟩ := FrameAt.cells (m5.obj (fun x => x) FP.out)
      obtain ⟨t0, t1, t2, t3, t4, t5, t6, t7, t8, t9⟩ := FrameAt.cells (m5.obj (fun x => x) FQ.out)
      have M5 := hide (M4.out.trans m5)
      clear m5 d0 d1 d2 d3 d4 d5 d6 d7 d8 d9 hc0 hc1 hc2 hc3 hc4 hc5 hc6 hc7 hc8 hc9
      go_wp2_with fail
      go_roundw
      case rel => exact ⟨k + 1, by omega, by go_num, M5.out⟩
      case measure => simp [intOf]; omega
    · clear m
      go_wp2_with fail
      go_ret
      exact ⟨rfl, HM0.out.trans M.out⟩
end Go.Proofs.YtddfdpbaiedcjabGreatDoor
/- wire.Decode's deferred function. -/
namespace Go.Proofs.YtddfdpbaiedcjabGreatDoor
open Go.RowKit

/-- A body's rest that ends as it should. -/
def FinD (G : World → Prop) : Exit → Act → World → Prop := fun ex a w' => (ex = .normal ∨ ex = .ret) ∧ a.defers = [] ∧ G w'

theorem catch_idle (a b c : Value) (w : World) :
    CallsD Tryz.prog 144 #[a, b, c] .returning w fun e u' w' => e = .returned (.tuple #[]) ∧ u' = .returning ∧ w' = w := by
  refine callsD_of_wpS Tryz.func144 rfl fun c₀ cs hu => ?_
  apply wpS_seq
  apply wpS_region
  simp [wpOpsS, go_sem, recoverD, hu, Tryz.ntmps144, Exit.thenS]
  rw [show #[a, b, c] ++ ((Array.replicate 19 undef).setIfInBounds 3 Value.nilIface).setIfInBounds 0 Value.nilIface = (#[a, b, c, .nilIface, undef, undef, .nilIface, undef, undef, undef, undef, undef, undef, undef, undef, undef, undef, undef, undef, undef, undef, undef] : Array Value) from by kernel_rfl]
  refine wpS_of_wp (wp_mono (Q := FinD (fun w' => w' = w)) ?_ ?_)
  · go_wp2_with fail
    exact ⟨by first | exact .inl rfl | exact .inr rfl, rfl, rfl⟩
  · rintro e a w' ⟨he, hd, rfl⟩
    have hc : ({ c₀ with mode := .returning } : Frame) = c₀ := by
      cases c₀
      simp at hu
      simp [hu]
    rcases he with rfl | rfl
    all_goals exact ⟨hd, _, by rw [hc], _, results_none rfl _ _ _, rfl, rfl, rfl⟩

/-- Behind what was caught: no packet; the error with its place. -/
def Caught (w : World) (pb eb at_ : Nat) (w' : World) : Prop :=
  w'.heap[pb]? = some (.cells #[.int .u64 0, .slice none 0 0] 37 (0, 0)) ∧
  (∃ fa, w'.heap[eb]? = some (.cells #[.iface 178 (.pointer (some ⟨fa, 0, none⟩))] 80 (0, 0)) ∧ w'.heap[fa]? = some (.cells #[.int .i64 8, .int .i64 (at_ : Int)] 183 (0, 0)) ∧ w.heap.size ≤ fa) ∧
  Mod (fun k => k = pb ∨ k = eb) w w'

set_option maxRecDepth 100000 in
theorem catch_short (atb pb eb at_ : Nat) (n0 f0v e0 : Value) (older : List PanicEntry) (w : World) (ha : w.cell? ⟨atb, 0, none⟩ = some (.int .i64 (at_ : Int))) (hp : w.heap[pb]? = some (.cells #[n0, f0v] 37 (0, 0))) (he : w.heap[eb]? = some (.cells #[e0] 80 (0, 0))) (hne : pb ≠ eb) :
    CallsD Tryz.prog 144 #[.pointer (some ⟨atb, 0, none⟩), .pointer (some ⟨pb, 0, none⟩), .pointer (some ⟨eb, 0, none⟩)] (.panicking ({ v := .iface 230 (.agg #[]), recovered := false } :: older)) w fun e u' w' =>
      e = .returned (.tuple #[]) ∧ u' = .panicking ({ v := .iface 230 (.agg #[]), recovered := true } :: older) ∧ Caught w pb eb at_ w' := by
  refine callsD_of_wpS Tryz.func144 rfl fun c₀ cs hu => ?_
  have Hp := hide hp
  have He := hide he
  have hpl := lt_of_cell (cell_of_obj (o := 0) hp rfl)
  have hel := lt_of_cell (cell_of_obj (o := 0) he rfl)
  have hal := lt_of_cell ha
  have p0 : w.cell? ⟨pb, 0, none⟩ = some n0 := cell_of_obj (o := 0) hp rfl
  have p1 : w.cell? ⟨pb, 1, none⟩ = some f0v := cell_of_obj (o := 1) hp rfl
  have q0 : w.cell? ⟨eb, 0, none⟩ = some e0 := cell_of_obj (o := 0) he rfl
  have hta : ∀ w, (Instr.typeAssert (.iface 230 (.agg #[])) 20 230 true).run Tryz.prog w = .ok (.tuple #[.agg #[], .bool true]) w := fun _ => by kernel_rfl
  have pz : ∀ j, w.frozen? ⟨pb, j, none⟩ = false := fun j => frozen_of_obj hp
  have qz : ∀ j, w.frozen? ⟨eb, j, none⟩ = false := fun j => frozen_of_obj he
  apply wpS_seq
  apply wpS_region
  simp [wpOpsS, go_sem, recoverD, hu, Tryz.ntmps144, Exit.thenS]
  rw [show #[Value.pointer (some ⟨atb, 0, none⟩), Value.pointer (some ⟨pb, 0, none⟩), Value.pointer (some ⟨eb, 0, none⟩)] ++ ((Array.replicate 19 undef).setIfInBounds 3 (Value.iface 230 (.agg #[]))).setIfInBounds 0 (Value.iface 230 (.agg #[])) = (#[.pointer (some ⟨atb, 0, none⟩), .pointer (some ⟨pb, 0, none⟩), .pointer (some ⟨eb, 0, none⟩), .iface 230 (.agg #[]), undef, undef, .iface 230 (.agg #[]), undef, undef, undef, undef, undef, undef, undef, undef, undef, undef, undef, undef, undef, undef, undef] : Array Value) from by kernel_rfl]
  refine wpS_of_wp (wp_mono (Q := FinD (Caught w pb eb at_)) ?_ ?_)
  · clear hp he hu
    go_wp2_with fail
    refine ⟨.inl rfl, rfl, ?_⟩
    obtain ⟨W, hW⟩ : ∃ W, ((w.setCell ⟨pb, 0, none⟩ (.int .u64 0)).setCell ⟨pb, 1, none⟩ (.slice none 0 0)).setCell ⟨eb, 0, none⟩ (.iface 178 (.pointer (some ⟨w.heap.size + 1, 0, none⟩))) = W := ⟨_, rfl⟩
    rw [hW]
    have mW : Mod (fun k => k = pb ∨ k = eb) w W := by
      rw [← hW]
      exact (((Mod.refl (fun k => k = pb ∨ k = eb) w).setCell (p := ⟨pb, 0, none⟩) (.inl (.inl rfl)) _).setCell (p := ⟨pb, 1, none⟩) (.inl (.inl rfl)) _).setCell (p := ⟨eb, 0, none⟩) (.inl (.inr rfl)) _
    have o1 := obj_setCell (i := 1) (v := .slice none 0 0) (obj_setCell (i := 0) (v := .int .u64 0) Hp.out)
    have oP : W.heap[pb]? = some (.cells #[.int .u64 0, .slice none 0 0] 37 (0, 0)) := by
      rw [← hW]
      exact (((Mod.refl (fun k => k = eb) _).setCell (p := ⟨eb, 0, none⟩) (.inl rfl) _).obj hne o1).trans (by simp)
    have oE : W.heap[eb]? = some (.cells #[.iface 178 (.pointer (some ⟨w.heap.size + 1, 0, none⟩))] 80 (0, 0)) := by
      rw [← hW]
      have e1 := (((Mod.refl (fun k => k = pb) w).setCell (p := ⟨pb, 0, none⟩) (.inl rfl) (.int .u64 0)).setCell (p := ⟨pb, 1, none⟩) (.inl rfl) (.slice none 0 0)).obj (fun e => hne e.symm) He.out
      exact (obj_setCell (i := 0) e1).trans (by simp)
    have hs : W.heap.size = w.heap.size := by rw [← hW]; simp [World.setCell]
    have m2 : Mod NoB W ((W.alloc (.cells #[] 230)).alloc (.cells #[.int .i64 8, .int .i64 (at_ : Int)] 183)) := ((Mod.refl _ _).alloc _).alloc _
    refine ⟨m2.obj (fun x => x) oP, ⟨w.heap.size + 1, m2.obj (fun x => x) oE, ?_, by omega⟩, mW.then m2 (fun _ x => x.elim)⟩
    have : (W.alloc (.cells #[] 230)).heap.size = w.heap.size + 1 := by simp [hs]
    rw [← this]
    exact heap_alloc_new _ _
  · rintro e a w' ⟨he, hd, hg⟩
    rcases he with rfl | rfl
    all_goals exact ⟨hd, _, rfl, _, results_none rfl _ _ _, rfl, rfl, hg⟩
end Go.Proofs.YtddfdpbaiedcjabGreatDoor
/- wire.Decode: the walk. -/
namespace Go.Proofs.YtddfdpbaiedcjabGreatDoor
open Go.RowKit

/-- The packet that is being read. -/
def PkAt (w : World) (pb num : Nat) (fv : Value) : Prop := w.heap[pb]? = some (.cells #[.int .u64 (num : Int), fv] 37 (0, 0))
/-- The error's variable. -/
def ErAt (w : World) (eb : Nat) (v : Value) : Prop := w.heap[eb]? = some (.cells #[v] 80 (0, 0))

/-- What Decode answers. -/
def Decoded (w : World) (r : DecR) (e : Ending) (w' : World) : Prop :=
  Mod NoB w w' ∧ match r with
  | .sum => e = .returned (.tuple #[.agg #[.int .u64 0, .slice none 0 0], .iface 41 (.int .i64 7)])
  | .bad at_ => ∃ fa, e = .returned (.tuple #[.agg #[.int .u64 0, .slice none 0 0], .iface 178 (.pointer (some ⟨fa, 0, none⟩))]) ∧ w'.heap[fa]? = some (.cells #[.int .i64 8, .int .i64 (at_ : Int)] 183 (0, 0)) ∧ w.heap.size ≤ fa
  | .ok num fs => ∃ fv rvs, e = .returned (.tuple #[.agg #[.int .u64 (num : Int), fv], .nilIface]) ∧ OwnF w' fv rvs ∧ rvs.map (·.1) = fs ∧ (∀ g, fv.ownBlock = some g → w.heap.size ≤ g) ∧ ∀ x ∈ rvs, ∀ g, x.2.ownBlock = some g → w.heap.size ≤ g

theorem results_dec (tmps : Array Value) (w : World) (pb eb : Nat) (n fv ev : Value) (h2 : tmps.getD 2 undef = .pointer (some ⟨pb, 0, none⟩)) (h3 : tmps.getD 3 undef = .pointer (some ⟨eb, 0, none⟩))
    (c0 : w.cell? ⟨pb, 0, none⟩ = some n) (c1 : w.cell? ⟨pb, 1, none⟩ = some fv) (c2 : w.cell? ⟨eb, 0, none⟩ = some ev) :
    (results Tryz.f106 tmps).run Tryz.prog w = .ok (.tuple #[.agg #[n, fv], ev]) w := by
  have h2' : tmps[2]?.getD undef = .pointer (some ⟨pb, 0, none⟩) := by rw [← h2]; simp
  have h3' : tmps[3]?.getD undef = .pointer (some ⟨eb, 0, none⟩) := by rw [← h3]; simp
  simp [results, Tryz.results106, go_sem, h2', h3', c0, c1, c2]

set_option maxRecDepth 100000 in
theorem dec_short (v : Value) (bs : List UInt8) (w : World) (hb : BR w v bs) (hs : bs.length < 4) :
    Calls Tryz.prog 106 #[v] w (Decoded w .sum) := by
  obtain ⟨a, cap, rfl, h1, h2, h3⟩ := hb
  unfold maxLen at h2
  have z1 : IntKind.i64.wrap ((bs.length : Int) - 4) = (bs.length : Int) - 4 := IntWalk.i64_in _ (by omega)
  have d : (bs.length : Int) - 4 < 0 := by omega
  clear h3
  go_enter_defers Tryz.func106, Tryz.ntmps106
  go_wp2_with fail
  refine ⟨_, results_dec _ _ _ _ _ _ _ rfl rfl (by simp) (by simp) (by simp), ((Mod.refl _ _).alloc _).alloc _, rfl⟩

theorem u32_or_nat (a b : Nat) (ha : a < 4294967296) (hb : b < 4294967296) : bits .or .u32 (a : Int) (b : Int) = ((a ||| b : Nat) : Int) := by
  have hx : a ||| b < 2 ^ 32 := Nat.or_lt_two_pow (by omega) (by omega)
  have h1 : (BitVec.ofInt 32 (a : Int)).toNat = a := by
    rw [BitVec.ofInt_natCast, BitVec.toNat_ofNat]; exact Nat.mod_eq_of_lt (by omega)
  have h2 : (BitVec.ofInt 32 (b : Int)).toNat = b := by
    rw [BitVec.ofInt_natCast, BitVec.toNat_ofNat]; exact Nat.mod_eq_of_lt (by omega)
  show IntKind.u32.wrap ((BitVec.ofInt 32 (a : Int) ||| BitVec.ofInt 32 (b : Int)).toNat : Int) = _
  rw [BitVec.toNat_or, h1, h2, u32_wrap]
  omega

theorem or_pow (a b i : Nat) (h : b < 2 ^ i) : a * 2 ^ i ||| b = a * 2 ^ i + b := by
  have := Nat.two_pow_add_eq_or_of_lt h a
  rw [Nat.mul_comm] at this
  exact this.symm

theorem or_be (x0 x1 x2 x3 : Nat) (h0 : x0 < 256) (h1 : x1 < 256) (h2 : x2 < 256) (h3 : x3 < 256) :
    bits .or .u32 ((x0 : Int) * 16777216) ((x1 : Int) * 65536) = (x0 : Int) * 16777216 + (x1 : Int) * 65536 ∧
    bits .or .u32 ((x0 : Int) * 16777216 + (x1 : Int) * 65536) ((x2 : Int) * 256) = (x0 : Int) * 16777216 + (x1 : Int) * 65536 + (x2 : Int) * 256 ∧
    bits .or .u32 ((x0 : Int) * 16777216 + (x1 : Int) * 65536 + (x2 : Int) * 256) (x3 : Int) = (x0 : Int) * 16777216 + (x1 : Int) * 65536 + (x2 : Int) * 256 + (x3 : Int) := by
  refine ⟨?_, ?_, ?_⟩
  · have := u32_or_nat (x0 * 16777216) (x1 * 65536) (by omega) (by omega)
    rw [or_pow x0 (x1 * 65536) 24 (by omega)] at this
    rw [show (x0 : Int) * 16777216 = ((x0 * 16777216 : Nat) : Int) by omega, show (x1 : Int) * 65536 = ((x1 * 65536 : Nat) : Int) by omega, this]
    omega
  · have := u32_or_nat (x0 * 16777216 + x1 * 65536) (x2 * 256) (by omega) (by omega)
    have e : x0 * 16777216 + x1 * 65536 = (x0 * 256 + x1) * 2 ^ 16 := by omega
    rw [e, or_pow _ (x2 * 256) 16 (by omega), ← e] at this
    rw [show (x0 : Int) * 16777216 + (x1 : Int) * 65536 = ((x0 * 16777216 + x1 * 65536 : Nat) : Int) by omega, show (x2 : Int) * 256 = ((x2 * 256 : Nat) : Int) by omega, this]
    omega
  · have := u32_or_nat (x0 * 16777216 + x1 * 65536 + x2 * 256) x3 (by omega) (by omega)
    have e : x0 * 16777216 + x1 * 65536 + x2 * 256 = (x0 * 65536 + x1 * 256 + x2) * 2 ^ 8 := by omega
    rw [e, or_pow _ x3 8 (by omega), ← e] at this
    rw [show (x0 : Int) * 16777216 + (x1 : Int) * 65536 + (x2 : Int) * 256 = ((x0 * 16777216 + x1 * 65536 + x2 * 256 : Nat) : Int) by omega, this]
    omega

theorem BR.pre {w : World} {a : Option Addr} {cap n : Nat} {bs : List UInt8} (h : BR w (.slice a bs.length cap) bs) (hn : n ≤ bs.length) : BR w (.slice a n cap) (bs.take n) := by
  obtain ⟨a', cap', hv, h1, h2, h3⟩ := h
  cases hv
  have hl : (bs.take n).length = n := by simp; omega
  refine ⟨a, cap, by rw [hl], by omega, h2, fun i c hi => ?_⟩
  have hin : i < n := by
    have := (List.getElem?_eq_some_iff.1 hi).1
    omega
  rw [List.getElem?_take, if_pos hin] at hi
  exact h3 i c hi

theorem BR.byte {w : World} {a : Option Addr} {l cap : Nat} {bs : List UInt8} (h : BR w (.slice a l cap) bs) {i : Nat} (hi : i < bs.length) : ∃ g o, a = some ⟨g, o, none⟩ ∧ w.cell? ⟨g, o + i, none⟩ = some (.int .u8 (byteAt bs i : Int)) := by
  obtain ⟨a', cap', hv, h1, h2, h3⟩ := h
  cases hv
  have := h3 i bs[i] (List.getElem?_eq_getElem hi)
  unfold byteAt
  rw [List.getD_eq_getElem?_getD, List.getElem?_eq_getElem hi]
  exact this

theorem byteAt_lt (bs : List UInt8) (i : Nat) : byteAt bs i < 256 := by
  unfold byteAt
  have := (bs.getD i 0).toNat_lt
  omega

set_option maxRecDepth 100000 in
set_option maxHeartbeats 1000000 in
theorem dec_sum (v : Value) (bs : List UInt8) (n : Nat) (w : World) (hb : BR w v bs) (ht : Tab w) (hn : bs.length = n + 4) (hs : be4 bs n ≠ crc (bs.take n)) :
    Calls Tryz.prog 106 #[v] w (Decoded w .sum) := by
  obtain ⟨a, cap, rfl, h1, h2, h3⟩ := id hb
  unfold maxLen at h2
  rw [hn] at h1 hb ⊢
  have hb' : BR w (.slice a bs.length cap) bs := by rw [hn]; exact hb
  obtain ⟨g, o, rfl, k0⟩ := hb'.byte (i := n) (by omega)
  obtain ⟨_, _, e, k1⟩ := hb'.byte (i := n + 1) (by omega)
  cases e
  obtain ⟨_, _, e, k2⟩ := hb'.byte (i := n + 2) (by omega)
  cases e
  obtain ⟨_, _, e, k3⟩ := hb'.byte (i := n + 3) (by omega)
  cases e
  have hgl := lt_of_cell k0
  have hpre := hb'.pre (n := n) (by omega)
  have hsum := fun w' (m : Mod NoB w w') => sum_any (.slice (some ⟨g, o, none⟩) n cap) (bs.take n) w' (hpre.mod m (OffS.no _)) (ht.mod m (fun x => x))
  have hcl := crc_lt (bs.take n)
  obtain ⟨s, hse⟩ : ∃ s, crc (bs.take n) = s := ⟨_, rfl⟩
  rw [hse] at hsum hs hcl
  have b0 := byteAt_lt bs n
  have b1 := byteAt_lt bs (n + 1)
  have b2 := byteAt_lt bs (n + 2)
  have b3 := byteAt_lt bs (n + 3)
  unfold be4 at hs
  obtain ⟨x0, e0⟩ : ∃ x, byteAt bs n = x := ⟨_, rfl⟩
  obtain ⟨x1, e1⟩ : ∃ x, byteAt bs (n + 1) = x := ⟨_, rfl⟩
  obtain ⟨x2, e2⟩ : ∃ x, byteAt bs (n + 2) = x := ⟨_, rfl⟩
  obtain ⟨x3, e3⟩ : ∃ x, byteAt bs (n + 3) = x := ⟨_, rfl⟩
  rw [e0] at k0 b0 hs
  rw [e1] at k1 b1 hs
  rw [e2] at k2 b2 hs
  rw [e3] at k3 b3 hs
  obtain ⟨o1, o2, o3⟩ := or_be x0 x1 x2 x3 b0 b1 b2 b3
  have z1 : IntKind.i64.wrap (((n + 4 : Nat) : Int) - 4) = (n : Int) := by rw [show ((n + 4 : Nat) : Int) - 4 = n by omega]; exact IntWalk.i64_in _ (by omega)
  have z2 : IntKind.i64.wrap ((n : Int) + 1) = (n : Int) + 1 := IntWalk.i64_in _ (by omega)
  have z3 : IntKind.i64.wrap ((n : Int) + 2) = (n : Int) + 2 := IntWalk.i64_in _ (by omega)
  have z4 : IntKind.i64.wrap ((n : Int) + 3) = (n : Int) + 3 := IntWalk.i64_in _ (by omega)
  have t2 : ((n : Int) + 1).toNat = n + 1 := by omega
  have t3 : ((n : Int) + 2).toNat = n + 2 := by omega
  have t4 : ((n : Int) + 3).toNat = n + 3 := by omega
  have y0 : IntKind.u32.wrap ((x0 : Int) * 16777216) = (x0 : Int) * 16777216 := by rw [u32_wrap]; omega
  have y1 : IntKind.u32.wrap ((x1 : Int) * 65536) = (x1 : Int) * 65536 := by rw [u32_wrap]; omega
  have y2 : IntKind.u32.wrap ((x2 : Int) * 256) = (x2 : Int) * 256 := by rw [u32_wrap]; omega
  have hq : ((x0 : Int) * 16777216 + (x1 : Int) * 65536 + (x2 : Int) * 256 + (x3 : Int) != (s : Int)) = true := by rw [bne_iff_ne]; omega
  clear h3 hb hb' ht hpre e0 e1 e2 e3 hse hs
  go_enter_defers Tryz.func106, Tryz.ntmps106
  go_wp2_with (go_at_call 123; refine (hsum _ (((Mod.refl _ _).alloc _).alloc _)).mono ?_; rintro e w' ⟨rfl, rfl⟩)
  go_quiet (fail)
  go_wp2_with fail
  have m0 : Mod NoB w (((w.alloc (.cells #[.int .u64 0, .slice none 0 0] 37)).alloc (.cells #[.nilIface] 80)).drewN nq) := (((Mod.refl _ _).alloc _).alloc _).drewN _
  obtain ⟨X, hX⟩ : ∃ X, ((w.alloc (.cells #[.int .u64 0, .slice none 0 0] 37)).alloc (.cells #[.nilIface] 80)).drewN nq = X := ⟨_, rfl⟩
  have oP : X.heap[w.heap.size]? = some (.cells #[.int .u64 0, .slice none 0 0] 37 (0, 0)) := by
    rw [← hX]
    exact (((Mod.refl NoB _).alloc (.cells #[.nilIface] 80)).drewN nq).obj (fun x => x) (heap_alloc_new w _)
  have oE : X.heap[w.heap.size + 1]? = some (.cells #[.nilIface] 80 (0, 0)) := by
    rw [← hX]
    have e : (w.alloc (.cells #[.int .u64 0, .slice none 0 0] 37)).heap.size = w.heap.size + 1 := by simp
    rw [← e]
    exact ((Mod.refl NoB _).drewN nq).obj (fun x => x) (heap_alloc_new _ _)
  rw [hX] at m0 ⊢
  have oP2 := obj_setCell (i := 1) (v := .slice none 0 0) (obj_setCell (i := 0) (v := .int .u64 0) oP)
  have mE : Mod (fun k => k = w.heap.size) X ((X.setCell ⟨w.heap.size, 0, none⟩ (.int .u64 0)).setCell ⟨w.heap.size, 1, none⟩ (.slice none 0 0)) := ((Mod.refl (fun k => k = w.heap.size) X).setCell (p := ⟨w.heap.size, 0, none⟩) (.inl rfl) _).setCell (p := ⟨w.heap.size, 1, none⟩) (.inl rfl) _
  have oE2 := obj_setCell (i := 0) (v := .iface 41 (.int .i64 7)) (mE.obj (by show ¬ w.heap.size + 1 = w.heap.size; omega) oE)
  have mL : ∀ u, Mod (fun k => k = w.heap.size + 1) ((X.setCell ⟨w.heap.size, 0, none⟩ (.int .u64 0)).setCell ⟨w.heap.size, 1, none⟩ (.slice none 0 0)) (((X.setCell ⟨w.heap.size, 0, none⟩ (.int .u64 0)).setCell ⟨w.heap.size, 1, none⟩ (.slice none 0 0)).setCell ⟨w.heap.size + 1, 0, none⟩ u) := fun u => (Mod.refl (fun k => k = w.heap.size + 1) _).setCell (p := ⟨w.heap.size + 1, 0, none⟩) (.inl rfl) u
  have oP3 := (mL (.iface 41 (.int .i64 7))).obj (by show ¬ w.heap.size = w.heap.size + 1; omega) oP2
  refine ⟨_, results_dec _ _ _ _ _ _ _ rfl rfl (cell_of_obj oP3 rfl) (cell_of_obj oP3 rfl) (cell_of_obj oE2 rfl), ((m0.setCell (p := ⟨w.heap.size, 0, none⟩) (.inr (Nat.le_refl _)) _).setCell (p := ⟨w.heap.size, 1, none⟩) (.inr (Nat.le_refl _)) _).setCell (p := ⟨w.heap.size + 1, 0, none⟩) (.inr (Nat.le_succ _)) _, rfl⟩

/-- The door, where what was read was too short. -/
theorem door_short (r : DecR) (w W : World) (tmps : Array Value) (pb eb ab at_ : Nat) (n0 fv e0 : Value) (h2 : tmps.getD 2 undef = .pointer (some ⟨pb, 0, none⟩)) (h3 : tmps.getD 3 undef = .pointer (some ⟨eb, 0, none⟩)) (hm : Mod NoB w W)
    (hp : W.heap[pb]? = some (.cells #[n0, fv] 37 (0, 0))) (he : W.heap[eb]? = some (.cells #[e0] 80 (0, 0))) (ha : W.cell? ⟨ab, 0, none⟩ = some (.int .i64 (at_ : Int))) (hne : pb ≠ eb) (hpb : w.heap.size ≤ pb) (heb : w.heap.size ≤ eb) (hr : r = .bad at_) :
    bodyPostD Tryz.prog Tryz.f106 (Decoded w r) (Exit.panic [{ v := .iface 230 (.agg #[]), recovered := false }]) { tmps := tmps, defers := [{ target := .fn (.func 144) #[.pointer (some ⟨ab, 0, none⟩), .pointer (some ⟨pb, 0, none⟩), .pointer (some ⟨eb, 0, none⟩)], args := #[] }] } W := by
  subst hr
  refine leaves_cons (f := 144) (args := #[.pointer (some ⟨ab, 0, none⟩), .pointer (some ⟨pb, 0, none⟩), .pointer (some ⟨eb, 0, none⟩)]) (by simp) (by simp [go_sem]) ?_
  refine (catch_short ab pb eb at_ n0 fv e0 [] W ha hp he hne).mono ?_
  rintro e u' w'' ⟨rfl, rfl, c1, ⟨fa, c2, c3, c4⟩, c5⟩
  show Leaves Tryz.prog Tryz.f106 tmps (Decoded w (.bad at_)) [] .returning w''
  refine ⟨_, results_dec _ _ _ _ _ _ _ h2 h3 (cell_of_obj c1 rfl) (cell_of_obj c1 rfl) (cell_of_obj c2 rfl), ?_, fa, rfl, c3, ?_⟩
  · refine hm.then c5 ?_
    rintro i (rfl | rfl)
    · exact .inr hpb
    · exact .inr heb
  · exact Nat.le_trans hm.size c4

/-- The door, where all was read. -/
theorem door_ok (r : DecR) (w W : World) (tmps : Array Value) (pb eb num : Nat) (a b c : Value) (fv : Value) (rvs : List (Frm × Value)) (h2 : tmps.getD 2 undef = .pointer (some ⟨pb, 0, none⟩)) (h3 : tmps.getD 3 undef = .pointer (some ⟨eb, 0, none⟩)) (hm : Mod NoB w W)
    (hp : PkAt W pb num fv) (he : ErAt W eb .nilIface) (hf : OwnF W fv rvs) (hn1 : ∀ g, fv.ownBlock = some g → w.heap.size ≤ g) (hn2 : ∀ x ∈ rvs, ∀ g, x.2.ownBlock = some g → w.heap.size ≤ g) (hr : r = .ok num (rvs.map (·.1))) :
    bodyPostD Tryz.prog Tryz.f106 (Decoded w r) Exit.ret { tmps := tmps, defers := [{ target := .fn (.func 144) #[a, b, c], args := #[] }] } W := by
  subst hr
  refine leaves_cons (f := 144) (args := #[a, b, c]) (by simp) (by simp [go_sem]) ?_
  refine (catch_idle a b c W).mono ?_
  rintro e u' w'' ⟨rfl, rfl, rfl⟩
  show Leaves Tryz.prog Tryz.f106 tmps (Decoded w (.ok num (rvs.map (·.1)))) [] .returning w''
  exact ⟨_, results_dec _ _ _ _ _ _ _ h2 h3 (cell_of_obj hp rfl) (cell_of_obj hp rfl) (cell_of_obj he rfl), hm, fv, rvs, rfl, hf, rfl, hn1, hn2⟩
end Go.Proofs.YtddfdpbaiedcjabGreatDoor
