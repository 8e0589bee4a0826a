/- The statement Gathered, second form, its card: where what the law reads is of bulk at most 1048576, and the two listed variables read as listed, it returns true, and its argument reads behind the call as before. Part 18 of 23. -/
import Derived.Test.YtddfdpbaiedcjabGreatDoorGatheredPart17
import Derived.Test.YtddfdpbaiedcjabGreatDoorGatheredPart16
import Derived.Test.YtddfdpbaiedcjabGreatDoorGatheredPart8
import Derived.Test.YtddfdpbaiedcjabGreatDoorGatheredPart14
/- mediawireref.Encode. -/
namespace Go.Proofs.YtddfdpbaiedcjabGreatDoor
open Go.RowKit

theorem okP_false1 {n : Nat} {fs : List (Frm × Value)} (h : fs.length = 0) : okP n fs = false := by simp [okP, h]
theorem okP_false2 {n : Nat} {fs : List (Frm × Value)} (h : 4611686018427387903 < n) : okP n fs = false := by
  have : decide (n ≤ 4611686018427387903) = false := by simp; omega
  rw [okP, this, Bool.and_false, Bool.false_and]

set_option maxRecDepth 100000 in
set_option maxHeartbeats 1000000 in
theorem rencode_no (n : Nat) (fs : List (Frm × Value)) (a : Option Addr) (cap : Nat) (w : World) (h2 : cap ≤ maxLen) (h1 : fs.length ≤ cap) (h : fs.length = 0 ∨ 4611686018427387903 < n) :
    Calls Tryz.prog 23 #[.agg #[.int .u64 (n : Int), .slice a fs.length cap]] w fun e w' => e = .returned (.tuple #[.slice none 0 0, .int .i64 8]) ∧ Mod NoB w w' := by
  unfold maxLen at h2
  have m0 : Mod NoB w (w.alloc (.cells #[.int .u64 (n : Int), .slice a fs.length cap] 37)) := (Mod.refl _ _).alloc _
  have M0 := hide m0
  clear m0
  by_cases d1 : fs.length = 0
  · rw [d1] at h1 M0
    rw [d1]
    clear h d1
    go_enter Tryz.func23, Tryz.ntmps23
    go_wp2_with fail
    go_loopw [4, 5] (fun okv i wr => okv = .bool false ∧ i = .int .i64 0 ∧ wr = w.alloc (.cells #[.int .u64 (n : Int), .slice a 0 cap] 37)) (fun _ _ _ => 0)
    case atStart => exact ⟨rfl, rfl, rfl⟩
    case round =>
      obtain ⟨rfl, rfl, rfl⟩ := hrel
      go_wp2_with fail
      go_ret2
      exact ⟨rfl, M0.out⟩
  · have d : decide ((n : Int) ≤ 4611686018427387903) = false := by simp; omega
    have dl : (0 : Int) < fs.length := by omega
    clear h d1
    go_enter Tryz.func23, Tryz.ntmps23
    go_wp2_with fail
    go_loopw [4, 5] (fun okv i wr => okv = .bool false ∧ i = .int .i64 0 ∧ wr = w.alloc (.cells #[.int .u64 (n : Int), .slice a fs.length cap] 37)) (fun _ _ _ => 0)
    case atStart => exact ⟨rfl, rfl, rfl⟩
    case round =>
      obtain ⟨rfl, rfl, rfl⟩ := hrel
      go_wp2_with fail
      go_ret2
      exact ⟨rfl, M0.out⟩

set_option maxRecDepth 100000 in
set_option maxHeartbeats 1000000 in
theorem rencode_any (n : Nat) (fs : List (Frm × Value)) (v : Value) (w : World) (h : FrsAt w v fs) (hb : (bodyF n (fs.map (·.1))).length ≤ 8796093022208)
    (hd : ∀ fr ∈ fs, fr.1.data.length ≤ 35184372088832 ∧ fr.1.rngs.length ≤ 1099511627776) :
    Calls Tryz.prog 23 #[.agg #[.int .u64 (n : Int), v]] w (PEnc w n (fs.map (·.1))) := by
  obtain ⟨a, cap, rfl, h1, h2, h3⟩ := id h
  by_cases hno : fs.length = 0 ∨ 4611686018427387903 < n
  · refine (rencode_no n fs a cap w h2 h1 hno).mono ?_
    rintro e w' ⟨rfl, m⟩
    refine ⟨m, .inr ⟨?_, rfl⟩⟩
    rw [← okP_okF]
    rcases hno with q | q
    · exact okP_false1 q
    · exact okP_false2 q
  unfold maxLen at h2
  clear h3
  have d1 : (0 : Int) < fs.length := by omega
  have d2 : (n : Int) ≤ 4611686018427387903 := by omega
  have EO : Hid (okP n fs = sndTo fs fs.length) := by
    have q1 : decide (n ≤ 4611686018427387903) = true := decide_eq_true (by omega)
    have q2 : decide (0 < fs.length) = true := decide_eq_true (by omega)
    show _ = _
    rw [okP, q1, q2, Bool.true_and, Bool.true_and]
  rw [← body_bodyF] at hb
  have Hb := hide hb
  have Hd := hide hd
  have H := hide h
  clear hb hd h hno
  have hv := fun w => rvint_any (.slice none 0 0) [] n w (OB.nil w) (by simp) (by omega)
  obtain ⟨W0, hW0⟩ : ∃ W0, w.alloc (.cells #[.int .u64 (n : Int), .slice a fs.length cap] 37) = W0 := ⟨_, rfl⟩
  have m0 : Mod NoB w W0 := by rw [← hW0]; exact (Mod.refl _ _).alloc _
  have c0 : W0.cell? ⟨w.heap.size, 0, none⟩ = some (.int .u64 (n : Int)) := by rw [← hW0]; exact cell_of_obj (heap_alloc_new w _) rfl
  have c1 : W0.cell? ⟨w.heap.size, 1, none⟩ = some (.slice a fs.length cap) := by rw [← hW0]; exact cell_of_obj (heap_alloc_new w _) rfl
  have HM0 := hide m0
  have Hc0 := hide c0
  have Hc1 := hide c1
  have HW0 := hide hW0
  clear m0 c0 c1 hW0
  go_enter Tryz.func23, Tryz.ntmps23
  go_wp2_with fail
  rw [HW0.out]
  go_loopw [4, 5] (fun okv i wr => ∃ k : Nat, k ≤ fs.length ∧ i = .int .i64 k ∧ Mod NoB W0 wr ∧ ∃ b, okv = .bool b ∧ Hid (b = true → sndTo fs k = true) ∧ Hid (b = false → okP n fs = false)) (fun _ i _ => fs.length - (intOf i).toNat)
  case atStart => exact ⟨0, Nat.zero_le _, rfl, Mod.refl _ _, true, rfl, hide fun _ => rfl, hide (fun e => by cases e)⟩
  case round =>
    obtain ⟨k, hk, rfl, hm, b, rfl, hsnd, hno⟩ := hrel
    have c1 := hm.cell (a := ⟨w.heap.size, 1, none⟩) (fun x => x) Hc1.out
    have c0 := hm.cell (a := ⟨w.heap.size, 0, none⟩) (fun x => x) Hc0.out
    have HM := hide hm
    clear hm
    cases b
    · have HNO := hide (hno.out rfl)
      by_cases hlt : k < fs.length
      · go_wp2_with fail
        go_ret2
        refine ⟨HM0.out.trans HM.out, .inr ⟨?_, rfl⟩⟩
        rw [← okP_okF]
        exact HNO.out
      · go_wp2_with fail
        go_ret2
        refine ⟨HM0.out.trans HM.out, .inr ⟨?_, rfl⟩⟩
        rw [← okP_okF]
        exact HNO.out
    · by_cases hlt : k < fs.length
      · obtain ⟨fr, hfr⟩ : ∃ fr, fs[k]? = some fr := ⟨fs[k], List.getElem?_eq_getElem hlt⟩
        have HFS : FrsAt wr (.slice a fs.length cap) fs := (H.out.mod0 HM0.out).mod0 HM.out
        obtain ⟨a', cap', hv', _, _, h3⟩ := HFS
        cases hv'
        obtain ⟨f, rv⟩ := fr
        obtain ⟨⟨g, o, rfl, hc⟩, hrr⟩ := h3 k (f, rv) hfr
        simp only at hc hrr
        obtain ⟨ra, rc, rfl, _⟩ := id hrr
        obtain ⟨hc0, hc1, hc2, hc3, hc4, hc5, hc6, hc7, hc8, hc9⟩ := fr_cells hc
        have Hsn := hide (sndTo_succ fs k _ hfr)
        have Hsf := hide (sndTo_false fs k _ hfr)
        obtain ⟨hd1, hd2⟩ := Hd.out _ (List.mem_of_getElem? hfr)
        have ks := rsound_any f ra rc wr hrr hd2 hd1
        unfold frCells at ks
        clear hc hrr h3 hd1 hd2
        obtain ⟨sb, hsb⟩ : ∃ sb, soundF f = sb := ⟨_, rfl⟩
        have HSB := hide hsb
        rw [hsb] at ks
        clear hsb
        go_wp2_with fail
        refine ks.mono ?_
        clear ks
        rintro e w2 ⟨rfl, m2⟩
        have HS : Hid (sb = true → sndTo fs (k + 1) = true) := hide (fun e => by rw [Hsn.out, hsnd.out (by trivial), HSB.out, e]; rfl)
        have HNO : Hid (sb = false → okP n fs = false) := hide (fun e => by rw [EO.out]; exact Hsf.out (by rw [HSB.out, e]))
        have HM2 := hide (HM.out.trans m2)
        clear m2 c0 c1 hc0 hc1 hc2 hc3 hc4 hc5 hc6 hc7 hc8 hc9
        go_wp2_with fail
        go_roundw
        case rel => exact ⟨k + 1, by omega, by go_num, HM2.out, sb, rfl, HS, HNO⟩
        case measure => simp [intOf]; omega
      · have hkn : k = fs.length := by omega
        have HO : Hid (okP n fs = true) := by
          show _ = _
          rw [EO.out, ← hkn]
          exact hsnd.out rfl
        have HSN : Hid (sndTo fs fs.length = true) := by show _ = _; rw [← hkn]; exact hsnd.out (by trivial)
        clear hkn
        obtain ⟨WB, hWB⟩ : ∃ WB, WB = wr := ⟨_, rfl⟩
        subst hWB
        go_wp2_with (go_at_call 50; refine (hv _).mono ?_; rintro e w1 ⟨v1, rfl, ap⟩; have A1 := hide ap; have c1' := ap.mod0.cell (a := ⟨w.heap.size, 1, none⟩) (fun x => x) c1; clear ap)
        go_loopw [6, 7] (fun vb i wr => ∃ j : Nat, j ≤ fs.length ∧ i = .int .i64 j ∧ App WB (.slice none 0 0) [] (vint n ++ bodyTo fs j) vb wr) (fun _ i _ => fs.length - (intOf i).toNat)
        case atStart => exact ⟨0, Nat.zero_le _, rfl, by simpa [bodyTo] using A1.out⟩
        case round =>
          obtain ⟨j, hj, rfl, hA⟩ := hrel
          have HA := hide hA
          have HFS : FrsAt wr (.slice a fs.length cap) fs := ((H.out.mod0 HM0.out).mod0 HM.out).mod0 hA.mod0
          have hvn : 0 < ([] ++ (vint n ++ bodyTo fs j) : List UInt8).length := by
            have := vint_pos n
            simp
            omega
          have cq := hA.mod0.cell (a := ⟨w.heap.size, 1, none⟩) (fun x => x) c1
          obtain ⟨ab, cb, hvb, _, _, hab⟩ := own_form hA.own
          obtain ⟨gb, rfl⟩ := hab hvn
          clear hab c1 c0 c1'
          by_cases hlt : j < fs.length
          · obtain ⟨fr, hfr⟩ : ∃ fr, fs[j]? = some fr := ⟨fs[j], List.getElem?_eq_getElem hlt⟩
            obtain ⟨a', cap', hv', _, _, h3⟩ := HFS
            cases hv'
            obtain ⟨f, rv⟩ := fr
            obtain ⟨⟨g, o, rfl, hc⟩, hrr⟩ := h3 j (f, rv) hfr
            simp only at hc hrr
            obtain ⟨ra, rc, rfl, _⟩ := id hrr
            have hrw : RR w (.slice ra f.rngs.length rc) f.rngs := by
              obtain ⟨_, _, _, _, _, h4⟩ := H.out
              exact (h4 j _ hfr).2
            obtain ⟨hc0, hc1, hc2, hc3, hc4, hc5, hc6, hc7, hc8, hc9⟩ := fr_cells hc
            have Hs := hide (bodyTo_succ fs j _ hfr)
            obtain ⟨hd1, hd2⟩ := Hd.out _ (List.mem_of_getElem? hfr)
            have hle := bodyTo_le fs j
            have hbb := Hb.out
            have hsf : soundF f = true := by
              cases hq : soundF f
              · have := sndTo_false fs j _ hfr hq
                rw [HSN.out] at this
                cases this
              · rfl
            have hap := rwrite_any u6 ([] ++ (vint n ++ bodyTo fs j)) f ra rc wr hsf hA.own (fun hpos g' o' n' c' hv hx => ?_) hrr hd2 hd1 (by
              simp only [body, List.nil_append, List.length_append] at hbb ⊢
              omega)
            · clear hA hc hrr hd1 hd2 hle hbb h3 hsf hrw
              unfold frCells at hap
              obtain ⟨Ln, hLn⟩ : ∃ q, ([] ++ (vint n ++ bodyTo fs j) : List UInt8).length = q := ⟨_, rfl⟩
              rw [hLn] at hvb hvn
              have HL : Hid (0 < Ln ∧ ([] ++ (vint n ++ bodyTo fs j) : List UInt8).length = Ln) := ⟨hvn, hLn⟩
              clear hLn
              subst hvb
              go_wp2_with fail
              refine hap.mono ?_
              rintro e w2 ⟨v2, rfl, ap2⟩
              have A2 := HA.out.trans ap2
              obtain ⟨ab2, cb2, rfl, _, _, hab2⟩ := own_form A2.own
              obtain ⟨gb2, rfl⟩ := hab2 (by simp; have := HL.out; simp at this; omega)
              have HA2 := hide A2
              obtain ⟨L2, hL2⟩ : ∃ q, ([] ++ ((vint n ++ bodyTo fs j) ++ bytesF f) : List UInt8).length = q := ⟨_, rfl⟩
              rw [hL2] at HA2
              rw [hL2]
              clear A2 ap2 hap hab2 hL2 cq hc0 hc1 hc2 hc3 hc4 hc5 hc6 hc7 hc8 hc9
              go_wp2_with fail
              go_roundw
              case rel => exact ⟨j + 1, by omega, by go_num, by rw [Hs.out, ← List.append_assoc]; exact HA2.out⟩
              case measure => simp [intOf]; omega
            · cases hv
              obtain ⟨_, _, hv2, _, _, hr3⟩ := hrw
              cases hv2
              obtain ⟨_, _, e, hc0', _⟩ := hr3 0 hpos
              cases e
              have hl := lt_of_cell hc0'
              have hx : (u6 : Value).ownBlock = some g' := hx
              rcases HA.out.at_ _ hx with h1 | h1
              · cases h1
              · have := (HM0.out.trans HM.out).size
                omega
          · have hjn : j = fs.length := by omega
            have hA' : App WB (.slice none 0 0) [] (body n fs) u6 wr := by
              have := HA.out
              rwa [hjn] at this
            have hseal := rsealed_any u6 (body n fs) wr hA'.own.br (by have := Hb.out; omega)
            have HA' := hide hA'
            obtain ⟨Ln, hLn⟩ : ∃ q, ([] ++ (vint n ++ bodyTo fs j) : List UInt8).length = q := ⟨_, rfl⟩
            rw [hLn] at hvb
            clear hA' hjn HFS hvn HA hA hLn
            subst hvb
            go_wp2_with (go_at_call 10; refine hseal.mono ?_; rintro e w2 ⟨v2, rfl, ho, m2, hn2⟩; have HB2 := hide ho; have HN2 := hide hn2; have HMM := hide m2; clear ho hn2 m2)
            go_ret2
            have mm : Mod NoB w wr := (HM0.out.trans HM.out).trans HA'.out.mod0
            refine ⟨mm.trans HMM.out, .inl ⟨?_, _, rfl, ?_, fun g hg => ?_⟩⟩
            · rw [← okP_okF]; exact HO.out
            · rw [← body_bodyF]; exact HB2.out
            · have := HN2.out g hg
              have := mm.size
              omega
end Go.Proofs.YtddfdpbaiedcjabGreatDoor
/- mediawireref.reader: number. -/
namespace Go.Proofs.YtddfdpbaiedcjabGreatDoor
open Go.RowKit

/-- The document's reader lies there: its bytes, its place, whether they ended too early. -/
def RRd (w : World) (rb : Nat) (v : Value) (pos : Nat) (bad : Bool) : Prop := w.heap[rb]? = some (.cells #[v, .int .i64 (pos : Int), .bool bad] 52 (0, 0))

theorem RRd.mod {S : Nat → Prop} {w w' : World} {rb pos : Nat} {v : Value} {bad : Bool} (h : RRd w rb v pos bad) (m : Mod S w w') (hs : ¬ S rb) : RRd w' rb v pos bad := m.obj hs h
theorem RRd.c0 {w : World} {rb pos : Nat} {v : Value} {bad : Bool} (h : RRd w rb v pos bad) : w.cell? ⟨rb, 0, none⟩ = some v := cell_of_obj h rfl
theorem RRd.c1 {w : World} {rb pos : Nat} {v : Value} {bad : Bool} (h : RRd w rb v pos bad) : w.cell? ⟨rb, 1, none⟩ = some (.int .i64 (pos : Int)) := cell_of_obj h rfl
theorem RRd.c2 {w : World} {rb pos : Nat} {v : Value} {bad : Bool} (h : RRd w rb v pos bad) : w.cell? ⟨rb, 2, none⟩ = some (.bool bad) := cell_of_obj h rfl
theorem RRd.fail {w : World} {rb pos : Nat} {v : Value} {bad : Bool} (h : RRd w rb v pos bad) : RRd (w.setCell ⟨rb, 2, none⟩ (.bool true)) rb v pos true := by
  unfold RRd at h ⊢
  rw [obj_setCell h]
  simp
theorem RRd.go {w : World} {rb pos : Nat} {v : Value} {bad : Bool} (h : RRd w rb v pos bad) (p : Nat) (z : Int) (hz : z = (p : Int)) : RRd (w.setCell ⟨rb, 1, none⟩ (.int .i64 z)) rb v p bad := by
  unfold RRd at h ⊢
  rw [obj_setCell h, hz]
  simp

/-- What reading a number answers. -/
def RNum (w : World) (rb : Nat) (v : Value) (bs : List UInt8) (pos : Nat) (bad : Bool) (e : Ending) (w' : World) : Prop :=
  ∃ n p bad', e = .returned (.int .u64 ((n : Nat) : Int)) ∧ RRd w' rb v p bad' ∧ pos ≤ p ∧ p ≤ bs.length ∧ n < 4611686018427387904 ∧ Mod (Only rb) w w' ∧ ((bad' = bad ∧ rdVar bs pos = some (n, p)) ∨ (bad' = true ∧ rdVar bs pos = none))

theorem rdVar_bound {bs : List UInt8} {pos n p : Nat} (h : rdVar bs pos = some (n, p)) : n < 4611686018427387904 ∧ pos ≤ p ∧ p ≤ bs.length := by
  unfold rdVar at h
  cases hc : bs[pos]? with
  | none => rw [hc] at h; cases h
  | some c =>
    rw [hc] at h
    simp only at h
    split at h
    · rename_i hfit
      cases h
      have h1 := rdNum_lt c ((bs.drop (pos + 1)).take (vsz c - 1))
      have hcl := c.toNat_lt
      have hz8 : vsz c ≤ 8 := by
        have hq : c.toNat / 64 = 0 ∨ c.toNat / 64 = 1 ∨ c.toNat / 64 = 2 ∨ c.toNat / 64 = 3 := by omega
        unfold vsz
        rcases hq with e | e | e | e <;> rw [e] <;> decide
      have h2 : ((bs.drop (pos + 1)).take (vsz c - 1)).length ≤ 7 := by rw [List.length_take]; omega
      have h3 : 256 ^ ((bs.drop (pos + 1)).take (vsz c - 1)).length ≤ 256 ^ 7 := Nat.pow_le_pow_right (by omega) h2
      have h5 : 64 * 256 ^ ((bs.drop (pos + 1)).take (vsz c - 1)).length ≤ 64 * 256 ^ 7 := Nat.mul_le_mul_left _ h3
      have h6 : 64 * 256 ^ 7 ≤ 4611686018427387904 := by decide
      exact ⟨Nat.lt_of_lt_of_le h1 (Nat.le_trans h5 h6), by omega, hfit⟩
    · cases h

set_option maxRecDepth 100000 in
set_option maxHeartbeats 1000000 in
theorem rnumber_any (rb pos : Nat) (v : Value) (bs : List UInt8) (bad : Bool) (w : World) (h : RRd w rb v pos bad) (hb : BR w v bs) (hv : OffS (Only rb) v) (hp : pos ≤ bs.length) (hbl : bs.length ≤ 1099511627776) :
    Calls Tryz.prog 11 #[.pointer (some ⟨rb, 0, none⟩)] w (RNum w rb v bs pos bad) := by
  obtain ⟨a, cap, rfl, h1, h2, h3⟩ := id hb
  unfold maxLen at h2
  have k0 := h.c0
  have k1 := h.c1
  have k2 := h.c2
  have kz : w.frozen? ⟨rb, 2, none⟩ = false := frozen_of_obj h
  have H := hide h
  have HB := hide hb
  clear h hb
  by_cases hlt : pos < bs.length
  · obtain ⟨c, hc⟩ : ∃ c, bs[pos]? = some c := ⟨bs[pos], List.getElem?_eq_getElem hlt⟩
    obtain ⟨g, o, rfl, hcell⟩ := h3 pos c hc
    have hcl := c.toNat_lt
    have Hq := hide (show c.toNat / 64 = 0 ∨ c.toNat / 64 = 1 ∨ c.toNat / 64 = 2 ∨ c.toNat / 64 = 3 by omega)
    have hz1 : 1 ≤ vsz c := Nat.one_le_two_pow
    have hz8 : vsz c ≤ 8 := by
      unfold vsz
      rcases Hq.out with e | e | e | e <;> rw [e] <;> decide
    have HRV : Hid (rdVar bs pos = if pos + vsz c ≤ bs.length then some (rdNum c ((bs.drop (pos + 1)).take (vsz c - 1)), pos + vsz c) else none) := by
      show _ = _
      unfold rdVar
      rw [hc]
    have HC := hide hc
    have HVZ : Hid (vsz c = 2 ^ (c.toNat / 64)) := rfl
    have HN0 : Hid (rdNum c [] = c.toNat % 64) := rfl
    obtain ⟨d, hd⟩ : ∃ d, c.toNat = d := ⟨_, rfl⟩
    rw [hd] at hcell hcl Hq HVZ HN0
    have hge : ¬ ((bs.length : Int) ≤ pos) := by omega
    clear hc hd h3
    go_enter Tryz.func11, Tryz.ntmps11
    go_wp2_with fail
    go_quiet (fail)
    obtain ⟨n1, hn1⟩ : ∃ n1, nq = n1 := ⟨_, rfl⟩
    rw [hn1]
    clear hn1
    go_wp2_with fail
    go_quiet (fail)
    obtain ⟨n2, hn2⟩ : ∃ n2, nq = n2 := ⟨_, rfl⟩
    rw [hn2]
    clear hn2
    go_wp2_with fail
    go_quiet (fail)
    obtain ⟨n3, hn3⟩ : ∃ n3, nq = n3 := ⟨_, rfl⟩
    rw [hn3]
    clear hn3
    go_wp2_with fail
    obtain ⟨W, hW⟩ : ∃ W, ((w.drewN n1).drewN n2).drewN n3 = W := ⟨_, rfl⟩
    rw [hW]
    have M1 : Hid (Mod NoB w W) := by rw [← hW]; exact (((Mod.refl NoB w).drewN _).drewN _).drewN _
    clear hW
    have H1 := hide (H.out.mod M1.out (fun x => x))
    have HB1 := hide (HB.out.mod M1.out (OffS.no _))
    clear k0 k1 k2 kz hcell
    obtain ⟨t, ht⟩ : ∃ t, d / 64 = t := ⟨_, rfl⟩
    rw [ht] at HVZ Hq
    have hti : (d : Int) / 64 = (t : Int) := by omega
    have ht3 : t ≤ 3 := by rcases Hq.out with e | e | e | e <;> omega
    rw [hti]
    clear ht hti
    go_loop [4, 5] (fun s k => ∃ j : Nat, j ≤ t ∧ s = .int .i64 ((2 ^ j : Nat) : Int) ∧ k = .int .u8 ((t - j : Nat) : Int)) (fun _ k => (intOf k).toNat)
    case atStart => exact ⟨0, Nat.zero_le _, rfl, rfl⟩
    case round =>
      obtain ⟨j, hj, rfl, rfl⟩ := hrel
      by_cases hjt : j < t
      · have hx4 : 2 ^ j ≤ 4 := by
          have : j = 0 ∨ j = 1 ∨ j = 2 := by omega
          rcases this with e | e | e <;> rw [e] <;> decide
        have HX : Hid (2 ^ (j + 1) = 2 ^ j * 2) := Nat.pow_succ ..
        obtain ⟨x, hx⟩ : ∃ x, 2 ^ j = x := ⟨_, rfl⟩
        rw [hx] at hx4 HX ⊢
        obtain ⟨y, hy⟩ : ∃ y, t - j = y := ⟨_, rfl⟩
        have HY : Hid (t - (j + 1) + 1 = y) := by show _ = _; omega
        have hy0 : 0 < y := by omega
        have hy3 : y ≤ 3 := by omega
        rw [hy]
        clear hx hy
        go_wp2_with fail
        go_round
        case rel => exact ⟨j + 1, by omega, by rw [HX.out]; go_num, by have := HY.out; go_num⟩
        case measure => simp [intOf]; omega
      · have hjt2 : j = t := by omega
        subst hjt2
        rw [Nat.sub_self, ← HVZ.out]
        obtain ⟨z, hz⟩ : ∃ z, vsz c = z := ⟨_, rfl⟩
        rw [hz] at hz1 hz8 HRV HVZ ⊢
        have q0 := H1.out.c0
        have q1 := H1.out.c1
        have q2 := H1.out.c2
        have qz : W.frozen? ⟨rb, 2, none⟩ = false := frozen_of_obj H1.out
        by_cases hfit : pos + z ≤ bs.length
        · have HR : Hid (rdVar bs pos = some (rdNum c ((bs.drop (pos + 1)).take (z - 1)), pos + z)) := by
            show _ = _
            rw [HRV.out, if_pos hfit]
          have hng : ¬ ((bs.length : Int) < pos + z) := by omega
          have e4 : IntKind.i64.wrap ((pos : Int) + z) = (pos : Int) + z := IntWalk.i64_in _ (by omega)
          go_wp2_with fail
          go_quiet (fail)
          go_wp2_with fail
          go_loopw [3, 6] (fun n i wr => ∃ j q : Nat, 1 ≤ j ∧ j ≤ z ∧ i = .int .i64 j ∧ n = .int .u64 (rdNum c ((bs.drop (pos + 1)).take (j - 1)) : Int) ∧ wr = W.drewN q) (fun _ i _ => z - (intOf i).toNat)
          case atStart => exact ⟨1, nq, Nat.le_refl _, hz1, rfl, by rw [show (1 : Nat) - 1 = 0 from rfl, List.take_zero, HN0.out]; rfl, rfl⟩
          case round =>
            obtain ⟨j, q, hj1, hj2, rfl, rfl, rfl⟩ := hrel
            by_cases hjz : j < z
            · obtain ⟨x, hx⟩ : ∃ x, bs[pos + j]? = some x := ⟨bs[pos + j], List.getElem?_eq_getElem (by omega)⟩
              obtain ⟨_, _, hvv, _, _, h3⟩ := HB1.out
              cases hvv
              obtain ⟨g', o', hgo, hc2⟩ := h3 (pos + j) x hx
              cases hgo
              have HS : Hid (rdNum c ((bs.drop (pos + 1)).take (j + 1 - 1)) = rdNum c ((bs.drop (pos + 1)).take (j - 1)) * 256 + x.toNat) := by
                show _ = _
                rw [show j + 1 - 1 = (j - 1) + 1 by omega, take_succ_at (bs.drop (pos + 1)) (j - 1) x (by rw [List.getElem?_drop, show pos + 1 + (j - 1) = pos + j by omega]; exact hx), rdNum_snoc]
              have hbd : rdNum c ((bs.drop (pos + 1)).take (j - 1)) < 72057594037927936 := by
                have h1 := rdNum_lt c ((bs.drop (pos + 1)).take (j - 1))
                have h2 : ((bs.drop (pos + 1)).take (j - 1)).length ≤ 6 := by rw [List.length_take]; omega
                have h3 : 256 ^ ((bs.drop (pos + 1)).take (j - 1)).length ≤ 256 ^ 6 := Nat.pow_le_pow_right (by omega) h2
                have h5 : 64 * 256 ^ ((bs.drop (pos + 1)).take (j - 1)).length ≤ 64 * 256 ^ 6 := Nat.mul_le_mul_left _ h3
                have h6 : 64 * 256 ^ 6 ≤ 72057594037927936 := by decide
                exact Nat.lt_of_lt_of_le h1 (Nat.le_trans h5 h6)
              obtain ⟨m, hm⟩ : ∃ m, rdNum c ((bs.drop (pos + 1)).take (j - 1)) = m := ⟨_, rfl⟩
              have hxl := x.toNat_lt
              rw [hm] at hbd HS ⊢
              have hw1 : IntKind.u64.wrap ((m : Int) * 256) = (m : Int) * 256 := by rw [IntKind.wrap_u64]; omega
              have hw2 : IntKind.u64.wrap ((m : Int) * 256 + x.toNat) = (m : Int) * 256 + x.toNat := by rw [IntKind.wrap_u64]; omega
              have hw3 : IntKind.i64.wrap ((pos : Int) + j) = (pos : Int) + j := IntWalk.i64_in _ (by omega)
              have hw4 : ((pos : Int) + j).toNat = pos + j := by omega
              clear hm h3 hx
              go_wp2_with fail
              go_quiet (fail)
              go_wp2_with fail
              go_roundw
              case rel => exact ⟨j + 1, q + nq, by omega, by omega, by go_num, by rw [HS.out]; go_num, by simp⟩
              case measure => simp [intOf]; omega
            · have hje : j = z := by omega
              subst hje
              have qz1 : W.frozen? ⟨rb, 1, none⟩ = false := frozen_of_obj H1.out
              go_wp2_with fail
              go_ret
              have hd := ((H1.out.mod (S := NoB) ((Mod.refl NoB W).drewN q) (fun x => x)).go (pos + j) ((pos : Int) + j) (by omega))
              have hbnd := rdVar_bound HR.out
              exact ⟨_, _, bad, rfl, hd, by omega, hfit, hbnd.1, (M1.out.mono (fun i hi => hi.elim)).then (((Mod.refl (Only rb) W).drewN _).setCell (p := ⟨rb, 1, none⟩) (.inl rfl) _) (fun i hi => .inl hi), .inl ⟨rfl, HR.out⟩⟩
        · have HR : Hid (rdVar bs pos = none) := by
            show _ = _
            rw [HRV.out, if_neg hfit]
          have hng : (bs.length : Int) < pos + z := by omega
          have e4 : IntKind.i64.wrap ((pos : Int) + z) = (pos : Int) + z := IntWalk.i64_in _ (by omega)
          go_wp2_with fail
          go_quiet (fail)
          go_wp2_with fail
          go_ret
          have hd := (H1.out.mod (S := NoB) ((Mod.refl NoB W).drewN nq) (fun x => x)).fail
          exact ⟨0, pos, true, rfl, hd, Nat.le_refl _, hp, by omega, (M1.out.mono (fun i hi => hi.elim)).then (((Mod.refl (Only rb) W).drewN _).setCell (p := ⟨rb, 2, none⟩) (.inl rfl) _) (fun i hi => .inl hi), .inr ⟨rfl, HR.out⟩⟩
  · have HR : Hid (rdVar bs pos = none) := by
      show _ = _
      unfold rdVar
      rw [List.getElem?_eq_none (by omega)]
    have hge : (bs.length : Int) ≤ pos := by omega
    clear h3
    go_enter Tryz.func11, Tryz.ntmps11
    go_wp2_with fail
    go_quiet (fail)
    go_wp2_with fail
    go_ret
    have hd := (H.out.mod (S := NoB) ((Mod.refl NoB w).drewN nq) (fun x => x)).fail
    exact ⟨0, pos, true, rfl, hd, Nat.le_refl _, hp, by omega, ((Mod.refl (Only rb) w).drewN _).setCell (p := ⟨rb, 2, none⟩) (.inl rfl) _, .inr ⟨rfl, HR.out⟩⟩
end Go.Proofs.YtddfdpbaiedcjabGreatDoor
/- mediawireref.reader: stream, text. -/
namespace Go.Proofs.YtddfdpbaiedcjabGreatDoor
open Go.RowKit

def RStr (w : World) (rb : Nat) (v : Value) (bs : List UInt8) (pos : Nat) (bad : Bool) (e : Ending) (w' : World) : Prop :=
  ∃ n p bad', e = .returned (.int .i64 ((n : Nat) : Int)) ∧ RRd w' rb v p bad' ∧ pos ≤ p ∧ p ≤ bs.length ∧ n < 8 ∧ Mod (Only rb) w w' ∧ ((bad' = bad ∧ rdStream bs pos = some (n, p)) ∨ (bad' = true ∧ rdStream bs pos = none))

theorem rstr_any (rb pos : Nat) (v : Value) (bs : List UInt8) (bad : Bool) (w : World) (h : RRd w rb v pos bad) (hb : BR w v bs) (hv : OffS (Only rb) v) (hp : pos ≤ bs.length) (hbl : bs.length ≤ 1099511627776) :
    Calls Tryz.prog 27 #[.pointer (some ⟨rb, 0, none⟩)] w (RStr w rb v bs pos bad) := by
  have k1 := rnumber_any rb pos v bs bad w h hb hv hp hbl
  clear h hb hv
  go_enter Tryz.func27, Tryz.ntmps27
  go_wp2_with fail
  refine k1.mono ?_
  rintro e w1 ⟨n, p, bad', rfl, hr, hp1, hp2, hn, hm, hres⟩
  have q2 := hr.c2
  have qz : w1.frozen? ⟨rb, 2, none⟩ = false := frozen_of_obj hr
  have H := hide hr
  have M := hide hm
  have HRES := hide hres
  clear hr hm hres k1
  by_cases h8 : 8 ≤ n
  · have d : (8 : Int) ≤ n := by omega
    go_wp2_with fail
    go_ret
    refine ⟨0, p, true, rfl, H.out.fail, hp1, hp2, by omega, M.out.trans ((Mod.refl (Only rb) w1).setCell (p := ⟨rb, 2, none⟩) (.inl rfl) _), .inr ⟨rfl, ?_⟩⟩
    rcases HRES.out with ⟨_, e⟩ | ⟨_, e⟩
    · unfold rdStream
      rw [e]
      simp
      omega
    · unfold rdStream
      rw [e]
      rfl
  · have d : ¬ (8 : Int) ≤ n := by omega
    have z : IntKind.i64.wrap (n : Int) = (n : Int) := IntWalk.i64_in _ (by omega)
    go_wp2_with fail
    go_ret
    refine ⟨n, p, bad', rfl, H.out, hp1, hp2, by omega, M.out, ?_⟩
    rcases HRES.out with ⟨e1, e⟩ | ⟨e1, e⟩
    · refine .inl ⟨e1, ?_⟩
      unfold rdStream
      rw [e]
      simp
      omega
    · refine .inr ⟨e1, ?_⟩
      unfold rdStream
      rw [e]
      rfl

def RTxt (w : World) (rb : Nat) (v : Value) (bs : List UInt8) (pos : Nat) (bad : Bool) (e : Ending) (w' : World) : Prop :=
  ∃ l p bad', e = .returned (.string (strOf l)) ∧ RRd w' rb v p bad' ∧ pos ≤ p ∧ p ≤ bs.length ∧ l.length ≤ bs.length ∧ Mod (Only rb) w w' ∧ ((bad = false ∧ bad' = false ∧ rdText bs pos = some (l, p)) ∨ (bad' = true ∧ (bad = true ∨ rdText bs pos = none)))

set_option maxRecDepth 100000 in
set_option maxHeartbeats 1000000 in
theorem rtxt_any (rb pos : Nat) (v : Value) (bs : List UInt8) (bad : Bool) (w : World) (h : RRd w rb v pos bad) (hb : BR w v bs) (hv : OffS (Only rb) v) (hp : pos ≤ bs.length) (hbl : bs.length ≤ 1099511627776) :
    Calls Tryz.prog 28 #[.pointer (some ⟨rb, 0, none⟩)] w (RTxt w rb v bs pos bad) := by
  have k1 := rnumber_any rb pos v bs bad w h hb hv hp hbl
  have HB := hide hb
  have HV := hide hv
  obtain ⟨a, cap, rfl, hc1, hc2, h3⟩ := hb
  unfold maxLen at hc2
  clear h hv h3
  go_enter Tryz.func28, Tryz.ntmps28
  go_wp2_with fail
  refine k1.mono ?_
  rintro e w1 ⟨n, p, bad', rfl, hr, hp1, hp2, hn, hm, hres⟩
  have q0 := hr.c0
  have q1 := hr.c1
  have q2 := hr.c2
  have qz : w1.frozen? ⟨rb, 2, none⟩ = false := frozen_of_obj hr
  have qz1 : w1.frozen? ⟨rb, 1, none⟩ = false := frozen_of_obj hr
  have H := hide hr
  have M := hide hm
  have HRES := hide hres
  have HB1 := hide (HB.out.mod hm HV.out)
  clear hr hm hres k1
  have e1 : IntKind.i64.wrap ((bs.length : Int) - p) = (bs.length : Int) - p := IntWalk.i64_in _ (by omega)
  have e2 : IntKind.u64.wrap ((bs.length : Int) - p) = (bs.length : Int) - p := by rw [IntKind.wrap_u64]; omega
  cases bad'
  · by_cases d : (bs.length : Int) - p < n
    · have hd : decide ((bs.length : Int) - p < n) = true := decide_eq_true d
      go_wp2_with fail
      go_quiet (fail)
      go_wp2_with fail
      go_ret
      have hd := (H.out.mod (S := NoB) ((Mod.refl NoB w1).drewN nq) (fun x => x)).fail
      refine ⟨[], p, true, rfl, hd, hp1, hp2, Nat.zero_le _, M.out.trans (((Mod.refl (Only rb) w1).drewN nq).setCell (p := ⟨rb, 2, none⟩) (.inl rfl) _), .inr ⟨rfl, ?_⟩⟩
      rcases HRES.out with ⟨e3, e⟩ | ⟨e3, e⟩
      · refine .inr ?_
        unfold rdText
        rw [e]
        simp
        omega
      · cases e3
    · have hd : decide ((bs.length : Int) - p < n) = false := decide_eq_false d
      have hpn : p + n ≤ bs.length := by omega
      have e3 : IntKind.i64.wrap (n : Int) = (n : Int) := IntWalk.i64_in _ (by omega)
      have e4 : IntKind.i64.wrap ((p : Int) + n) = (p : Int) + n := IntWalk.i64_in _ (by omega)
      have e6 : ((p : Int) + n).toNat = p + n := by omega
      have hT : bad = false ∧ rdText bs pos = some ((bs.drop p).take n, p + n) := by
        rcases HRES.out with ⟨e3, e⟩ | ⟨e3, e⟩
        · refine ⟨e3.symm, ?_⟩
          unfold rdText
          rw [e]
          simp
          omega
        · cases e3
      have HT := hide hT
      clear hT d
      have hll : ((bs.drop p).take n).length ≤ bs.length := by simp; omega
      by_cases hc : p = cap
      · have hn0 : n = 0 := by omega
        subst hn0
        subst hc
        have hcv : ∀ a q, (convert 44 9 (.slice a 0 0)).run Tryz.prog (w1.drewN q) = .ok (.string (strOf [])) (w1.drewN q) := fun a q => br_string (BR.nil _ a 0 (by unfold maxLen; omega))
        go_wp2_with fail
        go_quiet (fail)
        obtain ⟨n1, hn1⟩ : ∃ n1, nq = n1 := ⟨_, rfl⟩
        rw [hn1]
        clear hn1
        go_wp2_with fail
        go_quiet (fail)
        go_wp2_with fail
        go_ret
        have hd := (H.out.mod (S := NoB) ((Mod.refl NoB w1).drewN (n1 + nq)) (fun x => x)).go (p + 0) ((p : Int)) (by omega)
        exact ⟨(bs.drop p).take 0, p + 0, false, rfl, hd, by omega, hpn, hll, M.out.trans (((Mod.refl (Only rb) w1).drewN (n1 + nq)).setCell (p := ⟨rb, 1, none⟩) (.inl rfl) _), .inl ⟨HT.out.1, rfl, HT.out.2⟩⟩
      · have hc' : ¬ cap = p := fun h => hc h.symm
        have hcv : ∀ q, (convert 44 9 (.slice (a.map fun x => x.add p) n (cap - p))).run Tryz.prog (w1.drewN q) = .ok (.string (strOf ((bs.drop p).take n))) (w1.drewN q) := fun q => br_string ((HB1.out.sub hpn).mod (S := NoB) ((Mod.refl _ _).drewN q) (OffS.no _))
        go_wp2_with fail
        go_quiet (fail)
        obtain ⟨n1, hn1⟩ : ∃ n1, nq = n1 := ⟨_, rfl⟩
        rw [hn1]
        clear hn1
        go_wp2_with fail
        go_quiet (fail)
        go_wp2_with fail
        go_ret
        have hd := (H.out.mod (S := NoB) ((Mod.refl NoB w1).drewN (n1 + nq)) (fun x => x)).go (p + n) ((p : Int) + n) (by omega)
        exact ⟨(bs.drop p).take n, p + n, false, rfl, hd, by omega, hpn, hll, M.out.trans (((Mod.refl (Only rb) w1).drewN (n1 + nq)).setCell (p := ⟨rb, 1, none⟩) (.inl rfl) _), .inl ⟨HT.out.1, rfl, HT.out.2⟩⟩
  · go_wp2_with fail
    go_quiet (fail)
    go_wp2_with fail
    go_ret
    have hd := (H.out.mod (S := NoB) ((Mod.refl NoB w1).drewN nq) (fun x => x)).fail
    refine ⟨[], p, true, rfl, hd, hp1, hp2, Nat.zero_le _, M.out.trans (((Mod.refl (Only rb) w1).drewN nq).setCell (p := ⟨rb, 2, none⟩) (.inl rfl) _), .inr ⟨rfl, ?_⟩⟩
    rcases HRES.out with ⟨e3, e⟩ | ⟨e3, e⟩
    · exact .inl e3.symm
    · refine .inr ?_
      unfold rdText
      rw [e]
      rfl
end Go.Proofs.YtddfdpbaiedcjabGreatDoor
/- mediawireref.reader: ranges. -/
namespace Go.Proofs.YtddfdpbaiedcjabGreatDoor
open Go.RowKit

/-- The ranges of an answer, from there on. -/
def rdAck (bs : List UInt8) (pos : Nat) : Option (Rngs × Nat) :=
  (rdVar bs pos).bind fun q1 => (rdVar bs q1.2).bind fun q2 => (rdVar bs q2.2).bind fun q3 => rdAckF bs (bs.length + 1) q1.1 q2.1 q3.1 q3.2 []

def RRng (w : World) (rb : Nat) (v : Value) (bs : List UInt8) (pos : Nat) (bad : Bool) (e : Ending) (w' : World) : Prop :=
  ∃ v' rs p bad', e = .returned v' ∧ OwnR w' v' rs ∧ (∀ g, v'.ownBlock = some g → w.heap.size ≤ g) ∧ RRd w' rb v p bad' ∧ pos ≤ p ∧ p ≤ bs.length ∧ rs.length ≤ bs.length + 1 ∧ Mod (Only rb) w w' ∧
    ((bad = false ∧ bad' = false ∧ rdAck bs pos = some (rs, p)) ∨ (bad' = true ∧ (bad = true ∨ rdAck bs pos = none)))

/-- Midway through the ranges. -/
def RngAt (w wr : World) (rb : Nat) (v : Value) (bs : List UInt8) (pos n i : Nat) (ov : Value) (R : Option (Rngs × Nat)) : Prop :=
  ∃ acc hi size p fuel, RRd wr rb v p false ∧ OwnR wr ov (acc ++ [(hi - size, hi)]) ∧ (∀ g, ov.ownBlock = some g → w.heap.size ≤ g) ∧ size ≤ hi ∧ hi < 4611686018427387904 ∧ pos ≤ p ∧ p ≤ bs.length ∧ Mod (Only rb) w wr ∧
    R = rdAckF bs fuel hi (n - i) size p acc ∧ bs.length - p < fuel ∧ acc.length ≤ p ∧ i ≤ n

theorem OwnR.one (w : World) (lo hi : Nat) (h1 : lo < 18446744073709551616) (h2 : hi < 18446744073709551616) :
    OwnR (w.alloc (.cells #[.int .u64 (lo : Int), .int .u64 (hi : Int)] 110)) (.slice (some ⟨w.heap.size, 0, none⟩) 1 1) [(lo, hi)] := by
  refine ⟨⟨rfl, .inr ⟨w.heap.size, 1, _, rfl, Nat.zero_le _, heap_alloc_new w _, Nat.le_refl _, by unfold maxLen; omega, rfl, rfl⟩⟩, fun i hi => ?_⟩
  have : i = 0 := by simpa using hi
  subst this
  exact ⟨h1, h2⟩

theorem rdAckF_step {bs : List UInt8} {f hi m size p : Nat} {acc : Rngs} (h : size ≤ hi) (hm : m ≠ 0) : rdAckF bs (f + 1) hi m size p acc =
    (rdVar bs p).bind fun q1 => (rdVar bs q1.2).bind fun q2 => if hi - size < 2 ∨ hi - size - 2 < q1.1 then none else rdAckF bs f (hi - size - 2 - q1.1) (m - 1) q2.1 q2.2 (acc ++ [(hi - size, hi)]) := by
  conv => lhs; unfold rdAckF
  rw [if_neg (by omega), if_neg hm]

theorem rdAckF_none {bs : List UInt8} {f hi m size p : Nat} {acc : Rngs} (h : hi < size) : rdAckF bs f hi m size p acc = none := by
  cases f with
  | zero => rfl
  | succ f => unfold rdAckF; rw [if_pos h]

theorem rdAckF_end {bs : List UInt8} {f hi size p : Nat} {acc : Rngs} (h : size ≤ hi) : rdAckF bs (f + 1) hi 0 size p acc = some (acc ++ [(hi - size, hi)], p) := by
  unfold rdAckF
  rw [if_neg (by omega), if_pos rfl]

theorem last_at (acc : Rngs) (r : Nat × Nat) : loAt (acc ++ [r]) acc.length = r.1 ∧ hiAt (acc ++ [r]) acc.length = r.2 := by simp [loAt, hiAt, List.getD]

set_option maxRecDepth 100000 in
set_option maxHeartbeats 2000000 in
theorem rrng_any (rb pos : Nat) (v : Value) (bs : List UInt8) (bad : Bool) (w : World) (h : RRd w rb v pos bad) (hb : BR w v bs) (hv : OffS (Only rb) v) (hp : pos ≤ bs.length) (hbl : bs.length ≤ 549755813888) :
    Calls Tryz.prog 26 #[.pointer (some ⟨rb, 0, none⟩)] w (RRng w rb v bs pos bad) := by
  have k1 := rnumber_any rb pos v bs bad w h hb hv hp (by omega)
  have hrl := lt_of_cell h.c0
  have HB := hide hb
  have HV := hide hv
  clear h hb hv
  go_enter Tryz.func26, Tryz.ntmps26
  go_wp2_with fail
  refine k1.mono ?_
  rintro e w1 ⟨n1, p1, b1, rfl, hr1, hp1, hq1, hn1, m1, res1⟩
  have k2 := rnumber_any rb p1 v bs b1 w1 hr1 (HB.out.mod m1 HV.out) HV.out hq1 (by omega)
  have M1 := hide m1
  have RES1 := hide res1
  clear k1 hr1 m1 res1
  go_wp2_with fail
  refine k2.mono ?_
  rintro e w2 ⟨n2, p2, b2, rfl, hr2, hp2, hq2, hn2, m2, res2⟩
  have k3 := rnumber_any rb p2 v bs b2 w2 hr2 ((HB.out.mod M1.out HV.out).mod m2 HV.out) HV.out hq2 (by omega)
  have M2 := hide (M1.out.trans m2)
  have RES2 := hide res2
  clear k2 hr2 m2 res2
  go_wp2_with fail
  refine k3.mono ?_
  rintro e w3 ⟨n3, p3, b3, rfl, hr3, hp3, hq3, hn3, m3, res3⟩
  have M3 := hide (M2.out.trans m3)
  have HB3 := hide (((HB.out.mod M2.out HV.out)).mod m3 HV.out)
  have H3 := hide hr3
  have RES3 := hide res3
  have q2 := hr3.c2
  have qz : w3.frozen? ⟨rb, 2, none⟩ = false := frozen_of_obj hr3
  clear k3 hr3 m3 res3
  have HALL : Hid ((b3 = false ∧ bad = false ∧ rdAck bs pos = rdAckF bs (bs.length + 1) n1 n2 n3 p3 []) ∨ (b3 = true ∧ (bad = true ∨ rdAck bs pos = none))) := by
    show _ ∨ _
    unfold rdAck
    rcases RES1.out with ⟨e1, r1⟩ | ⟨e1, r1⟩
    · rcases RES2.out with ⟨e2, r2⟩ | ⟨e2, r2⟩
      · rcases RES3.out with ⟨e3, r3⟩ | ⟨e3, r3⟩
        · cases hbad : bad
          · refine .inl ⟨by rw [e3, e2, e1, hbad], rfl, ?_⟩
            rw [r1]
            simp only [Option.bind_some]
            rw [r2]
            simp only [Option.bind_some]
            rw [r3]
            rfl
          · exact .inr ⟨by rw [e3, e2, e1, hbad], .inl rfl⟩
        · refine .inr ⟨e3, .inr ?_⟩
          rw [r1]
          simp only [Option.bind_some]
          rw [r2]
          simp only [Option.bind_some]
          rw [r3]
          rfl
      · rcases RES3.out with ⟨e3, r3⟩ | ⟨e3, r3⟩
        · refine .inr ⟨by rw [e3, e2], .inr ?_⟩
          rw [r1]
          simp only [Option.bind_some]
          rw [r2]
          rfl
        · refine .inr ⟨e3, .inr ?_⟩
          rw [r1]
          simp only [Option.bind_some]
          rw [r2]
          rfl
    · have hN : ((rdVar bs pos).bind fun q1 => (rdVar bs q1.2).bind fun q2 => (rdVar bs q2.2).bind fun q3 => rdAckF bs (bs.length + 1) q1.1 q2.1 q3.1 q3.2 []) = none := by rw [r1]; rfl
      rcases RES2.out with ⟨e2, r2⟩ | ⟨e2, r2⟩
      · rcases RES3.out with ⟨e3, r3⟩ | ⟨e3, r3⟩
        · exact .inr ⟨by rw [e3, e2, e1], .inr hN⟩
        · exact .inr ⟨e3, .inr hN⟩
      · rcases RES3.out with ⟨e3, r3⟩ | ⟨e3, r3⟩
        · exact .inr ⟨by rw [e3, e2], .inr hN⟩
        · exact .inr ⟨e3, .inr hN⟩
  have HFAIL : ∀ wf, Mod (Only rb) w wf → RRd wf rb v p3 true → (bad = true ∨ rdAck bs pos = none) → RRng w rb v bs pos bad (.returned (.slice none 0 0)) wf := fun wf hm hr hx =>
    ⟨_, [], p3, true, rfl, OwnR.nil _, fun g hg => (by cases hg), hr, by omega, hq3, Nat.zero_le _, hm, .inr ⟨rfl, hx⟩⟩
  have HF := hide HFAIL
  clear HFAIL
  cases b3
  · by_cases d : (n1 : Int) < n3
    · go_wp2_with fail
      go_ret
      refine HF.out _ (M3.out.trans ((Mod.refl (Only rb) w3).setCell (p := ⟨rb, 2, none⟩) (.inl rfl) _)) H3.out.fail ?_
      rcases HALL.out with ⟨_, _, e⟩ | ⟨e, _⟩
      · refine .inr ?_
        rw [e]
        unfold rdAckF
        rw [if_pos (by omega)]
      · cases e
    · have hle : n3 ≤ n1 := by omega
      have z1 : IntKind.u64.wrap ((n1 : Int) - n3) = ((n1 - n3 : Nat) : Int) := by rw [IntKind.wrap_u64]; omega
      have hA : bad = false ∧ rdAck bs pos = rdAckF bs (bs.length + 1) n1 n2 n3 p3 [] := by
        rcases HALL.out with ⟨_, e1, e2⟩ | ⟨e, _⟩
        · exact ⟨e1, e2⟩
        · cases e
      have HA := hide hA
      have HBAD : ∀ wf pf, Mod (Only rb) w wf → RRd wf rb v pf true → pos ≤ pf → pf ≤ bs.length → rdAck bs pos = none → RRng w rb v bs pos bad (.returned (.slice none 0 0)) wf := fun wf pf hm hr h1 h2 hx =>
        ⟨_, [], pf, true, rfl, OwnR.nil _, fun g hg => (by cases hg), hr, h1, h2, Nat.zero_le _, hm, .inr ⟨rfl, .inr hx⟩⟩
      have HBD := hide HBAD
      have H0 : RngAt w (w3.alloc (.cells #[.int .u64 ((n1 - n3 : Nat) : Int), .int .u64 (n1 : Int)] 110)) rb v bs pos n2 0 (.slice (some ⟨w3.heap.size, 0, none⟩) 1 1) (rdAck bs pos) := by
        have hm := M3.out.size
        refine ⟨[], n1, n3, p3, bs.length + 1, H3.out.mod (S := NoB) ((Mod.refl _ _).alloc _) (fun x => x), OwnR.one w3 _ _ (by omega) (by omega), fun g hg => ?_, hle, hn1, by omega, hq3, M3.out.alloc _, by rw [HA.out.2]; rfl, by omega, Nat.zero_le _, Nat.zero_le _⟩
        simp [Value.ownBlock] at hg
        omega
      obtain ⟨W3, hW3⟩ : ∃ W3, w3.alloc (.cells #[.int .u64 ((n1 - n3 : Nat) : Int), .int .u64 (n1 : Int)] 110) = W3 := ⟨_, rfl⟩
      rw [hW3] at H0
      have HW3 := hide hW3
      have HH0 := hide H0
      have hBF := hide hA.1
      have hd0 : decide (n1 < n3) = false := decide_eq_false (by omega)
      clear hA hW3 H0 HBAD
      go_wp2_with fail
      rw [HW3.out]
      clear q2 qz z1 d hle
      go_loopw [6, 7] (fun ov iv wr => ∃ i : Nat, iv = .int .u64 (i : Int) ∧ RngAt w wr rb v bs pos n2 i ov (rdAck bs pos)) (fun _ iv _ => n2 - (intOf iv).toNat)
      case atStart => exact ⟨0, rfl, HH0.out⟩
      case round =>
        obtain ⟨i, rfl, acc, hi, size, p, fuel, hr, ho, hn, hsz, hhi, hpp, hpq, hm, hR, hfu, hal, hin⟩ := hrel
        have hrl2 := lt_of_cell hr.c0
        have r2 := hr.c2
        obtain ⟨oa, oc, rfl, ho1, ho2, ho3⟩ := own_form ho.1
        have hlen : (acc ++ [(hi - size, hi)]).length = acc.length + 1 := by simp
        rw [hlen] at ho ho1 ho3 hn
        rw [hlen]
        unfold maxLen at ho2
        obtain ⟨og, rfl⟩ := ho3 (by omega)
        have HO := hide ho
        have HN := hide hn
        have HM := hide hm
        have HRR := hide hr
        have HRV := hide hR
        clear ho hn hm hr hR
        by_cases hlt : i < n2
        · have d : (i : Int) < n2 := by omega
          have k4 := rnumber_any rb p v bs false wr HRR.out (HB.out.mod HM.out HV.out) HV.out hpq (by omega)
          go_wp2_with fail
          refine k4.mono ?_
          clear k4
          rintro e w4 ⟨n4, p4, b4, rfl, hr4, hp4, hq4, hn4, m4, res4⟩
          have k5 := rnumber_any rb p4 v bs b4 w4 hr4 ((HB.out.mod HM.out HV.out).mod m4 HV.out) HV.out hq4 (by omega)
          have M4 := hide m4
          have RES4 := hide res4
          clear hr4 m4 res4 r2
          go_wp2_with fail
          refine k5.mono ?_
          clear k5
          rintro e w5 ⟨n5, p5, b5, rfl, hr5, hp5, hq5, hn5, m5, res5⟩
          have M5 := hide (M4.out.trans m5)
          have MW5 := hide (HM.out.trans M5.out)
          have H5 := hide hr5
          have RES5 := hide res5
          have s2 := hr5.c2
          have sz : w5.frozen? ⟨rb, 2, none⟩ = false := frozen_of_obj hr5
          have O5 : OwnR w5 (.slice (some ⟨og, 0, none⟩) (acc.length + 1) oc) (acc ++ [(hi - size, hi)]) := HO.out.mod M5.out (fun g hg hx => HO.out.not_type HRR.out (by decide) (by have hx : g = rb := hx; rw [← hx]; exact hg))
          have hcl := own_rcells (g := og) (n := acc.length + 1) (cap := oc) O5.1 acc.length (by simp)
          have e6 := (last_at acc (hi - size, hi)).1
          simp only at e6
          rw [e6] at hcl
          have c0 := hcl.1
          have HO5 := hide O5
          have hogl := lt_of_cell c0
          clear hr5 m5 res5 O5 hcl e6
          obtain ⟨f, hf⟩ : ∃ f, fuel = f + 1 := ⟨fuel - 1, by omega⟩
          have hST : rdAck bs pos = (rdVar bs p).bind fun q1 => (rdVar bs q1.2).bind fun q2 => if hi - size < 2 ∨ hi - size - 2 < q1.1 then none else rdAckF bs f (hi - size - 2 - q1.1) (n2 - i - 1) q2.1 q2.2 (acc ++ [(hi - size, hi)]) := by
            rw [HRV.out, hf]
            exact rdAckF_step hsz (by omega)
          have HST := hide hST
          clear hST
          obtain ⟨lo, hlo⟩ : ∃ lo, hi - size = lo := ⟨_, rfl⟩
          have hlol : lo ≤ hi := by omega
          rw [hlo] at c0 HST HO HO5
          have HLO := hide hlo
          clear hlo HRV
          have HMF : Hid (Mod (Only rb) w (w5.setCell ⟨rb, 2, none⟩ (.bool true))) := MW5.out.trans ((Mod.refl (Only rb) w5).setCell (p := ⟨rb, 2, none⟩) (.inl rfl) _)
          have z0 : IntKind.i64.wrap ((acc.length : Int) + 1 - 1) = (acc.length : Int) := by rw [show (acc.length : Int) + 1 - 1 = acc.length by omega]; exact IntWalk.i64_in _ (by omega)
          cases b5
          · have hOK : b4 = false ∧ rdVar bs p = some (n4, p4) ∧ rdVar bs p4 = some (n5, p5) := by
              rcases RES5.out with ⟨e5, r5⟩ | ⟨e5, r5⟩
              · rcases RES4.out with ⟨e4, r4⟩ | ⟨e4, r4⟩
                · exact ⟨e5.symm, r4, r5⟩
                · rw [← e5] at e4
                  cases e4
              · cases e5
            have HST2 : Hid (rdAck bs pos = if lo < 2 ∨ lo - 2 < n4 then none else rdAckF bs f (lo - 2 - n4) (n2 - i - 1) n5 p5 (acc ++ [(lo, hi)])) := by
              show _ = _
              rw [HST.out, hOK.2.1]
              simp only [Option.bind_some]
              rw [hOK.2.2]
              rfl
            clear hOK
            by_cases d1 : (lo : Int) < 2
            · go_wp2_with fail
              go_ret
              exact HBD.out _ p5 HMF.out H5.out.fail (by omega) hq5 (by rw [HST2.out, if_pos (.inl (by omega))])
            · have z1 : IntKind.u64.wrap ((lo : Int) - 2) = ((lo - 2 : Nat) : Int) := by rw [IntKind.wrap_u64]; omega
              obtain ⟨l2, hl2⟩ : ∃ l2, lo - 2 = l2 := ⟨_, rfl⟩
              have hl2b : l2 < 4611686018427387904 := by omega
              rw [hl2] at z1 HST2
              by_cases d2 : (l2 : Int) < n4
              · go_wp2_with fail
                go_ret
                exact HBD.out _ p5 HMF.out H5.out.fail (by omega) hq5 (by rw [HST2.out, if_pos (.inr (by omega))])
              · have z2 : IntKind.u64.wrap ((l2 : Int) - n4) = ((l2 - n4 : Nat) : Int) := by rw [IntKind.wrap_u64]; omega
                have HST3 : Hid (rdAck bs pos = rdAckF bs f (l2 - n4) (n2 - i - 1) n5 p5 (acc ++ [(lo, hi)])) := by
                  show _ = _
                  rw [HST2.out, if_neg (by omega)]
                obtain ⟨h2, hh2⟩ : ∃ h2, l2 - n4 = h2 := ⟨_, rfl⟩
                have hh2b : h2 < 4611686018427387904 := by omega
                rw [hh2] at z2 HST3
                by_cases d3 : (h2 : Int) < n5
                · go_wp2_with fail
                  go_ret
                  exact HBD.out _ p5 HMF.out H5.out.fail (by omega) hq5 (by rw [HST3.out]; exact rdAckF_none (by omega))
                · have z3 : IntKind.u64.wrap ((h2 : Int) - n5) = ((h2 - n5 : Nat) : Int) := by rw [IntKind.wrap_u64]; omega
                  obtain ⟨v6, W6, hr6, own6, gr6, nw6⟩ := rlit_app w5 (.slice (some ⟨og, 0, none⟩) (acc.length + 1) oc) (acc ++ [(lo, hi)]) (h2 - n5) h2 HO5.out.1 (by simp; omega)
                  have m6 : Mod (fun k => (Value.slice (some ⟨og, 0, none⟩) (acc.length + 1) oc).ownBlock = some k) w5 W6 := (Mod.refl _ _).grown gr6 (fun k hk => .inl hk)
                  have hnr : ¬ (Value.slice (some ⟨og, 0, none⟩) (acc.length + 1) oc).ownBlock = some rb := HO5.out.not_type H5.out (by decide)
                  have hog : w.heap.size ≤ og := HN.out og rfl
                  have HNX : Hid (RngAt w W6 rb v bs pos n2 (i + 1) v6 (rdAck bs pos)) := by
                    have hsz5 := MW5.out.size
                    refine ⟨acc ++ [(lo, hi)], h2, n5, p5, f, H5.out.mod m6 hnr, ⟨by simpa using own6, fun k hk => ?_⟩, fun g hg => ?_, by omega, hh2b, by omega, hq5, MW5.out.then m6 (fun k hk => .inr ?_), ?_, ?_, ?_, by omega⟩
                    · by_cases hk2 : k < (acc ++ [(lo, hi)]).length
                      · have e1 : loAt (acc ++ [(lo, hi)] ++ [(h2 - n5, h2)]) k = loAt (acc ++ [(lo, hi)]) k := by simp only [loAt, List.getD_eq_getElem?_getD]; rw [List.getElem?_append_left hk2]
                        have e2 : hiAt (acc ++ [(lo, hi)] ++ [(h2 - n5, h2)]) k = hiAt (acc ++ [(lo, hi)]) k := by simp only [hiAt, List.getD_eq_getElem?_getD]; rw [List.getElem?_append_left hk2]
                        rw [e1, e2]
                        exact HO5.out.2 k hk2
                      · have hke : k = (acc ++ [(lo, hi)]).length := by
                          have := hk
                          simp only [List.length_append, List.length_cons, List.length_nil] at this hk2 ⊢
                          omega
                        rw [hke, (last_at _ _).1, (last_at _ _).2]
                        simp only
                        omega
                    · rcases nw6 g hg with x | x
                      · exact HN.out g x
                      · omega
                    · have hk : some og = some k := hk
                      cases hk
                      exact hog
                    · rw [show n2 - (i + 1) = n2 - i - 1 by omega]
                      exact HST3.out
                    · rcases RES4.out with ⟨_, r4⟩ | ⟨e4, r4⟩
                      · have := rdVar_le r4
                        omega
                      · rcases RES5.out with ⟨e5, _⟩ | ⟨e5, _⟩
                        · rw [← e5] at e4; cases e4
                        · cases e5
                    · simp only [List.length_append, List.length_cons, List.length_nil]
                      rcases RES4.out with ⟨_, r4⟩ | ⟨e4, r4⟩
                      · have := rdVar_le r4
                        omega
                      · rcases RES5.out with ⟨e5, _⟩ | ⟨e5, _⟩
                        · rw [← e5] at e4; cases e4
                        · cases e5
                  obtain ⟨oa6, oc6, hv6, _⟩ := own_form own6
                  obtain ⟨L6, hL6⟩ : ∃ L6, (acc ++ [(lo, hi)] ++ [(h2 - n5, h2)]).length = L6 := ⟨_, rfl⟩
                  rw [hL6] at hv6
                  subst hv6
                  clear own6 gr6 nw6 m6 hl2 hh2 hL6
                  go_wp2_with (at_builtin; refine wpList_append_is rfl _ _ _ _ rfl _ _ _ rfl rfl hr6 ?_; clear hr6)
                  go_roundw
                  case rel => exact ⟨i + 1, by go_num, HNX.out⟩
                  case measure => simp [intOf]; omega
          · have hNN : rdAck bs pos = none := by
              rcases RES4.out with ⟨e4, r4⟩ | ⟨e4, r4⟩
              · rcases RES5.out with ⟨e5, r5⟩ | ⟨e5, r5⟩
                · rw [e4] at e5
                  cases e5
                · rw [HST.out, r4]
                  simp only [Option.bind_some]
                  rw [r5]
                  rfl
              · rw [HST.out, r4]
                rfl
            have HNN := hide hNN
            clear hNN
            go_wp2_with fail
            go_ret
            exact HBD.out _ p5 HMF.out H5.out.fail (by omega) hq5 HNN.out
        · have hie : i = n2 := by omega
          obtain ⟨f, hf⟩ : ∃ f, fuel = f + 1 := ⟨fuel - 1, by omega⟩
          have hST : rdAck bs pos = some (acc ++ [(hi - size, hi)], p) := by
            rw [HRV.out, hf, hie, Nat.sub_self]
            exact rdAckF_end hsz
          have HST := hide hST
          have HAL := hide hal
          clear hST hie HRV
          go_wp2_with fail
          go_ret
          exact ⟨_, acc ++ [(hi - size, hi)], p, false, rfl, HO.out, HN.out, HRR.out, hpp, hpq, by simp only [List.length_append, List.length_cons, List.length_nil]; have := HAL.out; omega, HM.out, .inl ⟨hBF.out, rfl, HST.out⟩⟩
  · go_wp2_with fail
    go_ret
    refine HF.out _ (M3.out.trans ((Mod.refl (Only rb) w3).setCell (p := ⟨rb, 2, none⟩) (.inl rfl) _)) H3.out.fail ?_
    rcases HALL.out with ⟨e, _⟩ | ⟨_, e⟩
    · cases e
    · exact e
end Go.Proofs.YtddfdpbaiedcjabGreatDoor
