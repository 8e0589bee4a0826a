/- wire.Encode: a packet as bytes. -/
import Derived.Test.YtddfdpbaiedcjaaDoorAppend2
import Derived.Lib.LazyBuf
namespace Go.Proofs.YtddfdpbaiedcjaaDoor
open Go.RowKit

/-- Frames that can be read there, each with the slice of its ranges. -/
def FrsAt (w : World) (v : Value) (fs : List (Frm × Value)) : Prop :=
  ∃ a cap, v = .slice a fs.length cap ∧ fs.length ≤ cap ∧ cap ≤ maxLen ∧ ∀ i fr, fs[i]? = some fr →
    (∃ g o, a = some ⟨g, o, none⟩ ∧ ∀ j x, (frCells fr.1 fr.2)[j]? = some x → w.cell? ⟨g, o + i * 10 + j, none⟩ = some x) ∧ RR w fr.2 fr.1.rngs

theorem FrsAt.mod {S : Nat → Prop} {w w' : World} {v : Value} {fs : List (Frm × Value)} (h : FrsAt w v fs) (m : Mod S w w') (hs : OffS S v) (hr : ∀ fr ∈ fs, OffS S fr.2) : FrsAt w' v fs := by
  obtain ⟨a, cap, rfl, h1, h2, h3⟩ := h
  refine ⟨a, cap, rfl, h1, h2, fun i fr hi => ?_⟩
  obtain ⟨⟨g, o, rfl, hc⟩, hrr⟩ := h3 i fr hi
  exact ⟨⟨g, o, rfl, fun j x hx => m.cell (a := ⟨g, _, none⟩) (hs g o _ _ rfl) (hc j x hx)⟩, hrr.mod m (hr fr (List.mem_of_getElem? hi))⟩

theorem FrsAt.mod0 {w w' : World} {v : Value} {fs : List (Frm × Value)} (h : FrsAt w v fs) (m : Mod NoB w w') : FrsAt w' v fs := h.mod m (OffS.no _) (fun _ _ => OffS.no _)

theorem App.mod0 {w w' : World} {v' : Value} {l new : List UInt8} (h : App w (.slice none 0 0) l new v' w') : Mod NoB w w' := h.mod.mono (fun i hi => by cases hi)

def bodyTo (fs : List (Frm × Value)) (k : Nat) : List UInt8 := (fs.take k).flatMap fun fr => bytesF fr.1

theorem bodyTo_succ (fs : List (Frm × Value)) (k : Nat) (fr : Frm × Value) (h : fs[k]? = some fr) : bodyTo fs (k + 1) = bodyTo fs k ++ bytesF fr.1 := by
  unfold bodyTo
  rw [List.take_add_one, h]
  simp

theorem bodyTo_le (fs : List (Frm × Value)) (k : Nat) : (bodyTo fs k).length ≤ (bodyTo fs fs.length).length := by
  have : fs.take fs.length = fs.take k ++ fs.drop k := by rw [List.take_length, List.take_append_drop]
  unfold bodyTo
  rw [this, List.flatMap_append, List.length_append]
  omega

def sndTo (fs : List (Frm × Value)) (k : Nat) : Bool := (fs.take k).all fun fr => soundF fr.1

theorem sndTo_succ (fs : List (Frm × Value)) (k : Nat) (fr : Frm × Value) (h : fs[k]? = some fr) : sndTo fs (k + 1) = (sndTo fs k && soundF fr.1) := by
  unfold sndTo
  rw [List.take_add_one, h]
  simp

theorem sndTo_false (fs : List (Frm × Value)) (k : Nat) (fr : Frm × Value) (h : fs[k]? = some fr) (hs : soundF fr.1 = false) : sndTo fs fs.length = false := by
  unfold sndTo
  rw [List.take_length]
  cases hq : fs.all fun fr => soundF fr.1
  · rfl
  · rw [List.all_eq_true] at hq
    have := hq fr (List.mem_of_getElem? h)
    rw [hs] at this
    cases this

/-- Can the packet be written? -/
def okP (n : Nat) (fs : List (Frm × Value)) : Bool := decide (0 < fs.length) && decide (n ≤ 4611686018427387903) && sndTo fs fs.length
/-- Its bytes, but for the sum. -/
def body (n : Nat) (fs : List (Frm × Value)) : List UInt8 := vint n ++ bodyTo fs fs.length
def sealed (l : List UInt8) : List UInt8 := l ++ sum4 (crc l)

theorem fr_cells {w : World} {g b : Nat} {f : Frm} {rv : Value} (h : ∀ j x, (frCells f rv)[j]? = some x → w.cell? ⟨g, b + j, none⟩ = some x) :
    w.cell? ⟨g, b, none⟩ = some (.int .i64 f.kind) ∧ w.cell? ⟨g, b + 1, none⟩ = some (.int .i64 f.stream) ∧ w.cell? ⟨g, b + 2, none⟩ = some (.int .u64 (f.off : Int)) ∧ w.cell? ⟨g, b + 3, none⟩ = some (.int .u64 (f.rel : Int)) ∧ w.cell? ⟨g, b + 4, none⟩ = some (.int .u64 (f.lim : Int)) ∧
    w.cell? ⟨g, b + 5, none⟩ = some (.bool f.fin) ∧ w.cell? ⟨g, b + 6, none⟩ = some (.int .u64 (f.id : Int)) ∧ w.cell? ⟨g, b + 7, none⟩ = some (.int .u64 (f.dl : Int)) ∧ w.cell? ⟨g, b + 8, none⟩ = some (.string (strOf f.data)) ∧ w.cell? ⟨g, b + 9, none⟩ = some rv :=
  ⟨h 0 _ rfl, h 1 _ rfl, h 2 _ rfl, h 3 _ rfl, h 4 _ rfl, h 5 _ rfl, h 6 _ rfl, h 7 _ rfl, h 8 _ rfl, h 9 _ rfl⟩

theorem vint_pos (n : Nat) : 0 < (vint n).length := by
  unfold vint
  split
  · simp
  · split
    · simp
    · split <;> simp

/-- What Encode answers. -/
def Encoded (w : World) (n : Nat) (fs : List (Frm × Value)) (e : Ending) (w' : World) : Prop :=
  (okP n fs = true ∧ ∃ v', e = .returned (.tuple #[v', .nilIface]) ∧ App w (.slice none 0 0) [] (sealed (body n fs)) v' w') ∨
  (okP n fs = false ∧ e = .returned (.tuple #[.slice none 0 0, .iface 30 (.int .i64 8)]) ∧ Mod NoB w w')

set_option maxRecDepth 100000 in
set_option maxHeartbeats 1000000 in
theorem wencode_any (n : Nat) (fs : List (Frm × Value)) (v : Value) (w : World) (h : FrsAt w v fs) (ht : Tab w) (hb : (body n fs).length ≤ 35184372088832) (hd : ∀ fr ∈ fs, fr.1.data.length ≤ 35184372088832 ∧ fr.1.rngs.length ≤ 1099511627776) :
    Calls Tryd.prog 13 #[.agg #[.int .u64 (n : Int), v]] w (Encoded w n fs) := by
  obtain ⟨a, cap, rfl, h1, h2, h3⟩ := id h
  unfold maxLen at h2
  clear h3
  have Hb := hide hb
  have Hd := hide hd
  have H := hide h
  have Ht := hide ht
  clear hb hd h ht
  by_cases d1 : fs.length = 0
  · have e0 : Hid (okP n fs = false) := by show _ = _; simp [okP, d1]
    have e1 : ((fs.length : Int) == 0) = true := by simp [d1]
    have e2 : (fs.length == 0) = true := by simp [d1]
    clear d1
    go_enter Tryd.func13, Tryd.ntmps13
    go_wp2_with fail
    go_ret2
    exact .inr ⟨e0.out, rfl, (Mod.refl _ _).alloc _⟩
  · have e1 : ((fs.length : Int) == 0) = false := by rw [beq_eq_false_iff_ne]; omega
    have e2 : (fs.length == 0) = false := by simpa using d1
    by_cases d2 : 4611686018427387903 < n
    · have e0 : Hid (okP n fs = false) := by
        have : decide (n ≤ 4611686018427387903) = false := by simp; omega
        show _ = _
        rw [okP, this, Bool.and_false, Bool.false_and]
      have e3 : decide ((4611686018427387903 : Int) < n) = true := by simp; omega
      clear d1 d2
      go_enter Tryd.func13, Tryd.ntmps13
      go_wp2_with fail
      go_ret2
      exact .inr ⟨e0.out, rfl, (Mod.refl _ _).alloc _⟩
    · have e3 : decide ((4611686018427387903 : Int) < n) = false := by simp; omega
      have EO : Hid (okP n fs = sndTo fs fs.length) := by
        have q1 : decide (n ≤ 4611686018427387903) = true := decide_eq_true (by omega)
        have q2 : decide (0 < fs.length) = true := decide_eq_true (by omega)
        show _ = _
        rw [okP, q1, q2, Bool.true_and, Bool.true_and]
      have hv := fun w => varint_any (.slice none 0 0) [] n w (OB.nil w) (by simp) (by omega)
      have q1 : ∀ w, (binOp .eql 29 (.slice none 0 0) (.slice none 0 0)).run Tryd.prog w = .ok (.bool true) w := fun w => _root_.Go.run_eql_slice_nil w _ _ none 0 0 Tryd.underlying29
      have q2 : ∀ a n c w, (binOp .eql 29 (.slice (some a) n c) (.slice none 0 0)).run Tryd.prog w = .ok (.bool false) w := fun a n c w => _root_.Go.run_eql_slice_nil w _ _ (some a) n c Tryd.underlying29
      have Hn := hide d2
      have Hf := hide d1
      obtain ⟨W0, hW0⟩ : ∃ W0, w.alloc (.cells #[.int .u64 (n : Int), .slice a fs.length cap] 25) = W0 := ⟨_, rfl⟩
      have m0 : Mod NoB w W0 := by rw [← hW0]; exact (Mod.refl _ _).alloc _
      have c0 : W0.cell? ⟨w.heap.size, 0, none⟩ = some (.int .u64 (n : Int)) := by rw [← hW0]; exact cell_of_obj (heap_alloc_new w _) rfl
      have c1 : W0.cell? ⟨w.heap.size, 1, none⟩ = some (.slice a fs.length cap) := by rw [← hW0]; exact cell_of_obj (heap_alloc_new w _) rfl
      have HM0 := hide m0
      have Hc1 := hide c1
      clear m0 d1 d2
      go_enter Tryd.func13, Tryd.ntmps13
      go_wp2_with (go_at_call 17; refine (hv _).mono ?_; rintro e w1 ⟨v1, rfl, ap⟩; have A1 := hide ap; have c1' := ap.mod0.cell (a := ⟨w.heap.size, 1, none⟩) (fun x => x) Hc1.out; clear ap)
      go_loopw [4, 23] (fun vb i wr => ∃ k : Nat, k ≤ fs.length ∧ i = .int .i64 k ∧ App W0 (.slice none 0 0) [] (vint n ++ bodyTo fs k) vb wr ∧ Hid (sndTo fs k = true)) (fun _ i _ => fs.length - (intOf i).toNat)
      case atStart => exact ⟨0, Nat.zero_le _, rfl, by simpa [bodyTo] using A1.out, hide rfl⟩
      case round =>
        obtain ⟨k, hk, rfl, hA, hsnd⟩ := hrel
        have HA := hide hA
        have HFS : FrsAt wr (.slice a fs.length cap) fs := (H.out.mod0 HM0.out).mod0 hA.mod0
        have hvn : 0 < ([] ++ (vint n ++ bodyTo fs k) : List UInt8).length := by
          have := vint_pos n
          simp
          omega
        obtain ⟨ab, cb, hvb, _, _, hab⟩ := own_form hA.own
        obtain ⟨gb, rfl⟩ := hab hvn
        clear hab
        by_cases hlt : k < fs.length
        · obtain ⟨fr, hfr⟩ : ∃ fr, fs[k]? = some fr := ⟨fs[k], List.getElem?_eq_getElem hlt⟩
          obtain ⟨a', cap', hv', _, _, h3⟩ := HFS
          cases hv'
          obtain ⟨f, rv⟩ := fr
          obtain ⟨⟨g, o, rfl, hc⟩, hrr⟩ := h3 k (f, rv) hfr
          simp only at hc hrr
          obtain ⟨ra, rc, rfl, _⟩ := id hrr
          have hrw : RR w (.slice ra f.rngs.length rc) f.rngs := by
            obtain ⟨_, _, _, _, _, h4⟩ := H.out
            exact (h4 k _ hfr).2
          obtain ⟨hc0, hc1, hc2, hc3, hc4, hc5, hc6, hc7, hc8, hc9⟩ := fr_cells hc
          have Hs := hide (bodyTo_succ fs k _ hfr)
          have Hsn := hide (sndTo_succ fs k _ hfr)
          have Hsf := hide (sndTo_false fs k _ hfr)
          obtain ⟨hd1, hd2⟩ := Hd.out _ (List.mem_of_getElem? hfr)
          have hle := bodyTo_le fs k
          have hbb := Hb.out
          obtain ⟨Y, hY⟩ : ∃ Y, wr.alloc (.cells (frCells f (.slice ra f.rngs.length rc)) 28) = Y := ⟨_, rfl⟩
          have mY : Mod NoB wr Y := by rw [← hY]; exact (Mod.refl _ _).alloc _
          have hfY : FrameAt Y wr.heap.size f (.slice ra f.rngs.length rc) := by rw [← hY]; exact heap_alloc_new wr _
          obtain ⟨y0, y1, y2, y3, y4, y5, y6, y7, y8, y9⟩ := hfY.cells
          have hAY : App W0 (.slice none 0 0) [] (vint n ++ bodyTo fs k) u4 Y := by rw [← hY]; exact HA.out.alloc _
          have hap := append_any u4 ([] ++ (vint n ++ bodyTo fs k)) f (.slice ra f.rngs.length rc) Y hAY.own (fun hpos g' o' n' c' hv hx => ?_) (hrr.mod mY (OffS.no _)) hd2 hd1 (by
            simp only [body, List.nil_append, List.length_append] at hbb ⊢
            omega)
          · have HmY := hide mY
            have HAY := hide hAY
            clear mY hAY hc hA hrr hfY hd1 hd2 hle hbb h3
            unfold frCells at hap hY
            obtain ⟨Ln, hLn⟩ : ∃ q, ([] ++ (vint n ++ bodyTo fs k) : List UInt8).length = q := ⟨_, rfl⟩
            rw [hLn] at hvb hvn
            have HL : Hid (0 < Ln ∧ ([] ++ (vint n ++ bodyTo fs k) : List UInt8).length = Ln) := ⟨hvn, hLn⟩
            clear hLn
            subst hvb
            cases hsf : soundF f
            · rw [hsf] at hap
              have HO : Hid (okP n fs = false) := by
                show _ = _
                rw [EO.out]
                exact Hsf.out hsf
              go_wp2_with (go_at_call 18; refine hap.mono ?_; rintro e w2 (⟨hok, _⟩ | ⟨_, rfl, m2⟩); · cases hok)
              go_ret2
              exact .inr ⟨HO.out, rfl, ((HM0.out.trans HA.out.mod0).trans HmY.out).trans m2⟩
            · rw [hsf] at hap
              have HO : Hid (sndTo fs (k + 1) = true) := by
                show _ = _
                rw [Hsn.out, hsnd.out, hsf]
                rfl
              go_wp2_with fail
              refine hap.mono ?_
              rintro e w2 (⟨_, v2, rfl, ap2⟩ | ⟨hok, _⟩)
              · have A2 := HAY.out.trans ap2
                obtain ⟨ab2, cb2, rfl, _, _, hab2⟩ := own_form A2.own
                obtain ⟨gb2, rfl⟩ := hab2 (by simp; have := HL.out; simp at this; omega)
                have HA2 := hide A2
                obtain ⟨L2, hL2⟩ : ∃ q, ([] ++ ((vint n ++ bodyTo fs k) ++ bytesF f) : List UInt8).length = q := ⟨_, rfl⟩
                rw [hL2] at HA2
                rw [hL2]
                clear A2 ap2 hap hab2 hL2
                go_wp2_with fail
                go_roundw
                case rel => exact ⟨k + 1, by omega, by go_num, by rw [Hs.out, ← List.append_assoc]; exact HA2.out, HO⟩
                case measure => simp [intOf]; omega
              · cases hok
          · cases hv
            obtain ⟨_, _, hv2, _, _, hr3⟩ := hrw
            cases hv2
            obtain ⟨_, _, e, hc0', _⟩ := hr3 0 hpos
            cases e
            have hl := lt_of_cell hc0'
            rcases HA.out.at_ _ hx with h1 | h1
            · cases h1
            · have := HM0.out.size
              omega
        · have hkn : k = fs.length := by omega
          have HO : Hid (okP n fs = true) := by
            show _ = _
            rw [EO.out, ← hkn]
            exact hsnd.out
          have hown : OB wr u4 (body n fs) := by
            have := HA.out.own
            rwa [hkn] at this
          have hA' : App W0 (.slice none 0 0) [] (body n fs) u4 wr := by
            have := HA.out
            rwa [hkn] at this
          have hseal := seal_any u4 (body n fs) wr hown (by have := Hb.out; omega) ((Ht.out.mod HM0.out (fun x => x)).mod hA'.mod0 (fun x => x))
          have HA' := hide hA'
          obtain ⟨Ln, hLn⟩ : ∃ q, ([] ++ (vint n ++ bodyTo fs k) : List UInt8).length = q := ⟨_, rfl⟩
          rw [hLn] at hvb
          clear hA' hown hA hkn HFS hvn HA c0 c1 hLn
          subst hvb
          go_wp2_with (go_at_call 19; refine hseal.mono ?_; rintro e w2 ⟨v2, rfl, ap2⟩; have HS := hide (HA'.out.trans ap2); clear ap2)
          go_ret2
          exact .inl ⟨HO.out, _, rfl, App.after HM0.out HS.out⟩
end Go.Proofs.YtddfdpbaiedcjaaDoor
