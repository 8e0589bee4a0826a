/- wire.Append: a frame behind bytes, or nothing. -/
import Derived.Test.YtddfdpbaiedcjaaDoorSound
namespace Go.Proofs.YtddfdpbaiedcjaaDoor
open Go.RowKit

theorem App.after {w Y w' : World} {v v' : Value} {l new : List UInt8} (m : Mod NoB w Y) (h : App Y v l new v' w') : App w v l new v' w' :=
  ⟨h.own, h.old, ⟨h.grown.os.trans m.os, h.grown.tape.trans m.tape, h.grown.output.trans m.output, Nat.le_trans m.size h.grown.size, fun i hi hn => (h.grown.block i (Nat.lt_of_lt_of_le hi m.size) hn).trans (m.block i hi (fun x => x))⟩, fun i hi => (h.at_ i hi).imp id (fun q => Nat.le_trans m.size q)⟩

/-- The codec of a frame's kind, as it is used to write the frame. -/
def WCodec (f : Frm) (rv : Value) (l new : List UInt8) (sc : Bool) (w : World) (e : Ending) (w' : World) : Prop :=
  ∃ b F caps G ev, e = .returned (.pointer (some ⟨b, 0, none⟩)) ∧ CodecAt w' b (.func (.func F) #[] caps) ev (.func (.func G) #[] #[]) ∧ Goes F ∧ Goes G ∧ Mod NoB w w' ∧
    (∀ Y bf, Mod NoB w' Y → FrameAt Y bf f rv → numsOk f = true → Calls Tryd.prog G #[.pointer (some ⟨bf, 0, none⟩)] Y (Says Y sc)) ∧
    (∀ Y v bf, Mod NoB w' Y → FrameAt Y bf f rv → OB Y v l → (∀ g, v.ownBlock = some g → g < w.heap.size) → (0 < f.rngs.length → OffS (fun k => v.ownBlock = some k) rv) → (numsOk f && strOk f && sc) = true → Calls Tryd.prog F (#[v, .pointer (some ⟨bf, 0, none⟩)] ++ caps) Y (Apps Y v l new))

/-- What Append answers. -/
def Appended (w : World) (v : Value) (l : List UInt8) (ok : Bool) (new : List UInt8) (e : Ending) (w' : World) : Prop :=
  (ok = true ∧ Apps w v l new e w') ∨ (ok = false ∧ e = .returned (.slice none 0 0) ∧ Mod NoB w w')

set_option maxHeartbeats 400000 in
theorem append_gen (v : Value) (l : List UInt8) (f : Frm) (rv : Value) (new : List UInt8) (sc : Bool) (w : World) (h : OB w v l) (hoff : 0 < f.rngs.length → OffS (fun k => v.ownBlock = some k) rv)
    (hof : ∀ w1, Mod NoB w w1 → Calls Tryd.prog 26 #[.int .i64 f.kind] w1 (WCodec f rv l new sc w1)) :
    Calls Tryd.prog 18 #[v, .agg (frCells f rv)] w (Appended w v l (numsOk f && strOk f && sc) new) := by
  have m0 : Mod NoB w (w.alloc (.cells (frCells f rv) 28)) := (Mod.refl _ _).alloc _
  have hf0 : FrameAt (w.alloc (.cells (frCells f rv) 28)) w.heap.size f rv := heap_alloc_new w _
  have c0 := hf0.cells.1
  have hof' := hof _ m0
  have hlt := ob_lt h
  have hoff' := hide hoff
  obtain ⟨X, hX⟩ : ∃ X, w.alloc (.cells (frCells f rv) 28) = X := ⟨_, rfl⟩
  rw [hX] at hof' hf0 c0 m0
  have hXs : w.heap.size ≤ X.heap.size := m0.size
  have HH := hide h
  have Hf0 := hide hf0
  have Hm0 := hide m0
  have Hlt := hide hlt
  clear h hof hoff hf0 m0 hlt
  obtain ⟨ok, hok⟩ : ∃ ok, (numsOk f && strOk f && sc) = ok := ⟨_, rfl⟩
  have Hok := hide hok
  rw [hok]
  unfold frCells at hX ⊢
  cases ok
  all_goals
    clear hok
    go_enter Tryd.func18, Tryd.ntmps18
    go_wp2_with fail
    refine hof'.mono ?_
    rintro e w1 ⟨b, F, caps, G, ev, rfl, hc, hF, hG, m1, hs, hw⟩
    have f1 : FrameAt w1 w.heap.size f rv := Hf0.out.mod m1 (fun x => x)
    have hsound := sound_gen w.heap.size b f rv _ ev G sc w1 f1 hc hG (fun w' m hn => hs w' _ m (f1.mod m (fun x => x)) hn)
    rw [Hok.out] at hsound
    have Hc := hide hc
    have Hm1 := hide m1
    have Hw := hide hw
    have Hf1 := hide f1
    have hF' : ∀ args w, (callFunc F args).run Tryd.prog w = .ok (.enter F args) w := hF
    clear hc m1 hw hs f1 hG hF hof'
    go_wp2_with fail
    refine hsound.mono ?_
    rintro e w2 ⟨rfl, m2⟩
    clear hsound
  · go_wp2_with fail
    go_ret
    exact .inr ⟨rfl, rfl, (Hm0.out.trans Hm1.out).trans m2⟩
  · have hc2 := (Hc.out.mod m2 (fun x => x)).1
    have hcall := Hw.out w2 v w.heap.size m2 (Hf1.out.mod m2 (fun x => x)) (((HH.out.mod0 Hm0.out).mod0 Hm1.out).mod0 m2) (fun g hg => Nat.lt_of_lt_of_le (Hlt.out g hg) hXs) hoff'.out Hok.out
    have Hm2 := hide m2
    clear m2
    go_wp2_with fail
    refine hcall.mono ?_
    rintro e w3 ⟨v3, rfl, ha⟩
    have Ha := hide ha
    clear ha
    go_wp2_with fail
    go_ret
    exact .inl ⟨rfl, _, rfl, App.after ((Hm0.out.trans Hm1.out).trans Hm2.out) Ha.out⟩
end Go.Proofs.YtddfdpbaiedcjaaDoor
