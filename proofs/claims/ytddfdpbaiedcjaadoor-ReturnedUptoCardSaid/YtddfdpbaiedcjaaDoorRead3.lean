/- How the frames of a kind are read (printed by mkread3.py). -/
import Derived.Test.YtddfdpbaiedcjaaDoorRead2
namespace Go.Proofs.YtddfdpbaiedcjaaDoor
open Go.RowKit

def Two (rb fb : Nat) : Nat → Prop := fun k => k = rb ∨ k = fb

/-- The slice owns these ranges. -/
def OwnR (w : World) (v : Value) (rs : Rngs) : Prop := w.ownsRow 0 50 2 v rs.length (rcells rs) ∧ ∀ i, i < rs.length → loAt rs i < 18446744073709551616 ∧ hiAt rs i < 18446744073709551616

theorem OwnR.nil (w : World) : OwnR w (.slice none 0 0) [] := ⟨World.ownsRow_nil w 0 _ 2, fun i hi => absurd hi (Nat.not_lt_zero i)⟩

theorem OwnR.mod {S : Nat → Prop} {w w' : World} {v : Value} {rs : Rngs} (h : OwnR w v rs) (m : Mod S w w') (hs : ∀ g, v.ownBlock = some g → ¬ S g) : OwnR w' v rs := ⟨m.owns h.1 hs, h.2⟩

theorem OwnR.not_type {w : World} {v : Value} {rs : Rngs} {b T : Nat} {cs : Array Value} {fz : Nat × Nat} (h : OwnR w v rs) (ho : w.heap[b]? = some (.cells cs T fz)) (hT : T ≠ 50) : ¬ v.ownBlock = some b := by
  intro hb
  rcases h.1.2 with ⟨rfl, _⟩ | ⟨g, cap, cur, rfl, _, hg, _⟩
  · cases hb
  · simp [Value.ownBlock] at hb
    subst hb
    rw [hg] at ho
    simp at ho
    exact hT ho.2.1.symm

theorem OwnR.rr {w : World} {v : Value} {rs : Rngs} (h : OwnR w v rs) : RR w v rs := by
  obtain ⟨a, cap, rfl, h1, h2, h3⟩ := own_form h.1
  refine ⟨a, cap, rfl, h1, h2, fun i hi => ?_⟩
  obtain ⟨g, rfl⟩ := h3 (by omega)
  have := own_rcells h.1 i hi
  exact ⟨g, 0, rfl, by simpa using this.1, by simpa using this.2, h.2 i hi⟩

/-- The slice's cells are new. -/
def NewSl (w : World) (v : Value) : Prop := ∀ g o n c, v = .slice (some ⟨g, o, none⟩) n c → w.heap.size ≤ g

/-- A frame of which its first byte alone was read. -/
def f0 (k : Int) (b : Bool) : Frm := { kind := k, stream := 0, off := 0, rel := 0, lim := 0, fin := b, id := 0, dl := 0, data := [], rngs := [] }

/-- What reading a frame's rest answers: this frame, and the place behind it; or it throws. -/
def RdF (w : World) (rb : Nat) (v : Value) (fb : Nat) (r : Option (Frm × Nat)) (e : Ending) (w' : World) : Prop :=
  (∃ f rv p, r = some (f, p) ∧ e = .returned (.tuple #[]) ∧ RdAt w' rb v p ∧ FrameAt w' fb f rv ∧ OwnR w' rv f.rngs ∧ NewSl w rv ∧ Mod (Two rb fb) w w') ∨ (r = none ∧ e = shortE ∧ Mod (Two rb fb) w w')

theorem mod_two {rb fb : Nat} {w w' : World} (m : Mod (Only rb) w w') : Mod (Two rb fb) w w' := m.mono (fun _ h => .inl (.inl h))

theorem NewSl.nil (w : World) : NewSl w (.slice none 0 0) := fun _ _ _ _ h => by cases h

theorem read1 (rb fb pos : Nat) (v : Value) (b : Bool) (w : World) (h : RdAt w rb v pos) (hf : FrameAt w fb (f0 1 b) (.slice none 0 0)) :
    Calls Tryd.prog 35 #[.pointer (some ⟨rb, 0, none⟩), .pointer (some ⟨fb, 0, none⟩)] w (RdF w rb v fb (some (f0 1 b, pos))) := by
  go_enter Tryd.func35, Tryd.ntmps35
  go_wp2_with fail
  exact bodyPost_end (results_none rfl _ _ _) rfl (.inl ⟨_, _, _, rfl, rfl, h, hf, OwnR.nil w, NewSl.nil w, Mod.refl _ _⟩)

theorem FrameAt.set {w : World} {b i : Nat} {f f' : Frm} {rv rv' v : Value} (h : FrameAt w b f rv) (he : (frCells f rv).setIfInBounds i v = frCells f' rv') : FrameAt (w.setCell ⟨b, i, none⟩ v) b f' rv' := by
  unfold FrameAt at h ⊢
  rw [obj_setCell h, he]

theorem rdVar_end {bs : List UInt8} {pos n p : Nat} (h : rdVar bs pos = some (n, p)) : p ≤ bs.length := (rdVar_le h).2.1
theorem rdStream_end {bs : List UInt8} {pos n p : Nat} (h : rdStream bs pos = some (n, p)) : p ≤ bs.length := by
  unfold rdStream at h
  cases hr : rdVar bs pos with
  | none => rw [hr] at h; cases h
  | some q =>
    rw [hr] at h
    simp only [Option.bind_some] at h
    split at h
    · cases h
      exact rdVar_end hr
    · cases h
theorem rdText_end {bs l : List UInt8} {pos p : Nat} (h : rdText bs pos = some (l, p)) : p ≤ bs.length := by
  unfold rdText at h
  cases hr : rdVar bs pos with
  | none => rw [hr] at h; cases h
  | some q =>
    rw [hr] at h
    have := rdVar_end hr
    simp only [Option.bind_some] at h
    split at h
    · cases h
      omega
    · cases h

def rd3 (b : Bool) (bs : List UInt8) (pos : Nat) : Option (Frm × Nat) :=
  (rdStream bs pos).bind fun (x1, p1) => (rdVar bs p1).bind fun (x2, p2) => (rdVar bs p2).bind fun (x3, p3) => some ({ f0 3 b with stream := (x1 : Int), off := x2, rel := x3 }, p3)

set_option maxHeartbeats 400000 in
theorem read3 (rb fb pos : Nat) (v : Value) (bs : List UInt8) (b : Bool) (w : World) (h : RdAt w rb v pos) (hb : BR w v bs) (hv : OffS (Two rb fb) v) (hp : pos ≤ bs.length) (hf : FrameAt w fb (f0 3 b) (.slice none 0 0)) (hne : fb ≠ rb) :
    Calls Tryd.prog 41 #[.pointer (some ⟨rb, 0, none⟩), .pointer (some ⟨fb, 0, none⟩)] w (RdF w rb v fb (rd3 b bs pos)) := by
  have hv1 : OffS (Only rb) v := fun g o n c e hx => hv g o n c e (.inl hx)
  have W0 : w = w := rfl
  have HM0 := hide (Mod.refl (Only rb) w)
  have Hb := hide hb
  have Hf := hide hf
  have Hv := hide hv1
  have Hne := hide hne
  clear hb hv hf hv1 hne W0
  have c1 := rstream_any rb pos v bs w h (Hb.out) Hv.out hp
  cases hr1 : rdStream bs pos with
  | none =>
    rw [hr1] at c1
    have HR : Hid (rd3 b bs pos = none) := by
      show _ = _
      unfold rd3
      simp only [hr1, Option.bind_some, Option.bind_none]
    clear hr1
    go_enter Tryd.func41, Tryd.ntmps41
    go_wp2_with (go_at_call 42; refine c1.mono ?_; rintro e w' (⟨_, _, hx, _⟩ | ⟨_, he, hm⟩); cases hx; unfold shortE at he; subst he)
    exact ⟨rfl, .inr ⟨HR.out, rfl, mod_two (hm)⟩⟩
  | some q1 =>
    obtain ⟨x1, p1⟩ := q1
    rw [hr1] at c1
    have hp1 : p1 ≤ bs.length := rdStream_end hr1
    have HR1 := hide hr1
    clear hr1
    go_enter Tryd.func41, Tryd.ntmps41
    go_wp2_with fail
    refine c1.mono ?_
    rintro e w1 (⟨_, _, hx, rfl, h1, m1⟩ | ⟨hx, _⟩)
    rotate_left
    · cases hx
    simp only [Option.map_some, Option.some.injEq, Prod.mk.injEq] at hx
    obtain ⟨rfl, rfl⟩ := hx
    have HM1 := hide (HM0.out.trans m1)
    clear c1 m1
    have c2 := rvarint_any rb p1 v bs w1 h1 (Hb.out.mod HM1.out Hv.out) Hv.out hp1
    cases hr2 : rdVar bs p1 with
    | none =>
      rw [hr2] at c2
      have HR : Hid (rd3 b bs pos = none) := by
        show _ = _
        unfold rd3
        simp only [HR1.out, hr2, Option.bind_some, Option.bind_none]
      clear hr2
      go_wp2_with (go_at_call 22; refine c2.mono ?_; rintro e w' (⟨_, _, hx, _⟩ | ⟨_, he, hm⟩); cases hx; unfold shortE at he; subst he)
      exact ⟨rfl, .inr ⟨HR.out, rfl, mod_two (HM1.out.trans hm)⟩⟩
    | some q2 =>
      obtain ⟨x2, p2⟩ := q2
      rw [hr2] at c2
      have hp2 : p2 ≤ bs.length := rdVar_end hr2
      have HR2 := hide hr2
      clear hr2
      go_wp2_with fail
      refine c2.mono ?_
      rintro e w2 (⟨_, _, hx, rfl, h2, m2⟩ | ⟨hx, _⟩)
      rotate_left
      · cases hx
      simp only [Option.map_some, Option.some.injEq, Prod.mk.injEq] at hx
      obtain ⟨rfl, rfl⟩ := hx
      have HM2 := hide (HM1.out.trans m2)
      clear c2 m2
      have c3 := rvarint_any rb p2 v bs w2 h2 (Hb.out.mod HM2.out Hv.out) Hv.out hp2
      cases hr3 : rdVar bs p2 with
      | none =>
        rw [hr3] at c3
        have HR : Hid (rd3 b bs pos = none) := by
          show _ = _
          unfold rd3
          simp only [HR1.out, HR2.out, hr3, Option.bind_some, Option.bind_none]
        clear hr3
        go_wp2_with (go_at_call 22; refine c3.mono ?_; rintro e w' (⟨_, _, hx, _⟩ | ⟨_, he, hm⟩); cases hx; unfold shortE at he; subst he)
        exact ⟨rfl, .inr ⟨HR.out, rfl, mod_two (HM2.out.trans hm)⟩⟩
      | some q3 =>
        obtain ⟨x3, p3⟩ := q3
        rw [hr3] at c3
        have hp3 : p3 ≤ bs.length := rdVar_end hr3
        have HR3 := hide hr3
        clear hr3
        go_wp2_with fail
        refine c3.mono ?_
        rintro e w3 (⟨_, _, hx, rfl, h3, m3⟩ | ⟨hx, _⟩)
        rotate_left
        · cases hx
        simp only [Option.map_some, Option.some.injEq, Prod.mk.injEq] at hx
        obtain ⟨rfl, rfl⟩ := hx
        have HM3 := hide (HM2.out.trans m3)
        clear c3 m3
        have HH := hide h3
        have hF := Hf.out.mod HM3.out Hne.out
        obtain ⟨k0, k1, k2, k3, k4, k5, k6, k7, k8, k9⟩ := hF.cells
        have hfz : ∀ j, w3.frozen? ⟨fb, j, none⟩ = false := fun j => frozen_of_obj hF
        have HF := hide hF
        clear hF h3
        go_wp2_with fail
        refine bodyPost_end (results_none rfl _ _ _) rfl (.inl ⟨{ f0 3 b with stream := (x1 : Int), off := x2, rel := x3 }, .slice none 0 0, p3, ?_, rfl, ?_, ?_, OwnR.nil _, NewSl.nil w, (((((((mod_two HM3.out)).setCell (p := ⟨fb, 1, none⟩) (.inl (.inr rfl)) _)).setCell (p := ⟨fb, 2, none⟩) (.inl (.inr rfl)) _)).setCell (p := ⟨fb, 3, none⟩) (.inl (.inr rfl)) _)⟩)
        · unfold rd3
          simp only [HR1.out, HR2.out, HR3.out, Option.bind_some]
        · exact HH.out.mod ((((Mod.refl (fun k => k = fb) _).setCell (p := ⟨fb, 1, none⟩) (.inl rfl) _).setCell (p := ⟨fb, 2, none⟩) (.inl rfl) _).setCell (p := ⟨fb, 3, none⟩) (.inl rfl) _) (fun e => Hne.out e.symm)
        · exact (((HF.out).set (i := 1) (v := .int .i64 (x1 : Int)) (f' := { f0 3 b with stream := (x1 : Int) }) (rv' := .slice none 0 0) rfl).set (i := 2) (v := .int .u64 (x2 : Int)) (f' := { f0 3 b with stream := (x1 : Int), off := x2 }) (rv' := .slice none 0 0) rfl).set (i := 3) (v := .int .u64 (x3 : Int)) (f' := { f0 3 b with stream := (x1 : Int), off := x2, rel := x3 }) (rv' := .slice none 0 0) rfl

def rd4 (b : Bool) (bs : List UInt8) (pos : Nat) : Option (Frm × Nat) :=
  (rdStream bs pos).bind fun (x1, p1) => (rdVar bs p1).bind fun (x2, p2) => (rdText bs p2).bind fun (x3, p3) => some ({ f0 4 b with stream := (x1 : Int), off := x2, data := x3 }, p3)

set_option maxHeartbeats 400000 in
theorem read4 (rb fb pos : Nat) (v : Value) (bs : List UInt8) (b : Bool) (w : World) (h : RdAt w rb v pos) (hb : BR w v bs) (hv : OffS (Two rb fb) v) (hp : pos ≤ bs.length) (hf : FrameAt w fb (f0 4 b) (.slice none 0 0)) (hne : fb ≠ rb) :
    Calls Tryd.prog 46 #[.pointer (some ⟨rb, 0, none⟩), .pointer (some ⟨fb, 0, none⟩)] w (RdF w rb v fb (rd4 b bs pos)) := by
  have hv1 : OffS (Only rb) v := fun g o n c e hx => hv g o n c e (.inl hx)
  have W0 : w = w := rfl
  have HM0 := hide (Mod.refl (Only rb) w)
  have Hb := hide hb
  have Hf := hide hf
  have Hv := hide hv1
  have Hne := hide hne
  clear hb hv hf hv1 hne W0
  have c1 := rstream_any rb pos v bs w h (Hb.out) Hv.out hp
  cases hr1 : rdStream bs pos with
  | none =>
    rw [hr1] at c1
    have HR : Hid (rd4 b bs pos = none) := by
      show _ = _
      unfold rd4
      simp only [hr1, Option.bind_some, Option.bind_none]
    clear hr1
    go_enter Tryd.func46, Tryd.ntmps46
    go_wp2_with (go_at_call 42; refine c1.mono ?_; rintro e w' (⟨_, _, hx, _⟩ | ⟨_, he, hm⟩); cases hx; unfold shortE at he; subst he)
    exact ⟨rfl, .inr ⟨HR.out, rfl, mod_two (hm)⟩⟩
  | some q1 =>
    obtain ⟨x1, p1⟩ := q1
    rw [hr1] at c1
    have hp1 : p1 ≤ bs.length := rdStream_end hr1
    have HR1 := hide hr1
    clear hr1
    go_enter Tryd.func46, Tryd.ntmps46
    go_wp2_with fail
    refine c1.mono ?_
    rintro e w1 (⟨_, _, hx, rfl, h1, m1⟩ | ⟨hx, _⟩)
    rotate_left
    · cases hx
    simp only [Option.map_some, Option.some.injEq, Prod.mk.injEq] at hx
    obtain ⟨rfl, rfl⟩ := hx
    have HM1 := hide (HM0.out.trans m1)
    clear c1 m1
    have c2 := rvarint_any rb p1 v bs w1 h1 (Hb.out.mod HM1.out Hv.out) Hv.out hp1
    cases hr2 : rdVar bs p1 with
    | none =>
      rw [hr2] at c2
      have HR : Hid (rd4 b bs pos = none) := by
        show _ = _
        unfold rd4
        simp only [HR1.out, hr2, Option.bind_some, Option.bind_none]
      clear hr2
      go_wp2_with (go_at_call 22; refine c2.mono ?_; rintro e w' (⟨_, _, hx, _⟩ | ⟨_, he, hm⟩); cases hx; unfold shortE at he; subst he)
      exact ⟨rfl, .inr ⟨HR.out, rfl, mod_two (HM1.out.trans hm)⟩⟩
    | some q2 =>
      obtain ⟨x2, p2⟩ := q2
      rw [hr2] at c2
      have hp2 : p2 ≤ bs.length := rdVar_end hr2
      have HR2 := hide hr2
      clear hr2
      go_wp2_with fail
      refine c2.mono ?_
      rintro e w2 (⟨_, _, hx, rfl, h2, m2⟩ | ⟨hx, _⟩)
      rotate_left
      · cases hx
      simp only [Option.map_some, Option.some.injEq, Prod.mk.injEq] at hx
      obtain ⟨rfl, rfl⟩ := hx
      have HM2 := hide (HM1.out.trans m2)
      clear c2 m2
      have c3 := rtext_any rb p2 v bs w2 h2 (Hb.out.mod HM2.out Hv.out) Hv.out hp2
      cases hr3 : rdText bs p2 with
      | none =>
        rw [hr3] at c3
        have HR : Hid (rd4 b bs pos = none) := by
          show _ = _
          unfold rd4
          simp only [HR1.out, HR2.out, hr3, Option.bind_some, Option.bind_none]
        clear hr3
        go_wp2_with (go_at_call 47; refine c3.mono ?_; rintro e w' (⟨_, _, hx, _⟩ | ⟨_, he, hm⟩); cases hx; unfold shortE at he; subst he)
        exact ⟨rfl, .inr ⟨HR.out, rfl, mod_two (HM2.out.trans hm)⟩⟩
      | some q3 =>
        obtain ⟨x3, p3⟩ := q3
        rw [hr3] at c3
        have hp3 : p3 ≤ bs.length := rdText_end hr3
        have HR3 := hide hr3
        clear hr3
        go_wp2_with fail
        refine c3.mono ?_
        rintro e w3 (⟨_, _, hx, rfl, h3, m3⟩ | ⟨hx, _⟩)
        rotate_left
        · cases hx
        simp only [Option.map_some, Option.some.injEq, Prod.mk.injEq] at hx
        obtain ⟨rfl, rfl⟩ := hx
        have HM3 := hide (HM2.out.trans m3)
        clear c3 m3
        have HH := hide h3
        have hF := Hf.out.mod HM3.out Hne.out
        obtain ⟨k0, k1, k2, k3, k4, k5, k6, k7, k8, k9⟩ := hF.cells
        have hfz : ∀ j, w3.frozen? ⟨fb, j, none⟩ = false := fun j => frozen_of_obj hF
        have HF := hide hF
        clear hF h3
        go_wp2_with fail
        refine bodyPost_end (results_none rfl _ _ _) rfl (.inl ⟨{ f0 4 b with stream := (x1 : Int), off := x2, data := x3 }, .slice none 0 0, p3, ?_, rfl, ?_, ?_, OwnR.nil _, NewSl.nil w, (((((((mod_two HM3.out)).setCell (p := ⟨fb, 1, none⟩) (.inl (.inr rfl)) _)).setCell (p := ⟨fb, 2, none⟩) (.inl (.inr rfl)) _)).setCell (p := ⟨fb, 8, none⟩) (.inl (.inr rfl)) _)⟩)
        · unfold rd4
          simp only [HR1.out, HR2.out, HR3.out, Option.bind_some]
        · exact HH.out.mod ((((Mod.refl (fun k => k = fb) _).setCell (p := ⟨fb, 1, none⟩) (.inl rfl) _).setCell (p := ⟨fb, 2, none⟩) (.inl rfl) _).setCell (p := ⟨fb, 8, none⟩) (.inl rfl) _) (fun e => Hne.out e.symm)
        · exact (((HF.out).set (i := 1) (v := .int .i64 (x1 : Int)) (f' := { f0 4 b with stream := (x1 : Int) }) (rv' := .slice none 0 0) rfl).set (i := 2) (v := .int .u64 (x2 : Int)) (f' := { f0 4 b with stream := (x1 : Int), off := x2 }) (rv' := .slice none 0 0) rfl).set (i := 8) (v := .string (strOf x3)) (f' := { f0 4 b with stream := (x1 : Int), off := x2, data := x3 }) (rv' := .slice none 0 0) rfl

def rd6 (b : Bool) (bs : List UInt8) (pos : Nat) : Option (Frm × Nat) :=
  (rdStream bs pos).bind fun (x1, p1) => (rdVar bs p1).bind fun (x2, p2) => some ({ f0 6 b with stream := (x1 : Int), lim := x2 }, p2)

set_option maxHeartbeats 400000 in
theorem read6 (rb fb pos : Nat) (v : Value) (bs : List UInt8) (b : Bool) (w : World) (h : RdAt w rb v pos) (hb : BR w v bs) (hv : OffS (Two rb fb) v) (hp : pos ≤ bs.length) (hf : FrameAt w fb (f0 6 b) (.slice none 0 0)) (hne : fb ≠ rb) :
    Calls Tryd.prog 52 #[.pointer (some ⟨rb, 0, none⟩), .pointer (some ⟨fb, 0, none⟩)] w (RdF w rb v fb (rd6 b bs pos)) := by
  have hv1 : OffS (Only rb) v := fun g o n c e hx => hv g o n c e (.inl hx)
  have W0 : w = w := rfl
  have HM0 := hide (Mod.refl (Only rb) w)
  have Hb := hide hb
  have Hf := hide hf
  have Hv := hide hv1
  have Hne := hide hne
  clear hb hv hf hv1 hne W0
  have c1 := rstream_any rb pos v bs w h (Hb.out) Hv.out hp
  cases hr1 : rdStream bs pos with
  | none =>
    rw [hr1] at c1
    have HR : Hid (rd6 b bs pos = none) := by
      show _ = _
      unfold rd6
      simp only [hr1, Option.bind_some, Option.bind_none]
    clear hr1
    go_enter Tryd.func52, Tryd.ntmps52
    go_wp2_with (go_at_call 42; refine c1.mono ?_; rintro e w' (⟨_, _, hx, _⟩ | ⟨_, he, hm⟩); cases hx; unfold shortE at he; subst he)
    exact ⟨rfl, .inr ⟨HR.out, rfl, mod_two (hm)⟩⟩
  | some q1 =>
    obtain ⟨x1, p1⟩ := q1
    rw [hr1] at c1
    have hp1 : p1 ≤ bs.length := rdStream_end hr1
    have HR1 := hide hr1
    clear hr1
    go_enter Tryd.func52, Tryd.ntmps52
    go_wp2_with fail
    refine c1.mono ?_
    rintro e w1 (⟨_, _, hx, rfl, h1, m1⟩ | ⟨hx, _⟩)
    rotate_left
    · cases hx
    simp only [Option.map_some, Option.some.injEq, Prod.mk.injEq] at hx
    obtain ⟨rfl, rfl⟩ := hx
    have HM1 := hide (HM0.out.trans m1)
    clear c1 m1
    have c2 := rvarint_any rb p1 v bs w1 h1 (Hb.out.mod HM1.out Hv.out) Hv.out hp1
    cases hr2 : rdVar bs p1 with
    | none =>
      rw [hr2] at c2
      have HR : Hid (rd6 b bs pos = none) := by
        show _ = _
        unfold rd6
        simp only [HR1.out, hr2, Option.bind_some, Option.bind_none]
      clear hr2
      go_wp2_with (go_at_call 22; refine c2.mono ?_; rintro e w' (⟨_, _, hx, _⟩ | ⟨_, he, hm⟩); cases hx; unfold shortE at he; subst he)
      exact ⟨rfl, .inr ⟨HR.out, rfl, mod_two (HM1.out.trans hm)⟩⟩
    | some q2 =>
      obtain ⟨x2, p2⟩ := q2
      rw [hr2] at c2
      have hp2 : p2 ≤ bs.length := rdVar_end hr2
      have HR2 := hide hr2
      clear hr2
      go_wp2_with fail
      refine c2.mono ?_
      rintro e w2 (⟨_, _, hx, rfl, h2, m2⟩ | ⟨hx, _⟩)
      rotate_left
      · cases hx
      simp only [Option.map_some, Option.some.injEq, Prod.mk.injEq] at hx
      obtain ⟨rfl, rfl⟩ := hx
      have HM2 := hide (HM1.out.trans m2)
      clear c2 m2
      have HH := hide h2
      have hF := Hf.out.mod HM2.out Hne.out
      obtain ⟨k0, k1, k2, k3, k4, k5, k6, k7, k8, k9⟩ := hF.cells
      have hfz : ∀ j, w2.frozen? ⟨fb, j, none⟩ = false := fun j => frozen_of_obj hF
      have HF := hide hF
      clear hF h2
      go_wp2_with fail
      refine bodyPost_end (results_none rfl _ _ _) rfl (.inl ⟨{ f0 6 b with stream := (x1 : Int), lim := x2 }, .slice none 0 0, p2, ?_, rfl, ?_, ?_, OwnR.nil _, NewSl.nil w, (((((mod_two HM2.out)).setCell (p := ⟨fb, 1, none⟩) (.inl (.inr rfl)) _)).setCell (p := ⟨fb, 4, none⟩) (.inl (.inr rfl)) _)⟩)
      · unfold rd6
        simp only [HR1.out, HR2.out, Option.bind_some]
      · exact HH.out.mod (((Mod.refl (fun k => k = fb) _).setCell (p := ⟨fb, 1, none⟩) (.inl rfl) _).setCell (p := ⟨fb, 4, none⟩) (.inl rfl) _) (fun e => Hne.out e.symm)
      · exact ((HF.out).set (i := 1) (v := .int .i64 (x1 : Int)) (f' := { f0 6 b with stream := (x1 : Int) }) (rv' := .slice none 0 0) rfl).set (i := 4) (v := .int .u64 (x2 : Int)) (f' := { f0 6 b with stream := (x1 : Int), lim := x2 }) (rv' := .slice none 0 0) rfl

def rd7 (b : Bool) (bs : List UInt8) (pos : Nat) : Option (Frm × Nat) :=
  (rdVar bs pos).bind fun (x1, p1) => (rdVar bs p1).bind fun (x2, p2) => (rdText bs p2).bind fun (x3, p3) => some ({ f0 7 b with id := x1, dl := x2, data := x3 }, p3)

set_option maxHeartbeats 400000 in
theorem read7 (rb fb pos : Nat) (v : Value) (bs : List UInt8) (b : Bool) (w : World) (h : RdAt w rb v pos) (hb : BR w v bs) (hv : OffS (Two rb fb) v) (hp : pos ≤ bs.length) (hf : FrameAt w fb (f0 7 b) (.slice none 0 0)) (hne : fb ≠ rb) :
    Calls Tryd.prog 54 #[.pointer (some ⟨rb, 0, none⟩), .pointer (some ⟨fb, 0, none⟩)] w (RdF w rb v fb (rd7 b bs pos)) := by
  have hv1 : OffS (Only rb) v := fun g o n c e hx => hv g o n c e (.inl hx)
  have W0 : w = w := rfl
  have HM0 := hide (Mod.refl (Only rb) w)
  have Hb := hide hb
  have Hf := hide hf
  have Hv := hide hv1
  have Hne := hide hne
  clear hb hv hf hv1 hne W0
  have c1 := rvarint_any rb pos v bs w h (Hb.out) Hv.out hp
  cases hr1 : rdVar bs pos with
  | none =>
    rw [hr1] at c1
    have HR : Hid (rd7 b bs pos = none) := by
      show _ = _
      unfold rd7
      simp only [hr1, Option.bind_some, Option.bind_none]
    clear hr1
    go_enter Tryd.func54, Tryd.ntmps54
    go_wp2_with (go_at_call 22; refine c1.mono ?_; rintro e w' (⟨_, _, hx, _⟩ | ⟨_, he, hm⟩); cases hx; unfold shortE at he; subst he)
    exact ⟨rfl, .inr ⟨HR.out, rfl, mod_two (hm)⟩⟩
  | some q1 =>
    obtain ⟨x1, p1⟩ := q1
    rw [hr1] at c1
    have hp1 : p1 ≤ bs.length := rdVar_end hr1
    have HR1 := hide hr1
    clear hr1
    go_enter Tryd.func54, Tryd.ntmps54
    go_wp2_with fail
    refine c1.mono ?_
    rintro e w1 (⟨_, _, hx, rfl, h1, m1⟩ | ⟨hx, _⟩)
    rotate_left
    · cases hx
    simp only [Option.map_some, Option.some.injEq, Prod.mk.injEq] at hx
    obtain ⟨rfl, rfl⟩ := hx
    have HM1 := hide (HM0.out.trans m1)
    clear c1 m1
    have c2 := rvarint_any rb p1 v bs w1 h1 (Hb.out.mod HM1.out Hv.out) Hv.out hp1
    cases hr2 : rdVar bs p1 with
    | none =>
      rw [hr2] at c2
      have HR : Hid (rd7 b bs pos = none) := by
        show _ = _
        unfold rd7
        simp only [HR1.out, hr2, Option.bind_some, Option.bind_none]
      clear hr2
      go_wp2_with (go_at_call 22; refine c2.mono ?_; rintro e w' (⟨_, _, hx, _⟩ | ⟨_, he, hm⟩); cases hx; unfold shortE at he; subst he)
      exact ⟨rfl, .inr ⟨HR.out, rfl, mod_two (HM1.out.trans hm)⟩⟩
    | some q2 =>
      obtain ⟨x2, p2⟩ := q2
      rw [hr2] at c2
      have hp2 : p2 ≤ bs.length := rdVar_end hr2
      have HR2 := hide hr2
      clear hr2
      go_wp2_with fail
      refine c2.mono ?_
      rintro e w2 (⟨_, _, hx, rfl, h2, m2⟩ | ⟨hx, _⟩)
      rotate_left
      · cases hx
      simp only [Option.map_some, Option.some.injEq, Prod.mk.injEq] at hx
      obtain ⟨rfl, rfl⟩ := hx
      have HM2 := hide (HM1.out.trans m2)
      clear c2 m2
      have c3 := rtext_any rb p2 v bs w2 h2 (Hb.out.mod HM2.out Hv.out) Hv.out hp2
      cases hr3 : rdText bs p2 with
      | none =>
        rw [hr3] at c3
        have HR : Hid (rd7 b bs pos = none) := by
          show _ = _
          unfold rd7
          simp only [HR1.out, HR2.out, hr3, Option.bind_some, Option.bind_none]
        clear hr3
        go_wp2_with (go_at_call 47; refine c3.mono ?_; rintro e w' (⟨_, _, hx, _⟩ | ⟨_, he, hm⟩); cases hx; unfold shortE at he; subst he)
        exact ⟨rfl, .inr ⟨HR.out, rfl, mod_two (HM2.out.trans hm)⟩⟩
      | some q3 =>
        obtain ⟨x3, p3⟩ := q3
        rw [hr3] at c3
        have hp3 : p3 ≤ bs.length := rdText_end hr3
        have HR3 := hide hr3
        clear hr3
        go_wp2_with fail
        refine c3.mono ?_
        rintro e w3 (⟨_, _, hx, rfl, h3, m3⟩ | ⟨hx, _⟩)
        rotate_left
        · cases hx
        simp only [Option.map_some, Option.some.injEq, Prod.mk.injEq] at hx
        obtain ⟨rfl, rfl⟩ := hx
        have HM3 := hide (HM2.out.trans m3)
        clear c3 m3
        have HH := hide h3
        have hF := Hf.out.mod HM3.out Hne.out
        obtain ⟨k0, k1, k2, k3, k4, k5, k6, k7, k8, k9⟩ := hF.cells
        have hfz : ∀ j, w3.frozen? ⟨fb, j, none⟩ = false := fun j => frozen_of_obj hF
        have HF := hide hF
        clear hF h3
        go_wp2_with fail
        refine bodyPost_end (results_none rfl _ _ _) rfl (.inl ⟨{ f0 7 b with id := x1, dl := x2, data := x3 }, .slice none 0 0, p3, ?_, rfl, ?_, ?_, OwnR.nil _, NewSl.nil w, (((((((mod_two HM3.out)).setCell (p := ⟨fb, 6, none⟩) (.inl (.inr rfl)) _)).setCell (p := ⟨fb, 7, none⟩) (.inl (.inr rfl)) _)).setCell (p := ⟨fb, 8, none⟩) (.inl (.inr rfl)) _)⟩)
        · unfold rd7
          simp only [HR1.out, HR2.out, HR3.out, Option.bind_some]
        · exact HH.out.mod ((((Mod.refl (fun k => k = fb) _).setCell (p := ⟨fb, 6, none⟩) (.inl rfl) _).setCell (p := ⟨fb, 7, none⟩) (.inl rfl) _).setCell (p := ⟨fb, 8, none⟩) (.inl rfl) _) (fun e => Hne.out e.symm)
        · exact (((HF.out).set (i := 6) (v := .int .u64 (x1 : Int)) (f' := { f0 7 b with id := x1 }) (rv' := .slice none 0 0) rfl).set (i := 7) (v := .int .u64 (x2 : Int)) (f' := { f0 7 b with id := x1, dl := x2 }) (rv' := .slice none 0 0) rfl).set (i := 8) (v := .string (strOf x3)) (f' := { f0 7 b with id := x1, dl := x2, data := x3 }) (rv' := .slice none 0 0) rfl

end Go.Proofs.YtddfdpbaiedcjaaDoor
