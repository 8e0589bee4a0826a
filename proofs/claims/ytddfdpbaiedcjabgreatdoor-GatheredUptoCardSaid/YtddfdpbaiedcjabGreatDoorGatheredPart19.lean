/- The statement Gathered, second form, its card: where what the law reads is of bulk at most 1048576, and the two listed variables read as listed, it returns true, and its argument reads behind the call as before. Part 19 of 23. -/
import Derived.Test.YtddfdpbaiedcjabGreatDoorGatheredPart18
import Derived.Test.YtddfdpbaiedcjabGreatDoorGatheredPart10
import Derived.Test.YtddfdpbaiedcjabGreatDoorGatheredPart13
import Derived.Deep.DeepCutAuto
import Derived.Deep.CutBlock
/- mediawireref.reader: frame (printed by mkrframe.py). -/
namespace Go.Proofs.YtddfdpbaiedcjabGreatDoor
open Go.RowKit

/-- A frame's rest behind its first byte. -/
def rdRest (bs : List UInt8) (t : UInt8) (pos : Nat) : Option (Frm × Nat) := (kindOf t).bind fun k => rdBody k (decide (t = 9)) bs pos

/-- Not too early so far, and this is what is read; or too early, and nothing is. -/
def J {α : Type} (b : Bool) (R X : Option α) : Prop := (b = false ∧ R = X) ∨ (b = true ∧ R = none)

theorem J.num {α β : Type} {b b' : Bool} {R : Option β} {o : Option α} {x : α} {k : α → Option β} (h : J b R (o.bind k)) (r : (b' = b ∧ o = some x) ∨ (b' = true ∧ o = none)) : J b' R (k x) := by
  rcases h with ⟨e1, e2⟩ | ⟨e1, e2⟩
  · rcases r with ⟨e3, e4⟩ | ⟨e3, e4⟩
    · exact .inl ⟨by rw [e3, e1], by rw [e2, e4]; rfl⟩
    · exact .inr ⟨e3, by rw [e2, e4]; rfl⟩
  · rcases r with ⟨e3, _⟩ | ⟨e3, _⟩
    · exact .inr ⟨by rw [e3, e1], e2⟩
    · exact .inr ⟨e3, e2⟩

theorem J.txt {α β : Type} {b b' : Bool} {R : Option β} {o : Option α} {x : α} {k : α → Option β} (h : J b R (o.bind k)) (r : (b = false ∧ b' = false ∧ o = some x) ∨ (b' = true ∧ (b = true ∨ o = none))) : J b' R (k x) := by
  rcases h with ⟨e1, e2⟩ | ⟨e1, e2⟩
  · rcases r with ⟨_, e3, e4⟩ | ⟨e3, e4⟩
    · exact .inl ⟨e3, by rw [e2, e4]; rfl⟩
    · rcases e4 with e4 | e4
      · rw [e1] at e4
        cases e4
      · exact .inr ⟨e3, by rw [e2, e4]; rfl⟩
  · rcases r with ⟨e3, _, _⟩ | ⟨e3, _⟩
    · rw [e1] at e3
      cases e3
    · exact .inr ⟨e3, e2⟩

theorem rd2_ack (b : Bool) (bs : List UInt8) (pos : Nat) : rd2 b bs pos = (rdAck bs pos).bind fun r => some ({ f0 2 b with rngs := r.1 }, r.2) := by
  unfold rd2 rdAck
  cases rdVar bs pos with
  | none => rfl
  | some q1 =>
    simp only [Option.bind_some]
    cases rdVar bs q1.2 with
    | none => rfl
    | some q2 =>
      simp only [Option.bind_some]
      cases rdVar bs q2.2 with
      | none => rfl
      | some q3 => rfl

/-- The frame is being read: its block, the reader. -/
structure FrmAt (w W : World) (rb fb : Nat) (v : Value) (bs : List UInt8) (pos : Nat) (f : Frm) (rv : Value) (p : Nat) (bad : Bool) : Prop where
  fr : FrameAt W fb f rv
  own : OwnR W rv f.rngs
  new : ∀ g, rv.ownBlock = some g → w.heap.size ≤ g
  rd : RRd W rb v p bad
  le : pos ≤ p
  ple : p ≤ bs.length
  dl : f.data.length ≤ bs.length
  rl : f.rngs.length ≤ bs.length + 1
  br : BR W v bs
  mod : Mod (Two rb fb) w W
  q : W.heap[w.heap.size]? = some (.cells (frCells (f0 0 false) (.slice none 0 0)) 48 (0, 0))

/-- Behind a call that has turned the reader alone. -/
theorem FrmAt.call {w W W' : World} {rb fb pos p p' : Nat} {v rv : Value} {bs : List UInt8} {f : Frm} {bad bad' : Bool} (h : FrmAt w W rb fb v bs pos f rv p bad) (hne : rb ≠ fb) (hv : OffS (Only rb) v) (m : Mod (Only rb) W W') (hr : RRd W' rb v p' bad') (h1 : p ≤ p') (h2 : p' ≤ bs.length) (hrl : rb < w.heap.size) :
    FrmAt w W' rb fb v bs pos f rv p' bad' :=
  ⟨h.fr.mod m (fun e => hne (by have e : fb = rb := e; exact e.symm)), h.own.mod m (fun g hg e => h.own.not_type h.rd (by decide) (by have e : g = rb := e; rw [← e]; exact hg)), h.new, hr, Nat.le_trans h.le h1, h2, h.dl, h.rl, h.br.mod m hv, h.mod.trans (mod_two m), m.obj (fun e => by have e : w.heap.size = rb := e; omega) h.q⟩

/-- Behind a store into the frame. -/
theorem FrmAt.set {w W : World} {rb fb pos p i : Nat} {v rv rv' x : Value} {bs : List UInt8} {f f' : Frm} {bad : Bool} (h : FrmAt w W rb fb v bs pos f rv p bad) (hne : rb ≠ fb) (hw : w.heap.size < fb) (hvf : OffS (fun k => k = fb) v) (he : (frCells f rv).setIfInBounds i x = frCells f' rv')
    (ho : OwnR W rv' f'.rngs) (hn : ∀ g, rv'.ownBlock = some g → w.heap.size ≤ g) (hd : f'.data.length ≤ bs.length) (hr : f'.rngs.length ≤ bs.length + 1) :
    FrmAt w (W.setCell ⟨fb, i, none⟩ x) rb fb v bs pos f' rv' p bad := by
  have m : Mod (fun k => k = fb) W (W.setCell ⟨fb, i, none⟩ x) := (Mod.refl (fun k => k = fb) W).setCell (p := ⟨fb, i, none⟩) (.inl rfl) _
  exact ⟨h.fr.set he, ho.mod m (fun g hg e => ho.not_type h.fr (by decide) (by have e : g = fb := e; rw [← e]; exact hg)), hn, h.rd.mod m hne, h.le, h.ple, hd, hr, h.br.mod m hvf, h.mod.then m (fun k hk => .inr (by have hk : k = fb := hk; omega)), m.obj (fun e => by have e : w.heap.size = fb := e; omega) h.q⟩

/-- What reading a frame answers. -/
def RFrm (w : World) (rb : Nat) (v : Value) (bs : List UInt8) (pos : Nat) (e : Ending) (w' : World) : Prop :=
  ∃ f rv p bad, e = .returned (.agg (frCells f rv)) ∧ OwnR w' rv f.rngs ∧ (∀ g, rv.ownBlock = some g → w.heap.size ≤ g) ∧ RRd w' rb v p bad ∧ pos < p ∧ p ≤ bs.length ∧ f.data.length ≤ bs.length ∧ f.rngs.length ≤ bs.length + 1 ∧ Mod (Only rb) w w' ∧ J bad (rdFrame bs pos) (some (f, p))

theorem rdFrame_rest {bs : List UInt8} {pos : Nat} {t : UInt8} (ht : bs[pos]? = some t) : rdFrame bs pos = (rdRest bs t (pos + 1)).bind fun r => if soundF r.1 = true then some r else none := by
  unfold rdFrame rdRest
  rw [ht]
  simp only
  cases kindOf t with
  | none => rfl
  | some k => rfl

theorem results_frame (tmps : Array Value) (w : World) (qb : Nat) (f : Frm) (rv : Value) (h2 : tmps.getD 2 undef = .pointer (some ⟨qb, 0, none⟩)) (ho : w.heap[qb]? = some (.cells (frCells f rv) 48 (0, 0))) :
    (results Tryz.f12 tmps).run Tryz.prog w = .ok (.agg (frCells f rv)) w := by
  have h2' : tmps[2]?.getD undef = .pointer (some ⟨qb, 0, none⟩) := by rw [← h2]; simp
  have c0 : w.cell? ⟨qb, 0, none⟩ = some (.int .i64 f.kind) := cell_of_obj ho rfl
  have c1 : w.cell? ⟨qb, 1, none⟩ = some (.int .i64 f.stream) := cell_of_obj ho rfl
  have c2 : w.cell? ⟨qb, 2, none⟩ = some (.int .u64 (f.off : Int)) := cell_of_obj ho rfl
  have c3 : w.cell? ⟨qb, 3, none⟩ = some (.int .u64 (f.rel : Int)) := cell_of_obj ho rfl
  have c4 : w.cell? ⟨qb, 4, none⟩ = some (.int .u64 (f.lim : Int)) := cell_of_obj ho rfl
  have c5 : w.cell? ⟨qb, 5, none⟩ = some (.bool f.fin) := cell_of_obj ho rfl
  have c6 : w.cell? ⟨qb, 6, none⟩ = some (.int .u64 (f.id : Int)) := cell_of_obj ho rfl
  have c7 : w.cell? ⟨qb, 7, none⟩ = some (.int .u64 (f.dl : Int)) := cell_of_obj ho rfl
  have c8 : w.cell? ⟨qb, 8, none⟩ = some (.string (strOf f.data)) := cell_of_obj ho rfl
  have c9 : w.cell? ⟨qb, 9, none⟩ = some rv := cell_of_obj ho rfl
  simp [results, Tryz.results12, go_sem, h2', c0, c1, c2, c3, c4, c5, c6, c7, c8, c9, frCells]

set_option maxRecDepth 100000 in
set_option maxHeartbeats 8000000 in
theorem rframe_any (rb pos : Nat) (v : Value) (bs : List UInt8) (t : UInt8) (w : World) (h : RRd w rb v pos false) (hb : BR w v bs) (hv : OffS (Only rb) v) (ht : bs[pos]? = some t) (hbl : bs.length ≤ 549755813888) :
    Calls Tryz.prog 12 #[.pointer (some ⟨rb, 0, none⟩)] w (RFrm w rb v bs pos) := by
  have hlt : pos < bs.length := (List.getElem?_eq_some_iff.1 ht).1
  obtain ⟨a, cap, rfl, hc1, hc2, h3⟩ := id hb
  unfold maxLen at hc2
  obtain ⟨g, o, rfl, hcell⟩ := h3 pos t ht
  have htl := t.toNat_lt
  have k0 := h.c0
  have k1 := h.c1
  have kz1 : w.frozen? ⟨rb, 1, none⟩ = false := frozen_of_obj h
  have hrl := lt_of_cell k0
  have hgl := lt_of_cell hcell
  have H := hide h
  have HB := hide hb
  have HV := hide hv
  have HVF : Hid (OffS (fun k => k = w.heap.size + 1) (.slice (some ⟨g, o, none⟩) bs.length cap)) := by
    intro g' o' n' c' e hx
    cases e
    have hx : g = w.heap.size + 1 := hx
    omega
  have hne : rb ≠ w.heap.size + 1 := by omega
  have hfw : w.heap.size < w.heap.size + 1 := by omega
  have e4 : IntKind.i64.wrap ((pos : Int) + 1) = (pos : Int) + 1 := IntWalk.i64_in _ (by omega)
  clear h hb hv h3
  go_enter Tryz.func12, Tryz.ntmps12
  go_wp2_with fail
  go_quiet (fail)
  go_upto_block 0 with fail
  obtain ⟨W, hW⟩ : ∃ W, (((w.alloc (.cells #[.int .i64 0, .int .i64 0, .int .u64 0, .int .u64 0, .int .u64 0, .bool false, .int .u64 0, .int .u64 0, .string ⟨#[]⟩, .slice none 0 0] 48)).drewN nq).setCell ⟨rb, 1, none⟩ (.int .i64 ((pos : Int) + 1))).alloc (.cells #[.int .i64 0, .int .i64 0, .int .u64 0, .int .u64 0, .int .u64 0, .bool false, .int .u64 0, .int .u64 0, .string ⟨#[]⟩, .slice none 0 0] 48) = W := ⟨_, rfl⟩
  have HA : Hid (FrmAt w W rb (w.heap.size + 1) (.slice (some ⟨g, o, none⟩) bs.length cap) bs (pos + 1) (f0 0 false) (.slice none 0 0) (pos + 1) false) := by
    have hz : (((w.alloc (.cells #[.int .i64 0, .int .i64 0, .int .u64 0, .int .u64 0, .int .u64 0, .bool false, .int .u64 0, .int .u64 0, .string ⟨#[]⟩, .slice none 0 0] 48)).drewN nq).setCell ⟨rb, 1, none⟩ (.int .i64 ((pos : Int) + 1))).heap.size = w.heap.size + 1 := by simp [World.setCell]
    have m1 : Mod (Two rb (w.heap.size + 1)) w (((w.alloc (.cells #[.int .i64 0, .int .i64 0, .int .u64 0, .int .u64 0, .int .u64 0, .bool false, .int .u64 0, .int .u64 0, .string ⟨#[]⟩, .slice none 0 0] 48)).drewN nq).setCell ⟨rb, 1, none⟩ (.int .i64 ((pos : Int) + 1))) := (((Mod.refl _ _).alloc _).drewN nq).setCell (p := ⟨rb, 1, none⟩) (.inl (.inl rfl)) _
    have m2 : Mod (Two rb (w.heap.size + 1)) w W := by rw [← hW]; exact m1.alloc _
    have r1 : RRd (((w.alloc (.cells #[.int .i64 0, .int .i64 0, .int .u64 0, .int .u64 0, .int .u64 0, .bool false, .int .u64 0, .int .u64 0, .string ⟨#[]⟩, .slice none 0 0] 48)).drewN nq).setCell ⟨rb, 1, none⟩ (.int .i64 ((pos : Int) + 1))) rb (.slice (some ⟨g, o, none⟩) bs.length cap) (pos + 1) false :=
      RRd.go (H.out.mod (S := NoB) (((Mod.refl NoB w).alloc _).drewN nq) (fun x => x)) (pos + 1) _ (by omega)
    refine ⟨?_, OwnR.nil _, (fun g hg => by cases hg), ?_, Nat.le_refl _, by omega, Nat.zero_le _, Nat.zero_le _, HB.out.mod m2 ?_, m2, ?_⟩
    · have q := heap_alloc_new (((w.alloc (.cells #[.int .i64 0, .int .i64 0, .int .u64 0, .int .u64 0, .int .u64 0, .bool false, .int .u64 0, .int .u64 0, .string ⟨#[]⟩, .slice none 0 0] 48)).drewN nq).setCell ⟨rb, 1, none⟩ (.int .i64 ((pos : Int) + 1))) (.cells #[.int .i64 0, .int .i64 0, .int .u64 0, .int .u64 0, .int .u64 0, .bool false, .int .u64 0, .int .u64 0, .string ⟨#[]⟩, .slice none 0 0] 48)
      rw [hz, hW] at q
      exact q
    · rw [← hW]
      exact r1.mod (S := NoB) ((Mod.refl _ _).alloc _) (fun x => x)
    · intro g' o' n' c' e hx
      rcases hx with hx | hx
      · exact HV.out g' o' n' c' e hx
      · exact HVF.out g' o' n' c' e hx
    · rw [← hW]
      refine ((Mod.refl NoB _).alloc _).obj (fun x => x) ?_
      refine ((Mod.refl (fun k => k = rb) _).setCell (p := ⟨rb, 1, none⟩) (.inl rfl) _).obj (fun e => by have e : w.heap.size = rb := e; omega) ?_
      exact ((Mod.refl NoB _).drewN nq).obj (fun x => x) (heap_alloc_new w _)
  rw [hW]
  clear hW k0 k1 kz1 hcell e4
  go_cut [] (fun wx => ∃ f rv p bad, FrmAt w wx rb (w.heap.size + 1) (.slice (some ⟨g, o, none⟩) bs.length cap) bs (pos + 1) f rv p bad ∧ J bad (rdRest bs t (pos + 1)) (some (f, p)))
  case first =>
    have y := HA.out.fr.cells
    obtain ⟨c0, c1, c2, c3, c4, c5, c6, c7, c8, c9⟩ := y
    have z0 : W.frozen? ⟨w.heap.size + 1, 0, none⟩ = false := frozen_of_obj HA.out.fr
    have q2 := HA.out.rd.c2
    have qz : W.frozen? ⟨rb, 2, none⟩ = false := frozen_of_obj HA.out.rd
    by_cases ht1 : t = 1
    · subst ht1
      have j0 : J false (rdRest bs 1 (pos + 1)) (rdBody 1 false bs (pos + 1)) := .inl ⟨rfl, rfl⟩
      rw [show rdBody 1 false bs (pos + 1) = some (f0 1 false, pos + 1) by simp [rdBody]] at j0
      have A0 := HA.out.set (i := 0) (x := .int .i64 1) (f' := f0 1 false) (rv' := .slice none 0 0) hne hfw HVF.out rfl (OwnR.nil _) (fun g hg => by cases hg) (Nat.zero_le _) (Nat.zero_le _)
      obtain ⟨X0, hX0⟩ : ∃ X0, (W.setCell ⟨w.heap.size + 1, 0, none⟩ (.int .i64 1)) = X0 := ⟨_, rfl⟩
      rw [hX0] at A0
      have HA0 := hide A0
      have HX0 := hide hX0
      have J0 := hide j0
      clear A0 hX0 j0
      go_wp2_with fail
      rw [HX0.out]
      go_meet
      exact ⟨_, _, _, _, HA0.out, J0.out⟩
    by_cases ht2 : t = 2
    · subst ht2
      have j0 : J false (rdRest bs 2 (pos + 1)) (rdBody 2 false bs (pos + 1)) := .inl ⟨rfl, rfl⟩
      rw [show rdBody 2 false bs (pos + 1) = rd2 false bs (pos + 1) by simp [rdBody], rd2_ack] at j0
      have A0 := HA.out.set (i := 0) (x := .int .i64 2) (f' := f0 2 false) (rv' := .slice none 0 0) hne hfw HVF.out rfl (OwnR.nil _) (fun g hg => by cases hg) (Nat.zero_le _) (Nat.zero_le _)
      obtain ⟨X0, hX0⟩ : ∃ X0, (W.setCell ⟨w.heap.size + 1, 0, none⟩ (.int .i64 2)) = X0 := ⟨_, rfl⟩
      rw [hX0] at A0
      have HA0 := hide A0
      have HX0 := hide hX0
      have J0 := hide j0
      clear A0 hX0 j0
      go_wp2_with fail
      rw [HX0.out]
      have k1 := rrng_any rb (pos + 1) _ bs false X0 HA0.out.rd HA0.out.br HV.out HA0.out.ple (by omega)
      refine k1.mono ?_
      clear k1
      rintro e w1 ⟨xv, x1, p1, b1, rfl, ho1, hn1, hr1, hp1, hq1, hl1, hm1, res1⟩
      obtain ⟨xa, xc, rfl, _⟩ := own_form ho1.1
      have B1 := HA0.out.call hne HV.out hm1 hr1 hp1 hq1 hrl
      have ho1' : OwnR w1 (.slice xa x1.length xc) x1 := ho1
      have C1 := B1.set (i := 9) (x := .slice xa x1.length xc) (f' := { f0 2 false with rngs := x1 }) (rv' := .slice xa x1.length xc) hne hfw HVF.out rfl ho1 (fun g hg => by have := hn1 g hg; have := HA0.out.mod.size; omega) (Nat.zero_le _) hl1
      have y1 := B1.fr.cells
      obtain ⟨c0, c1, c2, c3, c4, c5, c6, c7, c8, c9⟩ := y1
      have z1 : w1.frozen? ⟨w.heap.size + 1, 9, none⟩ = false := frozen_of_obj B1.fr
      obtain ⟨X1, hX1⟩ : ∃ X1, w1.setCell ⟨w.heap.size + 1, 9, none⟩ (.slice xa x1.length xc) = X1 := ⟨_, rfl⟩
      rw [hX1] at C1
      have HA1 := hide C1
      have HX1 := hide hX1
      have J1 := hide (J0.out.txt res1)
      clear B1 C1 hX1 hr1 hm1 res1 ho1 hn1 ho1'
      go_wp2_with fail
      rw [HX1.out]
      clear c0 c1 c2 c3 c4 c5 c6 c7 c8 c9 z1
      go_meet
      exact ⟨_, _, _, _, HA1.out, J1.out⟩
    by_cases ht36 : t = 36
    · subst ht36
      have j0 : J false (rdRest bs 36 (pos + 1)) (rdBody 3 false bs (pos + 1)) := .inl ⟨rfl, rfl⟩
      rw [show rdBody 3 false bs (pos + 1) = rd3 false bs (pos + 1) by simp [rdBody]] at j0
      unfold rd3 at j0
      have A0 := HA.out.set (i := 0) (x := .int .i64 3) (f' := f0 3 false) (rv' := .slice none 0 0) hne hfw HVF.out rfl (OwnR.nil _) (fun g hg => by cases hg) (Nat.zero_le _) (Nat.zero_le _)
      obtain ⟨X0, hX0⟩ : ∃ X0, (W.setCell ⟨w.heap.size + 1, 0, none⟩ (.int .i64 3)) = X0 := ⟨_, rfl⟩
      rw [hX0] at A0
      have HA0 := hide A0
      have HX0 := hide hX0
      have J0 := hide j0
      clear A0 hX0 j0
      go_wp2_with fail
      rw [HX0.out]
      have k1 := rstr_any rb (pos + 1) _ bs false X0 HA0.out.rd HA0.out.br HV.out HA0.out.ple (by omega)
      refine k1.mono ?_
      clear k1
      rintro e w1 ⟨x1, p1, b1, rfl, hr1, hp1, hq1, hl1, hm1, res1⟩
      have B1 := HA0.out.call hne HV.out hm1 hr1 hp1 hq1 hrl
      have C1 := B1.set (i := 1) (x := .int .i64 ((x1 : Nat) : Int)) (f' := { f0 3 false with stream := (x1 : Int) }) (rv' := .slice none 0 0) hne hfw HVF.out rfl (OwnR.nil _) (fun g hg => by cases hg) (Nat.zero_le _) (Nat.zero_le _)
      have y1 := B1.fr.cells
      obtain ⟨c0, c1, c2, c3, c4, c5, c6, c7, c8, c9⟩ := y1
      have z1 : w1.frozen? ⟨w.heap.size + 1, 1, none⟩ = false := frozen_of_obj B1.fr
      obtain ⟨X1, hX1⟩ : ∃ X1, w1.setCell ⟨w.heap.size + 1, 1, none⟩ (.int .i64 ((x1 : Nat) : Int)) = X1 := ⟨_, rfl⟩
      rw [hX1] at C1
      have HA1 := hide C1
      have HX1 := hide hX1
      have J1 := hide (J0.out.num res1)
      clear B1 C1 hX1 hr1 hm1 res1
      go_wp2_with fail
      rw [HX1.out]
      clear c0 c1 c2 c3 c4 c5 c6 c7 c8 c9 z1
      have k2 := rnumber_any rb (p1) _ bs b1 X1 HA1.out.rd HA1.out.br HV.out HA1.out.ple (by omega)
      refine k2.mono ?_
      clear k2
      rintro e w2 ⟨x2, p2, b2, rfl, hr2, hp2, hq2, hl2, hm2, res2⟩
      have B2 := HA1.out.call hne HV.out hm2 hr2 hp2 hq2 hrl
      have C2 := B2.set (i := 2) (x := .int .u64 ((x2 : Nat) : Int)) (f' := { f0 3 false with stream := (x1 : Int), off := x2 }) (rv' := .slice none 0 0) hne hfw HVF.out rfl (OwnR.nil _) (fun g hg => by cases hg) (Nat.zero_le _) (Nat.zero_le _)
      have y2 := B2.fr.cells
      obtain ⟨c0, c1, c2, c3, c4, c5, c6, c7, c8, c9⟩ := y2
      have z2 : w2.frozen? ⟨w.heap.size + 1, 2, none⟩ = false := frozen_of_obj B2.fr
      obtain ⟨X2, hX2⟩ : ∃ X2, w2.setCell ⟨w.heap.size + 1, 2, none⟩ (.int .u64 ((x2 : Nat) : Int)) = X2 := ⟨_, rfl⟩
      rw [hX2] at C2
      have HA2 := hide C2
      have HX2 := hide hX2
      have J2 := hide (J1.out.num res2)
      clear B2 C2 hX2 hr2 hm2 res2
      go_wp2_with fail
      rw [HX2.out]
      clear c0 c1 c2 c3 c4 c5 c6 c7 c8 c9 z2
      have k3 := rnumber_any rb (p2) _ bs b2 X2 HA2.out.rd HA2.out.br HV.out HA2.out.ple (by omega)
      refine k3.mono ?_
      clear k3
      rintro e w3 ⟨x3, p3, b3, rfl, hr3, hp3, hq3, hl3, hm3, res3⟩
      have B3 := HA2.out.call hne HV.out hm3 hr3 hp3 hq3 hrl
      have C3 := B3.set (i := 3) (x := .int .u64 ((x3 : Nat) : Int)) (f' := { f0 3 false with stream := (x1 : Int), off := x2, rel := x3 }) (rv' := .slice none 0 0) hne hfw HVF.out rfl (OwnR.nil _) (fun g hg => by cases hg) (Nat.zero_le _) (Nat.zero_le _)
      have y3 := B3.fr.cells
      obtain ⟨c0, c1, c2, c3, c4, c5, c6, c7, c8, c9⟩ := y3
      have z3 : w3.frozen? ⟨w.heap.size + 1, 3, none⟩ = false := frozen_of_obj B3.fr
      obtain ⟨X3, hX3⟩ : ∃ X3, w3.setCell ⟨w.heap.size + 1, 3, none⟩ (.int .u64 ((x3 : Nat) : Int)) = X3 := ⟨_, rfl⟩
      rw [hX3] at C3
      have HA3 := hide C3
      have HX3 := hide hX3
      have J3 := hide (J2.out.num res3)
      clear B3 C3 hX3 hr3 hm3 res3
      go_wp2_with fail
      rw [HX3.out]
      clear c0 c1 c2 c3 c4 c5 c6 c7 c8 c9 z3
      go_meet
      exact ⟨_, _, _, _, HA3.out, J3.out⟩
    by_cases ht8 : t = 8
    · subst ht8
      have j0 : J false (rdRest bs 8 (pos + 1)) (rdBody 4 false bs (pos + 1)) := .inl ⟨rfl, rfl⟩
      rw [show rdBody 4 false bs (pos + 1) = rd4 false bs (pos + 1) by simp [rdBody]] at j0
      unfold rd4 at j0
      have A0 := HA.out.set (i := 0) (x := .int .i64 4) (f' := f0 4 false) (rv' := .slice none 0 0) hne hfw HVF.out rfl (OwnR.nil _) (fun g hg => by cases hg) (Nat.zero_le _) (Nat.zero_le _)
      have A0b := A0.set (i := 5) (x := .bool false) (f' := f0 4 false) (rv' := .slice none 0 0) hne hfw HVF.out rfl (OwnR.nil _) (fun g hg => by cases hg) (Nat.zero_le _) (Nat.zero_le _)
      have z5 : (W.setCell ⟨w.heap.size + 1, 0, none⟩ (.int .i64 4)).frozen? ⟨w.heap.size + 1, 5, none⟩ = false := frozen_of_obj A0.fr
      have y5 : (W.setCell ⟨w.heap.size + 1, 0, none⟩ (.int .i64 4)).cell? ⟨w.heap.size + 1, 5, none⟩ = some (.bool false) := A0.fr.cell rfl
      obtain ⟨X0, hX0⟩ : ∃ X0, ((W.setCell ⟨w.heap.size + 1, 0, none⟩ (.int .i64 4)).setCell ⟨w.heap.size + 1, 5, none⟩ (.bool false)) = X0 := ⟨_, rfl⟩
      rw [hX0] at A0b
      have HA0 := hide A0b
      have HX0 := hide hX0
      have J0 := hide j0
      clear A0 A0b hX0 j0
      go_wp2_with fail
      rw [HX0.out]
      have k1 := rstr_any rb (pos + 1) _ bs false X0 HA0.out.rd HA0.out.br HV.out HA0.out.ple (by omega)
      refine k1.mono ?_
      clear k1
      rintro e w1 ⟨x1, p1, b1, rfl, hr1, hp1, hq1, hl1, hm1, res1⟩
      have B1 := HA0.out.call hne HV.out hm1 hr1 hp1 hq1 hrl
      have C1 := B1.set (i := 1) (x := .int .i64 ((x1 : Nat) : Int)) (f' := { f0 4 false with stream := (x1 : Int) }) (rv' := .slice none 0 0) hne hfw HVF.out rfl (OwnR.nil _) (fun g hg => by cases hg) (Nat.zero_le _) (Nat.zero_le _)
      have y1 := B1.fr.cells
      obtain ⟨c0, c1, c2, c3, c4, c5, c6, c7, c8, c9⟩ := y1
      have z1 : w1.frozen? ⟨w.heap.size + 1, 1, none⟩ = false := frozen_of_obj B1.fr
      obtain ⟨X1, hX1⟩ : ∃ X1, w1.setCell ⟨w.heap.size + 1, 1, none⟩ (.int .i64 ((x1 : Nat) : Int)) = X1 := ⟨_, rfl⟩
      rw [hX1] at C1
      have HA1 := hide C1
      have HX1 := hide hX1
      have J1 := hide (J0.out.num res1)
      clear B1 C1 hX1 hr1 hm1 res1
      go_wp2_with fail
      rw [HX1.out]
      clear c0 c1 c2 c3 c4 c5 c6 c7 c8 c9 z1
      have k2 := rnumber_any rb (p1) _ bs b1 X1 HA1.out.rd HA1.out.br HV.out HA1.out.ple (by omega)
      refine k2.mono ?_
      clear k2
      rintro e w2 ⟨x2, p2, b2, rfl, hr2, hp2, hq2, hl2, hm2, res2⟩
      have B2 := HA1.out.call hne HV.out hm2 hr2 hp2 hq2 hrl
      have C2 := B2.set (i := 2) (x := .int .u64 ((x2 : Nat) : Int)) (f' := { f0 4 false with stream := (x1 : Int), off := x2 }) (rv' := .slice none 0 0) hne hfw HVF.out rfl (OwnR.nil _) (fun g hg => by cases hg) (Nat.zero_le _) (Nat.zero_le _)
      have y2 := B2.fr.cells
      obtain ⟨c0, c1, c2, c3, c4, c5, c6, c7, c8, c9⟩ := y2
      have z2 : w2.frozen? ⟨w.heap.size + 1, 2, none⟩ = false := frozen_of_obj B2.fr
      obtain ⟨X2, hX2⟩ : ∃ X2, w2.setCell ⟨w.heap.size + 1, 2, none⟩ (.int .u64 ((x2 : Nat) : Int)) = X2 := ⟨_, rfl⟩
      rw [hX2] at C2
      have HA2 := hide C2
      have HX2 := hide hX2
      have J2 := hide (J1.out.num res2)
      clear B2 C2 hX2 hr2 hm2 res2
      go_wp2_with fail
      rw [HX2.out]
      clear c0 c1 c2 c3 c4 c5 c6 c7 c8 c9 z2
      have k3 := rtxt_any rb (p2) _ bs b2 X2 HA2.out.rd HA2.out.br HV.out HA2.out.ple (by omega)
      refine k3.mono ?_
      clear k3
      rintro e w3 ⟨x3, p3, b3, rfl, hr3, hp3, hq3, hl3, hm3, res3⟩
      have B3 := HA2.out.call hne HV.out hm3 hr3 hp3 hq3 hrl
      have C3 := B3.set (i := 8) (x := .string (strOf x3)) (f' := { f0 4 false with stream := (x1 : Int), off := x2, data := x3 }) (rv' := .slice none 0 0) hne hfw HVF.out rfl (OwnR.nil _) (fun g hg => by cases hg) hl3 (Nat.zero_le _)
      have y3 := B3.fr.cells
      obtain ⟨c0, c1, c2, c3, c4, c5, c6, c7, c8, c9⟩ := y3
      have z3 : w3.frozen? ⟨w.heap.size + 1, 8, none⟩ = false := frozen_of_obj B3.fr
      obtain ⟨X3, hX3⟩ : ∃ X3, w3.setCell ⟨w.heap.size + 1, 8, none⟩ (.string (strOf x3)) = X3 := ⟨_, rfl⟩
      rw [hX3] at C3
      have HA3 := hide C3
      have HX3 := hide hX3
      have J3 := hide (J2.out.txt res3)
      clear B3 C3 hX3 hr3 hm3 res3
      go_wp2_with fail
      rw [HX3.out]
      clear c0 c1 c2 c3 c4 c5 c6 c7 c8 c9 z3
      go_meet
      exact ⟨_, _, _, _, HA3.out, J3.out⟩
    by_cases ht9 : t = 9
    · subst ht9
      have j0 : J false (rdRest bs 9 (pos + 1)) (rdBody 4 true bs (pos + 1)) := .inl ⟨rfl, rfl⟩
      rw [show rdBody 4 true bs (pos + 1) = rd4 true bs (pos + 1) by simp [rdBody]] at j0
      unfold rd4 at j0
      have A0 := HA.out.set (i := 0) (x := .int .i64 4) (f' := f0 4 false) (rv' := .slice none 0 0) hne hfw HVF.out rfl (OwnR.nil _) (fun g hg => by cases hg) (Nat.zero_le _) (Nat.zero_le _)
      have A0b := A0.set (i := 5) (x := .bool true) (f' := f0 4 true) (rv' := .slice none 0 0) hne hfw HVF.out rfl (OwnR.nil _) (fun g hg => by cases hg) (Nat.zero_le _) (Nat.zero_le _)
      have z5 : (W.setCell ⟨w.heap.size + 1, 0, none⟩ (.int .i64 4)).frozen? ⟨w.heap.size + 1, 5, none⟩ = false := frozen_of_obj A0.fr
      have y5 : (W.setCell ⟨w.heap.size + 1, 0, none⟩ (.int .i64 4)).cell? ⟨w.heap.size + 1, 5, none⟩ = some (.bool false) := A0.fr.cell rfl
      obtain ⟨X0, hX0⟩ : ∃ X0, ((W.setCell ⟨w.heap.size + 1, 0, none⟩ (.int .i64 4)).setCell ⟨w.heap.size + 1, 5, none⟩ (.bool true)) = X0 := ⟨_, rfl⟩
      rw [hX0] at A0b
      have HA0 := hide A0b
      have HX0 := hide hX0
      have J0 := hide j0
      clear A0 A0b hX0 j0
      go_wp2_with fail
      rw [HX0.out]
      have k1 := rstr_any rb (pos + 1) _ bs false X0 HA0.out.rd HA0.out.br HV.out HA0.out.ple (by omega)
      refine k1.mono ?_
      clear k1
      rintro e w1 ⟨x1, p1, b1, rfl, hr1, hp1, hq1, hl1, hm1, res1⟩
      have B1 := HA0.out.call hne HV.out hm1 hr1 hp1 hq1 hrl
      have C1 := B1.set (i := 1) (x := .int .i64 ((x1 : Nat) : Int)) (f' := { f0 4 true with stream := (x1 : Int) }) (rv' := .slice none 0 0) hne hfw HVF.out rfl (OwnR.nil _) (fun g hg => by cases hg) (Nat.zero_le _) (Nat.zero_le _)
      have y1 := B1.fr.cells
      obtain ⟨c0, c1, c2, c3, c4, c5, c6, c7, c8, c9⟩ := y1
      have z1 : w1.frozen? ⟨w.heap.size + 1, 1, none⟩ = false := frozen_of_obj B1.fr
      obtain ⟨X1, hX1⟩ : ∃ X1, w1.setCell ⟨w.heap.size + 1, 1, none⟩ (.int .i64 ((x1 : Nat) : Int)) = X1 := ⟨_, rfl⟩
      rw [hX1] at C1
      have HA1 := hide C1
      have HX1 := hide hX1
      have J1 := hide (J0.out.num res1)
      clear B1 C1 hX1 hr1 hm1 res1
      go_wp2_with fail
      rw [HX1.out]
      clear c0 c1 c2 c3 c4 c5 c6 c7 c8 c9 z1
      have k2 := rnumber_any rb (p1) _ bs b1 X1 HA1.out.rd HA1.out.br HV.out HA1.out.ple (by omega)
      refine k2.mono ?_
      clear k2
      rintro e w2 ⟨x2, p2, b2, rfl, hr2, hp2, hq2, hl2, hm2, res2⟩
      have B2 := HA1.out.call hne HV.out hm2 hr2 hp2 hq2 hrl
      have C2 := B2.set (i := 2) (x := .int .u64 ((x2 : Nat) : Int)) (f' := { f0 4 true with stream := (x1 : Int), off := x2 }) (rv' := .slice none 0 0) hne hfw HVF.out rfl (OwnR.nil _) (fun g hg => by cases hg) (Nat.zero_le _) (Nat.zero_le _)
      have y2 := B2.fr.cells
      obtain ⟨c0, c1, c2, c3, c4, c5, c6, c7, c8, c9⟩ := y2
      have z2 : w2.frozen? ⟨w.heap.size + 1, 2, none⟩ = false := frozen_of_obj B2.fr
      obtain ⟨X2, hX2⟩ : ∃ X2, w2.setCell ⟨w.heap.size + 1, 2, none⟩ (.int .u64 ((x2 : Nat) : Int)) = X2 := ⟨_, rfl⟩
      rw [hX2] at C2
      have HA2 := hide C2
      have HX2 := hide hX2
      have J2 := hide (J1.out.num res2)
      clear B2 C2 hX2 hr2 hm2 res2
      go_wp2_with fail
      rw [HX2.out]
      clear c0 c1 c2 c3 c4 c5 c6 c7 c8 c9 z2
      have k3 := rtxt_any rb (p2) _ bs b2 X2 HA2.out.rd HA2.out.br HV.out HA2.out.ple (by omega)
      refine k3.mono ?_
      clear k3
      rintro e w3 ⟨x3, p3, b3, rfl, hr3, hp3, hq3, hl3, hm3, res3⟩
      have B3 := HA2.out.call hne HV.out hm3 hr3 hp3 hq3 hrl
      have C3 := B3.set (i := 8) (x := .string (strOf x3)) (f' := { f0 4 true with stream := (x1 : Int), off := x2, data := x3 }) (rv' := .slice none 0 0) hne hfw HVF.out rfl (OwnR.nil _) (fun g hg => by cases hg) hl3 (Nat.zero_le _)
      have y3 := B3.fr.cells
      obtain ⟨c0, c1, c2, c3, c4, c5, c6, c7, c8, c9⟩ := y3
      have z3 : w3.frozen? ⟨w.heap.size + 1, 8, none⟩ = false := frozen_of_obj B3.fr
      obtain ⟨X3, hX3⟩ : ∃ X3, w3.setCell ⟨w.heap.size + 1, 8, none⟩ (.string (strOf x3)) = X3 := ⟨_, rfl⟩
      rw [hX3] at C3
      have HA3 := hide C3
      have HX3 := hide hX3
      have J3 := hide (J2.out.txt res3)
      clear B3 C3 hX3 hr3 hm3 res3
      go_wp2_with fail
      rw [HX3.out]
      clear c0 c1 c2 c3 c4 c5 c6 c7 c8 c9 z3
      go_meet
      exact ⟨_, _, _, _, HA3.out, J3.out⟩
    by_cases ht16 : t = 16
    · subst ht16
      have j0 : J false (rdRest bs 16 (pos + 1)) (rdBody 5 false bs (pos + 1)) := .inl ⟨rfl, rfl⟩
      rw [show rdBody 5 false bs (pos + 1) = rdNumF 5 false bs (pos + 1) by simp [rdBody]] at j0
      unfold rdNumF at j0
      have A0 := HA.out.set (i := 0) (x := .int .i64 5) (f' := f0 5 false) (rv' := .slice none 0 0) hne hfw HVF.out rfl (OwnR.nil _) (fun g hg => by cases hg) (Nat.zero_le _) (Nat.zero_le _)
      obtain ⟨X0, hX0⟩ : ∃ X0, (W.setCell ⟨w.heap.size + 1, 0, none⟩ (.int .i64 5)) = X0 := ⟨_, rfl⟩
      rw [hX0] at A0
      have HA0 := hide A0
      have HX0 := hide hX0
      have J0 := hide j0
      clear A0 hX0 j0
      go_wp2_with fail
      rw [HX0.out]
      have k1 := rnumber_any rb (pos + 1) _ bs false X0 HA0.out.rd HA0.out.br HV.out HA0.out.ple (by omega)
      refine k1.mono ?_
      clear k1
      rintro e w1 ⟨x1, p1, b1, rfl, hr1, hp1, hq1, hl1, hm1, res1⟩
      have B1 := HA0.out.call hne HV.out hm1 hr1 hp1 hq1 hrl
      have C1 := B1.set (i := 4) (x := .int .u64 ((x1 : Nat) : Int)) (f' := { f0 5 false with lim := x1 }) (rv' := .slice none 0 0) hne hfw HVF.out rfl (OwnR.nil _) (fun g hg => by cases hg) (Nat.zero_le _) (Nat.zero_le _)
      have y1 := B1.fr.cells
      obtain ⟨c0, c1, c2, c3, c4, c5, c6, c7, c8, c9⟩ := y1
      have z1 : w1.frozen? ⟨w.heap.size + 1, 4, none⟩ = false := frozen_of_obj B1.fr
      obtain ⟨X1, hX1⟩ : ∃ X1, w1.setCell ⟨w.heap.size + 1, 4, none⟩ (.int .u64 ((x1 : Nat) : Int)) = X1 := ⟨_, rfl⟩
      rw [hX1] at C1
      have HA1 := hide C1
      have HX1 := hide hX1
      have J1 := hide (J0.out.num res1)
      clear B1 C1 hX1 hr1 hm1 res1
      go_wp2_with fail
      rw [HX1.out]
      clear c0 c1 c2 c3 c4 c5 c6 c7 c8 c9 z1
      go_meet
      exact ⟨_, _, _, _, HA1.out, J1.out⟩
    by_cases ht17 : t = 17
    · subst ht17
      have j0 : J false (rdRest bs 17 (pos + 1)) (rdBody 6 false bs (pos + 1)) := .inl ⟨rfl, rfl⟩
      rw [show rdBody 6 false bs (pos + 1) = rd6 false bs (pos + 1) by simp [rdBody]] at j0
      unfold rd6 at j0
      have A0 := HA.out.set (i := 0) (x := .int .i64 6) (f' := f0 6 false) (rv' := .slice none 0 0) hne hfw HVF.out rfl (OwnR.nil _) (fun g hg => by cases hg) (Nat.zero_le _) (Nat.zero_le _)
      obtain ⟨X0, hX0⟩ : ∃ X0, (W.setCell ⟨w.heap.size + 1, 0, none⟩ (.int .i64 6)) = X0 := ⟨_, rfl⟩
      rw [hX0] at A0
      have HA0 := hide A0
      have HX0 := hide hX0
      have J0 := hide j0
      clear A0 hX0 j0
      go_wp2_with fail
      rw [HX0.out]
      have k1 := rstr_any rb (pos + 1) _ bs false X0 HA0.out.rd HA0.out.br HV.out HA0.out.ple (by omega)
      refine k1.mono ?_
      clear k1
      rintro e w1 ⟨x1, p1, b1, rfl, hr1, hp1, hq1, hl1, hm1, res1⟩
      have B1 := HA0.out.call hne HV.out hm1 hr1 hp1 hq1 hrl
      have C1 := B1.set (i := 1) (x := .int .i64 ((x1 : Nat) : Int)) (f' := { f0 6 false with stream := (x1 : Int) }) (rv' := .slice none 0 0) hne hfw HVF.out rfl (OwnR.nil _) (fun g hg => by cases hg) (Nat.zero_le _) (Nat.zero_le _)
      have y1 := B1.fr.cells
      obtain ⟨c0, c1, c2, c3, c4, c5, c6, c7, c8, c9⟩ := y1
      have z1 : w1.frozen? ⟨w.heap.size + 1, 1, none⟩ = false := frozen_of_obj B1.fr
      obtain ⟨X1, hX1⟩ : ∃ X1, w1.setCell ⟨w.heap.size + 1, 1, none⟩ (.int .i64 ((x1 : Nat) : Int)) = X1 := ⟨_, rfl⟩
      rw [hX1] at C1
      have HA1 := hide C1
      have HX1 := hide hX1
      have J1 := hide (J0.out.num res1)
      clear B1 C1 hX1 hr1 hm1 res1
      go_wp2_with fail
      rw [HX1.out]
      clear c0 c1 c2 c3 c4 c5 c6 c7 c8 c9 z1
      have k2 := rnumber_any rb (p1) _ bs b1 X1 HA1.out.rd HA1.out.br HV.out HA1.out.ple (by omega)
      refine k2.mono ?_
      clear k2
      rintro e w2 ⟨x2, p2, b2, rfl, hr2, hp2, hq2, hl2, hm2, res2⟩
      have B2 := HA1.out.call hne HV.out hm2 hr2 hp2 hq2 hrl
      have C2 := B2.set (i := 4) (x := .int .u64 ((x2 : Nat) : Int)) (f' := { f0 6 false with stream := (x1 : Int), lim := x2 }) (rv' := .slice none 0 0) hne hfw HVF.out rfl (OwnR.nil _) (fun g hg => by cases hg) (Nat.zero_le _) (Nat.zero_le _)
      have y2 := B2.fr.cells
      obtain ⟨c0, c1, c2, c3, c4, c5, c6, c7, c8, c9⟩ := y2
      have z2 : w2.frozen? ⟨w.heap.size + 1, 4, none⟩ = false := frozen_of_obj B2.fr
      obtain ⟨X2, hX2⟩ : ∃ X2, w2.setCell ⟨w.heap.size + 1, 4, none⟩ (.int .u64 ((x2 : Nat) : Int)) = X2 := ⟨_, rfl⟩
      rw [hX2] at C2
      have HA2 := hide C2
      have HX2 := hide hX2
      have J2 := hide (J1.out.num res2)
      clear B2 C2 hX2 hr2 hm2 res2
      go_wp2_with fail
      rw [HX2.out]
      clear c0 c1 c2 c3 c4 c5 c6 c7 c8 c9 z2
      go_meet
      exact ⟨_, _, _, _, HA2.out, J2.out⟩
    by_cases ht48 : t = 48
    · subst ht48
      have j0 : J false (rdRest bs 48 (pos + 1)) (rdBody 7 false bs (pos + 1)) := .inl ⟨rfl, rfl⟩
      rw [show rdBody 7 false bs (pos + 1) = rd7 false bs (pos + 1) by simp [rdBody]] at j0
      unfold rd7 at j0
      have A0 := HA.out.set (i := 0) (x := .int .i64 7) (f' := f0 7 false) (rv' := .slice none 0 0) hne hfw HVF.out rfl (OwnR.nil _) (fun g hg => by cases hg) (Nat.zero_le _) (Nat.zero_le _)
      obtain ⟨X0, hX0⟩ : ∃ X0, (W.setCell ⟨w.heap.size + 1, 0, none⟩ (.int .i64 7)) = X0 := ⟨_, rfl⟩
      rw [hX0] at A0
      have HA0 := hide A0
      have HX0 := hide hX0
      have J0 := hide j0
      clear A0 hX0 j0
      go_wp2_with fail
      rw [HX0.out]
      have k1 := rnumber_any rb (pos + 1) _ bs false X0 HA0.out.rd HA0.out.br HV.out HA0.out.ple (by omega)
      refine k1.mono ?_
      clear k1
      rintro e w1 ⟨x1, p1, b1, rfl, hr1, hp1, hq1, hl1, hm1, res1⟩
      have B1 := HA0.out.call hne HV.out hm1 hr1 hp1 hq1 hrl
      have C1 := B1.set (i := 6) (x := .int .u64 ((x1 : Nat) : Int)) (f' := { f0 7 false with id := x1 }) (rv' := .slice none 0 0) hne hfw HVF.out rfl (OwnR.nil _) (fun g hg => by cases hg) (Nat.zero_le _) (Nat.zero_le _)
      have y1 := B1.fr.cells
      obtain ⟨c0, c1, c2, c3, c4, c5, c6, c7, c8, c9⟩ := y1
      have z1 : w1.frozen? ⟨w.heap.size + 1, 6, none⟩ = false := frozen_of_obj B1.fr
      obtain ⟨X1, hX1⟩ : ∃ X1, w1.setCell ⟨w.heap.size + 1, 6, none⟩ (.int .u64 ((x1 : Nat) : Int)) = X1 := ⟨_, rfl⟩
      rw [hX1] at C1
      have HA1 := hide C1
      have HX1 := hide hX1
      have J1 := hide (J0.out.num res1)
      clear B1 C1 hX1 hr1 hm1 res1
      go_wp2_with fail
      rw [HX1.out]
      clear c0 c1 c2 c3 c4 c5 c6 c7 c8 c9 z1
      have k2 := rnumber_any rb (p1) _ bs b1 X1 HA1.out.rd HA1.out.br HV.out HA1.out.ple (by omega)
      refine k2.mono ?_
      clear k2
      rintro e w2 ⟨x2, p2, b2, rfl, hr2, hp2, hq2, hl2, hm2, res2⟩
      have B2 := HA1.out.call hne HV.out hm2 hr2 hp2 hq2 hrl
      have C2 := B2.set (i := 7) (x := .int .u64 ((x2 : Nat) : Int)) (f' := { f0 7 false with id := x1, dl := x2 }) (rv' := .slice none 0 0) hne hfw HVF.out rfl (OwnR.nil _) (fun g hg => by cases hg) (Nat.zero_le _) (Nat.zero_le _)
      have y2 := B2.fr.cells
      obtain ⟨c0, c1, c2, c3, c4, c5, c6, c7, c8, c9⟩ := y2
      have z2 : w2.frozen? ⟨w.heap.size + 1, 7, none⟩ = false := frozen_of_obj B2.fr
      obtain ⟨X2, hX2⟩ : ∃ X2, w2.setCell ⟨w.heap.size + 1, 7, none⟩ (.int .u64 ((x2 : Nat) : Int)) = X2 := ⟨_, rfl⟩
      rw [hX2] at C2
      have HA2 := hide C2
      have HX2 := hide hX2
      have J2 := hide (J1.out.num res2)
      clear B2 C2 hX2 hr2 hm2 res2
      go_wp2_with fail
      rw [HX2.out]
      clear c0 c1 c2 c3 c4 c5 c6 c7 c8 c9 z2
      have k3 := rtxt_any rb (p2) _ bs b2 X2 HA2.out.rd HA2.out.br HV.out HA2.out.ple (by omega)
      refine k3.mono ?_
      clear k3
      rintro e w3 ⟨x3, p3, b3, rfl, hr3, hp3, hq3, hl3, hm3, res3⟩
      have B3 := HA2.out.call hne HV.out hm3 hr3 hp3 hq3 hrl
      have C3 := B3.set (i := 8) (x := .string (strOf x3)) (f' := { f0 7 false with id := x1, dl := x2, data := x3 }) (rv' := .slice none 0 0) hne hfw HVF.out rfl (OwnR.nil _) (fun g hg => by cases hg) hl3 (Nat.zero_le _)
      have y3 := B3.fr.cells
      obtain ⟨c0, c1, c2, c3, c4, c5, c6, c7, c8, c9⟩ := y3
      have z3 : w3.frozen? ⟨w.heap.size + 1, 8, none⟩ = false := frozen_of_obj B3.fr
      obtain ⟨X3, hX3⟩ : ∃ X3, w3.setCell ⟨w.heap.size + 1, 8, none⟩ (.string (strOf x3)) = X3 := ⟨_, rfl⟩
      rw [hX3] at C3
      have HA3 := hide C3
      have HX3 := hide hX3
      have J3 := hide (J2.out.txt res3)
      clear B3 C3 hX3 hr3 hm3 res3
      go_wp2_with fail
      rw [HX3.out]
      clear c0 c1 c2 c3 c4 c5 c6 c7 c8 c9 z3
      go_meet
      exact ⟨_, _, _, _, HA3.out, J3.out⟩
    by_cases ht28 : t = 28
    · subst ht28
      have j0 : J false (rdRest bs 28 (pos + 1)) (rdBody 8 false bs (pos + 1)) := .inl ⟨rfl, rfl⟩
      rw [show rdBody 8 false bs (pos + 1) = rdNumF 8 false bs (pos + 1) by simp [rdBody]] at j0
      unfold rdNumF at j0
      have A0 := HA.out.set (i := 0) (x := .int .i64 8) (f' := f0 8 false) (rv' := .slice none 0 0) hne hfw HVF.out rfl (OwnR.nil _) (fun g hg => by cases hg) (Nat.zero_le _) (Nat.zero_le _)
      obtain ⟨X0, hX0⟩ : ∃ X0, (W.setCell ⟨w.heap.size + 1, 0, none⟩ (.int .i64 8)) = X0 := ⟨_, rfl⟩
      rw [hX0] at A0
      have HA0 := hide A0
      have HX0 := hide hX0
      have J0 := hide j0
      clear A0 hX0 j0
      go_wp2_with fail
      rw [HX0.out]
      have k1 := rnumber_any rb (pos + 1) _ bs false X0 HA0.out.rd HA0.out.br HV.out HA0.out.ple (by omega)
      refine k1.mono ?_
      clear k1
      rintro e w1 ⟨x1, p1, b1, rfl, hr1, hp1, hq1, hl1, hm1, res1⟩
      have B1 := HA0.out.call hne HV.out hm1 hr1 hp1 hq1 hrl
      have C1 := B1.set (i := 4) (x := .int .u64 ((x1 : Nat) : Int)) (f' := { f0 8 false with lim := x1 }) (rv' := .slice none 0 0) hne hfw HVF.out rfl (OwnR.nil _) (fun g hg => by cases hg) (Nat.zero_le _) (Nat.zero_le _)
      have y1 := B1.fr.cells
      obtain ⟨c0, c1, c2, c3, c4, c5, c6, c7, c8, c9⟩ := y1
      have z1 : w1.frozen? ⟨w.heap.size + 1, 4, none⟩ = false := frozen_of_obj B1.fr
      obtain ⟨X1, hX1⟩ : ∃ X1, w1.setCell ⟨w.heap.size + 1, 4, none⟩ (.int .u64 ((x1 : Nat) : Int)) = X1 := ⟨_, rfl⟩
      rw [hX1] at C1
      have HA1 := hide C1
      have HX1 := hide hX1
      have J1 := hide (J0.out.num res1)
      clear B1 C1 hX1 hr1 hm1 res1
      go_wp2_with fail
      rw [HX1.out]
      clear c0 c1 c2 c3 c4 c5 c6 c7 c8 c9 z1
      go_meet
      exact ⟨_, _, _, _, HA1.out, J1.out⟩
    have hn : ∀ c : UInt8, t ≠ c → ((t.toNat : Int) == (c.toNat : Int)) = false := by
      intro c hc
      rw [beq_eq_false_iff_ne]
      intro he
      exact hc (UInt8.toNat_inj.1 (by omega))
    have h1 : ((t.toNat : Int) == 1) = false := hn 1 ht1
    have h2 : ((t.toNat : Int) == 2) = false := hn 2 ht2
    have h3 : ((t.toNat : Int) == 36) = false := hn 36 ht36
    have h4 : ((t.toNat : Int) == 8) = false := hn 8 ht8
    have h5 : ((t.toNat : Int) == 9) = false := hn 9 ht9
    have h6 : ((t.toNat : Int) == 16) = false := hn 16 ht16
    have h7 : ((t.toNat : Int) == 17) = false := hn 17 ht17
    have h8 : ((t.toNat : Int) == 48) = false := hn 48 ht48
    have h9 : ((t.toNat : Int) == 28) = false := hn 28 ht28
    have HR : Hid (rdRest bs t (pos + 1) = none) := by
      show _ = _
      unfold rdRest kindOf
      rw [if_neg ht1, if_neg ht2, if_neg (by rintro (e | e); exact ht8 e; exact ht9 e), if_neg ht16, if_neg ht17, if_neg ht28, if_neg ht36, if_neg ht48]
      rfl
    clear hn ht1 ht2 ht36 ht8 ht9 ht16 ht17 ht48 ht28
    go_wp2_with fail
    go_meet
    have m := (Mod.refl (Only rb) W).setCell (p := ⟨rb, 2, none⟩) (.inl rfl) (.bool true)
    exact ⟨f0 0 false, .slice none 0 0, pos + 1, true, HA.out.call hne HV.out m HA.out.rd.fail (Nat.le_refl _) HA.out.ple hrl, .inr ⟨rfl, HR.out⟩⟩
  case rest =>
    obtain ⟨f, rv, p, bad, hF, hJ⟩ := hcut
    obtain ⟨xa, xc, rfl, _⟩ := own_form hF.own.1
    have HF := hide hF
    have HJ := hide hJ
    have q2 := hF.rd.c2
    obtain ⟨c0, c1, c2, c3, c4, c5, c6, c7, c8, c9⟩ := hF.fr.cells
    have HQC := hide hF.q
    clear hF hJ
    cases bad
    · have ks := rsound_any f xa xc wc HF.out.own.rr (by have := HF.out.rl; omega) (by have := HF.out.dl; omega)
      unfold frCells at ks
      go_wp2_with fail
      refine ks.mono ?_
      rintro e w5 ⟨rfl, m5⟩
      clear ks
      have hF5 : FrmAt w w5 rb (w.heap.size + 1) (.slice (some ⟨g, o, none⟩) bs.length cap) bs (pos + 1) f (.slice xa f.rngs.length xc) p false := HF.out.call hne HV.out (m5.mono (fun i hi => hi.elim)) (HF.out.rd.mod m5 (fun x => x)) (Nat.le_refl _) HF.out.ple hrl
      have hres : ∀ b, (!soundF f) = b → J b (rdFrame bs pos) (some (f, p)) := by
        intro b hb
        rcases HJ.out with ⟨_, e⟩ | ⟨e, _⟩
        · have hq := rdFrame_rest ht
          rw [e] at hq
          simp only [Option.bind_some] at hq
          cases hs : soundF f
          · rw [hs] at hb hq
            exact .inr ⟨hb.symm, by rw [hq]; rfl⟩
          · rw [hs] at hb hq
            exact .inl ⟨hb.symm, by rw [hq]; rfl⟩
        · cases e
      obtain ⟨sb, hsb⟩ : ∃ sb, (!soundF f) = sb := ⟨_, rfl⟩
      have HRES := hide (hres sb hsb)
      have q2 := hF5.rd.c2
      have qz : w5.frozen? ⟨rb, 2, none⟩ = false := frozen_of_obj hF5.rd
      clear c0 c1 c2 c3 c4 c5 c6 c7 c8 c9
      have hrd : RRd (w5.setCell ⟨rb, 2, none⟩ (.bool sb)) rb (.slice (some ⟨g, o, none⟩) bs.length cap) p sb := by
        have := hF5.rd
        unfold RRd at this ⊢
        rw [obj_setCell this]
        simp
      have hF6 : FrmAt w (w5.setCell ⟨rb, 2, none⟩ (.bool sb)) rb (w.heap.size + 1) (.slice (some ⟨g, o, none⟩) bs.length cap) bs (pos + 1) f (.slice xa f.rngs.length xc) p sb :=
        hF5.call hne HV.out ((Mod.refl (Only rb) w5).setCell (p := ⟨rb, 2, none⟩) (.inl rfl) _) hrd (Nat.le_refl _) hF5.ple hrl
      obtain ⟨X, hX⟩ : ∃ X, w5.setCell ⟨rb, 2, none⟩ (.bool sb) = X := ⟨_, rfl⟩
      rw [hX] at hF6
      obtain ⟨c0, c1, c2, c3, c4, c5, c6, c7, c8, c9⟩ := hF6.fr.cells
      obtain ⟨d0, d1, d2, d3, d4, d5, d6, d7, d8, d9⟩ := FrameAt.cells (f := f0 0 false) hF6.q
      have dz : ∀ i, X.frozen? ⟨w.heap.size, i, none⟩ = false := fun i => frozen_of_obj hF6.q
      have e0 := dz 0
      have e1 := dz 1
      have e2 := dz 2
      have e3 := dz 3
      have e4 := dz 4
      have e5 := dz 5
      have e6 := dz 6
      have e7 := dz 7
      have e8 := dz 8
      have e9 := dz 9
      have HF6 := hide hF6
      clear hF6 dz
      go_wp2_with fail
      try rw [hX]
      obtain ⟨Y, hY⟩ : ∃ Y, (((((((((X.setCell ⟨w.heap.size, 0, none⟩ (.int .i64 f.kind)).setCell ⟨w.heap.size, 1, none⟩ (.int .i64 f.stream)).setCell ⟨w.heap.size, 2, none⟩ (.int .u64 (f.off : Int))).setCell ⟨w.heap.size, 3, none⟩ (.int .u64 (f.rel : Int))).setCell ⟨w.heap.size, 4, none⟩ (.int .u64 (f.lim : Int))).setCell ⟨w.heap.size, 5, none⟩ (.bool f.fin)).setCell ⟨w.heap.size, 6, none⟩ (.int .u64 (f.id : Int))).setCell ⟨w.heap.size, 7, none⟩ (.int .u64 (f.dl : Int))).setCell ⟨w.heap.size, 8, none⟩ (.string (strOf f.data))).setCell ⟨w.heap.size, 9, none⟩ (.slice xa f.rngs.length xc) = Y := ⟨_, rfl⟩
      rw [hY]
      have mY : Mod (fun k => k = w.heap.size) X Y := by
        rw [← hY]
        exact ((((((((((Mod.refl (fun k => k = w.heap.size) X).setCell (p := ⟨w.heap.size, 0, none⟩) (.inl rfl) _).setCell (p := ⟨w.heap.size, 1, none⟩) (.inl rfl) _).setCell (p := ⟨w.heap.size, 2, none⟩) (.inl rfl) _).setCell (p := ⟨w.heap.size, 3, none⟩) (.inl rfl) _).setCell (p := ⟨w.heap.size, 4, none⟩) (.inl rfl) _).setCell (p := ⟨w.heap.size, 5, none⟩) (.inl rfl) _).setCell (p := ⟨w.heap.size, 6, none⟩) (.inl rfl) _).setCell (p := ⟨w.heap.size, 7, none⟩) (.inl rfl) _).setCell (p := ⟨w.heap.size, 8, none⟩) (.inl rfl) _).setCell (p := ⟨w.heap.size, 9, none⟩) (.inl rfl) _
      have oY : Y.heap[w.heap.size]? = some (.cells (frCells f (.slice xa f.rngs.length xc)) 48 (0, 0)) := by
        rw [← hY]
        rw [obj_setCell (obj_setCell (obj_setCell (obj_setCell (obj_setCell (obj_setCell (obj_setCell (obj_setCell (obj_setCell (obj_setCell HF6.out.q)))))))))]
        simp [frCells]
      refine bodyPost_ret (results_frame _ _ w.heap.size f _ rfl oY) rfl ?_
      exact ⟨f, _, p, sb, rfl, HF6.out.own.mod mY (fun k hk e => HF6.out.own.not_type HF6.out.q (by decide) (by have e : k = w.heap.size := e; rw [← e]; exact hk)), HF6.out.new, HF6.out.rd.mod mY (fun e => by have e : rb = w.heap.size := e; omega), by have := HF6.out.le; omega, HF6.out.ple, HF6.out.dl, HF6.out.rl,
        (HF6.out.mod.then mY (fun k hk => .inr (by have hk : k = w.heap.size := hk; omega))).mono (fun k hk => by
          rcases hk with hk | hk
          · exact .inl hk
          · exact .inr (by omega)), HRES.out⟩
    · have hres : J true (rdFrame bs pos) (some (f, p)) := by
        rcases HJ.out with ⟨e, _⟩ | ⟨_, e⟩
        · cases e
        · refine .inr ⟨rfl, ?_⟩
          rw [rdFrame_rest ht, e]
          rfl
      have HRES := hide hres
      have hF6 := HF.out
      clear c0 c1 c2 c3 c4 c5 c6 c7 c8 c9
      obtain ⟨c0, c1, c2, c3, c4, c5, c6, c7, c8, c9⟩ := hF6.fr.cells
      obtain ⟨d0, d1, d2, d3, d4, d5, d6, d7, d8, d9⟩ := FrameAt.cells (f := f0 0 false) hF6.q
      have dz : ∀ i, wc.frozen? ⟨w.heap.size, i, none⟩ = false := fun i => frozen_of_obj hF6.q
      have e0 := dz 0
      have e1 := dz 1
      have e2 := dz 2
      have e3 := dz 3
      have e4 := dz 4
      have e5 := dz 5
      have e6 := dz 6
      have e7 := dz 7
      have e8 := dz 8
      have e9 := dz 9
      have HF6 := hide hF6
      clear hF6 dz
      go_wp2_with fail
      obtain ⟨Y, hY⟩ : ∃ Y, (((((((((wc.setCell ⟨w.heap.size, 0, none⟩ (.int .i64 f.kind)).setCell ⟨w.heap.size, 1, none⟩ (.int .i64 f.stream)).setCell ⟨w.heap.size, 2, none⟩ (.int .u64 (f.off : Int))).setCell ⟨w.heap.size, 3, none⟩ (.int .u64 (f.rel : Int))).setCell ⟨w.heap.size, 4, none⟩ (.int .u64 (f.lim : Int))).setCell ⟨w.heap.size, 5, none⟩ (.bool f.fin)).setCell ⟨w.heap.size, 6, none⟩ (.int .u64 (f.id : Int))).setCell ⟨w.heap.size, 7, none⟩ (.int .u64 (f.dl : Int))).setCell ⟨w.heap.size, 8, none⟩ (.string (strOf f.data))).setCell ⟨w.heap.size, 9, none⟩ (.slice xa f.rngs.length xc) = Y := ⟨_, rfl⟩
      rw [hY]
      have mY : Mod (fun k => k = w.heap.size) wc Y := by
        rw [← hY]
        exact ((((((((((Mod.refl (fun k => k = w.heap.size) wc).setCell (p := ⟨w.heap.size, 0, none⟩) (.inl rfl) _).setCell (p := ⟨w.heap.size, 1, none⟩) (.inl rfl) _).setCell (p := ⟨w.heap.size, 2, none⟩) (.inl rfl) _).setCell (p := ⟨w.heap.size, 3, none⟩) (.inl rfl) _).setCell (p := ⟨w.heap.size, 4, none⟩) (.inl rfl) _).setCell (p := ⟨w.heap.size, 5, none⟩) (.inl rfl) _).setCell (p := ⟨w.heap.size, 6, none⟩) (.inl rfl) _).setCell (p := ⟨w.heap.size, 7, none⟩) (.inl rfl) _).setCell (p := ⟨w.heap.size, 8, none⟩) (.inl rfl) _).setCell (p := ⟨w.heap.size, 9, none⟩) (.inl rfl) _
      have oY : Y.heap[w.heap.size]? = some (.cells (frCells f (.slice xa f.rngs.length xc)) 48 (0, 0)) := by
        rw [← hY]
        rw [obj_setCell (obj_setCell (obj_setCell (obj_setCell (obj_setCell (obj_setCell (obj_setCell (obj_setCell (obj_setCell (obj_setCell HF6.out.q)))))))))]
        simp [frCells]
      refine bodyPost_ret (results_frame _ _ w.heap.size f _ rfl oY) rfl ?_
      exact ⟨f, _, p, true, rfl, HF6.out.own.mod mY (fun k hk e => HF6.out.own.not_type HF6.out.q (by decide) (by have e : k = w.heap.size := e; rw [← e]; exact hk)), HF6.out.new, HF6.out.rd.mod mY (fun e => by have e : rb = w.heap.size := e; omega), by have := HF6.out.le; omega, HF6.out.ple, HF6.out.dl, HF6.out.rl,
        (HF6.out.mod.then mY (fun k hk => .inr (by have hk : k = w.heap.size := hk; omega))).mono (fun k hk => by
          rcases hk with hk | hk
          · exact .inl hk
          · exact .inr (by omega)), HRES.out⟩
end Go.Proofs.YtddfdpbaiedcjabGreatDoor
