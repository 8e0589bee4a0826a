/- The statement Gathered, second form, its card: where what the law reads is of bulk at most 1048576, and the two listed variables read as listed, it returns true, and its argument reads behind the call as before. Part 10 of 23. -/
import Derived.Test.YtddfdpbaiedcjabGreatDoorGatheredPart8
/- wire.readAck (printed by mkread5.py). -/
namespace Go.Proofs.YtddfdpbaiedcjabGreatDoor
open Go.RowKit

def posOf (w : World) (rb : Nat) : Nat := match w.cell? ⟨rb, 1, none⟩ with
  | some (.int _ n) => n.toNat
  | _ => 0

theorem posOf_at {w : World} {rb pos : Nat} {v : Value} (h : RdAt w rb v pos) : posOf w rb = pos := by
  unfold posOf
  rw [h.c1]
  simp

/-- At the head of a round. -/
def AckAt (w wr : World) (rb fb : Nat) (v : Value) (b : Bool) (bs : List UInt8) (hi n size : Nat) (R : Option (Rngs × Nat)) : Prop :=
  ∃ fuel pos acc rv, RdAt wr rb v pos ∧ FrameAt wr fb { f0 2 b with rngs := acc } rv ∧ wr.ownsRow 0 110 2 rv acc.length (rcells acc) ∧ (∀ g, rv.ownBlock = some g → w.heap.size ≤ g) ∧
    (∀ i, i < acc.length → loAt acc i < 18446744073709551616 ∧ hiAt acc i < 18446744073709551616) ∧ pos ≤ bs.length ∧ bs.length - pos < fuel ∧ acc.length ≤ pos ∧ Mod (Two rb fb) w wr ∧
    hi < 4611686018427387904 ∧ n < 4611686018427387904 ∧ size < 4611686018427387904 ∧ rdAckF bs fuel hi n size pos acc = R

theorem bounds_snoc {acc : Rngs} {lo hi : Nat} (h : ∀ i, i < acc.length → loAt acc i < 18446744073709551616 ∧ hiAt acc i < 18446744073709551616) (h1 : lo < 18446744073709551616) (h2 : hi < 18446744073709551616) :
    ∀ i, i < (acc ++ [(lo, hi)]).length → loAt (acc ++ [(lo, hi)]) i < 18446744073709551616 ∧ hiAt (acc ++ [(lo, hi)]) i < 18446744073709551616 := by
  intro i hi'
  by_cases hlt : i < acc.length
  · have := h i hlt
    unfold loAt hiAt at this ⊢
    rw [List.getD_eq_getElem?_getD, List.getElem?_append_left hlt, ← List.getD_eq_getElem?_getD]
    exact this
  · have : i = acc.length := by simp at hi'; omega
    subst this
    simp [loAt, hiAt, h1, h2]

theorem own_block {w : World} {e sz : Nat} {v : Value} {n m c g o : Nat} {xs : List Value} (h : w.ownsRow 0 e sz v n xs) (hv : v = .slice (some ⟨g, o, none⟩) m c) : v.ownBlock = some g := by
  rcases h.2 with ⟨rfl, _⟩ | ⟨g', cap, cur, rfl, _⟩
  · cases hv
  · cases hv
    rfl

theorem own_not_frame {w : World} {v : Value} {n b : Nat} {xs : List Value} {f : Frm} {rv : Value} (h : w.ownsRow 0 110 2 v n xs) (hf : FrameAt w b f rv) : ¬ v.ownBlock = some b := by
  intro hb
  rcases h.2 with ⟨rfl, _⟩ | ⟨g, cap, cur, rfl, _, hg, _⟩
  · cases hb
  · simp [Value.ownBlock] at hb
    subst hb
    unfold FrameAt at hf
    rw [hg] at hf
    simp at hf

theorem own_not_reader {w : World} {v v' : Value} {n b pos : Nat} {xs : List Value} (h : w.ownsRow 0 110 2 v n xs) (hf : RdAt w b v' pos) : ¬ v.ownBlock = some b := by
  intro hb
  rcases h.2 with ⟨rfl, _⟩ | ⟨g, cap, cur, rfl, _, hg, _⟩
  · cases hb
  · simp [Value.ownBlock] at hb
    subst hb
    unfold RdAt at hf
    rw [hg] at hf
    simp at hf

set_option maxRecDepth 100000 in
set_option maxHeartbeats 2000000 in
theorem readack_any (rb fb pos : Nat) (v : Value) (bs : List UInt8) (b : Bool) (w : World) (h : RdAt w rb v pos) (hb : BR w v bs) (hv : OffS (Two rb fb) v) (hp : pos ≤ bs.length) (hbl : bs.length ≤ 1099511627776) (hf : FrameAt w fb (f0 2 b) (.slice none 0 0)) (hne : fb ≠ rb) :
    Calls Tryz.prog 172 #[.pointer (some ⟨rb, 0, none⟩), .pointer (some ⟨fb, 0, none⟩)] w (RdF w rb v fb (rd2 b bs pos)) := by
  have hv1 : OffS (Only rb) v := fun g o n c e hx => hv g o n c e (.inl hx)
  have HM0 := hide (Mod.refl (Only rb) w)
  have Hb := hide hb
  have Hf := hide hf
  have Hv := hide hv1
  have Hv2 := hide hv
  have Hne := hide hne
  clear hb hv hf hv1 hne
  have c1 := rvarint_any rb pos v bs w h (Hb.out) Hv.out hp
  cases hr1 : rdVar bs pos with
  | none =>
    rw [hr1] at c1
    have HR : Hid (rd2 b bs pos = none) := by
      show _ = _
      unfold rd2
      simp only [hr1, Option.bind_some, Option.bind_none]
    clear hr1
    go_enter Tryz.func172, Tryz.ntmps172
    go_wp2_with (go_at_call 145; refine c1.mono ?_; rintro e w' (⟨_, _, hx, _⟩ | ⟨_, he, hm⟩); cases hx; unfold shortE at he; subst he)
    exact ⟨rfl, .inr ⟨HR.out, rfl, mod_two (hm)⟩⟩
  | some q1 =>
    obtain ⟨x1, p1⟩ := q1
    rw [hr1] at c1
    have hp1 : p1 ≤ bs.length := rdVar_end hr1
    have hx1 : x1 < 4611686018427387904 := (rdVar_le hr1).2.2
    have HR1 := hide hr1
    clear hr1
    go_enter Tryz.func172, Tryz.ntmps172
    go_wp2_with fail
    refine c1.mono ?_
    rintro e w1 (⟨_, _, hx, rfl, h1, m1⟩ | ⟨hx, _⟩)
    rotate_left
    · cases hx
    simp only [Option.map_some, Option.some.injEq, Prod.mk.injEq] at hx
    obtain ⟨rfl, rfl⟩ := hx
    have HM1 := hide (HM0.out.trans m1)
    clear c1 m1
    have c2 := rvarint_any rb p1 v bs w1 h1 (Hb.out.mod HM1.out Hv.out) Hv.out hp1
    cases hr2 : rdVar bs p1 with
    | none =>
      rw [hr2] at c2
      have HR : Hid (rd2 b bs pos = none) := by
        show _ = _
        unfold rd2
        simp only [HR1.out, hr2, Option.bind_some, Option.bind_none]
      clear hr2
      go_wp2_with (go_at_call 145; refine c2.mono ?_; rintro e w' (⟨_, _, hx, _⟩ | ⟨_, he, hm⟩); cases hx; unfold shortE at he; subst he)
      exact ⟨rfl, .inr ⟨HR.out, rfl, mod_two (HM1.out.trans hm)⟩⟩
    | some q2 =>
      obtain ⟨x2, p2⟩ := q2
      rw [hr2] at c2
      have hp2 : p2 ≤ bs.length := rdVar_end hr2
      have hx2 : x2 < 4611686018427387904 := (rdVar_le hr2).2.2
      have HR2 := hide hr2
      clear hr2
      go_wp2_with fail
      refine c2.mono ?_
      rintro e w2 (⟨_, _, hx, rfl, h2, m2⟩ | ⟨hx, _⟩)
      rotate_left
      · cases hx
      simp only [Option.map_some, Option.some.injEq, Prod.mk.injEq] at hx
      obtain ⟨rfl, rfl⟩ := hx
      have HM2 := hide (HM1.out.trans m2)
      clear c2 m2
      have c3 := rvarint_any rb p2 v bs w2 h2 (Hb.out.mod HM2.out Hv.out) Hv.out hp2
      cases hr3 : rdVar bs p2 with
      | none =>
        rw [hr3] at c3
        have HR : Hid (rd2 b bs pos = none) := by
          show _ = _
          unfold rd2
          simp only [HR1.out, HR2.out, hr3, Option.bind_some, Option.bind_none]
        clear hr3
        go_wp2_with (go_at_call 145; refine c3.mono ?_; rintro e w' (⟨_, _, hx, _⟩ | ⟨_, he, hm⟩); cases hx; unfold shortE at he; subst he)
        exact ⟨rfl, .inr ⟨HR.out, rfl, mod_two (HM2.out.trans hm)⟩⟩
      | some q3 =>
        obtain ⟨x3, p3⟩ := q3
        rw [hr3] at c3
        have hp3 : p3 ≤ bs.length := rdVar_end hr3
        have hx3 : x3 < 4611686018427387904 := (rdVar_le hr3).2.2
        have HR3 := hide hr3
        clear hr3
        go_wp2_with fail
        refine c3.mono ?_
        rintro e w3 (⟨_, _, hx, rfl, h3, m3⟩ | ⟨hx, _⟩)
        rotate_left
        · cases hx
        simp only [Option.map_some, Option.some.injEq, Prod.mk.injEq] at hx
        obtain ⟨rfl, rfl⟩ := hx
        have HM3 := hide (HM2.out.trans m3)
        clear c3 m3
        obtain ⟨R, hR⟩ : ∃ R, rdAckF bs (bs.length + 1) x1 x2 x3 p3 [] = R := ⟨_, rfl⟩
        have hA : AckAt w w3 rb fb v b bs x1 x2 x3 R := ⟨bs.length + 1, p3, [], .slice none 0 0, h3, Hf.out.mod HM3.out Hne.out, World.ownsRow_nil w3 0 _ 2, (fun g hg => by cases hg), (fun i hi => absurd hi (Nat.not_lt_zero i)), hp3, by omega, Nat.zero_le _, mod_two HM3.out, hx1, hx2, hx3, hR⟩
        have HA := hide hA
        have HRR : Hid (rd2 b bs pos = R.bind fun r => some ({ f0 2 b with rngs := r.1 }, r.2)) := by
          show _ = _
          unfold rd2
          simp only [HR1.out, HR2.out, HR3.out, Option.bind_some, hR]
        clear hA hR h3 h2 h1 h hx1 hx2 hx3
        go_wp2_with fail
        go_loopw [4, 5, 6, 7, 8] (fun hi n size _ _ wr => ∃ hi' n' size' : Nat, hi = .int .u64 hi' ∧ n = .int .u64 n' ∧ size = .int .u64 size' ∧ AckAt w wr rb fb v b bs hi' n' size' R) (fun _ _ _ _ _ wr => bs.length - posOf wr rb)
        case atStart => exact ⟨x1, x2, x3, rfl, rfl, rfl, HA.out⟩
        case round =>
          obtain ⟨hi, n, size, rfl, rfl, rfl, fuel, q, acc, rv, hrd, hfr, hown, hnew, hbd, hq, hfu, hal, hm, b1, b2, b3, hR⟩ := hrel
          obtain ⟨fuel, rfl⟩ : ∃ f, fuel = f + 1 := ⟨fuel - 1, by omega⟩
          unfold rdAckF at hR
          have Hrd := hide hrd
          have Hfr := hide hfr
          have Hown := hide hown
          have Hnew := hide hnew
          have Hbd := hide hbd
          have Hm := hide hm
          by_cases d1 : hi < size
          · rw [if_pos d1] at hR
            have HR : Hid (rd2 b bs pos = none) := by show _ = _; rw [HRR.out, ← hR]; rfl
            clear hR hrd hfr hown hnew hbd hm
            go_wp2_with (go_at_call 146; refine (fail_any _ _).mono ?_; rintro e w' ⟨he, rfl⟩; unfold shortE at he; subst he)
            exact ⟨rfl, .inr ⟨HR.out, rfl, Hm.out⟩⟩
          · rw [if_neg d1] at hR
            have z1 : IntKind.u64.wrap ((hi : Int) - size) = ((hi - size : Nat) : Int) := by rw [IntKind.wrap_u64]; omega
            obtain ⟨lo, hlo⟩ : ∃ lo, hi - size = lo := ⟨_, rfl⟩
            rw [hlo] at z1 hR
            have hlh : lo ≤ hi := by omega
            obtain ⟨k0, k1, k2, k3, k4, k5, k6, k7, k8, k9⟩ := hfr.cells
            have hfz : ∀ j, wr.frozen? ⟨fb, j, none⟩ = false := fun j => frozen_of_obj hfr
            obtain ⟨v2, W2, hr2, own2, gr2, nw2⟩ := rlit_app wr rv acc lo hi hown (by omega)
            obtain ⟨ra, rc, rfl, _⟩ := own_form hown
            have HR' := hide hR
            have hfbne : ¬ (Value.slice ra acc.length rc).ownBlock = some fb := own_not_frame hown hfr
            have hrbne : ¬ (Value.slice ra acc.length rc).ownBlock = some rb := own_not_reader hown hrd
            have mg : Mod (fun k => (Value.slice ra acc.length rc).ownBlock = some k) wr W2 := (Mod.refl _ _).grown gr2 (fun k hk => .inl hk)
            have hfr2 := hfr.mod mg hfbne
            have hrd2 := hrd.mod mg hrbne
            have c9' := hfr2.cells.2.2.2.2.2.2.2.2.2
            have hfz2 : ∀ j, W2.frozen? ⟨fb, j, none⟩ = false := fun j => frozen_of_obj hfr2
            obtain ⟨a2, c2, rfl, _⟩ := own_form own2
            have Hown2 := hide own2
            have Hfr2 := hide hfr2
            have Hrd2 := hide hrd2
            have Hmg := hide mg
            have Hnw2 := hide nw2
            have Hlo := hide hlo
            clear hR hrd hfr hown hnew hbd hm own2 gr2 nw2 mg hfr2 hrd2 hlo
            obtain ⟨W3, hW3⟩ : ∃ W3, W2.setCell ⟨fb, 9, none⟩ (.slice a2 (acc.length + 1) c2) = W3 := ⟨_, rfl⟩
            have hlen : (acc ++ [(lo, hi)]).length = acc.length + 1 := by simp
            have m23 : Mod (fun k => k = fb) W2 W3 := by rw [← hW3]; exact (Mod.refl (fun k => k = fb) W2).setCell (p := ⟨fb, 9, none⟩) (.inl rfl) _
            have Hrd3 := hide (Hrd2.out.mod m23 (fun e => Hne.out e.symm))
            have Hfr3 : Hid (FrameAt W3 fb { f0 2 b with rngs := acc ++ [(lo, hi)] } (.slice a2 (acc.length + 1) c2)) := by
              show FrameAt _ _ _ _
              rw [← hW3]
              exact Hfr2.out.set rfl
            have Hown3 : Hid (W3.ownsRow 0 110 2 (.slice a2 (acc.length + 1) c2) (acc ++ [(lo, hi)]).length (rcells (acc ++ [(lo, hi)]))) := by
              show World.ownsRow _ _ _ _ _ _ _
              have := m23.owns Hown2.out (fun g hg e => own_not_frame Hown2.out Hfr2.out (by rw [hg, e]))
              rw [hlen] at this ⊢
              exact this
            have Hm3 : Hid (Mod (Two rb fb) w W3) := (Hm.out.then Hmg.out (fun i hi => .inr (Hnew.out i hi))).then m23 (fun i hi => .inl (.inr hi))
            have Hnew3 : Hid (∀ g, (Value.slice a2 (acc.length + 1) c2).ownBlock = some g → w.heap.size ≤ g) := by
              intro g hg
              have hnw : NewOr wr (Value.slice ra acc.length rc) (.slice a2 (acc.length + 1) c2) := by rw [← hlen]; exact Hnw2.out
              rcases hnw g hg with h1 | h1
              · exact Hnew.out g h1
              · have := Hm.out.size
                omega
            have Hbd3 := hide (bounds_snoc Hbd.out (show lo < 18446744073709551616 by omega) (show hi < 18446744073709551616 by omega))
            have hBR : BR W3 v bs := Hb.out.mod Hm3.out Hv2.out
            have hc1 := rvarint_any rb q v bs W3 Hrd3.out hBR Hv.out hq
            clear m23 hlen hBR
            by_cases hn : n = 0
            · have HR : Hid (rd2 b bs pos = some ({ f0 2 b with rngs := acc ++ [(lo, hi)] }, q)) := by
                show _ = _
                have := HR'.out
                rw [if_pos hn] at this
                rw [HRR.out, ← this]
                rfl
              have hn0 : ((n : Int) == 0) = true := by simp [hn]
              clear hn hc1
              go_wp2_with (at_builtin; refine wpList_append_is rfl _ _ _ _ rfl _ _ _ rfl rfl hr2 ?_)
              refine bodyPost_ret (results_none rfl _ _ _) rfl (.inl ⟨_, _, q, HR.out, rfl, Hrd3.out, Hfr3.out, ?_, ?_, Hm3.out⟩)
              · exact ⟨Hown3.out, Hbd3.out⟩
              · intro g o n' c' e
                cases e
                exact Hnew3.out g (own_block Hown3.out rfl)
            · have hn0 : ((n : Int) == 0) = false := by rw [beq_eq_false_iff_ne]; omega
              have z2 : IntKind.u64.wrap ((n : Int) - 1) = ((n - 1 : Nat) : Int) := by rw [IntKind.wrap_u64]; omega
              have HRn := HR'.out
              rw [if_neg hn] at HRn
              have HRn := hide HRn
              cases hg1 : rdVar bs q with
              | none =>
                rw [hg1] at hc1
                have HR : Hid (rd2 b bs pos = none) := by
                  show _ = _
                  have := HRn.out
                  rw [hg1] at this
                  rw [HRR.out, ← this]
                  rfl
                clear hg1 hn
                go_wp2_with (first | (at_builtin; refine wpList_append_is rfl _ _ _ _ rfl _ _ _ rfl rfl hr2 ?_) | (go_at_call 145; refine hc1.mono ?_; rintro e w' (⟨_, _, hx, _⟩ | ⟨_, he, hm⟩); cases hx; unfold shortE at he; subst he))
                exact ⟨rfl, .inr ⟨HR.out, rfl, Hm3.out.then (mod_two hm) (fun i hi => .inl hi)⟩⟩
              | some q1 =>
                obtain ⟨gap, p4⟩ := q1
                obtain ⟨u1, u2, u3⟩ := rdVar_le hg1
                rw [hg1] at hc1
                have Hg1 := hide hg1
                clear hg1 hn
                go_wp2_with (at_builtin; refine wpList_append_is rfl _ _ _ _ rfl _ _ _ rfl rfl hr2 ?_)
                refine hc1.mono ?_
                rintro e w4 (⟨_, _, hx, rfl, h4, m4⟩ | ⟨hx, _⟩)
                rotate_left
                · cases hx
                simp only [Option.map_some, Option.some.injEq, Prod.mk.injEq] at hx
                obtain ⟨rfl, rfl⟩ := hx
                have Hm4 := hide (Hm3.out.then (mod_two (fb := fb) m4) (fun i hi => .inl hi))
                have hc2 := rvarint_any rb p4 v bs w4 h4 (Hb.out.mod Hm4.out Hv2.out) Hv.out u2
                have HM4 := hide m4
                clear hc1 m4 h4 hW3
                cases hg2 : rdVar bs p4 with
                | none =>
                  rw [hg2] at hc2
                  have HR : Hid (rd2 b bs pos = none) := by
                    show _ = _
                    have := HRn.out
                    rw [Hg1.out, Option.bind_some, hg2] at this
                    rw [HRR.out, ← this]
                    rfl
                  clear hg2
                  go_wp2_with (go_at_call 145; refine hc2.mono ?_; rintro e w' (⟨_, _, hx, _⟩ | ⟨_, he, hm⟩); cases hx; unfold shortE at he; subst he)
                  exact ⟨rfl, .inr ⟨HR.out, rfl, Hm4.out.then (mod_two hm) (fun i hi => .inl hi)⟩⟩
                | some q2 =>
                  obtain ⟨size', p5⟩ := q2
                  obtain ⟨u4, u5, u6⟩ := rdVar_le hg2
                  rw [hg2] at hc2
                  have Hg2 := hide hg2
                  clear hg2
                  go_wp2_with fail
                  refine hc2.mono ?_
                  rintro e w5 (⟨_, _, hx, rfl, h5, m5⟩ | ⟨hx, _⟩)
                  rotate_left
                  · cases hx
                  simp only [Option.map_some, Option.some.injEq, Prod.mk.injEq] at hx
                  obtain ⟨rfl, rfl⟩ := hx
                  have Hm5 := hide (Hm4.out.then (mod_two (fb := fb) m5) (fun i hi => .inl hi))
                  have HM5 := hide (HM4.out.trans m5)
                  have H5 := hide h5
                  clear hc2 m5 h5
                  by_cases d2 : lo < 2
                  · have HR : Hid (rd2 b bs pos = none) := by
                      show _ = _
                      have := HRn.out
                      rw [Hg1.out, Option.bind_some, Hg2.out, Option.bind_some, if_pos (.inl d2)] at this
                      rw [HRR.out, ← this]
                      rfl
                    have e2 : decide ((lo : Int) < 2) = true := by simp; omega
                    go_wp2_with (go_at_call 146; refine (fail_any _ _).mono ?_; rintro e w' ⟨he, rfl⟩; unfold shortE at he; subst he)
                    exact ⟨rfl, .inr ⟨HR.out, rfl, Hm5.out⟩⟩
                  · have e2 : decide ((lo : Int) < 2) = false := by simp; omega
                    have z3 : IntKind.u64.wrap ((lo : Int) - 2) = ((lo - 2 : Nat) : Int) := by rw [IntKind.wrap_u64]; omega
                    have Hd2 := hide d2
                    by_cases d3 : lo - 2 < gap
                    · have HR : Hid (rd2 b bs pos = none) := by
                        show _ = _
                        have := HRn.out
                        rw [Hg1.out, Option.bind_some, Hg2.out, Option.bind_some, if_pos (.inr d3)] at this
                        rw [HRR.out, ← this]
                        rfl
                      have e3 : decide (lo - 2 < gap) = true := by simpa using d3
                      clear d2
                      go_wp2_with (go_at_call 146; refine (fail_any _ _).mono ?_; rintro e w' ⟨he, rfl⟩; unfold shortE at he; subst he)
                      exact ⟨rfl, .inr ⟨HR.out, rfl, Hm5.out⟩⟩
                    · have e3 : decide (lo - 2 < gap) = false := by simpa using d3
                      have z4 : IntKind.u64.wrap (((lo - 2 : Nat) : Int) - gap) = ((lo - 2 - gap : Nat) : Int) := by rw [IntKind.wrap_u64]; omega
                      have HA5 : Hid (AckAt w w5 rb fb v b bs (lo - 2 - gap) (n - 1) size' R) := by
                        refine ⟨fuel, p5, acc ++ [(lo, hi)], .slice a2 (acc.length + 1) c2, H5.out, Hfr3.out.mod HM5.out Hne.out, HM5.out.owns Hown3.out (fun g hg e => own_not_reader Hown3.out Hrd3.out (by rw [hg, e])), Hnew3.out, Hbd3.out, u5, by omega, by simp; omega, Hm5.out, by omega, by omega, u6, ?_⟩
                        have := HRn.out
                        rw [Hg1.out, Option.bind_some, Hg2.out, Option.bind_some, if_neg (by omega)] at this
                        exact this
                      have HP : Hid (posOf w5 rb = p5 ∧ posOf wr rb = q) := ⟨posOf_at H5.out, posOf_at Hrd.out⟩
                      clear d2
                      go_wp2_with fail
                      go_roundw
                      case rel => exact ⟨lo - 2 - gap, n - 1, size', by rfl, by rfl, rfl, HA5.out⟩
                      case measure =>
                        rw [HP.out.1, HP.out.2]
                        omega
end Go.Proofs.YtddfdpbaiedcjabGreatDoor
/- The codec of a kind, as it is used to read (printed by mkread6.py). -/
namespace Go.Proofs.YtddfdpbaiedcjabGreatDoor
open Go.RowKit

/-- A frame of this kind, from there on. -/
def rdBody (k : Int) (b : Bool) (bs : List UInt8) (pos : Nat) : Option (Frm × Nat) :=
  if k = 1 then some (f0 1 b, pos)
  else if k = 2 then rd2 b bs pos
  else if k = 3 then rd3 b bs pos
  else if k = 4 then rd4 b bs pos
  else if k = 5 then rdNumF 5 b bs pos
  else if k = 6 then rd6 b bs pos
  else if k = 7 then rd7 b bs pos
  else rdNumF 8 b bs pos

def RCodec (k : Int) (b : Bool) (bs : List UInt8) (v : Value) (w : World) (e : Ending) (w' : World) : Prop :=
  ∃ cb wv F caps G, e = .returned (.pointer (some ⟨cb, 0, none⟩)) ∧ CodecAt w' cb wv (.func (.func F) #[] caps) (.func (.func G) #[] #[]) ∧ Goes F ∧ Goes G ∧ Mod NoB w w' ∧ w.heap.size ≤ cb ∧
    (∀ rb fb pos, RdAt w' rb v pos → BR w' v bs → OffS (Two rb fb) v → pos ≤ bs.length → bs.length ≤ 1099511627776 → FrameAt w' fb (f0 k b) (.slice none 0 0) → fb ≠ rb → Calls Tryz.prog F (#[.pointer (some ⟨rb, 0, none⟩), .pointer (some ⟨fb, 0, none⟩)] ++ caps) w' (RdF w' rb v fb (rdBody k b bs pos))) ∧
    (∀ Y bf f rv, FrameAt Y bf f rv → RR Y rv f.rngs → f.kind = k → f.rngs.length ≤ 1099511627776 → f.data.length ≤ 35184372088832 → numsOk f = true → Calls Tryz.prog G #[.pointer (some ⟨bf, 0, none⟩)] Y (Says Y (soundC f)))

theorem goes_192 : Goes 192 := goes_of Tryz.func192 (by kernel_rfl) rfl
theorem goes_186 : Goes 186 := goes_of Tryz.func186 (by kernel_rfl) rfl
theorem goes_188 : Goes 188 := goes_of Tryz.func188 (by kernel_rfl) rfl
theorem goes_169 : Goes 169 := goes_of Tryz.func169 (by kernel_rfl) rfl
theorem goes_175 : Goes 175 := goes_of Tryz.func175 (by kernel_rfl) rfl
theorem goes_180 : Goes 180 := goes_of Tryz.func180 (by kernel_rfl) rfl
theorem goes_172 : Goes 172 := goes_of Tryz.func172 (by kernel_rfl) rfl

theorem rcodec_1 (b : Bool) (bs : List UInt8) (v : Value) (w : World) : Calls Tryz.prog 149 #[.int .i64 1] w (RCodec 1 b bs v w) := by
  refine (of_1 w).mono ?_
  rintro e w' ⟨cb, rfl, hc, hm, hb⟩
  refine ⟨cb, _, 169, #[], 170, rfl, hc, goes_169, goes_170, hm, hb, fun rb fb pos h hb hv hp hl hf hne => by rw [show rdBody 1 b bs pos = some (f0 1 b, pos) by simp [rdBody]]; exact read1 rb fb pos v b w' h hf, fun Y bf f rv hf hr hk hn hd hq => ?_⟩
  rw [show soundC f = (true) by simp [soundC, hk]]
  exact always_any _ Y

theorem rcodec_2 (b : Bool) (bs : List UInt8) (v : Value) (w : World) : Calls Tryz.prog 149 #[.int .i64 2] w (RCodec 2 b bs v w) := by
  refine (of_2 w).mono ?_
  rintro e w' ⟨cb, rfl, hc, hm, hb⟩
  refine ⟨cb, _, 172, #[], 173, rfl, hc, goes_172, goes_173, hm, hb, fun rb fb pos h hb hv hp hl hf hne => by rw [show rdBody 2 b bs pos = rd2 b bs pos by simp [rdBody]]; exact readack_any rb fb pos v bs b w' h hb hv hp hl hf hne, fun Y bf f rv hf hr hk hn hd hq => ?_⟩
  rw [show soundC f = (soundRs f.rngs) by simp [soundC, hk]]
  exact soundack_any bf f rv Y hf hr hn

theorem rcodec_3 (b : Bool) (bs : List UInt8) (v : Value) (w : World) : Calls Tryz.prog 149 #[.int .i64 3] w (RCodec 3 b bs v w) := by
  refine (of_3 w).mono ?_
  rintro e w' ⟨cb, rfl, hc, hm, hb⟩
  refine ⟨cb, _, 175, #[], 177, rfl, hc, goes_175, goes_177, hm, hb, fun rb fb pos h hb hv hp hl hf hne => by rw [show rdBody 3 b bs pos = rd3 b bs pos by simp [rdBody]]; exact read3 rb fb pos v bs b w' h hb hv hp hf hne, fun Y bf f rv hf hr hk hn hd hq => ?_⟩
  rw [show soundC f = (decide (f.rel ≤ f.off)) by simp [soundC, hk]]
  exact sound3 bf f rv Y hf

theorem rcodec_4 (b : Bool) (bs : List UInt8) (v : Value) (w : World) : Calls Tryz.prog 149 #[.int .i64 4] w (RCodec 4 b bs v w) := by
  refine (of_4 w).mono ?_
  rintro e w' ⟨cb, rfl, hc, hm, hb⟩
  refine ⟨cb, _, 180, #[], 182, rfl, hc, goes_180, goes_182, hm, hb, fun rb fb pos h hb hv hp hl hf hne => by rw [show rdBody 4 b bs pos = rd4 b bs pos by simp [rdBody]]; exact read4 rb fb pos v bs b w' h hb hv hp hf hne, fun Y bf f rv hf hr hk hn hd hq => ?_⟩
  rw [show soundC f = (decide (f.data.length + f.off ≤ 4611686018427387903)) by simp [soundC, hk]]
  exact sound4 bf f rv Y hf (numsOk_facts hq).1 (by omega)

theorem rcodec_5 (b : Bool) (bs : List UInt8) (v : Value) (w : World) : Calls Tryz.prog 149 #[.int .i64 5] w (RCodec 5 b bs v w) := by
  refine (of_5 w).mono ?_
  rintro e w' ⟨cb, tb, ab, rfl, hc, hcap, hm, hb, _, _⟩
  refine ⟨cb, _, _, _, 170, rfl, hc, goes_192, goes_170, hm, hb, fun rb fb pos h hb hv hp hl hf hne => by rw [show rdBody 5 b bs pos = rdNumF 5 b bs pos by simp [rdBody]]; exact read_num rb fb ab pos 5 v bs b w' h hb hv hp hf hne hcap.2, fun Y bf f rv hf hr hk hn hd hq => ?_⟩
  rw [show soundC f = (true) by simp [soundC, hk]]
  exact always_any _ Y

theorem rcodec_6 (b : Bool) (bs : List UInt8) (v : Value) (w : World) : Calls Tryz.prog 149 #[.int .i64 6] w (RCodec 6 b bs v w) := by
  refine (of_6 w).mono ?_
  rintro e w' ⟨cb, rfl, hc, hm, hb⟩
  refine ⟨cb, _, 186, #[], 170, rfl, hc, goes_186, goes_170, hm, hb, fun rb fb pos h hb hv hp hl hf hne => by rw [show rdBody 6 b bs pos = rd6 b bs pos by simp [rdBody]]; exact read6 rb fb pos v bs b w' h hb hv hp hf hne, fun Y bf f rv hf hr hk hn hd hq => ?_⟩
  rw [show soundC f = (true) by simp [soundC, hk]]
  exact always_any _ Y

theorem rcodec_7 (b : Bool) (bs : List UInt8) (v : Value) (w : World) : Calls Tryz.prog 149 #[.int .i64 7] w (RCodec 7 b bs v w) := by
  refine (of_7 w).mono ?_
  rintro e w' ⟨cb, rfl, hc, hm, hb⟩
  refine ⟨cb, _, 188, #[], 170, rfl, hc, goes_188, goes_170, hm, hb, fun rb fb pos h hb hv hp hl hf hne => by rw [show rdBody 7 b bs pos = rd7 b bs pos by simp [rdBody]]; exact read7 rb fb pos v bs b w' h hb hv hp hf hne, fun Y bf f rv hf hr hk hn hd hq => ?_⟩
  rw [show soundC f = (true) by simp [soundC, hk]]
  exact always_any _ Y

theorem rcodec_8 (b : Bool) (bs : List UInt8) (v : Value) (w : World) : Calls Tryz.prog 149 #[.int .i64 8] w (RCodec 8 b bs v w) := by
  refine (of_8 w).mono ?_
  rintro e w' ⟨cb, tb, ab, rfl, hc, hcap, hm, hb, _, _⟩
  refine ⟨cb, _, _, _, 170, rfl, hc, goes_192, goes_170, hm, hb, fun rb fb pos h hb hv hp hl hf hne => by rw [show rdBody 8 b bs pos = rdNumF 8 b bs pos by simp [rdBody]]; exact read_num rb fb ab pos 8 v bs b w' h hb hv hp hf hne hcap.2, fun Y bf f rv hf hr hk hn hd hq => ?_⟩
  rw [show soundC f = (true) by simp [soundC, hk]]
  exact always_any _ Y

theorem rcodec_any (t : UInt8) (k : Int) (hk : kindOf t = some k) (b : Bool) (bs : List UInt8) (v : Value) (w : World) : Calls Tryz.prog 149 #[.int .i64 k] w (RCodec k b bs v w) := by
  have hk' : k = 1 ∨ k = 2 ∨ k = 3 ∨ k = 4 ∨ k = 5 ∨ k = 6 ∨ k = 7 ∨ k = 8 := by
    unfold kindOf at hk
    repeat' split at hk
    all_goals simp at hk
    all_goals omega
  rcases hk' with rfl | rfl | rfl | rfl | rfl | rfl | rfl | rfl
  · exact rcodec_1 b bs v w
  · exact rcodec_2 b bs v w
  · exact rcodec_3 b bs v w
  · exact rcodec_4 b bs v w
  · exact rcodec_5 b bs v w
  · exact rcodec_6 b bs v w
  · exact rcodec_7 b bs v w
  · exact rcodec_8 b bs v w

/-- The cells of frames, one behind the other. -/
def fcells (fs : List (Frm × Value)) : List Value := fs.flatMap fun x => (frCells x.1 x.2).toList

theorem fcells_append (a b : List (Frm × Value)) : fcells (a ++ b) = fcells a ++ fcells b := by simp [fcells]
theorem fcells_length (fs : List (Frm × Value)) : (fcells fs).length = fs.length * 10 := by
  induction fs with
  | nil => rfl
  | cons x fs ih =>
    have : fcells (x :: fs) = (frCells x.1 x.2).toList ++ fcells fs := rfl
    rw [this, List.length_append, ih]
    simp [frCells]
    omega

theorem fcells_at (fs : List (Frm × Value)) : ∀ i x, fs[i]? = some x → ∀ j u, (frCells x.1 x.2)[j]? = some u → (fcells fs)[i * 10 + j]? = some u := by
  induction fs with
  | nil => intro i x h; simp at h
  | cons y fs ih =>
    intro i x h j u hu
    have hl : ((frCells y.1 y.2).toList).length = 10 := rfl
    have e : fcells (y :: fs) = (frCells y.1 y.2).toList ++ fcells fs := rfl
    cases i with
    | zero =>
      simp only [List.getElem?_cons_zero, Option.some.injEq] at h
      subst h
      have hj : j < 10 := (Array.getElem?_eq_some_iff.1 hu).1
      rw [e, Nat.zero_mul, Nat.zero_add, List.getElem?_append_left (by omega), Array.getElem?_toList]
      exact hu
    | succ i =>
      simp only [List.getElem?_cons_succ] at h
      rw [e, show (i + 1) * 10 + j = 10 + (i * 10 + j) by omega, List.getElem?_append_right (by omega), hl, Nat.add_sub_cancel_left]
      exact ih i x h j u hu

/-- The slice owns these frames, each of which owns its ranges. -/
def OwnF (w : World) (v : Value) (fs : List (Frm × Value)) : Prop := w.ownsRow 0 48 10 v fs.length (fcells fs) ∧ ∀ x ∈ fs, OwnR w x.2 x.1.rngs

theorem OwnF.frs {w : World} {v : Value} {fs : List (Frm × Value)} (h : OwnF w v fs) : FrsAt w v fs := by
  obtain ⟨a, cap, rfl, h1, h2, h3⟩ := own_form h.1
  refine ⟨a, cap, rfl, h1, h2, fun i fr hi => ⟨?_, (h.2 fr (List.mem_of_getElem? hi)).rr⟩⟩
  have hlt : i < fs.length := (List.getElem?_eq_some_iff.1 hi).1
  obtain ⟨g, rfl⟩ := h3 (by omega)
  refine ⟨g, 0, rfl, fun j x hx => ?_⟩
  have := h.1.cells (g := g) rfl _ _ (fcells_at fs i fr hi j x hx)
  rw [addr_add] at this
  rw [Nat.zero_add] at this
  rwa [Nat.zero_add]

theorem info_frame : (Tryz.prog.info? 48).map (fun i => (i.zero, i.size, i.bytes)) = some (some (.agg #[.int .i64 0, .int .i64 0, .int .u64 0, .int .u64 0, .int .u64 0, .bool false, .int .u64 0, .int .u64 0, .string ⟨#[]⟩, .slice none 0 0]), 10, 104) := by kernel_rfl

theorem frCells_one (f : Frm) (a : Option Addr) (n c : Nat) : ∀ u ∈ (frCells f (.slice a n c)).toList, u.oneCell' = true := by
  intro u hu
  simp [frCells] at hu
  rcases hu with rfl | rfl | rfl | rfl | rfl | rfl | rfl | rfl | rfl | rfl <;> rfl

theorem flit_app (w : World) (v : Value) (fs : List (Frm × Value)) (f : Frm) (a : Option Addr) (n c : Nat) (h : w.ownsRow 0 48 10 v fs.length (fcells fs)) (hl : fs.length ≤ 1099511627776) :
    ∃ v' w', (∀ ty, (Builtin.append_ #[35, 35] ty #[v, .slice (some ⟨w.heap.size, 0, none⟩) 1 1]).run Tryz.prog (w.alloc (.cells (frCells f (.slice a n c)) 48)) = .ok v' w') ∧
      w'.ownsRow 0 48 10 v' (fs.length + 1) (fcells (fs ++ [(f, .slice a n c)])) ∧ w.grownBy w' v.ownBlock ∧ NewOr w v v' := by
  obtain ⟨i, hi1, hz, hz1, hz2⟩ := info_parts info_frame
  have e1 : fcells [(f, .slice a n c)] = (frCells f (.slice a n c)).toList := by simp [fcells]
  have hcell : ∀ (j : Nat) u, (fcells [(f, .slice a n c)])[j]? = some u → (w.alloc (.cells (frCells f (.slice a n c)) 48)).cell? ((⟨w.heap.size, 0, none⟩ : Addr).add j) = some u := by
    intro j u hj
    rw [addr_add]
    refine cell_of_obj (heap_alloc_new w _) ?_
    rw [Nat.zero_add, ← Array.getElem?_toList, ← e1]
    exact hj
  obtain ⟨v', w', h1, h2, h3, h4, h5⟩ := run_append_kept (P := Tryz.prog) (w.alloc (.cells (frCells f (.slice a n c)) 48)) 35 48 i _ 10 104 Tryz.underlying35 hi1 hz hz1 hz2 rfl (by decide) v fs.length (fcells fs) (World.ownsRow.alloc h _)
    ⟨w.heap.size, 0, none⟩ 1 1 (fcells [(f, .slice a n c)]) (by rw [fcells_length]; rfl) hcell (by rw [e1]; exact frCells_one f a n c) (by unfold maxLen; omega) (by omega)
  refine ⟨v', w', h1, ?_, ?_, ?_⟩
  · rw [fcells_append]
    exact h2
  · exact ⟨h3.os, h3.tape, h3.output, Nat.le_trans (by simp) h3.size, fun k hk hn => (h3.block k (by simp; omega) hn).trans (Below.heap_alloc w _ k hk)⟩
  · intro k hk
    rcases h4 k hk with x | x
    · exact .inl x
    · exact .inr (by simp at x; omega)
end Go.Proofs.YtddfdpbaiedcjabGreatDoor
/- What Decode computes, in plain Lean. -/
namespace Go.Proofs.YtddfdpbaiedcjabGreatDoor
open Go.RowKit

def byteAt (bs : List UInt8) (i : Nat) : Nat := (bs.getD i 0).toNat
/-- Four bytes as a number. -/
def be4 (bs : List UInt8) (n : Nat) : Nat := byteAt bs n * 16777216 + byteAt bs (n + 1) * 65536 + byteAt bs (n + 2) * 256 + byteAt bs (n + 3)

inductive DecR where
  | sum : DecR
  | bad (at_ : Nat) : DecR
  | ok (num : Nat) (fs : List Frm) : DecR

/-- The frame that begins there. -/
def rdFrame (bs : List UInt8) (pos : Nat) : Option (Frm × Nat) :=
  match bs[pos]? with
  | none => none
  | some t => (kindOf t).bind fun k => (rdBody k (decide (t = 9)) bs (pos + 1)).bind fun r => if soundF r.1 = true then some r else none

def rdLoop (bs : List UInt8) : Nat → Nat → Nat → List Frm → DecR
  | 0, _, pos, _ => .bad pos
  | fuel + 1, num, pos, acc =>
    if pos < bs.length then
      match rdFrame bs pos with
      | none => .bad pos
      | some r => rdLoop bs fuel num r.2 (acc ++ [r.1])
    else .ok num acc

def decBody (bs : List UInt8) : DecR :=
  match rdVar bs 0 with
  | none => .bad 0
  | some q => if q.2 = bs.length then .bad 0 else rdLoop bs (bs.length + 1) q.1 q.2 []

def dec (bs : List UInt8) : DecR :=
  if bs.length < 4 then .sum
  else if be4 bs (bs.length - 4) = crc (bs.take (bs.length - 4)) then decBody (bs.take (bs.length - 4)) else .sum

theorem rdAckF_le (bs : List UInt8) : ∀ fuel hi n size pos acc r, pos ≤ bs.length → rdAckF bs fuel hi n size pos acc = some r → pos ≤ r.2 ∧ r.2 ≤ bs.length ∧ r.1.length ≤ acc.length + (r.2 - pos) + 1
  | 0, _, _, _, _, _, _, _, h => by cases h
  | fuel + 1, hi, n, size, pos, acc, r, hp, h => by
    unfold rdAckF at h
    split at h
    · cases h
    · split at h
      · cases h
        simp
        exact hp
      · cases h1 : rdVar bs pos with
        | none => rw [h1] at h; cases h
        | some q1 =>
          obtain ⟨g, p1⟩ := q1
          obtain ⟨a1, a2, _⟩ := rdVar_le h1
          rw [h1] at h
          simp only [Option.bind_some] at h
          cases h2 : rdVar bs p1 with
          | none => rw [h2] at h; cases h
          | some q2 =>
            obtain ⟨s, p2⟩ := q2
            obtain ⟨b1, b2, _⟩ := rdVar_le h2
            rw [h2] at h
            simp only [Option.bind_some] at h
            split at h
            · cases h
            · obtain ⟨c1, c2, c3⟩ := rdAckF_le bs fuel _ _ _ _ _ _ b2 h
              simp only [List.length_append, List.length_cons, List.length_nil] at c3
              exact ⟨by omega, c2, by omega⟩

theorem rdText_le {bs l : List UInt8} {pos p : Nat} (h : rdText bs pos = some (l, p)) : pos ≤ p ∧ p ≤ bs.length ∧ l.length ≤ bs.length := by
  have he := rdText_end h
  unfold rdText at h
  cases hr : rdVar bs pos with
  | none => rw [hr] at h; cases h
  | some q =>
    obtain ⟨n, p1⟩ := q
    rw [hr] at h
    obtain ⟨a1, a2, _⟩ := rdVar_le hr
    simp only [Option.bind_some] at h
    split at h
    · cases h
      refine ⟨by omega, he, ?_⟩
      simp
      omega
    · cases h

theorem rdStream_le {bs : List UInt8} {pos n p : Nat} (h : rdStream bs pos = some (n, p)) : pos ≤ p ∧ p ≤ bs.length := by
  unfold rdStream at h
  cases hr : rdVar bs pos with
  | none => rw [hr] at h; cases h
  | some q =>
    rw [hr] at h
    have := rdVar_le hr
    simp only [Option.bind_some] at h
    split at h
    · cases h
      exact ⟨by omega, this.2.1⟩
    · cases h

/-- What is known of a frame that was read. -/
def Read (bs : List UInt8) (pos : Nat) (k : Int) (f : Frm) (p : Nat) : Prop := f.kind = k ∧ pos ≤ p ∧ p ≤ bs.length ∧ f.data.length ≤ bs.length ∧ f.rngs.length ≤ bs.length + 1

theorem rdBody_read {bs : List UInt8} {pos p : Nat} {t : UInt8} {k : Int} {b : Bool} {f : Frm} (hk : kindOf t = some k) (hp : pos ≤ bs.length) (h : rdBody k b bs pos = some (f, p)) : Read bs pos k f p := by
  have hk' : k = 1 ∨ k = 2 ∨ k = 3 ∨ k = 4 ∨ k = 5 ∨ k = 6 ∨ k = 7 ∨ k = 8 := by
    unfold kindOf at hk
    repeat' split at hk
    all_goals simp at hk
    all_goals omega
  rcases hk' with rfl | rfl | rfl | rfl | rfl | rfl | rfl | rfl
  · rw [show rdBody 1 b bs pos = some (f0 1 b, pos) by simp [rdBody]] at h
    cases h
    exact ⟨rfl, Nat.le_refl _, hp, Nat.zero_le _, Nat.zero_le _⟩
  · rw [show rdBody 2 b bs pos = rd2 b bs pos by simp [rdBody], rd2, Option.bind_eq_some_iff] at h
    obtain ⟨⟨x1, p1⟩, e1, h⟩ := h
    rw [Option.bind_eq_some_iff] at h
    obtain ⟨⟨x2, p2⟩, e2, h⟩ := h
    rw [Option.bind_eq_some_iff] at h
    obtain ⟨⟨x3, p3⟩, e3, h⟩ := h
    rw [Option.bind_eq_some_iff] at h
    obtain ⟨r, e4, h⟩ := h
    cases h
    have := rdVar_le e1
    have := rdVar_le e2
    have := rdVar_le e3
    simp only at *
    obtain ⟨c1, c2, c3⟩ := rdAckF_le bs _ _ _ _ _ _ _ (rdVar_le e3).2.1 e4
    refine ⟨rfl, by omega, c2, Nat.zero_le _, ?_⟩
    show r.1.length ≤ _
    simp only [List.length_nil] at c3
    omega
  · rw [show rdBody 3 b bs pos = rd3 b bs pos by simp [rdBody], rd3, Option.bind_eq_some_iff] at h
    obtain ⟨⟨x1, p1⟩, e1, h⟩ := h
    rw [Option.bind_eq_some_iff] at h
    obtain ⟨⟨x2, p2⟩, e2, h⟩ := h
    rw [Option.bind_eq_some_iff] at h
    obtain ⟨⟨x3, p3⟩, e3, h⟩ := h
    cases h
    have := rdStream_le e1
    have := rdVar_le e2
    have := rdVar_le e3
    simp only at *
    exact ⟨rfl, by omega, by omega, Nat.zero_le _, Nat.zero_le _⟩
  · rw [show rdBody 4 b bs pos = rd4 b bs pos by simp [rdBody], rd4, Option.bind_eq_some_iff] at h
    obtain ⟨⟨x1, p1⟩, e1, h⟩ := h
    rw [Option.bind_eq_some_iff] at h
    obtain ⟨⟨x2, p2⟩, e2, h⟩ := h
    rw [Option.bind_eq_some_iff] at h
    obtain ⟨⟨x3, p3⟩, e3, h⟩ := h
    cases h
    have := rdStream_le e1
    have := rdVar_le e2
    have := rdText_le e3
    simp only at *
    exact ⟨rfl, by omega, by omega, by show x3.length ≤ _; omega, Nat.zero_le _⟩
  · rw [show rdBody 5 b bs pos = rdNumF 5 b bs pos by simp [rdBody], rdNumF, Option.bind_eq_some_iff] at h
    obtain ⟨⟨x1, p1⟩, e1, h⟩ := h
    cases h
    have := rdVar_le e1
    simp only at *
    exact ⟨rfl, by omega, by omega, Nat.zero_le _, Nat.zero_le _⟩
  · rw [show rdBody 6 b bs pos = rd6 b bs pos by simp [rdBody], rd6, Option.bind_eq_some_iff] at h
    obtain ⟨⟨x1, p1⟩, e1, h⟩ := h
    rw [Option.bind_eq_some_iff] at h
    obtain ⟨⟨x2, p2⟩, e2, h⟩ := h
    cases h
    have := rdStream_le e1
    have := rdVar_le e2
    simp only at *
    exact ⟨rfl, by omega, by omega, Nat.zero_le _, Nat.zero_le _⟩
  · rw [show rdBody 7 b bs pos = rd7 b bs pos by simp [rdBody], rd7, Option.bind_eq_some_iff] at h
    obtain ⟨⟨x1, p1⟩, e1, h⟩ := h
    rw [Option.bind_eq_some_iff] at h
    obtain ⟨⟨x2, p2⟩, e2, h⟩ := h
    rw [Option.bind_eq_some_iff] at h
    obtain ⟨⟨x3, p3⟩, e3, h⟩ := h
    cases h
    have := rdVar_le e1
    have := rdVar_le e2
    have := rdText_le e3
    simp only at *
    exact ⟨rfl, by omega, by omega, by show x3.length ≤ _; omega, Nat.zero_le _⟩
  · rw [show rdBody 8 b bs pos = rdNumF 8 b bs pos by simp [rdBody], rdNumF, Option.bind_eq_some_iff] at h
    obtain ⟨⟨x1, p1⟩, e1, h⟩ := h
    cases h
    have := rdVar_le e1
    simp only at *
    exact ⟨rfl, by omega, by omega, Nat.zero_le _, Nat.zero_le _⟩
end Go.Proofs.YtddfdpbaiedcjabGreatDoor
