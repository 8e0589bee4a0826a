/- wire.readAck (printed by mkread5.py). -/
import Derived.Test.YtddfdpbaiedcjaaDoorRead4
namespace Go.Proofs.YtddfdpbaiedcjaaDoor
open Go.RowKit

def posOf (w : World) (rb : Nat) : Nat := match w.cell? ⟨rb, 1, none⟩ with
  | some (.int _ n) => n.toNat
  | _ => 0

theorem posOf_at {w : World} {rb pos : Nat} {v : Value} (h : RdAt w rb v pos) : posOf w rb = pos := by
  unfold posOf
  rw [h.c1]
  simp

/-- At the head of a round. -/
def AckAt (w wr : World) (rb fb : Nat) (v : Value) (b : Bool) (bs : List UInt8) (hi n size : Nat) (R : Option (Rngs × Nat)) : Prop :=
  ∃ fuel pos acc rv, RdAt wr rb v pos ∧ FrameAt wr fb { f0 2 b with rngs := acc } rv ∧ wr.ownsRow 0 50 2 rv acc.length (rcells acc) ∧ (∀ g, rv.ownBlock = some g → w.heap.size ≤ g) ∧
    (∀ i, i < acc.length → loAt acc i < 18446744073709551616 ∧ hiAt acc i < 18446744073709551616) ∧ pos ≤ bs.length ∧ bs.length - pos < fuel ∧ acc.length ≤ pos ∧ Mod (Two rb fb) w wr ∧
    hi < 4611686018427387904 ∧ n < 4611686018427387904 ∧ size < 4611686018427387904 ∧ rdAckF bs fuel hi n size pos acc = R

theorem bounds_snoc {acc : Rngs} {lo hi : Nat} (h : ∀ i, i < acc.length → loAt acc i < 18446744073709551616 ∧ hiAt acc i < 18446744073709551616) (h1 : lo < 18446744073709551616) (h2 : hi < 18446744073709551616) :
    ∀ i, i < (acc ++ [(lo, hi)]).length → loAt (acc ++ [(lo, hi)]) i < 18446744073709551616 ∧ hiAt (acc ++ [(lo, hi)]) i < 18446744073709551616 := by
  intro i hi'
  by_cases hlt : i < acc.length
  · have := h i hlt
    unfold loAt hiAt at this ⊢
    rw [List.getD_eq_getElem?_getD, List.getElem?_append_left hlt, ← List.getD_eq_getElem?_getD]
    exact this
  · have : i = acc.length := by simp at hi'; omega
    subst this
    simp [loAt, hiAt, h1, h2]

theorem own_block {w : World} {e sz : Nat} {v : Value} {n m c g o : Nat} {xs : List Value} (h : w.ownsRow 0 e sz v n xs) (hv : v = .slice (some ⟨g, o, none⟩) m c) : v.ownBlock = some g := by
  rcases h.2 with ⟨rfl, _⟩ | ⟨g', cap, cur, rfl, _⟩
  · cases hv
  · cases hv
    rfl

theorem own_not_frame {w : World} {v : Value} {n b : Nat} {xs : List Value} {f : Frm} {rv : Value} (h : w.ownsRow 0 50 2 v n xs) (hf : FrameAt w b f rv) : ¬ v.ownBlock = some b := by
  intro hb
  rcases h.2 with ⟨rfl, _⟩ | ⟨g, cap, cur, rfl, _, hg, _⟩
  · cases hb
  · simp [Value.ownBlock] at hb
    subst hb
    unfold FrameAt at hf
    rw [hg] at hf
    simp at hf

theorem own_not_reader {w : World} {v v' : Value} {n b pos : Nat} {xs : List Value} (h : w.ownsRow 0 50 2 v n xs) (hf : RdAt w b v' pos) : ¬ v.ownBlock = some b := by
  intro hb
  rcases h.2 with ⟨rfl, _⟩ | ⟨g, cap, cur, rfl, _, hg, _⟩
  · cases hb
  · simp [Value.ownBlock] at hb
    subst hb
    unfold RdAt at hf
    rw [hg] at hf
    simp at hf

set_option maxRecDepth 100000 in
set_option maxHeartbeats 2000000 in
theorem readack_any (rb fb pos : Nat) (v : Value) (bs : List UInt8) (b : Bool) (w : World) (h : RdAt w rb v pos) (hb : BR w v bs) (hv : OffS (Two rb fb) v) (hp : pos ≤ bs.length) (hbl : bs.length ≤ 1099511627776) (hf : FrameAt w fb (f0 2 b) (.slice none 0 0)) (hne : fb ≠ rb) :
    Calls Tryd.prog 38 #[.pointer (some ⟨rb, 0, none⟩), .pointer (some ⟨fb, 0, none⟩)] w (RdF w rb v fb (rd2 b bs pos)) := by
  have hv1 : OffS (Only rb) v := fun g o n c e hx => hv g o n c e (.inl hx)
  have HM0 := hide (Mod.refl (Only rb) w)
  have Hb := hide hb
  have Hf := hide hf
  have Hv := hide hv1
  have Hv2 := hide hv
  have Hne := hide hne
  clear hb hv hf hv1 hne
  have c1 := rvarint_any rb pos v bs w h (Hb.out) Hv.out hp
  cases hr1 : rdVar bs pos with
  | none =>
    rw [hr1] at c1
    have HR : Hid (rd2 b bs pos = none) := by
      show _ = _
      unfold rd2
      simp only [hr1, Option.bind_some, Option.bind_none]
    clear hr1
    go_enter Tryd.func38, Tryd.ntmps38
    go_wp2_with (go_at_call 22; refine c1.mono ?_; rintro e w' (⟨_, _, hx, _⟩ | ⟨_, he, hm⟩); cases hx; unfold shortE at he; subst he)
    exact ⟨rfl, .inr ⟨HR.out, rfl, mod_two (hm)⟩⟩
  | some q1 =>
    obtain ⟨x1, p1⟩ := q1
    rw [hr1] at c1
    have hp1 : p1 ≤ bs.length := rdVar_end hr1
    have hx1 : x1 < 4611686018427387904 := (rdVar_le hr1).2.2
    have HR1 := hide hr1
    clear hr1
    go_enter Tryd.func38, Tryd.ntmps38
    go_wp2_with fail
    refine c1.mono ?_
    rintro e w1 (⟨_, _, hx, rfl, h1, m1⟩ | ⟨hx, _⟩)
    rotate_left
    · cases hx
    simp only [Option.map_some, Option.some.injEq, Prod.mk.injEq] at hx
    obtain ⟨rfl, rfl⟩ := hx
    have HM1 := hide (HM0.out.trans m1)
    clear c1 m1
    have c2 := rvarint_any rb p1 v bs w1 h1 (Hb.out.mod HM1.out Hv.out) Hv.out hp1
    cases hr2 : rdVar bs p1 with
    | none =>
      rw [hr2] at c2
      have HR : Hid (rd2 b bs pos = none) := by
        show _ = _
        unfold rd2
        simp only [HR1.out, hr2, Option.bind_some, Option.bind_none]
      clear hr2
      go_wp2_with (go_at_call 22; refine c2.mono ?_; rintro e w' (⟨_, _, hx, _⟩ | ⟨_, he, hm⟩); cases hx; unfold shortE at he; subst he)
      exact ⟨rfl, .inr ⟨HR.out, rfl, mod_two (HM1.out.trans hm)⟩⟩
    | some q2 =>
      obtain ⟨x2, p2⟩ := q2
      rw [hr2] at c2
      have hp2 : p2 ≤ bs.length := rdVar_end hr2
      have hx2 : x2 < 4611686018427387904 := (rdVar_le hr2).2.2
      have HR2 := hide hr2
      clear hr2
      go_wp2_with fail
      refine c2.mono ?_
      rintro e w2 (⟨_, _, hx, rfl, h2, m2⟩ | ⟨hx, _⟩)
      rotate_left
      · cases hx
      simp only [Option.map_some, Option.some.injEq, Prod.mk.injEq] at hx
      obtain ⟨rfl, rfl⟩ := hx
      have HM2 := hide (HM1.out.trans m2)
      clear c2 m2
      have c3 := rvarint_any rb p2 v bs w2 h2 (Hb.out.mod HM2.out Hv.out) Hv.out hp2
      cases hr3 : rdVar bs p2 with
      | none =>
        rw [hr3] at c3
        have HR : Hid (rd2 b bs pos = none) := by
          show _ = _
          unfold rd2
          simp only [HR1.out, HR2.out, hr3, Option.bind_some, Option.bind_none]
        clear hr3
        go_wp2_with (go_at_call 22; refine c3.mono ?_; rintro e w' (⟨_, _, hx, _⟩ | ⟨_, he, hm⟩); cases hx; unfold shortE at he; subst he)
        exact ⟨rfl, .inr ⟨HR.out, rfl, mod_two (HM2.out.trans hm)⟩⟩
      | some q3 =>
        obtain ⟨x3, p3⟩ := q3
        rw [hr3] at c3
        have hp3 : p3 ≤ bs.length := rdVar_end hr3
        have hx3 : x3 < 4611686018427387904 := (rdVar_le hr3).2.2
        have HR3 := hide hr3
        clear hr3
        go_wp2_with fail
        refine c3.mono ?_
        rintro e w3 (⟨_, _, hx, rfl, h3, m3⟩ | ⟨hx, _⟩)
        rotate_left
        · cases hx
        simp only [Option.map_some, Option.some.injEq, Prod.mk.injEq] at hx
        obtain ⟨rfl, rfl⟩ := hx
        have HM3 := hide (HM2.out.trans m3)
        clear c3 m3
        obtain ⟨R, hR⟩ : ∃ R, rdAckF bs (bs.length + 1) x1 x2 x3 p3 [] = R := ⟨_, rfl⟩
        have hA : AckAt w w3 rb fb v b bs x1 x2 x3 R := ⟨bs.length + 1, p3, [], .slice none 0 0, h3, Hf.out.mod HM3.out Hne.out, World.ownsRow_nil w3 0 _ 2, (fun g hg => by cases hg), (fun i hi => absurd hi (Nat.not_lt_zero i)), hp3, by omega, Nat.zero_le _, mod_two HM3.out, hx1, hx2, hx3, hR⟩
        have HA := hide hA
        have HRR : Hid (rd2 b bs pos = R.bind fun r => some ({ f0 2 b with rngs := r.1 }, r.2)) := by
          show _ = _
          unfold rd2
          simp only [HR1.out, HR2.out, HR3.out, Option.bind_some, hR]
        clear hA hR h3 h2 h1 h hx1 hx2 hx3
        go_wp2_with fail
        go_loopw [4, 5, 6, 7, 8] (fun hi n size _ _ wr => ∃ hi' n' size' : Nat, hi = .int .u64 hi' ∧ n = .int .u64 n' ∧ size = .int .u64 size' ∧ AckAt w wr rb fb v b bs hi' n' size' R) (fun _ _ _ _ _ wr => bs.length - posOf wr rb)
        case atStart => exact ⟨x1, x2, x3, rfl, rfl, rfl, HA.out⟩
        case round =>
          obtain ⟨hi, n, size, rfl, rfl, rfl, fuel, q, acc, rv, hrd, hfr, hown, hnew, hbd, hq, hfu, hal, hm, b1, b2, b3, hR⟩ := hrel
          obtain ⟨fuel, rfl⟩ : ∃ f, fuel = f + 1 := ⟨fuel - 1, by omega⟩
          unfold rdAckF at hR
          have Hrd := hide hrd
          have Hfr := hide hfr
          have Hown := hide hown
          have Hnew := hide hnew
          have Hbd := hide hbd
          have Hm := hide hm
          by_cases d1 : hi < size
          · rw [if_pos d1] at hR
            have HR : Hid (rd2 b bs pos = none) := by show _ = _; rw [HRR.out, ← hR]; rfl
            clear hR hrd hfr hown hnew hbd hm
            go_wp2_with (go_at_call 23; refine (fail_any _ _).mono ?_; rintro e w' ⟨he, rfl⟩; unfold shortE at he; subst he)
            exact ⟨rfl, .inr ⟨HR.out, rfl, Hm.out⟩⟩
          · rw [if_neg d1] at hR
            have z1 : IntKind.u64.wrap ((hi : Int) - size) = ((hi - size : Nat) : Int) := by rw [IntKind.wrap_u64]; omega
            obtain ⟨lo, hlo⟩ : ∃ lo, hi - size = lo := ⟨_, rfl⟩
            rw [hlo] at z1 hR
            have hlh : lo ≤ hi := by omega
            obtain ⟨k0, k1, k2, k3, k4, k5, k6, k7, k8, k9⟩ := hfr.cells
            have hfz : ∀ j, wr.frozen? ⟨fb, j, none⟩ = false := fun j => frozen_of_obj hfr
            obtain ⟨v2, W2, hr2, own2, gr2, nw2⟩ := rlit_app wr rv acc lo hi hown (by omega)
            obtain ⟨ra, rc, rfl, _⟩ := own_form hown
            have HR' := hide hR
            have hfbne : ¬ (Value.slice ra acc.length rc).ownBlock = some fb := own_not_frame hown hfr
            have hrbne : ¬ (Value.slice ra acc.length rc).ownBlock = some rb := own_not_reader hown hrd
            have mg : Mod (fun k => (Value.slice ra acc.length rc).ownBlock = some k) wr W2 := (Mod.refl _ _).grown gr2 (fun k hk => .inl hk)
            have hfr2 := hfr.mod mg hfbne
            have hrd2 := hrd.mod mg hrbne
            have c9' := hfr2.cells.2.2.2.2.2.2.2.2.2
            have hfz2 : ∀ j, W2.frozen? ⟨fb, j, none⟩ = false := fun j => frozen_of_obj hfr2
            obtain ⟨a2, c2, rfl, _⟩ := own_form own2
            have Hown2 := hide own2
            have Hfr2 := hide hfr2
            have Hrd2 := hide hrd2
            have Hmg := hide mg
            have Hnw2 := hide nw2
            have Hlo := hide hlo
            clear hR hrd hfr hown hnew hbd hm own2 gr2 nw2 mg hfr2 hrd2 hlo
            obtain ⟨W3, hW3⟩ : ∃ W3, W2.setCell ⟨fb, 9, none⟩ (.slice a2 (acc.length + 1) c2) = W3 := ⟨_, rfl⟩
            have hlen : (acc ++ [(lo, hi)]).length = acc.length + 1 := by simp
            have m23 : Mod (fun k => k = fb) W2 W3 := by rw [← hW3]; exact (Mod.refl (fun k => k = fb) W2).setCell (p := ⟨fb, 9, none⟩) (.inl rfl) _
            have Hrd3 := hide (Hrd2.out.mod m23 (fun e => Hne.out e.symm))
            have Hfr3 : Hid (FrameAt W3 fb { f0 2 b with rngs := acc ++ [(lo, hi)] } (.slice a2 (acc.length + 1) c2)) := by
              show FrameAt _ _ _ _
              rw [← hW3]
              exact Hfr2.out.set rfl
            have Hown3 : Hid (W3.ownsRow 0 50 2 (.slice a2 (acc.length + 1) c2) (acc ++ [(lo, hi)]).length (rcells (acc ++ [(lo, hi)]))) := by
              show World.ownsRow _ _ _ _ _ _ _
              have := m23.owns Hown2.out (fun g hg e => own_not_frame Hown2.out Hfr2.out (by rw [hg, e]))
              rw [hlen] at this ⊢
              exact this
            have Hm3 : Hid (Mod (Two rb fb) w W3) := (Hm.out.then Hmg.out (fun i hi => .inr (Hnew.out i hi))).then m23 (fun i hi => .inl (.inr hi))
            have Hnew3 : Hid (∀ g, (Value.slice a2 (acc.length + 1) c2).ownBlock = some g → w.heap.size ≤ g) := by
              intro g hg
              have hnw : NewOr wr (Value.slice ra acc.length rc) (.slice a2 (acc.length + 1) c2) := by rw [← hlen]; exact Hnw2.out
              rcases hnw g hg with h1 | h1
              · exact Hnew.out g h1
              · have := Hm.out.size
                omega
            have Hbd3 := hide (bounds_snoc Hbd.out (show lo < 18446744073709551616 by omega) (show hi < 18446744073709551616 by omega))
            have hBR : BR W3 v bs := Hb.out.mod Hm3.out Hv2.out
            have hc1 := rvarint_any rb q v bs W3 Hrd3.out hBR Hv.out hq
            clear m23 hlen hBR
            by_cases hn : n = 0
            · have HR : Hid (rd2 b bs pos = some ({ f0 2 b with rngs := acc ++ [(lo, hi)] }, q)) := by
                show _ = _
                have := HR'.out
                rw [if_pos hn] at this
                rw [HRR.out, ← this]
                rfl
              have hn0 : ((n : Int) == 0) = true := by simp [hn]
              clear hn hc1
              go_wp2_with (at_builtin; refine wpList_append_is rfl _ _ _ _ rfl _ _ _ rfl rfl hr2 ?_)
              refine bodyPost_ret (results_none rfl _ _ _) rfl (.inl ⟨_, _, q, HR.out, rfl, Hrd3.out, Hfr3.out, ?_, ?_, Hm3.out⟩)
              · exact ⟨Hown3.out, Hbd3.out⟩
              · intro g o n' c' e
                cases e
                exact Hnew3.out g (own_block Hown3.out rfl)
            · have hn0 : ((n : Int) == 0) = false := by rw [beq_eq_false_iff_ne]; omega
              have z2 : IntKind.u64.wrap ((n : Int) - 1) = ((n - 1 : Nat) : Int) := by rw [IntKind.wrap_u64]; omega
              have HRn := HR'.out
              rw [if_neg hn] at HRn
              have HRn := hide HRn
              cases hg1 : rdVar bs q with
              | none =>
                rw [hg1] at hc1
                have HR : Hid (rd2 b bs pos = none) := by
                  show _ = _
                  have := HRn.out
                  rw [hg1] at this
                  rw [HRR.out, ← this]
                  rfl
                clear hg1 hn
                go_wp2_with (first | (at_builtin; refine wpList_append_is rfl _ _ _ _ rfl _ _ _ rfl rfl hr2 ?_) | (go_at_call 22; refine hc1.mono ?_; rintro e w' (⟨_, _, hx, _⟩ | ⟨_, he, hm⟩); cases hx; unfold shortE at he; subst he))
                exact ⟨rfl, .inr ⟨HR.out, rfl, Hm3.out.then (mod_two hm) (fun i hi => .inl hi)⟩⟩
              | some q1 =>
                obtain ⟨gap, p4⟩ := q1
                obtain ⟨u1, u2, u3⟩ := rdVar_le hg1
                rw [hg1] at hc1
                have Hg1 := hide hg1
                clear hg1 hn
                go_wp2_with (at_builtin; refine wpList_append_is rfl _ _ _ _ rfl _ _ _ rfl rfl hr2 ?_)
                refine hc1.mono ?_
                rintro e w4 (⟨_, _, hx, rfl, h4, m4⟩ | ⟨hx, _⟩)
                rotate_left
                · cases hx
                simp only [Option.map_some, Option.some.injEq, Prod.mk.injEq] at hx
                obtain ⟨rfl, rfl⟩ := hx
                have Hm4 := hide (Hm3.out.then (mod_two (fb := fb) m4) (fun i hi => .inl hi))
                have hc2 := rvarint_any rb p4 v bs w4 h4 (Hb.out.mod Hm4.out Hv2.out) Hv.out u2
                have HM4 := hide m4
                clear hc1 m4 h4 hW3
                cases hg2 : rdVar bs p4 with
                | none =>
                  rw [hg2] at hc2
                  have HR : Hid (rd2 b bs pos = none) := by
                    show _ = _
                    have := HRn.out
                    rw [Hg1.out, Option.bind_some, hg2] at this
                    rw [HRR.out, ← this]
                    rfl
                  clear hg2
                  go_wp2_with (go_at_call 22; refine hc2.mono ?_; rintro e w' (⟨_, _, hx, _⟩ | ⟨_, he, hm⟩); cases hx; unfold shortE at he; subst he)
                  exact ⟨rfl, .inr ⟨HR.out, rfl, Hm4.out.then (mod_two hm) (fun i hi => .inl hi)⟩⟩
                | some q2 =>
                  obtain ⟨size', p5⟩ := q2
                  obtain ⟨u4, u5, u6⟩ := rdVar_le hg2
                  rw [hg2] at hc2
                  have Hg2 := hide hg2
                  clear hg2
                  go_wp2_with fail
                  refine hc2.mono ?_
                  rintro e w5 (⟨_, _, hx, rfl, h5, m5⟩ | ⟨hx, _⟩)
                  rotate_left
                  · cases hx
                  simp only [Option.map_some, Option.some.injEq, Prod.mk.injEq] at hx
                  obtain ⟨rfl, rfl⟩ := hx
                  have Hm5 := hide (Hm4.out.then (mod_two (fb := fb) m5) (fun i hi => .inl hi))
                  have HM5 := hide (HM4.out.trans m5)
                  have H5 := hide h5
                  clear hc2 m5 h5
                  by_cases d2 : lo < 2
                  · have HR : Hid (rd2 b bs pos = none) := by
                      show _ = _
                      have := HRn.out
                      rw [Hg1.out, Option.bind_some, Hg2.out, Option.bind_some, if_pos (.inl d2)] at this
                      rw [HRR.out, ← this]
                      rfl
                    have e2 : decide ((lo : Int) < 2) = true := by simp; omega
                    go_wp2_with (go_at_call 23; refine (fail_any _ _).mono ?_; rintro e w' ⟨he, rfl⟩; unfold shortE at he; subst he)
                    exact ⟨rfl, .inr ⟨HR.out, rfl, Hm5.out⟩⟩
                  · have e2 : decide ((lo : Int) < 2) = false := by simp; omega
                    have z3 : IntKind.u64.wrap ((lo : Int) - 2) = ((lo - 2 : Nat) : Int) := by rw [IntKind.wrap_u64]; omega
                    have Hd2 := hide d2
                    by_cases d3 : lo - 2 < gap
                    · have HR : Hid (rd2 b bs pos = none) := by
                        show _ = _
                        have := HRn.out
                        rw [Hg1.out, Option.bind_some, Hg2.out, Option.bind_some, if_pos (.inr d3)] at this
                        rw [HRR.out, ← this]
                        rfl
                      have e3 : decide (lo - 2 < gap) = true := by simpa using d3
                      clear d2
                      go_wp2_with (go_at_call 23; refine (fail_any _ _).mono ?_; rintro e w' ⟨he, rfl⟩; unfold shortE at he; subst he)
                      exact ⟨rfl, .inr ⟨HR.out, rfl, Hm5.out⟩⟩
                    · have e3 : decide (lo - 2 < gap) = false := by simpa using d3
                      have z4 : IntKind.u64.wrap (((lo - 2 : Nat) : Int) - gap) = ((lo - 2 - gap : Nat) : Int) := by rw [IntKind.wrap_u64]; omega
                      have HA5 : Hid (AckAt w w5 rb fb v b bs (lo - 2 - gap) (n - 1) size' R) := by
                        refine ⟨fuel, p5, acc ++ [(lo, hi)], .slice a2 (acc.length + 1) c2, H5.out, Hfr3.out.mod HM5.out Hne.out, HM5.out.owns Hown3.out (fun g hg e => own_not_reader Hown3.out Hrd3.out (by rw [hg, e])), Hnew3.out, Hbd3.out, u5, by omega, by simp; omega, Hm5.out, by omega, by omega, u6, ?_⟩
                        have := HRn.out
                        rw [Hg1.out, Option.bind_some, Hg2.out, Option.bind_some, if_neg (by omega)] at this
                        exact this
                      have HP : Hid (posOf w5 rb = p5 ∧ posOf wr rb = q) := ⟨posOf_at H5.out, posOf_at Hrd.out⟩
                      clear d2
                      go_wp2_with fail
                      go_roundw
                      case rel => exact ⟨lo - 2 - gap, n - 1, size', by rfl, by rfl, rfl, HA5.out⟩
                      case measure =>
                        rw [HP.out.1, HP.out.2]
                        omega
end Go.Proofs.YtddfdpbaiedcjaaDoor
