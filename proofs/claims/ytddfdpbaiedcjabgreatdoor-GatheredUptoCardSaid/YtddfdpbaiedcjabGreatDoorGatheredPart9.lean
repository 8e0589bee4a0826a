/- The statement Gathered, second form, its card: where what the law reads is of bulk at most 1048576, and the two listed variables read as listed, it returns true, and its argument reads behind the call as before. Part 9 of 23. -/
import Derived.Test.YtddfdpbaiedcjabGreatDoorGatheredPart3
import Derived.Test.YtddfdpbaiedcjabGreatDoorGatheredPart8
/- mediawireref.Set: Add, Has, NewSet. -/
namespace Go.Proofs.YtddfdpbaiedcjabGreatDoor
open Go.RowKit

/-- The document's set lies at block b; its ranges can be read. -/
structure RSetAt (w : World) (b : Nat) (v : Value) (rs : Rngs) (fl most : Nat) : Prop where
  obj : w.heap[b]? = some (.cells #[v, .int .u64 (fl : Int), .int .i64 (most : Int)] 106 (0, 0))
  rd : RR w v rs
  len : rs.length ≤ 274877906944

/-- All that lies there is new. -/
def FreshV (w : World) (v : Value) : Prop := ∀ g o n c, v = .slice (some ⟨g, o, none⟩) n c → w.heap.size ≤ g

theorem radd_none (rs : Rngs) (fl most b lo hi : Nat) (v : Value) (w : World) (h : RSetAt w b v rs fl most) (hlo : lo < 18446744073709551616) (hhi : hi < 18446744073709551616) (hfl : fl < 18446744073709551616) (hout : hi < max lo fl) :
    Calls Tryz.prog 39 #[.pointer (some ⟨b, 0, none⟩), .int .u64 (lo : Int), .int .u64 (hi : Int)] w fun e w' => e = .returned (.tuple #[]) ∧ Mod NoB w w' := by
  have c1 : w.cell? ⟨b, 1, none⟩ = some (.int .u64 (fl : Int)) := cell_of_obj h.obj rfl
  by_cases hc : lo < fl
  · have d1 : (lo : Int) < fl := by omega
    have d2 : (hi : Int) < fl := by omega
    clear h hout hc
    go_enter Tryz.func39, Tryz.ntmps39
    go_wp2_with fail
    exact bodyPost_ret (results_none rfl _ _ _) rfl ⟨rfl, Mod.refl _ _⟩
  · have d1 : ¬ (lo : Int) < fl := by omega
    have d2 : (hi : Int) < lo := by omega
    clear h hout hc
    go_enter Tryz.func39, Tryz.ntmps39
    go_wp2_with fail
    exact bodyPost_ret (results_none rfl _ _ _) rfl ⟨rfl, Mod.refl _ _⟩

theorem own_ltR {w : World} {base e sz : Nat} {v : Value} {n : Nat} {xs : List Value} (h : w.ownsRow base e sz v n xs) : ∀ g, v.ownBlock = some g → g < w.heap.size := by
  intro g hg
  rcases h.2 with ⟨rfl, rfl⟩ | ⟨g', cap, cur, rfl, _, h0, h1, h2, _⟩
  · cases hg
  · simp [Value.ownBlock] at hg
    subst hg
    exact (Array.getElem?_eq_some_iff.1 h0).1

/-- One range more. -/
theorem radd_round {w wr W2 W3 : World} {oa : Option Addr} {on oc : Nat} {out : Rngs} {pq : Nat × Nat} {v3 : Value} (h1 : OwnR wr (.slice oa on oc) out) (hon : out.length = on) (hnew : ∀ g, (Value.slice oa on oc).ownBlock = some g → w.heap.size ≤ g) (hm : Mod NoB w wr) (m2 : Mod NoB wr W2)
    (hp : pq.1 < 18446744073709551616) (hq : pq.2 < 18446744073709551616)
    (q1 : W3.ownsRow 0 110 2 v3 (out ++ [pq]).length (rcells (out ++ [pq]))) (q2 : W2.grownBy W3 (Value.slice oa on oc).ownBlock) (q3 : NewOr W2 (.slice oa on oc) v3) :
    OwnR W3 v3 (out ++ [pq]) ∧ (∀ g, v3.ownBlock = some g → w.heap.size ≤ g) ∧ Mod NoB w W3 := by
  have hs := hm.size
  have hs2 := m2.size
  refine ⟨⟨q1, fun i hi => ?_⟩, fun g hg => ?_, ?_⟩
  · by_cases hl : i < out.length
    · obtain ⟨e1, e2⟩ := at_append_left out [pq] i hl
      rw [e1, e2]
      exact h1.2 i hl
    · have : i = out.length := by simp at hi; omega
      subst this
      obtain ⟨e1, e2⟩ := at_append_right out [pq] out.length (Nat.le_refl _)
      rw [e1, e2, Nat.sub_self]
      exact ⟨hp, hq⟩
  · rcases q3 g hg with x | x
    · exact hnew g x
    · omega
  · exact ((hm.trans m2).grown q2 (fun k hk => .inr (hnew k hk)))

def RAddPost (rs : Rngs) (fl most b hi m m1 m2 : Nat) (w : World) (e : Ending) (w' : World) : Prop :=
  e = .returned (.tuple #[]) ∧ ∃ v' rs' fl', (rs', fl') = (if most < (addRs rs m hi m1 m2).length then ((addRs rs m hi m1 m2).drop 1, hiAt (addRs rs m hi m1 m2) 0 + 1) else (addRs rs m hi m1 m2, fl)) ∧
    RSetAt w' b v' rs' fl' most ∧ FreshV w v' ∧ Mod (fun k => k = b) w w'

theorem rr_tail {w : World} {g n cap : Nat} {rs : Rngs} (h : RR w (.slice (some ⟨g, 0, none⟩) n cap) rs) (hn : 0 < n) : RR w (.slice (some ⟨g, 2, none⟩) (n - 1) (cap - 1)) (rs.drop 1) := by
  obtain ⟨a, c, e, h1, h2, h3⟩ := h
  cases e
  refine ⟨_, _, by rw [List.length_drop], by rw [List.length_drop]; omega, by omega, fun i hi => ?_⟩
  have hi' : i + 1 < rs.length := by rw [List.length_drop] at hi; omega
  obtain ⟨g', o', e, q1, q2, q3, q4⟩ := h3 (i + 1) hi'
  cases e
  obtain ⟨d1, d2⟩ := at_drop rs 1 i
  rw [d1, d2, show 1 + i = i + 1 by omega]
  exact ⟨g, 2, rfl, by rw [show 2 + i * 2 = 0 + (i + 1) * 2 by omega]; exact q1, by rw [show 2 + i * 2 + 1 = 0 + (i + 1) * 2 + 1 by omega]; exact q2, q3, q4⟩

theorem radd_fin0 {rs AR : Rngs} {fl most b hi m m1 m2 N xg xc : Nat} {w W3 : World} {v0 : Value} (hA : addRs rs m hi m1 m2 = AR) (hN : AR.length = N) (hNl : N ≤ 274877906944) (hr : OwnR W3 (.slice (some ⟨xg, 0, none⟩) N xc) AR) (hnew : ∀ g, (Value.slice (some ⟨xg, 0, none⟩) N xc).ownBlock = some g → w.heap.size ≤ g) (hm : Mod NoB w W3) (hbw : b < w.heap.size)
    (ho : W3.heap[b]? = some (.cells #[v0, .int .u64 (fl : Int), .int .i64 (most : Int)] 106 (0, 0))) (hov : ¬ most < N) :
    RAddPost rs fl most b hi m m1 m2 w (.returned (.tuple #[])) (W3.setCell ⟨b, 0, none⟩ (.slice (some ⟨xg, 0, none⟩) N xc)) := by
  have hx : w.heap.size ≤ xg := hnew xg rfl
  have ms : Mod (fun k => k = b) W3 (W3.setCell ⟨b, 0, none⟩ (.slice (some ⟨xg, 0, none⟩) N xc)) := (Mod.refl (fun k => k = b) _).setCell (p := ⟨b, 0, none⟩) (.inl rfl) _
  refine ⟨rfl, .slice (some ⟨xg, 0, none⟩) N xc, AR, fl, ?_, ⟨?_, ?_, by omega⟩, ?_, ?_⟩
  · rw [hA, hN, if_neg hov]
  · exact obj_setCell ho
  · exact hr.rr.mod ms (fun g o n c e => by cases e; omega)
  · intro g o n c e
    cases e
    exact hx
  · exact (hm.mono (fun i hi => hi.elim)).then ms (fun i hi => .inl hi)

theorem radd_fin1 {rs AR : Rngs} {fl most b hi m m1 m2 N xg xc : Nat} {w W3 : World} {v0 : Value} (hA : addRs rs m hi m1 m2 = AR) (hN : AR.length = N) (hNl : N ≤ 274877906944) (hr : OwnR W3 (.slice (some ⟨xg, 0, none⟩) N xc) AR) (hnew : ∀ g, (Value.slice (some ⟨xg, 0, none⟩) N xc).ownBlock = some g → w.heap.size ≤ g) (hm : Mod NoB w W3) (hbw : b < w.heap.size)
    (ho : W3.heap[b]? = some (.cells #[v0, .int .u64 (fl : Int), .int .i64 (most : Int)] 106 (0, 0))) (hov : most < N) :
    RAddPost rs fl most b hi m m1 m2 w (.returned (.tuple #[])) ((W3.setCell ⟨b, 1, none⟩ (.int .u64 ((hiAt AR 0 + 1 : Nat) : Int))).setCell ⟨b, 0, none⟩ (.slice (some ⟨xg, 2, none⟩) (N - 1) (xc - 1))) := by
  have hx : w.heap.size ≤ xg := hnew xg rfl
  have ms : Mod (fun k => k = b) W3 ((W3.setCell ⟨b, 1, none⟩ (.int .u64 ((hiAt AR 0 + 1 : Nat) : Int))).setCell ⟨b, 0, none⟩ (.slice (some ⟨xg, 2, none⟩) (N - 1) (xc - 1))) := ((Mod.refl (fun k => k = b) _).setCell (p := ⟨b, 1, none⟩) (.inl rfl) _).setCell (p := ⟨b, 0, none⟩) (.inl rfl) _
  refine ⟨rfl, .slice (some ⟨xg, 2, none⟩) (N - 1) (xc - 1), AR.drop 1, hiAt AR 0 + 1, ?_, ⟨?_, ?_, ?_⟩, ?_, ?_⟩
  · rw [hA, hN, if_pos hov]
  · exact obj_setCell (obj_setCell ho)
  · exact (rr_tail hr.rr (by omega)).mod ms (fun g o n c e => by cases e; omega)
  · rw [List.length_drop]
    omega
  · intro g o n c e
    cases e
    exact hx
  · exact (hm.mono (fun i hi => hi.elim)).then ms (fun i hi => .inl hi)

set_option maxRecDepth 100000 in
set_option maxHeartbeats 4000000 in
theorem radd_in (rs : Rngs) (fl most b lo hi m1 m2 : Nat) (v : Value) (w : World) (h : RSetAt w b v rs fl most) (hw : WF rs) (hlo : lo < 18446744073709551616) (hhi : hi < 18446744073709551616) (hfl : fl < 18446744073709551616)
    (hmost : 1 ≤ most) (hmost2 : most ≤ 9223372036854775807) (hrl : rs.length < 274877906944) (hin : max lo fl ≤ hi) (h1 : SearchIs rs.length (atLo rs (max lo fl)) m1) (h2 : SearchIs rs.length (pastHi rs hi) m2) :
    Calls Tryz.prog 39 #[.pointer (some ⟨b, 0, none⟩), .int .u64 (lo : Int), .int .u64 (hi : Int)] w (RAddPost rs fl most b hi (max lo fl) m1 m2 w) := by
  have hlen := h.len
  have hwf' := addRs_wf hw hin hhi h1 h2
  have hft := from_le_to hw hin h1 h2
  have hal := addRs_length rs (max lo fl) hi m1 m2 hft h2.1
  obtain ⟨m, hm⟩ : ∃ m, max lo fl = m := ⟨_, rfl⟩
  have hmb : m < 18446744073709551616 := by omega
  have HM := hide hm
  rw [hm] at hin h1 hwf' hal
  rw [hm]
  have RB := hide (fun i => round_below hw hin h1 h2 (i := i))
  have RI := hide (fun i => round_in hw h1 h2 (i := i))
  have RA := hide (fun i => round_above hw hin hhi h1 h2 (i := i))
  have RE := hide (round_end hw hin h1 h2)
  have HAB : Hid ((addR rs m hi m1 m2).1 < 18446744073709551616 ∧ (addR rs m hi m1 m2).2 < 18446744073709551616) := by
    obtain ⟨f1, f2, f3, _⟩ := addR_facts hw hhi h1 h2
    exact ⟨by omega, f3⟩
  have c2 : w.cell? ⟨b, 2, none⟩ = some (.int .i64 (most : Int)) := cell_of_obj h.obj rfl
  have Hc2 := hide c2
  have HAL : Hid ((addRs rs m hi m1 m2).length ≤ rs.length + 1) := by
    show _ ≤ _
    have := h2.1
    omega
  have HWF := hide hwf'
  have H := hide h
  have hm2 := h2.1
  obtain ⟨a, cap, rfl, r1, r2, _⟩ := id h.rd
  have c0 : w.cell? ⟨b, 0, none⟩ = some (.slice a rs.length cap) := cell_of_obj h.obj rfl
  have c1 : w.cell? ⟨b, 1, none⟩ = some (.int .u64 (fl : Int)) := cell_of_obj h.obj rfl
  have hbw := lt_of_cell c0
  have Hc0 := hide c0
  clear h hwf' hal h1 h2
  -- BODY
  -- BODY
  -- BODY
  -- BODY
  -- BODY
  -- BODY
  -- BODY
  -- BODY
  -- BODY
  -- BODY
  -- BODY
  -- BODY
  -- BODY
  by_cases hc : lo < fl
  · have d1 : (lo : Int) < fl := by omega
    have d3 : (fl : Int) = m := by omega
    rw [d3] at c1
    have d2 : ¬ (hi : Int) < m := by omega
    clear hc hm
    go_enter Tryz.func39, Tryz.ntmps39
    go_wp2_with fail
    go_loopw [1, 2, 6, 7, 8] (fun l h o d iv wr => ∃ i : Nat, i ≤ rs.length ∧ iv = .int .i64 i ∧ l = .int .u64 ((stR rs m hi m1 m2 i).1 : Int) ∧ h = .int .u64 ((stR rs m hi m1 m2 i).2 : Int) ∧ (∃ db, d = .bool db ∧ Hid (db = decide (m2 < i))) ∧ OwnR wr o (outR rs m hi m1 m2 i) ∧ (∀ g, o.ownBlock = some g → w.heap.size ≤ g) ∧ Mod NoB w wr) (fun _ _ _ _ iv _ => rs.length - (intOf iv).toNat)
    case atStart =>
      refine ⟨0, Nat.zero_le _, rfl, ?_, ?_, ⟨false, rfl, hide (by simp)⟩, ?_, (fun g hg => by cases hg), Mod.refl _ _⟩
      · rw [st_zero]
      · rw [st_zero]
      · rw [out_zero]
        exact OwnR.nil _
    case round =>
      obtain ⟨i, hil, rfl, rfl, rfl, ⟨db, rfl, hdb⟩, hown, hnew, hmod⟩ := hrel
      have c0' := hmod.cell (a := ⟨b, 0, none⟩) (fun x => x) Hc0.out
      have oS := hide (hmod.obj (fun x => x) H.out.obj)
      have HMOD := hide hmod
      obtain ⟨oa, oc, rfl, _⟩ := own_form hown.1
      obtain ⟨L, hL⟩ : ∃ L, (stR rs m hi m1 m2 i).1 = L := ⟨_, rfl⟩
      obtain ⟨Hh, hH⟩ : ∃ Hh, (stR rs m hi m1 m2 i).2 = Hh := ⟨_, rfl⟩
      obtain ⟨on, hon⟩ : ∃ on, (outR rs m hi m1 m2 i).length = on := ⟨_, rfl⟩
      have hst : stR rs m hi m1 m2 i = (L, Hh) := by rw [← hL, ← hH]
      have HSTI := hide hst
      have HON := hide hon
      rw [hL, hH, hon]
      rw [hon] at hown hnew
      have HOWN := hide hown
      have HNEW := hide hnew
      have hol : on ≤ 549755813889 := by
        rw [← hon]
        have := out_len rs m hi m1 m2 i
        omega
      clear hL hH hown hnew hst hon
      by_cases hlt : i < rs.length
      · obtain ⟨_, _, e, _, _, rr⟩ := H.out.rd.mod hmod (OffS.no _)
        cases e
        obtain ⟨g, o, rfl, x1, x2, x3, x4⟩ := rr i hlt
        obtain ⟨p, hp⟩ : ∃ p, loAt rs i = p := ⟨_, rfl⟩
        obtain ⟨q, hq⟩ : ∃ q, hiAt rs i = q := ⟨_, rfl⟩
        have HP := hide hp
        have HQ := hide hq
        rw [hp] at x1 x3
        rw [hq] at x2 x4
        have mr : Mod NoB wr (wr.alloc (.cells #[.int .u64 (p : Int), .int .u64 (q : Int)] 110)) := (Mod.refl _ _).alloc _
        have hsz : (wr.alloc (.cells #[.int .u64 (p : Int), .int .u64 (q : Int)] 110)).heap.size = wr.heap.size + 1 := by simp
        have HMR := hide mr
        clear rr mr hmod hp hq
        by_cases hA : i < m1
        · obtain ⟨f1, f2, f3, f4, f5, f6⟩ := RB.out i hA
          rw [HSTI.out] at f1
          rw [HQ.out] at f2 f4
          rw [HP.out] at f4
          cases f1
          have hdf : db = false := by rw [hdb.out]; simp; omega
          subst hdf
          have e1 : (q : Int) < m := by omega
          have w1 : IntKind.u64.wrap ((m : Int) - q) = (m : Int) - q := by rw [IntKind.wrap_u64]; omega
          have e2 : (1 : Int) < (m : Int) - q := by omega
          obtain ⟨v3, W3, hr3, own3, gr3, nw3⟩ := rlit_app (wr.alloc (.cells #[.int .u64 (p : Int), .int .u64 (q : Int)] 110)) (.slice oa on oc) (outR rs m hi m1 m2 i) p q (by have := (HOWN.out.mod HMR.out (fun _ _ x => x)).1; rw [HON.out] at this; rw [HON.out]; exact this) (by rw [HON.out]; omega)
          rw [hsz] at hr3
          have HRND := hide (radd_round (pq := (p, q)) HOWN.out HON.out HNEW.out HMOD.out HMR.out x3 x4 own3 gr3 nw3)
          clear hsz own3 gr3 nw3
          go_wp2_with (at_builtin; refine wpList_append_is rfl _ _ _ _ rfl _ _ _ rfl rfl hr3 ?_; clear hr3)
          go_roundw
          case rel => exact ⟨i + 1, by omega, by go_num, by rw [f3], by rw [f3], ⟨false, rfl, hide (by simp; omega)⟩, by rw [f4]; exact HRND.out.1, HRND.out.2.1, HRND.out.2.2⟩
          case measure => simp [intOf]; omega
        by_cases hB : i < m2
        · obtain ⟨f1, f2, f3, f4⟩ := RI.out i (by omega) hB
          rw [HSTI.out, HQ.out] at f1
          rw [HSTI.out, HP.out] at f2
          rw [HSTI.out, HQ.out, HP.out] at f3
          simp only at f1 f2 f3
          have F3 := hide f3
          have F4 := hide f4
          have hdf : db = false := by rw [hdb.out]; simp; omega
          subst hdf
          have hLH : L ≤ Hh := by have := st_le (rs := rs) m1 m2 i hin; rw [HSTI.out] at this; exact this
          have hpq : p ≤ q := by have := hw.1 i hlt; rw [HP.out, HQ.out] at this; exact this.1
          clear f3 f4 hsz
          by_cases k1 : q < L
          · have e1 : (q : Int) < L := by omega
            have w1 : IntKind.u64.wrap ((L : Int) - q) = 1 := by rw [IntKind.wrap_u64]; omega
            by_cases k2 : Hh < p
            · have e2 : (Hh : Int) < p := by omega
              have w2 : IntKind.u64.wrap ((p : Int) - Hh) = 1 := by rw [IntKind.wrap_u64]; omega
              by_cases k3 : p < L
              · have e3 : (p : Int) < L := by omega
                by_cases k4 : Hh < q
                · have e4 : (Hh : Int) < q := by omega
                  omega
                · have e4 : ¬ (Hh : Int) < q := by omega
                  omega
              · have e3 : ¬ (p : Int) < L := by omega
                by_cases k4 : Hh < q
                · have e4 : (Hh : Int) < q := by omega
                  omega
                · have e4 : ¬ (Hh : Int) < q := by omega
                  omega
            · have e2 : ¬ (Hh : Int) < p := by omega
              by_cases k3 : p < L
              · have e3 : (p : Int) < L := by omega
                by_cases k4 : Hh < q
                · have e4 : (Hh : Int) < q := by omega
                  omega
                · have e4 : ¬ (Hh : Int) < q := by omega

                  have HF : Hid (p ≤ q ∧ L ≤ Hh ∧ L ≤ q + 1 ∧ p ≤ Hh + 1) := ⟨hpq, hLH, f1, f2⟩
                  have HKK := hide (And.intro e3 e4)
                  clear hpq hLH f1 f2 k1 k2 k3 k4
                  go_wp2_with fail
                  go_roundw
                  case rel => exact ⟨i + 1, by omega, by go_num, by rw [F3.out]; show Value.int .u64 _ = Value.int .u64 _; congr 1; have := HKK.out; have := HF.out; omega, by rw [F3.out]; show Value.int .u64 _ = Value.int .u64 _; congr 1; have := HKK.out; have := HF.out; omega, ⟨false, rfl, hide (by simp; omega)⟩, by rw [F4.out]; exact HOWN.out.mod HMR.out (fun _ _ x => x), HNEW.out, HMOD.out.trans HMR.out⟩
                  case measure => simp [intOf]; omega
              · have e3 : ¬ (p : Int) < L := by omega
                by_cases k4 : Hh < q
                · have e4 : (Hh : Int) < q := by omega
                  omega
                · have e4 : ¬ (Hh : Int) < q := by omega

                  have HF : Hid (p ≤ q ∧ L ≤ Hh ∧ L ≤ q + 1 ∧ p ≤ Hh + 1) := ⟨hpq, hLH, f1, f2⟩
                  have HKK := hide (And.intro e3 e4)
                  clear hpq hLH f1 f2 k1 k2 k3 k4
                  go_wp2_with fail
                  go_roundw
                  case rel => exact ⟨i + 1, by omega, by go_num, by rw [F3.out]; show Value.int .u64 _ = Value.int .u64 _; congr 1; have := HKK.out; have := HF.out; omega, by rw [F3.out]; show Value.int .u64 _ = Value.int .u64 _; congr 1; have := HKK.out; have := HF.out; omega, ⟨false, rfl, hide (by simp; omega)⟩, by rw [F4.out]; exact HOWN.out.mod HMR.out (fun _ _ x => x), HNEW.out, HMOD.out.trans HMR.out⟩
                  case measure => simp [intOf]; omega
          · have e1 : ¬ (q : Int) < L := by omega
            by_cases k2 : Hh < p
            · have e2 : (Hh : Int) < p := by omega
              have w2 : IntKind.u64.wrap ((p : Int) - Hh) = 1 := by rw [IntKind.wrap_u64]; omega
              by_cases k3 : p < L
              · have e3 : (p : Int) < L := by omega
                by_cases k4 : Hh < q
                · have e4 : (Hh : Int) < q := by omega
                  omega
                · have e4 : ¬ (Hh : Int) < q := by omega
                  omega
              · have e3 : ¬ (p : Int) < L := by omega
                by_cases k4 : Hh < q
                · have e4 : (Hh : Int) < q := by omega

                  have HF : Hid (p ≤ q ∧ L ≤ Hh ∧ L ≤ q + 1 ∧ p ≤ Hh + 1) := ⟨hpq, hLH, f1, f2⟩
                  have HKK := hide (And.intro e3 e4)
                  clear hpq hLH f1 f2 k1 k2 k3 k4
                  go_wp2_with fail
                  go_roundw
                  case rel => exact ⟨i + 1, by omega, by go_num, by rw [F3.out]; show Value.int .u64 _ = Value.int .u64 _; congr 1; have := HKK.out; have := HF.out; omega, by rw [F3.out]; show Value.int .u64 _ = Value.int .u64 _; congr 1; have := HKK.out; have := HF.out; omega, ⟨false, rfl, hide (by simp; omega)⟩, by rw [F4.out]; exact HOWN.out.mod HMR.out (fun _ _ x => x), HNEW.out, HMOD.out.trans HMR.out⟩
                  case measure => simp [intOf]; omega
                · have e4 : ¬ (Hh : Int) < q := by omega

                  have HF : Hid (p ≤ q ∧ L ≤ Hh ∧ L ≤ q + 1 ∧ p ≤ Hh + 1) := ⟨hpq, hLH, f1, f2⟩
                  have HKK := hide (And.intro e3 e4)
                  clear hpq hLH f1 f2 k1 k2 k3 k4
                  go_wp2_with fail
                  go_roundw
                  case rel => exact ⟨i + 1, by omega, by go_num, by rw [F3.out]; show Value.int .u64 _ = Value.int .u64 _; congr 1; have := HKK.out; have := HF.out; omega, by rw [F3.out]; show Value.int .u64 _ = Value.int .u64 _; congr 1; have := HKK.out; have := HF.out; omega, ⟨false, rfl, hide (by simp; omega)⟩, by rw [F4.out]; exact HOWN.out.mod HMR.out (fun _ _ x => x), HNEW.out, HMOD.out.trans HMR.out⟩
                  case measure => simp [intOf]; omega
            · have e2 : ¬ (Hh : Int) < p := by omega
              by_cases k3 : p < L
              · have e3 : (p : Int) < L := by omega
                by_cases k4 : Hh < q
                · have e4 : (Hh : Int) < q := by omega

                  have HF : Hid (p ≤ q ∧ L ≤ Hh ∧ L ≤ q + 1 ∧ p ≤ Hh + 1) := ⟨hpq, hLH, f1, f2⟩
                  have HKK := hide (And.intro e3 e4)
                  clear hpq hLH f1 f2 k1 k2 k3 k4
                  go_wp2_with fail
                  go_roundw
                  case rel => exact ⟨i + 1, by omega, by go_num, by rw [F3.out]; show Value.int .u64 _ = Value.int .u64 _; congr 1; have := HKK.out; have := HF.out; omega, by rw [F3.out]; show Value.int .u64 _ = Value.int .u64 _; congr 1; have := HKK.out; have := HF.out; omega, ⟨false, rfl, hide (by simp; omega)⟩, by rw [F4.out]; exact HOWN.out.mod HMR.out (fun _ _ x => x), HNEW.out, HMOD.out.trans HMR.out⟩
                  case measure => simp [intOf]; omega
                · have e4 : ¬ (Hh : Int) < q := by omega

                  have HF : Hid (p ≤ q ∧ L ≤ Hh ∧ L ≤ q + 1 ∧ p ≤ Hh + 1) := ⟨hpq, hLH, f1, f2⟩
                  have HKK := hide (And.intro e3 e4)
                  clear hpq hLH f1 f2 k1 k2 k3 k4
                  go_wp2_with fail
                  go_roundw
                  case rel => exact ⟨i + 1, by omega, by go_num, by rw [F3.out]; show Value.int .u64 _ = Value.int .u64 _; congr 1; have := HKK.out; have := HF.out; omega, by rw [F3.out]; show Value.int .u64 _ = Value.int .u64 _; congr 1; have := HKK.out; have := HF.out; omega, ⟨false, rfl, hide (by simp; omega)⟩, by rw [F4.out]; exact HOWN.out.mod HMR.out (fun _ _ x => x), HNEW.out, HMOD.out.trans HMR.out⟩
                  case measure => simp [intOf]; omega
              · have e3 : ¬ (p : Int) < L := by omega
                by_cases k4 : Hh < q
                · have e4 : (Hh : Int) < q := by omega

                  have HF : Hid (p ≤ q ∧ L ≤ Hh ∧ L ≤ q + 1 ∧ p ≤ Hh + 1) := ⟨hpq, hLH, f1, f2⟩
                  have HKK := hide (And.intro e3 e4)
                  clear hpq hLH f1 f2 k1 k2 k3 k4
                  go_wp2_with fail
                  go_roundw
                  case rel => exact ⟨i + 1, by omega, by go_num, by rw [F3.out]; show Value.int .u64 _ = Value.int .u64 _; congr 1; have := HKK.out; have := HF.out; omega, by rw [F3.out]; show Value.int .u64 _ = Value.int .u64 _; congr 1; have := HKK.out; have := HF.out; omega, ⟨false, rfl, hide (by simp; omega)⟩, by rw [F4.out]; exact HOWN.out.mod HMR.out (fun _ _ x => x), HNEW.out, HMOD.out.trans HMR.out⟩
                  case measure => simp [intOf]; omega
                · have e4 : ¬ (Hh : Int) < q := by omega

                  have HF : Hid (p ≤ q ∧ L ≤ Hh ∧ L ≤ q + 1 ∧ p ≤ Hh + 1) := ⟨hpq, hLH, f1, f2⟩
                  have HKK := hide (And.intro e3 e4)
                  clear hpq hLH f1 f2 k1 k2 k3 k4
                  go_wp2_with fail
                  go_roundw
                  case rel => exact ⟨i + 1, by omega, by go_num, by rw [F3.out]; show Value.int .u64 _ = Value.int .u64 _; congr 1; have := HKK.out; have := HF.out; omega, by rw [F3.out]; show Value.int .u64 _ = Value.int .u64 _; congr 1; have := HKK.out; have := HF.out; omega, ⟨false, rfl, hide (by simp; omega)⟩, by rw [F4.out]; exact HOWN.out.mod HMR.out (fun _ _ x => x), HNEW.out, HMOD.out.trans HMR.out⟩
                  case measure => simp [intOf]; omega
        · obtain ⟨f1, f2, f3, f4, f5, f6⟩ := RA.out i (by omega) hlt
          rw [HSTI.out] at f1
          rw [← f1] at f2 f3 f4 f5
          rw [HP.out] at f3 f5 f6
          rw [HQ.out] at f5 f6
          simp only at f3 f4
          have hpq : p ≤ q := by have := hw.1 i hlt; rw [HP.out, HQ.out] at this; exact this.1
          have e1 : ¬ (q : Int) < L := by omega
          have e2 : (Hh : Int) < p := by omega
          have w2 : IntKind.u64.wrap ((p : Int) - Hh) = (p : Int) - Hh := by rw [IntKind.wrap_u64]; omega
          have e3 : (1 : Int) < (p : Int) - Hh := by omega
          have hLb : L < 18446744073709551616 ∧ Hh < 18446744073709551616 := by omega
          have F2 := hide f2
          have F5 := hide f5
          have F6 := hide f6
          have HLb := hide hLb
          clear f1 f2 f3 f4 f5 f6 hpq hLb
          by_cases hC : i = m2
          · have hdf : db = false := by rw [hdb.out]; simp; omega
            subst hdf
            obtain ⟨v3, W3, hr3, own3, gr3, nw3⟩ := rlit_app (wr.alloc (.cells #[.int .u64 (p : Int), .int .u64 (q : Int)] 110)) (.slice oa on oc) (outR rs m hi m1 m2 i) L Hh (by have := (HOWN.out.mod HMR.out (fun _ _ x => x)).1; rw [HON.out] at this; rw [HON.out]; exact this) (by rw [HON.out]; omega)
            rw [hsz] at hr3
            have hrnd := radd_round (pq := (L, Hh)) HOWN.out HON.out HNEW.out HMOD.out HMR.out HLb.out.1 HLb.out.2 own3 gr3 nw3
            have hrb : W3.heap[wr.heap.size]? = some (.cells #[.int .u64 (p : Int), .int .u64 (q : Int)] 110 (0, 0)) := by
              rw [gr3.block _ (by rw [hsz]; omega) (fun e => by have := own_ltR HOWN.out.1 _ e.symm; omega)]
              exact heap_alloc_new wr _
            obtain ⟨xa, xc, rfl, _⟩ := own_form hrnd.1.1
            have hlen3 : (outR rs m hi m1 m2 i ++ [(L, Hh)]).length = on + 1 := by rw [List.length_append, HON.out]; rfl
            rw [hlen3] at hr3 hrnd
            obtain ⟨v4, W4, hr4, own4, gr4, nw4⟩ := rlit_app W3 (.slice xa (on + 1) xc) (outR rs m hi m1 m2 i ++ [(L, Hh)]) p q (by have := hrnd.1.1; rw [hlen3] at this ⊢; exact this) (by rw [hlen3]; omega)
            have HRND := hide (radd_round (pq := (p, q)) hrnd.1 hlen3 hrnd.2.1 hrnd.2.2 (Mod.refl _ _) x3 x4 own4 gr4 nw4)
            have z1 : W3.cell? ⟨wr.heap.size, 0, none⟩ = some (.int .u64 (p : Int)) := cell_of_obj hrb rfl
            have z2 : W3.cell? ⟨wr.heap.size, 1, none⟩ = some (.int .u64 (q : Int)) := cell_of_obj hrb rfl
            have HC := hide hC
            clear hsz own3 gr3 nw3 own4 gr4 nw4 hrnd hlen3 hrb hC
            go_wp2_with (at_builtin; first | (refine wpList_append_is rfl _ _ _ _ rfl _ _ _ rfl rfl hr3 ?_; clear hr3) | (refine wpList_append_is rfl _ _ _ _ rfl _ _ _ rfl rfl hr4 ?_; clear hr4))
            go_roundw
            case rel => exact ⟨i + 1, by omega, by go_num, by rw [F2.out], by rw [F2.out], ⟨true, rfl, hide (by have := HC.out; simp; omega)⟩, by rw [F5.out HC.out]; exact HRND.out.1, HRND.out.2.1, HRND.out.2.2⟩
            case measure => simp [intOf]; omega
          · have hdf : db = true := by rw [hdb.out]; simp; omega
            subst hdf
            obtain ⟨v3, W3, hr3, own3, gr3, nw3⟩ := rlit_app (wr.alloc (.cells #[.int .u64 (p : Int), .int .u64 (q : Int)] 110)) (.slice oa on oc) (outR rs m hi m1 m2 i) p q (by have := (HOWN.out.mod HMR.out (fun _ _ x => x)).1; rw [HON.out] at this; rw [HON.out]; exact this) (by rw [HON.out]; omega)
            rw [hsz] at hr3
            have HRND := hide (radd_round (pq := (p, q)) HOWN.out HON.out HNEW.out HMOD.out HMR.out x3 x4 own3 gr3 nw3)
            clear hsz own3 gr3 nw3
            go_wp2_with (at_builtin; refine wpList_append_is rfl _ _ _ _ rfl _ _ _ rfl rfl hr3 ?_; clear hr3)
            go_roundw
            case rel => exact ⟨i + 1, by omega, by go_num, by rw [F2.out], by rw [F2.out], ⟨true, rfl, hide (by simp; omega)⟩, by rw [F6.out (by omega)]; exact HRND.out.1, HRND.out.2.1, HRND.out.2.2⟩
            case measure => simp [intOf]; omega
      · have hin' : i = rs.length := by omega
        by_cases hC : rs.length ≤ m2
        · have hdf : db = false := by rw [hdb.out]; simp; omega
          subst hdf
          obtain ⟨g1, g2⟩ := RE.out.1 hC
          rw [← hin', HSTI.out] at g2
          rw [← hin', ← g2] at g1
          have hLb : L < 18446744073709551616 ∧ Hh < 18446744073709551616 := by have := HAB.out; rw [← g2] at this; exact this
          obtain ⟨v3, W3, hr3, own3, gr3, nw3⟩ := rlit_app wr (.slice oa on oc) (outR rs m hi m1 m2 i) L Hh (by rw [HON.out]; have := HOWN.out.1; rw [HON.out] at this; exact this) (by rw [HON.out]; omega)
          have hrnd := radd_round (pq := (L, Hh)) HOWN.out HON.out HNEW.out HMOD.out (Mod.refl _ _) hLb.1 hLb.2 own3 gr3 nw3
          rw [g1] at hrnd
          have HRND := hide hrnd
          obtain ⟨xa, xc, rfl, hxn, _, hxa⟩ := own_form hrnd.1.1
          clear own3 gr3 nw3 hrnd g1 g2 hLb
          have HIN := hide hin'
          have HC := hide hC
          clear hin' hC
          obtain ⟨N, hN⟩ : ∃ N, (addRs rs m hi m1 m2).length = N := ⟨_, rfl⟩
          have HN := hide hN
          rw [hN] at hxa hxn HRND
          rw [hN] at hr3
          have hNp : 0 < N := by rw [← hN]; exact addRs_pos rs m hi m1 m2
          obtain ⟨xg, rfl⟩ := hxa hNp
          have c2' := HRND.out.2.2.cell (a := ⟨b, 2, none⟩) (fun x => x) Hc2.out
          have oB : W3.heap[b]? = some (.cells #[.slice a rs.length cap, .int .u64 (fl : Int), .int .i64 (most : Int)] 106 (0, 0)) := HRND.out.2.2.obj (fun x => x) H.out.obj
          have hz0 : W3.frozen? ⟨b, 0, none⟩ = false := frozen_of_obj oB
          have hz1 : W3.frozen? ⟨b, 1, none⟩ = false := frozen_of_obj oB
          have y0 : W3.cell? ⟨b, 0, none⟩ = some (.slice a rs.length cap) := cell_of_obj oB rfl
          have y1 : W3.cell? ⟨b, 1, none⟩ = some (.int .u64 (fl : Int)) := cell_of_obj oB rfl
          have HOB := hide oB
          clear hN oB
          have hNl : N ≤ 274877906944 := by
            have := HAL.out
            have := HN.out
            omega
          by_cases hov : most < N
          · have dov : (most : Int) < N := by omega
            obtain ⟨h0, hh0⟩ : ∃ h0, hiAt (addRs rs m hi m1 m2) 0 = h0 := ⟨_, rfl⟩
            have hw0 : IntKind.u64.wrap ((h0 : Int) + 1) = (h0 : Int) + 1 := by
              have q1 := HWF.out.2 0 1 (by omega) (by have := HN.out; omega)
              have q2 := HWF.out.1 1 (by have := HN.out; omega)
              rw [hh0] at q1
              rw [IntKind.wrap_u64]
              omega
            have x0 : W3.cell? ⟨xg, 1, none⟩ = some (.int .u64 (h0 : Int)) := by
              obtain ⟨_, _, e, _, _, q⟩ := HRND.out.1.rr
              obtain ⟨g', o', e2, _, q2, _⟩ := q 0 (by have := HN.out; omega)
              cases e
              cases e2
              rw [hh0] at q2
              exact q2
            have HH0 := hide hh0
            have HOV := hide hov
            clear hov hh0
            have hxl : (1 : Int) ≤ N := by omega
            have hxc : 2 ≤ xc := by have := hxn; omega
            go_wp2_with (at_builtin; refine wpList_append_is rfl _ _ _ _ rfl _ _ _ rfl rfl hr3 ?_; clear hr3)
            all_goals first
              | (exfalso; omega)
              | (refine bodyPost_end (results_none rfl _ _ _) rfl ?_
                 have := radd_fin1 (rs := rs) (m := m) (hi := hi) (m1 := m1) (m2 := m2) rfl HN.out hNl HRND.out.1 HRND.out.2.1 HRND.out.2.2 hbw HOB.out HOV.out
                 rw [HH0.out] at this
                 exact this)
          · have dov : ¬ (most : Int) < N := by omega
            have HOV := hide hov
            clear hov
            go_wp2_with (at_builtin; refine wpList_append_is rfl _ _ _ _ rfl _ _ _ rfl rfl hr3 ?_; clear hr3)
            refine bodyPost_end (results_none rfl _ _ _) rfl ?_
            exact radd_fin0 rfl HN.out hNl HRND.out.1 HRND.out.2.1 HRND.out.2.2 hbw HOB.out HOV.out
        · have hdf : db = true := by rw [hdb.out]; simp; omega
          subst hdf
          have g1 := RE.out.2 (by omega)
          rw [← hin'] at g1
          rw [g1] at HOWN HON
          have HRND : Hid (OwnR wr (.slice oa on oc) (addRs rs m hi m1 m2) ∧ (∀ g, (Value.slice oa on oc).ownBlock = some g → w.heap.size ≤ g) ∧ Mod NoB w wr) := ⟨HOWN.out, HNEW.out, HMOD.out⟩
          obtain ⟨xa, xc, e0, hxn, _, hxa⟩ := own_form HOWN.out.1
          rw [HON.out] at e0 hxn hxa
          cases e0
          have HIN := hide hin'
          have HC := hide hC
          clear hin' hC
          have hN : (addRs rs m hi m1 m2).length = on := HON.out
          have HN := hide hN
          have hNp : 0 < on := by rw [← hN]; exact addRs_pos rs m hi m1 m2
          obtain ⟨xg, rfl⟩ := hxa hNp
          have c2' := HRND.out.2.2.cell (a := ⟨b, 2, none⟩) (fun x => x) Hc2.out
          have oB : wr.heap[b]? = some (.cells #[.slice a rs.length cap, .int .u64 (fl : Int), .int .i64 (most : Int)] 106 (0, 0)) := HRND.out.2.2.obj (fun x => x) H.out.obj
          have hz0 : wr.frozen? ⟨b, 0, none⟩ = false := frozen_of_obj oB
          have hz1 : wr.frozen? ⟨b, 1, none⟩ = false := frozen_of_obj oB
          have y0 : wr.cell? ⟨b, 0, none⟩ = some (.slice a rs.length cap) := cell_of_obj oB rfl
          have y1 : wr.cell? ⟨b, 1, none⟩ = some (.int .u64 (fl : Int)) := cell_of_obj oB rfl
          have HOB := hide oB
          clear hN oB
          have hNl : on ≤ 274877906944 := by
            have := HAL.out
            have := HN.out
            omega
          by_cases hov : most < on
          · have dov : (most : Int) < on := by omega
            obtain ⟨h0, hh0⟩ : ∃ h0, hiAt (addRs rs m hi m1 m2) 0 = h0 := ⟨_, rfl⟩
            have hw0 : IntKind.u64.wrap ((h0 : Int) + 1) = (h0 : Int) + 1 := by
              have q1 := HWF.out.2 0 1 (by omega) (by have := HN.out; omega)
              have q2 := HWF.out.1 1 (by have := HN.out; omega)
              rw [hh0] at q1
              rw [IntKind.wrap_u64]
              omega
            have x0 : wr.cell? ⟨xg, 1, none⟩ = some (.int .u64 (h0 : Int)) := by
              obtain ⟨_, _, e, _, _, q⟩ := HRND.out.1.rr
              obtain ⟨g', o', e2, _, q2, _⟩ := q 0 (by have := HN.out; omega)
              cases e
              cases e2
              rw [hh0] at q2
              exact q2
            have HH0 := hide hh0
            have HOV := hide hov
            clear hov hh0
            have hxl : (1 : Int) ≤ on := by omega
            have hxc : 2 ≤ oc := by have := hxn; omega
            go_wp2_with fail
            all_goals first
              | (exfalso; omega)
              | (refine bodyPost_end (results_none rfl _ _ _) rfl ?_
                 have := radd_fin1 (rs := rs) (m := m) (hi := hi) (m1 := m1) (m2 := m2) rfl HN.out hNl HRND.out.1 HRND.out.2.1 HRND.out.2.2 hbw HOB.out HOV.out
                 rw [HH0.out] at this
                 exact this)
          · have dov : ¬ (most : Int) < on := by omega
            have HOV := hide hov
            clear hov
            go_wp2_with fail
            refine bodyPost_end (results_none rfl _ _ _) rfl ?_
            exact radd_fin0 rfl HN.out hNl HRND.out.1 HRND.out.2.1 HRND.out.2.2 hbw HOB.out HOV.out
  · have e : m = lo := by have := HM.out; omega
    subst e
    have d1 : ¬ (m : Int) < fl := by omega
    have d2 : ¬ (hi : Int) < m := by omega
    clear hc hm
    go_enter Tryz.func39, Tryz.ntmps39
    go_wp2_with fail
    go_loopw [1, 2, 6, 7, 8] (fun l h o d iv wr => ∃ i : Nat, i ≤ rs.length ∧ iv = .int .i64 i ∧ l = .int .u64 ((stR rs m hi m1 m2 i).1 : Int) ∧ h = .int .u64 ((stR rs m hi m1 m2 i).2 : Int) ∧ (∃ db, d = .bool db ∧ Hid (db = decide (m2 < i))) ∧ OwnR wr o (outR rs m hi m1 m2 i) ∧ (∀ g, o.ownBlock = some g → w.heap.size ≤ g) ∧ Mod NoB w wr) (fun _ _ _ _ iv _ => rs.length - (intOf iv).toNat)
    case atStart =>
      refine ⟨0, Nat.zero_le _, rfl, ?_, ?_, ⟨false, rfl, hide (by simp)⟩, ?_, (fun g hg => by cases hg), Mod.refl _ _⟩
      · rw [st_zero]
      · rw [st_zero]
      · rw [out_zero]
        exact OwnR.nil _
    case round =>
      obtain ⟨i, hil, rfl, rfl, rfl, ⟨db, rfl, hdb⟩, hown, hnew, hmod⟩ := hrel
      have c0' := hmod.cell (a := ⟨b, 0, none⟩) (fun x => x) Hc0.out
      have oS := hide (hmod.obj (fun x => x) H.out.obj)
      have HMOD := hide hmod
      obtain ⟨oa, oc, rfl, _⟩ := own_form hown.1
      obtain ⟨L, hL⟩ : ∃ L, (stR rs m hi m1 m2 i).1 = L := ⟨_, rfl⟩
      obtain ⟨Hh, hH⟩ : ∃ Hh, (stR rs m hi m1 m2 i).2 = Hh := ⟨_, rfl⟩
      obtain ⟨on, hon⟩ : ∃ on, (outR rs m hi m1 m2 i).length = on := ⟨_, rfl⟩
      have hst : stR rs m hi m1 m2 i = (L, Hh) := by rw [← hL, ← hH]
      have HSTI := hide hst
      have HON := hide hon
      rw [hL, hH, hon]
      rw [hon] at hown hnew
      have HOWN := hide hown
      have HNEW := hide hnew
      have hol : on ≤ 549755813889 := by
        rw [← hon]
        have := out_len rs m hi m1 m2 i
        omega
      clear hL hH hown hnew hst hon
      by_cases hlt : i < rs.length
      · obtain ⟨_, _, e, _, _, rr⟩ := H.out.rd.mod hmod (OffS.no _)
        cases e
        obtain ⟨g, o, rfl, x1, x2, x3, x4⟩ := rr i hlt
        obtain ⟨p, hp⟩ : ∃ p, loAt rs i = p := ⟨_, rfl⟩
        obtain ⟨q, hq⟩ : ∃ q, hiAt rs i = q := ⟨_, rfl⟩
        have HP := hide hp
        have HQ := hide hq
        rw [hp] at x1 x3
        rw [hq] at x2 x4
        have mr : Mod NoB wr (wr.alloc (.cells #[.int .u64 (p : Int), .int .u64 (q : Int)] 110)) := (Mod.refl _ _).alloc _
        have hsz : (wr.alloc (.cells #[.int .u64 (p : Int), .int .u64 (q : Int)] 110)).heap.size = wr.heap.size + 1 := by simp
        have HMR := hide mr
        clear rr mr hmod hp hq
        by_cases hA : i < m1
        · obtain ⟨f1, f2, f3, f4, f5, f6⟩ := RB.out i hA
          rw [HSTI.out] at f1
          rw [HQ.out] at f2 f4
          rw [HP.out] at f4
          cases f1
          have hdf : db = false := by rw [hdb.out]; simp; omega
          subst hdf
          have e1 : (q : Int) < m := by omega
          have w1 : IntKind.u64.wrap ((m : Int) - q) = (m : Int) - q := by rw [IntKind.wrap_u64]; omega
          have e2 : (1 : Int) < (m : Int) - q := by omega
          obtain ⟨v3, W3, hr3, own3, gr3, nw3⟩ := rlit_app (wr.alloc (.cells #[.int .u64 (p : Int), .int .u64 (q : Int)] 110)) (.slice oa on oc) (outR rs m hi m1 m2 i) p q (by have := (HOWN.out.mod HMR.out (fun _ _ x => x)).1; rw [HON.out] at this; rw [HON.out]; exact this) (by rw [HON.out]; omega)
          rw [hsz] at hr3
          have HRND := hide (radd_round (pq := (p, q)) HOWN.out HON.out HNEW.out HMOD.out HMR.out x3 x4 own3 gr3 nw3)
          clear hsz own3 gr3 nw3
          go_wp2_with (at_builtin; refine wpList_append_is rfl _ _ _ _ rfl _ _ _ rfl rfl hr3 ?_; clear hr3)
          go_roundw
          case rel => exact ⟨i + 1, by omega, by go_num, by rw [f3], by rw [f3], ⟨false, rfl, hide (by simp; omega)⟩, by rw [f4]; exact HRND.out.1, HRND.out.2.1, HRND.out.2.2⟩
          case measure => simp [intOf]; omega
        by_cases hB : i < m2
        · obtain ⟨f1, f2, f3, f4⟩ := RI.out i (by omega) hB
          rw [HSTI.out, HQ.out] at f1
          rw [HSTI.out, HP.out] at f2
          rw [HSTI.out, HQ.out, HP.out] at f3
          simp only at f1 f2 f3
          have F3 := hide f3
          have F4 := hide f4
          have hdf : db = false := by rw [hdb.out]; simp; omega
          subst hdf
          have hLH : L ≤ Hh := by have := st_le (rs := rs) m1 m2 i hin; rw [HSTI.out] at this; exact this
          have hpq : p ≤ q := by have := hw.1 i hlt; rw [HP.out, HQ.out] at this; exact this.1
          clear f3 f4 hsz
          by_cases k1 : q < L
          · have e1 : (q : Int) < L := by omega
            have w1 : IntKind.u64.wrap ((L : Int) - q) = 1 := by rw [IntKind.wrap_u64]; omega
            by_cases k2 : Hh < p
            · have e2 : (Hh : Int) < p := by omega
              have w2 : IntKind.u64.wrap ((p : Int) - Hh) = 1 := by rw [IntKind.wrap_u64]; omega
              by_cases k3 : p < L
              · have e3 : (p : Int) < L := by omega
                by_cases k4 : Hh < q
                · have e4 : (Hh : Int) < q := by omega
                  omega
                · have e4 : ¬ (Hh : Int) < q := by omega
                  omega
              · have e3 : ¬ (p : Int) < L := by omega
                by_cases k4 : Hh < q
                · have e4 : (Hh : Int) < q := by omega
                  omega
                · have e4 : ¬ (Hh : Int) < q := by omega
                  omega
            · have e2 : ¬ (Hh : Int) < p := by omega
              by_cases k3 : p < L
              · have e3 : (p : Int) < L := by omega
                by_cases k4 : Hh < q
                · have e4 : (Hh : Int) < q := by omega
                  omega
                · have e4 : ¬ (Hh : Int) < q := by omega

                  have HF : Hid (p ≤ q ∧ L ≤ Hh ∧ L ≤ q + 1 ∧ p ≤ Hh + 1) := ⟨hpq, hLH, f1, f2⟩
                  have HKK := hide (And.intro e3 e4)
                  clear hpq hLH f1 f2 k1 k2 k3 k4
                  go_wp2_with fail
                  go_roundw
                  case rel => exact ⟨i + 1, by omega, by go_num, by rw [F3.out]; show Value.int .u64 _ = Value.int .u64 _; congr 1; have := HKK.out; have := HF.out; omega, by rw [F3.out]; show Value.int .u64 _ = Value.int .u64 _; congr 1; have := HKK.out; have := HF.out; omega, ⟨false, rfl, hide (by simp; omega)⟩, by rw [F4.out]; exact HOWN.out.mod HMR.out (fun _ _ x => x), HNEW.out, HMOD.out.trans HMR.out⟩
                  case measure => simp [intOf]; omega
              · have e3 : ¬ (p : Int) < L := by omega
                by_cases k4 : Hh < q
                · have e4 : (Hh : Int) < q := by omega
                  omega
                · have e4 : ¬ (Hh : Int) < q := by omega

                  have HF : Hid (p ≤ q ∧ L ≤ Hh ∧ L ≤ q + 1 ∧ p ≤ Hh + 1) := ⟨hpq, hLH, f1, f2⟩
                  have HKK := hide (And.intro e3 e4)
                  clear hpq hLH f1 f2 k1 k2 k3 k4
                  go_wp2_with fail
                  go_roundw
                  case rel => exact ⟨i + 1, by omega, by go_num, by rw [F3.out]; show Value.int .u64 _ = Value.int .u64 _; congr 1; have := HKK.out; have := HF.out; omega, by rw [F3.out]; show Value.int .u64 _ = Value.int .u64 _; congr 1; have := HKK.out; have := HF.out; omega, ⟨false, rfl, hide (by simp; omega)⟩, by rw [F4.out]; exact HOWN.out.mod HMR.out (fun _ _ x => x), HNEW.out, HMOD.out.trans HMR.out⟩
                  case measure => simp [intOf]; omega
          · have e1 : ¬ (q : Int) < L := by omega
            by_cases k2 : Hh < p
            · have e2 : (Hh : Int) < p := by omega
              have w2 : IntKind.u64.wrap ((p : Int) - Hh) = 1 := by rw [IntKind.wrap_u64]; omega
              by_cases k3 : p < L
              · have e3 : (p : Int) < L := by omega
                by_cases k4 : Hh < q
                · have e4 : (Hh : Int) < q := by omega
                  omega
                · have e4 : ¬ (Hh : Int) < q := by omega
                  omega
              · have e3 : ¬ (p : Int) < L := by omega
                by_cases k4 : Hh < q
                · have e4 : (Hh : Int) < q := by omega

                  have HF : Hid (p ≤ q ∧ L ≤ Hh ∧ L ≤ q + 1 ∧ p ≤ Hh + 1) := ⟨hpq, hLH, f1, f2⟩
                  have HKK := hide (And.intro e3 e4)
                  clear hpq hLH f1 f2 k1 k2 k3 k4
                  go_wp2_with fail
                  go_roundw
                  case rel => exact ⟨i + 1, by omega, by go_num, by rw [F3.out]; show Value.int .u64 _ = Value.int .u64 _; congr 1; have := HKK.out; have := HF.out; omega, by rw [F3.out]; show Value.int .u64 _ = Value.int .u64 _; congr 1; have := HKK.out; have := HF.out; omega, ⟨false, rfl, hide (by simp; omega)⟩, by rw [F4.out]; exact HOWN.out.mod HMR.out (fun _ _ x => x), HNEW.out, HMOD.out.trans HMR.out⟩
                  case measure => simp [intOf]; omega
                · have e4 : ¬ (Hh : Int) < q := by omega

                  have HF : Hid (p ≤ q ∧ L ≤ Hh ∧ L ≤ q + 1 ∧ p ≤ Hh + 1) := ⟨hpq, hLH, f1, f2⟩
                  have HKK := hide (And.intro e3 e4)
                  clear hpq hLH f1 f2 k1 k2 k3 k4
                  go_wp2_with fail
                  go_roundw
                  case rel => exact ⟨i + 1, by omega, by go_num, by rw [F3.out]; show Value.int .u64 _ = Value.int .u64 _; congr 1; have := HKK.out; have := HF.out; omega, by rw [F3.out]; show Value.int .u64 _ = Value.int .u64 _; congr 1; have := HKK.out; have := HF.out; omega, ⟨false, rfl, hide (by simp; omega)⟩, by rw [F4.out]; exact HOWN.out.mod HMR.out (fun _ _ x => x), HNEW.out, HMOD.out.trans HMR.out⟩
                  case measure => simp [intOf]; omega
            · have e2 : ¬ (Hh : Int) < p := by omega
              by_cases k3 : p < L
              · have e3 : (p : Int) < L := by omega
                by_cases k4 : Hh < q
                · have e4 : (Hh : Int) < q := by omega

                  have HF : Hid (p ≤ q ∧ L ≤ Hh ∧ L ≤ q + 1 ∧ p ≤ Hh + 1) := ⟨hpq, hLH, f1, f2⟩
                  have HKK := hide (And.intro e3 e4)
                  clear hpq hLH f1 f2 k1 k2 k3 k4
                  go_wp2_with fail
                  go_roundw
                  case rel => exact ⟨i + 1, by omega, by go_num, by rw [F3.out]; show Value.int .u64 _ = Value.int .u64 _; congr 1; have := HKK.out; have := HF.out; omega, by rw [F3.out]; show Value.int .u64 _ = Value.int .u64 _; congr 1; have := HKK.out; have := HF.out; omega, ⟨false, rfl, hide (by simp; omega)⟩, by rw [F4.out]; exact HOWN.out.mod HMR.out (fun _ _ x => x), HNEW.out, HMOD.out.trans HMR.out⟩
                  case measure => simp [intOf]; omega
                · have e4 : ¬ (Hh : Int) < q := by omega

                  have HF : Hid (p ≤ q ∧ L ≤ Hh ∧ L ≤ q + 1 ∧ p ≤ Hh + 1) := ⟨hpq, hLH, f1, f2⟩
                  have HKK := hide (And.intro e3 e4)
                  clear hpq hLH f1 f2 k1 k2 k3 k4
                  go_wp2_with fail
                  go_roundw
                  case rel => exact ⟨i + 1, by omega, by go_num, by rw [F3.out]; show Value.int .u64 _ = Value.int .u64 _; congr 1; have := HKK.out; have := HF.out; omega, by rw [F3.out]; show Value.int .u64 _ = Value.int .u64 _; congr 1; have := HKK.out; have := HF.out; omega, ⟨false, rfl, hide (by simp; omega)⟩, by rw [F4.out]; exact HOWN.out.mod HMR.out (fun _ _ x => x), HNEW.out, HMOD.out.trans HMR.out⟩
                  case measure => simp [intOf]; omega
              · have e3 : ¬ (p : Int) < L := by omega
                by_cases k4 : Hh < q
                · have e4 : (Hh : Int) < q := by omega

                  have HF : Hid (p ≤ q ∧ L ≤ Hh ∧ L ≤ q + 1 ∧ p ≤ Hh + 1) := ⟨hpq, hLH, f1, f2⟩
                  have HKK := hide (And.intro e3 e4)
                  clear hpq hLH f1 f2 k1 k2 k3 k4
                  go_wp2_with fail
                  go_roundw
                  case rel => exact ⟨i + 1, by omega, by go_num, by rw [F3.out]; show Value.int .u64 _ = Value.int .u64 _; congr 1; have := HKK.out; have := HF.out; omega, by rw [F3.out]; show Value.int .u64 _ = Value.int .u64 _; congr 1; have := HKK.out; have := HF.out; omega, ⟨false, rfl, hide (by simp; omega)⟩, by rw [F4.out]; exact HOWN.out.mod HMR.out (fun _ _ x => x), HNEW.out, HMOD.out.trans HMR.out⟩
                  case measure => simp [intOf]; omega
                · have e4 : ¬ (Hh : Int) < q := by omega

                  have HF : Hid (p ≤ q ∧ L ≤ Hh ∧ L ≤ q + 1 ∧ p ≤ Hh + 1) := ⟨hpq, hLH, f1, f2⟩
                  have HKK := hide (And.intro e3 e4)
                  clear hpq hLH f1 f2 k1 k2 k3 k4
                  go_wp2_with fail
                  go_roundw
                  case rel => exact ⟨i + 1, by omega, by go_num, by rw [F3.out]; show Value.int .u64 _ = Value.int .u64 _; congr 1; have := HKK.out; have := HF.out; omega, by rw [F3.out]; show Value.int .u64 _ = Value.int .u64 _; congr 1; have := HKK.out; have := HF.out; omega, ⟨false, rfl, hide (by simp; omega)⟩, by rw [F4.out]; exact HOWN.out.mod HMR.out (fun _ _ x => x), HNEW.out, HMOD.out.trans HMR.out⟩
                  case measure => simp [intOf]; omega
        · obtain ⟨f1, f2, f3, f4, f5, f6⟩ := RA.out i (by omega) hlt
          rw [HSTI.out] at f1
          rw [← f1] at f2 f3 f4 f5
          rw [HP.out] at f3 f5 f6
          rw [HQ.out] at f5 f6
          simp only at f3 f4
          have hpq : p ≤ q := by have := hw.1 i hlt; rw [HP.out, HQ.out] at this; exact this.1
          have e1 : ¬ (q : Int) < L := by omega
          have e2 : (Hh : Int) < p := by omega
          have w2 : IntKind.u64.wrap ((p : Int) - Hh) = (p : Int) - Hh := by rw [IntKind.wrap_u64]; omega
          have e3 : (1 : Int) < (p : Int) - Hh := by omega
          have hLb : L < 18446744073709551616 ∧ Hh < 18446744073709551616 := by omega
          have F2 := hide f2
          have F5 := hide f5
          have F6 := hide f6
          have HLb := hide hLb
          clear f1 f2 f3 f4 f5 f6 hpq hLb
          by_cases hC : i = m2
          · have hdf : db = false := by rw [hdb.out]; simp; omega
            subst hdf
            obtain ⟨v3, W3, hr3, own3, gr3, nw3⟩ := rlit_app (wr.alloc (.cells #[.int .u64 (p : Int), .int .u64 (q : Int)] 110)) (.slice oa on oc) (outR rs m hi m1 m2 i) L Hh (by have := (HOWN.out.mod HMR.out (fun _ _ x => x)).1; rw [HON.out] at this; rw [HON.out]; exact this) (by rw [HON.out]; omega)
            rw [hsz] at hr3
            have hrnd := radd_round (pq := (L, Hh)) HOWN.out HON.out HNEW.out HMOD.out HMR.out HLb.out.1 HLb.out.2 own3 gr3 nw3
            have hrb : W3.heap[wr.heap.size]? = some (.cells #[.int .u64 (p : Int), .int .u64 (q : Int)] 110 (0, 0)) := by
              rw [gr3.block _ (by rw [hsz]; omega) (fun e => by have := own_ltR HOWN.out.1 _ e.symm; omega)]
              exact heap_alloc_new wr _
            obtain ⟨xa, xc, rfl, _⟩ := own_form hrnd.1.1
            have hlen3 : (outR rs m hi m1 m2 i ++ [(L, Hh)]).length = on + 1 := by rw [List.length_append, HON.out]; rfl
            rw [hlen3] at hr3 hrnd
            obtain ⟨v4, W4, hr4, own4, gr4, nw4⟩ := rlit_app W3 (.slice xa (on + 1) xc) (outR rs m hi m1 m2 i ++ [(L, Hh)]) p q (by have := hrnd.1.1; rw [hlen3] at this ⊢; exact this) (by rw [hlen3]; omega)
            have HRND := hide (radd_round (pq := (p, q)) hrnd.1 hlen3 hrnd.2.1 hrnd.2.2 (Mod.refl _ _) x3 x4 own4 gr4 nw4)
            have z1 : W3.cell? ⟨wr.heap.size, 0, none⟩ = some (.int .u64 (p : Int)) := cell_of_obj hrb rfl
            have z2 : W3.cell? ⟨wr.heap.size, 1, none⟩ = some (.int .u64 (q : Int)) := cell_of_obj hrb rfl
            have HC := hide hC
            clear hsz own3 gr3 nw3 own4 gr4 nw4 hrnd hlen3 hrb hC
            go_wp2_with (at_builtin; first | (refine wpList_append_is rfl _ _ _ _ rfl _ _ _ rfl rfl hr3 ?_; clear hr3) | (refine wpList_append_is rfl _ _ _ _ rfl _ _ _ rfl rfl hr4 ?_; clear hr4))
            go_roundw
            case rel => exact ⟨i + 1, by omega, by go_num, by rw [F2.out], by rw [F2.out], ⟨true, rfl, hide (by have := HC.out; simp; omega)⟩, by rw [F5.out HC.out]; exact HRND.out.1, HRND.out.2.1, HRND.out.2.2⟩
            case measure => simp [intOf]; omega
          · have hdf : db = true := by rw [hdb.out]; simp; omega
            subst hdf
            obtain ⟨v3, W3, hr3, own3, gr3, nw3⟩ := rlit_app (wr.alloc (.cells #[.int .u64 (p : Int), .int .u64 (q : Int)] 110)) (.slice oa on oc) (outR rs m hi m1 m2 i) p q (by have := (HOWN.out.mod HMR.out (fun _ _ x => x)).1; rw [HON.out] at this; rw [HON.out]; exact this) (by rw [HON.out]; omega)
            rw [hsz] at hr3
            have HRND := hide (radd_round (pq := (p, q)) HOWN.out HON.out HNEW.out HMOD.out HMR.out x3 x4 own3 gr3 nw3)
            clear hsz own3 gr3 nw3
            go_wp2_with (at_builtin; refine wpList_append_is rfl _ _ _ _ rfl _ _ _ rfl rfl hr3 ?_; clear hr3)
            go_roundw
            case rel => exact ⟨i + 1, by omega, by go_num, by rw [F2.out], by rw [F2.out], ⟨true, rfl, hide (by simp; omega)⟩, by rw [F6.out (by omega)]; exact HRND.out.1, HRND.out.2.1, HRND.out.2.2⟩
            case measure => simp [intOf]; omega
      · have hin' : i = rs.length := by omega
        by_cases hC : rs.length ≤ m2
        · have hdf : db = false := by rw [hdb.out]; simp; omega
          subst hdf
          obtain ⟨g1, g2⟩ := RE.out.1 hC
          rw [← hin', HSTI.out] at g2
          rw [← hin', ← g2] at g1
          have hLb : L < 18446744073709551616 ∧ Hh < 18446744073709551616 := by have := HAB.out; rw [← g2] at this; exact this
          obtain ⟨v3, W3, hr3, own3, gr3, nw3⟩ := rlit_app wr (.slice oa on oc) (outR rs m hi m1 m2 i) L Hh (by rw [HON.out]; have := HOWN.out.1; rw [HON.out] at this; exact this) (by rw [HON.out]; omega)
          have hrnd := radd_round (pq := (L, Hh)) HOWN.out HON.out HNEW.out HMOD.out (Mod.refl _ _) hLb.1 hLb.2 own3 gr3 nw3
          rw [g1] at hrnd
          have HRND := hide hrnd
          obtain ⟨xa, xc, rfl, hxn, _, hxa⟩ := own_form hrnd.1.1
          clear own3 gr3 nw3 hrnd g1 g2 hLb
          have HIN := hide hin'
          have HC := hide hC
          clear hin' hC
          obtain ⟨N, hN⟩ : ∃ N, (addRs rs m hi m1 m2).length = N := ⟨_, rfl⟩
          have HN := hide hN
          rw [hN] at hxa hxn HRND
          rw [hN] at hr3
          have hNp : 0 < N := by rw [← hN]; exact addRs_pos rs m hi m1 m2
          obtain ⟨xg, rfl⟩ := hxa hNp
          have c2' := HRND.out.2.2.cell (a := ⟨b, 2, none⟩) (fun x => x) Hc2.out
          have oB : W3.heap[b]? = some (.cells #[.slice a rs.length cap, .int .u64 (fl : Int), .int .i64 (most : Int)] 106 (0, 0)) := HRND.out.2.2.obj (fun x => x) H.out.obj
          have hz0 : W3.frozen? ⟨b, 0, none⟩ = false := frozen_of_obj oB
          have hz1 : W3.frozen? ⟨b, 1, none⟩ = false := frozen_of_obj oB
          have y0 : W3.cell? ⟨b, 0, none⟩ = some (.slice a rs.length cap) := cell_of_obj oB rfl
          have y1 : W3.cell? ⟨b, 1, none⟩ = some (.int .u64 (fl : Int)) := cell_of_obj oB rfl
          have HOB := hide oB
          clear hN oB
          have hNl : N ≤ 274877906944 := by
            have := HAL.out
            have := HN.out
            omega
          by_cases hov : most < N
          · have dov : (most : Int) < N := by omega
            obtain ⟨h0, hh0⟩ : ∃ h0, hiAt (addRs rs m hi m1 m2) 0 = h0 := ⟨_, rfl⟩
            have hw0 : IntKind.u64.wrap ((h0 : Int) + 1) = (h0 : Int) + 1 := by
              have q1 := HWF.out.2 0 1 (by omega) (by have := HN.out; omega)
              have q2 := HWF.out.1 1 (by have := HN.out; omega)
              rw [hh0] at q1
              rw [IntKind.wrap_u64]
              omega
            have x0 : W3.cell? ⟨xg, 1, none⟩ = some (.int .u64 (h0 : Int)) := by
              obtain ⟨_, _, e, _, _, q⟩ := HRND.out.1.rr
              obtain ⟨g', o', e2, _, q2, _⟩ := q 0 (by have := HN.out; omega)
              cases e
              cases e2
              rw [hh0] at q2
              exact q2
            have HH0 := hide hh0
            have HOV := hide hov
            clear hov hh0
            have hxl : (1 : Int) ≤ N := by omega
            have hxc : 2 ≤ xc := by have := hxn; omega
            go_wp2_with (at_builtin; refine wpList_append_is rfl _ _ _ _ rfl _ _ _ rfl rfl hr3 ?_; clear hr3)
            all_goals first
              | (exfalso; omega)
              | (refine bodyPost_end (results_none rfl _ _ _) rfl ?_
                 have := radd_fin1 (rs := rs) (m := m) (hi := hi) (m1 := m1) (m2 := m2) rfl HN.out hNl HRND.out.1 HRND.out.2.1 HRND.out.2.2 hbw HOB.out HOV.out
                 rw [HH0.out] at this
                 exact this)
          · have dov : ¬ (most : Int) < N := by omega
            have HOV := hide hov
            clear hov
            go_wp2_with (at_builtin; refine wpList_append_is rfl _ _ _ _ rfl _ _ _ rfl rfl hr3 ?_; clear hr3)
            refine bodyPost_end (results_none rfl _ _ _) rfl ?_
            exact radd_fin0 rfl HN.out hNl HRND.out.1 HRND.out.2.1 HRND.out.2.2 hbw HOB.out HOV.out
        · have hdf : db = true := by rw [hdb.out]; simp; omega
          subst hdf
          have g1 := RE.out.2 (by omega)
          rw [← hin'] at g1
          rw [g1] at HOWN HON
          have HRND : Hid (OwnR wr (.slice oa on oc) (addRs rs m hi m1 m2) ∧ (∀ g, (Value.slice oa on oc).ownBlock = some g → w.heap.size ≤ g) ∧ Mod NoB w wr) := ⟨HOWN.out, HNEW.out, HMOD.out⟩
          obtain ⟨xa, xc, e0, hxn, _, hxa⟩ := own_form HOWN.out.1
          rw [HON.out] at e0 hxn hxa
          cases e0
          have HIN := hide hin'
          have HC := hide hC
          clear hin' hC
          have hN : (addRs rs m hi m1 m2).length = on := HON.out
          have HN := hide hN
          have hNp : 0 < on := by rw [← hN]; exact addRs_pos rs m hi m1 m2
          obtain ⟨xg, rfl⟩ := hxa hNp
          have c2' := HRND.out.2.2.cell (a := ⟨b, 2, none⟩) (fun x => x) Hc2.out
          have oB : wr.heap[b]? = some (.cells #[.slice a rs.length cap, .int .u64 (fl : Int), .int .i64 (most : Int)] 106 (0, 0)) := HRND.out.2.2.obj (fun x => x) H.out.obj
          have hz0 : wr.frozen? ⟨b, 0, none⟩ = false := frozen_of_obj oB
          have hz1 : wr.frozen? ⟨b, 1, none⟩ = false := frozen_of_obj oB
          have y0 : wr.cell? ⟨b, 0, none⟩ = some (.slice a rs.length cap) := cell_of_obj oB rfl
          have y1 : wr.cell? ⟨b, 1, none⟩ = some (.int .u64 (fl : Int)) := cell_of_obj oB rfl
          have HOB := hide oB
          clear hN oB
          have hNl : on ≤ 274877906944 := by
            have := HAL.out
            have := HN.out
            omega
          by_cases hov : most < on
          · have dov : (most : Int) < on := by omega
            obtain ⟨h0, hh0⟩ : ∃ h0, hiAt (addRs rs m hi m1 m2) 0 = h0 := ⟨_, rfl⟩
            have hw0 : IntKind.u64.wrap ((h0 : Int) + 1) = (h0 : Int) + 1 := by
              have q1 := HWF.out.2 0 1 (by omega) (by have := HN.out; omega)
              have q2 := HWF.out.1 1 (by have := HN.out; omega)
              rw [hh0] at q1
              rw [IntKind.wrap_u64]
              omega
            have x0 : wr.cell? ⟨xg, 1, none⟩ = some (.int .u64 (h0 : Int)) := by
              obtain ⟨_, _, e, _, _, q⟩ := HRND.out.1.rr
              obtain ⟨g', o', e2, _, q2, _⟩ := q 0 (by have := HN.out; omega)
              cases e
              cases e2
              rw [hh0] at q2
              exact q2
            have HH0 := hide hh0
            have HOV := hide hov
            clear hov hh0
            have hxl : (1 : Int) ≤ on := by omega
            have hxc : 2 ≤ oc := by have := hxn; omega
            go_wp2_with fail
            all_goals first
              | (exfalso; omega)
              | (refine bodyPost_end (results_none rfl _ _ _) rfl ?_
                 have := radd_fin1 (rs := rs) (m := m) (hi := hi) (m1 := m1) (m2 := m2) rfl HN.out hNl HRND.out.1 HRND.out.2.1 HRND.out.2.2 hbw HOB.out HOV.out
                 rw [HH0.out] at this
                 exact this)
          · have dov : ¬ (most : Int) < on := by omega
            have HOV := hide hov
            clear hov
            go_wp2_with fail
            refine bodyPost_end (results_none rfl _ _ _) rfl ?_
            exact radd_fin0 rfl HN.out hNl HRND.out.1 HRND.out.2.1 HRND.out.2.2 hbw HOB.out HOV.out
end Go.Proofs.YtddfdpbaiedcjabGreatDoor
