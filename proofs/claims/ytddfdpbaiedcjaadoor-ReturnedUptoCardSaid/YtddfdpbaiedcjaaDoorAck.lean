/- wire.soundAck, wire.writeAck: the ranges of an answer. -/
import Derived.Test.YtddfdpbaiedcjaaDoorFrame
namespace Go.Proofs.YtddfdpbaiedcjaaDoor
open Go.RowKit

/-- Ranges that can be read there. -/
def RR (w : World) (v : Value) (rs : Rngs) : Prop :=
  ∃ a cap, v = .slice a rs.length cap ∧ rs.length ≤ cap ∧ cap ≤ maxLen ∧ ∀ i, i < rs.length → ∃ g o, a = some ⟨g, o, none⟩ ∧ w.cell? ⟨g, o + i * 2, none⟩ = some (.int .u64 (loAt rs i : Int)) ∧ w.cell? ⟨g, o + i * 2 + 1, none⟩ = some (.int .u64 (hiAt rs i : Int)) ∧ loAt rs i < 18446744073709551616 ∧ hiAt rs i < 18446744073709551616

/-- The block of a slice's cells is not of S. -/
def OffS (S : Nat → Prop) (v : Value) : Prop := ∀ g o n c, v = .slice (some ⟨g, o, none⟩) n c → ¬ S g

theorem RR.mod {S : Nat → Prop} {w w' : World} {v : Value} {rs : Rngs} (h : RR w v rs) (m : Mod S w w') (hs : OffS S v) : RR w' v rs := by
  obtain ⟨a, cap, rfl, h1, h2, h3⟩ := h
  refine ⟨a, cap, rfl, h1, h2, fun i hi => ?_⟩
  obtain ⟨g, o, rfl, c1, c2, c3⟩ := h3 i hi
  exact ⟨g, o, rfl, m.cell (a := ⟨g, _, none⟩) (hs g o _ _ rfl) c1, m.cell (a := ⟨g, _, none⟩) (hs g o _ _ rfl) c2, c3⟩

theorem OffS.no (v : Value) : OffS NoB v := fun _ _ _ _ _ x => x

def okAt (rs : Rngs) (i : Nat) : Bool :=
  decide (loAt rs i ≤ hiAt rs i) && decide (hiAt rs i ≤ 4611686018427387903) && (decide (i = 0) || (decide (2 ≤ loAt rs (i - 1)) && decide (hiAt rs i + 2 ≤ loAt rs (i - 1))))

def okTo (rs : Rngs) (k : Nat) : Bool := (List.range k).all (okAt rs)
theorem okTo_succ (rs : Rngs) (k : Nat) : okTo rs (k + 1) = (okTo rs k && okAt rs k) := by simp [okTo, List.range_succ]

/-- Can the ranges be told? -/
def soundRs (rs : Rngs) : Bool := okTo rs rs.length && decide (0 < rs.length)

theorem okTo_false {rs : Rngs} {k : Nat} (hk : k < rs.length) (h : okAt rs k = false) : soundRs rs = false := by
  unfold soundRs
  have : okTo rs rs.length = false := by
    cases hq : okTo rs rs.length
    · rfl
    · unfold okTo at hq
      rw [List.all_eq_true] at hq
      have := hq k (List.mem_range.2 hk)
      rw [h] at this
      cases this
  rw [this]
  rfl

/-- It answers this, and no old block has turned. -/
def Says (w : World) (x : Bool) (e : Ending) (w' : World) : Prop := e = .returned (.bool x) ∧ Mod NoB w w'

set_option maxHeartbeats 1000000 in
theorem soundack_any (b : Nat) (f : Frm) (rv : Value) (w : World) (hf : FrameAt w b f rv) (hr : RR w rv f.rngs) (hb : f.rngs.length ≤ 1099511627776) :
    Calls Tryd.prog 39 #[.pointer (some ⟨b, 0, none⟩)] w (Says w (soundRs f.rngs)) := by
  have c9 := hf.cells.2.2.2.2.2.2.2.2.2
  obtain ⟨a, cap, rfl, h1, h2, h3⟩ := id hr
  unfold maxLen at h2
  clear h3
  go_enter Tryd.func39, Tryd.ntmps39
  go_wp2_with fail
  go_loopw [10] (fun i wr => ∃ k : Nat, k ≤ f.rngs.length ∧ i = .int .i64 k ∧ okTo f.rngs k = true ∧ Mod NoB w wr) (fun i _ => f.rngs.length - (intOf i).toNat)
  case atStart => exact ⟨0, Nat.zero_le _, rfl, rfl, Mod.refl _ _⟩
  case round =>
    obtain ⟨k, hk, rfl, hok, hm⟩ := hrel
    have Hok := hide hok
    clear hok
    by_cases hlt : k < f.rngs.length
    · obtain ⟨a', cap', hv, _, _, h3⟩ := hr.mod hm (OffS.no _)
      cases hv
      obtain ⟨g, o, rfl, e1, e2, b1, b2⟩ := h3 k hlt
      have e3 : 0 < k → wr.cell? ⟨g, o + (k - 1) * 2, none⟩ = some (.int .u64 (loAt f.rngs (k - 1) : Int)) ∧ loAt f.rngs (k - 1) < 18446744073709551616 := fun h0 => by
        obtain ⟨g', o', hg, e3, _, b3, _⟩ := h3 (k - 1) (by omega)
        cases hg
        exact ⟨e3, b3⟩
      have c9r := (hf.mod hm (fun x => x)).cells.2.2.2.2.2.2.2.2.2
      have hbl := lt_of_cell c9r
      have hgl := lt_of_cell e1
      have HS := hide (okTo_succ f.rngs k)
      have HF := hide (fun h => okTo_false (rs := f.rngs) hlt h)
      have HA : Hid (okAt f.rngs k = (decide (loAt f.rngs k ≤ hiAt f.rngs k) && decide (hiAt f.rngs k ≤ 4611686018427387903) && (decide (k = 0) || (decide (2 ≤ loAt f.rngs (k - 1)) && decide (hiAt f.rngs k + 2 ≤ loAt f.rngs (k - 1)))))) := rfl
      obtain ⟨lo, hlo⟩ : ∃ x, loAt f.rngs k = x := ⟨_, rfl⟩
      obtain ⟨hi, hhi⟩ : ∃ x, hiAt f.rngs k = x := ⟨_, rfl⟩
      obtain ⟨pl, hpl⟩ : ∃ x, loAt f.rngs (k - 1) = x := ⟨_, rfl⟩
      rw [hlo, hhi, hpl] at HA
      rw [hlo] at e1 b1
      rw [hhi] at e2 b2
      rw [hpl] at e3
      clear hlo hhi hpl h3 hr
      clear hf c9
      by_cases d1 : hi < lo
      · have hd1 : decide (hi < lo) = true := by simpa using d1
        go_wp2_with fail
        go_quiet (fail)
        go_wp2_with fail
        go_ret
        exact ⟨by rw [HF.out (by rw [HA.out]; simp; omega)]; rfl, (hm.alloc _).drewN _⟩
      · have hd1 : decide (hi < lo) = false := by simpa using d1
        by_cases d2 : (4611686018427387903 : Int) < hi
        · have hd2 : decide ((4611686018427387903 : Int) < hi) = true := by simpa using d2
          go_wp2_with fail
          go_quiet (fail)
          go_wp2_with fail
          go_ret
          exact ⟨by rw [HF.out (by rw [HA.out]; simp; omega)]; rfl, (hm.alloc _).drewN _⟩
        · have hd2 : decide ((4611686018427387903 : Int) < hi) = false := by simpa using d2
          by_cases d3 : 0 < k
          · have hd3 : decide (0 < k) = true := by simpa using d3
            obtain ⟨e4, b4⟩ := e3 (by omega)
            have s1 : IntKind.i64.wrap ((k : Int) - 1) = (k : Int) - 1 := IntWalk.i64_in _ (by omega)
            have s2 : ((k : Int) - 1).toNat = k - 1 := by omega
            have s3 : 0 ≤ (k : Int) - 1 := by omega
            have s4 : (k : Int) - 1 < f.rngs.length := by omega
            clear e3
            by_cases d4 : (pl : Int) < 2
            · have hd4 : decide ((pl : Int) < 2) = true := by simpa using d4
              go_wp2_with fail
              go_quiet (fail)
              go_wp2_with fail
              go_ret
              exact ⟨by rw [HF.out (by rw [HA.out]; simp; omega)]; rfl, (hm.alloc _).drewN _⟩
            · have hd4 : decide ((pl : Int) < 2) = false := by simpa using d4
              have s5 : IntKind.u64.wrap ((pl : Int) - 2) = (pl : Int) - 2 := by rw [IntKind.wrap_u64]; omega
              by_cases d5 : (pl : Int) - 2 < hi
              · have hd5 : decide ((pl : Int) - 2 < hi) = true := by simpa using d5
                go_wp2_with fail
                go_quiet (fail)
                go_wp2_with fail
                go_ret
                exact ⟨by rw [HF.out (by rw [HA.out]; simp; omega)]; rfl, (hm.alloc _).drewN _⟩
              · have hd5 : decide ((pl : Int) - 2 < hi) = false := by simpa using d5
                go_wp2_with fail
                go_quiet (fail)
                go_wp2_with fail
                go_roundw
                case rel => exact ⟨k + 1, by omega, by go_num, by rw [HS.out, Hok.out, HA.out]; simp; omega, (hm.alloc _).drewN _⟩
                case measure => simp [intOf]; omega
          · have hd3 : decide (0 < k) = false := by simpa using d3
            clear e3
            go_wp2_with fail
            go_quiet (fail)
            go_wp2_with fail
            go_roundw
            case rel => exact ⟨k + 1, by omega, by go_num, by rw [HS.out, Hok.out, HA.out]; simp; omega, (hm.alloc _).drewN _⟩
            case measure => simp [intOf]; omega
    · have hkn : k = f.rngs.length := by omega
      have HE : Hid (soundRs f.rngs = decide (0 < f.rngs.length)) := by
        show _ = _
        unfold soundRs
        have := Hok.out
        rw [hkn] at this
        rw [this]
        simp
      have c9r := (hf.mod hm (fun x => x)).cells.2.2.2.2.2.2.2.2.2
      clear hkn
      go_wp2_with fail
      go_ret
      exact ⟨by rw [HE.out]; rfl, hm⟩
end Go.Proofs.YtddfdpbaiedcjaaDoor
