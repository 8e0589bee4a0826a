/- plain.copied: a packet with lists of its own. -/
import Derived.Test.YtddfdpbaiedcjaaDoorDec5
namespace Go.Proofs.YtddfdpbaiedcjaaDoor
open Go.RowKit

theorem rr_cells {w : World} {g o cap : Nat} {rs : Rngs} (h : RR w (.slice (some ⟨g, o, none⟩) rs.length cap) rs) : ∀ j u, (rcells rs)[j]? = some u → w.cell? ((⟨g, o, none⟩ : Addr).add j) = some u := by
  obtain ⟨a, c, hv, _, _, h3⟩ := h
  cases hv
  intro j u hu
  have hj : j < rs.length * 2 := by
    have := (List.getElem?_eq_some_iff.1 hu).1
    rwa [rcells_length] at this
  obtain ⟨g', o', e, c1, c2, _⟩ := h3 (j / 2) (by omega)
  cases e
  rw [addr_add]
  rcases Nat.mod_two_eq_zero_or_one j with h0 | h0
  · have e : j / 2 * 2 = j := by omega
    rw [e] at c1
    have := rcells_lo rs (j / 2) (by omega)
    rw [e] at this
    rw [c1, ← this, hu]
  · have e : j / 2 * 2 + 1 = j := by omega
    rw [show o + j / 2 * 2 + 1 = o + j by omega] at c2
    have := rcells_hi rs (j / 2) (by omega)
    rw [e] at this
    rw [c2, ← this, hu]

theorem rcells_one (rs : Rngs) : ∀ u ∈ rcells rs, u.oneCell' = true := by
  intro u hu
  induction rs with
  | nil => cases hu
  | cons r rs ih =>
    simp only [rcells, List.mem_cons] at hu
    rcases hu with rfl | rfl | hu
    · rfl
    · rfl
    · exact ih hu

/-- append of ranges onto nothing: a copy. -/
theorem rs_copy (w : World) (v : Value) (rs : Rngs) (h : RR w v rs) (hl : rs.length ≤ 1099511627776) :
    ∃ v' w', (∀ ty, (Builtin.append_ #[26, 26] ty #[.slice none 0 0, v]).run Tryd.prog w = .ok v' w') ∧ OwnR w' v' rs ∧ Mod NoB w w' ∧ (∀ g, v'.ownBlock = some g → w.heap.size ≤ g) := by
  obtain ⟨i, hi1, hz, hz1, hz2⟩ := info_parts info_range
  obtain ⟨a, cap, rfl, h1, h2, h3⟩ := id h
  cases a with
  | none =>
    have h0 : rs.length = 0 := by
      rcases Nat.eq_zero_or_pos rs.length with h0 | h0
      · exact h0
      · obtain ⟨g, o, e, _⟩ := h3 0 h0
        cases e
    have hrs : rs = [] := List.eq_nil_of_length_eq_zero h0
    subst hrs
    refine ⟨.slice none 0 0, w, fun ty => ?_, OwnR.nil w, Mod.refl _ _, fun g hg => by cases hg⟩
    simp [Builtin.append_, run_underlying Tryd.underlying26, sizeOf, typeInfo, hi1, Builtin.lenOf, Builtin.firstCells, loadCells, loadCellsFrom]
  | some a =>
    obtain ⟨g, o, s⟩ : ∃ g o s, a = ⟨g, o, s⟩ := ⟨_, _, _, rfl⟩
    by_cases h0 : rs.length = 0
    · have hrs : rs = [] := List.eq_nil_of_length_eq_zero h0
      subst hrs
      obtain ⟨v', w', k1, k2, k3, k4⟩ := run_append_owned_at (P := Tryd.prog) w 26 50 i (.agg #[.int .u64 0, .int .u64 0]) 2 16 Tryd.underlying26 hi1 hz hz1 hz2 rfl (by decide) (.slice none 0 0) 0 [] (World.ownsRow_nil w 0 _ 2)
        a 0 cap [] rfl (by intro j u hu; cases hu) (by intro u hu; cases hu) (by unfold maxLen; omega) (by omega)
      exact ⟨v', w', k1, ⟨k2, fun i hi => absurd hi (Nat.not_lt_zero i)⟩, (Mod.refl _ w).grown k3 (fun k hk => by cases hk), fun g hg => (k4 g hg).elim (fun x => by cases x) id⟩
    · obtain ⟨g', o', e, _⟩ := h3 0 (by omega)
      cases e
      obtain ⟨v', w', k1, k2, k3, k4⟩ := run_append_owned_at (P := Tryd.prog) w 26 50 i (.agg #[.int .u64 0, .int .u64 0]) 2 16 Tryd.underlying26 hi1 hz hz1 hz2 rfl (by decide) (.slice none 0 0) 0 [] (World.ownsRow_nil w 0 _ 2)
        ⟨g', o', none⟩ rs.length cap (rcells rs) (rcells_length rs) (rr_cells h) (rcells_one rs) (by unfold maxLen; omega) (by omega)
      refine ⟨v', w', k1, ⟨?_, fun i hi => ?_⟩, (Mod.refl _ w).grown k3 (fun k hk => by cases hk), fun g hg => (k4 g hg).elim (fun x => by cases x) id⟩
      · rw [Nat.zero_add, List.nil_append] at k2
        exact k2
      · obtain ⟨_, _, _, _, _, b1, b2⟩ := h3 i hi
        exact ⟨b1, b2⟩

/-- What copied answers. -/
def Copy (w : World) (n : Nat) (fs : List (Frm × Value)) (e : Ending) (w' : World) : Prop :=
  ∃ v rvs, e = .returned (.agg #[.int .u64 (n : Int), v]) ∧ OwnF w' v rvs ∧ rvs.map (·.1) = fs.map (·.1) ∧ (∀ g, v.ownBlock = some g → w.heap.size ≤ g) ∧ (∀ x ∈ rvs, ∀ g, x.2.ownBlock = some g → w.heap.size ≤ g) ∧ Mod NoB w w'

/-- Midway: the first k frames have been copied. -/
def CopyK (w : World) (fs : List (Frm × Value)) (k : Nat) (v : Value) (wr : World) : Prop :=
  ∃ rvs, OwnF wr v rvs ∧ rvs.length = k ∧ rvs.map (·.1) = (fs.take k).map (·.1) ∧ (∀ g, v.ownBlock = some g → w.heap.size ≤ g) ∧ (∀ x ∈ rvs, ∀ g, x.2.ownBlock = some g → w.heap.size ≤ g) ∧ Mod NoB w wr

theorem OwnF.nil (w : World) : OwnF w (.slice none 0 0) [] := ⟨World.ownsRow_nil w 0 _ 10, fun x hx => by cases hx⟩

/-- One frame more. -/
theorem copy_step {w wr W0 W1 W3 : World} {fs rvs : List (Frm × Value)} {fb : Nat} {v rv v3 : Value} {f : Frm} {rv0 : Value}
    (h1 : OwnF wr v rvs) (h3 : rvs.map (·.1) = (fs.take rvs.length).map (·.1)) (h4 : ∀ g, v.ownBlock = some g → w.heap.size ≤ g) (h5 : ∀ x ∈ rvs, ∀ g, x.2.ownBlock = some g → w.heap.size ≤ g) (h6 : Mod NoB w wr)
    (hf : fs[rvs.length]? = some (f, rv0)) (m1 : Mod NoB wr W1) (ho : OwnR W1 rv f.rngs) (hrn : ∀ g, rv.ownBlock = some g → wr.heap.size < g) (hfb : wr.heap.size = fb) (m2 : Mod (fun x => x = fb) W1 W0)
    (q1 : W3.ownsRow 0 28 10 v3 (rvs.length + 1) (fcells (rvs ++ [(f, rv)]))) (q2 : W0.grownBy W3 v.ownBlock) (q3 : NewOr W0 v v3) : CopyK w fs (rvs.length + 1) v3 W3 := by
  have hlt : ∀ g, v.ownBlock = some g → g < wr.heap.size := fun g hg => own_lt' h1.1 g hg
  have hltx : ∀ x ∈ rvs, ∀ g, x.2.ownBlock = some g → g < wr.heap.size := fun x hx g hg => own_lt' (h1.2 x hx).1 g hg
  have e0 : OwnF W0 v rvs := by
    refine ⟨m2.owns (m1.owns h1.1 (fun _ _ x => x)) (fun g hg e => by have := hlt g hg; omega), fun x hx => ?_⟩
    exact ((h1.2 x hx).mod m1 (fun _ _ x => x)).mod m2 (fun g hg e => by have := hltx x hx g hg; omega)
  have ho0 : OwnR W0 rv f.rngs := ho.mod m2 (fun g hg e => by have := hrn g hg; omega)
  have m3 : Mod (fun k => v.ownBlock = some k) W0 W3 := (Mod.refl _ _).grown q2 (fun k hk => .inl hk)
  have hsz : w.heap.size ≤ W0.heap.size := Nat.le_trans h6.size (Nat.le_trans m1.size m2.size)
  refine ⟨rvs ++ [(f, rv)], ⟨by simpa using q1, ?_⟩, by simp, ?_, ?_, ?_, ?_⟩
  · intro x hx
    rcases List.mem_append.1 hx with hx | hx
    · exact (e0.2 x hx).mod m3 (fun g hg hj => two_types e0.1 (e0.2 x hx).1 (by decide) hj hg)
    · simp only [List.mem_singleton] at hx
      subst hx
      exact ho0.mod m3 (fun g hg hj => two_types e0.1 ho0.1 (by decide) hj hg)
  · rw [List.map_append, h3, List.take_add_one, hf, List.map_append]
    rfl
  · intro g hg
    rcases q3 g hg with x | x
    · exact h4 g x
    · omega
  · intro x hx g hg
    rcases List.mem_append.1 hx with hx | hx
    · exact h5 x hx g hg
    · simp only [List.mem_singleton] at hx
      subst hx
      have := hrn g hg
      have := h6.size
      omega
  · have hs := h6.size
    exact ((h6.trans m1).then m2 (fun i hi => .inr (by omega))).then m3 (fun i hi => .inr (h4 i hi))

theorem results_packet (tmps : Array Value) (w : World) (qb : Nat) (n fv : Value) (h2 : tmps.getD 2 undef = .pointer (some ⟨qb, 0, none⟩))
    (c0 : w.cell? ⟨qb, 0, none⟩ = some n) (c1 : w.cell? ⟨qb, 1, none⟩ = some fv) :
    (results Tryd.f7 tmps).run Tryd.prog w = .ok (.agg #[n, fv]) w := by
  have h2' : tmps[2]?.getD undef = .pointer (some ⟨qb, 0, none⟩) := by rw [← h2]; simp
  simp [results, Tryd.results7, go_sem, h2', c0, c1]

set_option maxRecDepth 100000 in
set_option maxHeartbeats 1000000 in
theorem copied_any (n : Nat) (fs : List (Frm × Value)) (v : Value) (w : World) (h : FrsAt w v fs) (hl : fs.length ≤ 1099511627775) (hd : ∀ fr ∈ fs, fr.1.rngs.length ≤ 1099511627776) :
    Calls Tryd.prog 7 #[.agg #[.int .u64 (n : Int), v]] w (Copy w n fs) := by
  obtain ⟨a, cap, rfl, h1, h2, h3⟩ := id h
  unfold maxLen at h2
  clear h3
  have H := hide h
  have Hd := hide hd
  clear h hd
  obtain ⟨W0, hW0⟩ : ∃ W0, (w.alloc (.cells #[.int .u64 (n : Int), .slice a fs.length cap] 25)).alloc (.cells #[.int .u64 0, .slice none 0 0] 25) = W0 := ⟨_, rfl⟩
  have m0 : Mod NoB w W0 := by rw [← hW0]; exact ((Mod.refl _ _).alloc _).alloc _
  have e1 : (w.alloc (.cells #[.int .u64 (n : Int), .slice a fs.length cap] 25)).heap.size = w.heap.size + 1 := by simp
  have oP : W0.heap[w.heap.size]? = some (.cells #[.int .u64 (n : Int), .slice a fs.length cap] 25 (0, 0)) := by rw [← hW0]; exact ((Mod.refl NoB _).alloc _).obj (fun x => x) (heap_alloc_new w _)
  have oQ : W0.heap[w.heap.size + 1]? = some (.cells #[.int .u64 0, .slice none 0 0] 25 (0, 0)) := by rw [← hW0, ← e1]; exact heap_alloc_new _ _
  have HP := hide oP
  have HQ := hide oQ
  have HM0 := hide m0
  have HW0 := hide hW0
  clear oP oQ m0 hW0 e1
  go_enter Tryd.func7, Tryd.ntmps7
  go_wp2_with fail
  rw [HW0.out]
  go_loopw [3, 9] (fun lv i wr => ∃ k : Nat, k ≤ fs.length ∧ i = .int .i64 k ∧ CopyK W0 fs k lv wr) (fun _ i _ => fs.length - (intOf i).toNat)
  case atStart => exact ⟨0, Nat.zero_le _, rfl, [], OwnF.nil _, rfl, rfl, (fun g hg => by cases hg), (fun x hx => by cases hx), Mod.refl _ _⟩
  case round =>
    obtain ⟨k, hk, rfl, hC⟩ := hrel
    obtain ⟨rvs, hof, hlen, hmap, hn1, hn2, hmr⟩ := id hC
    obtain ⟨la, lc, rfl, _⟩ := own_form hof.1
    subst hlen
    have HC := hide hC
    have HMR := hide hmr
    have HOF := hide hof
    have HMP := hide hmap
    have HN1 := hide hn1
    have HN2 := hide hn2
    have HFS : FrsAt wr (.slice a fs.length cap) fs := (H.out.mod0 HM0.out).mod0 hmr
    clear hC hmr hof hmap hn1 hn2
    by_cases hlt : rvs.length < fs.length
    · obtain ⟨fr, hfr⟩ : ∃ fr, fs[rvs.length]? = some fr := ⟨fs[rvs.length], List.getElem?_eq_getElem hlt⟩
      obtain ⟨a', cap', hv', _, _, h3⟩ := HFS
      cases hv'
      obtain ⟨f, rv⟩ := fr
      obtain ⟨⟨g, o, rfl, hc⟩, hrr⟩ := h3 rvs.length (f, rv) hfr
      simp only at hc hrr
      obtain ⟨ra, rc, rfl, _⟩ := id hrr
      obtain ⟨hc0, hc1, hc2, hc3, hc4, hc5, hc6, hc7, hc8, hc9⟩ := fr_cells hc
      have hrl := Hd.out _ (List.mem_of_getElem? hfr)
      simp only at hrl
      obtain ⟨v1, W1, hr1, own1, mod1, new1⟩ := rs_copy (wr.alloc (.cells (frCells f (.slice ra f.rngs.length rc)) 28)) (.slice ra f.rngs.length rc) f.rngs (hrr.mod ((Mod.refl NoB _).alloc _) (OffS.no _)) hrl
      obtain ⟨xa, xc, rfl, _⟩ := own_form own1.1
      have fb1 : FrameAt W1 wr.heap.size f (.slice ra f.rngs.length rc) := mod1.obj (fun x => x) (heap_alloc_new wr _)
      obtain ⟨k0, k1, k2, k3, k4, k5, k6, k7, k8, k9⟩ := fb1.cells
      have kz : W1.frozen? ⟨wr.heap.size, 9, none⟩ = false := frozen_of_obj fb1
      have fbl := lt_of_cell k0
      have m2 : Mod (fun x => x = wr.heap.size) W1 (W1.setCell ⟨wr.heap.size, 9, none⟩ (.slice xa f.rngs.length xc)) := (Mod.refl (fun x => x = wr.heap.size) W1).setCell (p := ⟨wr.heap.size, 9, none⟩) (.inl rfl) _
      have m1 : Mod NoB wr W1 := ((Mod.refl NoB wr).alloc _).trans mod1
      have own2 : OwnF (W1.setCell ⟨wr.heap.size, 9, none⟩ (.slice xa f.rngs.length xc)) (.slice la rvs.length lc) rvs :=
        OwnF.mod HOF.out (m1.then m2 (fun i hi => .inr (by omega))) (fun i hi => hi.elim)
      obtain ⟨v3, W3, hr3, own3, gr3, nw3⟩ := flit_app (W1.setCell ⟨wr.heap.size, 9, none⟩ (.slice xa f.rngs.length xc)) (.slice la rvs.length lc) rvs f xa f.rngs.length xc own2.1 (by omega)
      have HK : Hid (CopyK W0 fs (rvs.length + 1) v3 W3) :=
        copy_step (rv := .slice xa f.rngs.length xc) HOF.out HMP.out HN1.out HN2.out HMR.out hfr m1 own1 (fun g hg => by have := new1 g hg; simp at this; omega) rfl m2 own3 gr3 nw3
      have HF1 := hide fb1
      clear h3 own1 mod1 new1 fb1 m2 m1 own2 own3 gr3 nw3 hc hrr hrl
      unfold frCells at hr1 hr3
      have hsz : (W1.setCell ⟨wr.heap.size, 9, none⟩ (.slice xa f.rngs.length xc)).heap.size = W1.heap.size := by simp [World.setCell]
      rw [hsz] at hr3
      clear hsz
      go_wp2_with (at_builtin; first | (refine wpList_append_is rfl _ _ _ _ rfl _ _ _ rfl rfl hr1 ?_; clear hr1) | (refine wpList_append_is rfl _ _ _ _ rfl _ _ _ rfl rfl hr3 ?_; clear hr3))
      go_roundw
      case rel => exact ⟨rvs.length + 1, by omega, by go_num, HK.out⟩
      case measure => simp [intOf]; omega
    · have hkn : rvs.length = fs.length := by omega
      have oP : wr.heap[w.heap.size]? = some (.cells #[.int .u64 (n : Int), .slice a fs.length cap] 25 (0, 0)) := HMR.out.obj (fun x => x) HP.out
      have oQ : wr.heap[w.heap.size + 1]? = some (.cells #[.int .u64 0, .slice none 0 0] 25 (0, 0)) := HMR.out.obj (fun x => x) HQ.out
      have p0 : wr.cell? ⟨w.heap.size, 0, none⟩ = some (.int .u64 (n : Int)) := cell_of_obj oP rfl
      have p1 : wr.cell? ⟨w.heap.size, 1, none⟩ = some (.slice a fs.length cap) := cell_of_obj oP rfl
      have pz : wr.frozen? ⟨w.heap.size, 1, none⟩ = false := frozen_of_obj oP
      have q0 : wr.cell? ⟨w.heap.size + 1, 0, none⟩ = some (.int .u64 0) := cell_of_obj oQ rfl
      have q1 : wr.cell? ⟨w.heap.size + 1, 1, none⟩ = some (.slice none 0 0) := cell_of_obj oQ rfl
      have qz0 : wr.frozen? ⟨w.heap.size + 1, 0, none⟩ = false := frozen_of_obj oQ
      have qz1 : wr.frozen? ⟨w.heap.size + 1, 1, none⟩ = false := frozen_of_obj oQ
      have HKN := hide hkn
      have HOP := hide oP
      have HOQ := hide oQ
      clear oP oQ
      go_wp2_with fail
      obtain ⟨WF, hWF⟩ : ∃ WF, ((wr.setCell ⟨w.heap.size, 1, none⟩ (.slice la fs.length lc)).setCell ⟨w.heap.size + 1, 0, none⟩ (.int .u64 (n : Int))).setCell ⟨w.heap.size + 1, 1, none⟩ (.slice la fs.length lc) = WF := ⟨_, rfl⟩
      rw [hWF]
      have mF : Mod (fun k => k = w.heap.size ∨ k = w.heap.size + 1) wr WF := by
        rw [← hWF]
        exact (((Mod.refl (fun k => k = w.heap.size ∨ k = w.heap.size + 1) wr).setCell (p := ⟨w.heap.size, 1, none⟩) (.inl (.inl rfl)) _).setCell (p := ⟨w.heap.size + 1, 0, none⟩) (.inl (.inr rfl)) _).setCell (p := ⟨w.heap.size + 1, 1, none⟩) (.inl (.inr rfl)) _
      have oF : WF.heap[w.heap.size + 1]? = some (.cells #[.int .u64 (n : Int), .slice la fs.length lc] 25 (0, 0)) := by
        rw [← hWF]
        have o1 : (wr.setCell ⟨w.heap.size, 1, none⟩ (.slice la fs.length lc)).heap[w.heap.size + 1]? = some (.cells #[.int .u64 0, .slice none 0 0] 25 (0, 0)) :=
          ((Mod.refl (fun k => k = w.heap.size) wr).setCell (p := ⟨w.heap.size, 1, none⟩) (.inl rfl) _).obj (fun e => by have e : w.heap.size + 1 = w.heap.size := e; omega) HOQ.out
        exact obj_setCell (obj_setCell o1)
      have hsz : w.heap.size + 1 + 1 = W0.heap.size := by rw [← HW0.out]; simp
      have own : OwnF WF (.slice la rvs.length lc) rvs := OwnF.mod HOF.out mF (fun i hi => .inr (by
        rcases hi with rfl | rfl
        · exact ⟨_, _, _, HOP.out, by decide, by decide⟩
        · exact ⟨_, _, _, HOQ.out, by decide, by decide⟩))
      refine bodyPost_ret (results_packet _ _ (w.heap.size + 1) (.int .u64 (n : Int)) (.slice la fs.length lc) rfl (cell_of_obj oF rfl) (cell_of_obj oF rfl)) rfl ?_
      refine ⟨.slice la rvs.length lc, rvs, by rw [HKN.out], own, ?_, fun g hg => ?_, fun x hx g hg => ?_, ?_⟩
      · rw [HMP.out, HKN.out, List.take_length]
      · have := HN1.out g hg
        omega
      · have := HN2.out x hx g hg
        omega
      · exact (HM0.out.trans HMR.out).then mF (fun i hi => .inr (by rcases hi with rfl | rfl <;> omega))
end Go.Proofs.YtddfdpbaiedcjaaDoor
