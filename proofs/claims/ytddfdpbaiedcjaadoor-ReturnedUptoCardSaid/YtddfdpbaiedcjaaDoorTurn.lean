/- plain.turn: it writes into a packet's own lists. -/
import Derived.Test.YtddfdpbaiedcjaaDoorCopied
namespace Go.Proofs.YtddfdpbaiedcjaaDoor
open Go.RowKit

/-- Blocks of S hold other cells, but as many of them and of the same type. -/
def Shape (S : Nat → Prop) (w wr : World) : Prop :=
  Mod S w wr ∧ ∀ k, S k → ∀ cs t, w.heap[k]? = some (.cells cs t (0, 0)) → ∃ cs', wr.heap[k]? = some (.cells cs' t (0, 0)) ∧ cs'.size = cs.size

theorem Shape.refl (S : Nat → Prop) (w : World) : Shape S w w := ⟨Mod.refl _ _, fun _ _ cs _ h => ⟨cs, h, rfl⟩⟩

theorem Shape.set {S : Nat → Prop} {w wr : World} (h : Shape S w wr) {b : Nat} (hb : S b) (i : Nat) (v : Value) : Shape S w (wr.setCell ⟨b, i, none⟩ v) := by
  refine ⟨h.1.setCell (p := ⟨b, i, none⟩) (.inl hb) v, fun k hk cs t hc => ?_⟩
  obtain ⟨cs', h1, h2⟩ := h.2 k hk cs t hc
  by_cases e : k = b
  · subst e
    exact ⟨_, obj_setCell h1, by simpa using h2⟩
  · exact ⟨cs', ((Mod.refl (fun x => x = b) wr).setCell (p := ⟨b, i, none⟩) (.inl rfl) v).obj e h1, h2⟩

theorem Shape.cell {S : Nat → Prop} {w wr : World} (h : Shape S w wr) {b t : Nat} {cs : Array Value} (hb : S b) (hc : w.heap[b]? = some (.cells cs t (0, 0))) {i : Nat} (hi : i < cs.size) :
    (∃ v, wr.cell? ⟨b, i, none⟩ = some v) ∧ wr.frozen? ⟨b, i, none⟩ = false := by
  obtain ⟨cs', h1, h2⟩ := h.2 b hb cs t hc
  exact ⟨⟨cs'[i], cell_of_obj h1 (Array.getElem?_eq_getElem (by omega))⟩, frozen_of_obj h1⟩

/-- The blocks of a packet's own lists. -/
def Lists (v : Value) (rvs : List (Frm × Value)) : Nat → Prop := fun k => v.ownBlock = some k ∨ ∃ x ∈ rvs, x.2.ownBlock = some k

/-- From the k-th frame on each has the ranges that it had. -/
def TurnAt (W : World) (g : Nat) (v : Value) (rvs : List (Frm × Value)) (k : Nat) (wr : World) : Prop :=
  Shape (Lists v rvs) W wr ∧ ∀ j x, k ≤ j → rvs[j]? = some x → wr.cell? ⟨g, j * 10 + 9, none⟩ = some x.2

theorem TurnAt.more {W wr : World} {g k : Nat} {v : Value} {rvs : List (Frm × Value)} (h : TurnAt W g v rvs k wr) : TurnAt W g v rvs (k + 1) wr := ⟨h.1, fun j x hj => h.2 j x (by omega)⟩

theorem TurnAt.set {W wr : World} {g k i : Nat} {v : Value} {rvs : List (Frm × Value)} (h : TurnAt W g v rvs (k + 1) wr) (hg : Lists v rvs g) (hi : i < k * 10 + 10) (u : Value) : TurnAt W g v rvs (k + 1) (wr.setCell ⟨g, i, none⟩ u) := by
  refine ⟨h.1.set hg i u, fun j x hj hx => ?_⟩
  rw [World.cell?_setCell_other _ _ _ _ (by simp <;> omega)]
  exact h.2 j x hj hx

theorem own_obj {w : World} {e sz n : Nat} {g cap : Nat} {xs : List Value} (h : w.ownsRow 0 e sz (.slice (some ⟨g, 0, none⟩) n cap) n xs) : ∃ cur, w.heap[g]? = some (.cells cur e (0, 0)) ∧ cur.size = cap * sz ∧ n ≤ cap := by
  rcases h.2 with ⟨hv, _⟩ | ⟨g', cap', cur, hv, _, hg, h1, _, h3, _⟩
  · cases hv
  · cases hv
    exact ⟨cur, hg, h3, h1⟩

set_option maxRecDepth 100000 in
set_option maxHeartbeats 1000000 in
theorem turn_any (n : Nat) (rvs : List (Frm × Value)) (v : Value) (w : World) (h : OwnF w v rvs) :
    Calls Tryd.prog 9 #[.agg #[.int .u64 (n : Int), v]] w fun e w' => e = .returned (.tuple #[]) ∧ Mod (Lists v rvs) w w' := by
  obtain ⟨a, cap, rfl, h1, h2, h3⟩ := own_form h.1
  unfold maxLen at h2
  obtain ⟨W0, hW0⟩ : ∃ W0, w.alloc (.cells #[.int .u64 (n : Int), .slice a rvs.length cap] 25) = W0 := ⟨_, rfl⟩
  have m0 : Mod NoB w W0 := by rw [← hW0]; exact (Mod.refl _ _).alloc _
  have oP : W0.heap[w.heap.size]? = some (.cells #[.int .u64 (n : Int), .slice a rvs.length cap] 25 (0, 0)) := by rw [← hW0]; exact heap_alloc_new w _
  have o0 : OwnF W0 (.slice a rvs.length cap) rvs := OwnF.mod h m0 (fun i hi => hi.elim)
  have hnP : ¬ Lists (.slice a rvs.length cap) rvs w.heap.size := by
    rintro (hx | ⟨x, hx, hy⟩)
    · have := own_lt' h.1 _ hx
      omega
    · have := own_lt' (h.2 x hx).1 _ hy
      omega
  have HP := hide oP
  have HM0 := hide m0
  have HO := hide o0
  have HNP := hide hnP
  have HW0 := hide hW0
  clear h m0 oP o0 hnP hW0
  go_enter Tryd.func9, Tryd.ntmps9
  go_wp2_with fail
  rw [HW0.out]
  have p1 : W0.cell? ⟨w.heap.size, 1, none⟩ = some (.slice a rvs.length cap) := cell_of_obj HP.out rfl
  go_wp2_with fail
  go_loopw [7] (fun i wr => ∃ k : Nat, k ≤ rvs.length ∧ i = .int .i64 k ∧ (a = none → Mod (Lists (.slice a rvs.length cap) rvs) W0 wr) ∧ ∀ g, a = some ⟨g, 0, none⟩ → TurnAt W0 g (.slice a rvs.length cap) rvs k wr) (fun i _ => rvs.length - (intOf i).toNat)
  case atStart =>
    refine ⟨0, Nat.zero_le _, rfl, fun _ => Mod.refl _ _, fun g hg => ⟨Shape.refl _ _, fun j x _ hj => ?_⟩⟩
    subst hg
    have := HO.out.1.cells (g := g) rfl _ _ (fcells_at rvs j x hj 9 x.2 rfl)
    rwa [addr_add, Nat.zero_add] at this
  case round =>
    obtain ⟨k, hk, rfl, hM, hT⟩ := hrel
    by_cases hlt : k < rvs.length
    · obtain ⟨g, rfl⟩ := h3 (by omega)
      have hTg := hT g rfl
      clear hT
      obtain ⟨⟨f, rv⟩, hx⟩ : ∃ x, rvs[k]? = some x := ⟨rvs[k], List.getElem?_eq_getElem hlt⟩
      have hxm := List.mem_of_getElem? hx
      have ox := HO.out.2 _ hxm
      simp only at ox
      obtain ⟨xa, xc, rfl, hx1, hx2, hx3⟩ := own_form ox.1
      unfold maxLen at hx2
      obtain ⟨cg, og, sg, _⟩ := own_obj HO.out.1
      have hne : ∀ h, xa = some ⟨h, 0, none⟩ → h ≠ g := fun h e1 e2 => two_types HO.out.1 ox.1 (by decide) (g := g) rfl (by rw [e1, e2]; rfl)
      have hSg : Lists (.slice (some ⟨g, 0, none⟩) rvs.length cap) rvs g := .inl rfl
      have c9 := hTg.2 k _ (Nat.le_refl _) hx
      simp only at c9
      have pP : wr.cell? ⟨w.heap.size, 1, none⟩ = some (.slice (some ⟨g, 0, none⟩) rvs.length cap) := hTg.1.1.cell (a := ⟨_, 1, none⟩) HNP.out p1
      have HOX := hide ox
      have HX := hide hx
      have HXM := hide hxm
      have HT := hide hTg
      have HOG := hide og
      have HSG := hide sg
      clear ox hx hxm hTg og sg
      go_wp2_with fail
      go_loopw [17] (fun i wq => ∃ j : Nat, j ≤ f.rngs.length ∧ i = .int .i64 j ∧ TurnAt W0 g (.slice (some ⟨g, 0, none⟩) rvs.length cap) rvs k wq) (fun i _ => f.rngs.length - (intOf i).toNat)
      case atStart => exact ⟨0, Nat.zero_le _, rfl, HT.out⟩
      case round =>
        obtain ⟨j, hj, rfl, hTq⟩ := hrel
        have pQ : wr.cell? ⟨w.heap.size, 1, none⟩ = some (.slice (some ⟨g, 0, none⟩) rvs.length cap) := hTq.1.1.cell (a := ⟨_, 1, none⟩) HNP.out p1
        have d9 := hTq.2 k _ (Nat.le_refl _) HX.out
        simp only at d9
        by_cases hjl : j < f.rngs.length
        · obtain ⟨h, rfl⟩ := hx3 (by omega)
          have hneg := hne h rfl
          have hSh : Lists (.slice (some ⟨g, 0, none⟩) rvs.length cap) rvs h := .inr ⟨_, HXM.out, rfl⟩
          obtain ⟨ch, oh, sh, _⟩ := own_obj HOX.out.1
          obtain ⟨⟨v0, e0⟩, z0⟩ := hTq.1.cell hSh oh (i := j * 2) (by omega)
          obtain ⟨⟨v1, e1⟩, z1⟩ := hTq.1.cell hSh oh (i := j * 2 + 1) (by omega)
          have z1' : (wr.setCell ⟨h, j * 2, none⟩ (.int .u64 7)).frozen? ⟨h, j * 2 + 1, none⟩ = false := ((hTq.1.set hSh (j * 2) (.int .u64 7)).cell hSh oh (i := j * 2 + 1) (by omega)).2
          have HTN : Hid (TurnAt W0 g (.slice (some ⟨g, 0, none⟩) rvs.length cap) rvs k ((wr.setCell ⟨h, j * 2, none⟩ (.int .u64 7)).setCell ⟨h, j * 2 + 1, none⟩ (.int .u64 7))) := by
            refine ⟨(hTq.1.set hSh _ _).set hSh _ _, fun i x hi hix => ?_⟩
            exact cell_set_ne (cell_set_ne (hTq.2 i x hi hix) (fun e => hneg e.symm)) (fun e => hneg e.symm)
          clear oh hTq
          go_wp2_with fail
          go_roundw
          case rel => exact ⟨j + 1, by omega, by go_num, HTN.out⟩
          case measure => simp [intOf]; omega
        · have hjn : j = f.rngs.length := by omega
          have hTq' := hide hTq
          have hc : ∀ i, i < 10 → (∃ v, wr.cell? ⟨g, k * 10 + i, none⟩ = some v) ∧ wr.frozen? ⟨g, k * 10 + i, none⟩ = false := fun i hi => hTq.1.cell hSg HOG.out (i := k * 10 + i) (by rw [HSG.out]; omega)
          obtain ⟨⟨v0, e0⟩, z0⟩ := hc 0 (by omega)
          obtain ⟨⟨v1, e1⟩, z1⟩ := hc 1 (by omega)
          obtain ⟨⟨v2, e2⟩, z2⟩ := hc 2 (by omega)
          obtain ⟨⟨v3, e3⟩, z3⟩ := hc 3 (by omega)
          obtain ⟨⟨v4, e4⟩, z4⟩ := hc 4 (by omega)
          obtain ⟨⟨v5, e5⟩, z5⟩ := hc 5 (by omega)
          obtain ⟨⟨v6, e6⟩, z6⟩ := hc 6 (by omega)
          obtain ⟨⟨v7, e7⟩, z7⟩ := hc 7 (by omega)
          obtain ⟨⟨v8, e8⟩, z8⟩ := hc 8 (by omega)
          obtain ⟨_, z9⟩ := hc 9 (by omega)
          rw [Nat.add_zero] at e0 z0
          clear hc hTq hjn
          go_wp2_with fail
          go_roundw
          case rel =>
            refine ⟨k + 1, by omega, by go_num, (fun e => by cases e), fun g' e => ?_⟩
            cases e
            exact ((((((((((hTq'.out.more.set hSg (by omega) _).set hSg (by omega) _).set hSg (by omega) _).set hSg (by omega) _).set hSg (by omega) _).set hSg (by omega) _).set hSg (by omega) _).set hSg (by omega) _).set hSg (by omega) _).set hSg (by omega) _)
          case measure => simp [intOf]; omega
    · have hT' := hide hT
      have hkn := hide (show k = rvs.length by omega)
      clear hT
      go_wp2_with fail
      refine bodyPost_end (results_none rfl _ _ _) rfl ⟨rfl, ?_⟩
      refine (HM0.out.mono (fun i hi => hi.elim)).trans ?_
      rcases HO.out.1.2 with ⟨hv, _⟩ | ⟨g, _, _, hv, _⟩
      · exact hM (Value.slice.inj hv).1
      · exact (hT'.out g (Value.slice.inj hv).1).1.1
end Go.Proofs.YtddfdpbaiedcjaaDoor
