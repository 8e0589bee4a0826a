/- plain.Encode, plain.Decode. -/
import Derived.Test.YtddfdpbaiedcjaaDoorTurn
import Derived.Test.YtddfdpbaiedcjaaDoorTold
import Derived.Test.YtddfdpbaiedcjaaDoorWireLaw
namespace Go.Proofs.YtddfdpbaiedcjaaDoor
open Go.RowKit

/-- The same of the frames alone. -/
def okF (n : Nat) (l : List Frm) : Bool := decide (0 < l.length) && decide (n ≤ 4611686018427387903) && l.all soundF
def bodyF (n : Nat) (l : List Frm) : List UInt8 := vint n ++ l.flatMap bytesF

theorem okP_okF (n : Nat) (fs : List (Frm × Value)) : okP n fs = okF n (fs.map (·.1)) := by
  unfold okP okF sndTo
  rw [List.take_length, List.length_map, List.all_map]
  rfl

theorem body_bodyF (n : Nat) (fs : List (Frm × Value)) : body n fs = bodyF n (fs.map (·.1)) := by
  unfold body bodyF bodyTo
  rw [List.take_length, List.flatMap_map]

/-- What plain.Encode answers. -/
def PEnc (w : World) (n : Nat) (l : List Frm) (e : Ending) (w' : World) : Prop :=
  Mod NoB w w' ∧ ((okF n l = true ∧ ∃ v', e = .returned (.tuple #[v', .int .i64 0]) ∧ OB w' v' (sealed (bodyF n l)) ∧ ∀ g, v'.ownBlock = some g → w.heap.size ≤ g) ∨
    (okF n l = false ∧ e = .returned (.tuple #[.slice none 0 0, .int .i64 8])))

theorem mencode_any (n : Nat) (fs : List (Frm × Value)) (v : Value) (w : World) (h : ∀ w', Mod NoB w w' → Calls Tryd.prog 13 #[.agg #[.int .u64 (n : Int), v]] w' (Encoded w' n fs)) :
    Calls Tryd.prog 8 #[.agg #[.int .u64 (n : Int), v]] w (Encoded w n fs) := by
  have m0 : Mod NoB w (w.alloc (.cells #[.int .u64 (n : Int), v] 25)) := (Mod.refl _ _).alloc _
  have h1 := h _ m0
  have M0 := hide m0
  clear h m0
  go_enter Tryd.func8, Tryd.ntmps8
  go_wp2_with fail
  refine h1.mono ?_
  rintro e w1 (⟨ho, v1, rfl, ha⟩ | ⟨ho, rfl, hm⟩)
  · have HA := hide ha
    have HO := hide ho
    clear ha ho
    go_wp2_with fail
    go_ret2
    exact .inl ⟨HO.out, _, rfl, App.after M0.out HA.out⟩
  · have HO := hide ho
    clear ho
    go_wp2_with fail
    go_ret2
    exact .inr ⟨HO.out, rfl, M0.out.trans hm⟩

set_option maxRecDepth 100000 in
set_option maxHeartbeats 1000000 in
theorem pencode_any (n : Nat) (fs : List (Frm × Value)) (v : Value) (w : World) (h : FrsAt w v fs) (ht : Tab w) (hg : ErrT w) (hl : fs.length ≤ 1099511627775) (hb : (bodyF n (fs.map (·.1))).length ≤ 35184372088832)
    (hd : ∀ fr ∈ fs, fr.1.data.length ≤ 35184372088832 ∧ fr.1.rngs.length ≤ 1099511627776) :
    Calls Tryd.prog 4 #[.agg #[.int .u64 (n : Int), v]] w (PEnc w n (fs.map (·.1))) := by
  have m0 : Mod NoB w (w.alloc (.cells #[.int .u64 (n : Int), v] 25)) := (Mod.refl _ _).alloc _
  have k1 := copied_any n fs v _ (h.mod0 m0) hl (fun fr hfr => (hd fr hfr).2)
  have HT := hide ht
  have HG := hide hg
  have HB := hide hb
  have HD := hide hd
  have M0 := hide m0
  clear h ht hg hb hd m0
  go_enter Tryd.func4, Tryd.ntmps4
  go_wp2_with fail
  refine k1.mono ?_
  rintro e w1 ⟨v1, rvs, rfl, own1, hmap, hn1, hn2, m1⟩
  have mA : Mod NoB w (w1.alloc (.cells #[.int .u64 (n : Int), v1] 25)) := (M0.out.trans m1).alloc _
  have ownA : OwnF (w1.alloc (.cells #[.int .u64 (n : Int), v1] 25)) v1 rvs := OwnF.mod own1 ((Mod.refl NoB w1).alloc _) (fun i hi => hi.elim)
  have k2 : Calls Tryd.prog 8 #[.agg #[.int .u64 (n : Int), v1]] (w1.alloc (.cells #[.int .u64 (n : Int), v1] 25)) (Encoded _ n rvs) :=
    mencode_any n rvs v1 _ (fun w' m' => wencode_any n rvs v1 w' (ownA.frs.mod0 m') ((HT.out.mod mA (fun x => x)).mod m' (fun x => x)) (by rw [body_bodyF, hmap]; exact HB.out) (fun fr hfr => by
      have hin : fr.1 ∈ fs.map (·.1) := by rw [← hmap]; exact List.mem_map_of_mem hfr
      obtain ⟨fr', h1, h2⟩ := List.mem_map.1 hin
      rw [← h2]
      exact HD.out fr' h1))
  have HMAP := hide hmap
  have HN1 := hide hn1
  have HN2 := hide hn2
  have HA := hide mA
  have HOWN := hide ownA
  have HOP := hide (heap_alloc_new w1 (.cells #[.int .u64 (n : Int), v1] 25))
  obtain ⟨va, vc, rfl, _⟩ := own_form own1.1
  have hw1 := m1.size
  have hw1 : w.heap.size ≤ w1.heap.size := (M0.out.trans m1).size
  clear k1 hmap hn1 hn2 mA ownA own1 m1
  go_wp2_with fail
  refine k2.mono ?_
  clear k2
  rintro e w2 hE
  have m2 : Mod NoB (w1.alloc (.cells #[.int .u64 (n : Int), .slice va rvs.length vc] 25)) w2 := by
    rcases hE with ⟨_, v2, _, ha⟩ | ⟨_, _, hm⟩
    · exact ha.mod0
    · exact hm
  have o2 : w2.heap[w1.heap.size]? = some (.cells #[.int .u64 (n : Int), .slice va rvs.length vc] 25 (0, 0)) := m2.obj (fun x => x) HOP.out
  have p0 : w2.cell? ⟨w1.heap.size, 0, none⟩ = some (.int .u64 (n : Int)) := cell_of_obj o2 rfl
  have p1 : w2.cell? ⟨w1.heap.size, 1, none⟩ = some (.slice va rvs.length vc) := cell_of_obj o2 rfl
  have own2 : OwnF w2 (.slice va rvs.length vc) rvs := OwnF.mod HOWN.out m2 (fun i hi => hi.elim)
  have k3 := turn_any n rvs (.slice va rvs.length vc) w2 own2
  have hSL : ∀ i, Lists (.slice va rvs.length vc) rvs i → w.heap.size ≤ i := by
    rintro i (hi | ⟨x, hx, hi⟩)
    · have := HN1.out i hi
      simp at this
      omega
    · have := HN2.out x hx i hi
      simp at this
      omega
  have HSL := hide hSL
  have HOWN2 := hide own2
  have M2 := hide m2
  clear o2 own2 m2 hSL
  rcases hE with ⟨ho, v2, rfl, ha⟩ | ⟨ho, rfl, hm⟩
  · have hob : OB w2 v2 (sealed (bodyF n (fs.map (·.1)))) := by
      have := ha.own
      rwa [List.nil_append, body_bodyF, HMAP.out] at this
    have HAP := hide ha.at_
    have HOB := hide hob
    obtain ⟨bv, hbv⟩ : ∃ bv, bv = v2 := ⟨_, rfl⟩
    obtain ⟨ba, bc, rfl, _⟩ := own_form hob
    clear hob
    have HO := hide ho
    clear ha ho
    go_wp2_with fail
    refine k3.mono ?_
    rintro e w3 ⟨rfl, m3⟩
    have M3 := hide m3
    have k4 := number_of .nilIface 0 (-1) w3 (told_nil w3)
    clear m3 k3
    go_wp2_with fail
    refine k4.mono ?_
    rintro e w4 ⟨rfl, m4⟩
    have M4 := hide m4
    clear m4 k4
    go_wp2_with fail
    go_ret2
    refine ⟨?_, .inl ⟨?_, bv, by rw [hbv]; rfl, ?_, ?_⟩⟩
    · exact ((HA.out.trans M2.out).then M3.out (fun i hi => .inr (HSL.out i hi))).trans M4.out
    · rw [← HMAP.out, ← okP_okF]
      exact HO.out
    · rw [hbv]
      refine OB.mod0 (M3.out.owns HOB.out (fun g hg hx => ?_)) M4.out
      rcases hx with hx | ⟨x, hx, hy⟩
      · exact two_types HOWN2.out.1 HOB.out (by decide) hx hg
      · exact two_types (HOWN2.out.2 x hx).1 HOB.out (by decide) hy hg
    · intro g hg
      rw [hbv] at hg
      rcases HAP.out g hg with x | x
      · cases x
      · simp at x
        omega
  · have HO := hide ho
    clear ho hm
    go_wp2_with fail
    refine k3.mono ?_
    rintro e w3 ⟨rfl, m3⟩
    have gE : ErrT w3 := ((HG.out.mod HA.out (fun x => x)).mod M2.out (fun x => x)).mod m3 (fun hx => by
      have := HSL.out 0 hx
      have := lt_of_cell HG.out
      omega)
    have M3 := hide m3
    have k4 := number_of _ 8 (-1) w3 (told_E 8 w3 gE)
    clear m3 k3 gE
    go_wp2_with fail
    refine k4.mono ?_
    rintro e w4 ⟨rfl, m4⟩
    have M4 := hide m4
    clear m4 k4
    go_wp2_with fail
    go_ret2
    refine ⟨?_, .inr ⟨?_, rfl⟩⟩
    · exact ((HA.out.trans M2.out).then M3.out (fun i hi => .inr (HSL.out i hi))).trans M4.out
    · rw [← HMAP.out, ← okP_okF]
      exact HO.out
end Go.Proofs.YtddfdpbaiedcjaaDoor
