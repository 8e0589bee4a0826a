/- The statement Gathered, second form, its card: where what the law reads is of bulk at most 1048576, and the two listed variables read as listed, it returns true, and its argument reads behind the call as before. Part 22 of 23. -/
import Derived.Test.YtddfdpbaiedcjabGreatDoorGatheredPart21
import Derived.Test.YtddfdpbaiedcjabGreatDoorGatheredPart6
import Derived.RangeFuncNested
import Derived.RangeFuncLeaves
import Derived.Shelf.Abstract
import Derived.OwnWalkIn
import Derived.TacticsInMore
import Derived.LoopNIn
import Derived.LoopIn
import Derived.Test.YtddfdpbaiedcjabGreatDoorGatheredPart1
/- mediawirelaw.World.sets: a set and the document's beside it: Add, Has. -/
namespace Go.Proofs.YtddfdpbaiedcjabGreatDoor
open Go.RowKit

theorem any_inRs (rs : Rngs) (n : Nat) : rs.any (inR n) = true ↔ inRs rs n := by
  rw [List.any_eq_true]
  constructor
  · rintro ⟨x, hx, h⟩
    obtain ⟨i, hi⟩ := List.getElem?_of_mem hx
    have hl := (List.getElem?_eq_some_iff.1 hi).1
    have hg : rs[i]? = some (loAt rs i, hiAt rs i) := at_get hl
    rw [hi] at hg
    cases hg
    simp [inR] at h
    exact ⟨i, hl, h.1, h.2⟩
  · rintro ⟨i, hl, h1, h2⟩
    exact ⟨_, List.mem_of_getElem? (at_get hl), by simp [inR, h1, h2]⟩

theorem has_both (rs : Rngs) (fl most b n : Nat) (v : Value) (w : World) (h : SetAt w b 0 v rs fl most) (hwf : WF rs) :
    Calls Tryz.prog 40 #[.pointer (some ⟨b, 0, none⟩), .int .u64 (n : Int)] w (Says w (decide (n < fl) || rs.any (inR n))) := by
  refine (has_walk rs fl most b 0 n v w h).mono ?_
  rintro e w' ⟨m, hm, rfl, hb⟩
  refine ⟨?_, Mod.of_below hb⟩
  have := has_iff hwf hm
  rw [← any_inRs] at this
  cases hq : rs.any (inR n)
  · rw [hq] at this
    simp at this
    by_cases c : m < rs.length
    · have := this c
      simp [c]
      omega
    · simp [c]
  · rw [hq] at this
    have := this.2 rfl
    simp [this.1, this.2]

def Turned (w : World) (b k : Nat) (first : Bool) (vx vm : Value) (r : Ending) (W2 : World) : Prop := r = .returned (.tuple #[]) ∧ ∃ L' tag', SetsAt w b k first L' tag' vx vm W2

def TurnedA (w : World) (b k : Nat) (first : Bool) (vx vm : Value) (tag : Nat → Nat × Nat) (W : World) (mb lo hi : Nat) (r : Ending) (W1 : World) : Prop :=
  r = .returned (.tuple #[]) ∧ (∀ a u, tag a.block = (0, 0) → W.cell? a = some u → W1.cell? a = some u) ∧ Calls Tryz.prog 39 #[.pointer (some ⟨mb, 0, none⟩), .int .u64 (lo : Int), .int .u64 (hi : Int)] W1 (Turned w b k first vx vm)

theorem add_both {w W : World} {b k : Nat} {first : Bool} {L : List Ent} {tag : Nat → Nat × Nat} {vx vm : Value} (h : SetsAt w b k first L tag vx vm W) (i : Nat) (e : Ent) (hi0 : L[i]? = some e) (lo hi : Nat) (hlo : lo < 18446744073709551616) (hhi : hi < 18446744073709551616) (hk : k ≤ 1048576) :
    Calls Tryz.prog 38 #[.pointer (some ⟨e.b, 0, none⟩), .int .u64 (lo : Int), .int .u64 (hi : Int)] W (TurnedA w b (k + 1) first vx vm tag W e.mb lo hi) := by
  have hE := h.es i e hi0
  have hll := hE.len
  have hv : ∀ g, e.v.ownBlock = some g → g < W.heap.size := own_ltR hE.s.own
  have hbb : e.b < W.heap.size := lt_of_cell hE.s.cl
  by_cases hin : max lo e.fl ≤ hi
  · refine (add_in e.rs e.fl e.most e.b 0 lo hi e.v W hE.s hE.wf hlo hhi hE.fl hv (fun x => by
      have := hE.tv _ x
      rw [hE.tb] at this
      simp at this) hin hE.m1 hE.m2 (fun m1 m2 h1 h2 => addRs_wf hE.wf hin hhi h1 h2)).mono ?_
    rintro r W1 ⟨m1, m2, v', rs', fl', h1, h2, heq, rfl, hown, hheap, hmod, hnw⟩
    refine ⟨rfl, fun a u ht hc => hmod.cell (fun x => ?_) hc, ?_⟩
    · rcases x with x | x
      · rw [x, hE.tb] at ht
        simp at ht
      · rw [hE.tv _ x] at ht
        simp at ht
    have hr1 : RSetAt W1 e.mb e.mv e.rs e.fl e.most := hE.r.mod hmod (fun x => by
        rcases x with x | x
        · have := hE.tm
          rw [x, hE.tb] at this
          simp at this
        · have := hE.tv _ x
          rw [hE.tm] at this
          simp at this) (fun g o n c ee x => by
        have q := hE.tw g o n c ee
        rcases x with x | x
        · rw [x, hE.tb] at q
          simp at q
        · rw [hE.tv _ x] at q
          simp at q)
    refine (radd_in e.rs e.fl e.most e.mb lo hi m1 m2 e.mv W1 hr1 hE.wf hlo hhi hE.fl hE.m1 hE.m2 (by omega) hin h1 h2).mono ?_
    rintro r W2 ⟨rfl, mv', rs2, fl2, heq2, hr2, hfr, hmod2⟩
    refine ⟨rfl, ?_⟩
    have hx : (rs', fl') = (rs2, fl2) := heq.trans heq2.symm
    cases hx
    clear heq2
    have hft := from_le_to hE.wf hin h1 h2
    have hm2' := h2.1
    have hl := addRs_length e.rs (max lo e.fl) hi m1 m2 hft h2.1
    have hwf' := addRs_wf hE.wf hin hhi h1 h2
    have z1 := hmod.size
    have hf : WF rs' ∧ rs'.length ≤ e.rs.length + 1 ∧ 0 < rs'.length ∧ fl' < 18446744073709551616 := by
      split at heq
      · rename_i hc
        cases heq
        have hm1 := hE.m1
        refine ⟨⟨fun j hj => ?_, fun j j' hj hj' => ?_⟩, ?_, ?_, ?_⟩
        · rw [List.length_drop] at hj
          rw [(at_drop _ 1 j).1, (at_drop _ 1 j).2]
          exact hwf'.1 (1 + j) (by omega)
        · rw [List.length_drop] at hj'
          rw [(at_drop _ 1 j).2, (at_drop _ 1 j').1]
          exact hwf'.2 (1 + j) (1 + j') (by omega) (by omega)
        · rw [List.length_drop]
          omega
        · rw [List.length_drop]
          omega
        · have q1 := hwf'.2 0 1 (by omega) (by omega)
          have q2 := hwf'.1 1 (by omega)
          omega
      · cases heq
        exact ⟨hwf', by omega, by omega, hE.fl⟩
    have hcl : ((W.setCell ⟨e.b, 0, none⟩ v').setCell ⟨e.b, 0 + 1, none⟩ (.int .u64 (fl' : Int))).cell? ⟨e.b, 0, none⟩ = some v' := by
      rw [World.cell?_setCell_other _ _ _ _ (by simp), World.cell?_setCell_same _ _ _ hE.s.cl]
    have hcf : ((W.setCell ⟨e.b, 0, none⟩ v').setCell ⟨e.b, 0 + 1, none⟩ (.int .u64 (fl' : Int))).cell? ⟨e.b, 0 + 1, none⟩ = some (.int .u64 (fl' : Int)) := by
      rw [World.cell?_setCell_same _ _ _ (u := .int .u64 (e.fl : Int))]
      rw [World.cell?_setCell_other _ _ _ _ (by simp)]
      exact hE.s.cf
    have hcm : ((W.setCell ⟨e.b, 0, none⟩ v').setCell ⟨e.b, 0 + 1, none⟩ (.int .u64 (fl' : Int))).cell? ⟨e.b, 0 + 2, none⟩ = some (.int .i64 (e.most : Int)) := by
      rw [World.cell?_setCell_other _ _ _ _ (by simp), World.cell?_setCell_other _ _ _ _ (by simp)]
      exact hE.s.cm
    have hs1 : SetAt W1 e.b 0 v' rs' fl' e.most := ⟨(World.cell?_of_block hheap).trans hcl, (World.cell?_of_block hheap).trans hcf, (World.cell?_of_block hheap).trans hcm, hown, by omega, fun j => by
      rw [World.frozen?_of_block hheap, World.frozen?_setCell, World.frozen?_setCell]
      exact hE.s.fz j⟩
    have hmb : e.mb < W.heap.size := (Array.getElem?_eq_some_iff.1 hE.r.obj).1
    have hbm : e.b ≠ e.mb := fun x => by
      have := hE.tm
      rw [← x, hE.tb] at this
      simp at this
    have hs2 : SetAt W2 e.b 0 v' rs' fl' e.most := hs1.mod hmod2 hbm (fun g hg x => by
      subst x
      rcases hnw _ hg with q | q
      · have := hE.tv _ q
        rw [hE.tm] at this
        simp at this
      · omega)
    obtain ⟨tag', ht⟩ := h.turn hi0 (e' := ⟨e.b, v', e.mb, mv', rs', fl', e.most⟩) rfl rfl hmod hmod2 hs2 hr2 hf.1 (by have := hf.2.1; show rs'.length ≤ _; omega) hE.m1 hE.m2 hf.2.2.2
      (fun g hg => by
        rcases hnw g hg with q | q
        · exact .inl q
        · exact .inr ⟨q, own_ltR hown g hg⟩)
      (fun g o n c ee => ⟨hfr g o n c ee, by
        obtain ⟨a, cap, e1, _, _, hq⟩ := hr2.rd
        have e1 : mv' = .slice a rs'.length cap := e1
        have ee : mv' = .slice (some ⟨g, o, none⟩) n c := ee
        obtain ⟨g', o', e2, hc, _⟩ := hq 0 hf.2.2.1
        rw [e1] at ee
        cases ee
        cases e2
        exact lt_of_cell hc⟩)
    exact ⟨_, tag', ht⟩
  · refine (add_out e.rs e.fl e.most e.b 0 lo hi e.v W hE.s hv (by omega)).mono ?_
    rintro r W1 ⟨rfl, m1⟩
    refine ⟨rfl, fun a u _ hc => m1.cell (fun x => x) hc, ?_⟩
    refine (radd_none e.rs e.fl e.most e.mb lo hi e.mv W1 (hE.r.mod m1 (fun x => x) (fun _ _ _ _ _ x => x)) hlo hhi hE.fl (by omega)).mono ?_
    rintro r W2 ⟨rfl, m2⟩
    exact ⟨rfl, L, tag, h.mod0 (m1.trans m2) (Nat.le_succ k)⟩

/-- Where the pointers of the sets lie. -/
theorem SetsAt.rows {w W : World} {b k : Nat} {first : Bool} {L : List Ent} {tag : Nat → Nat × Nat} {vx vm : Value} (h : SetsAt w b k first L tag vx vm W) (hL : 0 < L.length) :
    ∃ gx cx gm cm, vx = .slice (some ⟨gx, 0, none⟩) L.length cx ∧ vm = .slice (some ⟨gm, 0, none⟩) L.length cm ∧ L.length ≤ cx ∧ L.length ≤ cm ∧ cx ≤ 9223372036854775807 ∧ cm ≤ 9223372036854775807 ∧
      ∀ i e, L[i]? = some e → W.cell? ⟨gx, i, none⟩ = some (.pointer (some ⟨e.b, 0, none⟩)) ∧ W.cell? ⟨gm, i, none⟩ = some (.pointer (some ⟨e.mb, 0, none⟩)) := by
  have ox := h.ox
  have om := h.om
  obtain ⟨ax, cx, rfl, x1, x2, x3⟩ := own_form ox
  obtain ⟨am, cm, rfl, y1, y2, y3⟩ := own_form om
  obtain ⟨gx, rfl⟩ := x3 hL
  obtain ⟨gm, rfl⟩ := y3 hL
  unfold maxLen at x2 y2
  refine ⟨gx, cx, gm, cm, rfl, rfl, x1, y1, by omega, by omega, fun i e hi => ⟨?_, ?_⟩⟩
  · have := ox.cells (g := gx) rfl i (.pointer (some ⟨e.b, 0, none⟩)) (by simp [psx, hi])
    rw [addr_add, Nat.zero_add] at this
    exact this
  · have := om.cells (g := gm) rfl i (.pointer (some ⟨e.mb, 0, none⟩)) (by simp [psm, hi])
    rw [addr_add, Nat.zero_add] at this
    exact this

set_option maxRecDepth 100000 in
set_option maxHeartbeats 2000000 in
theorem sets_none (w : World) (b k : Nat) (first : Bool) (tag : Nat → Nat × Nat) (vx vm : Value) (o : Stp) (W : World) (h : SetsAt w b k first [] tag vx vm W) (hk : o.kind ≠ 18) :
    Calls Tryz.prog 17 #[.pointer (some ⟨b, 0, none⟩), .agg (stCells o)] W (SetsPost w b (k + 1) first) := by
  obtain ⟨W2, hW2⟩ : ∃ W2, W.alloc (.cells (stCells o) 39) = W2 := ⟨_, rfl⟩
  have m2 : Mod NoB W W2 := by rw [← hW2]; exact (Mod.refl _ _).alloc _
  have oX : W2.heap[W.heap.size]? = some (.cells (stCells o) 39 (0, 0)) := by rw [← hW2]; exact heap_alloc_new W _
  have h2 := h.mod0 m2 (Nat.le_succ k)
  have HP : Hid (SetsAt w b (k + 1) first [] tag vx vm W2) := hide h2
  obtain ⟨ax, cx, rfl, x1, x2, x3⟩ := own_form h2.ox
  have x0 : W2.cell? ⟨W.heap.size, 0, none⟩ = some (.int .i64 o.kind) := cell_of_obj oX rfl
  have cb3 : W2.cell? ⟨b, 3, none⟩ = some (.slice ax [].length cx) := cell_of_obj h2.obj rfl
  have bz : (o.kind == 18) = false := beq_eq_false_iff_ne.2 hk
  simp only [List.length_nil] at cb3
  unfold stCells at hW2
  unfold stCells
  have z0 := x0
  have zb := cb3
  rw [← hW2] at z0 zb
  have HW2 := hide hW2
  clear h h2 x1 x2 x3 m2 oX hk hW2
  go_enter Tryz.func17, Tryz.ntmps17
  go_wp2_with fail
  rw [HW2.out]
  go_wp2_with fail
  go_ret
  exact ⟨rfl, _, _, _, _, HP.out⟩

set_option maxRecDepth 100000 in
set_option maxHeartbeats 2000000 in
theorem sets_add (w : World) (b k : Nat) (first : Bool) (L : List Ent) (tag : Nat → Nat × Nat) (vx vm : Value) (o : Stp) (W : World) (h : SetsAt w b k first L tag vx vm W) (hL : 0 < L.length) (hk : o.kind = 19) (hw : o.Wf) (hkk : k ≤ 1048576) :
    Calls Tryz.prog 17 #[.pointer (some ⟨b, 0, none⟩), .agg (stCells o)] W (SetsPost w b (k + 1) first) := by
  obtain ⟨W2, hW2⟩ : ∃ W2, W.alloc (.cells (stCells o) 39) = W2 := ⟨_, rfl⟩
  have m2 : Mod NoB W W2 := by rw [← hW2]; exact (Mod.refl _ _).alloc _
  have oX : W2.heap[W.heap.size]? = some (.cells (stCells o) 39 (0, 0)) := by rw [← hW2]; exact heap_alloc_new W _
  have h2 := h.mod0 m2 (Nat.le_refl k)
  have hll := h2.le
  have hp := lpick_any o.a L.length
  obtain ⟨i, hi⟩ : ∃ i, pickL o.a L.length = i := ⟨_, rfl⟩
  have hil : i < L.length := by rw [← hi]; exact pickL_lt _ _ hL
  rw [hi] at hp
  have kp := fun w => hp w hw.1 hw.2.1 hL (by omega)
  obtain ⟨e, he⟩ : ∃ e, L[i]? = some e := ⟨L[i], List.getElem?_eq_getElem hil⟩
  obtain ⟨lo, hlo⟩ : ∃ lo : Nat, IntKind.u64.wrap o.b = (lo : Int) := ⟨(IntKind.u64.wrap o.b).toNat, by rw [IntKind.wrap_u64]; omega⟩
  obtain ⟨hh, hhi⟩ : ∃ hh : Nat, IntKind.u64.wrap o.c = (hh : Int) := ⟨(IntKind.u64.wrap o.c).toNat, by rw [IntKind.wrap_u64]; omega⟩
  have blo : lo < 18446744073709551616 := by rw [IntKind.wrap_u64] at hlo; omega
  have bhi : hh < 18446744073709551616 := by rw [IntKind.wrap_u64] at hhi; omega
  have ka := add_both (h2.mod0 ((Mod.refl _ _).drew) (Nat.le_refl k)) i e he lo hh blo bhi hkk
  obtain ⟨gx, cx, gm, cm, rfl, rfl, x1, y1, x2, y2, hr⟩ := h2.rows hL
  obtain ⟨r1, r2⟩ := hr i e he
  have x0 : W2.cell? ⟨W.heap.size, 0, none⟩ = some (.int .i64 19) := by rw [← hk]; exact cell_of_obj oX rfl
  have xa : W2.cell? ⟨W.heap.size, 1, none⟩ = some (.int .i64 o.a) := cell_of_obj oX rfl
  have xb : W2.cell? ⟨W.heap.size, 2, none⟩ = some (.int .i64 o.b) := cell_of_obj oX rfl
  have xc : W2.cell? ⟨W.heap.size, 3, none⟩ = some (.int .i64 o.c) := cell_of_obj oX rfl
  have cb3 : W2.cell? ⟨b, 3, none⟩ = some (.slice (some ⟨gx, 0, none⟩) L.length cx) := cell_of_obj h2.obj rfl
  have cb4 : W2.cell? ⟨b, 4, none⟩ = some (.slice (some ⟨gm, 0, none⟩) L.length cm) := cell_of_obj h2.obj rfl
  have HT : Hid (tag W.heap.size = (0, 0)) := hide (h.t0 _ (Nat.le_refl _))
  have KA := hide ka
  unfold stCells at hW2
  unfold stCells
  rw [hk] at hW2
  rw [hk]
  have z0 := x0
  have za := xa
  have zb := cb3
  rw [← hW2] at z0 za zb
  have HW2 := hide hW2
  have d1 : (i : Int) < L.length := by omega
  have d2 : (0 : Int) < L.length := by omega
  clear h h2 m2 oX hW2 ka hr hp hi he hw
  go_enter Tryz.func17, Tryz.ntmps17
  go_wp2_with fail
  rw [HW2.out]
  refine GT_start 9 (fun w' => w' = W2.drew) (by kernel_rfl) (by kernel_rfl) (rfl) ?_
  refine GT_take (i := 0) (v := ?_) rfl (by kernel_rfl) (fun _ _ _ h => h) (Or.inl ⟨by rfl, ?_⟩) ?_
  rotate_left
  · (intro wx hFx; (try dsimp only at hFx); subst hFx; go_simp) <;> (try with_reducible rfl)
  try simp only [Act.put, List.setIfInBounds_toArray, List.set_cons_zero, List.set_cons_succ, List.getElem_toArray, List.getElem_cons_zero, List.getElem_cons_succ]
  refine GT_take (i := 1) (v := ?_) rfl (by kernel_rfl) (fun _ _ _ h => h) (Or.inl ⟨by rfl, ?_⟩) ?_
  rotate_left
  · (intro wx hFx; (try dsimp only at hFx); subst hFx; go_simp) <;> (try with_reducible rfl)
  try simp only [Act.put, List.setIfInBounds_toArray, List.set_cons_zero, List.set_cons_succ, List.getElem_toArray, List.getElem_cons_zero, List.getElem_cons_succ]
  refine GT_take (i := 2) (v := ?_) rfl (by kernel_rfl) (fun _ _ _ h => h) (Or.inl ⟨by rfl, ?_⟩) ?_
  rotate_left
  · (intro wx hFx; (try dsimp only at hFx); subst hFx; go_simp) <;> (try with_reducible rfl)
  try simp only [Act.put, List.setIfInBounds_toArray, List.set_cons_zero, List.set_cons_succ, List.getElem_toArray, List.getElem_cons_zero, List.getElem_cons_succ]
  refine GT_take (i := 3) (v := ?_) rfl (by kernel_rfl) (fun _ _ _ h => h) (Or.inl ⟨by rfl, ?_⟩) ?_
  rotate_left
  · (intro wx hFx; (try dsimp only at hFx); subst hFx; go_simp) <;> (try with_reducible rfl)
  try simp only [Act.put, List.setIfInBounds_toArray, List.set_cons_zero, List.set_cons_succ, List.getElem_toArray, List.getElem_cons_zero, List.getElem_cons_succ]
  refine GT_take (i := 4) (v := ?_) rfl (by kernel_rfl) (fun _ _ _ h => h) (Or.inl ⟨by rfl, ?_⟩) ?_
  rotate_left
  · (intro wx hFx; (try dsimp only at hFx); subst hFx; go_simp) <;> (try with_reducible rfl)
  try simp only [Act.put, List.setIfInBounds_toArray, List.set_cons_zero, List.set_cons_succ, List.getElem_toArray, List.getElem_cons_zero, List.getElem_cons_succ]
  refine GT_take (i := 5) (v := ?_) rfl (by kernel_rfl) (fun _ _ _ h => h) (Or.inl ⟨by rfl, ?_⟩) ?_
  rotate_left
  · (intro wx hFx; (try dsimp only at hFx); subst hFx; go_simp) <;> (try with_reducible rfl)
  try simp only [Act.put, List.setIfInBounds_toArray, List.set_cons_zero, List.set_cons_succ, List.getElem_toArray, List.getElem_cons_zero, List.getElem_cons_succ]
  refine GT_take (i := 6) (v := ?_) rfl (by kernel_rfl) (fun _ _ _ h => h) (Or.inl ⟨by rfl, ?_⟩) ?_
  rotate_left
  · (intro wx hFx; (try dsimp only at hFx); subst hFx; go_simp) <;> (try with_reducible rfl)
  try simp only [Act.put, List.setIfInBounds_toArray, List.set_cons_zero, List.set_cons_succ, List.getElem_toArray, List.getElem_cons_zero, List.getElem_cons_succ]
  refine GT_one (i := 7) rfl (by kernel_rfl) (fun K hK => ?_)
  go_simp
  refine (kp _).mono ?_
  rintro _ _ ⟨rfl, rfl⟩
  refine hK.out _ _ rfl ?_
  clear hK K
  try simp only [Act.put, List.setIfInBounds_toArray, List.set_cons_zero, List.set_cons_succ, List.getElem_toArray, List.getElem_cons_zero, List.getElem_cons_succ]
  refine GT_take (i := 8) (v := ?_) rfl (by kernel_rfl) (fun _ _ _ h => h) (Or.inl ⟨by rfl, ?_⟩) ?_
  rotate_left
  · (intro wx hFx; (try dsimp only at hFx); subst hFx; go_simp) <;> (try with_reducible rfl)
  try simp only [Act.put, List.setIfInBounds_toArray, List.set_cons_zero, List.set_cons_succ, List.getElem_toArray, List.getElem_cons_zero, List.getElem_cons_succ]
  refine GT_done (by kernel_rfl) ?_
  clear z0 za zb
  go_wp2_with fail
  refine KA.out.mono ?_
  rintro _ W3 ⟨rfl, hc, kb⟩
  have xb3 := hc ⟨W.heap.size, 2, none⟩ _ HT.out xb
  have xc3 := hc ⟨W.heap.size, 3, none⟩ _ HT.out xc
  have KB := hide kb
  clear hc kb x0 xa xb xc cb3 cb4 r1 r2
  go_wp2_with fail
  refine KB.out.mono ?_
  rintro _ W4 ⟨rfl, L', tag', h4⟩
  have H4 := hide h4
  clear h4 xb3 xc3
  go_wp2_with fail
  go_ret
  exact ⟨rfl, _, _, _, _, H4.out⟩

set_option maxRecDepth 100000 in
set_option maxHeartbeats 2000000 in
theorem sets_has (w : World) (b k : Nat) (first : Bool) (L : List Ent) (tag : Nat → Nat × Nat) (vx vm : Value) (o : Stp) (W : World) (h : SetsAt w b k first L tag vx vm W) (hL : 0 < L.length) (hk : o.kind = 20) (hw : o.Wf) (hkk : k ≤ 1048576) :
    Calls Tryz.prog 17 #[.pointer (some ⟨b, 0, none⟩), .agg (stCells o)] W (SetsPost w b (k + 1) first) := by
  obtain ⟨W2, hW2⟩ : ∃ W2, W.alloc (.cells (stCells o) 39) = W2 := ⟨_, rfl⟩
  have m2 : Mod NoB W W2 := by rw [← hW2]; exact (Mod.refl _ _).alloc _
  have oX : W2.heap[W.heap.size]? = some (.cells (stCells o) 39 (0, 0)) := by rw [← hW2]; exact heap_alloc_new W _
  have h2 := h.mod0 m2 (Nat.le_refl k)
  have hll := h2.le
  have hp := lpick_any o.a L.length
  obtain ⟨i, hi⟩ : ∃ i, pickL o.a L.length = i := ⟨_, rfl⟩
  have hil : i < L.length := by rw [← hi]; exact pickL_lt _ _ hL
  rw [hi] at hp
  have kp := fun w => hp w hw.1 hw.2.1 hL (by omega)
  obtain ⟨e, he⟩ : ∃ e, L[i]? = some e := ⟨L[i], List.getElem?_eq_getElem hil⟩
  obtain ⟨lo, hlo⟩ : ∃ lo : Nat, IntKind.u64.wrap o.b = (lo : Int) := ⟨(IntKind.u64.wrap o.b).toNat, by rw [IntKind.wrap_u64]; omega⟩
  obtain ⟨t, ht⟩ : ∃ t, (decide (lo < e.fl) || e.rs.any (inR lo)) = t := ⟨_, rfl⟩
  have hE := h2.es i e he
  have ka := has_both e.rs e.fl e.most e.b lo e.v W2.drew (hE.s.mod ((Mod.refl NoB _).drew) (fun x => x) (fun _ _ x => x)) hE.wf
  rw [ht] at ka
  have kb := fun W3 (m : Mod NoB W2 W3) => rhas_any e.rs e.fl e.most e.mb lo e.mv W3 (hE.r.mod m (fun x => x) (fun _ _ _ _ _ x => x))
  rw [ht] at kb
  have kf := fun W3 (m : Mod NoB W2 W3) => floor_walk e.rs e.fl e.most e.b 0 e.v W3 (hE.s.mod m (fun x => x) (fun _ _ x => x))
  have cf := fun W3 (m : Mod NoB W2 W3) => show W3.cell? ⟨e.mb, 1, none⟩ = some (.int .u64 (e.fl : Int)) from cell_of_obj (m.obj (fun x => x) hE.r.obj) rfl
  obtain ⟨gx, cx, gm, cm, rfl, rfl, x1, y1, x2, y2, hr⟩ := h2.rows hL
  obtain ⟨r1, r2⟩ := hr i e he
  have x0 : W2.cell? ⟨W.heap.size, 0, none⟩ = some (.int .i64 20) := by rw [← hk]; exact cell_of_obj oX rfl
  have xa : W2.cell? ⟨W.heap.size, 1, none⟩ = some (.int .i64 o.a) := cell_of_obj oX rfl
  have xb : W2.cell? ⟨W.heap.size, 2, none⟩ = some (.int .i64 o.b) := cell_of_obj oX rfl
  have cb3 : W2.cell? ⟨b, 3, none⟩ = some (.slice (some ⟨gx, 0, none⟩) L.length cx) := cell_of_obj h2.obj rfl
  have cb4 : W2.cell? ⟨b, 4, none⟩ = some (.slice (some ⟨gm, 0, none⟩) L.length cm) := cell_of_obj h2.obj rfl
  have H2 := hide h2
  have KA := hide ka
  have KB := hide kb
  have KF := hide kf
  have CF := hide cf
  unfold stCells at hW2
  unfold stCells
  rw [hk] at hW2
  rw [hk]
  have z0 := x0
  have za := xa
  have zb := cb3
  rw [← hW2] at z0 za zb
  have HW2 := hide hW2
  have d1 : (i : Int) < L.length := by omega
  have d2 : (0 : Int) < L.length := by omega
  clear h h2 m2 oX hW2 ka kb kf cf hr hp hi he hw hE ht
  go_enter Tryz.func17, Tryz.ntmps17
  go_wp2_with fail
  rw [HW2.out]
  refine GT_start 9 (fun w' => w' = W2.drew) (by kernel_rfl) (by kernel_rfl) (rfl) ?_
  refine GT_take (i := 0) (v := ?_) rfl (by kernel_rfl) (fun _ _ _ h => h) (Or.inl ⟨by rfl, ?_⟩) ?_
  rotate_left
  · (intro wx hFx; (try dsimp only at hFx); subst hFx; go_simp) <;> (try with_reducible rfl)
  try simp only [Act.put, List.setIfInBounds_toArray, List.set_cons_zero, List.set_cons_succ, List.getElem_toArray, List.getElem_cons_zero, List.getElem_cons_succ]
  refine GT_take (i := 1) (v := ?_) rfl (by kernel_rfl) (fun _ _ _ h => h) (Or.inl ⟨by rfl, ?_⟩) ?_
  rotate_left
  · (intro wx hFx; (try dsimp only at hFx); subst hFx; go_simp) <;> (try with_reducible rfl)
  try simp only [Act.put, List.setIfInBounds_toArray, List.set_cons_zero, List.set_cons_succ, List.getElem_toArray, List.getElem_cons_zero, List.getElem_cons_succ]
  refine GT_take (i := 2) (v := ?_) rfl (by kernel_rfl) (fun _ _ _ h => h) (Or.inl ⟨by rfl, ?_⟩) ?_
  rotate_left
  · (intro wx hFx; (try dsimp only at hFx); subst hFx; go_simp) <;> (try with_reducible rfl)
  try simp only [Act.put, List.setIfInBounds_toArray, List.set_cons_zero, List.set_cons_succ, List.getElem_toArray, List.getElem_cons_zero, List.getElem_cons_succ]
  refine GT_take (i := 3) (v := ?_) rfl (by kernel_rfl) (fun _ _ _ h => h) (Or.inl ⟨by rfl, ?_⟩) ?_
  rotate_left
  · (intro wx hFx; (try dsimp only at hFx); subst hFx; go_simp) <;> (try with_reducible rfl)
  try simp only [Act.put, List.setIfInBounds_toArray, List.set_cons_zero, List.set_cons_succ, List.getElem_toArray, List.getElem_cons_zero, List.getElem_cons_succ]
  refine GT_take (i := 4) (v := ?_) rfl (by kernel_rfl) (fun _ _ _ h => h) (Or.inl ⟨by rfl, ?_⟩) ?_
  rotate_left
  · (intro wx hFx; (try dsimp only at hFx); subst hFx; go_simp) <;> (try with_reducible rfl)
  try simp only [Act.put, List.setIfInBounds_toArray, List.set_cons_zero, List.set_cons_succ, List.getElem_toArray, List.getElem_cons_zero, List.getElem_cons_succ]
  refine GT_take (i := 5) (v := ?_) rfl (by kernel_rfl) (fun _ _ _ h => h) (Or.inl ⟨by rfl, ?_⟩) ?_
  rotate_left
  · (intro wx hFx; (try dsimp only at hFx); subst hFx; go_simp) <;> (try with_reducible rfl)
  try simp only [Act.put, List.setIfInBounds_toArray, List.set_cons_zero, List.set_cons_succ, List.getElem_toArray, List.getElem_cons_zero, List.getElem_cons_succ]
  refine GT_take (i := 6) (v := ?_) rfl (by kernel_rfl) (fun _ _ _ h => h) (Or.inl ⟨by rfl, ?_⟩) ?_
  rotate_left
  · (intro wx hFx; (try dsimp only at hFx); subst hFx; go_simp) <;> (try with_reducible rfl)
  try simp only [Act.put, List.setIfInBounds_toArray, List.set_cons_zero, List.set_cons_succ, List.getElem_toArray, List.getElem_cons_zero, List.getElem_cons_succ]
  refine GT_one (i := 7) rfl (by kernel_rfl) (fun K hK => ?_)
  go_simp
  refine (kp _).mono ?_
  rintro _ _ ⟨rfl, rfl⟩
  refine hK.out _ _ rfl ?_
  clear hK K
  try simp only [Act.put, List.setIfInBounds_toArray, List.set_cons_zero, List.set_cons_succ, List.getElem_toArray, List.getElem_cons_zero, List.getElem_cons_succ]
  refine GT_take (i := 8) (v := ?_) rfl (by kernel_rfl) (fun _ _ _ h => h) (Or.inl ⟨by rfl, ?_⟩) ?_
  rotate_left
  · (intro wx hFx; (try dsimp only at hFx); subst hFx; go_simp) <;> (try with_reducible rfl)
  try simp only [Act.put, List.setIfInBounds_toArray, List.set_cons_zero, List.set_cons_succ, List.getElem_toArray, List.getElem_cons_zero, List.getElem_cons_succ]
  refine GT_done (by kernel_rfl) ?_
  clear z0 za zb
  go_wp2_with fail
  refine KA.out.mono ?_
  rintro _ W3 ⟨rfl, m3⟩
  have xb3 := m3.cell (a := ⟨W.heap.size, 2, none⟩) (fun x => x) xb
  have M3 := hide ((Mod.refl NoB W2).drew.trans m3)
  clear m3 x0 xa xb cb3 cb4 r1 r2
  go_wp2_with fail
  refine (KB.out _ M3.out).mono ?_
  rintro _ W4 ⟨rfl, m4⟩
  have M4 := hide (M3.out.trans m4)
  clear m4 xb3
  go_wp2_with fail
  refine (KF.out _ M4.out).mono ?_
  rintro _ _ ⟨rfl, rfl⟩
  have cf := CF.out _ M4.out
  go_wp2_with fail
  go_ret
  exact ⟨rfl, _, _, _, _, H2.out.mod0 M4.out (Nat.le_succ k)⟩
end Go.Proofs.YtddfdpbaiedcjabGreatDoor
/- slices.Backward over ranges: the closure that it hands back goes through them from the last one on. -/
namespace Go.Proofs.YtddfdpbaiedcjabGreatDoor
open Go.RowKit Go.Shelf

attribute [local go_sem] Oper.semAt_some

/-- What has come when k rounds are over. -/
def backTo (rs : Rngs) (k : Nat) : List (Nat × (Nat × Nat)) := (List.range k).map fun j => (rs.length - 1 - j, (loAt rs (rs.length - 1 - j), hiAt rs (rs.length - 1 - j)))
theorem backTo_succ (rs : Rngs) (k : Nat) : backTo rs (k + 1) = backTo rs k ++ [(rs.length - 1 - k, (loAt rs (rs.length - 1 - k), hiAt rs (rs.length - 1 - k)))] := by simp [backTo, List.range_succ]
theorem backTo_length (rs : Rngs) (k : Nat) : (backTo rs k).length = k := by simp [backTo]

def encP (x : Nat × (Nat × Nat)) : Array Value := #[.int .i64 (x.1 : Int), .agg #[.int .u64 (x.2.1 : Int), .int .u64 (x.2.2 : Int)]]

/-- The box of the slice, and its row, lie as they lay. -/
def KeptB (Bs : Nat) (a : Option Addr) (W W' : World) : Prop := W'.heap[Bs]? = W.heap[Bs]? ∧ ∀ g o, a = some ⟨g, o, none⟩ → W'.heap[g]? = W.heap[g]?
theorem KeptB.refl (Bs : Nat) (a : Option Addr) (W : World) : KeptB Bs a W W := ⟨rfl, fun _ _ _ => rfl⟩
theorem KeptB.trans {Bs : Nat} {a : Option Addr} {A B C : World} (h : KeptB Bs a A B) (k : KeptB Bs a B C) : KeptB Bs a A C := ⟨k.1.trans h.1, fun g o e => (k.2 g o e).trans (h.2 g o e)⟩
theorem KeptB.box {Bs : Nat} {a : Option Addr} {A B : World} {v : Value} (h : KeptB Bs a A B) (hc : A.cell? ⟨Bs, 0, none⟩ = some v) : B.cell? ⟨Bs, 0, none⟩ = some v := (World.cell?_of_block h.1).trans hc
theorem KeptB.row {Bs g o x : Nat} {A B : World} {v : Value} (h : KeptB Bs (some ⟨g, o, none⟩) A B) (hc : A.cell? ⟨g, x, none⟩ = some v) : B.cell? ⟨g, x, none⟩ = some v := (World.cell?_of_block (h.2 g o rfl)).trans hc

set_option maxRecDepth 100000 in
set_option maxHeartbeats 2000000 in
theorem back1_in (F : Fence) (n : Nat) (hF : F.fn 152) (hro : F.round = none) (hn : 1 ≤ n) (l Bs cap : Nat) (a : Option Addr) (rs : Rngs) (J Jx : List (Nat × (Nat × Nat)) → World → Prop)
    (hY : ∀ pre x W, J pre W → pre.length < rs.length → YieldAt F (n - 1) Tryz.prog l (encP x) W fun e W' =>
      (e = .returned (.bool true) ∧ J (pre ++ [x]) W' ∧ KeptB Bs a W W') ∨ (e = .returned (.bool false) ∧ Jx (pre ++ [x]) W'))
    (W : World) (hBs : W.cell? ⟨Bs, 0, none⟩ = some (.slice a rs.length cap)) (hr : RR W (.slice a rs.length cap) rs) (h0 : J [] W) :
    CallsIn F n Tryz.prog 152 #[.func (.yield l) #[] #[], .pointer (some ⟨Bs, 0, none⟩)] W fun e W' => (∃ v, e = .returned v) ∧
      ((∃ ys, ys = backTo rs rs.length ∧ J ys W') ∨ (∃ pre, (∃ k, k ≤ rs.length ∧ pre = backTo rs k) ∧ Jx pre W')) := by
  obtain ⟨_, _, e, r1, r2, r3⟩ := hr
  cases e
  unfold maxLen at r2
  have hlen : (rs.length : Int) ≤ 9223372036854775807 := by omega
  refine callsIn_of_wp Tryz.func152 rfl hF ?_ hro
  simp only [Tryz.ntmps152, List.size_toArray, List.length_cons, List.length_nil, Nat.reduceAdd, Nat.reduceSub, Array.replicate_succ, Array.replicate_zero, List.push_toArray, List.append_toArray, List.nil_append, List.cons_append]
  gi_wp2
  gi_loopw [3] (fun i wr => ∃ k : Nat, k ≤ rs.length ∧ i = .int .i64 ((rs.length : Int) - 1 - k) ∧ J (backTo rs k) wr ∧ KeptB Bs a W wr) (fun i _ => (intOf i + 1).toNat)
  case atStart => exact ⟨0, Nat.zero_le _, by simp, h0, KeptB.refl _ _ _⟩
  case round =>
    obtain ⟨k, hk, rfl, hJs, hnx⟩ := hrel
    by_cases hlt : k < rs.length
    · obtain ⟨q, hq⟩ : ∃ q, rs.length - 1 - k = q := ⟨_, rfl⟩
      have hqi : (rs.length : Int) - 1 - k = (q : Int) := by omega
      have hql : q < rs.length := by omega
      obtain ⟨g, o, rfl, c1, c2, _, _⟩ := r3 q hql
      have hBs' := hnx.box hBs
      have c1' := hnx.row c1
      have c2' := hnx.row c2
      obtain ⟨fn, tmps, assign, body, hy, hR⟩ := hY _ (q, (loAt rs q, hiAt rs q)) wr hJs (by rw [backTo_length]; exact hlt)
      have HB := hide (backTo_succ rs k)
      have HQ := hide hq
      have HJ := hide hJs
      have HQI := hide hqi
      unfold encP at hy
      dsimp only at hy
      rw [hqi]
      clear hq hJs r3 c1 c2 hqi
      gi_wp2
      refine hR.mono ?_
      clear hR hY
      rintro e W3 (⟨rfl, hJ3, hk3⟩ | ⟨rfl, hJx3⟩)
      · have HJ3 : Hid (J (backTo rs (k + 1)) W3) := by
          show J _ _
          rw [HB.out, HQ.out]
          exact hJ3
        have HN3 := hide (hnx.trans hk3)
        clear hJ3 hk3 hnx hBs' c1' c2' hBs
        gi_wp2
        go_roundw
        case rel => exact ⟨k + 1, by omega, by rw [← HQI.out]; congr 1; omega, HJ3.out, HN3.out⟩
        case measure => simp [intOf]
      · have HJ3 : Hid (Jx (backTo rs (k + 1)) W3) := by
          show Jx _ _
          rw [HB.out, HQ.out]
          exact hJx3
        clear hJx3 hnx hBs' c1' c2' hBs
        gi_wp2
        refine bodyPost_ret (results_none rfl _ _ _) rfl ?_
        exact ⟨⟨_, rfl⟩, .inr ⟨_, ⟨k + 1, by omega, rfl⟩, HJ3.out⟩⟩
    · have hkn : k = rs.length := by omega
      have HJ := hide hJs
      have HK := hide hkn
      have hneg : ¬ (0 : Int) ≤ (rs.length : Int) - 1 - k := by omega
      clear hJs hkn r3 hY
      gi_wp2
      go_end0
      exact ⟨⟨_, rfl⟩, .inl (by rw [← HK.out]; exact HJ.out)⟩

set_option maxHeartbeats 1000000 in
/-- slices.Backward: the slice is boxed; the closure captures the box. -/
theorem back_in (F : Fence) (n : Nat) (hF : F.fn 112) (hro : F.round = none) (a : Option Addr) (len cap : Nat) (w : World) :
    CallsIn F n Tryz.prog 112 #[.slice a len cap] w fun e w' => e = .returned (.func (.func 152) #[] #[.pointer (some ⟨w.heap.size, 0, none⟩)]) ∧ w' = w.alloc (.cells #[.slice a len cap] 46) := by
  refine callsIn_of_wp Tryz.func112 rfl hF ?_ hro
  simp only [Tryz.ntmps112, List.size_toArray, List.length_cons, List.length_nil, Nat.reduceAdd, Nat.reduceSub, Array.replicate_succ, Array.replicate_zero, List.push_toArray, List.append_toArray, List.nil_append, List.cons_append]
  gi_wp2
  go_ret
  exact ⟨rfl, rfl⟩

/-- What the closure promises whoever ranges over it. -/
theorem back_stops (F : Fence) (n : Nat) (hF : F.fn 152) (hro : F.round = none) (hn : 1 ≤ n) (Bs cap : Nat) (a : Option Addr) (rs : Rngs) (w : World) (hBs : w.cell? ⟨Bs, 0, none⟩ = some (.slice a rs.length cap)) (hr : RR w (.slice a rs.length cap) rs) :
    SeqStopsK F n Tryz.prog 152 #[.pointer (some ⟨Bs, 0, none⟩)] encP (KeptB Bs a) (fun ys => ys = backTo rs rs.length) (fun pre => ∃ k, k ≤ rs.length ∧ pre = backTo rs k) rs.length w := fun l J Jx W hW _ _ hY h0 => by
  have hBl := lt_of_cell hBs
  refine back1_in F n hF hro hn l Bs cap a rs J Jx hY W ((hW.cell (p := ⟨Bs, 0, none⟩) hBl).trans hBs) ?_ h0
  obtain ⟨_, _, e, h1, h2, h3⟩ := hr
  cases e
  refine ⟨_, _, rfl, h1, h2, fun i hi => ?_⟩
  obtain ⟨g, o, e, q1, q2, q3, q4⟩ := h3 i hi
  have hl := lt_of_cell q1
  exact ⟨g, o, e, (hW.cell (p := ⟨g, _, none⟩) hl).trans q1, (hW.cell (p := ⟨g, _, none⟩) hl).trans q2, q3, q4⟩
end Go.Proofs.YtddfdpbaiedcjabGreatDoor
/- mediawire.Set.Down: the closure that it hands back. -/
namespace Go.Proofs.YtddfdpbaiedcjabGreatDoor
open Go.RowKit Go.Shelf

attribute [local go_sem] Oper.semAt_some

set_option maxHeartbeats 1000000 in
theorem down_in (F : Fence) (n : Nat) (hF : F.fn 81) (hro : F.round = none) (b : Nat) (w : World) :
    CallsIn F n Tryz.prog 81 #[.pointer (some ⟨b, 0, none⟩)] w fun e w' => e = .returned (.func (.func 111) #[] #[.pointer (some ⟨w.heap.size, 0, none⟩)]) ∧ w' = w.alloc (.cells #[.pointer (some ⟨b, 0, none⟩)] 101) := by
  refine callsIn_of_wp Tryz.func81 rfl hF ?_ hro
  simp only [Tryz.ntmps81, List.size_toArray, List.length_cons, List.length_nil, Nat.reduceAdd, Nat.reduceSub, Array.replicate_succ, Array.replicate_zero, List.push_toArray, List.append_toArray, List.nil_append, List.cons_append]
  gi_wp2
  go_ret
  exact ⟨rfl, rfl⟩

/-- Which blocks a round of the caller's may turn: the box lb, its record lr, rows of ranges other than the one that is walked. -/
def RoundS (lb lr : Nat) (a : Option Addr) (W : World) (k : Nat) : Prop := k = lb ∨ k = lr ∨ ((∀ g o, a = some ⟨g, o, none⟩ → k ≠ g) ∧ ∃ cs fz, W.heap[k]? = some (.cells cs 110 fz))

def encR (x : Nat × Nat) : Array Value := #[.agg #[.int .u64 (x.1 : Int), .int .u64 (x.2 : Int)]]

set_option maxRecDepth 100000 in
set_option maxHeartbeats 2000000 in
theorem down1_in (F : Fence) (n : Nat) (hFa : ∀ f, F.fn f) (hro : F.round = none) (hn : 4 ≤ n) (l sB b lb cap : Nat) (a : Option Addr) (rs : Rngs) (J Jx : List (Nat × Nat) → World → Prop) (W : World)
    (hY : ∀ m pre x W1, J pre W1 → pre.length < rs.length → YieldAt F m Tryz.prog l (encR x) W1 fun e W' =>
      Mod (RoundS lb l a W1) W1 W' ∧ ((e = .returned (.bool true) ∧ J (pre ++ [x]) W') ∨ (e = .returned (.bool false) ∧ Jx (pre ++ [x]) W')))
    (hJ : OwnFrom W.heap.size J) (hJx : OwnFrom W.heap.size Jx) (hs : W.cell? ⟨sB, 0, none⟩ = some (.pointer (some ⟨b, 0, none⟩))) (hb : W.cell? ⟨b, 0, none⟩ = some (.slice a rs.length cap)) (hr : RR W (.slice a rs.length cap) rs) (hlb : lb < W.heap.size) (hl : l < W.heap.size) (ha : ∀ g o, a = some ⟨g, o, none⟩ → g < W.heap.size ∧ g ≠ lb ∧ g ≠ l) (h0 : J [] W) :
    CallsIn F n Tryz.prog 111 #[.func (.yield l) #[] #[], .pointer (some ⟨sB, 0, none⟩)] W fun e W' => (∃ v, e = .returned v) ∧
      (J ((backTo rs rs.length).map (·.2)) W' ∨ ∃ k, k ≤ rs.length ∧ Jx ((backTo rs k).map (·.2)) W') := by
  have HJ := hide hJ
  have HJX := hide hJx
  have HY := hide hY
  have HR := hide hr
  have H0 := hide h0
  have hs' : (W.alloc (.cells #[.func (.yield l) #[] #[]] 188)).cell? ⟨sB, 0, none⟩ = some (.pointer (some ⟨b, 0, none⟩)) := ((Mod.refl NoB W).alloc _).cell (a := ⟨sB, 0, none⟩) (fun x => x) hs
  have hb' : (W.alloc (.cells #[.func (.yield l) #[] #[]] 188)).cell? ⟨b, 0, none⟩ = some (.slice a rs.length cap) := ((Mod.refl NoB W).alloc _).cell (a := ⟨b, 0, none⟩) (fun x => x) hb
  have h1 : 1 ≤ n := by omega
  clear hJ hJx hY hr h0
  refine callsIn_of_wp_marks Tryz.func111 rfl (hFa _) ?_ hro
  simp only [Tryz.ntmps111, List.size_toArray, List.length_cons, List.length_nil, Nat.reduceAdd, Nat.reduceSub, Array.replicate_succ, Array.replicate_zero, List.push_toArray, List.append_toArray, List.nil_append, List.cons_append]
  gi_wp2_with (gi_at_call 112; refine (back_in F (n - 1) (hFa _) hro _ _ _ _).mono ?_; rintro e w' ⟨rfl, rfl⟩)
  obtain ⟨yB, hyB⟩ : ∃ yB, W.heap.size = yB := ⟨_, rfl⟩
  have bY : Boxed ((W.alloc (.cells #[.func (.yield l) #[] #[]] 188)).alloc (.cells #[.slice a rs.length cap] 46)) yB 188 (.func (.yield l) #[] #[]) := by
    rw [← hyB]
    exact (Boxed.new W _ _).alloc _
  have bS : Boxed ((W.alloc (.cells #[.func (.yield l) #[] #[]] 188)).alloc (.cells #[.slice a rs.length cap] 46)) (yB + 1) 46 (.slice a rs.length cap) := by
    have := Boxed.new (W.alloc (.cells #[.func (.yield l) #[] #[]] 188)) 46 (.slice a rs.length cap)
    rw [World.size_alloc, hyB] at this
    exact this
  have m0 : Mod NoB W ((W.alloc (.cells #[.func (.yield l) #[] #[]] 188)).alloc (.cells #[.slice a rs.length cap] 46)) := ((Mod.refl _ _).alloc _).alloc _
  obtain ⟨w1, hw1⟩ : ∃ w1, ((W.alloc (.cells #[.func (.yield l) #[] #[]] 188)).alloc (.cells #[.slice a rs.length cap] 46)) = w1 := ⟨_, rfl⟩
  have hs1 : w1.heap.size = yB + 2 := by rw [← hw1]; simp; omega
  have hJ1 : J [] w1 := by rw [← hw1]; exact HJ.out.alloc _ (HJ.out.alloc _ H0.out)
  rw [hw1] at bY bS m0 ⊢
  rw [hyB]
  have hr1 := HR.out.mod m0 (OffS.no _)
  clear hw1 hs' hb'
  refine wpIn_rangeFunc_ownH hro h1 (gf := 152) (lb := #[.pointer (some ⟨yB + 1, 0, none⟩)]) rfl (hFa _) (enters_of Tryz.func152 (by kernel_rfl) rfl)
    (back_stops F (n - 1) (hFa _) hro (by omega) (yB + 1) cap a rs w1 bS.cell hr1) (fun h k => h.trans k) ?hKb (Below.refl _ _) (fun _ => rfl)
    (fun pre X => (J (pre.map (·.2)) X ∧ Boxed X yB 188 (.func (.yield l) #[] #[])) ∧ Boxed X (yB + 1) 46 (.slice a rs.length cap))
    (fun c pre X => c = .ret ∧ Jx (pre.map (·.2)) X) ?hI ?hIx ⟨⟨hJ1, bY⟩, bS⟩
    (fun x a' X => ∃ rb, a' = { tmps := #[.func (.yield l) #[] #[], .pointer (some ⟨sB, 0, none⟩), .pointer (some ⟨yB, 0, none⟩), undef, .pointer (some ⟨rb, 0, none⟩), .pointer (some ⟨b, 0, none⟩), .pointer (some ⟨b, 0, none⟩), .pointer (some ⟨b, 0, none⟩), .slice a rs.length cap, .func (.func 152) #[] #[.pointer (some ⟨yB + 1, 0, none⟩)], .int .i64 (x.1 : Int), .agg #[.int .u64 (x.2.1 : Int), .int .u64 (x.2.2 : Int)], undef, undef, undef, undef], defers := [] } ∧
      X.heap[rb]? = some (.cells #[.int .u64 (x.2.1 : Int), .int .u64 (x.2.2 : Int)] 110 (0, 0))) ?hAx ?assign ?body ?done ?stop
  case hKb =>
    intro X l2 o o' hl2 _ _ _
    exact ⟨World.putObj_heap_other (by omega), fun g o e => World.putObj_heap_other (by have := (ha g o e).1; omega)⟩
  case hI =>
    exact OwnFrom.and (OwnFrom.and (fun s A B row hs hg hr => HJ.out _ A B row hs hg (fun r e => ⟨by have := (hr r e).1; omega, (hr r e).2⟩)) (Own.from (boxed_own yB _ (fun _ => _)) _)) (Own.from (boxed_own (yB + 1) _ (fun _ => _)) _)
  case hIx =>
    intro c s A B row hs hg hr
    exact ⟨hs.1, HJX.out _ A B row hs.2 hg (fun r e => ⟨by have := (hr r e).1; omega, (hr r e).2⟩)⟩
  case hAx =>
    intro x a' s A B row hs hg hr
    obtain ⟨rb, e, ho⟩ := hs
    refine ⟨rb, e, (hg.block rb (Array.getElem?_eq_some_iff.1 ho).1 (fun e2 => ?_)).trans ho⟩
    obtain ⟨_, o, ho2, hnc⟩ := hr rb e2.symm
    rw [ho] at ho2
    cases ho2
    cases hnc
  case assign =>
    intro l' pre x X K hI hK
    unfold encP
    gi_wp2
    refine hK _ _ ((KeepsOthers.alloc X _).from _) ⟨Below.heap_alloc _ _ _ hI.2.lt, fun g o e => Below.heap_alloc _ _ _ ?_⟩ ⟨⟨?_, hI.1.2.alloc _⟩, hI.2.alloc _⟩ ⟨X.heap.size, rfl, heap_alloc_new X _⟩
    · have q1 := (ha g o e).1
      have q2 := hI.2.lt
      omega
    · exact HJ.out.alloc _ hI.1.1
  case body =>
    rintro l' pre x a' X hl' hrec ⟨⟨hJp, hy⟩, hsl⟩ ⟨rb, rfl, hrb⟩ hlt
    have yc := hy.cell
    have r0 : X.cell? ⟨rb, 0, none⟩ = some (.int .u64 (x.2.1 : Int)) := cell_of_obj hrb rfl
    have r1 : X.cell? ⟨rb, 1, none⟩ = some (.int .u64 (x.2.2 : Int)) := cell_of_obj hrb rfl
    obtain ⟨fn, tmps, assign, body, hyd, hR⟩ := HY.out (n - 1 - 1 - 1) (pre.map (·.2)) x.2 X hJp (by simpa using hlt)
    unfold encR at hyd
    have hn1 : 1 ≤ n - 1 - 1 := by omega
    have HJP := hide hJp
    clear hJp hrec
    have HRR := hide hR
    clear hR
    gi_wp2
    refine RoundIn.mono (F := F.inRound l') (show RoundIn (F.inRound l') _ _ _ _ _ _ _ _ _ from HRR.out) ?_
    rintro e X3 ⟨m3, hres⟩
    have hyl := hy.lt
    have hsll := hsl.lt
    have nY : ¬ RoundS lb l a X yB := by
      rintro (h | h | ⟨_, cs, fz, h⟩)
      · omega
      · omega
      · rw [show X.heap[yB]? = _ from hy] at h
        simp at h
    have nS : ¬ RoundS lb l a X (yB + 1) := by
      rintro (h | h | ⟨_, cs, fz, h⟩)
      · omega
      · omega
      · rw [show X.heap[yB + 1]? = _ from hsl] at h
        simp at h
    have HKF : Hid (KeepsFrom w1.heap.size X X3) := ⟨m3.size, fun k o hk ho hnc => by
      refine (m3.block k (Array.getElem?_eq_some_iff.1 ho).1 ?_).trans ho
      rintro (h | h | ⟨_, cs, fz, h⟩)
      · omega
      · omega
      · rw [ho] at h
        cases h
        cases hnc⟩
    have HKB : Hid (KeptB (yB + 1) a X X3) := ⟨m3.block _ hsll nS, fun g o e => m3.block _ (by have := (ha g o e).1; omega) (by
      rintro (h | h | ⟨h, _⟩)
      · exact (ha g o e).2.1 h
      · exact (ha g o e).2.2 h
      · exact h g o e rfl)⟩
    have HY3 : Hid (Boxed X3 yB 188 (.func (.yield l) #[] #[])) := (m3.block _ hyl nY).trans hy
    have HS3 : Hid (Boxed X3 (yB + 1) 46 (.slice a rs.length cap)) := (m3.block _ hsll nS).trans hsl
    clear nY nS m3 hyl hsll
    rcases hres with ⟨rfl, hj⟩ | ⟨rfl, hj⟩
    · have HJ3 := hide hj
      clear hj yc hyd
      gi_wp2
      exact ⟨HKF.out, HKB.out, ⟨by rw [List.map_append]; exact HJ3.out, HY3.out⟩, HS3.out⟩
    · have HJ3 := hide hj
      clear hj yc hyd
      gi_wp2
      exact ⟨HKF.out, rfl, by rw [List.map_append]; exact HJ3.out⟩
  case done =>
    rintro D ys X hD rfl ⟨⟨hj, _⟩, _⟩ hK
    gi_wp2
    refine ⟨by simp, .inl ⟨_, _, rfl, run_takeDeferred hK, ?_⟩⟩
    exact ⟨_, results_none rfl _ _ _, ⟨_, rfl⟩, .inl (HJ.out.putObj _ hj (by omega) hK rfl)⟩
  case stop =>
    rintro D c pre X hD ⟨k, hk, rfl⟩ ⟨rfl, hj⟩ hK
    gi_wp2
    refine ⟨by simp, .inl ⟨_, _, rfl, run_takeDeferred hK, ?_⟩⟩
    exact ⟨_, results_none rfl _ _ _, ⟨_, rfl⟩, .inr ⟨k, hk, HJX.out.putObj _ hj (by omega) hK rfl⟩⟩
end Go.Proofs.YtddfdpbaiedcjabGreatDoor
