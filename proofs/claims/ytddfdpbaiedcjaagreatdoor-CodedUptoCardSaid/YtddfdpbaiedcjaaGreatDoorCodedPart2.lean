/- The statement Coded, second form, its card: where what the law reads is of bulk at most 1048576, and the two listed variables read as listed, it returns true, and its argument reads behind the call as before. Part 2 of 18. -/
import Derived.OrdersHeld
import Derived.StillTail
import Derived.Deep.RegionHeld
/- A region that draws its order: what only reads is taken first; F (what the reads lean on) is shown behind each step but those of number k (the store that ends the statement). No program. -/
namespace Go.Proofs.YtddfdpbaiedcjaaGreatDoor
open Go

section
variable {P : Program} {ops : Array Oper} {Q : Exit → Act → World → Prop} {md : Region.Mode} {F : World → Prop} {k : Nat}

def ST (k : Nat) (F : World → Prop) (L : Array Bool) (w : World) : Prop := L.getD k false = true ∨ F w

def wpAnyT (P : Program) (md : Region.Mode) (ops : Array Oper) (Q : Exit → Act → World → Prop) (k : Nat) (F : World → Prop) : Nat → Array Bool → Act → World → Prop
  | 0, L, a, w => Region.ready md ops L = [] ∧ Q .normal a w
  | fuel + 1, L, a, w =>
    (Region.ready md ops L = [] → Q .normal a w) ∧
    ∀ i ∈ Region.ready md ops L, wpOp P ops Q i (fun a' w' => ST k F (L.setIfInBounds i true) w' ∧ wpAnyT P md ops Q k F fuel (L.setIfInBounds i true) a' w') a w

theorem wpAny_of_T : ∀ (fuel : Nat) (L : Array Bool) (a : Act) (w : World), wpAnyT P md ops Q k F fuel L a w → wpAny P md ops Q fuel L a w
  | 0, _, _, _, h => h
  | fuel + 1, _, _, _, h => ⟨h.1, fun i hi => wpOp_mono (fun a' w' h' => wpAny_of_T fuel _ a' w' h'.2) (h.2 i hi)⟩

structure Closed (md : Region.Mode) (ops : Array Oper) (L : Array Bool) : Prop where
  nosel : Region.noSelect ops = true
  size : L.size = ops.size
  deps : ∀ j oj, ops[j]? = some oj → L.getD j false = true → ∀ e ∈ oj.after, Region.binds md e = true → L.getD e.on false = true

theorem getD_get_false {L : Array Bool} {i : Nat} (h : L.getD i true = false) : L.getD i false = false := by
  rcases Nat.lt_or_ge i L.size with h' | h'
  · simp [h'] at h ⊢; exact h
  · simp [Array.getElem?_eq_none h'] at h

theorem Closed.set {L : Array Bool} (c : Closed md ops L) {i : Nat} (hi : i ∈ Region.ready md ops L) : Closed md ops (L.setIfInBounds i true) := by
  obtain ⟨_, oi, hoi, hall⟩ := mem_ready.1 hi
  refine ⟨c.nosel, by simp [c.size], fun j oj hj hl e he hb => ?_⟩
  by_cases hij : i = j
  · subst hij
    have : oj = oi := Option.some.inj (hj.symm.trans hoi)
    subst this
    exact getD_set_true (hall e he hb)
  · rw [getD_set_ne false hij] at hl
    exact getD_set_true (c.deps j oj hj hl e he hb)

/-- Number k waits for number i, at whatever remove (or there is no number k). -/
def waitsB (md : Region.Mode) (ops : Array Oper) (i : Nat) : Nat → Nat → Bool
  | 0, k => k == i
  | f + 1, k => k == i || match ops[k]? with
    | some o => o.after.any fun e => Region.binds md e && waitsB md ops i f e.on
    | none => true

theorem waits_listed {L : Array Bool} (c : Closed md ops L) {i : Nat} : ∀ (f k : Nat), waitsB md ops i f k = true → L.getD k false = true → L.getD i false = true
  | 0, k, h, hk => by
    simp [waitsB] at h
    exact h ▸ hk
  | f + 1, k, h, hk => by
    simp only [waitsB, Bool.or_eq_true, beq_iff_eq] at h
    rcases h with h | h
    · exact h ▸ hk
    · cases ho : ops[k]? with
      | none =>
        have hlt : ¬ k < L.size := by
          rw [c.size]
          intro hlt
          simp [hlt] at ho
        simp [Array.getElem?_eq_none (Nat.le_of_not_lt hlt)] at hk
      | some o =>
        rw [ho] at h
        obtain ⟨e, he, hb⟩ := Array.any_eq_true'.1 h
        simp only [Bool.and_eq_true] at hb
        exact waits_listed c f e.on hb.2 (c.deps k o ho hk e he hb.1)

theorem wpAnyT_first {i : Nat} {oi : Oper} {v : Value} {f0 : Nat} (hi : ops[i]? = some oi) (hsel : ∀ (j : Nat) (o : Oper) cs b, ops[j]? = some o → o.op ≠ .select cs b)
    (hQ : ∀ c a w, Q (.panic c) (a.put oi.dst v) w → Q (.panic c) a w) (hk : waitsB md ops i f0 k = true) (hik : i ≠ k) :
    ∀ (fuel : Nat) (L : Array Bool) (a : Act) (w : World), Closed md ops L →
      (∀ j oj, ops[j]? = some oj → j ≠ i → L.getD j true = false → (∀ e ∈ oj.after, Region.binds md e = true → e.on ≠ i) → oi.apart ops oj = true) →
      i ∈ Region.ready md ops L → YieldsIf P ops F oi v a → ST k F L w →
      wpAnyT P md ops Q k F fuel (L.setIfInBounds i true) (a.put oi.dst v) w → wpAnyT P md ops Q k F (fuel + 1) L a w := by
  have unl : ∀ L : Array Bool, i ∈ Region.ready md ops L → L.getD i false = false := fun L h => getD_get_false (mem_ready.1 h).1
  have toF : ∀ (L : Array Bool) (w : World), Closed md ops L → i ∈ Region.ready md ops L → ST k F L w → F w := fun L w c hr hS => by
    rcases hS with hS | hS
    · have := waits_listed c f0 k hk hS
      rw [unl L hr] at this
      cases this
    · exact hS
  intro fuel
  induction fuel with
  | zero =>
    intro L a w c _ hr hy hS H
    refine ⟨fun h => (by rw [h] at hr; cases hr), fun j hj => ?_⟩
    by_cases hji : j = i
    · subst hji; exact hy.wpOp hi (toF L w c hr hS) ⟨.inr (toF L w c hr hS), H⟩
    · have := ready_mono hj hji
      rw [H.1] at this
      cases this
  | succ fuel ih =>
    intro L a w c hfree hr hy hS H
    refine ⟨fun h => (by rw [h] at hr; cases hr), fun j hj => ?_⟩
    by_cases hji : j = i
    · subst hji; exact hy.wpOp hi (toF L w c hr hS) ⟨.inr (toF L w c hr hS), H⟩
    · have h1 := H.2 j (ready_mono hj hji)
      obtain ⟨hjun, oj, hoj, hall⟩ := mem_ready.1 hj
      have hnot : ∀ e ∈ oj.after, Region.binds md e = true → e.on ≠ i := fun e he hb heq => by
        have h1 := hall e he hb
        rw [heq, unl L hr] at h1
        cases h1
      have h2 := wpOp_putIf hoj (hfree j oj hoj hji hjun hnot) (fun cs b => hsel i oi cs b hi) (fun cs b => hsel j oj cs b hoj) hQ hy h1
      have hfree' : ∀ k ok, ops[k]? = some ok → k ≠ i → (L.setIfInBounds j true).getD k true = false →
          (∀ e ∈ ok.after, Region.binds md e = true → e.on ≠ i) → oi.apart ops ok = true := fun k ok hk hki hun hno => by
        refine hfree k ok hk hki ?_ hno
        by_cases hjk : j = k
        · subst hjk; exact hjun
        · rw [getD_set_ne true hjk] at hun; exact hun
      have hrj : i ∈ Region.ready md ops (L.setIfInBounds j true) := ready_mono hr (Ne.symm hji)
      have toS : ∀ w', ST k F ((L.setIfInBounds i true).setIfInBounds j true) w' → ST k F (L.setIfInBounds j true) w' := fun w' hS' => by
        rcases hS' with h | h
        · refine .inl ?_
          rw [Array.setIfInBounds_comm _ _ (Ne.symm hji), getD_set_ne false hik] at h
          exact h
        · exact .inr h
      refine wpOp_mono (fun a' w' h3 => ⟨toS w' h3.2.1, ih (L.setIfInBounds j true) a' w' (c.set hj) hfree' hrj h3.1 (toS w' h3.2.1) ?_⟩) h2
      rw [Array.setIfInBounds_comm _ _ hji]
      exact h3.2.2

/-- What is still to be carried out, in whatever order. -/
def GT (P : Program) (md : Region.Mode) (ops : Array Oper) (Q : Exit → Act → World → Prop) (k : Nat) (F : World → Prop) (fuel : Nat) (L : Array Bool) (a : Act) (w : World) : Prop :=
  Closed md ops L → ST k F L w → wpAnyT P md ops Q k F fuel L a w

def takeB (md : Region.Mode) (ops : Array Oper) (k : Nat) (L : Array Bool) (i : Nat) : Bool :=
  Region.free md ops L i && (Region.ready md ops L).contains i && waitsB md ops i ops.size k && !(i == k)

theorem GT_take {i : Nat} {oi : Oper} {v : Value} {fuel : Nat} {L : Array Bool} {a : Act} {w : World} (hi : ops[i]? = some oi) (hb : takeB md ops k L i = true)
    (hQ : ∀ c a w, Q (.panic c) (a.put oi.dst v) w → Q (.panic c) a w) (hy : YieldsIf P ops F oi v a)
    (h : GT P md ops Q k F fuel (L.setIfInBounds i true) (a.put oi.dst v) w) : GT P md ops Q k F (fuel + 1) L a w := fun c hS => by
  simp only [takeB, Bool.and_eq_true, Bool.not_eq_true'] at hb
  obtain ⟨⟨⟨hf, hr⟩, hk⟩, hik⟩ := hb
  have hik' : i ≠ k := by simpa using hik
  have hr' : i ∈ Region.ready md ops L := by simpa using hr
  refine wpAnyT_first hi (Region.noSelect_spec c.nosel) hQ hk hik' fuel L a w c (Region.free_spec hi hf) hr' hy hS (h (c.set hr') ?_)
  rcases hS with hS | hS
  · exact .inl (getD_set_true hS)
  · exact .inr hS

/-- The one operation that may come up: behind it F is shown anew. -/
theorem GT_one {i : Nat} {o : Oper} {fuel : Nat} {L : Array Bool} {a : Act} {w : World} (ho : ops[i]? = some o) (hr : Region.ready md ops L = [i])
    (h : ∀ K' : Act → World → Prop, Shut (∀ a w, F w → GT P md ops Q k F fuel (L.setIfInBounds i true) a w → K' a w) → if Region.wanted o (yielded ops a.tmps) = true then Oper.wp P o a w K' Q else K' (a.put o.dst undef) w) :
    GT P md ops Q k F (fuel + 1) L a w := fun c _ => by
  refine ⟨fun h0 => (by rw [hr] at h0; cases h0), fun j hj => ?_⟩
  have hc := c.set hj
  rw [hr, List.mem_singleton] at hj
  subst hj
  exact wpOp_step ho (fun K' hK => h K' (fun a w hF hG => hK a w ⟨.inr hF, hG hc (.inr hF)⟩))

/-- The operation k: nothing is to be shown behind it. -/
theorem GT_last {o : Oper} {fuel : Nat} {L : Array Bool} {a : Act} {w : World} (ho : ops[k]? = some o) (hr : Region.ready md ops L = [k])
    (h : ∀ K' : Act → World → Prop, Shut (∀ a w, GT P md ops Q k F fuel (L.setIfInBounds k true) a w → K' a w) → if Region.wanted o (yielded ops a.tmps) = true then Oper.wp P o a w K' Q else K' (a.put o.dst undef) w) :
    GT P md ops Q k F (fuel + 1) L a w := fun c _ => by
  refine ⟨fun h0 => (by rw [hr] at h0; cases h0), fun j hj => ?_⟩
  have hc := c.set hj
  rw [hr, List.mem_singleton] at hj
  subst hj
  have hlt : j < L.size := by
    rw [c.size]
    exact (Array.getElem?_eq_some_iff.1 ho).1
  have hl : (L.setIfInBounds j true).getD j false = true := by simp [hlt]
  exact wpOp_step ho (fun K' hK => h K' (fun a w hG => hK a w ⟨.inl hl, hG hc (.inl hl)⟩))

theorem GT_done {fuel : Nat} {L : Array Bool} {a : Act} {w : World} (hr : Region.ready md ops L = []) (h : Q .normal a w) : GT P md ops Q k F fuel L a w := fun _ _ => by
  cases fuel with
  | zero => exact ⟨hr, h⟩
  | succ n => exact ⟨fun _ => h, by rw [hr]; simp⟩

theorem GT_start {id : Nat} {a : Act} {w : World} (k : Nat) (F : World → Prop) (hm : P.follows .mixedOrders = true) (hs : Region.noSelect ops = true) (hF : F w.drew)
    (h : GT P .any ops Q k F ops.size (Array.replicate ops.size false) a w.drew) : (Code.region id ops true).wp P Q a w := by
  refine wp_region_any hm (wpAny_of_T _ _ _ _ (h ⟨hs, by simp, fun j oj _ hl => ?_⟩ (.inr hF)))
  have : (Array.replicate ops.size false).getD j false = false := getD_replicate_false ops.size j
  rw [this] at hl
  cases hl
end
end Go.Proofs.YtddfdpbaiedcjaaGreatDoor
