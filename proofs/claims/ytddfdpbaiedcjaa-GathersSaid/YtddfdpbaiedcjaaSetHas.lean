/- A set of numbers in memory; Set.Has, Set.Floor, NewSet. -/
import Derived.Test.YtddfdpbaiedcjaaSearch
namespace Go.Proofs.Ytddfdpbaiedcjaa
open Go.RowKit

/-- A set lies at (b, o): its three cells; the slice of its ranges owns its row. -/
structure SetAt (w : World) (b o : Nat) (v : Value) (rs : Rngs) (fl most : Nat) : Prop where
  cl : w.cell? ⟨b, o, none⟩ = some v
  cf : w.cell? ⟨b, o + 1, none⟩ = some (.int .u64 (fl : Int))
  cm : w.cell? ⟨b, o + 2, none⟩ = some (.int .i64 (most : Int))
  own : w.ownsRow 0 39 2 v rs.length (rcells rs)
  len : rs.length ≤ 1099511627776
  fz : ∀ j, w.frozen? ⟨b, j, none⟩ = false

theorem SetAt.mod {S : Nat → Prop} {w w' : World} {b o : Nat} {v : Value} {rs : Rngs} {fl most : Nat} (h : SetAt w b o v rs fl most) (m : Mod S w w') (hb : ¬ S b) (hs : ∀ g, v.ownBlock = some g → ¬ S g) : SetAt w' b o v rs fl most :=
  ⟨m.cell hb h.cl, m.cell hb h.cf, m.cell hb h.cm, m.owns h.own hs, h.len, fun j => by rw [World.frozen?_of_block (w := w) (m.block b (lt_of_cell h.cl) hb)]; exact h.fz j⟩

def hiGe (rs : Rngs) (n : Nat) (i : Nat) : Bool := decide (n ≤ hiAt rs i)

theorem has1_any (rs : Rngs) (fl most i b o bb bn n : Nat) (v : Value) (w : World)
    (hs : w.cell? ⟨bb, 0, none⟩ = some (.pointer (some ⟨b, o, none⟩))) (hn : w.cell? ⟨bn, 0, none⟩ = some (.int .u64 (n : Int)))
    (h : SetAt w b o v rs fl most) (hi : i < rs.length) :
    Calls Try.prog 16 #[.int .i64 i, .pointer (some ⟨bb, 0, none⟩), .pointer (some ⟨bn, 0, none⟩)] w fun e w' => e = .returned (.bool (hiGe rs n i)) ∧ ∃ k, w' = w.drewN k := by
  obtain ⟨a, cap, rfl, h1, h2, h3⟩ := own_form h.own
  obtain ⟨g, rfl⟩ := h3 (by omega)
  have hl := h.cl
  have hr := (own_rcells h.own i hi).2
  have hi1 : (i : Int) < rs.length := by omega
  have hi0 : 0 ≤ (i : Int) := by omega
  unfold maxLen at h2
  clear h3
  go_enter Try.func16, Try.ntmps16
  go_wp2_with fail
  go_quiet (fail)
  go_wp2_with fail
  go_ret
  exact ⟨rfl, _, rfl⟩

def hasB (rs : Rngs) (fl n : Nat) : Bool := decide (n < fl) || rs.any fun r => decide (r.1 ≤ n) && decide (n ≤ r.2)

theorem enters_has1 : Enters 16 := fun args w => run_enter Try.func16 (by kernel_rfl) rfl args w

theorem has_walk (rs : Rngs) (fl most b o n : Nat) (v : Value) (w : World) (h : SetAt w b o v rs fl most) :
    Calls Try.prog 9 #[.pointer (some ⟨b, o, none⟩), .int .u64 n] w fun e w' => ∃ m, SearchIs rs.length (hiGe rs n) m ∧ e = .returned (.bool (decide (n < fl) || decide (m < rs.length) && decide (loAt rs m ≤ n))) ∧ Below w.heap.size w w' := by
  have hbw := lt_of_cell h.cl
  have hlen := h.len
  obtain ⟨a, cap, hv, h1, h2, h3⟩ := own_form h.own
  unfold maxLen at h2
  have hsr := search rs.length 16 #[.pointer (some ⟨w.heap.size, 0, none⟩), .pointer (some ⟨w.heap.size + 1, 0, none⟩)] (hiGe rs n) ((w.alloc (.cells #[.pointer (some ⟨b, o, none⟩)] 26)).alloc (.cells #[.int .u64 n] 28)) (by omega) enters_has1 (by
    intro i k hi
    have hm : Mod NoB w (((w.alloc (.cells #[.pointer (some ⟨b, o, none⟩)] 26)).alloc (.cells #[.int .u64 n] 28)).drewN k) := (((Mod.refl _ _).alloc _).alloc _).drewN k
    exact (has1_any rs fl most i b o w.heap.size (w.heap.size + 1) n v _ (by simp) (by simp) (h.mod hm (fun x => x) (fun _ _ x => x)) hi).mono fun e w' ⟨he, k', hw⟩ => ⟨he, k + k', by rw [hw, World.drewN_drewN]⟩)
  have hl := h.cl
  have hf := h.cf
  subst hv
  go_enter Try.func9, Try.ntmps9
  go_wp2_with (go_at_call 11; refine hsr.mono ?_; rintro e w' ⟨m, hm, rfl, k, rfl⟩)
  have fin : ∀ j, Below w.heap.size w ((((w.alloc (.cells #[.pointer (some ⟨b, o, none⟩)] 26)).alloc (.cells #[.int .u64 n] 28)).drewN k).drewN j) := fun j => (((((Mod.refl NoB _).alloc _).alloc _).drewN k).drewN j).below
  by_cases c1 : n < fl
  · have d1 : decide ((n : Int) < fl) = true := by simp; omega
    go_quiet (fail)
    go_wp2_with fail
    go_ret
    exact ⟨m, hm, by simp [c1], fin _⟩
  · have d1 : decide ((n : Int) < fl) = false := by simp; omega
    by_cases c2 : m < rs.length
    · have d2 : decide ((m : Int) < rs.length) = true := by simp; omega
      obtain ⟨g, rfl⟩ := h3 (by omega)
      have hr := (own_rcells h.own m c2).1
      have hg := lt_of_cell hr
      clear h3 hsr
      go_quiet (fail)
      go_wp2_with fail
      go_ret
      exact ⟨m, hm, by simp [c1, c2], fin _⟩
    · have d2 : decide ((m : Int) < rs.length) = false := by simp; omega
      clear h3 hsr
      go_quiet (fail)
      go_wp2_with fail
      go_ret
      exact ⟨m, hm, by simp [c1, c2], fin _⟩

theorem floor_walk (rs : Rngs) (fl most b o : Nat) (v : Value) (w : World) (h : SetAt w b o v rs fl most) :
    Calls Try.prog 10 #[.pointer (some ⟨b, o, none⟩)] w fun e w' => e = .returned (.int .u64 (fl : Int)) ∧ w = w' := by
  have hf := h.cf
  go_enter Try.func10, Try.ntmps10
  go_wp2_with fail
  go_ret
  exact ⟨rfl, rfl⟩

theorem newset_walk (most : Int) (w : World) (hm : most ≤ 9223372036854775807) (hl : -9223372036854775808 ≤ most) :
    Calls Try.prog 6 #[.int .i64 most] w fun e w' => e = .returned (.pointer (some ⟨w.heap.size, 0, none⟩)) ∧ w' = w.alloc (.cells #[.slice none 0 0, .int .u64 0, .int .i64 (max most 1)] 36) := by
  go_enter Try.func6, Try.ntmps6
  go_wp2_with fail
  · go_ret
    exact ⟨rfl, by rw [show max most 1 = 1 by omega]⟩
  · go_ret
    exact ⟨rfl, by rw [show max most 1 = most by omega]⟩
end Go.Proofs.Ytddfdpbaiedcjaa
