/- Set.Add where no range goes: the contract in the words of a set. -/
import Derived.Test.YtddfdpbaiedcjaaSetLaw
namespace Go.Proofs.Ytddfdpbaiedcjaa
open Go.RowKit

theorem add_small (rs : Rngs) (most b o lo hi : Nat) (v : Value) (w : World) (h : SetAt w b o v rs 0 most) (hwf : WF rs) (hlh : lo ≤ hi) (hhi : hi < 18446744073709551616)
    (hv : ∀ g, v.ownBlock = some g → g < w.heap.size) (hvb : v.ownBlock ≠ some b) (hmost : rs.length + 1 ≤ most) (hmost2 : most ≤ 1099511627776) :
    Calls Try.prog 8 #[.pointer (some ⟨b, o, none⟩), .int .u64 lo, .int .u64 hi] w fun e w' => e = .returned (.tuple #[]) ∧
      ∃ v' rs', SetAt w' b o v' rs' 0 most ∧ WF rs' ∧ rs'.length ≤ rs.length + 1 ∧ (∀ n, inRs rs' n ↔ inRs rs n ∨ (lo ≤ n ∧ n ≤ hi)) ∧ Mod (fun k => k = b ∨ v.ownBlock = some k) w w' ∧ NewOr w v v' ∧ v'.ownBlock ≠ some b := by
  have h0 : max lo 0 = lo := Nat.max_zero lo
  have hb := lt_of_cell h.cl
  refine (add_in rs 0 most b o lo hi v w h hwf (by omega) hhi (by omega) hv hvb (by omega) (by omega) (by omega) (fun m1 m2 h1 h2 => by
    rw [h0] at h1 ⊢
    exact addRs_wf hwf hlh hhi h1 h2)).mono ?_
  rintro e w' ⟨m1, m2, v', rs', fl', h1, h2, heq, rfl, hown, hheap, hmod, hnw⟩
  rw [h0] at h1 heq
  have hft := from_le_to hwf hlh h1 h2
  have hm2 := h2.1
  have hl := addRs_length rs lo hi m1 m2 hft h2.1
  rw [if_neg (by omega)] at heq
  simp only [Prod.mk.injEq] at heq
  obtain ⟨rfl, rfl⟩ := heq
  have c1 : ((w.setCell ⟨b, o, none⟩ v').setCell ⟨b, o + 1, none⟩ (.int .u64 ((0 : Nat) : Int))).cell? ⟨b, o, none⟩ = some v' := by
    rw [World.cell?_setCell_other _ _ _ _ (by simp), World.cell?_setCell_same _ _ _ h.cl]
  have c2 : ((w.setCell ⟨b, o, none⟩ v').setCell ⟨b, o + 1, none⟩ (.int .u64 ((0 : Nat) : Int))).cell? ⟨b, o + 1, none⟩ = some (.int .u64 ((0 : Nat) : Int)) := by
    rw [World.cell?_setCell_same _ _ _ (u := .int .u64 ((0 : Nat) : Int))]
    rw [World.cell?_setCell_other _ _ _ _ (by simp)]
    exact h.cf
  have c3 : ((w.setCell ⟨b, o, none⟩ v').setCell ⟨b, o + 1, none⟩ (.int .u64 ((0 : Nat) : Int))).cell? ⟨b, o + 2, none⟩ = some (.int .i64 (most : Int)) := by
    rw [World.cell?_setCell_other _ _ _ _ (by simp), World.cell?_setCell_other _ _ _ _ (by simp)]
    exact h.cm
  refine ⟨rfl, v', _, ⟨?_, ?_, ?_, hown, by omega, fun j => ?_⟩, addRs_wf hwf hlh hhi h1 h2, by omega, fun n => addRs_in hwf hlh h1 h2 n, hmod, hnw, fun hx => ?_⟩
  · exact (World.cell?_of_block hheap).trans c1
  · exact (World.cell?_of_block hheap).trans c2
  · exact (World.cell?_of_block hheap).trans c3
  · rw [World.frozen?_of_block hheap, World.frozen?_setCell, World.frozen?_setCell]
    exact h.fz j
  · rcases hnw b hx with h3 | h3
    · exact hvb h3
    · omega
end Go.Proofs.Ytddfdpbaiedcjaa
