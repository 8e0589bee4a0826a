/- Set.Add: the two tests by which its places are searched. -/
import Derived.Test.YtddfdpbaiedcjaaSetHas
import Derived.Test.YtddfdpbaiedcjaaReplace2
namespace Go.Proofs.Ytddfdpbaiedcjaa
open Go.RowKit

/-- The range at i touches, or lies behind, lo. -/
def atLo (rs : Rngs) (lo i : Nat) : Bool := decide (lo ≤ hiAt rs i + 1)
/-- The range at i lies behind hi, with something between. -/
def pastHi (rs : Rngs) (hi i : Nat) : Bool := decide (hi + 1 < loAt rs i)

theorem enters_add1 : Enters 12 := fun args w => run_enter Try.func12 (by kernel_rfl) rfl args w
theorem enters_add2 : Enters 13 := fun args w => run_enter Try.func13 (by kernel_rfl) rfl args w

theorem add1_any (rs : Rngs) (i b o bb bn lo : Nat) (v : Value) (w : World)
    (hs : w.cell? ⟨bb, 0, none⟩ = some (.pointer (some ⟨b, o, none⟩))) (hn : w.cell? ⟨bn, 0, none⟩ = some (.int .u64 (lo : Int))) (hlo : lo < 18446744073709551616)
    (hl : w.cell? ⟨b, o, none⟩ = some v) (hown : w.ownsRow 0 39 2 v rs.length (rcells rs)) (hi : i < rs.length) :
    Calls Try.prog 12 #[.int .i64 i, .pointer (some ⟨bb, 0, none⟩), .pointer (some ⟨bn, 0, none⟩)] w fun e w' => e = .returned (.bool (atLo rs lo i)) ∧ ∃ k, w' = w.drewN k := by
  obtain ⟨a, cap, rfl, h1, h2, h3⟩ := own_form hown
  obtain ⟨g, rfl⟩ := h3 (by omega)
  have hr := (own_rcells hown i hi).2
  have hi1 : (i : Int) < rs.length := by omega
  have hi0 : 0 ≤ (i : Int) := by omega
  unfold maxLen at h2
  clear h3
  by_cases hc : lo ≤ hiAt rs i
  · have hd : decide ((lo : Int) ≤ hiAt rs i) = true := by simp; omega
    have hf : atLo rs lo i = true := by simp [atLo]; omega
    go_enter Try.func12, Try.ntmps12
    go_wp2_with fail
    go_quiet (fail)
    go_wp2_with fail
    go_ret
    exact ⟨by rw [hf]; rfl, _, rfl⟩
  · have hd : decide ((lo : Int) ≤ hiAt rs i) = false := by simp; omega
    have hb : 0 ≤ (lo : Int) - hiAt rs i := by omega
    have hb2 : (lo : Int) - hiAt rs i < 18446744073709551616 := by omega
    have HF : Hid (atLo rs lo i = decide ((lo : Int) - hiAt rs i = 1)) := by
      show _ = _
      simp only [atLo]
      congr 1
      apply propext
      omega
    go_enter Try.func12, Try.ntmps12
    go_wp2_with fail
    go_quiet (fail)
    go_wp2_with fail
    go_ret
    exact ⟨by rw [HF.out]; rfl, _, rfl⟩

theorem add2_any (rs : Rngs) (i b o bb bn hi0 : Nat) (v : Value) (w : World)
    (hs : w.cell? ⟨bb, 0, none⟩ = some (.pointer (some ⟨b, o, none⟩))) (hn : w.cell? ⟨bn, 0, none⟩ = some (.int .u64 (hi0 : Int))) (hb : ∀ i, i < rs.length → loAt rs i < 18446744073709551616)
    (hl : w.cell? ⟨b, o, none⟩ = some v) (hown : w.ownsRow 0 39 2 v rs.length (rcells rs)) (hi : i < rs.length) :
    Calls Try.prog 13 #[.int .i64 i, .pointer (some ⟨bb, 0, none⟩), .pointer (some ⟨bn, 0, none⟩)] w fun e w' => e = .returned (.bool (pastHi rs hi0 i)) ∧ ∃ k, w' = w.drewN k := by
  obtain ⟨a, cap, rfl, h1, h2, h3⟩ := own_form hown
  obtain ⟨g, rfl⟩ := h3 (by omega)
  have hr := (own_rcells hown i hi).1
  have hlt := hb i hi
  clear hb
  have hi1 : (i : Int) < rs.length := by omega
  have hi0' : 0 ≤ (i : Int) := by omega
  unfold maxLen at h2
  clear h3
  by_cases hc : hi0 < loAt rs i
  · have hd : decide ((hi0 : Int) < loAt rs i) = true := by simp; omega
    have hb : 0 ≤ (loAt rs i : Int) - hi0 := by omega
    have hb2 : (loAt rs i : Int) - hi0 < 18446744073709551616 := by omega
    have HF : Hid (pastHi rs hi0 i = decide (1 < (loAt rs i : Int) - hi0)) := by
      show _ = _
      simp only [pastHi]
      congr 1
      apply propext
      omega
    go_enter Try.func13, Try.ntmps13
    go_wp2_with fail
    go_quiet (fail)
    go_wp2_with fail
    go_ret
    exact ⟨by rw [HF.out]; rfl, _, rfl⟩
  · have hd : decide ((hi0 : Int) < loAt rs i) = false := by simp; omega
    have HF : Hid (pastHi rs hi0 i = false) := by
      show _ = _
      simp only [pastHi, decide_eq_false_iff_not]
      omega
    go_enter Try.func13, Try.ntmps13
    go_wp2_with fail
    go_quiet (fail)
    go_wp2_with fail
    go_ret
    exact ⟨by rw [HF.out]; rfl, _, rfl⟩
end Go.Proofs.Ytddfdpbaiedcjaa
