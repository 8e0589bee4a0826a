/- sort.Search: the place where a test turns from false to true. -/
import Derived.Test.YtddfdpbaiedcjaaRows
import Derived.Test.YtddfdpbaiedcjaaBase
import Derived.WalkKit
import Derived.Deep.QuietTactic
import Derived.BigQuiet
import Derived.WalkSpells
import Derived.LoopTactic
namespace Go.Proofs.Ytddfdpbaiedcjaa
open Go.RowKit

/-- A test of an index, by a function value: it only reads. -/
def TestAt (F : FuncId) (caps : Array Value) (n : Nat) (p : Nat → Bool) (w : World) : Prop :=
  ∀ i k, i < n → Calls Try.prog F (#[.int .i64 (i : Int)] ++ caps) (w.drewN k) fun e w' => e = .returned (.bool (p i)) ∧ ∃ k, w' = w.drewN k

def Enters (F : FuncId) : Prop := ∀ args w, (callFunc F args).run Try.prog w = .ok (.enter F args) w

def SearchIs (n : Nat) (p : Nat → Bool) (m : Nat) : Prop := m ≤ n ∧ (0 < m → p (m - 1) = false) ∧ (m < n → p m = true)

set_option maxHeartbeats 400000 in
theorem search (n : Nat) (F : FuncId) (caps : Array Value) (p : Nat → Bool) (w : World) (hn : n ≤ 4611686018427387904) (hF : Enters F) (hp : TestAt F caps n p w) :
    Calls Try.prog 11 #[.int .i64 n, .func (.func F) #[] caps] w fun e w' => ∃ m : Nat, SearchIs n p m ∧ e = .returned (.int .i64 m) ∧ ∃ k, w' = w.drewN k := by
  go_enter Try.func11, Try.ntmps11
  go_wp2_with fail
  go_loopw [5, 6] (fun i j w' => ∃ a b : Nat, a ≤ b ∧ b ≤ n ∧ i = .int .i64 a ∧ j = .int .i64 b ∧ (0 < a → p (a - 1) = false) ∧ (b < n → p b = true) ∧ ∃ k, w' = w.drewN k) (fun i j _ => ((intOf j) - (intOf i)).toNat)
  case atStart => exact ⟨0, n, by omega, by omega, rfl, rfl, by omega, by omega, 0, rfl⟩
  case round =>
    obtain ⟨a, b, hab, hbn, rfl, rfl, h1, h2, k, rfl⟩ := hrel
    by_cases hlt : a < b
    · have e1 : (a + b) / 2 < n := by omega
      have H := hp ((a + b) / 2) k e1
      have e2 : 0 ≤ (a : Int) + b := by omega
      have ec : (((a + b) / 2 : Nat) : Int) = ((a : Int) + b) / 2 := by omega
      rw [ec] at H
      have hF' : ∀ args w, (callFunc F args).run Try.prog w = .ok (.enter F args) w := hF
      clear ec
      cases hpv : p ((a + b) / 2)
      · rw [hpv] at H
        have Hp : Hid (p ((a + b) / 2) = false) := hpv
        clear hpv
        go_wp2_with (refine H.mono ?_; rintro e w' ⟨rfl, k', rfl⟩)
        go_roundw
        case rel => exact ⟨(a + b) / 2 + 1, b, by omega, by omega, by go_num, rfl, fun _ => Hp, h2, k', rfl⟩
        case measure => simp [intOf]; omega
      · rw [hpv] at H
        have Hp : Hid (p ((a + b) / 2) = true) := hpv
        clear hpv
        go_wp2_with (refine H.mono ?_; rintro e w' ⟨rfl, k', rfl⟩)
        go_roundw
        case rel => exact ⟨a, (a + b) / 2, by omega, by omega, rfl, by go_num, h1, fun _ => Hp, k', rfl⟩
        case measure => simp [intOf]; omega
    · go_wp2_with fail
      go_ret
      exact ⟨a, ⟨by omega, h1, fun h => by have e : a = b := by omega
                                           rw [e]; exact h2 (by omega)⟩, rfl, k, rfl⟩
end Go.Proofs.Ytddfdpbaiedcjaa
