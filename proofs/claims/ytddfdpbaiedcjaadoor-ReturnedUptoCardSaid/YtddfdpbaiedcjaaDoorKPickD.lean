/- mediawirekeep.pick. -/
import Derived.Test.YtddfdpbaiedcjaaDoorDec5
namespace Go.Proofs.YtddfdpbaiedcjaaDoor
open Go.RowKit

def pickN (c : Int) (n : Nat) : Nat := ((if c < 0 then -(c + 1) else c) % (n : Int)).toNat

theorem pickN_lt (c : Int) (n : Nat) (h : 0 < n) : pickN c n < n := by
  unfold pickN
  have h1 := Int.emod_lt_of_pos (if c < 0 then -(c + 1) else c) (show (0 : Int) < n by omega)
  have h2 := Int.emod_nonneg (if c < 0 then -(c + 1) else c) (show (n : Int) ≠ 0 by omega)
  omega

theorem pick_any (c : Int) (n : Nat) (w : World) (h1 : -9223372036854775808 ≤ c) (h2 : c ≤ 9223372036854775807) (hn : 0 < n) (hn2 : n ≤ 9223372036854775807) :
    Calls Tryd.prog 6 #[.int .i64 c, .int .i64 n] w fun e w' => e = .returned (.int .i64 (pickN c n : Int)) ∧ w = w' := by
  have hv : ∀ x : Int, (if c < 0 then -(c + 1) else c) = x → 0 ≤ x → x % (n : Int) = (pickN c n : Int) := by
    intro x hx _
    unfold pickN
    rw [hx]
    have := Int.emod_nonneg x (show (n : Int) ≠ 0 by omega)
    omega
  have hn' : (1 : Int) ≤ n := by omega
  by_cases hc : c < 0
  · have H := hide (hv (-(c + 1)) (by rw [if_pos hc]) (by omega))
    have E : Hid (-((c + 1).tmod (n : Int)) = (-(c + 1)) % (n : Int)) := by
      show _ = _
      rw [← Int.neg_tmod, Int.tmod_eq_emod_of_nonneg (by omega)]
    clear hv
    go_enter Tryd.func6, Tryd.ntmps6
    go_wp2_with fail
    go_ret
    exact ⟨by rw [← H.out, ← E.out]; rfl, rfl⟩
  · have H := hide (hv c (by rw [if_neg hc]) (by omega))
    clear hv
    go_enter Tryd.func6, Tryd.ntmps6
    go_wp2_with fail
    go_ret
    exact ⟨by rw [← H.out]; rfl, rfl⟩
end Go.Proofs.YtddfdpbaiedcjaaDoor
