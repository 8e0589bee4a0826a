/- slices.Delete of the first range of a row of two or more. -/
import Derived.Test.YtddfdpbaiedcjaaInsert2
import Derived.Deep.RegionLaw
namespace Go.Proofs.Ytddfdpbaiedcjaa
open Go.RowKit

def delRow (cur : List Value) (n : Nat) : List Value := splice (splice cur 0 ((cur.drop 2).take ((n - 1) * 2))) ((n - 1) * 2) [.int .u64 0, .int .u64 0]

set_option maxRecDepth 100000 in
set_option maxHeartbeats 400000 in
theorem del_walk (g n cap : Nat) (cur : List Value) (w : World) (hn : 2 ≤ n) (hcap : n ≤ cap) (hcap2 : cap ≤ 9223372036854775807)
    (hg : w.heap[g]? = some (.cells cur.toArray 39 (0, 0))) (hcur : cur.length = cap * 2) (h1c : ∀ v ∈ (cur.drop 2).take ((n - 1) * 2), v.oneCell' = true) :
    Calls Try.prog 15 #[.slice (some ⟨g, 0, none⟩) n cap, .int .i64 0, .int .i64 1] w fun e w' => e = .returned (.slice (some ⟨g, 0, none⟩) (n - 1) cap) ∧
      w' = (w.setRow g (delRow cur n).toArray).drew := by
  obtain ⟨i0, hinf, hz0, hz1, hz2⟩ := info_parts info_rng
  have hl : ((cur.drop 2).take ((n - 1) * 2)).length = (n - 1) * 2 := by simp; omega
  have happ : ∀ ty, (Builtin.append_ #[34, 34] ty #[.slice (some ⟨g, 0, none⟩) 0 cap, .slice (some ⟨g, 2, none⟩) (n - 1) (cap - 1)]).run Try.prog w.drew =
      .ok (.slice (some ⟨g, 0, none⟩) (n - 1) cap) (w.setRow g (splice cur 0 ((cur.drop 2).take ((n - 1) * 2))).toArray).drew := fun ty => by
    have := run_append_room (P := Try.prog) w.drew 34 ty 39 i0 Try.underlying34 hinf g 0 cap cur.toArray hg ⟨g, 2, none⟩ (n - 1) (cap - 1) _ (by rw [hl, hz1]) (row_cells hg 2 ((n - 1) * 2)) h1c (by omega) (by rw [hl]; simp; omega)
    rw [this]
    simp [splice]
    rfl
  obtain ⟨C1, hC1⟩ : ∃ C1, splice cur 0 ((cur.drop 2).take ((n - 1) * 2)) = C1 := ⟨_, rfl⟩
  have hC1l : C1.length = cap * 2 := by rw [← hC1, length_splice _ _ _ (by rw [hl]; omega)]; exact hcur
  rw [hC1] at happ
  obtain ⟨C2, hC2⟩ : ∃ C2, splice C1 ((n - 1) * 2) [Value.int .u64 0, Value.int .u64 0] = C2 := ⟨_, rfl⟩
  have hcl : ∀ ty, (Builtin.clear_ #[34] ty #[.slice (some ⟨g, (n - 1) * 2, none⟩) (n - (n - 1)) (cap - (n - 1))]).run Try.prog (w.setRow g C1.toArray).drew = .ok (.tuple #[]) (w.setRow g C2.toArray).drew := fun ty => by
    rw [show n - (n - 1) = 1 by omega, run_clear_rows (P := Try.prog) (w.setRow g C1.toArray).drew 34 ty 39 (.agg #[.int .u64 0, .int .u64 0]) 2 Try.underlying34 zero_rng rfl (by simp [Value.cells, Value.oneCell']) g ((n - 1) * 2) 1 _ C1 _ (setRow_heap w g _ _ _ _ hg) (by omega)]
    rw [show (Builtin.zeroCells (Value.agg #[Value.int .u64 0, Value.int .u64 0]).cells 1).toList = [Value.int .u64 0, Value.int .u64 0] by kernel_rfl, hC2]
    congr 1
    exact congrArg World.drew (setRow_setRow w g _ _)
  have HC : Hid (delRow cur n = C2) := by
    show splice (splice _ _ _) _ _ = C2
    rw [hC1, hC2]
  have h1 : 1 < cap := by omega
  have h2 : (1 : Int) ≤ n := by omega
  have h3 : n - 1 < cap := by omega
  clear hC1 hC2 hl
  go_enter Try.func15, Try.ntmps15
  go_wp2_with fail
  have h5 : ¬ cap = 1 := by omega
  go_region_law (refine step_append_is rfl (.tmp 22) (.tmp 25) 34 34 rfl (.slice (some ⟨g, 0, none⟩) 0 cap) (.slice (some ⟨g, 2, none⟩) (n - 1) (cap - 1)) (.slice (some ⟨g, 0, none⟩) (n - 1) cap) (by simp [Act.eval, Act.put]) (by simp [Act.eval, Act.put]) happ ?_)
  go_wp2_with fail
  go_ret
  exact ⟨rfl, by rw [HC.out]⟩
end Go.Proofs.Ytddfdpbaiedcjaa
