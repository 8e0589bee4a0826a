/- slices.Insert of one range into a row of ranges. -/
import Derived.Test.YtddfdpbaiedcjaaSearch
import Derived.Test.YtddfdpbaiedcjaaRows2
import Derived.RegionTactic
import Derived.BigRegion
import Derived.Outline
import Derived.Lib.Overlaps
import Derived.OwnWalk
namespace Go.Proofs.Ytddfdpbaiedcjaa
open Go.RowKit

theorem info_rng : (Try.prog.info? 39).map (fun i => (i.zero, i.size, i.bytes)) = some (some (.agg #[.int .u64 0, .int .u64 0]), 2, 16) := by kernel_rfl
theorem size_rng : (Try.prog.info? 39).map (·.size) = some 2 := by kernel_rfl
theorem zero_rng (w : World) : (zeroValue 39).run Try.prog w = .ok (.agg #[.int .u64 0, .int .u64 0]) w := by kernel_rfl


theorem overlaps_no (w : World) (g g2 o la ca lb cb : Nat) (cur cur2 : List Value) (hg : w.heap[g]? = some (.cells cur.toArray 39 (0, 0))) (hg2 : w.heap[g2]? = some (.cells cur2.toArray 39 (0, 0)))
    (hne : g2 ≠ g) (hpos : cur.length ≠ 0) :
    (callFunc 18 #[.slice (some ⟨g2, 0, none⟩) la ca, .slice (some ⟨g, o, none⟩) lb cb]).run Try.prog w = .ok (.value (.bool false)) w := by
  rw [run_callFunc_extern Try.func18 (by kernel_rfl) (by kernel_rfl) (by kernel_rfl) (e := Extern.SlicesOverlaps.overlaps #[34, 34] #[4]) (by kernel_rfl),
    Lib.run_overlaps_apart w 34 4 39 Try.underlying34 2 (fun w => size_of_info size_rng w) ⟨g2, 0, none⟩ ⟨g, o, none⟩ la ca lb cb hne 39 39 cur2.length cur.length
      (by simp [World.shape?, hg2]) (by simp [World.shape?, hg]) hpos (by simp [World.frozen?, hg2]) (by simp [World.frozen?, hg2])]
  rfl

/-- What lies in the row behind the insertion. -/
def insRow (cur : List Value) (i n : Nat) (r : List Value) : List Value := splice (splice cur ((i + 1) * 2) ((cur.drop (i * 2)).take ((n - i) * 2))) (i * 2) r

set_option maxRecDepth 100000 in
set_option maxHeartbeats 400000 in
theorem ins_room (g g2 i n cap : Nat) (cur : List Value) (r : Nat × Nat) (w : World) (hi : i < n) (hn : n + 1 ≤ cap) (hcap : cap ≤ 9223372036854775807)
    (hg : w.heap[g]? = some (.cells cur.toArray 39 (0, 0))) (hcur : cur.length = cap * 2) (h1c : ∀ v ∈ (cur.drop (i * 2)).take ((n - i) * 2), v.oneCell' = true) (hg2 : w.heap[g2]? = some (.cells [.int .u64 r.1, .int .u64 r.2].toArray 39 (0, 0))) (hne : g2 ≠ g) :
    Calls Try.prog 17 #[.slice (some ⟨g, 0, none⟩) n cap, .int .i64 i, .slice (some ⟨g2, 0, none⟩) 1 1] w fun e w' => e = .returned (.slice (some ⟨g, 0, none⟩) (n + 1) cap) ∧
      w' = (w.setRow g (insRow cur i n [.int .u64 r.1, .int .u64 r.2]).toArray).drew := by
  have h1 : (i : Int) < n := by omega
  have h2 : decide ((i : Int) = n) = false := by simp; omega
  have h3 : ((i : Int) == n) = false := by simp; omega
  have h4 : i + 1 < cap := by omega
  have hov := overlaps_no w g g2 ((i + 1) * 2) 1 1 (n - i) (cap - (i + 1)) cur _ hg hg2 hne (by omega)
  have hc1 : ∀ ty, (Builtin.copy_ #[34, 34] ty #[.slice (some ⟨g, (i + 1) * 2, none⟩) (n - i) (cap - (i + 1)), .slice (some ⟨g, i * 2, none⟩) (n + 1 - i) (cap - i)]).run Try.prog w.drew =
      .ok (goInt (n - i : Nat)) (w.setRow g (splice cur ((i + 1) * 2) ((cur.drop (i * 2)).take ((n - i) * 2))).toArray).drew := fun ty =>
    run_copy_rows (P := Try.prog) w.drew 34 34 ty 39 2 Try.underlying34 size_rng g ((i + 1) * 2) (n - i) (cap - (i + 1)) g (i * 2) (n + 1 - i) (cap - i) (n - i) cur cur _ _ _ hg hg
      (by omega) (by omega) (by omega) (by omega) (by omega) h1c
  obtain ⟨C1, hC1⟩ : ∃ C1, splice cur ((i + 1) * 2) ((cur.drop (i * 2)).take ((n - i) * 2)) = C1 := ⟨_, rfl⟩
  rw [hC1] at hc1
  have hC1l : C1.length = cap * 2 := by rw [← hC1, length_splice _ _ _ (by simp; omega)]; exact hcur
  obtain ⟨C2, hC2⟩ : ∃ C2, splice C1 (i * 2) [Value.int .u64 (r.1 : Int), Value.int .u64 (r.2 : Int)] = C2 := ⟨_, rfl⟩
  have hc2 : ∀ ty, (Builtin.copy_ #[34, 34] ty #[.slice (some ⟨g, i * 2, none⟩) (n + 1 - i) (cap - i), .slice (some ⟨g2, 0, none⟩) 1 1]).run Try.prog (w.setRow g C1.toArray).drew =
      .ok (goInt (1 : Nat)) (w.setRow g C2.toArray).drew := fun ty => by
    rw [run_copy_rows (P := Try.prog) (w.setRow g C1.toArray).drew 34 34 ty 39 2 Try.underlying34 size_rng g (i * 2) (n + 1 - i) (cap - i) g2 0 1 1 1 C1 _ _ _ _ (setRow_heap w g _ _ _ _ hg)
      ((setRow_other w g g2 _ hne).trans hg2) (by omega) (by omega) (by omega) (by simp) (by omega) (by simp [Value.oneCell'])]
    simp only [List.drop_zero, List.take_succ_cons, List.take_zero, Nat.one_mul, hC2]
    congr 1
    exact congrArg World.drew (setRow_setRow w g _ _)
  have HC : Hid (insRow cur i n [.int .u64 r.1, .int .u64 r.2] = C2) := by
    show splice (splice _ _ _) _ _ = C2
    rw [hC1, hC2]
  clear hC1 hC2
  go_enter Try.func17, Try.ntmps17
  go_wp2_with fail
  go_region
  go_wp2_with fail
  go_ret
  exact ⟨rfl, by rw [HC.out]⟩

set_option maxRecDepth 100000 in
set_option maxHeartbeats 400000 in
theorem ins_end (g2 n cap : Nat) (a : Option Addr) (v' : Value) (w w1 : World) (hcap : n ≤ cap) (hcap2 : cap ≤ 9223372036854775807)
    (happ : ∀ ty, (Builtin.append_ #[34, 34] ty #[.slice a n cap, .slice (some ⟨g2, 0, none⟩) 1 1]).run Try.prog w = .ok v' w1) :
    Calls Try.prog 17 #[.slice a n cap, .int .i64 n, .slice (some ⟨g2, 0, none⟩) 1 1] w fun e w' => e = .returned v' ∧ w' = w1 := by
  by_cases hc : n = cap
  · subst hc
    cases a
    all_goals
      go_enter Try.func17, Try.ntmps17
      go_wp2_with (at_builtin; refine wpList_append_is rfl _ _ _ _ rfl _ _ _ rfl rfl happ ?_)
      go_ret
      exact ⟨rfl, rfl⟩
  · have h1 : n < cap := by omega
    cases a
    all_goals
      go_enter Try.func17, Try.ntmps17
      go_wp2_with (at_builtin; refine wpList_append_is rfl _ _ _ _ rfl _ _ _ rfl rfl happ ?_)
      go_ret
      exact ⟨rfl, rfl⟩

/-- What lies in the new row behind the insertion. -/
def insGrow (C0 cur : List Value) (i n : Nat) (r : List Value) : List Value := splice (splice C0 (i * 2) r) ((i + 1) * 2) ((cur.drop (i * 2)).take ((n - i) * 2))

set_option maxRecDepth 100000 in
set_option maxHeartbeats 400000 in
theorem ins_grow (g g2 h i n cap nc : Nat) (cur C0 : List Value) (r : Nat × Nat) (w w1 : World) (hi : i < n) (hnc : n ≤ cap) (hn : cap < n + 1) (hcap : cap ≤ 9223372036854775807)
    (hcur : cur.length = cap * 2) (h1c : ∀ v ∈ (cur.drop (i * 2)).take ((n - i) * 2), v.oneCell' = true)
    (happ : ∀ ty, (Builtin.append_ #[34, 3] ty #[.slice (some ⟨g, 0, none⟩) i cap, .int .i64 ((n : Int) + 1 - i)]).run Try.prog w = .ok (.slice (some ⟨h, 0, none⟩) (n + 1) nc) w1)
    (hg : w1.heap[g]? = some (.cells cur.toArray 39 (0, 0))) (hg2 : w1.heap[g2]? = some (.cells [.int .u64 r.1, .int .u64 r.2].toArray 39 (0, 0)))
    (hh : w1.heap[h]? = some (.cells C0.toArray 39 (0, 0))) (hC0 : C0.length = nc * 2) (hnc2 : n + 1 ≤ nc) (hnc3 : nc ≤ 9223372036854775807) (_hne : g2 ≠ h) (hne1 : g ≠ h) :
    Calls Try.prog 17 #[.slice (some ⟨g, 0, none⟩) n cap, .int .i64 i, .slice (some ⟨g2, 0, none⟩) 1 1] w fun e w' => e = .returned (.slice (some ⟨h, 0, none⟩) (n + 1) nc) ∧
      w' = (w1.setRow h (insGrow C0 cur i n [.int .u64 r.1, .int .u64 r.2]).toArray).drew := by
  have h1 : (i : Int) < n := by omega
  have h3 : ((i : Int) == n) = false := by simp; omega
  have h4 : i < cap := by omega
  have h5 : i + 1 < nc := by omega
  obtain ⟨C1, hC1⟩ : ∃ C1, splice C0 (i * 2) [Value.int .u64 (r.1 : Int), Value.int .u64 (r.2 : Int)] = C1 := ⟨_, rfl⟩
  have hC1l : C1.length = nc * 2 := by rw [← hC1, length_splice _ _ _ (by simp; omega)]; exact hC0
  have hc1 : ∀ ty, (Builtin.copy_ #[34, 34] ty #[.slice (some ⟨h, i * 2, none⟩) (n + 1 - i) (nc - i), .slice (some ⟨g2, 0, none⟩) 1 1]).run Try.prog w1 =
      .ok (goInt (1 : Nat)) (w1.setRow h C1.toArray) := fun ty => by
    rw [run_copy_rows (P := Try.prog) w1 34 34 ty 39 2 Try.underlying34 size_rng h (i * 2) (n + 1 - i) (nc - i) g2 0 1 1 1 C0 _ _ _ _ hh
      hg2 (by omega) (by omega) (by omega) (by simp) (by omega) (by simp [Value.oneCell'])]
    simp only [List.drop_zero, List.take_succ_cons, List.take_zero, Nat.one_mul, hC1]
  obtain ⟨C2, hC2⟩ : ∃ C2, splice C1 ((i + 1) * 2) ((cur.drop (i * 2)).take ((n - i) * 2)) = C2 := ⟨_, rfl⟩
  have hc2 : ∀ ty, (Builtin.copy_ #[34, 34] ty #[.slice (some ⟨h, (i + 1) * 2, none⟩) (n - i) (nc - (i + 1)), .slice (some ⟨g, i * 2, none⟩) (n - i) (cap - i)]).run Try.prog (w1.setRow h C1.toArray).drew =
      .ok (goInt (n - i : Nat)) (w1.setRow h C2.toArray).drew := fun ty => by
    rw [run_copy_rows (P := Try.prog) (w1.setRow h C1.toArray).drew 34 34 ty 39 2 Try.underlying34 size_rng h ((i + 1) * 2) (n - i) (nc - (i + 1)) g (i * 2) (n - i) (cap - i) (n - i) C1 cur _ _ _ (setRow_heap w1 h _ _ _ _ hh)
      ((setRow_other w1 h g _ hne1).trans hg) (by omega) (by omega) (by omega) (by omega) (by omega) h1c]
    rw [hC2]
    congr 1
    exact congrArg World.drew (setRow_setRow w1 h _ _)
  have HC : Hid (insGrow C0 cur i n [.int .u64 r.1, .int .u64 r.2] = C2) := by
    show splice (splice _ _ _) _ _ = C2
    rw [hC1, hC2]
  clear hC1 hC2
  go_enter Try.func17, Try.ntmps17
  go_wp2_with (at_builtin; refine wpList_append_is rfl _ _ _ _ rfl _ _ _ rfl rfl happ ?_)
  go_region
  go_wp2_with fail
  go_ret
  exact ⟨rfl, by rw [HC.out]⟩
end Go.Proofs.Ytddfdpbaiedcjaa
