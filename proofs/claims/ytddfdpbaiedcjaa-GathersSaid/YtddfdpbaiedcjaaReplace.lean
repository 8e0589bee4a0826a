/- slices.Replace of the ranges from i to j by one range. -/
import Derived.Test.YtddfdpbaiedcjaaDelete
namespace Go.Proofs.Ytddfdpbaiedcjaa
open Go.RowKit

set_option maxRecDepth 100000 in
set_option maxHeartbeats 400000 in
theorem rep_ins (a : Option Addr) (g2 i n cap : Nat) (R : Ending → World → Prop) (w : World) (hi : i ≤ n) (hcap : n ≤ cap) (hcap2 : cap ≤ 9223372036854775807)
    (hins : Calls Try.prog 17 #[.slice a n cap, .int .i64 i, .slice (some ⟨g2, 0, none⟩) 1 1] w fun e w' => ∃ v', e = .returned v' ∧ R (.returned v') w') :
    Calls Try.prog 14 #[.slice a n cap, .int .i64 i, .int .i64 i, .slice (some ⟨g2, 0, none⟩) 1 1] w R := by
  by_cases hc : i = cap
  · obtain rfl : n = i := by omega
    subst hc
    cases a
    all_goals
      go_enter Try.func14, Try.ntmps14
      go_wp2_with (go_at_call 17; refine hins.mono ?_; rintro e w' ⟨v', rfl, hR⟩)
      exact hR
  · have h1 : i < cap := by omega
    cases a
    all_goals
      go_enter Try.func14, Try.ntmps14
      go_wp2_with (go_at_call 17; refine hins.mono ?_; rintro e w' ⟨v', rfl, hR⟩)
      exact hR

/-- The row behind a replacement up to its end. -/
def repEnd (cur : List Value) (i n : Nat) (r : List Value) : List Value := splice (splice cur (i * 2) r) ((i + 1) * 2) (Builtin.zeroCells #[.int .u64 0, .int .u64 0] (n - (i + 1))).toList

set_option maxRecDepth 100000 in
set_option maxHeartbeats 400000 in
theorem rep_end (g g2 i n cap : Nat) (cur : List Value) (r : Nat × Nat) (w : World) (hi : i < n) (hcap : n ≤ cap) (_hcap2 : cap ≤ 9223372036854775807)
    (hg : w.heap[g]? = some (.cells cur.toArray 39 (0, 0))) (hcur : cur.length = cap * 2) (hg2 : w.heap[g2]? = some (.cells [.int .u64 r.1, .int .u64 r.2].toArray 39 (0, 0))) :
    Calls Try.prog 14 #[.slice (some ⟨g, 0, none⟩) n cap, .int .i64 i, .int .i64 n, .slice (some ⟨g2, 0, none⟩) 1 1] w fun e w' => e = .returned (.slice (some ⟨g, 0, none⟩) (i + 1) cap) ∧
      w' = w.setRow g (repEnd cur i n [.int .u64 r.1, .int .u64 r.2]).toArray := by
  obtain ⟨i0, hinf, hz0, hz1, hz2⟩ := info_parts info_rng
  have happ : ∀ ty, (Builtin.append_ #[34, 34] ty #[.slice (some ⟨g, 0, none⟩) i cap, .slice (some ⟨g2, 0, none⟩) 1 1]).run Try.prog w =
      .ok (.slice (some ⟨g, 0, none⟩) (i + 1) cap) (w.setRow g (splice cur (i * 2) [Value.int .u64 (r.1 : Int), Value.int .u64 (r.2 : Int)]).toArray) := fun ty => by
    have := run_append_room (P := Try.prog) w 34 ty 39 i0 Try.underlying34 hinf g i cap cur.toArray hg ⟨g2, 0, none⟩ 1 1 [Value.int .u64 (r.1 : Int), Value.int .u64 (r.2 : Int)] (by rw [hz1]; rfl) (cell_row hg2) (by simp [Value.oneCell']) (by omega) (by rw [hz1]; simp; omega)
    rw [this, hz1]
    simp [splice]
  obtain ⟨C1, hC1⟩ : ∃ C1, splice cur (i * 2) [Value.int .u64 (r.1 : Int), Value.int .u64 (r.2 : Int)] = C1 := ⟨_, rfl⟩
  have hC1l : C1.length = cap * 2 := by rw [← hC1, length_splice _ _ _ (by simp; omega)]; exact hcur
  rw [hC1] at happ
  obtain ⟨C2, hC2⟩ : ∃ C2, splice C1 ((i + 1) * 2) (Builtin.zeroCells #[Value.int .u64 0, Value.int .u64 0] (n - (i + 1))).toList = C2 := ⟨_, rfl⟩
  have hcl : ∀ ty, (Builtin.clear_ #[34] ty #[.slice (some ⟨g, (i + 1) * 2, none⟩) (n - (i + 1)) (cap - (i + 1))]).run Try.prog (w.setRow g C1.toArray) = .ok (.tuple #[]) (w.setRow g C2.toArray) := fun ty => by
    rw [run_clear_rows (P := Try.prog) (w.setRow g C1.toArray) 34 ty 39 (.agg #[.int .u64 0, .int .u64 0]) 2 Try.underlying34 zero_rng rfl (by simp [Value.cells, Value.oneCell']) g ((i + 1) * 2) (n - (i + 1)) _ C1 _ (setRow_heap w g _ _ _ _ hg) (by omega)]
    rw [show (Value.agg #[Value.int .u64 0, Value.int .u64 0]).cells = #[Value.int .u64 0, Value.int .u64 0] from rfl, hC2]
    congr 1
    exact setRow_setRow w g _ _
  have HC : Hid (repEnd cur i n [.int .u64 r.1, .int .u64 r.2] = C2) := by
    show splice (splice _ _ _) _ _ = C2
    rw [hC1, hC2]
  have HC0 : Hid (i + 1 = n → C1 = C2) := by
    intro e
    rw [← hC2]
    subst e
    simp [splice, Builtin.zeroCells]
  have h1 : (i : Int) < n := by omega
  have h2 : ((i : Int) == n) = false := by simp; omega
  have h3 : i < cap := by omega
  clear hC1 hC2
  by_cases hlast : i + 1 = n
  · have h4 : decide ((i : Int) + 1 < n) = false := by simp; omega
    have e2 := HC0.out hlast
    have HE : Hid (C1 = C2) := e2
    clear e2 hcl
    have h5 : ¬ ((i : Int) + 1 < n) := by omega
    go_enter Try.func14, Try.ntmps14
    have Hl := hide hlast
    clear hlast
    go_wp2_with (at_builtin; refine wpList_append_is rfl _ _ _ _ rfl _ _ _ rfl rfl happ ?_)
    go_ret
    exact ⟨rfl, by rw [HC.out, HE.out]⟩
  · have h5 : (i : Int) + 1 < n := by omega
    have h6 : i + 1 < cap := by omega
    clear hlast
    go_enter Try.func14, Try.ntmps14
    go_wp2_with (at_builtin; refine wpList_append_is rfl _ _ _ _ rfl _ _ _ rfl rfl happ ?_)
    go_ret
    exact ⟨rfl, by rw [HC.out]⟩

/-- The row behind a replacement in the middle. -/
def repMid (cur : List Value) (i j n : Nat) (r : List Value) : List Value :=
  splice (splice (splice cur (i * 2) r) ((i + 1) * 2) (((splice cur (i * 2) r).drop (j * 2)).take ((n - j) * 2))) ((i + 1 + (n - j)) * 2) (Builtin.zeroCells #[.int .u64 0, .int .u64 0] (n - (i + 1 + (n - j)))).toList

theorem drop_take_of_sub {α : Type} (L : List α) (o k n : Nat) (h : n = o + k) : (L.take n).drop o = (L.drop o).take k := by
  subst h
  rw [List.drop_take]
  congr 1
  omega

set_option maxRecDepth 100000 in
set_option maxHeartbeats 800000 in
theorem rep_mid (g g2 i j n cap : Nat) (cur : List Value) (r : Nat × Nat) (w : World) (hi : i < j) (hj : j < n) (hcap : n ≤ cap) (hcap2 : cap ≤ 9223372036854775807)
    (hg : w.heap[g]? = some (.cells cur.toArray 39 (0, 0))) (hcur : cur.length = cap * 2) (h1c : ∀ v ∈ cur.take (n * 2), v.oneCell' = true) (hg2 : w.heap[g2]? = some (.cells [.int .u64 r.1, .int .u64 r.2].toArray 39 (0, 0))) (_hne : g2 ≠ g) :
    Calls Try.prog 14 #[.slice (some ⟨g, 0, none⟩) n cap, .int .i64 i, .int .i64 j, .slice (some ⟨g2, 0, none⟩) 1 1] w fun e w' => e = .returned (.slice (some ⟨g, 0, none⟩) (i + 1 + (n - j)) cap) ∧
      ∃ k, w' = (w.setRow g (repMid cur i j n [.int .u64 r.1, .int .u64 r.2]).toArray).drewN k := by
  obtain ⟨C1, hC1⟩ : ∃ C1, splice cur (i * 2) [Value.int .u64 (r.1 : Int), Value.int .u64 (r.2 : Int)] = C1 := ⟨_, rfl⟩
  have hC1l : C1.length = cap * 2 := by rw [← hC1, length_splice _ _ _ (by simp; omega)]; exact hcur
  have hc1 : ∀ ty nq, (Builtin.copy_ #[34, 34] ty #[.slice (some ⟨g, i * 2, none⟩) (i + 1 + (n - j) - i) (cap - i), .slice (some ⟨g2, 0, none⟩) 1 1]).run Try.prog (w.drewN nq) = .ok (goInt (1 : Nat)) ((w.setRow g C1.toArray).drewN nq) := fun ty nq => by
    rw [run_copy_rows (P := Try.prog) (w.drewN nq) 34 34 ty 39 2 Try.underlying34 size_rng g (i * 2) (i + 1 + (n - j) - i) (cap - i) g2 0 1 1 1 cur _ _ _ _ hg hg2 (by omega) (by omega) (by omega) (by simp) (by omega) (by simp [Value.oneCell'])]
    simp only [List.drop_zero, List.take_succ_cons, List.take_zero, Nat.one_mul, hC1]
    rfl
  obtain ⟨C2, hC2⟩ : ∃ C2, splice C1 ((i + 1) * 2) ((C1.drop (j * 2)).take ((n - j) * 2)) = C2 := ⟨_, rfl⟩
  have hC2l : C2.length = cap * 2 := by rw [← hC2, length_splice _ _ _ (by simp; omega)]; exact hC1l
  have hone : ∀ v ∈ (C1.drop (j * 2)).take ((n - j) * 2), v.oneCell' = true := by
    intro v hv
    have e : C1.drop (j * 2) = cur.drop (j * 2) := by
      rw [← hC1]
      simp only [splice]
      rw [List.drop_append, List.drop_eq_nil_of_le (by simp; omega), List.nil_append, List.drop_append, List.drop_eq_nil_of_le (by simp; omega), List.nil_append, List.drop_drop]
      congr 1
      simp
      omega
    rw [e, ← drop_take_of_sub cur (j * 2) ((n - j) * 2) (n * 2) (by omega)] at hv
    exact h1c v (List.mem_of_mem_drop hv)
  have hc2 : ∀ ty nq, (Builtin.copy_ #[34, 34] ty #[.slice (some ⟨g, (i + 1) * 2, none⟩) (n - j) (cap - (i + 1)), .slice (some ⟨g, j * 2, none⟩) (n - j) (cap - j)]).run Try.prog ((w.setRow g C1.toArray).drewN nq) =
      .ok (goInt (n - j : Nat)) ((w.setRow g C2.toArray).drewN nq) := fun ty nq => by
    have hgC1 := setRow_heap w g _ C1.toArray _ _ hg
    rw [run_copy_rows (P := Try.prog) ((w.setRow g C1.toArray).drewN nq) 34 34 ty 39 2 Try.underlying34 size_rng g ((i + 1) * 2) (n - j) (cap - (i + 1)) g (j * 2) (n - j) (cap - j) (n - j) C1 C1 _ _ _ hgC1 hgC1 (by omega) (by omega) (by omega) (by omega) (by omega) hone]
    rw [hC2]
    congr 1
    exact congrArg (fun x => World.drewN x nq) (setRow_setRow w g _ _)
  obtain ⟨C3, hC3⟩ : ∃ C3, splice C2 ((i + 1 + (n - j)) * 2) (Builtin.zeroCells #[Value.int .u64 0, Value.int .u64 0] (n - (i + 1 + (n - j)))).toList = C3 := ⟨_, rfl⟩
  have hcl : ∀ ty nq, (Builtin.clear_ #[34] ty #[.slice (some ⟨g, (i + 1 + (n - j)) * 2, none⟩) (n - (i + 1 + (n - j))) (cap - (i + 1 + (n - j)))]).run Try.prog ((w.setRow g C2.toArray).drewN nq) = .ok (.tuple #[]) ((w.setRow g C3.toArray).drewN nq) := fun ty nq => by
    rw [run_clear_rows (P := Try.prog) ((w.setRow g C2.toArray).drewN nq) 34 ty 39 (.agg #[.int .u64 0, .int .u64 0]) 2 Try.underlying34 zero_rng rfl (by simp [Value.cells, Value.oneCell']) g ((i + 1 + (n - j)) * 2) (n - (i + 1 + (n - j))) _ C2 _ (setRow_heap w g _ _ _ _ hg) (by omega)]
    rw [show (Value.agg #[Value.int .u64 0, Value.int .u64 0]).cells = #[Value.int .u64 0, Value.int .u64 0] from rfl, hC3]
    congr 1
    exact congrArg (fun x => World.drewN x nq) (setRow_setRow w g _ _)
  have HC : Hid (repMid cur i j n [.int .u64 r.1, .int .u64 r.2] = C3) := by
    show splice (splice (splice _ _ _) _ _) _ _ = C3
    rw [hC1, hC2, hC3]
  have HC0 : Hid (i + 1 + (n - j) = n → C2 = C3) := by
    intro e
    rw [← hC3, e]
    simp [splice, Builtin.zeroCells]
  clear hC1 hC2 hC3 hone h1c
  have h1 : (i : Int) < j := by omega
  have h2 : ((i : Int) == j) = false := by simp; omega
  have h3 : ((j : Int) == n) = false := by simp; omega
  have h4 : (j : Int) < n := by omega
  have h5 : i < cap := by omega
  have h6 : i + 1 < cap := by omega
  have h7 : j < cap := by omega
  have h8 : ¬ cap = i + 1 := by omega
  have h9 : ¬ cap = j := by omega
  by_cases hlast : i + 1 + (n - j) = cap
  · have HL := hide hlast
    have h10 : n - (i + 1 + (n - j)) = 0 := by omega
    have HE : Hid (C2 = C3) := HC0.out (by omega)
    have H10 := hide h10
    have hcl0 : ∀ ty o c nq, (Builtin.clear_ #[34] ty #[.slice (some ⟨g, o, none⟩) (n - (i + 1 + (n - j))) c]).run Try.prog ((w.setRow g C2.toArray).drewN nq) = .ok (.tuple #[]) ((w.setRow g C2.toArray).drewN nq) := fun ty o c nq => by
      rw [h10]
      simp [Builtin.clear_, run_underlying Try.underlying34]
    clear hlast h10 hcl
    go_enter Try.func14, Try.ntmps14
    go_wp2_with fail
    go_quiet (fail)
    go_wp2_with fail
    go_region
    go_wp2_with fail
    all_goals
      go_ret
      refine ⟨?_, _, by rw [HC.out, HE.out]⟩
      first | rfl | (rw [← HL.out]; rfl)
  · have h10 : i + 1 + (n - j) < cap := by omega
    clear hlast
    go_enter Try.func14, Try.ntmps14
    go_wp2_with fail
    go_quiet (fail)
    go_wp2_with fail
    go_region
    go_wp2_with fail
    go_ret
    exact ⟨rfl, _, by rw [HC.out]⟩
end Go.Proofs.Ytddfdpbaiedcjaa
