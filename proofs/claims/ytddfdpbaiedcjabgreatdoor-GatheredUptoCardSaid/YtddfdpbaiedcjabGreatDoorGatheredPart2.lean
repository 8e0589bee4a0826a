/- The statement Gathered, second form, its card: where what the law reads is of bulk at most 1048576, and the two listed variables read as listed, it returns true, and its argument reads behind the call as before. Part 2 of 23. -/
import Derived.Test.YtddfdpbaiedcjabGreatDoorGatheredPart1
import Derived.OrdersHeld
import Derived.StillTail
import Derived.Deep.RegionHeld
/- slices.Replace of the ranges from i to j by one range. -/
namespace Go.Proofs.YtddfdpbaiedcjabGreatDoor
open Go.RowKit

set_option maxRecDepth 100000 in
set_option maxHeartbeats 400000 in
theorem rep_ins (a : Option Addr) (g2 i n cap : Nat) (R : Ending → World → Prop) (w : World) (hi : i ≤ n) (hcap : n ≤ cap) (hcap2 : cap ≤ 9223372036854775807)
    (hins : Calls Tryz.prog 107 #[.slice a n cap, .int .i64 i, .slice (some ⟨g2, 0, none⟩) 1 1] w fun e w' => ∃ v', e = .returned v' ∧ R (.returned v') w') :
    Calls Tryz.prog 78 #[.slice a n cap, .int .i64 i, .int .i64 i, .slice (some ⟨g2, 0, none⟩) 1 1] w R := by
  by_cases hc : i = cap
  · obtain rfl : n = i := by omega
    subst hc
    cases a
    all_goals
      go_enter Tryz.func78, Tryz.ntmps78
      go_wp2_with (go_at_call 107; refine hins.mono ?_; rintro e w' ⟨v', rfl, hR⟩)
      exact hR
  · have h1 : i < cap := by omega
    cases a
    all_goals
      go_enter Tryz.func78, Tryz.ntmps78
      go_wp2_with (go_at_call 107; refine hins.mono ?_; rintro e w' ⟨v', rfl, hR⟩)
      exact hR

/-- The row behind a replacement up to its end. -/
def repEnd (cur : List Value) (i n : Nat) (r : List Value) : List Value := splice (splice cur (i * 2) r) ((i + 1) * 2) (Builtin.zeroCells #[.int .u64 0, .int .u64 0] (n - (i + 1))).toList

set_option maxRecDepth 100000 in
set_option maxHeartbeats 400000 in
theorem rep_end (g g2 i n cap : Nat) (cur : List Value) (r : Nat × Nat) (w : World) (hi : i < n) (hcap : n ≤ cap) (_hcap2 : cap ≤ 9223372036854775807)
    (hg : w.heap[g]? = some (.cells cur.toArray 110 (0, 0))) (hcur : cur.length = cap * 2) (hg2 : w.heap[g2]? = some (.cells [.int .u64 r.1, .int .u64 r.2].toArray 110 (0, 0))) :
    Calls Tryz.prog 78 #[.slice (some ⟨g, 0, none⟩) n cap, .int .i64 i, .int .i64 n, .slice (some ⟨g2, 0, none⟩) 1 1] w fun e w' => e = .returned (.slice (some ⟨g, 0, none⟩) (i + 1) cap) ∧
      w' = w.setRow g (repEnd cur i n [.int .u64 r.1, .int .u64 r.2]).toArray := by
  obtain ⟨i0, hinf, hz0, hz1, hz2⟩ := info_parts info_rng
  have happ : ∀ ty, (Builtin.append_ #[46, 46] ty #[.slice (some ⟨g, 0, none⟩) i cap, .slice (some ⟨g2, 0, none⟩) 1 1]).run Tryz.prog w =
      .ok (.slice (some ⟨g, 0, none⟩) (i + 1) cap) (w.setRow g (splice cur (i * 2) [Value.int .u64 (r.1 : Int), Value.int .u64 (r.2 : Int)]).toArray) := fun ty => by
    have := run_append_room (P := Tryz.prog) w 46 ty 110 i0 Tryz.underlying46 hinf g i cap cur.toArray hg ⟨g2, 0, none⟩ 1 1 [Value.int .u64 (r.1 : Int), Value.int .u64 (r.2 : Int)] (by rw [hz1]; rfl) (cell_row hg2) (by simp [Value.oneCell']) (by omega) (by rw [hz1]; simp; omega)
    rw [this, hz1]
    simp [splice]
  obtain ⟨C1, hC1⟩ : ∃ C1, splice cur (i * 2) [Value.int .u64 (r.1 : Int), Value.int .u64 (r.2 : Int)] = C1 := ⟨_, rfl⟩
  have hC1l : C1.length = cap * 2 := by rw [← hC1, length_splice _ _ _ (by simp; omega)]; exact hcur
  rw [hC1] at happ
  obtain ⟨C2, hC2⟩ : ∃ C2, splice C1 ((i + 1) * 2) (Builtin.zeroCells #[Value.int .u64 0, Value.int .u64 0] (n - (i + 1))).toList = C2 := ⟨_, rfl⟩
  have hcl : ∀ ty, (Builtin.clear_ #[46] ty #[.slice (some ⟨g, (i + 1) * 2, none⟩) (n - (i + 1)) (cap - (i + 1))]).run Tryz.prog (w.setRow g C1.toArray) = .ok (.tuple #[]) (w.setRow g C2.toArray) := fun ty => by
    rw [run_clear_rows (P := Tryz.prog) (w.setRow g C1.toArray) 46 ty 110 (.agg #[.int .u64 0, .int .u64 0]) 2 Tryz.underlying46 zero_rng rfl (by simp [Value.cells, Value.oneCell']) g ((i + 1) * 2) (n - (i + 1)) _ C1 _ (setRow_heap w g _ _ _ _ hg) (by omega)]
    rw [show (Value.agg #[Value.int .u64 0, Value.int .u64 0]).cells = #[Value.int .u64 0, Value.int .u64 0] from rfl, hC2]
    congr 1
    exact setRow_setRow w g _ _
  have HC : Hid (repEnd cur i n [.int .u64 r.1, .int .u64 r.2] = C2) := by
    show splice (splice _ _ _) _ _ = C2
    rw [hC1, hC2]
  have HC0 : Hid (i + 1 = n → C1 = C2) := by
    intro e
    rw [← hC2]
    subst e
    simp [splice, Builtin.zeroCells]
  have h1 : (i : Int) < n := by omega
  have h2 : ((i : Int) == n) = false := by simp; omega
  have h3 : i < cap := by omega
  clear hC1 hC2
  by_cases hlast : i + 1 = n
  · have h4 : decide ((i : Int) + 1 < n) = false := by simp; omega
    have e2 := HC0.out hlast
    have HE : Hid (C1 = C2) := e2
    clear e2 hcl
    have h5 : ¬ ((i : Int) + 1 < n) := by omega
    go_enter Tryz.func78, Tryz.ntmps78
    have Hl := hide hlast
    clear hlast
    go_wp2_with (at_builtin; refine wpList_append_is rfl _ _ _ _ rfl _ _ _ rfl rfl happ ?_)
    go_ret
    exact ⟨rfl, by rw [HC.out, HE.out]⟩
  · have h5 : (i : Int) + 1 < n := by omega
    have h6 : i + 1 < cap := by omega
    clear hlast
    go_enter Tryz.func78, Tryz.ntmps78
    go_wp2_with (at_builtin; refine wpList_append_is rfl _ _ _ _ rfl _ _ _ rfl rfl happ ?_)
    go_ret
    exact ⟨rfl, by rw [HC.out]⟩

/-- The row behind a replacement in the middle. -/
def repMid (cur : List Value) (i j n : Nat) (r : List Value) : List Value :=
  splice (splice (splice cur (i * 2) r) ((i + 1) * 2) (((splice cur (i * 2) r).drop (j * 2)).take ((n - j) * 2))) ((i + 1 + (n - j)) * 2) (Builtin.zeroCells #[.int .u64 0, .int .u64 0] (n - (i + 1 + (n - j)))).toList

theorem drop_take_of_sub {α : Type} (L : List α) (o k n : Nat) (h : n = o + k) : (L.take n).drop o = (L.drop o).take k := by
  subst h
  rw [List.drop_take]
  congr 1
  omega

set_option maxRecDepth 100000 in
set_option maxHeartbeats 800000 in
theorem rep_mid (g g2 i j n cap : Nat) (cur : List Value) (r : Nat × Nat) (w : World) (hi : i < j) (hj : j < n) (hcap : n ≤ cap) (hcap2 : cap ≤ 9223372036854775807)
    (hg : w.heap[g]? = some (.cells cur.toArray 110 (0, 0))) (hcur : cur.length = cap * 2) (h1c : ∀ v ∈ cur.take (n * 2), v.oneCell' = true) (hg2 : w.heap[g2]? = some (.cells [.int .u64 r.1, .int .u64 r.2].toArray 110 (0, 0))) (_hne : g2 ≠ g) :
    Calls Tryz.prog 78 #[.slice (some ⟨g, 0, none⟩) n cap, .int .i64 i, .int .i64 j, .slice (some ⟨g2, 0, none⟩) 1 1] w fun e w' => e = .returned (.slice (some ⟨g, 0, none⟩) (i + 1 + (n - j)) cap) ∧
      ∃ k, w' = (w.setRow g (repMid cur i j n [.int .u64 r.1, .int .u64 r.2]).toArray).drewN k := by
  obtain ⟨C1, hC1⟩ : ∃ C1, splice cur (i * 2) [Value.int .u64 (r.1 : Int), Value.int .u64 (r.2 : Int)] = C1 := ⟨_, rfl⟩
  have hC1l : C1.length = cap * 2 := by rw [← hC1, length_splice _ _ _ (by simp; omega)]; exact hcur
  have hc1 : ∀ ty nq, (Builtin.copy_ #[46, 46] ty #[.slice (some ⟨g, i * 2, none⟩) (i + 1 + (n - j) - i) (cap - i), .slice (some ⟨g2, 0, none⟩) 1 1]).run Tryz.prog (w.drewN nq) = .ok (goInt (1 : Nat)) ((w.setRow g C1.toArray).drewN nq) := fun ty nq => by
    rw [run_copy_rows (P := Tryz.prog) (w.drewN nq) 46 46 ty 110 2 Tryz.underlying46 size_rng g (i * 2) (i + 1 + (n - j) - i) (cap - i) g2 0 1 1 1 cur _ _ _ _ hg hg2 (by omega) (by omega) (by omega) (by simp) (by omega) (by simp [Value.oneCell'])]
    simp only [List.drop_zero, List.take_succ_cons, List.take_zero, Nat.one_mul, hC1]
    rfl
  obtain ⟨C2, hC2⟩ : ∃ C2, splice C1 ((i + 1) * 2) ((C1.drop (j * 2)).take ((n - j) * 2)) = C2 := ⟨_, rfl⟩
  have hC2l : C2.length = cap * 2 := by rw [← hC2, length_splice _ _ _ (by simp; omega)]; exact hC1l
  have hone : ∀ v ∈ (C1.drop (j * 2)).take ((n - j) * 2), v.oneCell' = true := by
    intro v hv
    have e : C1.drop (j * 2) = cur.drop (j * 2) := by
      rw [← hC1]
      simp only [splice]
      rw [List.drop_append, List.drop_eq_nil_of_le (by simp; omega), List.nil_append, List.drop_append, List.drop_eq_nil_of_le (by simp; omega), List.nil_append, List.drop_drop]
      congr 1
      simp
      omega
    rw [e, ← drop_take_of_sub cur (j * 2) ((n - j) * 2) (n * 2) (by omega)] at hv
    exact h1c v (List.mem_of_mem_drop hv)
  have hc2 : ∀ ty nq, (Builtin.copy_ #[46, 46] ty #[.slice (some ⟨g, (i + 1) * 2, none⟩) (n - j) (cap - (i + 1)), .slice (some ⟨g, j * 2, none⟩) (n - j) (cap - j)]).run Tryz.prog ((w.setRow g C1.toArray).drewN nq) =
      .ok (goInt (n - j : Nat)) ((w.setRow g C2.toArray).drewN nq) := fun ty nq => by
    have hgC1 := setRow_heap w g _ C1.toArray _ _ hg
    rw [run_copy_rows (P := Tryz.prog) ((w.setRow g C1.toArray).drewN nq) 46 46 ty 110 2 Tryz.underlying46 size_rng g ((i + 1) * 2) (n - j) (cap - (i + 1)) g (j * 2) (n - j) (cap - j) (n - j) C1 C1 _ _ _ hgC1 hgC1 (by omega) (by omega) (by omega) (by omega) (by omega) hone]
    rw [hC2]
    congr 1
    exact congrArg (fun x => World.drewN x nq) (setRow_setRow w g _ _)
  obtain ⟨C3, hC3⟩ : ∃ C3, splice C2 ((i + 1 + (n - j)) * 2) (Builtin.zeroCells #[Value.int .u64 0, Value.int .u64 0] (n - (i + 1 + (n - j)))).toList = C3 := ⟨_, rfl⟩
  have hcl : ∀ ty nq, (Builtin.clear_ #[46] ty #[.slice (some ⟨g, (i + 1 + (n - j)) * 2, none⟩) (n - (i + 1 + (n - j))) (cap - (i + 1 + (n - j)))]).run Tryz.prog ((w.setRow g C2.toArray).drewN nq) = .ok (.tuple #[]) ((w.setRow g C3.toArray).drewN nq) := fun ty nq => by
    rw [run_clear_rows (P := Tryz.prog) ((w.setRow g C2.toArray).drewN nq) 46 ty 110 (.agg #[.int .u64 0, .int .u64 0]) 2 Tryz.underlying46 zero_rng rfl (by simp [Value.cells, Value.oneCell']) g ((i + 1 + (n - j)) * 2) (n - (i + 1 + (n - j))) _ C2 _ (setRow_heap w g _ _ _ _ hg) (by omega)]
    rw [show (Value.agg #[Value.int .u64 0, Value.int .u64 0]).cells = #[Value.int .u64 0, Value.int .u64 0] from rfl, hC3]
    congr 1
    exact congrArg (fun x => World.drewN x nq) (setRow_setRow w g _ _)
  have HC : Hid (repMid cur i j n [.int .u64 r.1, .int .u64 r.2] = C3) := by
    show splice (splice (splice _ _ _) _ _) _ _ = C3
    rw [hC1, hC2, hC3]
  have HC0 : Hid (i + 1 + (n - j) = n → C2 = C3) := by
    intro e
    rw [← hC3, e]
    simp [splice, Builtin.zeroCells]
  clear hC1 hC2 hC3 hone h1c
  have h1 : (i : Int) < j := by omega
  have h2 : ((i : Int) == j) = false := by simp; omega
  have h3 : ((j : Int) == n) = false := by simp; omega
  have h4 : (j : Int) < n := by omega
  have h5 : i < cap := by omega
  have h6 : i + 1 < cap := by omega
  have h7 : j < cap := by omega
  have h8 : ¬ cap = i + 1 := by omega
  have h9 : ¬ cap = j := by omega
  by_cases hlast : i + 1 + (n - j) = cap
  · have HL := hide hlast
    have h10 : n - (i + 1 + (n - j)) = 0 := by omega
    have HE : Hid (C2 = C3) := HC0.out (by omega)
    have H10 := hide h10
    have hcl0 : ∀ ty o c nq, (Builtin.clear_ #[46] ty #[.slice (some ⟨g, o, none⟩) (n - (i + 1 + (n - j))) c]).run Tryz.prog ((w.setRow g C2.toArray).drewN nq) = .ok (.tuple #[]) ((w.setRow g C2.toArray).drewN nq) := fun ty o c nq => by
      rw [h10]
      simp [Builtin.clear_, run_underlying Tryz.underlying46]
    clear hlast h10 hcl
    go_enter Tryz.func78, Tryz.ntmps78
    go_wp2_with fail
    go_quiet (fail)
    go_wp2_with fail
    go_region
    go_wp2_with fail
    all_goals
      go_ret
      refine ⟨?_, _, by rw [HC.out, HE.out]⟩
      first | rfl | (rw [← HL.out]; rfl)
  · have h10 : i + 1 + (n - j) < cap := by omega
    clear hlast
    go_enter Tryz.func78, Tryz.ntmps78
    go_wp2_with fail
    go_quiet (fail)
    go_wp2_with fail
    go_region
    go_wp2_with fail
    go_ret
    exact ⟨rfl, _, by rw [HC.out]⟩
end Go.Proofs.YtddfdpbaiedcjabGreatDoor
/- slices.Replace of ranges by one: what it comes to. -/
namespace Go.Proofs.YtddfdpbaiedcjabGreatDoor
open Go.RowKit

theorem splice_take {α : Type} (L : List α) (o : Nat) (cs : List α) (h : o ≤ L.length) : (splice L o cs).take o = L.take o := by
  simp only [splice]
  rw [List.take_append_of_le_length (by simp; omega), List.take_take]
  congr 1
  omega

theorem splice_drop {α : Type} (L : List α) (o : Nat) (cs : List α) (k : Nat) (h : o + cs.length ≤ L.length) (hk : o + cs.length ≤ k) : (splice L o cs).drop k = L.drop k := by
  simp only [splice]
  rw [List.drop_append, List.drop_eq_nil_of_le (by simp; omega), List.nil_append, List.drop_append, List.drop_eq_nil_of_le (by simp; omega), List.nil_append, List.drop_drop]
  congr 1
  simp
  omega

theorem splice_take_all {α : Type} (L : List α) (o : Nat) (cs : List α) (h : o + cs.length ≤ L.length) : (splice L o cs).take (o + cs.length) = L.take o ++ cs := by
  simp only [splice]
  rw [← List.append_assoc]
  have : (L.take o ++ cs).length = o + cs.length := by simp; omega
  rw [← this, List.take_left]

theorem repEnd_take (cur : List Value) (i n cap : Nat) (rs : Rngs) (r : Nat × Nat) (hi : i < n) (hn : n ≤ cap) (hcur : cur.length = cap * 2) (hrs : rs.length = n) (ht : cur.take (n * 2) = rcells rs) :
    (repEnd cur i n [.int .u64 r.1, .int .u64 r.2]).take ((i + 1) * 2) = rcells (rs.take i ++ [r]) := by
  have h1 : (splice cur (i * 2) [Value.int .u64 (r.1 : Int), Value.int .u64 (r.2 : Int)]).length = cap * 2 := by rw [length_splice _ _ _ (by simp; omega)]; exact hcur
  unfold repEnd
  rw [splice_take _ _ _ (by omega)]
  have e : (i + 1) * 2 = i * 2 + [Value.int .u64 (r.1 : Int), Value.int .u64 (r.2 : Int)].length := by simp; omega
  rw [e, splice_take_all _ _ _ (by simp; omega), rcells_append, ← rcells_take, ← ht, List.take_take, Nat.min_eq_left (by omega)]
  rfl

theorem repEnd_length (cur : List Value) (i n cap : Nat) (r : Nat × Nat) (hi : i < n) (hn : n ≤ cap) (hcur : cur.length = cap * 2) : (repEnd cur i n [.int .u64 r.1, .int .u64 r.2]).length = cap * 2 := by
  have h1 : (splice cur (i * 2) [Value.int .u64 (r.1 : Int), Value.int .u64 (r.2 : Int)]).length = cap * 2 := by rw [length_splice _ _ _ (by simp; omega)]; exact hcur
  unfold repEnd
  rw [length_splice _ _ _ (by simp [size_zeroCells]; omega)]
  exact h1

theorem repMid_facts (cur : List Value) (i j n cap : Nat) (rs : Rngs) (r : Nat × Nat) (hi : i < j) (hj : j < n) (hn : n ≤ cap) (hcur : cur.length = cap * 2) (hrs : rs.length = n) (ht : cur.take (n * 2) = rcells rs) :
    (repMid cur i j n [.int .u64 r.1, .int .u64 r.2]).take ((i + 1 + (n - j)) * 2) = rcells (rs.take i ++ r :: rs.drop j) ∧ (repMid cur i j n [.int .u64 r.1, .int .u64 r.2]).length = cap * 2 := by
  have h1 : (splice cur (i * 2) [Value.int .u64 (r.1 : Int), Value.int .u64 (r.2 : Int)]).length = cap * 2 := by rw [length_splice _ _ _ (by simp; omega)]; exact hcur
  have hX : ((splice cur (i * 2) [Value.int .u64 (r.1 : Int), Value.int .u64 (r.2 : Int)]).drop (j * 2)).take ((n - j) * 2) = rcells (rs.drop j) := by
    rw [splice_drop _ _ _ _ (by simp; omega) (by simp; omega), ← drop_take_of_sub cur (j * 2) ((n - j) * 2) (n * 2) (by omega), ht, rcells_drop]
  have hXl : (rcells (rs.drop j)).length = (n - j) * 2 := by rw [rcells_length]; simp; omega
  have h2 : (splice (splice cur (i * 2) [Value.int .u64 (r.1 : Int), Value.int .u64 (r.2 : Int)]) ((i + 1) * 2) (rcells (rs.drop j))).length = cap * 2 := by rw [length_splice _ _ _ (by omega)]; exact h1
  unfold repMid
  rw [hX]
  constructor
  · rw [splice_take _ _ _ (by omega), show (i + 1 + (n - j)) * 2 = (i + 1) * 2 + (rcells (rs.drop j)).length by omega, splice_take_all _ _ _ (by omega)]
    have e : (i + 1) * 2 = i * 2 + [Value.int .u64 (r.1 : Int), Value.int .u64 (r.2 : Int)].length := by simp; omega
    rw [e, splice_take_all _ _ _ (by simp; omega), rcells_append, rcells, ← rcells_take, ← ht, List.take_take, Nat.min_eq_left (by omega)]
    simp
  · rw [length_splice _ _ _ (by simp [size_zeroCells]; omega)]
    exact h2

theorem replace_any (v : Value) (rs : Rngs) (i j : Nat) (r : Nat × Nat) (g2 : Nat) (w : World) (hij : i ≤ j) (hj : j ≤ rs.length) (hlen : rs.length ≤ 1099511627776) (hown : w.ownsRow 0 110 2 v rs.length (rcells rs))
    (hg2 : w.heap[g2]? = some (.cells [.int .u64 r.1, .int .u64 r.2].toArray 110 (0, 0))) (hne : v.ownBlock ≠ some g2) :
    Calls Tryz.prog 78 #[v, .int .i64 i, .int .i64 j, .slice (some ⟨g2, 0, none⟩) 1 1] w fun e w' => ∃ v', e = .returned v' ∧ w'.ownsRow 0 110 2 v' (rs.take i ++ r :: rs.drop j).length (rcells (rs.take i ++ r :: rs.drop j)) ∧ w.grownBy w' v.ownBlock ∧ NewOr w v v' := by
  by_cases hie : i = j
  · subst hie
    have hl : (rs.take i ++ r :: rs.drop i).length = rs.length + 1 := by simp; omega
    rw [hl]
    obtain ⟨a, cap, rfl, h1, h2, _⟩ := own_form hown
    unfold maxLen at h2
    refine rep_ins a g2 i _ cap _ w (by omega) h1 (by omega) ?_
    refine (insert_any _ rs i r g2 w hj hlen hown hg2 hne).mono ?_
    rintro e w' ⟨v', rfl, h⟩
    exact ⟨v', rfl, v', rfl, h⟩
  · obtain ⟨g, cap, cur, rfl, hg, h1, h2, h3, h4⟩ := own_take hown (by omega)
    unfold maxLen at h2
    have hgn : g2 ≠ g := fun e => hne (by simp [Value.ownBlock, e])
    by_cases hjn : j = rs.length
    · have hl : (rs.take i ++ r :: rs.drop j).length = i + 1 := by simp; omega
      rw [hl]
      have e0 : rs.drop j = [] := by simp; omega
      rw [e0]
      subst hjn
      refine (rep_end g g2 i rs.length cap cur r w (by omega) h1 (by omega) hg h3 hg2).mono ?_
      rintro e w' ⟨rfl, rfl⟩
      refine ⟨_, rfl, ⟨by simp [rcells_length]; omega, .inr ⟨g, cap, _, rfl, Nat.zero_le _, setRow_heap w g _ _ _ _ hg, by omega, by unfold maxLen; omega, ?_, ?_⟩⟩, ⟨rfl, rfl, rfl, by simp, fun k _ hk => setRow_other w g k _ (fun e => hk (by simp [Value.ownBlock, e]))⟩, fun k hk => .inl hk⟩
      · simpa using repEnd_length cur i rs.length cap r (by omega) h1 h3
      · simpa using repEnd_take cur i rs.length cap rs r (by omega) h1 h3 rfl h4
    · have hl : (rs.take i ++ r :: rs.drop j).length = i + 1 + (rs.length - j) := by simp; omega
      rw [hl]
      have hf := repMid_facts cur i j rs.length cap rs r (by omega) (by omega) h1 h3 rfl h4
      refine (rep_mid g g2 i j rs.length cap cur r w (by omega) (by omega) h1 (by omega) hg h3 (by rw [h4]; exact rcells_one rs) hg2 hgn).mono ?_
      rintro e w' ⟨rfl, k, rfl⟩
      refine ⟨_, rfl, ⟨by simp [rcells_length]; omega, .inr ⟨g, cap, _, rfl, Nat.zero_le _, setRow_heap w g _ _ _ _ hg, by omega, by unfold maxLen; omega, ?_, ?_⟩⟩, ⟨rfl, rfl, rfl, by simp, fun k _ hk => setRow_other w g k _ (fun e => hk (by simp [Value.ownBlock, e]))⟩, fun k hk => .inl hk⟩
      · simpa using hf.2
      · simpa using hf.1

theorem delRow_facts (cur : List Value) (n cap : Nat) (rs : Rngs) (hn : 2 ≤ n) (hcap : n ≤ cap) (hcur : cur.length = cap * 2) (hrs : rs.length = n) (ht : cur.take (n * 2) = rcells rs) :
    (delRow cur n).take ((n - 1) * 2) = rcells (rs.drop 1) ∧ (delRow cur n).length = cap * 2 := by
  have hX : (cur.drop 2).take ((n - 1) * 2) = rcells (rs.drop 1) := by
    rw [← drop_take_of_sub cur 2 ((n - 1) * 2) (n * 2) (by omega), ht]
    exact rcells_drop rs 1
  have hXl : (rcells (rs.drop 1)).length = (n - 1) * 2 := by rw [rcells_length]; simp; omega
  have h1 : (splice cur 0 (rcells (rs.drop 1))).length = cap * 2 := by rw [length_splice _ _ _ (by omega)]; exact hcur
  unfold delRow
  rw [hX]
  constructor
  · rw [splice_take _ _ _ (by omega)]
    have := splice_take_all cur 0 (rcells (rs.drop 1)) (by omega)
    rw [hXl, Nat.zero_add, List.take_zero, List.nil_append] at this
    exact this
  · rw [length_splice _ _ _ (by rw [h1, show [Value.int IntKind.u64 0, Value.int IntKind.u64 0].length = 2 from rfl]; omega)]
    exact h1

theorem delete_any (v : Value) (rs : Rngs) (w : World) (hn : 2 ≤ rs.length) (hown : w.ownsRow 0 110 2 v rs.length (rcells rs)) :
    Calls Tryz.prog 79 #[v, .int .i64 0, .int .i64 1] w fun e w' => ∃ v', e = .returned v' ∧ w'.ownsRow 0 110 2 v' (rs.drop 1).length (rcells (rs.drop 1)) ∧ w.grownBy w' v.ownBlock ∧ NewOr w v v' := by
  obtain ⟨g, cap, cur, rfl, hg, h1, h2, h3, h4⟩ := own_take hown (by omega)
  unfold maxLen at h2
  have hf := delRow_facts cur rs.length cap rs hn h1 h3 rfl h4
  have hone : ∀ v ∈ (cur.drop 2).take ((rs.length - 1) * 2), v.oneCell' = true := by
    intro v hv
    rw [← drop_take_of_sub cur 2 ((rs.length - 1) * 2) (rs.length * 2) (by omega), h4] at hv
    exact rcells_one rs v (List.mem_of_mem_drop hv)
  refine (del_walk g rs.length cap cur w hn h1 (by omega) hg h3 hone).mono ?_
  rintro e w' ⟨rfl, rfl⟩
  have hl : (rs.drop 1).length = rs.length - 1 := by simp
  rw [hl]
  refine ⟨_, rfl, ⟨by rw [rcells_length, hl], .inr ⟨g, cap, _, rfl, Nat.zero_le _, setRow_heap w g _ _ _ _ hg, by omega, by unfold maxLen; omega, ?_, ?_⟩⟩, ⟨rfl, rfl, rfl, by simp, fun k _ hk => setRow_other w g k _ (fun e => hk (by simp [Value.ownBlock, e]))⟩, fun k hk => .inl hk⟩
  · simpa using hf.2
  · simpa using hf.1
end Go.Proofs.YtddfdpbaiedcjabGreatDoor
/- Set.Add: the two tests by which its places are searched. -/
namespace Go.Proofs.YtddfdpbaiedcjabGreatDoor
open Go.RowKit

/-- The range at i touches, or lies behind, lo. -/
def atLo (rs : Rngs) (lo i : Nat) : Bool := decide (lo ≤ hiAt rs i + 1)
/-- The range at i lies behind hi, with something between. -/
def pastHi (rs : Rngs) (hi i : Nat) : Bool := decide (hi + 1 < loAt rs i)

theorem enters_add1 : Enters 76 := fun args w => run_enter Tryz.func76 (by kernel_rfl) rfl args w
theorem enters_add2 : Enters 77 := fun args w => run_enter Tryz.func77 (by kernel_rfl) rfl args w

theorem add1_any (rs : Rngs) (i b o bb bn lo : Nat) (v : Value) (w : World)
    (hs : w.cell? ⟨bb, 0, none⟩ = some (.pointer (some ⟨b, o, none⟩))) (hn : w.cell? ⟨bn, 0, none⟩ = some (.int .u64 (lo : Int))) (hlo : lo < 18446744073709551616)
    (hl : w.cell? ⟨b, o, none⟩ = some v) (hown : w.ownsRow 0 110 2 v rs.length (rcells rs)) (hi : i < rs.length) :
    Calls Tryz.prog 76 #[.int .i64 i, .pointer (some ⟨bb, 0, none⟩), .pointer (some ⟨bn, 0, none⟩)] w fun e w' => e = .returned (.bool (atLo rs lo i)) ∧ ∃ k, w' = w.drewN k := by
  obtain ⟨a, cap, rfl, h1, h2, h3⟩ := own_form hown
  obtain ⟨g, rfl⟩ := h3 (by omega)
  have hr := (own_rcells hown i hi).2
  have hi1 : (i : Int) < rs.length := by omega
  have hi0 : 0 ≤ (i : Int) := by omega
  unfold maxLen at h2
  clear h3
  by_cases hc : lo ≤ hiAt rs i
  · have hd : decide ((lo : Int) ≤ hiAt rs i) = true := by simp; omega
    have hf : atLo rs lo i = true := by simp [atLo]; omega
    go_enter Tryz.func76, Tryz.ntmps76
    go_wp2_with fail
    go_quiet (fail)
    go_wp2_with fail
    go_ret
    exact ⟨by rw [hf]; rfl, _, rfl⟩
  · have hd : decide ((lo : Int) ≤ hiAt rs i) = false := by simp; omega
    have hb : 0 ≤ (lo : Int) - hiAt rs i := by omega
    have hb2 : (lo : Int) - hiAt rs i < 18446744073709551616 := by omega
    have HF : Hid (atLo rs lo i = decide ((lo : Int) - hiAt rs i = 1)) := by
      show _ = _
      simp only [atLo]
      congr 1
      apply propext
      omega
    go_enter Tryz.func76, Tryz.ntmps76
    go_wp2_with fail
    go_quiet (fail)
    go_wp2_with fail
    go_ret
    exact ⟨by rw [HF.out]; rfl, _, rfl⟩

theorem add2_any (rs : Rngs) (i b o bb bn hi0 : Nat) (v : Value) (w : World)
    (hs : w.cell? ⟨bb, 0, none⟩ = some (.pointer (some ⟨b, o, none⟩))) (hn : w.cell? ⟨bn, 0, none⟩ = some (.int .u64 (hi0 : Int))) (hb : ∀ i, i < rs.length → loAt rs i < 18446744073709551616)
    (hl : w.cell? ⟨b, o, none⟩ = some v) (hown : w.ownsRow 0 110 2 v rs.length (rcells rs)) (hi : i < rs.length) :
    Calls Tryz.prog 77 #[.int .i64 i, .pointer (some ⟨bb, 0, none⟩), .pointer (some ⟨bn, 0, none⟩)] w fun e w' => e = .returned (.bool (pastHi rs hi0 i)) ∧ ∃ k, w' = w.drewN k := by
  obtain ⟨a, cap, rfl, h1, h2, h3⟩ := own_form hown
  obtain ⟨g, rfl⟩ := h3 (by omega)
  have hr := (own_rcells hown i hi).1
  have hlt := hb i hi
  clear hb
  have hi1 : (i : Int) < rs.length := by omega
  have hi0' : 0 ≤ (i : Int) := by omega
  unfold maxLen at h2
  clear h3
  by_cases hc : hi0 < loAt rs i
  · have hd : decide ((hi0 : Int) < loAt rs i) = true := by simp; omega
    have hb : 0 ≤ (loAt rs i : Int) - hi0 := by omega
    have hb2 : (loAt rs i : Int) - hi0 < 18446744073709551616 := by omega
    have HF : Hid (pastHi rs hi0 i = decide (1 < (loAt rs i : Int) - hi0)) := by
      show _ = _
      simp only [pastHi]
      congr 1
      apply propext
      omega
    go_enter Tryz.func77, Tryz.ntmps77
    go_wp2_with fail
    go_quiet (fail)
    go_wp2_with fail
    go_ret
    exact ⟨by rw [HF.out]; rfl, _, rfl⟩
  · have hd : decide ((hi0 : Int) < loAt rs i) = false := by simp; omega
    have HF : Hid (pastHi rs hi0 i = false) := by
      show _ = _
      simp only [pastHi, decide_eq_false_iff_not]
      omega
    go_enter Tryz.func77, Tryz.ntmps77
    go_wp2_with fail
    go_quiet (fail)
    go_wp2_with fail
    go_ret
    exact ⟨by rw [HF.out]; rfl, _, rfl⟩
end Go.Proofs.YtddfdpbaiedcjabGreatDoor
/- A region that draws its order: what only reads is taken first; F (what the reads lean on) is shown behind each step but those of number k (the store that ends the statement). No program. -/
namespace Go.Proofs.YtddfdpbaiedcjabGreatDoor
open Go

section
variable {P : Program} {ops : Array Oper} {Q : Exit → Act → World → Prop} {md : Region.Mode} {F : World → Prop} {k : Nat}

def ST (k : Nat) (F : World → Prop) (L : Array Bool) (w : World) : Prop := L.getD k false = true ∨ F w

def wpAnyT (P : Program) (md : Region.Mode) (ops : Array Oper) (Q : Exit → Act → World → Prop) (k : Nat) (F : World → Prop) : Nat → Array Bool → Act → World → Prop
  | 0, L, a, w => Region.ready md ops L = [] ∧ Q .normal a w
  | fuel + 1, L, a, w =>
    (Region.ready md ops L = [] → Q .normal a w) ∧
    ∀ i ∈ Region.ready md ops L, wpOp P ops Q i (fun a' w' => ST k F (L.setIfInBounds i true) w' ∧ wpAnyT P md ops Q k F fuel (L.setIfInBounds i true) a' w') a w

theorem wpAny_of_T : ∀ (fuel : Nat) (L : Array Bool) (a : Act) (w : World), wpAnyT P md ops Q k F fuel L a w → wpAny P md ops Q fuel L a w
  | 0, _, _, _, h => h
  | fuel + 1, _, _, _, h => ⟨h.1, fun i hi => wpOp_mono (fun a' w' h' => wpAny_of_T fuel _ a' w' h'.2) (h.2 i hi)⟩

structure Closed (md : Region.Mode) (ops : Array Oper) (L : Array Bool) : Prop where
  nosel : Region.noSelect ops = true
  size : L.size = ops.size
  deps : ∀ j oj, ops[j]? = some oj → L.getD j false = true → ∀ e ∈ oj.after, Region.binds md e = true → L.getD e.on false = true

theorem getD_get_false {L : Array Bool} {i : Nat} (h : L.getD i true = false) : L.getD i false = false := by
  rcases Nat.lt_or_ge i L.size with h' | h'
  · simp [h'] at h ⊢; exact h
  · simp [Array.getElem?_eq_none h'] at h

theorem Closed.set {L : Array Bool} (c : Closed md ops L) {i : Nat} (hi : i ∈ Region.ready md ops L) : Closed md ops (L.setIfInBounds i true) := by
  obtain ⟨_, oi, hoi, hall⟩ := mem_ready.1 hi
  refine ⟨c.nosel, by simp [c.size], fun j oj hj hl e he hb => ?_⟩
  by_cases hij : i = j
  · subst hij
    have : oj = oi := Option.some.inj (hj.symm.trans hoi)
    subst this
    exact getD_set_true (hall e he hb)
  · rw [getD_set_ne false hij] at hl
    exact getD_set_true (c.deps j oj hj hl e he hb)

/-- Number k waits for number i, at whatever remove (or there is no number k). -/
def waitsB (md : Region.Mode) (ops : Array Oper) (i : Nat) : Nat → Nat → Bool
  | 0, k => k == i
  | f + 1, k => k == i || match ops[k]? with
    | some o => o.after.any fun e => Region.binds md e && waitsB md ops i f e.on
    | none => true

theorem waits_listed {L : Array Bool} (c : Closed md ops L) {i : Nat} : ∀ (f k : Nat), waitsB md ops i f k = true → L.getD k false = true → L.getD i false = true
  | 0, k, h, hk => by
    simp [waitsB] at h
    exact h ▸ hk
  | f + 1, k, h, hk => by
    simp only [waitsB, Bool.or_eq_true, beq_iff_eq] at h
    rcases h with h | h
    · exact h ▸ hk
    · cases ho : ops[k]? with
      | none =>
        have hlt : ¬ k < L.size := by
          rw [c.size]
          intro hlt
          simp [hlt] at ho
        simp [Array.getElem?_eq_none (Nat.le_of_not_lt hlt)] at hk
      | some o =>
        rw [ho] at h
        obtain ⟨e, he, hb⟩ := Array.any_eq_true'.1 h
        simp only [Bool.and_eq_true] at hb
        exact waits_listed c f e.on hb.2 (c.deps k o ho hk e he hb.1)

theorem wpAnyT_first {i : Nat} {oi : Oper} {v : Value} {f0 : Nat} (hi : ops[i]? = some oi) (hsel : ∀ (j : Nat) (o : Oper) cs b, ops[j]? = some o → o.op ≠ .select cs b)
    (hQ : ∀ c a w, Q (.panic c) (a.put oi.dst v) w → Q (.panic c) a w) (hk : waitsB md ops i f0 k = true) (hik : i ≠ k) :
    ∀ (fuel : Nat) (L : Array Bool) (a : Act) (w : World), Closed md ops L →
      (∀ j oj, ops[j]? = some oj → j ≠ i → L.getD j true = false → (∀ e ∈ oj.after, Region.binds md e = true → e.on ≠ i) → oi.apart ops oj = true) →
      i ∈ Region.ready md ops L → YieldsIf P ops F oi v a → ST k F L w →
      wpAnyT P md ops Q k F fuel (L.setIfInBounds i true) (a.put oi.dst v) w → wpAnyT P md ops Q k F (fuel + 1) L a w := by
  have unl : ∀ L : Array Bool, i ∈ Region.ready md ops L → L.getD i false = false := fun L h => getD_get_false (mem_ready.1 h).1
  have toF : ∀ (L : Array Bool) (w : World), Closed md ops L → i ∈ Region.ready md ops L → ST k F L w → F w := fun L w c hr hS => by
    rcases hS with hS | hS
    · have := waits_listed c f0 k hk hS
      rw [unl L hr] at this
      cases this
    · exact hS
  intro fuel
  induction fuel with
  | zero =>
    intro L a w c _ hr hy hS H
    refine ⟨fun h => (by rw [h] at hr; cases hr), fun j hj => ?_⟩
    by_cases hji : j = i
    · subst hji; exact hy.wpOp hi (toF L w c hr hS) ⟨.inr (toF L w c hr hS), H⟩
    · have := ready_mono hj hji
      rw [H.1] at this
      cases this
  | succ fuel ih =>
    intro L a w c hfree hr hy hS H
    refine ⟨fun h => (by rw [h] at hr; cases hr), fun j hj => ?_⟩
    by_cases hji : j = i
    · subst hji; exact hy.wpOp hi (toF L w c hr hS) ⟨.inr (toF L w c hr hS), H⟩
    · have h1 := H.2 j (ready_mono hj hji)
      obtain ⟨hjun, oj, hoj, hall⟩ := mem_ready.1 hj
      have hnot : ∀ e ∈ oj.after, Region.binds md e = true → e.on ≠ i := fun e he hb heq => by
        have h1 := hall e he hb
        rw [heq, unl L hr] at h1
        cases h1
      have h2 := wpOp_putIf hoj (hfree j oj hoj hji hjun hnot) (fun cs b => hsel i oi cs b hi) (fun cs b => hsel j oj cs b hoj) hQ hy h1
      have hfree' : ∀ k ok, ops[k]? = some ok → k ≠ i → (L.setIfInBounds j true).getD k true = false →
          (∀ e ∈ ok.after, Region.binds md e = true → e.on ≠ i) → oi.apart ops ok = true := fun k ok hk hki hun hno => by
        refine hfree k ok hk hki ?_ hno
        by_cases hjk : j = k
        · subst hjk; exact hjun
        · rw [getD_set_ne true hjk] at hun; exact hun
      have hrj : i ∈ Region.ready md ops (L.setIfInBounds j true) := ready_mono hr (Ne.symm hji)
      have toS : ∀ w', ST k F ((L.setIfInBounds i true).setIfInBounds j true) w' → ST k F (L.setIfInBounds j true) w' := fun w' hS' => by
        rcases hS' with h | h
        · refine .inl ?_
          rw [Array.setIfInBounds_comm _ _ (Ne.symm hji), getD_set_ne false hik] at h
          exact h
        · exact .inr h
      refine wpOp_mono (fun a' w' h3 => ⟨toS w' h3.2.1, ih (L.setIfInBounds j true) a' w' (c.set hj) hfree' hrj h3.1 (toS w' h3.2.1) ?_⟩) h2
      rw [Array.setIfInBounds_comm _ _ hji]
      exact h3.2.2

/-- What is still to be carried out, in whatever order. -/
def GT (P : Program) (md : Region.Mode) (ops : Array Oper) (Q : Exit → Act → World → Prop) (k : Nat) (F : World → Prop) (fuel : Nat) (L : Array Bool) (a : Act) (w : World) : Prop :=
  Closed md ops L → ST k F L w → wpAnyT P md ops Q k F fuel L a w

def takeB (md : Region.Mode) (ops : Array Oper) (k : Nat) (L : Array Bool) (i : Nat) : Bool :=
  Region.free md ops L i && (Region.ready md ops L).contains i && waitsB md ops i ops.size k && !(i == k)

theorem GT_take {i : Nat} {oi : Oper} {v : Value} {fuel : Nat} {L : Array Bool} {a : Act} {w : World} (hi : ops[i]? = some oi) (hb : takeB md ops k L i = true)
    (hQ : ∀ c a w, Q (.panic c) (a.put oi.dst v) w → Q (.panic c) a w) (hy : YieldsIf P ops F oi v a)
    (h : GT P md ops Q k F fuel (L.setIfInBounds i true) (a.put oi.dst v) w) : GT P md ops Q k F (fuel + 1) L a w := fun c hS => by
  simp only [takeB, Bool.and_eq_true, Bool.not_eq_true'] at hb
  obtain ⟨⟨⟨hf, hr⟩, hk⟩, hik⟩ := hb
  have hik' : i ≠ k := by simpa using hik
  have hr' : i ∈ Region.ready md ops L := by simpa using hr
  refine wpAnyT_first hi (Region.noSelect_spec c.nosel) hQ hk hik' fuel L a w c (Region.free_spec hi hf) hr' hy hS (h (c.set hr') ?_)
  rcases hS with hS | hS
  · exact .inl (getD_set_true hS)
  · exact .inr hS

/-- The one operation that may come up: behind it F is shown anew. -/
theorem GT_one {i : Nat} {o : Oper} {fuel : Nat} {L : Array Bool} {a : Act} {w : World} (ho : ops[i]? = some o) (hr : Region.ready md ops L = [i])
    (h : ∀ K' : Act → World → Prop, Shut (∀ a w, F w → GT P md ops Q k F fuel (L.setIfInBounds i true) a w → K' a w) → if Region.wanted o (yielded ops a.tmps) = true then Oper.wp P o a w K' Q else K' (a.put o.dst undef) w) :
    GT P md ops Q k F (fuel + 1) L a w := fun c _ => by
  refine ⟨fun h0 => (by rw [hr] at h0; cases h0), fun j hj => ?_⟩
  have hc := c.set hj
  rw [hr, List.mem_singleton] at hj
  subst hj
  exact wpOp_step ho (fun K' hK => h K' (fun a w hF hG => hK a w ⟨.inr hF, hG hc (.inr hF)⟩))

/-- The operation k: nothing is to be shown behind it. -/
theorem GT_last {o : Oper} {fuel : Nat} {L : Array Bool} {a : Act} {w : World} (ho : ops[k]? = some o) (hr : Region.ready md ops L = [k])
    (h : ∀ K' : Act → World → Prop, Shut (∀ a w, GT P md ops Q k F fuel (L.setIfInBounds k true) a w → K' a w) → if Region.wanted o (yielded ops a.tmps) = true then Oper.wp P o a w K' Q else K' (a.put o.dst undef) w) :
    GT P md ops Q k F (fuel + 1) L a w := fun c _ => by
  refine ⟨fun h0 => (by rw [hr] at h0; cases h0), fun j hj => ?_⟩
  have hc := c.set hj
  rw [hr, List.mem_singleton] at hj
  subst hj
  have hlt : j < L.size := by
    rw [c.size]
    exact (Array.getElem?_eq_some_iff.1 ho).1
  have hl : (L.setIfInBounds j true).getD j false = true := by simp [hlt]
  exact wpOp_step ho (fun K' hK => h K' (fun a w hG => hK a w ⟨.inl hl, hG hc (.inl hl)⟩))

theorem GT_done {fuel : Nat} {L : Array Bool} {a : Act} {w : World} (hr : Region.ready md ops L = []) (h : Q .normal a w) : GT P md ops Q k F fuel L a w := fun _ _ => by
  cases fuel with
  | zero => exact ⟨hr, h⟩
  | succ n => exact ⟨fun _ => h, by rw [hr]; simp⟩

theorem GT_start {id : Nat} {a : Act} {w : World} (k : Nat) (F : World → Prop) (hm : P.follows .mixedOrders = true) (hs : Region.noSelect ops = true) (hF : F w.drew)
    (h : GT P .any ops Q k F ops.size (Array.replicate ops.size false) a w.drew) : (Code.region id ops true).wp P Q a w := by
  refine wp_region_any hm (wpAny_of_T _ _ _ _ (h ⟨hs, by simp, fun j oj _ hl => ?_⟩ (.inr hF)))
  have : (Array.replicate ops.size false).getD j false = false := getD_replicate_false ops.size j
  rw [this] at hl
  cases hl
end
end Go.Proofs.YtddfdpbaiedcjabGreatDoor
