/- slices.Replace of ranges by one: what it comes to. -/
import Derived.Test.YtddfdpbaiedcjaaReplace
namespace Go.Proofs.Ytddfdpbaiedcjaa
open Go.RowKit

theorem splice_take {α : Type} (L : List α) (o : Nat) (cs : List α) (h : o ≤ L.length) : (splice L o cs).take o = L.take o := by
  simp only [splice]
  rw [List.take_append_of_le_length (by simp; omega), List.take_take]
  congr 1
  omega

theorem splice_drop {α : Type} (L : List α) (o : Nat) (cs : List α) (k : Nat) (h : o + cs.length ≤ L.length) (hk : o + cs.length ≤ k) : (splice L o cs).drop k = L.drop k := by
  simp only [splice]
  rw [List.drop_append, List.drop_eq_nil_of_le (by simp; omega), List.nil_append, List.drop_append, List.drop_eq_nil_of_le (by simp; omega), List.nil_append, List.drop_drop]
  congr 1
  simp
  omega

theorem splice_take_all {α : Type} (L : List α) (o : Nat) (cs : List α) (h : o + cs.length ≤ L.length) : (splice L o cs).take (o + cs.length) = L.take o ++ cs := by
  simp only [splice]
  rw [← List.append_assoc]
  have : (L.take o ++ cs).length = o + cs.length := by simp; omega
  rw [← this, List.take_left]

theorem repEnd_take (cur : List Value) (i n cap : Nat) (rs : Rngs) (r : Nat × Nat) (hi : i < n) (hn : n ≤ cap) (hcur : cur.length = cap * 2) (hrs : rs.length = n) (ht : cur.take (n * 2) = rcells rs) :
    (repEnd cur i n [.int .u64 r.1, .int .u64 r.2]).take ((i + 1) * 2) = rcells (rs.take i ++ [r]) := by
  have h1 : (splice cur (i * 2) [Value.int .u64 (r.1 : Int), Value.int .u64 (r.2 : Int)]).length = cap * 2 := by rw [length_splice _ _ _ (by simp; omega)]; exact hcur
  unfold repEnd
  rw [splice_take _ _ _ (by omega)]
  have e : (i + 1) * 2 = i * 2 + [Value.int .u64 (r.1 : Int), Value.int .u64 (r.2 : Int)].length := by simp; omega
  rw [e, splice_take_all _ _ _ (by simp; omega), rcells_append, ← rcells_take, ← ht, List.take_take, Nat.min_eq_left (by omega)]
  rfl

theorem repEnd_length (cur : List Value) (i n cap : Nat) (r : Nat × Nat) (hi : i < n) (hn : n ≤ cap) (hcur : cur.length = cap * 2) : (repEnd cur i n [.int .u64 r.1, .int .u64 r.2]).length = cap * 2 := by
  have h1 : (splice cur (i * 2) [Value.int .u64 (r.1 : Int), Value.int .u64 (r.2 : Int)]).length = cap * 2 := by rw [length_splice _ _ _ (by simp; omega)]; exact hcur
  unfold repEnd
  rw [length_splice _ _ _ (by simp [size_zeroCells]; omega)]
  exact h1

theorem repMid_facts (cur : List Value) (i j n cap : Nat) (rs : Rngs) (r : Nat × Nat) (hi : i < j) (hj : j < n) (hn : n ≤ cap) (hcur : cur.length = cap * 2) (hrs : rs.length = n) (ht : cur.take (n * 2) = rcells rs) :
    (repMid cur i j n [.int .u64 r.1, .int .u64 r.2]).take ((i + 1 + (n - j)) * 2) = rcells (rs.take i ++ r :: rs.drop j) ∧ (repMid cur i j n [.int .u64 r.1, .int .u64 r.2]).length = cap * 2 := by
  have h1 : (splice cur (i * 2) [Value.int .u64 (r.1 : Int), Value.int .u64 (r.2 : Int)]).length = cap * 2 := by rw [length_splice _ _ _ (by simp; omega)]; exact hcur
  have hX : ((splice cur (i * 2) [Value.int .u64 (r.1 : Int), Value.int .u64 (r.2 : Int)]).drop (j * 2)).take ((n - j) * 2) = rcells (rs.drop j) := by
    rw [splice_drop _ _ _ _ (by simp; omega) (by simp; omega), ← drop_take_of_sub cur (j * 2) ((n - j) * 2) (n * 2) (by omega), ht, rcells_drop]
  have hXl : (rcells (rs.drop j)).length = (n - j) * 2 := by rw [rcells_length]; simp; omega
  have h2 : (splice (splice cur (i * 2) [Value.int .u64 (r.1 : Int), Value.int .u64 (r.2 : Int)]) ((i + 1) * 2) (rcells (rs.drop j))).length = cap * 2 := by rw [length_splice _ _ _ (by omega)]; exact h1
  unfold repMid
  rw [hX]
  constructor
  · rw [splice_take _ _ _ (by omega), show (i + 1 + (n - j)) * 2 = (i + 1) * 2 + (rcells (rs.drop j)).length by omega, splice_take_all _ _ _ (by omega)]
    have e : (i + 1) * 2 = i * 2 + [Value.int .u64 (r.1 : Int), Value.int .u64 (r.2 : Int)].length := by simp; omega
    rw [e, splice_take_all _ _ _ (by simp; omega), rcells_append, rcells, ← rcells_take, ← ht, List.take_take, Nat.min_eq_left (by omega)]
    simp
  · rw [length_splice _ _ _ (by simp [size_zeroCells]; omega)]
    exact h2

theorem replace_any (v : Value) (rs : Rngs) (i j : Nat) (r : Nat × Nat) (g2 : Nat) (w : World) (hij : i ≤ j) (hj : j ≤ rs.length) (hlen : rs.length ≤ 1099511627776) (hown : w.ownsRow 0 39 2 v rs.length (rcells rs))
    (hg2 : w.heap[g2]? = some (.cells [.int .u64 r.1, .int .u64 r.2].toArray 39 (0, 0))) (hne : v.ownBlock ≠ some g2) :
    Calls Try.prog 14 #[v, .int .i64 i, .int .i64 j, .slice (some ⟨g2, 0, none⟩) 1 1] w fun e w' => ∃ v', e = .returned v' ∧ w'.ownsRow 0 39 2 v' (rs.take i ++ r :: rs.drop j).length (rcells (rs.take i ++ r :: rs.drop j)) ∧ w.grownBy w' v.ownBlock ∧ NewOr w v v' := by
  by_cases hie : i = j
  · subst hie
    have hl : (rs.take i ++ r :: rs.drop i).length = rs.length + 1 := by simp; omega
    rw [hl]
    obtain ⟨a, cap, rfl, h1, h2, _⟩ := own_form hown
    unfold maxLen at h2
    refine rep_ins a g2 i _ cap _ w (by omega) h1 (by omega) ?_
    refine (insert_any _ rs i r g2 w hj hlen hown hg2 hne).mono ?_
    rintro e w' ⟨v', rfl, h⟩
    exact ⟨v', rfl, v', rfl, h⟩
  · obtain ⟨g, cap, cur, rfl, hg, h1, h2, h3, h4⟩ := own_take hown (by omega)
    unfold maxLen at h2
    have hgn : g2 ≠ g := fun e => hne (by simp [Value.ownBlock, e])
    by_cases hjn : j = rs.length
    · have hl : (rs.take i ++ r :: rs.drop j).length = i + 1 := by simp; omega
      rw [hl]
      have e0 : rs.drop j = [] := by simp; omega
      rw [e0]
      subst hjn
      refine (rep_end g g2 i rs.length cap cur r w (by omega) h1 (by omega) hg h3 hg2).mono ?_
      rintro e w' ⟨rfl, rfl⟩
      refine ⟨_, rfl, ⟨by simp [rcells_length]; omega, .inr ⟨g, cap, _, rfl, Nat.zero_le _, setRow_heap w g _ _ _ _ hg, by omega, by unfold maxLen; omega, ?_, ?_⟩⟩, ⟨rfl, rfl, rfl, by simp, fun k _ hk => setRow_other w g k _ (fun e => hk (by simp [Value.ownBlock, e]))⟩, fun k hk => .inl hk⟩
      · simpa using repEnd_length cur i rs.length cap r (by omega) h1 h3
      · simpa using repEnd_take cur i rs.length cap rs r (by omega) h1 h3 rfl h4
    · have hl : (rs.take i ++ r :: rs.drop j).length = i + 1 + (rs.length - j) := by simp; omega
      rw [hl]
      have hf := repMid_facts cur i j rs.length cap rs r (by omega) (by omega) h1 h3 rfl h4
      refine (rep_mid g g2 i j rs.length cap cur r w (by omega) (by omega) h1 (by omega) hg h3 (by rw [h4]; exact rcells_one rs) hg2 hgn).mono ?_
      rintro e w' ⟨rfl, k, rfl⟩
      refine ⟨_, rfl, ⟨by simp [rcells_length]; omega, .inr ⟨g, cap, _, rfl, Nat.zero_le _, setRow_heap w g _ _ _ _ hg, by omega, by unfold maxLen; omega, ?_, ?_⟩⟩, ⟨rfl, rfl, rfl, by simp, fun k _ hk => setRow_other w g k _ (fun e => hk (by simp [Value.ownBlock, e]))⟩, fun k hk => .inl hk⟩
      · simpa using hf.2
      · simpa using hf.1

theorem delRow_facts (cur : List Value) (n cap : Nat) (rs : Rngs) (hn : 2 ≤ n) (hcap : n ≤ cap) (hcur : cur.length = cap * 2) (hrs : rs.length = n) (ht : cur.take (n * 2) = rcells rs) :
    (delRow cur n).take ((n - 1) * 2) = rcells (rs.drop 1) ∧ (delRow cur n).length = cap * 2 := by
  have hX : (cur.drop 2).take ((n - 1) * 2) = rcells (rs.drop 1) := by
    rw [← drop_take_of_sub cur 2 ((n - 1) * 2) (n * 2) (by omega), ht]
    exact rcells_drop rs 1
  have hXl : (rcells (rs.drop 1)).length = (n - 1) * 2 := by rw [rcells_length]; simp; omega
  have h1 : (splice cur 0 (rcells (rs.drop 1))).length = cap * 2 := by rw [length_splice _ _ _ (by omega)]; exact hcur
  unfold delRow
  rw [hX]
  constructor
  · rw [splice_take _ _ _ (by omega)]
    have := splice_take_all cur 0 (rcells (rs.drop 1)) (by omega)
    rw [hXl, Nat.zero_add, List.take_zero, List.nil_append] at this
    exact this
  · rw [length_splice _ _ _ (by rw [h1, show [Value.int IntKind.u64 0, Value.int IntKind.u64 0].length = 2 from rfl]; omega)]
    exact h1

theorem delete_any (v : Value) (rs : Rngs) (w : World) (hn : 2 ≤ rs.length) (hown : w.ownsRow 0 39 2 v rs.length (rcells rs)) :
    Calls Try.prog 15 #[v, .int .i64 0, .int .i64 1] w fun e w' => ∃ v', e = .returned v' ∧ w'.ownsRow 0 39 2 v' (rs.drop 1).length (rcells (rs.drop 1)) ∧ w.grownBy w' v.ownBlock ∧ NewOr w v v' := by
  obtain ⟨g, cap, cur, rfl, hg, h1, h2, h3, h4⟩ := own_take hown (by omega)
  unfold maxLen at h2
  have hf := delRow_facts cur rs.length cap rs hn h1 h3 rfl h4
  have hone : ∀ v ∈ (cur.drop 2).take ((rs.length - 1) * 2), v.oneCell' = true := by
    intro v hv
    rw [← drop_take_of_sub cur 2 ((rs.length - 1) * 2) (rs.length * 2) (by omega), h4] at hv
    exact rcells_one rs v (List.mem_of_mem_drop hv)
  refine (del_walk g rs.length cap cur w hn h1 (by omega) hg h3 hone).mono ?_
  rintro e w' ⟨rfl, rfl⟩
  have hl : (rs.drop 1).length = rs.length - 1 := by simp
  rw [hl]
  refine ⟨_, rfl, ⟨by rw [rcells_length, hl], .inr ⟨g, cap, _, rfl, Nat.zero_le _, setRow_heap w g _ _ _ _ hg, by omega, by unfold maxLen; omega, ?_, ?_⟩⟩, ⟨rfl, rfl, rfl, by simp, fun k _ hk => setRow_other w g k _ (fun e => hk (by simp [Value.ownBlock, e]))⟩, fun k hk => .inl hk⟩
  · simpa using hf.2
  · simpa using hf.1
end Go.Proofs.Ytddfdpbaiedcjaa
