/- Sets of numbers: what Add does to the ranges, in plain Lean. -/
import Derived.Test.YtddfdpbaiedcjaaSetAdd2
namespace Go.Proofs.Ytddfdpbaiedcjaa
open Go.RowKit

/-- The number lies in a range. -/
def inRs (rs : Rngs) (n : Nat) : Prop := ∃ i, i < rs.length ∧ loAt rs i ≤ n ∧ n ≤ hiAt rs i

theorem at_append_left (a b : Rngs) (i : Nat) (h : i < a.length) : loAt (a ++ b) i = loAt a i ∧ hiAt (a ++ b) i = hiAt a i := by
  simp [loAt, hiAt, List.getElem?_append_left h]

theorem at_append_right (a b : Rngs) (i : Nat) (h : a.length ≤ i) : loAt (a ++ b) i = loAt b (i - a.length) ∧ hiAt (a ++ b) i = hiAt b (i - a.length) := by
  simp [loAt, hiAt, List.getElem?_append_right h]

theorem at_take (rs : Rngs) (k i : Nat) (h : i < k) : loAt (rs.take k) i = loAt rs i ∧ hiAt (rs.take k) i = hiAt rs i := by
  simp [loAt, hiAt, List.getD_eq_getElem?_getD, h]

theorem at_drop (rs : Rngs) (k i : Nat) : loAt (rs.drop k) i = loAt rs (k + i) ∧ hiAt (rs.drop k) i = hiAt rs (k + i) := by
  simp [loAt, hiAt, List.getD_eq_getElem?_getD, List.getElem?_drop]

theorem at_cons_zero (r : Nat × Nat) (rs : Rngs) : loAt (r :: rs) 0 = r.1 ∧ hiAt (r :: rs) 0 = r.2 := ⟨rfl, rfl⟩
theorem at_cons_succ (r : Nat × Nat) (rs : Rngs) (i : Nat) : loAt (r :: rs) (i + 1) = loAt rs i ∧ hiAt (r :: rs) (i + 1) = hiAt rs i := ⟨rfl, rfl⟩

theorem addRs_length (rs : Rngs) (m hi m1 m2 : Nat) (h1 : m1 ≤ m2) (h2 : m2 ≤ rs.length) : (addRs rs m hi m1 m2).length = m1 + 1 + (rs.length - m2) := by
  simp [addRs]
  omega

theorem addRs_lo (rs : Rngs) (m hi m1 m2 i : Nat) (h1 : m1 ≤ m2) (h2 : m2 ≤ rs.length) (hi1 : i < m1) :
    loAt (addRs rs m hi m1 m2) i = loAt rs i ∧ hiAt (addRs rs m hi m1 m2) i = hiAt rs i := by
  unfold addRs
  have hl : i < (rs.take m1).length := by simp; omega
  rw [(at_append_left _ _ i hl).1, (at_append_left _ _ i hl).2]
  exact at_take rs m1 i hi1

theorem addRs_mid (rs : Rngs) (m hi m1 m2 : Nat) (h1 : m1 ≤ m2) (h2 : m2 ≤ rs.length) :
    loAt (addRs rs m hi m1 m2) m1 = (addR rs m hi m1 m2).1 ∧ hiAt (addRs rs m hi m1 m2) m1 = (addR rs m hi m1 m2).2 := by
  unfold addRs
  have hl : (rs.take m1).length = m1 := by simp; omega
  rw [(at_append_right _ _ m1 (by omega)).1, (at_append_right _ _ m1 (by omega)).2, hl, Nat.sub_self]
  exact at_cons_zero _ _

theorem addRs_hi (rs : Rngs) (m hi m1 m2 i : Nat) (h1 : m1 ≤ m2) (h2 : m2 ≤ rs.length) (hi1 : m1 < i) :
    loAt (addRs rs m hi m1 m2) i = loAt rs (m2 + (i - m1 - 1)) ∧ hiAt (addRs rs m hi m1 m2) i = hiAt rs (m2 + (i - m1 - 1)) := by
  unfold addRs
  have hl : (rs.take m1).length = m1 := by simp; omega
  rw [(at_append_right _ _ i (by omega)).1, (at_append_right _ _ i (by omega)).2, hl]
  obtain ⟨j, hj⟩ : ∃ j, i - m1 = j + 1 := ⟨i - m1 - 1, by omega⟩
  rw [hj, (at_cons_succ _ _ j).1, (at_cons_succ _ _ j).2]
  exact at_drop rs m2 j

theorem below_from {rs : Rngs} {m m1 : Nat} (hw : WF rs) (h1 : SearchIs rs.length (atLo rs m) m1) : ∀ i, i < m1 → hiAt rs i + 1 < m := by
  intro i hi
  obtain ⟨a1, b1, _⟩ := h1
  have e := b1 (by omega)
  simp only [atLo, decide_eq_false_iff_not] at e
  by_cases he : i = m1 - 1
  · rw [he]; omega
  · have := hw.2 i (m1 - 1) (by omega) (by omega)
    have h2 := hw.1 (m1 - 1) (by omega)
    omega

theorem above_to {rs : Rngs} {hi m2 : Nat} (hw : WF rs) (h2 : SearchIs rs.length (pastHi rs hi) m2) : ∀ i, m2 ≤ i → i < rs.length → hi + 1 < loAt rs i := by
  intro i h1 hi
  obtain ⟨_, _, c2⟩ := h2
  have e := c2 (by omega)
  simp only [pastHi, decide_eq_true_eq] at e
  by_cases he : i = m2
  · rw [he]; exact e
  · have := hw.2 m2 i (by omega) hi
    have h3 := hw.1 m2 (by omega)
    omega

theorem addR_facts {rs : Rngs} {m hi m1 m2 : Nat} (hw : WF rs) (hhi : hi < 18446744073709551616) (h1 : SearchIs rs.length (atLo rs m) m1) (h2 : SearchIs rs.length (pastHi rs hi) m2) :
    (addR rs m hi m1 m2).1 ≤ m ∧ hi ≤ (addR rs m hi m1 m2).2 ∧ (addR rs m hi m1 m2).2 < 18446744073709551616 ∧ (∀ i, i < m1 → hiAt rs i + 1 < (addR rs m hi m1 m2).1) ∧ (∀ i, m2 ≤ i → i < rs.length → (addR rs m hi m1 m2).2 + 1 < loAt rs i) := by
  have hf := below_from hw h1
  have ht := above_to hw h2
  have hm2 := h2.1
  unfold addR
  split
  · rename_i hlt
    have w2 := hw.1 (m2 - 1) (by omega)
    refine ⟨Nat.min_le_left _ _, Nat.le_max_left _ _, by show max _ _ < _; omega, fun i hi => ?_, fun i h3 h4 => ?_⟩
    · have := hf i hi
      have h5 := hw.2 i m1 hi (by omega)
      show _ < min _ _
      omega
    · have := ht i h3 h4
      have h5 := hw.2 (m2 - 1) i (by omega) h4
      show max _ _ + 1 < _
      omega
  · exact ⟨Nat.le_refl _, Nat.le_refl _, hhi, hf, ht⟩

theorem addRs_wf {rs : Rngs} {m hi m1 m2 : Nat} (hw : WF rs) (hlh : m ≤ hi) (hhi : hi < 18446744073709551616) (h1 : SearchIs rs.length (atLo rs m) m1) (h2 : SearchIs rs.length (pastHi rs hi) m2) :
    WF (addRs rs m hi m1 m2) := by
  have hft := from_le_to hw hlh h1 h2
  have hm2 := h2.1
  have hl := addRs_length rs m hi m1 m2 hft hm2
  obtain ⟨r1, r2, r3, r4, r5⟩ := addR_facts hw hhi h1 h2
  have am := addRs_mid rs m hi m1 m2 hft hm2
  refine ⟨fun i hi1 => ?_, fun i j hij hj => ?_⟩
  · rcases Nat.lt_trichotomy i m1 with hc | hc | hc
    · have e := addRs_lo rs m hi m1 m2 i hft hm2 hc
      rw [e.1, e.2]
      exact hw.1 i (by omega)
    · subst hc
      rw [am.1, am.2]
      omega
    · have e := addRs_hi rs m hi m1 m2 i hft hm2 hc
      rw [e.1, e.2]
      exact hw.1 _ (by omega)
  · rcases Nat.lt_trichotomy i m1 with hc | hc | hc
    · have e := addRs_lo rs m hi m1 m2 i hft hm2 hc
      rw [e.2]
      rcases Nat.lt_trichotomy j m1 with hd | hd | hd
      · rw [(addRs_lo rs m hi m1 m2 j hft hm2 hd).1]
        exact hw.2 i j hij (by omega)
      · subst hd
        rw [am.1]
        exact r4 i hc
      · rw [(addRs_hi rs m hi m1 m2 j hft hm2 hd).1]
        exact hw.2 i _ (by omega) (by omega)
    · subst hc
      rw [am.2, (addRs_hi rs m hi i m2 j hft hm2 hij).1]
      exact r5 _ (by omega) (by omega)
    · rw [(addRs_hi rs m hi m1 m2 i hft hm2 hc).2, (addRs_hi rs m hi m1 m2 j hft hm2 (by omega)).1]
      exact hw.2 _ _ (by omega) (by omega)

theorem lo_mono {rs : Rngs} (hw : WF rs) {i j : Nat} (h : i ≤ j) (hj : j < rs.length) : loAt rs i ≤ loAt rs j ∧ hiAt rs i ≤ hiAt rs j := by
  by_cases he : i = j
  · subst he; exact ⟨Nat.le_refl _, Nat.le_refl _⟩
  · have := hw.2 i j (by omega) hj
    have h1 := hw.1 i (by omega)
    have h2 := hw.1 j hj
    omega

theorem addRs_in {rs : Rngs} {m hi m1 m2 : Nat} (hw : WF rs) (hlh : m ≤ hi) (h1 : SearchIs rs.length (atLo rs m) m1) (h2 : SearchIs rs.length (pastHi rs hi) m2) (n : Nat) :
    inRs (addRs rs m hi m1 m2) n ↔ inRs rs n ∨ (m ≤ n ∧ n ≤ hi) := by
  have hft := from_le_to hw hlh h1 h2
  have hm2 := h2.1
  have hl := addRs_length rs m hi m1 m2 hft hm2
  have am := addRs_mid rs m hi m1 m2 hft hm2
  constructor
  · rintro ⟨i, hi1, hlo, hhi⟩
    rcases Nat.lt_trichotomy i m1 with hc | hc | hc
    · have e := addRs_lo rs m hi m1 m2 i hft hm2 hc
      rw [e.1] at hlo
      rw [e.2] at hhi
      exact .inl ⟨i, by omega, hlo, hhi⟩
    · subst hc
      rw [am.1] at hlo
      rw [am.2] at hhi
      by_cases hin : m ≤ n ∧ n ≤ hi
      · exact .inr hin
      · refine .inl ?_
        unfold addR at hlo hhi
        split at hlo
        · rename_i hlt
          rw [if_pos hlt] at hhi
          simp only at hlo hhi
          have c1 := h1.2.2 (by omega)
          simp only [atLo, decide_eq_true_eq] at c1
          have b2 := h2.2.1 (by omega)
          simp only [pastHi, decide_eq_false_iff_not] at b2
          by_cases hn : n < m
          · exact ⟨i, by omega, by omega, by omega⟩
          · exact ⟨m2 - 1, by omega, by omega, by omega⟩
        · rename_i hlt
          rw [if_neg hlt] at hhi
          simp only at hlo hhi
          omega
    · have e := addRs_hi rs m hi m1 m2 i hft hm2 hc
      rw [e.1] at hlo
      rw [e.2] at hhi
      exact .inl ⟨_, by omega, hlo, hhi⟩
  · rintro (⟨i, hi1, hlo, hhi⟩ | ⟨ha, hb⟩)
    · by_cases hc : i < m1
      · have e := addRs_lo rs m hi m1 m2 i hft hm2 hc
        exact ⟨i, by omega, by rw [e.1]; exact hlo, by rw [e.2]; exact hhi⟩
      · by_cases hd : m2 ≤ i
        · have e := addRs_hi rs m hi m1 m2 (m1 + 1 + (i - m2)) hft hm2 (by omega)
          have e2 : m2 + (m1 + 1 + (i - m2) - m1 - 1) = i := by omega
          rw [e2] at e
          exact ⟨m1 + 1 + (i - m2), by omega, by rw [e.1]; exact hlo, by rw [e.2]; exact hhi⟩
        · have l1 := (lo_mono hw (i := m1) (j := i) (by omega) hi1).1
          have l2 := (lo_mono hw (i := i) (j := m2 - 1) (by omega) (by omega)).2
          refine ⟨m1, by omega, ?_, ?_⟩
          · rw [am.1, addR, if_pos (by omega)]
            show min _ _ ≤ _
            omega
          · rw [am.2, addR, if_pos (by omega)]
            show _ ≤ max _ _
            omega
    · refine ⟨m1, by omega, ?_, ?_⟩
      · rw [am.1, addR]
        split
        · show min _ _ ≤ _
          omega
        · exact ha
      · rw [am.2, addR]
        split
        · show _ ≤ max _ _
          omega
        · exact hb

/-- What Has answers. -/
theorem has_iff {rs : Rngs} {n m : Nat} (hw : WF rs) (h : SearchIs rs.length (hiGe rs n) m) : (m < rs.length ∧ loAt rs m ≤ n) ↔ inRs rs n := by
  obtain ⟨a, b, c⟩ := h
  constructor
  · rintro ⟨h1, h2⟩
    have := c h1
    simp only [hiGe, decide_eq_true_eq] at this
    exact ⟨m, h1, h2, this⟩
  · rintro ⟨i, hi, hlo, hhi⟩
    by_cases hc : i < m
    · have e := b (by omega)
      simp only [hiGe, decide_eq_false_iff_not] at e
      have := (lo_mono hw (i := i) (j := m - 1) (by omega) (by omega)).2
      omega
    · have := (lo_mono hw (i := m) (j := i) (by omega) hi).1
      exact ⟨by omega, by omega⟩
end Go.Proofs.Ytddfdpbaiedcjaa
