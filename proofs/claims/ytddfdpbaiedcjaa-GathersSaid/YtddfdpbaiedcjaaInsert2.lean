/- slices.Insert of one range: what it comes to, over rows of ranges. -/
import Derived.Test.YtddfdpbaiedcjaaInsert
namespace Go.Proofs.Ytddfdpbaiedcjaa
open Go.RowKit

theorem splice_at {α : Type} (A B cs : List α) (o : Nat) (ho : o = A.length) : splice (A ++ B) o cs = A ++ (cs ++ B.drop cs.length) := by
  subst ho
  simp [splice, ← List.drop_drop]

theorem row_split {α : Type} (cur X : List α) (n : Nat) (ht : cur.take n = X) : ∃ Y, cur = X ++ Y := ⟨cur.drop n, by rw [← ht, List.take_append_drop]⟩

theorem ins_shape (A X Y : List Value) (a b : Value) (hY : 2 ≤ Y.length) :
    splice (splice (A ++ X ++ Y) (A.length + 2) X) A.length [a, b] = A ++ [a, b] ++ X ++ Y.drop 2 := by
  have h1 : splice (A ++ X ++ Y) (A.length + 2) X = A ++ ((X ++ Y).take 2 ++ (X ++ Y.drop 2)) := by
    have e : (A ++ X ++ Y) = (A ++ (X ++ Y).take 2) ++ (X ++ Y).drop 2 := by simp [List.append_assoc, List.take_append_drop]
    have hl : ((X ++ Y).take 2).length = 2 := by simp; omega
    rw [e, splice_at _ _ _ _ (by simp [hl]), List.drop_drop, Nat.add_comm, List.append_assoc]
    congr 1
    congr 1
    congr 1
    rw [List.drop_append]
    simp
  rw [h1, splice_at _ _ _ _ rfl]
  have hl : ((X ++ Y).take 2).length = 2 := by simp; omega
  have : List.drop [a, b].length (List.take 2 (X ++ Y) ++ (X ++ List.drop 2 Y)) = X ++ Y.drop 2 := by
    have e2 : [a, b].length = ((X ++ Y).take 2).length := by rw [hl]; rfl
    rw [e2, List.drop_left]
  rw [this]
  simp

theorem insRow_take (cur : List Value) (i n cap : Nat) (rs : Rngs) (r : Nat × Nat) (hi : i ≤ n) (hn : n + 1 ≤ cap) (hcur : cur.length = cap * 2) (hrs : rs.length = n) (ht : cur.take (n * 2) = rcells rs) :
    (insRow cur i n [.int .u64 r.1, .int .u64 r.2]).take ((n + 1) * 2) = rcells (rs.take i ++ r :: rs.drop i) := by
  obtain ⟨Y, rfl⟩ := row_split _ _ _ ht
  have hA : (rcells (rs.take i)).length = i * 2 := by rw [rcells_length]; simp; omega
  have hX : (rcells (rs.drop i)).length = (n - i) * 2 := by rw [rcells_length]; simp; omega
  have hAX : rcells rs = rcells (rs.take i) ++ rcells (rs.drop i) := by rw [← rcells_append, List.take_append_drop]
  have hY : 2 ≤ Y.length := by
    simp only [List.length_append, rcells_length] at hcur
    omega
  have h1 : ((rcells rs ++ Y).drop (i * 2)).take ((n - i) * 2) = rcells (rs.drop i) := by
    rw [hAX, ← hA, List.append_assoc, List.drop_left, ← hX, List.take_left]
  unfold insRow
  rw [h1, hAX, show (i + 1) * 2 = (rcells (rs.take i)).length + 2 by omega, show i * 2 = (rcells (rs.take i)).length by omega, ins_shape _ _ _ _ _ hY, rcells_append, rcells]
  have hl : (rcells (rs.take i) ++ [Value.int .u64 (r.1 : Int), Value.int .u64 (r.2 : Int)] ++ rcells (rs.drop i)).length = (n + 1) * 2 := by simp [hA, hX]; omega
  rw [← hl, List.take_left]
  simp

theorem insGrow_take (C0 cur : List Value) (i n cap nc : Nat) (rs : Rngs) (r : Nat × Nat) (hi : i ≤ n) (hn : n + 1 ≤ nc) (_hcap : n ≤ cap) (hcur : cur.length = cap * 2) (hC0 : C0.length = nc * 2) (h0 : C0.take (i * 2) = cur.take (i * 2)) (hrs : rs.length = n) (ht : cur.take (n * 2) = rcells rs) :
    (insGrow C0 cur i n [.int .u64 r.1, .int .u64 r.2]).take ((n + 1) * 2) = rcells (rs.take i ++ r :: rs.drop i) := by
  obtain ⟨Y, rfl⟩ := row_split _ _ _ ht
  have hA : (rcells (rs.take i)).length = i * 2 := by rw [rcells_length]; simp; omega
  have hX : (rcells (rs.drop i)).length = (n - i) * 2 := by rw [rcells_length]; simp; omega
  have hAX : rcells rs = rcells (rs.take i) ++ rcells (rs.drop i) := by rw [← rcells_append, List.take_append_drop]
  have h1 : ((rcells rs ++ Y).drop (i * 2)).take ((n - i) * 2) = rcells (rs.drop i) := by
    rw [hAX, ← hA, List.append_assoc, List.drop_left, ← hX, List.take_left]
  have h2 : (rcells rs ++ Y).take (i * 2) = rcells (rs.take i) := by rw [hAX, ← hA, List.append_assoc, List.take_left]
  obtain ⟨Z, rfl⟩ := row_split _ _ _ (h0.trans h2)
  have hZ : Z.length = nc * 2 - i * 2 := by simp [hA] at hC0; omega
  unfold insGrow
  rw [h1, splice_at _ _ _ _ hA.symm]
  have e : rcells (rs.take i) ++ ([Value.int .u64 (r.1 : Int), Value.int .u64 (r.2 : Int)] ++ Z.drop 2) = (rcells (rs.take i) ++ [Value.int .u64 (r.1 : Int), Value.int .u64 (r.2 : Int)]) ++ Z.drop 2 := by simp
  have hl2 : [Value.int .u64 (r.1 : Int), Value.int .u64 (r.2 : Int)].length = 2 := rfl
  rw [hl2, e, splice_at _ _ _ _ (by simp [hA]; omega), ← List.append_assoc, rcells_append, rcells]
  have hl : (rcells (rs.take i) ++ [Value.int .u64 (r.1 : Int), Value.int .u64 (r.2 : Int)] ++ rcells (rs.drop i)).length = (n + 1) * 2 := by simp [hA, hX]; omega
  rw [← hl, List.take_left]
  simp

theorem insRow_length (cur : List Value) (i n cap : Nat) (r : Nat × Nat) (hi : i ≤ n) (hn : n + 1 ≤ cap) (hcur : cur.length = cap * 2) : (insRow cur i n [.int .u64 r.1, .int .u64 r.2]).length = cap * 2 := by
  unfold insRow
  have h1 : (splice cur ((i + 1) * 2) ((cur.drop (i * 2)).take ((n - i) * 2))).length = cap * 2 := by
    rw [length_splice _ _ _ (by simp; omega)]; exact hcur
  rw [length_splice _ _ _ (by simp; omega)]; exact h1

theorem insGrow_length (C0 cur : List Value) (i n nc cap : Nat) (r : Nat × Nat) (hi : i ≤ n) (hn : n + 1 ≤ nc) (hcap : n ≤ cap) (hcur : cur.length = cap * 2) (hC0 : C0.length = nc * 2) : (insGrow C0 cur i n [.int .u64 r.1, .int .u64 r.2]).length = nc * 2 := by
  unfold insGrow
  have h1 : (splice C0 (i * 2) [Value.int .u64 (r.1 : Int), Value.int .u64 (r.2 : Int)]).length = nc * 2 := by
    rw [length_splice _ _ _ (by simp; omega)]; exact hC0
  rw [length_splice _ _ _ (by simp; omega)]; exact h1

theorem rcells_one (rs : Rngs) : ∀ v ∈ rcells rs, v.oneCell' = true := by
  induction rs with
  | nil => intro v h; cases h
  | cons r rs ih =>
    intro v h
    simp only [rcells, List.mem_cons] at h
    rcases h with rfl | rfl | h
    · rfl
    · rfl
    · exact ih v h


theorem cell_row {w : World} {g : Nat} {cs : List Value} {t : Nat} {fz : Nat × Nat} (hg : w.heap[g]? = some (.cells cs.toArray t fz)) : ∀ j u, cs[j]? = some u → w.cell? ((⟨g, 0, none⟩ : Addr).add j) = some u := by
  intro j u h
  rw [addr_add]
  simpa [World.cell?, hg] using h

theorem own_take {w : World} {base e sz : Nat} {v : Value} {n : Nat} {xs : List Value} (h : w.ownsRow base e sz v n xs) (hn : 0 < n) :
    ∃ g cap cur, v = .slice (some ⟨g, 0, none⟩) n cap ∧ w.heap[g]? = some (.cells (cur : List Value).toArray e (0, 0)) ∧ n ≤ cap ∧ cap ≤ maxLen ∧ cur.length = cap * sz ∧ cur.take (n * sz) = xs := by
  rcases h.2 with ⟨_, h0⟩ | ⟨g, cap, cur, rfl, _, hg, h1, h2, h3, h4⟩
  · omega
  · exact ⟨g, cap, cur.toList, rfl, by simpa using hg, h1, h2, by simpa using h3, h4⟩

theorem insert_any (v : Value) (rs : Rngs) (i : Nat) (r : Nat × Nat) (g2 : Nat) (w : World) (hi : i ≤ rs.length) (hlen : rs.length ≤ 1099511627776) (hown : w.ownsRow 0 39 2 v rs.length (rcells rs))
    (hg2 : w.heap[g2]? = some (.cells [.int .u64 r.1, .int .u64 r.2].toArray 39 (0, 0))) (hne : v.ownBlock ≠ some g2) :
    Calls Try.prog 17 #[v, .int .i64 i, .slice (some ⟨g2, 0, none⟩) 1 1] w fun e w' => ∃ v', e = .returned v' ∧ w'.ownsRow 0 39 2 v' (rs.length + 1) (rcells (rs.take i ++ r :: rs.drop i)) ∧ w.grownBy w' v.ownBlock ∧ NewOr w v v' := by
  obtain ⟨i0, hinf, hz0, hz1, hz2⟩ := info_parts info_rng
  by_cases hie : i = rs.length
  · obtain ⟨a, cap, rfl, h1, h2, h3⟩ := own_form hown
    obtain ⟨v', w1, happ, ho, hgr, hnw⟩ := run_append_owned_at (P := Try.prog) w 34 39 i0 _ 2 16 Try.underlying34 hinf hz0 hz1 hz2 rfl (by decide) _ _ _ hown ⟨g2, 0, none⟩ 1 1 [.int .u64 r.1, .int .u64 r.2] rfl (cell_row hg2) (by simp [Value.oneCell']) (by unfold maxLen; omega) (by omega)
    subst hie
    unfold maxLen at h2
    refine (ins_end g2 _ cap a v' w w1 h1 (by omega) happ).mono ?_
    rintro e w' ⟨rfl, rfl⟩
    refine ⟨v', rfl, ?_, hgr, hnw⟩
    simpa [rcells_append, rcells] using ho
  · obtain ⟨g, cap, cur, rfl, hg, h1, h2, h3, h4⟩ := own_take hown (by omega)
    have hgn : g2 ≠ g := fun e => hne (by simp [Value.ownBlock, e])
    unfold maxLen at h2
    have hone : ∀ v ∈ (cur.drop (i * 2)).take ((rs.length - i) * 2), v.oneCell' = true := by
      intro v hv
      refine rcells_one rs v ?_
      rw [← h4]
      have e : (cur.drop (i * 2)).take ((rs.length - i) * 2) = (cur.take (rs.length * 2)).drop (i * 2) := by
        rw [List.drop_take]
        congr 1
        omega
      rw [e] at hv
      exact List.mem_of_mem_drop hv
    by_cases hroom : rs.length + 1 ≤ cap
    · refine (ins_room g g2 i rs.length cap cur r w (by omega) hroom (by omega) hg h3 hone hg2 hgn).mono ?_
      rintro e w' ⟨rfl, rfl⟩
      refine ⟨_, rfl, ⟨by simp [rcells_length]; omega, .inr ⟨g, cap, _, rfl, Nat.zero_le _, setRow_heap w g _ _ _ _ hg, hroom, by unfold maxLen; omega, ?_, ?_⟩⟩, ⟨rfl, rfl, rfl, by simp, fun k _ hk => setRow_other w g k _ (fun e => hk (by simp [Value.ownBlock, e]))⟩, fun k hk => .inl hk⟩
      · simpa using insRow_length cur i rs.length cap r hi hroom h3
      · simpa using insRow_take cur i rs.length cap rs r hi hroom h3 rfl h4
    · have happ := fun ty => run_append_make (P := Try.prog) w 34 3 ty 39 .i64 i0 _ Try.underlying34 Try.underlying3 hinf hz0 ⟨g, 0, none⟩ i cap (rs.length + 1 - i) (rcells (rs.take i)) (by rw [rcells_length, hz1]; simp; omega)
        (fun j u hj => cell_row hg j u (by
          rw [← rcells_take, ← h4, List.take_take, List.getElem?_take] at hj
          split at hj
          · exact hj
          · cases hj)) (by omega) (by omega) (by rw [hz2]; omega) (by rw [hz1]; omega)
      rw [show i + (rs.length + 1 - i) = rs.length + 1 by omega, show ((rs.length + 1 - i : Nat) : Int) = (rs.length : Int) + 1 - i by omega] at happ
      have hge := grownCap_ge w (rs.length + 1) cap 39
      have hcm : grownCap w (rs.length + 1) cap 39 ≤ maxLen := grownCap_le_maxLen w _ cap _ (by unfold maxLen; omega)
      unfold maxLen at hcm
      generalize grownCap w (rs.length + 1) cap 39 = nc at happ hge hcm
      have hgl := (Array.getElem?_eq_some_iff.1 hg).1
      have hgl2 := (Array.getElem?_eq_some_iff.1 hg2).1
      obtain ⟨C0, hC0⟩ : ∃ C0 : List Value, (rcells (rs.take i)).toArray ++ Builtin.zeroCells (Value.agg #[Value.int .u64 0, Value.int .u64 0]).cells (rs.length + 1 - i) ++ Builtin.zeroCells (Value.agg #[Value.int .u64 0, Value.int .u64 0]).cells (nc - (rs.length + 1)) = C0.toArray ∧ C0.length = nc * 2 ∧ C0.take (i * 2) = cur.take (i * 2) := by
        refine ⟨rcells (rs.take i) ++ (Builtin.zeroCells (Value.agg #[Value.int .u64 0, Value.int .u64 0]).cells (rs.length + 1 - i)).toList ++ (Builtin.zeroCells (Value.agg #[Value.int .u64 0, Value.int .u64 0]).cells (nc - (rs.length + 1))).toList, by simp, ?_, ?_⟩
        · simp [size_zeroCells, rcells_length, Value.cells]
          omega
        · have hA : (rcells (rs.take i)).length = i * 2 := by rw [rcells_length]; simp; omega
          rw [List.append_assoc, ← hA, List.take_left, hA, ← rcells_take, ← h4, List.take_take]
          congr 1
          omega
      obtain ⟨hC0, hC0l, hC0t⟩ := hC0
      rw [hC0] at happ
      refine (ins_grow g g2 w.heap.size i rs.length cap nc cur C0 r w _ (by omega) h1 (by omega) (by omega) h3 hone happ ((Below.heap_alloc w.drew _ g hgl).trans hg) ((Below.heap_alloc w.drew _ g2 hgl2).trans hg2) (heap_alloc_new w.drew _) hC0l hge (by omega) (by omega) (by omega)).mono ?_
      rintro e w' ⟨rfl, rfl⟩
      refine ⟨_, rfl, ⟨by simp [rcells_length]; omega, .inr ⟨w.heap.size, nc, _, rfl, Nat.zero_le _, setRow_heap _ _ _ _ _ _ (heap_alloc_new w.drew _), hge, by unfold maxLen; omega, ?_, ?_⟩⟩, ⟨rfl, rfl, rfl, by simp, fun k hk _ => ?_⟩, fun k hk => by simp [Value.ownBlock] at hk; omega⟩
      · simpa using insGrow_length C0 cur i rs.length nc cap r hi hge h1 h3 hC0l
      · simpa using insGrow_take C0 cur i rs.length cap nc rs r hi hge h1 h3 hC0l hC0t rfl h4
      · exact (setRow_other _ _ _ _ (by omega)).trans (Below.heap_alloc w.drew _ k hk)
end Go.Proofs.Ytddfdpbaiedcjaa
