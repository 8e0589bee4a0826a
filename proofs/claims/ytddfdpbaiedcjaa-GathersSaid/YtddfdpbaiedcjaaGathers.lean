/- mediawirekeep.Gathers: the walk. -/
import Derived.Test.YtddfdpbaiedcjaaSetSmall
import Derived.Test.YtddfdpbaiedcjaaKPick
namespace Go.Proofs.Ytddfdpbaiedcjaa
open Go.RowKit

theorem has_small (rs : Rngs) (fl most b o n : Nat) (v : Value) (w : World) (t : Bool) (h : SetAt w b o v rs fl most) (hwf : WF rs) (hfl : fl = 0) (ht : t = true ↔ inRs rs n) :
    Calls Try.prog 9 #[.pointer (some ⟨b, o, none⟩), .int .u64 n] w fun e w' => e = .returned (.bool t) ∧ Below w.heap.size w w' := by
  refine (has_walk rs fl most b o n v w h).mono ?_
  rintro e w' ⟨m, hm, rfl, hb⟩
  refine ⟨?_, hb⟩
  have := has_iff hwf hm
  rw [← ht] at this
  subst hfl
  cases t <;> simp_all <;> omega

/-- A slice of integers lies there, nil or not. -/
def IntsAt (w : World) (v : Value) (n : Nat) (g : Nat → Int) : Prop :=
  ∃ a cap, v = .slice a n cap ∧ n ≤ maxLen ∧ cap ≤ maxLen ∧ ∀ i, i < n → ∃ b off, a = some ⟨b, off, none⟩ ∧ w.cell? ⟨b, off + i, none⟩ = some (.int .i64 (g i)) ∧ -9223372036854775808 ≤ g i ∧ g i ≤ 9223372036854775807

def gin (g : Nat → Int) (k x : Nat) : Bool := (List.range k).any fun j => pickN (g j) 600 == x

theorem gin_succ (g : Nat → Int) (k x : Nat) : gin g (k + 1) x = (gin g k x || pickN (g k) 600 == x) := by
  simp [gin, List.range_succ, List.any_append]

theorem gin_lt (g : Nat → Int) (k x : Nat) (h : gin g k x = true) : x < 600 := by
  simp only [gin, List.any_eq_true] at h
  obtain ⟨j, _, h⟩ := h
  have := pickN_lt (g j) 600 (by omega)
  simp at h
  omega

/-- The set behind k rounds. -/
def SetK (w : World) (g : Nat → Int) (k : Nat) (wr : World) : Prop :=
  ∃ v rs, SetAt wr w.heap.size 0 v rs 0 1000 ∧ WF rs ∧ rs.length ≤ k ∧ (∀ x, inRs rs x ↔ gin g k x = true) ∧ Mod NoB w wr ∧ v.ownBlock ≠ some w.heap.size ∧ ∀ b, v.ownBlock = some b → w.heap.size ≤ b

theorem own_lt {w : World} {base e sz : Nat} {v : Value} {n : Nat} {xs : List Value} (h : w.ownsRow base e sz v n xs) : ∀ g, v.ownBlock = some g → g < w.heap.size := by
  intro g hg
  rcases h.2 with ⟨rfl, rfl⟩ | ⟨g', cap, cur, rfl, _, h0, h1, h2, _⟩
  · simp [Value.ownBlock] at hg
  · simp [Value.ownBlock] at hg
    subst hg
    exact (Array.getElem?_eq_some_iff.1 h0).1

theorem setk_zero (w : World) (g : Nat → Int) : SetK w g 0 (w.alloc (.cells #[.slice none 0 0, .int .u64 0, .int .i64 1000] 36)) := by
  refine ⟨.slice none 0 0, [], ⟨by simp, by simp, by simp, ⟨rfl, .inl ⟨rfl, rfl⟩⟩, by simp, fun j => by simp⟩, ⟨by simp, by simp⟩, by simp, fun x => by simp [inRs, gin], (Mod.refl _ _).alloc _, by simp [Value.ownBlock], by simp [Value.ownBlock]⟩

theorem add_k (w wr : World) (g : Nat → Int) (k x : Nat) (hk : k ≤ 500) (h : SetK w g k wr) (hx : pickN (g k) 600 = x) :
    Calls Try.prog 8 #[.pointer (some ⟨w.heap.size, 0, none⟩), .int .u64 x, .int .u64 x] wr fun e w' => e = .returned (.tuple #[]) ∧ SetK w g (k + 1) w' := by
  obtain ⟨v, rs, hs, hwf, hl, hin, hm, hn, hb⟩ := h
  have hx6 := pickN_lt (g k) 600 (by omega)
  refine (add_small rs 1000 w.heap.size 0 x x v wr hs hwf (Nat.le_refl _) (by omega) (own_lt hs.own) hn (by omega) (by omega)).mono ?_
  rintro e w' ⟨rfl, v', rs', hs', hwf', hl', hin', hm', hnw, hnb⟩
  refine ⟨rfl, v', rs', hs', hwf', by omega, fun y => ?_, hm.then hm' ?_, hnb, fun y hy => ?_⟩
  · rw [hin', hin, gin_succ, hx, Bool.or_eq_true, beq_iff_eq]
    constructor
    · rintro (h1 | h1)
      · exact .inl h1
      · exact .inr (by omega)
    · rintro (h1 | h1)
      · exact .inl h1
      · exact .inr (by omega)
  · rintro i (rfl | hi)
    · exact .inr (Nat.le_refl _)
    · exact .inr (hb i hi)
  · rcases hnw y hy with h1 | h1
    · exact hb y h1
    · have := hm.size
      omega

def EndK (w : World) (e : Ending) (w' : World) : Prop := e = .returned (.bool true) ∧ Below w.heap.size w w'

theorem mod_ints {w w' : World} {v : Value} {n : Nat} {g : Nat → Int} (h : IntsAt w v n g) (m : Mod NoB w w') : IntsAt w' v n g := by
  obtain ⟨a, cap, rfl, h1, h2, h3⟩ := h
  refine ⟨a, cap, rfl, h1, h2, fun i hi => ?_⟩
  obtain ⟨b, off, rfl, h4, h5⟩ := h3 i hi
  exact ⟨b, off, rfl, m.cell (fun x => x) h4, h5⟩

theorem SetK.mod {w wr w' : World} {g : Nat → Int} {k : Nat} (h : SetK w g k wr) (m : Mod NoB wr w') : SetK w g k w' := by
  obtain ⟨v, rs, hs, hwf, hl, hin, hm, hn, hb⟩ := h
  exact ⟨v, rs, hs.mod m (fun x => x) (fun _ _ x => x), hwf, hl, hin, hm.then m (fun _ x => x.elim), hn, hb⟩

set_option maxHeartbeats 400000 in
theorem gathers_far (v : Value) (n : Nat) (g : Nat → Int) (c : Int) (w : World) (h : IntsAt w v n g) (hn : 500 < n) :
    Calls Try.prog 4 #[v, .int .i64 c] w (EndK w) := by
  obtain ⟨a, cap, rfl, h1, h2, h3⟩ := h
  unfold maxLen at h1 h2
  have hd : ((500 : Int) < n) := by omega
  clear h3
  go_enter Try.func4, Try.ntmps4
  go_wp2_with (go_at_call 6; refine (newset_walk _ _ (by omega) (by omega)).mono ?_; rintro e w' ⟨rfl, rfl⟩)
  go_ret
  exact ⟨rfl, (Below.refl _ _).alloc (Nat.le_refl _) _⟩

/-- The set behind the last Add. -/
def SetE (w : World) (g : Nat → Int) (n : Nat) (wr : World) : Prop :=
  ∃ v rs, SetAt wr w.heap.size 0 v rs 0 1000 ∧ WF rs ∧ (∀ x, inRs rs x ↔ gin g n x = true ∨ (1000 ≤ x ∧ x ≤ 1001)) ∧ Mod NoB w wr

theorem add_e (w wr : World) (g : Nat → Int) (n : Nat) (hk : n ≤ 500) (h : SetK w g n wr) :
    Calls Try.prog 8 #[.pointer (some ⟨w.heap.size, 0, none⟩), .int .u64 1000, .int .u64 1001] wr fun e w' => e = .returned (.tuple #[]) ∧ SetE w g n w' := by
  obtain ⟨v, rs, hs, hwf, hl, hin, hm, hn, hb⟩ := h
  refine (add_small rs 1000 w.heap.size 0 1000 1001 v wr hs hwf (by omega) (by omega) (own_lt hs.own) hn (by omega) (by omega)).mono ?_
  rintro e w' ⟨rfl, v', rs', hs', hwf', hl', hin', hm', hnw, hnb⟩
  refine ⟨rfl, v', rs', hs', hwf', fun y => by rw [hin', hin], hm.then hm' ?_⟩
  rintro i (rfl | hi)
  · exact .inr (Nat.le_refl _)
  · exact .inr (hb i hi)

theorem SetE.mod {w wr w' : World} {g : Nat → Int} {k : Nat} (h : SetE w g k wr) (m : Mod NoB wr w') : SetE w g k w' := by
  obtain ⟨v, rs, hs, hwf, hin, hm⟩ := h
  exact ⟨v, rs, hs.mod m (fun x => x) (fun _ _ x => x), hwf, hin, hm.then m (fun _ x => x.elim)⟩

theorem has_e (w wr : World) (g : Nat → Int) (n x : Nat) (t : Bool) (h : SetE w g n wr) (ht : t = (gin g n x || decide (1000 ≤ x ∧ x ≤ 1001))) :
    Calls Try.prog 9 #[.pointer (some ⟨w.heap.size, 0, none⟩), .int .u64 x] wr fun e w' => e = .returned (.bool t) ∧ SetE w g n w' := by
  obtain ⟨v, rs, hs, hwf, hin, hm⟩ := id h
  refine (has_small rs 0 1000 w.heap.size 0 x v wr t hs hwf rfl ?_).mono ?_
  · rw [hin, ht]
    simp
  · rintro e w' ⟨rfl, hb⟩
    exact ⟨rfl, h.mod (Mod.of_below hb)⟩

theorem floor_e (w wr : World) (g : Nat → Int) (n : Nat) (h : SetE w g n wr) :
    Calls Try.prog 10 #[.pointer (some ⟨w.heap.size, 0, none⟩)] wr fun e w' => e = .returned (.int .u64 0) ∧ wr = w' := by
  obtain ⟨v, rs, hs, hwf, hin, hm⟩ := h
  exact floor_walk rs 0 1000 w.heap.size 0 v wr hs

set_option maxHeartbeats 400000 in
theorem gathers_near (v : Value) (n : Nat) (g : Nat → Int) (c : Int) (w : World) (h : IntsAt w v n g) (hn : n ≤ 500) (hc1 : -9223372036854775808 ≤ c) (hc2 : c ≤ 9223372036854775807) :
    Calls Try.prog 4 #[v, .int .i64 c] w (EndK w) := by
  obtain ⟨a, cap, rfl, h1, h2, h3⟩ := id h
  unfold maxLen at h1 h2
  have hd : ¬ ((500 : Int) < n) := by omega
  obtain ⟨P, hP⟩ : ∃ P : World → Prop, P = SetK w g 0 := ⟨_, rfl⟩
  go_enter Try.func4, Try.ntmps4
  clear h3
  go_wp2_with (go_at_call 6; refine (newset_walk _ _ (by omega) (by omega)).mono ?_; rintro e w' ⟨rfl, rfl⟩)
  go_loopw [6, 7] (fun i _ wr => ∃ k : Nat, k ≤ n ∧ i = .int .i64 k ∧ SetK w g k wr) (fun i _ _ => n - (intOf i).toNat)
  case atStart => exact ⟨0, Nat.zero_le _, rfl, by rw [show max (1000 : Int) 1 = 1000 by decide]; exact setk_zero w g⟩
  case round =>
    obtain ⟨k, hk, rfl, hs⟩ := hrel
    have hmr : Mod NoB w wr := by obtain ⟨_, _, _, _, _, _, hm, _⟩ := hs; exact hm
    have hiw := mod_ints h hmr
    by_cases hlt : k < n
    · obtain ⟨a', cap', hv, _, _, h3⟩ := hiw
      cases hv
      obtain ⟨b, off, rfl, hc, hg1, hg2⟩ := h3 k hlt
      obtain ⟨x, hx⟩ : ∃ x, pickN (g k) 600 = x := ⟨_, rfl⟩
      have hx6 := pickN_lt (g k) 600 (by omega)
      rw [hx] at hx6
      have hpick := pick_any (g k) 600 wr hg1 hg2 (by omega) (by omega)
      rw [hx] at hpick
      have hadd := add_k w wr g k x (by omega) hs hx
      clear h3 hx
      go_wp2_with (first | (go_at_call 7; refine hpick.mono ?_; rintro e w' ⟨rfl, rfl⟩) | (go_at_call 8; refine hadd.mono ?_; rintro e w' ⟨rfl, hs'⟩))
      go_roundw
      case rel => exact ⟨k + 1, by omega, by go_num, hs'⟩
      case measure => simp [intOf]; omega
    · have hkn : k = n := by omega
      subst hkn
      have hadd := add_e w wr g k hn hs
      obtain ⟨x, hx⟩ : ∃ x, pickN c 600 = x := ⟨_, rfl⟩
      have hx6 := pickN_lt c 600 (by omega)
      rw [hx] at hx6
      have hpick := fun w => pick_any c 600 w hc1 hc2 (by omega) (by omega)
      rw [hx] at hpick
      clear hx
      go_wp2_with (first | (go_at_call 7; refine (hpick _).mono ?_; rintro e w' ⟨rfl, rfl⟩) | (go_at_call 8; refine hadd.mono ?_; rintro e w2 ⟨rfl, hs2⟩))
      go_loopw [9, 10] (fun q i wq => ∃ j : Nat, j ≤ k ∧ i = .int .i64 j ∧ q = .bool (gin g j x) ∧ SetE w g k wq) (fun _ i _ => k - (intOf i).toNat)
      case atStart => exact ⟨0, Nat.zero_le _, rfl, by simp [gin], hs2⟩
      case round =>
        obtain ⟨j, hj, rfl, rfl, he⟩ := hrel
        have hmq : Mod NoB w wr := by obtain ⟨_, _, _, _, _, hm⟩ := he; exact hm
        have hiw := mod_ints h hmq
        by_cases hlt : j < k
        · obtain ⟨a', cap', hv, _, _, h3⟩ := hiw
          cases hv
          obtain ⟨b, off, rfl, hc, hg1, hg2⟩ := h3 j hlt
          obtain ⟨y, hy⟩ : ∃ y, pickN (g j) 600 = y := ⟨_, rfl⟩
          have hpk := fun w => pick_any (g j) 600 w hg1 hg2 (by omega) (by omega)
          rw [hy] at hpk
          have Hs := hide (gin_succ g j x)
          rw [hy] at Hs
          obtain ⟨q, hq⟩ : ∃ q, gin g j x = q := ⟨_, rfl⟩
          rw [hq] at Hs
          rw [hq]
          clear h3 hy hq hpick hadd hs hx6 hP
          cases q
          · by_cases hyx : y = x
            · subst hyx
              simp only [Bool.false_or, beq_self_eq_true] at Hs
              go_wp2_with (go_at_call 7; refine (hpk _).mono ?_; rintro e w' ⟨rfl, rfl⟩)
              go_roundw
              case rel => exact ⟨j + 1, by omega, by go_num, by rw [Hs.out], he⟩
              case measure => simp [intOf]; omega
            · have hb : (y == x) = false := by simpa using hyx
              have hb' : ((y : Int) == x) = false := by simp; omega
              rw [hb] at Hs
              have Hyx := hide hyx
              clear hyx hb
              go_wp2_with (go_at_call 7; refine (hpk _).mono ?_; rintro e w' ⟨rfl, rfl⟩)
              go_roundw
              case rel => exact ⟨j + 1, by omega, by go_num, by rw [Hs.out]; rfl, he⟩
              case measure => simp [intOf]; omega
          · go_wp2_with fail
            go_roundw
            case rel => exact ⟨j + 1, by omega, by go_num, by rw [Hs.out]; rfl, he⟩
            case measure => simp [intOf]; omega
        · have hjk : j = k := by omega
          subst hjk
          have hA := fun wr (h : SetE w g j wr) => has_e w wr g j x (gin g j x) h (by rw [show decide (1000 ≤ x ∧ x ≤ 1001) = false by simp; omega, Bool.or_false])
          have hB : ∀ wr, SetE w g j wr → Calls Try.prog 9 #[.pointer (some ⟨w.heap.size, 0, none⟩), .int .u64 1000] wr fun e w' => e = .returned (.bool true) ∧ SetE w g j w' := fun wr h => has_e w wr g j 1000 true h (by simp)
          have hC : ∀ wr, SetE w g j wr → Calls Try.prog 9 #[.pointer (some ⟨w.heap.size, 0, none⟩), .int .u64 999] wr fun e w' => e = .returned (.bool false) ∧ SetE w g j w' := fun wr h => has_e w wr g j 999 false h (by
            cases hq : gin g j 999
            · simp
            · exact absurd (gin_lt g j 999 hq) (by omega))
          obtain ⟨q, hq⟩ : ∃ q, gin g j x = q := ⟨_, rfl⟩
          rw [hq] at hA
          rw [hq]
          clear hq hpick hadd hs
          cases q
          all_goals
            go_wp2_with fail
            refine (hA _ he).mono ?_
            rintro e w3 ⟨rfl, he3⟩
            clear he
            go_wp2_with fail
            refine (hB _ he3).mono ?_
            rintro e w4 ⟨rfl, he4⟩
            clear he3
            go_wp2_with fail
            refine (hC _ he4).mono ?_
            rintro e w5 ⟨rfl, he5⟩
            clear he4
            go_wp2_with fail
            refine (floor_e w _ g j he5).mono ?_
            rintro e w6 ⟨rfl, rfl⟩
            go_wp2_with fail
            go_ret
            exact ⟨rfl, by obtain ⟨_, _, _, _, _, hm⟩ := he5; exact hm.below⟩
end Go.Proofs.Ytddfdpbaiedcjaa
