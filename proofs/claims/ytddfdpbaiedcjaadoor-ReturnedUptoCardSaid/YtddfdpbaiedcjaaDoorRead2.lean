/- wire.reader: stream, text; wire.kind. -/
import Derived.Test.YtddfdpbaiedcjaaDoorRead1
import Derived.Laws.BytesString
namespace Go.Proofs.YtddfdpbaiedcjaaDoor
open Go.RowKit

theorem foldl_push (l : List UInt8) : ∀ s : ByteArray, (l.map fun c => ((c.toNat : Nat) : Int)).foldl (fun r n => r.push (UInt8.ofNat n.toNat)) s = ⟨s.data ++ l.toArray⟩ := by
  induction l with
  | nil => intro s; simp
  | cons c l ih =>
    intro s
    simp only [List.map_cons, List.foldl_cons, Int.toNat_natCast, UInt8.ofNat_toNat]
    rw [ih]
    simp [ByteArray.push]

theorem br_string {w : World} {v : Value} {l : List UInt8} (h : BR w v l) : (convert 29 9 v).run Tryd.prog w = .ok (.string (strOf l)) w := by
  obtain ⟨a, cap, rfl, h1, h2, h3⟩ := h
  rw [run_convert_bytes_string w _ _ _ a l.length cap Tryd.underlying29 Tryd.underlying5 Tryd.underlying9]
  cases a with
  | none =>
    have hl : l = [] := by
      cases l with
      | nil => rfl
      | cons c l =>
        obtain ⟨g, o, e, _⟩ := h3 0 c rfl
        cases e
    subst hl
    rfl
  | some a =>
    have hcells : ∀ j u, (bcells l)[j]? = some u → w.cell? (a.add j) = some u := by
      intro j u hu
      simp only [bcells, List.getElem?_map, Option.map_eq_some_iff] at hu
      obtain ⟨c, hc, rfl⟩ := hu
      obtain ⟨g, o, e, hh⟩ := h3 j c hc
      cases e
      rw [addr_add]
      exact hh
    have hload : (loadCells a l.length).run Tryd.prog w = .ok ((l.map fun c => ((c.toNat : Nat) : Int)).map (Value.int .u8)).toArray w := by
      have := run_loadCells_list (P := Tryd.prog) (w := w) a (bcells l) hcells
      rw [bcells_length] at this
      rw [this]
      simp [bcells]
    rw [run_bytesToString w a l.length cap _ hload, foldl_push]
    simp [strOf]

def rdStream (bs : List UInt8) (pos : Nat) : Option (Nat × Nat) := (rdVar bs pos).bind fun q => if q.1 < 8 then some q else none
def rdText (bs : List UInt8) (pos : Nat) : Option (List UInt8 × Nat) := (rdVar bs pos).bind fun q => if q.1 ≤ bs.length - q.2 then some ((bs.drop q.2).take q.1, q.2 + q.1) else none

theorem rdVar_le {bs : List UInt8} {pos n p : Nat} (h : rdVar bs pos = some (n, p)) : pos < p ∧ p ≤ bs.length ∧ n < 4611686018427387904 := by
  unfold rdVar at h
  cases hc : bs[pos]? with
  | none => rw [hc] at h; cases h
  | some c =>
    rw [hc] at h
    simp only at h
    split at h
    · rename_i hfit
      simp only [Option.some.injEq, Prod.mk.injEq] at h
      obtain ⟨rfl, rfl⟩ := h
      have hz1 : 1 ≤ vsz c := Nat.one_le_two_pow
      have hcl := c.toNat_lt
      have hq : c.toNat / 64 = 0 ∨ c.toNat / 64 = 1 ∨ c.toNat / 64 = 2 ∨ c.toNat / 64 = 3 := by omega
      have hz8 : vsz c ≤ 8 := by
        unfold vsz
        rcases hq with e | e | e | e <;> rw [e] <;> decide
      refine ⟨by omega, hfit, ?_⟩
      have h1 := rdNum_lt c ((bs.drop (pos + 1)).take (vsz c - 1))
      have h2 : ((bs.drop (pos + 1)).take (vsz c - 1)).length ≤ 7 := by rw [List.length_take]; omega
      have h5 : 64 * 256 ^ ((bs.drop (pos + 1)).take (vsz c - 1)).length ≤ 64 * 256 ^ 7 := Nat.mul_le_mul_left _ (Nat.pow_le_pow_right (by omega) h2)
      have h6 : 64 * 256 ^ 7 = 4611686018427387904 := by decide
      omega
    · cases h

theorem rstream_any (rb pos : Nat) (v : Value) (bs : List UInt8) (w : World) (h : RdAt w rb v pos) (hb : BR w v bs) (hv : OffS (Only rb) v) (hp : pos ≤ bs.length) :
    Calls Tryd.prog 42 #[.pointer (some ⟨rb, 0, none⟩)] w (Rds w rb v ((rdStream bs pos).map fun q => (.int .i64 (q.1 : Int), q.2))) := by
  have hc := rvarint_any rb pos v bs w h hb hv hp
  clear h hb hv
  cases hr : rdVar bs pos with
  | none =>
    rw [hr] at hc
    have HR : Hid (rdStream bs pos = none) := by show _ = _; rw [rdStream, hr]; rfl
    clear hr
    go_enter Tryd.func42, Tryd.ntmps42
    go_wp2_with (go_at_call 22; refine hc.mono ?_; rintro e w1 (⟨_, _, hx, _⟩ | ⟨_, he, hm⟩); cases hx; unfold shortE at he; subst he)
    exact ⟨rfl, .inr ⟨by rw [HR.out]; rfl, rfl, hm⟩⟩
  | some q =>
    obtain ⟨n, p⟩ := q
    obtain ⟨q1, q2, q3⟩ := rdVar_le hr
    rw [hr] at hc
    by_cases h8 : n < 8
    · have HR : Hid (rdStream bs pos = some (n, p)) := by show _ = _; rw [rdStream, hr]; simp [h8]
      have h8' : ¬ (8 : Int) ≤ n := by omega
      have e1 : IntKind.i64.wrap (n : Int) = n := IntWalk.i64_in _ (by omega)
      clear hr
      go_enter Tryd.func42, Tryd.ntmps42
      go_wp2_with fail
      refine hc.mono ?_
      rintro e w1 (⟨_, _, hx, rfl, hat, hm⟩ | ⟨hx, _⟩)
      · simp only [Option.map_some, Option.some.injEq, Prod.mk.injEq] at hx
        obtain ⟨rfl, rfl⟩ := hx
        have HA := hide hat
        have HM := hide hm
        clear hat hm
        go_wp2_with fail
        go_ret
        exact .inl ⟨_, _, by rw [HR.out]; rfl, rfl, HA.out, HM.out⟩
      · cases hx
    · have HR : Hid (rdStream bs pos = none) := by show _ = _; rw [rdStream, hr]; simp [h8]
      have h8' : (8 : Int) ≤ n := by omega
      clear hr
      go_enter Tryd.func42, Tryd.ntmps42
      go_wp2_with fail
      refine hc.mono ?_
      rintro e w1 (⟨_, _, hx, rfl, hat, hm⟩ | ⟨hx, _⟩)
      · simp only [Option.map_some, Option.some.injEq, Prod.mk.injEq] at hx
        obtain ⟨rfl, rfl⟩ := hx
        have HM := hide hm
        clear hat hm
        go_wp2_with (go_at_call 23; refine (fail_any _ _).mono ?_; rintro e w' ⟨he, rfl⟩; unfold shortE at he; subst he)
        exact ⟨rfl, .inr ⟨by rw [HR.out]; rfl, rfl, HM.out⟩⟩
      · cases hx

theorem rtext_any (rb pos : Nat) (v : Value) (bs : List UInt8) (w : World) (h : RdAt w rb v pos) (hb : BR w v bs) (hv : OffS (Only rb) v) (hp : pos ≤ bs.length) :
    Calls Tryd.prog 47 #[.pointer (some ⟨rb, 0, none⟩)] w (Rds w rb v ((rdText bs pos).map fun q => (.string (strOf q.1), q.2))) := by
  have hc := rvarint_any rb pos v bs w h hb hv hp
  have Hb := hide hb
  clear h hb
  cases hr : rdVar bs pos with
  | none =>
    rw [hr] at hc
    have HR : Hid (rdText bs pos = none) := by show _ = _; rw [rdText, hr]; rfl
    clear hr hv
    go_enter Tryd.func47, Tryd.ntmps47
    go_wp2_with (go_at_call 22; refine hc.mono ?_; rintro e w1 (⟨_, _, hx, _⟩ | ⟨_, he, hm⟩); cases hx; unfold shortE at he; subst he)
    exact ⟨rfl, .inr ⟨by rw [HR.out]; rfl, rfl, hm⟩⟩
  | some q =>
    obtain ⟨n, p⟩ := q
    obtain ⟨q1, q2, q3⟩ := rdVar_le hr
    rw [hr] at hc
    have Hr := hide hr
    have Hv := hide hv
    clear hr hv
    by_cases hfit : n ≤ bs.length - p
    · have HR : Hid (rdText bs pos = some ((bs.drop p).take n, p + n)) := by show _ = _; rw [rdText, Hr.out]; simp [hfit]
      go_enter Tryd.func47, Tryd.ntmps47
      go_wp2_with fail
      refine hc.mono ?_
      rintro e w1 (⟨_, _, hx, rfl, hat, hm⟩ | ⟨hx, _⟩)
      · simp only [Option.map_some, Option.some.injEq, Prod.mk.injEq] at hx
        obtain ⟨rfl, rfl⟩ := hx
        have t2 := take_ok rb n p (n : Int) rfl v bs w1 hat (Hb.out.mod hm Hv.out) Hv.out (by omega)
        have HM := hide hm
        clear hat hm
        go_wp2_with fail
        refine t2.mono ?_
        rintro e w2 ⟨sv, rfl, hs2, h2, m2⟩
        have hcv := br_string hs2
        have H2 := hide h2
        have HM2 := hide m2
        obtain ⟨a2, cap2, rfl, _⟩ := hs2
        obtain ⟨l2, hl2⟩ : ∃ l2, (bs.drop p).take n = l2 := ⟨_, rfl⟩
        rw [hl2] at hcv HR
        rw [hl2]
        clear h2 m2 t2 hl2
        go_wp2_with fail
        go_ret
        exact .inl ⟨_, _, by rw [HR.out]; rfl, rfl, H2.out, HM.out.trans HM2.out⟩
      · cases hx
    · have HR : Hid (rdText bs pos = none) := by show _ = _; rw [rdText, Hr.out]; simp [hfit]
      go_enter Tryd.func47, Tryd.ntmps47
      go_wp2_with fail
      refine hc.mono ?_
      rintro e w1 (⟨_, _, hx, rfl, hat, hm⟩ | ⟨hx, _⟩)
      · simp only [Option.map_some, Option.some.injEq, Prod.mk.injEq] at hx
        obtain ⟨rfl, rfl⟩ := hx
        have t2 := take_no rb n p (n : Int) rfl v bs w1 hat (Hb.out.mod hm Hv.out) (by omega) (by omega)
        have HM := hide hm
        clear hat hm
        go_wp2_with (go_at_call 24; refine t2.mono ?_; rintro e w' ⟨he, hm2⟩; unfold shortE at he; subst he)
        exact ⟨rfl, .inr ⟨by rw [HR.out]; rfl, rfl, HM.out.trans hm2⟩⟩
      · cases hx

/-- The kind that a first byte tells. -/
def kindOf (t : UInt8) : Option Int :=
  if t = 1 then some 1 else if t = 2 then some 2 else if t = 8 ∨ t = 9 then some 4 else if t = 16 then some 5 else if t = 17 then some 6 else if t = 28 then some 8 else if t = 36 then some 3 else if t = 48 then some 7 else none

theorem kind_none (t : UInt8) (w : World) (h : kindOf t = none) : Calls Tryd.prog 25 #[.int .u8 (t.toNat : Int)] w fun e w' => e = .returned (.tuple #[.int .i64 0, .bool false]) ∧ w = w' := by
  have hn : ∀ c : UInt8, c ∈ [1, 2, 8, 9, 16, 17, 28, 36, 48] → ((t.toNat : Int) == (c.toNat : Int)) = false := by
    intro c hc
    rw [beq_eq_false_iff_ne]
    intro he
    have : t = c := UInt8.toNat_inj.1 (by omega)
    subst this
    simp only [List.mem_cons, List.not_mem_nil, or_false] at hc
    rcases hc with rfl | rfl | rfl | rfl | rfl | rfl | rfl | rfl | rfl <;> simp [kindOf] at h
  have h1 : ((t.toNat : Int) == 1) = false := hn 1 (by simp)
  have h2 : ((t.toNat : Int) == 2) = false := hn 2 (by simp)
  have h3 : ((t.toNat : Int) == 8) = false := hn 8 (by simp)
  have h4 : ((t.toNat : Int) == 9) = false := hn 9 (by simp)
  have h5 : ((t.toNat : Int) == 16) = false := hn 16 (by simp)
  have h6 : ((t.toNat : Int) == 17) = false := hn 17 (by simp)
  have h7 : ((t.toNat : Int) == 28) = false := hn 28 (by simp)
  have h8 : ((t.toNat : Int) == 36) = false := hn 36 (by simp)
  have h9 : ((t.toNat : Int) == 48) = false := hn 48 (by simp)
  clear hn h
  go_enter Tryd.func25, Tryd.ntmps25
  go_wp2_with fail
  go_ret2
  exact ⟨rfl, rfl⟩

theorem kind_some (t : UInt8) (k : Int) (w : World) (h : kindOf t = some k) : Calls Tryd.prog 25 #[.int .u8 (t.toNat : Int)] w fun e w' => e = .returned (.tuple #[.int .i64 k, .bool true]) ∧ w = w' := by
  have hc : t ∈ ([1, 2, 8, 9, 16, 17, 28, 36, 48] : List UInt8) := by
    refine Decidable.byContradiction fun hc => ?_
    simp only [List.mem_cons, List.not_mem_nil, or_false, not_or] at hc
    obtain ⟨a1, a2, a3, a4, a5, a6, a7, a8, a9⟩ := hc
    simp [kindOf, *] at h
  simp only [List.mem_cons, List.not_mem_nil, or_false] at hc
  rcases hc with rfl | rfl | rfl | rfl | rfl | rfl | rfl | rfl | rfl
  all_goals
    simp [kindOf] at h
    subst h
    simp only [UInt8.reduceToNat]
    go_enter Tryd.func25, Tryd.ntmps25
    go_wp2_with fail
    go_ret2
    exact ⟨rfl, rfl⟩
end Go.Proofs.YtddfdpbaiedcjaaDoor
