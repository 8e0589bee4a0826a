/- What Decode computes, in plain Lean. -/
import Derived.Test.YtddfdpbaiedcjaaDoorRead6
namespace Go.Proofs.YtddfdpbaiedcjaaDoor
open Go.RowKit

def byteAt (bs : List UInt8) (i : Nat) : Nat := (bs.getD i 0).toNat
/-- Four bytes as a number. -/
def be4 (bs : List UInt8) (n : Nat) : Nat := byteAt bs n * 16777216 + byteAt bs (n + 1) * 65536 + byteAt bs (n + 2) * 256 + byteAt bs (n + 3)

inductive DecR where
  | sum : DecR
  | bad (at_ : Nat) : DecR
  | ok (num : Nat) (fs : List Frm) : DecR

/-- The frame that begins there. -/
def rdFrame (bs : List UInt8) (pos : Nat) : Option (Frm × Nat) :=
  match bs[pos]? with
  | none => none
  | some t => (kindOf t).bind fun k => (rdBody k (decide (t = 9)) bs (pos + 1)).bind fun r => if soundF r.1 = true then some r else none

def rdLoop (bs : List UInt8) : Nat → Nat → Nat → List Frm → DecR
  | 0, _, pos, _ => .bad pos
  | fuel + 1, num, pos, acc =>
    if pos < bs.length then
      match rdFrame bs pos with
      | none => .bad pos
      | some r => rdLoop bs fuel num r.2 (acc ++ [r.1])
    else .ok num acc

def decBody (bs : List UInt8) : DecR :=
  match rdVar bs 0 with
  | none => .bad 0
  | some q => if q.2 = bs.length then .bad 0 else rdLoop bs (bs.length + 1) q.1 q.2 []

def dec (bs : List UInt8) : DecR :=
  if bs.length < 4 then .sum
  else if be4 bs (bs.length - 4) = crc (bs.take (bs.length - 4)) then decBody (bs.take (bs.length - 4)) else .sum

theorem rdAckF_le (bs : List UInt8) : ∀ fuel hi n size pos acc r, pos ≤ bs.length → rdAckF bs fuel hi n size pos acc = some r → pos ≤ r.2 ∧ r.2 ≤ bs.length ∧ r.1.length ≤ acc.length + (r.2 - pos) + 1
  | 0, _, _, _, _, _, _, _, h => by cases h
  | fuel + 1, hi, n, size, pos, acc, r, hp, h => by
    unfold rdAckF at h
    split at h
    · cases h
    · split at h
      · cases h
        simp
        exact hp
      · cases h1 : rdVar bs pos with
        | none => rw [h1] at h; cases h
        | some q1 =>
          obtain ⟨g, p1⟩ := q1
          obtain ⟨a1, a2, _⟩ := rdVar_le h1
          rw [h1] at h
          simp only [Option.bind_some] at h
          cases h2 : rdVar bs p1 with
          | none => rw [h2] at h; cases h
          | some q2 =>
            obtain ⟨s, p2⟩ := q2
            obtain ⟨b1, b2, _⟩ := rdVar_le h2
            rw [h2] at h
            simp only [Option.bind_some] at h
            split at h
            · cases h
            · obtain ⟨c1, c2, c3⟩ := rdAckF_le bs fuel _ _ _ _ _ _ b2 h
              simp only [List.length_append, List.length_cons, List.length_nil] at c3
              exact ⟨by omega, c2, by omega⟩

theorem rdText_le {bs l : List UInt8} {pos p : Nat} (h : rdText bs pos = some (l, p)) : pos ≤ p ∧ p ≤ bs.length ∧ l.length ≤ bs.length := by
  have he := rdText_end h
  unfold rdText at h
  cases hr : rdVar bs pos with
  | none => rw [hr] at h; cases h
  | some q =>
    obtain ⟨n, p1⟩ := q
    rw [hr] at h
    obtain ⟨a1, a2, _⟩ := rdVar_le hr
    simp only [Option.bind_some] at h
    split at h
    · cases h
      refine ⟨by omega, he, ?_⟩
      simp
      omega
    · cases h

theorem rdStream_le {bs : List UInt8} {pos n p : Nat} (h : rdStream bs pos = some (n, p)) : pos ≤ p ∧ p ≤ bs.length := by
  unfold rdStream at h
  cases hr : rdVar bs pos with
  | none => rw [hr] at h; cases h
  | some q =>
    rw [hr] at h
    have := rdVar_le hr
    simp only [Option.bind_some] at h
    split at h
    · cases h
      exact ⟨by omega, this.2.1⟩
    · cases h

/-- What is known of a frame that was read. -/
def Read (bs : List UInt8) (pos : Nat) (k : Int) (f : Frm) (p : Nat) : Prop := f.kind = k ∧ pos ≤ p ∧ p ≤ bs.length ∧ f.data.length ≤ bs.length ∧ f.rngs.length ≤ bs.length + 1

theorem rdBody_read {bs : List UInt8} {pos p : Nat} {t : UInt8} {k : Int} {b : Bool} {f : Frm} (hk : kindOf t = some k) (hp : pos ≤ bs.length) (h : rdBody k b bs pos = some (f, p)) : Read bs pos k f p := by
  have hk' : k = 1 ∨ k = 2 ∨ k = 3 ∨ k = 4 ∨ k = 5 ∨ k = 6 ∨ k = 7 ∨ k = 8 := by
    unfold kindOf at hk
    repeat' split at hk
    all_goals simp at hk
    all_goals omega
  rcases hk' with rfl | rfl | rfl | rfl | rfl | rfl | rfl | rfl
  · rw [show rdBody 1 b bs pos = some (f0 1 b, pos) by simp [rdBody]] at h
    cases h
    exact ⟨rfl, Nat.le_refl _, hp, Nat.zero_le _, Nat.zero_le _⟩
  · rw [show rdBody 2 b bs pos = rd2 b bs pos by simp [rdBody], rd2, Option.bind_eq_some_iff] at h
    obtain ⟨⟨x1, p1⟩, e1, h⟩ := h
    rw [Option.bind_eq_some_iff] at h
    obtain ⟨⟨x2, p2⟩, e2, h⟩ := h
    rw [Option.bind_eq_some_iff] at h
    obtain ⟨⟨x3, p3⟩, e3, h⟩ := h
    rw [Option.bind_eq_some_iff] at h
    obtain ⟨r, e4, h⟩ := h
    cases h
    have := rdVar_le e1
    have := rdVar_le e2
    have := rdVar_le e3
    simp only at *
    obtain ⟨c1, c2, c3⟩ := rdAckF_le bs _ _ _ _ _ _ _ (rdVar_le e3).2.1 e4
    refine ⟨rfl, by omega, c2, Nat.zero_le _, ?_⟩
    show r.1.length ≤ _
    simp only [List.length_nil] at c3
    omega
  · rw [show rdBody 3 b bs pos = rd3 b bs pos by simp [rdBody], rd3, Option.bind_eq_some_iff] at h
    obtain ⟨⟨x1, p1⟩, e1, h⟩ := h
    rw [Option.bind_eq_some_iff] at h
    obtain ⟨⟨x2, p2⟩, e2, h⟩ := h
    rw [Option.bind_eq_some_iff] at h
    obtain ⟨⟨x3, p3⟩, e3, h⟩ := h
    cases h
    have := rdStream_le e1
    have := rdVar_le e2
    have := rdVar_le e3
    simp only at *
    exact ⟨rfl, by omega, by omega, Nat.zero_le _, Nat.zero_le _⟩
  · rw [show rdBody 4 b bs pos = rd4 b bs pos by simp [rdBody], rd4, Option.bind_eq_some_iff] at h
    obtain ⟨⟨x1, p1⟩, e1, h⟩ := h
    rw [Option.bind_eq_some_iff] at h
    obtain ⟨⟨x2, p2⟩, e2, h⟩ := h
    rw [Option.bind_eq_some_iff] at h
    obtain ⟨⟨x3, p3⟩, e3, h⟩ := h
    cases h
    have := rdStream_le e1
    have := rdVar_le e2
    have := rdText_le e3
    simp only at *
    exact ⟨rfl, by omega, by omega, by show x3.length ≤ _; omega, Nat.zero_le _⟩
  · rw [show rdBody 5 b bs pos = rdNumF 5 b bs pos by simp [rdBody], rdNumF, Option.bind_eq_some_iff] at h
    obtain ⟨⟨x1, p1⟩, e1, h⟩ := h
    cases h
    have := rdVar_le e1
    simp only at *
    exact ⟨rfl, by omega, by omega, Nat.zero_le _, Nat.zero_le _⟩
  · rw [show rdBody 6 b bs pos = rd6 b bs pos by simp [rdBody], rd6, Option.bind_eq_some_iff] at h
    obtain ⟨⟨x1, p1⟩, e1, h⟩ := h
    rw [Option.bind_eq_some_iff] at h
    obtain ⟨⟨x2, p2⟩, e2, h⟩ := h
    cases h
    have := rdStream_le e1
    have := rdVar_le e2
    simp only at *
    exact ⟨rfl, by omega, by omega, Nat.zero_le _, Nat.zero_le _⟩
  · rw [show rdBody 7 b bs pos = rd7 b bs pos by simp [rdBody], rd7, Option.bind_eq_some_iff] at h
    obtain ⟨⟨x1, p1⟩, e1, h⟩ := h
    rw [Option.bind_eq_some_iff] at h
    obtain ⟨⟨x2, p2⟩, e2, h⟩ := h
    rw [Option.bind_eq_some_iff] at h
    obtain ⟨⟨x3, p3⟩, e3, h⟩ := h
    cases h
    have := rdVar_le e1
    have := rdVar_le e2
    have := rdText_le e3
    simp only at *
    exact ⟨rfl, by omega, by omega, by show x3.length ≤ _; omega, Nat.zero_le _⟩
  · rw [show rdBody 8 b bs pos = rdNumF 8 b bs pos by simp [rdBody], rdNumF, Option.bind_eq_some_iff] at h
    obtain ⟨⟨x1, p1⟩, e1, h⟩ := h
    cases h
    have := rdVar_le e1
    simp only at *
    exact ⟨rfl, by omega, by omega, Nat.zero_le _, Nat.zero_le _⟩
end Go.Proofs.YtddfdpbaiedcjaaDoor
