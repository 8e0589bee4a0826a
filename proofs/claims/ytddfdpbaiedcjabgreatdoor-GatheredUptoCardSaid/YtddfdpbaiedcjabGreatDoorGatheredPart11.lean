/- The statement Gathered, second form, its card: where what the law reads is of bulk at most 1048576, and the two listed variables read as listed, it returns true, and its argument reads behind the call as before. Part 11 of 23. -/
import Derived.Test.YtddfdpbaiedcjabGreatDoorGatheredPart10
import Derived.Test.YtddfdpbaiedcjabGreatDoorGatheredPart7
import Derived.Test.YtddfdpbaiedcjabGreatDoorRows
import Derived.ProofKit
import Derived.OpenShut
import Derived.ChangeSlices
import Derived.ChangeArms
import Derived.ChangeSame
import Derived.Deep.Slices
/- The plain law of packets as bytes: what is written is read; one byte that turns is seen. -/
namespace Go.Proofs.YtddfdpbaiedcjabGreatDoor
open Go.RowKit

/-- The bytes l lie there. -/
def At (bs : List UInt8) (pos : Nat) (l : List UInt8) : Prop := ∃ pre post, bs = pre ++ (l ++ post) ∧ pre.length = pos

theorem At.left {bs : List UInt8} {pos : Nat} {a b : List UInt8} (h : At bs pos (a ++ b)) : At bs pos a := by
  obtain ⟨pre, post, rfl, rfl⟩ := h
  exact ⟨pre, b ++ post, by simp, rfl⟩
theorem At.right {bs : List UInt8} {pos : Nat} {a b : List UInt8} (h : At bs pos (a ++ b)) : At bs (pos + a.length) b := by
  obtain ⟨pre, post, rfl, rfl⟩ := h
  exact ⟨pre ++ a, post, by simp, by simp⟩
theorem At.le {bs : List UInt8} {pos : Nat} {a : List UInt8} (h : At bs pos a) : pos + a.length ≤ bs.length := by
  obtain ⟨pre, post, rfl, rfl⟩ := h
  simp

theorem At.head {bs : List UInt8} {pos : Nat} {a : UInt8} {l : List UInt8} (h : At bs pos (a :: l)) : bs[pos]? = some a := by
  obtain ⟨pre, post, rfl, rfl⟩ := h
  simp
theorem At.tail {bs : List UInt8} {pos : Nat} {a : UInt8} {l : List UInt8} (h : At bs pos (a :: l)) : At bs (pos + 1) l := At.right (a := [a]) h
theorem At.sub {bs : List UInt8} {pos : Nat} {l : List UInt8} (h : At bs pos l) : (bs.drop pos).take l.length = l := by
  obtain ⟨pre, post, rfl, rfl⟩ := h
  simp

theorem vint_lt8 (n : Nat) : (vint n).length ≤ 8 := by
  unfold vint
  repeat' split
  all_goals simp

theorem rd_vint {bs : List UInt8} {pos n : Nat} (hn : n < 4611686018427387904) (h : At bs pos (vint n)) : rdVar bs pos = some (n, pos + (vint n).length) := by
  have hle := h.le
  unfold vint at h hle ⊢
  unfold rdVar
  split at h
  · rename_i h1
    rw [h.head]
    have e : (UInt8.ofNat n).toNat = n := by rw [UInt8.toNat_ofNat']; omega
    have ez : vsz (UInt8.ofNat n) = 1 := by unfold vsz; rw [e]; rw [show n / 64 = 0 by omega]
    simp only [h1, if_true] at hle ⊢
    simp only [List.length_singleton] at hle
    rw [ez]
    rw [if_pos hle]
    simp [rdNum, e]
    omega
  · rename_i h1
    split at h
    · rename_i h2
      rw [h.head]
      have e : (UInt8.ofNat (n / 256 + 64)).toNat = n / 256 + 64 := by rw [UInt8.toNat_ofNat']; omega
      have ez : vsz (UInt8.ofNat (n / 256 + 64)) = 2 := by unfold vsz; rw [e]; rw [show (n / 256 + 64) / 64 = 1 by omega]
      simp only [h1, h2, if_true, if_false] at hle ⊢
      simp only [List.length_cons, List.length_nil] at hle
      rw [ez]
      rw [if_pos (by omega)]
      have hs := h.tail.sub
      simp only [List.length_cons, List.length_nil] at hs
      simp only [Nat.zero_add] at hs
      rw [show (2 : Nat) - 1 = 1 from rfl, hs]
      simp [rdNum, UInt8.toNat_ofNat']
      omega
    · rename_i h2
      split at h
      · rename_i h3
        rw [h.head]
        have e : (UInt8.ofNat (n / 16777216 + 128)).toNat = n / 16777216 + 128 := by rw [UInt8.toNat_ofNat']; omega
        have ez : vsz (UInt8.ofNat (n / 16777216 + 128)) = 4 := by unfold vsz; rw [e]; rw [show (n / 16777216 + 128) / 64 = 2 by omega]
        simp only [h1, h2, h3, if_true, if_false] at hle ⊢
        simp only [List.length_cons, List.length_nil] at hle
        rw [ez]
        rw [if_pos (by omega)]
        have hs := h.tail.sub
        simp only [List.length_cons, List.length_nil] at hs
        simp only [Nat.zero_add] at hs
        rw [show (4 : Nat) - 1 = 1 + 1 + 1 from rfl, hs]
        simp [rdNum, UInt8.toNat_ofNat']
        omega
      · rename_i h3
        rw [h.head]
        have e : (UInt8.ofNat (n / 72057594037927936 + 192)).toNat = n / 72057594037927936 + 192 := by rw [UInt8.toNat_ofNat']; omega
        have ez : vsz (UInt8.ofNat (n / 72057594037927936 + 192)) = 8 := by unfold vsz; rw [e]; rw [show (n / 72057594037927936 + 192) / 64 = 3 by omega]
        simp only [h1, h2, h3, if_false] at hle ⊢
        simp only [List.length_cons, List.length_nil] at hle
        rw [ez]
        rw [if_pos (by omega)]
        have hs := h.tail.sub
        simp only [List.length_cons, List.length_nil] at hs
        simp only [Nat.zero_add] at hs
        rw [show (8 : Nat) - 1 = 1 + 1 + 1 + 1 + 1 + 1 + 1 from rfl, hs]
        simp [rdNum, UInt8.toNat_ofNat']
        omega

theorem rd_stream {bs : List UInt8} {pos n : Nat} (hn : n < 8) (h : At bs pos (vint n)) : rdStream bs pos = some (n, pos + (vint n).length) := by
  unfold rdStream
  rw [rd_vint (by omega) h]
  simp [hn]

theorem rd_text {bs : List UInt8} {pos : Nat} {l : List UInt8} (hn : l.length < 4611686018427387904) (h : At bs pos (vint l.length ++ l)) : rdText bs pos = some (l, pos + (vint l.length ++ l).length) := by
  unfold rdText
  rw [rd_vint hn h.left]
  have h2 := h.right.le
  have h3 := h.right.sub
  simp only [Option.bind_some]
  rw [if_pos (by omega), h3]
  simp
  omega

/-- The ranges behind the first, of the rest. -/
theorem ackB_from (rs : Rngs) (k : Nat) : ∀ m, k ≤ m → ∃ t, ackB rs m = ackB rs k ++ t ∧ (k < m → ∃ u, t = vint (loAt rs k - hiAt rs (k + 1) - 2) ++ (vint (hiAt rs (k + 1) - loAt rs (k + 1)) ++ u) ∧ ackB rs m = ackB rs (k + 1) ++ u)
  | 0, h => ⟨[], by simp [show k = 0 by omega], fun x => by omega⟩
  | m + 1, h => by
    by_cases hk : k = m + 1
    · subst hk
      exact ⟨[], by simp, fun x => by omega⟩
    · obtain ⟨t, h1, h2⟩ := ackB_from rs k m (by omega)
      refine ⟨t ++ (vint (loAt rs m - hiAt rs (m + 1) - 2) ++ vint (hiAt rs (m + 1) - loAt rs (m + 1))), ?_, fun _ => ?_⟩
      · simp only [ackB, h1, List.append_assoc]
      · by_cases hm : k = m
        · subst hm
          have : t = [] := by
            have := congrArg List.length h1
            simp at this
            exact this
          subst this
          exact ⟨[], by simp, by simp⟩
        · obtain ⟨u, e1, e2⟩ := h2 (by omega)
          refine ⟨u ++ (vint (loAt rs m - hiAt rs (m + 1) - 2) ++ vint (hiAt rs (m + 1) - loAt rs (m + 1))), ?_, ?_⟩
          · rw [e1]; simp only [List.append_assoc]
          · simp only [ackB, e2, List.append_assoc]

theorem take_snoc (rs : Rngs) (k : Nat) (hk : k < rs.length) : rs.take (k + 1) = rs.take k ++ [(loAt rs k, hiAt rs k)] := by
  rw [List.take_add_one, List.getElem?_eq_getElem hk]
  unfold loAt hiAt
  rw [List.getD_eq_getElem?_getD, List.getElem?_eq_getElem hk]
  rfl

theorem rd_ackF {bs : List UInt8} (rs : Rngs) (hs : soundRs rs = true) : ∀ (d k fuel pos : Nat) (l : List UInt8), rs.length = k + 1 + d → d < fuel → ackB rs (rs.length - 1) = ackB rs k ++ l → At bs pos l →
    rdAckF bs fuel (hiAt rs k) d (hiAt rs k - loAt rs k) pos (rs.take k) = some (rs, pos + l.length)
  | 0, k, fuel + 1, pos, l, hl, hf, he, ha => by
    obtain ⟨f1, f2, f3⟩ := ok_facts hs (i := k) (by omega)
    have : l = [] := by
      have := congrArg List.length he
      rw [show rs.length - 1 = k by omega] at this
      simp at this
      exact this
    subst this
    unfold rdAckF
    rw [if_neg (by omega), if_pos rfl]
    have e := take_snoc rs k (by omega)
    rw [show hiAt rs k - (hiAt rs k - loAt rs k) = loAt rs k by omega, ← e, List.take_of_length_le (by omega)]
    simp
  | d + 1, k, fuel + 1, pos, l, hl, hf, he, ha => by
    obtain ⟨f1, f2, f3⟩ := ok_facts hs (i := k) (by omega)
    obtain ⟨g1, g2, g3⟩ := ok_facts hs (i := k + 1) (by omega)
    have g3 := g3 (by omega)
    simp only [Nat.add_sub_cancel] at g3
    obtain ⟨t, e1, e2⟩ := ackB_from rs k (rs.length - 1) (by omega)
    have : t = l := List.append_cancel_left (e1.symm.trans he)
    subst this
    obtain ⟨u, e3, e4⟩ := e2 (by omega)
    subst e3
    unfold rdAckF
    rw [if_neg (by omega), if_neg (by omega)]
    rw [rd_vint (by omega) ha.left]
    simp only [Option.bind_some]
    rw [rd_vint (by omega) ha.right.left]
    simp only [Option.bind_some]
    have e5 : hiAt rs k - (hiAt rs k - loAt rs k) = loAt rs k := by omega
    rw [e5, if_neg (by omega)]
    have := rd_ackF rs hs d (k + 1) fuel (pos + (vint (loAt rs k - hiAt rs (k + 1) - 2)).length + (vint (hiAt rs (k + 1) - loAt rs (k + 1))).length) u (by omega) (by omega) e4 (ha.right.right)
    rw [take_snoc rs k (by omega)] at this
    rw [show loAt rs k - 2 - (loAt rs k - hiAt rs (k + 1) - 2) = hiAt rs (k + 1) by omega, Nat.add_sub_cancel, this]
    simp only [List.length_append]
    congr 2
    omega

/-- A frame with nothing but what its kind names. -/
def canon (f : Frm) : Frm :=
  let z : Frm := f0 f.kind false
  if f.kind = 1 then z
  else if f.kind = 2 then { z with rngs := f.rngs }
  else if f.kind = 3 then { z with stream := f.stream, off := f.off, rel := f.rel }
  else if f.kind = 4 then { z with stream := f.stream, off := f.off, fin := f.fin, data := f.data }
  else if f.kind = 5 then { z with lim := f.lim }
  else if f.kind = 6 then { z with stream := f.stream, lim := f.lim }
  else if f.kind = 7 then { z with id := f.id, dl := f.dl, data := f.data }
  else { z with lim := f.lim }

theorem kinds_of {f : Frm} (h : soundF f = true) : f.kind = 1 ∨ f.kind = 2 ∨ f.kind = 3 ∨ f.kind = 4 ∨ f.kind = 5 ∨ f.kind = 6 ∨ f.kind = 7 ∨ f.kind = 8 := by
  simp only [soundF, soundC, Bool.and_eq_true] at h
  obtain ⟨_, h⟩ := h
  by_cases h2 : f.kind = 2
  · omega
  · by_cases h3 : f.kind = 3
    · omega
    · by_cases h4 : f.kind = 4
      · omega
      · simp only [h2, h3, h4, if_false, Bool.and_eq_true, decide_eq_true_eq] at h
        omega

theorem sound_facts {f : Frm} (h : soundF f = true) : f.off ≤ 4611686018427387903 ∧ f.rel ≤ 4611686018427387903 ∧ f.lim ≤ 4611686018427387903 ∧ f.id ≤ 4611686018427387903 ∧ f.dl ≤ 4611686018427387903 ∧ 0 ≤ f.stream ∧ f.stream < 8 ∧ soundC f = true := by
  simp only [soundF, numsOk, nums, strOk, Bool.and_eq_true, List.all_cons, List.all_nil, decide_eq_true_eq] at h
  obtain ⟨⟨h1, h2⟩, h3⟩ := h
  exact ⟨h1.1, h1.2.1, h1.2.2.1, h1.2.2.2.1, h1.2.2.2.2.1, h2.1, h2.2, h3⟩

theorem canon_kind (f : Frm) : (canon f).kind = f.kind := by
  unfold canon
  simp only
  repeat' split
  all_goals rfl

theorem canon_sound {f : Frm} (h : soundF f = true) : soundF (canon f) = true := by
  obtain ⟨a1, a2, a3, a4, a5, a6, a7, a8⟩ := sound_facts h
  rcases kinds_of h with hk | hk | hk | hk | hk | hk | hk | hk
  all_goals
    simp only [soundC, hk] at a8
    simp [canon, hk, soundF, numsOk, nums, strOk, soundC, f0] at a8 ⊢
    try omega
  all_goals exact a8

theorem canon_bytes {f : Frm} (h : soundF f = true) : bytesF (canon f) = bytesF f := by
  rcases kinds_of h with hk | hk | hk | hk | hk | hk | hk | hk
  all_goals simp [canon, hk, bytesF, f0, bwrite2, bwrite3, bwrite4, bwrite4f, bwrite6, bwrite7, bnum]

theorem bytes_pos (f : Frm) : 0 < (bytesF f).length := by
  unfold bytesF
  repeat' split
  all_goals simp [bwrite2, bwrite3, bwrite4, bwrite4f, bwrite6, bwrite7, bnum]

theorem rd_frame {bs : List UInt8} {pos : Nat} {f : Frm} (h : soundF f = true) (hd : f.data.length < 4611686018427387904) (hr : f.rngs.length < 4611686018427387904) (ha : At bs pos (bytesF f)) : rdFrame bs pos = some (canon f, pos + (bytesF f).length) := by
  have hcs := canon_sound h
  have hck := canon_kind f
  obtain ⟨a1, a2, a3, a4, a5, a6, a7, a8⟩ := sound_facts h
  have hst : ((f.stream.toNat : Nat) : Int) = f.stream := Int.toNat_of_nonneg a6
  unfold rdFrame
  rcases kinds_of h with hk | hk | hk | hk | hk | hk | hk | hk
  · have eb : bytesF f = [1] := by simp [bytesF, hk]
    rw [eb] at ha ⊢
    rw [ha.head]
    have er : rdBody 1 false bs (pos + 1) = some (canon f, pos + 1) := by simp [rdBody, canon, hk]
    simp [kindOf, er, hcs]
  · have eb : bytesF f = 2 :: (vint (hiAt f.rngs 0) ++ (vint (f.rngs.length - 1) ++ (vint (hiAt f.rngs 0 - loAt f.rngs 0) ++ ackB f.rngs (f.rngs.length - 1)))) := by simp [bytesF, hk, bwrite2]
    rw [eb] at ha ⊢
    rw [ha.head]
    have hsr : soundRs f.rngs = true := by simpa [soundC, hk] using a8
    have hpos : 0 < f.rngs.length := by
      simp only [soundRs, Bool.and_eq_true, decide_eq_true_eq] at hsr
      exact hsr.2
    obtain ⟨g1, g2, _⟩ := ok_facts hsr hpos
    have ht := ha.tail
    have e1 := rd_vint (by omega) ht.left
    have e2 := rd_vint (by omega) ht.right.left
    have e3 := rd_vint (by omega) ht.right.right.left
    have hle := ht.right.right.right.le
    have h16 : f.rngs.length - 1 < bs.length + 1 := by
      have : ∀ k, 2 * k ≤ (ackB f.rngs k).length := by
        intro k
        have hv : ∀ n, 1 ≤ (vint n).length := by
          intro n
          unfold vint
          repeat' split
          all_goals simp
        induction k with
        | zero => simp
        | succ k ih =>
          have := hv (loAt f.rngs k - hiAt f.rngs (k + 1) - 2)
          have := hv (hiAt f.rngs (k + 1) - loAt f.rngs (k + 1))
          simp only [ackB, List.length_append]
          omega
      have := this (f.rngs.length - 1)
      omega
    have e4 := rd_ackF f.rngs hsr (f.rngs.length - 1) 0 (bs.length + 1) _ _ (by omega) h16 (by simp [ackB]) ht.right.right.right
    simp only [List.take_zero] at e4
    have er : rdBody 2 false bs (pos + 1) = some (canon f, pos + (2 :: (vint (hiAt f.rngs 0) ++ (vint (f.rngs.length - 1) ++ (vint (hiAt f.rngs 0 - loAt f.rngs 0) ++ ackB f.rngs (f.rngs.length - 1))))).length) := by
      rw [show rdBody 2 false bs (pos + 1) = rd2 false bs (pos + 1) by simp [rdBody], rd2, e1]
      simp only [Option.bind_some]
      rw [e2]
      simp only [Option.bind_some]
      rw [e3]
      simp only [Option.bind_some]
      rw [e4]
      simp [canon, hk]
      omega
    simp [kindOf, er, hcs]
  · have eb : bytesF f = 36 :: (vint f.stream.toNat ++ (vint f.off ++ vint f.rel)) := by simp [bytesF, hk, bwrite3]
    rw [eb] at ha ⊢
    rw [ha.head]
    have ht := ha.tail
    have e1 := rd_stream (by omega) ht.left
    have e2 := rd_vint (by omega) ht.right.left
    have e3 := rd_vint (by omega) ht.right.right
    have er : rdBody 3 false bs (pos + 1) = some (canon f, pos + (36 :: (vint f.stream.toNat ++ (vint f.off ++ vint f.rel))).length) := by
      rw [show rdBody 3 false bs (pos + 1) = rd3 false bs (pos + 1) by simp [rdBody], rd3, e1]
      simp only [Option.bind_some]
      rw [e2]
      simp only [Option.bind_some]
      rw [e3]
      simp [canon, hk, hst]
      omega
    simp [kindOf, er, hcs]
  · cases hfin : f.fin
    · have eb : bytesF f = 8 :: (vint f.stream.toNat ++ (vint f.off ++ (vint f.data.length ++ f.data))) := by simp [bytesF, hk, bwrite4, hfin]
      rw [eb] at ha ⊢
      rw [ha.head]
      have ht := ha.tail
      have e1 := rd_stream (by omega) ht.left
      have e2 := rd_vint (by omega) ht.right.left
      have e3 := rd_text hd ht.right.right
      have er : rdBody 4 false bs (pos + 1) = some (canon f, pos + (8 :: (vint f.stream.toNat ++ (vint f.off ++ (vint f.data.length ++ f.data)))).length) := by
        rw [show rdBody 4 false bs (pos + 1) = rd4 false bs (pos + 1) by simp [rdBody], rd4, e1]
        simp only [Option.bind_some]
        rw [e2]
        simp only [Option.bind_some]
        rw [e3]
        simp [canon, hk, hst, hfin, f0]
        omega
      simp [kindOf, er, hcs]
    · have eb : bytesF f = 9 :: (vint f.stream.toNat ++ (vint f.off ++ (vint f.data.length ++ f.data))) := by simp [bytesF, hk, bwrite4f, hfin]
      rw [eb] at ha ⊢
      rw [ha.head]
      have ht := ha.tail
      have e1 := rd_stream (by omega) ht.left
      have e2 := rd_vint (by omega) ht.right.left
      have e3 := rd_text hd ht.right.right
      have er : rdBody 4 true bs (pos + 1) = some (canon f, pos + (9 :: (vint f.stream.toNat ++ (vint f.off ++ (vint f.data.length ++ f.data)))).length) := by
        rw [show rdBody 4 true bs (pos + 1) = rd4 true bs (pos + 1) by simp [rdBody], rd4, e1]
        simp only [Option.bind_some]
        rw [e2]
        simp only [Option.bind_some]
        rw [e3]
        simp [canon, hk, hst, hfin, f0]
        omega
      simp [kindOf, er, hcs]
  · have eb : bytesF f = 16 :: vint f.lim := by simp [bytesF, hk, bnum]
    rw [eb] at ha ⊢
    rw [ha.head]
    have e1 := rd_vint (by omega) ha.tail
    have er : rdBody 5 false bs (pos + 1) = some (canon f, pos + (16 :: vint f.lim).length) := by
      rw [show rdBody 5 false bs (pos + 1) = rdNumF 5 false bs (pos + 1) by simp [rdBody], rdNumF, e1]
      simp [canon, hk]
      omega
    simp [kindOf, er, hcs]
  · have eb : bytesF f = 17 :: (vint f.stream.toNat ++ vint f.lim) := by simp [bytesF, hk, bwrite6]
    rw [eb] at ha ⊢
    rw [ha.head]
    have ht := ha.tail
    have e1 := rd_stream (by omega) ht.left
    have e2 := rd_vint (by omega) ht.right
    have er : rdBody 6 false bs (pos + 1) = some (canon f, pos + (17 :: (vint f.stream.toNat ++ vint f.lim)).length) := by
      rw [show rdBody 6 false bs (pos + 1) = rd6 false bs (pos + 1) by simp [rdBody], rd6, e1]
      simp only [Option.bind_some]
      rw [e2]
      simp [canon, hk, hst]
      omega
    simp [kindOf, er, hcs]
  · have eb : bytesF f = 48 :: (vint f.id ++ (vint f.dl ++ (vint f.data.length ++ f.data))) := by simp [bytesF, hk, bwrite7]
    rw [eb] at ha ⊢
    rw [ha.head]
    have ht := ha.tail
    have e1 := rd_vint (by omega) ht.left
    have e2 := rd_vint (by omega) ht.right.left
    have e3 := rd_text hd ht.right.right
    have er : rdBody 7 false bs (pos + 1) = some (canon f, pos + (48 :: (vint f.id ++ (vint f.dl ++ (vint f.data.length ++ f.data)))).length) := by
      rw [show rdBody 7 false bs (pos + 1) = rd7 false bs (pos + 1) by simp [rdBody], rd7, e1]
      simp only [Option.bind_some]
      rw [e2]
      simp only [Option.bind_some]
      rw [e3]
      simp [canon, hk, f0]
      omega
    simp [kindOf, er, hcs]
  · have eb : bytesF f = 28 :: vint f.lim := by simp [bytesF, hk, bnum]
    rw [eb] at ha ⊢
    rw [ha.head]
    have e1 := rd_vint (by omega) ha.tail
    have er : rdBody 8 false bs (pos + 1) = some (canon f, pos + (28 :: vint f.lim).length) := by
      rw [show rdBody 8 false bs (pos + 1) = rdNumF 8 false bs (pos + 1) by simp [rdBody], rdNumF, e1]
      simp [canon, hk]
      omega
    simp [kindOf, er, hcs]

/-- Can all be written, and is each text, each list of ranges short? -/
def allOk (fs : List Frm) : Prop := ∀ f ∈ fs, soundF f = true ∧ f.data.length < 4611686018427387904 ∧ f.rngs.length < 4611686018427387904

theorem rd_loop {bs : List UInt8} (num : Nat) : ∀ (fs : List Frm) (fuel pos : Nat) (acc : List Frm), allOk fs → fs.length < fuel → At bs pos (fs.flatMap bytesF) → pos + (fs.flatMap bytesF).length = bs.length →
    rdLoop bs fuel num pos acc = .ok num (acc ++ fs.map canon)
  | [], fuel + 1, pos, acc, _, _, _, he => by
    simp at he
    unfold rdLoop
    rw [if_neg (by omega)]
    simp
  | f :: fs, fuel + 1, pos, acc, hok, hf, ha, he => by
    obtain ⟨k1, k2, k3⟩ := hok f (by simp)
    have hp := bytes_pos f
    simp only [List.flatMap_cons] at ha he
    rw [List.length_append] at he
    unfold rdLoop
    rw [if_pos (by omega), rd_frame k1 k2 k3 ha.left]
    simp only
    rw [rd_loop num fs fuel _ _ (fun g hg => hok g (by simp [hg])) (by simpa using hf) ha.right (by omega)]
    simp

theorem flat_len (fs : List Frm) : fs.length ≤ (fs.flatMap bytesF).length := by
  induction fs with
  | nil => simp
  | cons f fs ih =>
    have := bytes_pos f
    simp only [List.flatMap_cons, List.length_append, List.length_cons]
    omega

theorem dec_body (n : Nat) (fs : List Frm) (hn : n ≤ 4611686018427387903) (h0 : 0 < fs.length) (hok : allOk fs) : decBody (vint n ++ fs.flatMap bytesF) = .ok n (fs.map canon) := by
  have hA : At (vint n ++ fs.flatMap bytesF) 0 (vint n ++ fs.flatMap bytesF) := ⟨[], [], by simp, rfl⟩
  have hl := flat_len fs
  unfold decBody
  rw [rd_vint (by omega) hA.left]
  simp only [List.length_append, Nat.zero_add]
  rw [if_neg (by omega), rd_loop n fs _ _ [] hok (by omega) (by simpa using hA.right) (by simp)]
  simp

theorem be4_sum (l : List UInt8) (s : Nat) (hs : s < 4294967296) : be4 (l ++ sum4 s) l.length = s := by
  unfold be4 byteAt sum4
  simp only [List.getD_eq_getElem?_getD]
  rw [List.getElem?_append_right (by omega), List.getElem?_append_right (by omega), List.getElem?_append_right (by omega), List.getElem?_append_right (by omega)]
  simp [show l.length + 1 - l.length = 1 by omega, show l.length + 2 - l.length = 2 by omega, show l.length + 3 - l.length = 3 by omega]
  omega

theorem dec_sealed (l : List UInt8) : dec (l ++ sum4 (crc l)) = decBody l := by
  have hl : (l ++ sum4 (crc l)).length = l.length + 4 := by simp [sum4]
  unfold dec
  rw [hl, if_neg (by omega), Nat.add_sub_cancel, be4_sum l _ (crc_lt l), List.take_left, if_pos rfl]

theorem xor_can {a b t : Nat} (h : a ^^^ t = b ^^^ t) : a = b := by
  have := congrArg (· ^^^ t) h
  simpa [Nat.xor_assoc] using this

theorem ct_top : ∀ a b : Fin 16, ct a.val / 268435456 = ct b.val / 268435456 → a.val = b.val := by decide +kernel

theorem nib_top (c : Nat) (h : c < 4294967296) : nib c / 268435456 = ct (c % 16) / 268435456 := by
  unfold nib
  have e : ∀ x : Nat, x / 268435456 = x >>> 28 := fun x => by rw [Nat.shiftRight_eq_div_pow]
  rw [e, e, Nat.shiftRight_xor_distrib, ← e (c / 16), show c / 16 / 268435456 = 0 by omega, Nat.zero_xor]

theorem nib_inj {c d : Nat} (hc : c < 4294967296) (hd : d < 4294967296) (h : nib c = nib d) : c = d := by
  have e : c % 16 = d % 16 := ct_top ⟨c % 16, by omega⟩ ⟨d % 16, by omega⟩ (by
    show ct (c % 16) / _ = ct (d % 16) / _
    rw [← nib_top c hc, ← nib_top d hd, h])
  unfold nib at h
  rw [e] at h
  have := xor_can h
  omega

theorem crcB_inj {c d : Nat} {x : UInt8} (hc : c < 4294967296) (hd : d < 4294967296) (h : crcB c x = crcB d x) : c = d :=
  xor_can (nib_inj (xor8_lt c x hc) (xor8_lt d x hd) (nib_inj (nib_lt _ (xor8_lt c x hc)) (nib_lt _ (xor8_lt d x hd)) h))

theorem crcB_byte {c : Nat} {x y : UInt8} (hc : c < 4294967296) (h : crcB c x = crcB c y) : x = y := by
  have := nib_inj (xor8_lt c x hc) (xor8_lt c y hc) (nib_inj (nib_lt _ (xor8_lt c x hc)) (nib_lt _ (xor8_lt c y hc)) h)
  rw [Nat.xor_comm c, Nat.xor_comm c] at this
  exact UInt8.toNat_inj.1 (xor_can this)

theorem fold_inj (b : List UInt8) : ∀ c d, c < 4294967296 → d < 4294967296 → b.foldl crcB c = b.foldl crcB d → c = d := by
  induction b with
  | nil => intro c d _ _ h; exact h
  | cons x b ih => intro c d hc hd h; exact crcB_inj hc hd (ih _ _ (crcB_lt c x hc) (crcB_lt d x hd) h)

theorem crc_one {a b : List UInt8} {x y : UInt8} (h : crc (a ++ x :: b) = crc (a ++ y :: b)) : x = y := by
  unfold crc at h
  rw [Nat.xor_comm, Nat.xor_comm 4294967295] at h
  have := xor_can h
  unfold crcL at this
  simp only [List.foldl_append, List.foldl_cons] at this
  have hl := foldl_crc_lt a 4294967295 (by omega)
  exact crcB_byte hl (fold_inj b _ _ (crcB_lt _ _ hl) (crcB_lt _ _ hl) this)

theorem split_at (l : List UInt8) (i : Nat) (h : i < l.length) (y : UInt8) : ∃ a b, l = a ++ l[i] :: b ∧ l.set i y = a ++ y :: b ∧ a.length = i := by
  refine ⟨l.take i, l.drop (i + 1), by simp, ?_, by simp; omega⟩
  rw [List.set_eq_take_append_cons_drop, if_pos h]

/-- One byte of what was sealed has turned: it is seen. -/
theorem dec_turned (l : List UInt8) (i : Nat) (y : UInt8) (hi : i < (l ++ sum4 (crc l)).length) (hy : (l ++ sum4 (crc l))[i] ≠ y) : dec ((l ++ sum4 (crc l)).set i y) = .sum := by
  have hl : (l ++ sum4 (crc l)).length = l.length + 4 := by simp [sum4]
  unfold dec
  rw [List.length_set, hl, if_neg (by omega), Nat.add_sub_cancel, if_neg]
  intro hc
  by_cases h : i < l.length
  · rw [List.set_append_left i y h, List.take_left' (by simp)] at hc
    have hb := be4_sum (l.set i y) (crc l) (crc_lt l)
    rw [List.length_set] at hb
    rw [hb] at hc
    obtain ⟨a, b, e1, e2, e3⟩ := split_at l i h y
    rw [e2] at hc
    have e4 : crc l = crc (a ++ l[i] :: b) := by rw [← e1]
    rw [e4] at hc
    have := crc_one hc
    rw [List.getElem_append_left h] at hy
    exact hy this
  · have e : ∃ s, (l ++ sum4 (crc l)).set i y = l ++ s ∧ s = (sum4 (crc l)).set (i - l.length) y := ⟨_, List.set_append_right i y (by omega), rfl⟩
    obtain ⟨s, e1, e2⟩ := e
    rw [e1, List.take_left] at hc
    have hs : be4 (l ++ s) l.length = be4 s 0 := by
      have hx : s.length = 4 := by rw [e2]; simp [sum4]
      unfold be4 byteAt
      simp only [List.getD_eq_getElem?_getD]
      rw [List.getElem?_append_right (by omega), List.getElem?_append_right (by omega), List.getElem?_append_right (by omega), List.getElem?_append_right (by omega)]
      simp [show l.length + 1 - l.length = 1 by omega, show l.length + 2 - l.length = 2 by omega, show l.length + 3 - l.length = 3 by omega]
    rw [hs] at hc
    have h0 := be4_sum [] (crc l) (crc_lt l)
    simp only [List.nil_append, List.length_nil] at h0
    rw [← h0, e2] at hc
    have hk : i - l.length < 4 := by rw [hl] at hi; omega
    obtain ⟨k, hke⟩ : ∃ k, i - l.length = k := ⟨_, rfl⟩
    rw [List.getElem_append_right (by omega)] at hy
    simp only [hke] at hy hc hk
    have hyl := y.toNat_lt
    have hb : ∀ n, (UInt8.ofNat n).toNat < 256 := fun n => (UInt8.ofNat n).toNat_lt
    unfold sum4 at hc hy
    have hb0 := hb (crc l / 16777216)
    have hb1 := hb (crc l / 65536)
    have hb2 := hb (crc l / 256)
    have hb3 := hb (crc l)
    have hne : ∀ z : UInt8, z ≠ y → z.toNat ≠ y.toNat := fun z h e => h (UInt8.toNat_inj.1 e)
    have hk4 : k = 0 ∨ k = 1 ∨ k = 2 ∨ k = 3 := by omega
    rcases hk4 with rfl | rfl | rfl | rfl
    all_goals
      simp [be4, byteAt, -UInt8.toNat_ofNat'] at hc hy
      have := hne _ hy
      omega

theorem flip_ne (x : UInt8) (j : Nat) (hj : j < 8) : x ^^^ UInt8.ofNat (2 ^ j) ≠ x := by
  intro h
  have : UInt8.ofNat (2 ^ j) = 0 := by
    have h2 := congrArg (x ^^^ ·) h
    simpa [← UInt8.xor_assoc] using h2
  have hk : ∀ k : Fin 8, UInt8.ofNat (2 ^ k.val) ≠ 0 := by decide
  exact hk ⟨j, hj⟩ this

end Go.Proofs.YtddfdpbaiedcjabGreatDoor
/- Arguments that hold packets, opened: what is read lies there as frames with their ranges. -/
namespace Go.Proofs.YtddfdpbaiedcjabGreatDoor
open Go.ChangeShapes Go.WideShapes Go.ChangeAt Go.RowKit Go.Deep

theorem cells_u64 : Tryz.prog.cellsOf 34 = 1 := by kernel_rfl
theorem cells_range : Tryz.prog.cellsOf 110 = 2 := by kernel_rfl
theorem cells_frame : Tryz.prog.cellsOf 48 = 10 := by kernel_rfl
theorem cells_packet : Tryz.prog.cellsOf 37 = 2 := by kernel_rfl

section
variable {H : Type} {enc : TypeId × Value → H} {W : World} {base : Nat} {spare : Nat → Bool} {held : Bool} {fuel : Nat} {cs : List Value} {x : DataW H × List MemPlace}

theorem bulk_one (d : DataW H) : 1 ≤ Rows.uptoBulk d := by
  cases d with
  | lit l => cases l <;> simp [Rows.uptoBulk]
  | nil => simp [Rows.uptoBulk]
  | ptr d => simp [Rows.uptoBulk]
  | slice elems spare => simp [Rows.uptoBulk]
  | agg parts => simp [Rows.uptoBulk]
  | iface t d => simp [Rows.uptoBulk]
  | map entries => simp [Rows.uptoBulk]
  | held h => simp [Rows.uptoBulk]

theorem bulk_len (l : List (DataW H)) : l.length ≤ Rows.uptoBulkAll l := by
  induction l with
  | nil => simp [Rows.uptoBulkAll]
  | cons x r ih => have := bulk_one x; simp only [Rows.uptoBulkAll, List.length_cons]; omega

/-- A number that is read. -/
theorem open_u64 {c : Value} (h : DataW.trod enc Tryz.prog W base spare held fuel 34 [c] = some x) : ∃ n : Nat, c = .int .u64 (n : Int) ∧ n < 18446744073709551616 := by
  obtain ⟨n, e, _, hw⟩ := DataW.trod_int Tryz.underlying34 h
  cases e
  have hw' : (decide ((0 : Int) ≤ n) && decide (n ≤ 18446744073709551615)) = true := hw
  simp only [Bool.and_eq_true, decide_eq_true_eq] at hw'
  exact ⟨n.toNat, by rw [Int.toNat_of_nonneg hw'.1], by omega⟩

theorem open_i64 {c : Value} {t : TypeId} (ht : Tryz.prog.underlying t = some (.int .i64)) (h : DataW.trod enc Tryz.prog W base spare held fuel t [c] = some x) : ∃ n : Int, c = .int .i64 n ∧ -9223372036854775808 ≤ n ∧ n ≤ 9223372036854775807 := by
  obtain ⟨n, e, _, hw⟩ := DataW.trod_int ht h
  cases e
  have hw' : (decide ((-9223372036854775808 : Int) ≤ n) && decide (n ≤ 9223372036854775807)) = true := hw
  simp only [Bool.and_eq_true, decide_eq_true_eq] at hw'
  exact ⟨n, rfl, hw'.1, hw'.2⟩

theorem plain_addr {a : Addr} {k : Nat} {v : Value} (h : W.cell? ((a.add (0 * k)).add 0) = some v) : ∃ g o, a = ⟨g, o, none⟩ := by
  obtain ⟨b, off, spot⟩ := a
  have hs : spot = none := by simpa [Addr.add] using World.cell?_spot h
  subst hs
  exact ⟨b, off, rfl⟩

theorem two_cells {base : Nat} {a : Addr} {n : Nat} {cs : List Value} (h : W.cells? base a n = some cs) : cs.length = n ∧ ∀ i, i < n → W.cell? (a.add i) = cs[i]? := by
  obtain ⟨_, h1, h2⟩ := World.cells?_some h
  exact ⟨h1, h2⟩

set_option maxRecDepth 100000 in
theorem open_ranges (h : DataW.trod enc Tryz.prog W base spare held fuel 46 cs = some x) : ∃ v rs, cs = [v] ∧ RR W v rs ∧ rs.length ≤ Rows.uptoBulk x.1 := by
  rcases open_slice Tryz.underlying46 h with ⟨rfl, rfl⟩ | ⟨a, len, cap, m, n, D, Pl, rfl, hb, hl, hm, hmm, rfl, hx⟩
  · exact ⟨_, [], rfl, ⟨none, 0, rfl, Nat.le_refl _, Nat.zero_le _, fun i hi => absurd hi (Nat.not_lt_zero i)⟩, Nat.zero_le _⟩
  · have hle : len ≤ m := by rw [hmm]; split <;> omega
    have key : ∀ i, i < len → ∃ r : Nat × Nat, ∃ g o, a = ⟨g, o, none⟩ ∧ W.cell? ⟨g, o + i * 2, none⟩ = some (.int .u64 (r.1 : Int)) ∧ W.cell? ⟨g, o + i * 2 + 1, none⟩ = some (.int .u64 (r.2 : Int)) ∧ r.1 < 18446744073709551616 ∧ r.2 < 18446744073709551616 := by
      intro i hi
      obtain ⟨cs', h1, h2⟩ := hx i (by omega)
      obtain ⟨c0', hz, _⟩ := hx 0 (by omega)
      rw [cells_range] at h1 hz
      obtain ⟨hlen, hc⟩ := two_cells h1
      obtain ⟨hlenz, hcz⟩ := two_cells hz
      obtain ⟨g, o, rfl⟩ : ∃ g o, a = ⟨g, o, none⟩ := by
        have h0 := hcz 0 (by omega)
        rw [List.getElem?_eq_getElem (by omega)] at h0
        exact plain_addr h0
      match cs', hlen, h2, hc with
      | [c0, c1], _, h2, hc =>
        obtain ⟨y0, y1, n', _, _, e0, e1⟩ := trod_struct2 Tryz.underlying110 h2
        simp only [List.drop_zero, List.drop_succ_cons] at e0 e1
        rw [cells_u64] at e0 e1
        obtain ⟨lo, rfl, b0⟩ := open_u64 e0
        obtain ⟨hi', rfl, b1⟩ := open_u64 e1
        have k0 := hc 0 (by omega)
        have k1 := hc 1 (by omega)
        simp only [addr_add] at k0 k1
        exact ⟨(lo, hi'), g, o, rfl, k0, k1, b0, b1⟩
    obtain ⟨R, hR⟩ := choose_lt (α := Nat × Nat) key
    refine ⟨_, (List.range len).map R, rfl, ⟨some a, cap, by simp, by simpa using hl, hm, fun i hi => ?_⟩, ?_⟩
    · have hi : i < len := by simpa using hi
      obtain ⟨g, o, rfl, q1, q2, q3, q4⟩ := hR i hi
      have e1 : loAt ((List.range len).map R) i = (R i).1 := by simp [loAt, List.getD, hi]
      have e2 : hiAt ((List.range len).map R) i = (R i).2 := by simp [hiAt, List.getD, hi]
      rw [e1, e2]
      exact ⟨g, o, rfl, q1, q2, q3, q4⟩
    · have := bulk_len ((List.range len).map D)
      simp only [Rows.uptoBulk]
      simp only [List.length_map, List.length_range] at this ⊢
      omega

set_option maxRecDepth 100000 in
theorem open_frame (h : DataW.trod enc Tryz.prog W base spare held fuel 48 cs = some x) : ∃ f rv, cs = (frCells f rv).toList ∧ RR W rv f.rngs ∧ f.data.length + f.rngs.length + 1 ≤ Rows.uptoBulk x.1 := by
  obtain ⟨xs, n, _, rfl, hl, hxs, hf⟩ := DataW.trod_struct Tryz.underlying48 h
  rw [cells_frame] at hl
  have cI : Tryz.prog.cellsOf 3 = 1 := by kernel_rfl
  have cB : Tryz.prog.cellsOf 4 = 1 := by kernel_rfl
  have cS : Tryz.prog.cellsOf 9 = 1 := by kernel_rfl
  have cR : Tryz.prog.cellsOf 46 = 1 := by kernel_rfl
  match cs, hl, xs, hxs with
  | [c0, c1, c2, c3, c4, c5, c6, c7, c8, c9], _, [x0, x1, x2, x3, x4, x5, x6, x7, x8, x9], _ =>
    have f0 : DataW.trod enc Tryz.prog W base spare held n 3 [c0] = some x0 := by
      have q : DataW.trod enc Tryz.prog W base spare held n 3 (([c0, c1, c2, c3, c4, c5, c6, c7, c8, c9].drop 0).take (Tryz.prog.cellsOf 3)) = some x0 := hf 0 _ rfl
      rw [cI] at q
      exact q
    have f1 : DataW.trod enc Tryz.prog W base spare held n 3 [c1] = some x1 := by
      have q : DataW.trod enc Tryz.prog W base spare held n 3 (([c0, c1, c2, c3, c4, c5, c6, c7, c8, c9].drop 1).take (Tryz.prog.cellsOf 3)) = some x1 := hf 1 _ rfl
      rw [cI] at q
      exact q
    have f2 : DataW.trod enc Tryz.prog W base spare held n 34 [c2] = some x2 := by
      have q : DataW.trod enc Tryz.prog W base spare held n 34 (([c0, c1, c2, c3, c4, c5, c6, c7, c8, c9].drop 2).take (Tryz.prog.cellsOf 34)) = some x2 := hf 2 _ rfl
      rw [cells_u64] at q
      exact q
    have f3 : DataW.trod enc Tryz.prog W base spare held n 34 [c3] = some x3 := by
      have q : DataW.trod enc Tryz.prog W base spare held n 34 (([c0, c1, c2, c3, c4, c5, c6, c7, c8, c9].drop 3).take (Tryz.prog.cellsOf 34)) = some x3 := hf 3 _ rfl
      rw [cells_u64] at q
      exact q
    have f4 : DataW.trod enc Tryz.prog W base spare held n 34 [c4] = some x4 := by
      have q : DataW.trod enc Tryz.prog W base spare held n 34 (([c0, c1, c2, c3, c4, c5, c6, c7, c8, c9].drop 4).take (Tryz.prog.cellsOf 34)) = some x4 := hf 4 _ rfl
      rw [cells_u64] at q
      exact q
    have f5 : DataW.trod enc Tryz.prog W base spare held n 4 [c5] = some x5 := by
      have q : DataW.trod enc Tryz.prog W base spare held n 4 (([c0, c1, c2, c3, c4, c5, c6, c7, c8, c9].drop 5).take (Tryz.prog.cellsOf 4)) = some x5 := hf 5 _ rfl
      rw [cB] at q
      exact q
    have f6 : DataW.trod enc Tryz.prog W base spare held n 34 [c6] = some x6 := by
      have q : DataW.trod enc Tryz.prog W base spare held n 34 (([c0, c1, c2, c3, c4, c5, c6, c7, c8, c9].drop 6).take (Tryz.prog.cellsOf 34)) = some x6 := hf 6 _ rfl
      rw [cells_u64] at q
      exact q
    have f7 : DataW.trod enc Tryz.prog W base spare held n 34 [c7] = some x7 := by
      have q : DataW.trod enc Tryz.prog W base spare held n 34 (([c0, c1, c2, c3, c4, c5, c6, c7, c8, c9].drop 7).take (Tryz.prog.cellsOf 34)) = some x7 := hf 7 _ rfl
      rw [cells_u64] at q
      exact q
    have f8 : DataW.trod enc Tryz.prog W base spare held n 9 [c8] = some x8 := by
      have q : DataW.trod enc Tryz.prog W base spare held n 9 (([c0, c1, c2, c3, c4, c5, c6, c7, c8, c9].drop 8).take (Tryz.prog.cellsOf 9)) = some x8 := hf 8 _ rfl
      rw [cS] at q
      exact q
    have f9 : DataW.trod enc Tryz.prog W base spare held n 46 [c9] = some x9 := by
      have q : DataW.trod enc Tryz.prog W base spare held n 46 (([c0, c1, c2, c3, c4, c5, c6, c7, c8, c9].drop 9).take (Tryz.prog.cellsOf 46)) = some x9 := hf 9 _ rfl
      rw [cR] at q
      exact q
    obtain ⟨k, rfl, _, _⟩ := open_i64 Tryz.underlying3 f0
    obtain ⟨s, rfl, _, _⟩ := open_i64 Tryz.underlying3 f1
    obtain ⟨n2, rfl, _⟩ := open_u64 f2
    obtain ⟨n3, rfl, _⟩ := open_u64 f3
    obtain ⟨n4, rfl, _⟩ := open_u64 f4
    obtain ⟨b, e5, _⟩ := DataW.trod_bool Tryz.underlying4 f5
    obtain ⟨n6, rfl, _⟩ := open_u64 f6
    obtain ⟨n7, rfl, _⟩ := open_u64 f7
    obtain ⟨d, e8, hx8, _⟩ := DataW.trod_string Tryz.underlying9 f8
    obtain ⟨rv, rs, e9, hrr, hbr⟩ := open_ranges f9
    cases e5
    cases e8
    cases e9
    have hx8' : x8 = (.lit (.string d.data.toList), []) := by simpa using hx8
    have hx9 : (some x9).get rfl = x9 := rfl
    refine ⟨{ kind := k, stream := s, off := n2, rel := n3, lim := n4, fin := b, id := n6, dl := n7, data := d.data.toList, rngs := rs }, c9, ?_, hrr, ?_⟩
    · have hd : strOf d.data.toList = d := by simp [strOf]
      show _ = [Value.int .i64 k, .int .i64 s, .int .u64 (n2 : Int), .int .u64 (n3 : Int), .int .u64 (n4 : Int), .bool b, .int .u64 (n6 : Int), .int .u64 (n7 : Int), .string (strOf d.data.toList), c9]
      rw [hd]
    · have := bulk_one x0.1
      subst hx8'
      simp only [List.map_cons, List.map_nil, Rows.uptoBulk, Rows.uptoBulkAll]
      omega

/-- The bulk of frames. -/
def bulkF (fs : List (Frm × Value)) : Nat := (fs.map fun fr => fr.1.data.length + fr.1.rngs.length + 1).sum

instance : Inhabited Frm := ⟨{ kind := 0, stream := 0, off := 0, rel := 0, lim := 0, fin := false, id := 0, dl := 0, data := [], rngs := [] }⟩
instance : Inhabited Value := ⟨.nilIface⟩

set_option maxRecDepth 100000 in
theorem open_frames (h : DataW.trod enc Tryz.prog W base spare held fuel 35 cs = some x) : ∃ v fs, cs = [v] ∧ FrsAt W v fs ∧ bulkF fs ≤ Rows.uptoBulk x.1 := by
  rcases open_slice Tryz.underlying35 h with ⟨rfl, rfl⟩ | ⟨a, len, cap, m, n, D, Pl, rfl, hb, hl, hm, hmm, rfl, hx⟩
  · exact ⟨_, [], rfl, ⟨none, 0, rfl, Nat.le_refl _, Nat.zero_le _, fun i fr hi => by simp at hi⟩, Nat.zero_le _⟩
  · have hle : len ≤ m := by rw [hmm]; split <;> omega
    have key : ∀ i, i < len → ∃ fr : Frm × Value, (∃ g o, a = ⟨g, o, none⟩ ∧ ∀ j y, (frCells fr.1 fr.2)[j]? = some y → W.cell? ⟨g, o + i * 10 + j, none⟩ = some y) ∧ RR W fr.2 fr.1.rngs ∧ fr.1.data.length + fr.1.rngs.length + 1 ≤ Rows.uptoBulk (D i) := by
      intro i hi
      obtain ⟨cs', h1, h2⟩ := hx i (by omega)
      obtain ⟨c0', hz, _⟩ := hx 0 (by omega)
      rw [cells_frame] at h1 hz
      obtain ⟨hlen, hc⟩ := two_cells h1
      obtain ⟨hlenz, hcz⟩ := two_cells hz
      obtain ⟨g, o, rfl⟩ : ∃ g o, a = ⟨g, o, none⟩ := by
        have h0 := hcz 0 (by omega)
        rw [List.getElem?_eq_getElem (by omega)] at h0
        exact plain_addr h0
      obtain ⟨f, rv, rfl, hrr, hbk⟩ := open_frame h2
      refine ⟨(f, rv), ⟨g, o, rfl, fun j y hy => ?_⟩, hrr, hbk⟩
      have hj : j < 10 := (Array.getElem?_eq_some_iff.1 hy).1
      have := hc j hj
      rw [addr_add, addr_add, Array.getElem?_toList] at this
      rw [this]
      exact hy
    obtain ⟨F, hF⟩ := choose_lt (α := Frm × Value) key
    refine ⟨_, (List.range len).map F, rfl, ⟨some a, cap, by simp, by simpa using hl, hm, fun i fr hi => ?_⟩, ?_⟩
    · have hil : i < len := by
        have := (List.getElem?_eq_some_iff.1 hi).1
        simpa using this
      have hfr : fr = F i := by
        simp [hil] at hi
        exact hi.symm
      subst hfr
      obtain ⟨⟨g, o, rfl, q1⟩, q2, _⟩ := hF i hil
      exact ⟨⟨g, o, rfl, q1⟩, q2⟩
    · have : ∀ k, k ≤ len → (((List.range k).map F).map fun fr => fr.1.data.length + fr.1.rngs.length + 1).sum ≤ Rows.uptoBulkAll ((List.range k).map D) := by
        have hap : ∀ l r : List (DataW H), Rows.uptoBulkAll (l ++ r) = Rows.uptoBulkAll l + Rows.uptoBulkAll r := by
          intro l r
          induction l with
          | nil => simp [Rows.uptoBulkAll]
          | cons x l ih => simp only [List.cons_append, Rows.uptoBulkAll, ih]; omega
        intro k
        induction k with
        | zero => intro _; simp [Rows.uptoBulkAll]
        | succ k ih =>
          intro hk
          have h1 := ih (by omega)
          have h2 := (hF k (by omega)).2.2
          simp only [List.range_succ, List.map_append, List.sum_append, hap, List.map_cons, List.map_nil, List.sum_cons, List.sum_nil, Rows.uptoBulkAll]
          omega
      have := this len (Nat.le_refl _)
      simp only [Rows.uptoBulk, bulkF]
      omega

set_option maxRecDepth 100000 in
theorem open_packet (h : DataW.trod enc Tryz.prog W base spare held fuel 37 cs = some x) : ∃ (n : Nat) (v : Value) (fs : List (Frm × Value)), cs = [.int .u64 (n : Int), v] ∧ n < 18446744073709551616 ∧ FrsAt W v fs ∧ bulkF fs ≤ Rows.uptoBulk x.1 := by
  obtain ⟨y0, y1, n', rfl, hl, e0, e1⟩ := trod_struct2 Tryz.underlying37 h
  rw [cells_packet] at hl
  have cF : Tryz.prog.cellsOf 35 = 1 := by kernel_rfl
  match cs, hl with
  | [c0, c1], _ =>
    simp only [List.drop_zero, List.drop_succ_cons, cF, cells_u64, List.take_succ_cons, List.take_zero] at e0 e1
    obtain ⟨n, rfl, hn⟩ := open_u64 e0
    obtain ⟨v, fs, e, hfs, hbk⟩ := open_frames e1
    cases e
    refine ⟨n, _, fs, rfl, hn, hfs, ?_⟩
    simp only [Rows.uptoBulk, Rows.uptoBulkAll]
    omega
end

/-- How many bytes frames take. -/
theorem bytesF_len (f : Frm) : (bytesF f).length ≤ 32 * (f.data.length + f.rngs.length + 1) := by
  have hv := vint_lt8
  unfold bytesF
  repeat' split
  all_goals simp only [bwrite2, bwrite3, bwrite4, bwrite4f, bwrite6, bwrite7, bnum, List.length_append, List.length_cons, List.length_nil]
  · omega
  · have h1 := hv (hiAt f.rngs 0)
    have h2 := hv (f.rngs.length - 1)
    have h3 := hv (hiAt f.rngs 0 - loAt f.rngs 0)
    have h4 := ackB_length f.rngs (f.rngs.length - 1)
    omega
  all_goals
    have h1 := hv f.stream.toNat
    have h2 := hv f.off
    have h3 := hv f.rel
    have h4 := hv f.lim
    have h5 := hv f.id
    have h6 := hv f.dl
    have h7 := hv f.data.length
    omega

theorem flat_le (fs : List (Frm × Value)) : ((fs.map (·.1)).flatMap bytesF).length ≤ 32 * bulkF fs ∧ fs.length ≤ bulkF fs ∧ ∀ fr ∈ fs, fr.1.data.length ≤ bulkF fs ∧ fr.1.rngs.length ≤ bulkF fs := by
  unfold bulkF
  induction fs with
  | nil => simp
  | cons f fs ih =>
    obtain ⟨h1, h2, h3⟩ := ih
    have := bytesF_len f.1
    simp only [List.map_cons, List.flatMap_cons, List.length_append, List.length_cons, List.sum_cons]
    refine ⟨by omega, by omega, fun fr hfr => ?_⟩
    rcases List.mem_cons.1 hfr with rfl | hfr
    · omega
    · have := h3 fr hfr
      omega
end Go.Proofs.YtddfdpbaiedcjabGreatDoor
/- Scripts: a list of steps, each with a text and a packet; opened. -/
namespace Go.Proofs.YtddfdpbaiedcjabGreatDoor
open Go.ChangeShapes Go.WideShapes Go.ChangeAt Go.RowKit Go.Deep

/-- A step of a script. -/
structure Stp where
  kind : Int
  a : Int
  b : Int
  c : Int
  s : List UInt8
  n : Nat
  fs : List (Frm × Value)
  fv : Value

def stCells (o : Stp) : Array Value := #[.int .i64 o.kind, .int .i64 o.a, .int .i64 o.b, .int .i64 o.c, .string (strOf o.s), .int .u64 (o.n : Int), o.fv]

/-- Its numbers are numbers. -/
def Stp.Wf (o : Stp) : Prop := -9223372036854775808 ≤ o.a ∧ o.a ≤ 9223372036854775807 ∧ -9223372036854775808 ≤ o.b ∧ o.b ≤ 9223372036854775807 ∧ -9223372036854775808 ≤ o.c ∧ o.c ≤ 9223372036854775807 ∧ o.n < 18446744073709551616

def bulkS (l : List Stp) : Nat := (l.map fun o => o.s.length + bulkF o.fs + 1).sum

/-- The steps lie there, each with its frames. -/
def ScrAt (w : World) (v : Value) (l : List Stp) : Prop :=
  ∃ a cap, v = .slice a l.length cap ∧ l.length ≤ cap ∧ cap ≤ maxLen ∧ ∀ i o, l[i]? = some o →
    (∃ g off, a = some ⟨g, off, none⟩ ∧ ∀ j x, (stCells o)[j]? = some x → w.cell? ⟨g, off + i * 7 + j, none⟩ = some x) ∧ FrsAt w o.fv o.fs ∧ o.Wf

theorem ScrAt.mod0 {w w' : World} {v : Value} {l : List Stp} (h : ScrAt w v l) (m : Mod NoB w w') : ScrAt w' v l := by
  obtain ⟨a, cap, rfl, h1, h2, h3⟩ := h
  refine ⟨a, cap, rfl, h1, h2, fun i o hi => ?_⟩
  obtain ⟨⟨g, off, rfl, hc⟩, hf, hw⟩ := h3 i o hi
  exact ⟨⟨g, off, rfl, fun j x hx => m.cell (a := ⟨g, _, none⟩) (fun x => x) (hc j x hx)⟩, hf.mod0 m, hw⟩

theorem st_cells {w : World} {g b : Nat} {o : Stp} (h : ∀ j x, (stCells o)[j]? = some x → w.cell? ⟨g, b + j, none⟩ = some x) :
    w.cell? ⟨g, b, none⟩ = some (.int .i64 o.kind) ∧ w.cell? ⟨g, b + 1, none⟩ = some (.int .i64 o.a) ∧ w.cell? ⟨g, b + 2, none⟩ = some (.int .i64 o.b) ∧ w.cell? ⟨g, b + 3, none⟩ = some (.int .i64 o.c) ∧
    w.cell? ⟨g, b + 4, none⟩ = some (.string (strOf o.s)) ∧ w.cell? ⟨g, b + 5, none⟩ = some (.int .u64 (o.n : Int)) ∧ w.cell? ⟨g, b + 6, none⟩ = some o.fv :=
  ⟨h 0 _ rfl, h 1 _ rfl, h 2 _ rfl, h 3 _ rfl, h 4 _ rfl, h 5 _ rfl, h 6 _ rfl⟩

theorem cells_step : Tryz.prog.cellsOf 39 = 7 := by kernel_rfl

section
variable {H : Type} {enc : TypeId × Value → H} {W : World} {base : Nat} {spare : Nat → Bool} {held : Bool} {fuel : Nat} {cs : List Value} {x : DataW H × List MemPlace}

set_option maxRecDepth 100000 in
theorem open_step (h : DataW.trod enc Tryz.prog W base spare held fuel 39 cs = some x) : ∃ o : Stp, cs = (stCells o).toList ∧ FrsAt W o.fv o.fs ∧ o.Wf ∧ o.s.length + bulkF o.fs + 1 ≤ Rows.uptoBulk x.1 := by
  obtain ⟨xs, n, _, rfl, hl, hxs, hf⟩ := DataW.trod_struct Tryz.underlying39 h
  rw [cells_step] at hl
  have cI : Tryz.prog.cellsOf 3 = 1 := by kernel_rfl
  have cS : Tryz.prog.cellsOf 9 = 1 := by kernel_rfl
  match cs, hl, xs, hxs with
  | [c0, c1, c2, c3, c4, c5, c6], _, [x0, x1, x2, x3, x4, x5], _ =>
    have f0 : DataW.trod enc Tryz.prog W base spare held n 3 [c0] = some x0 := by
      have q : DataW.trod enc Tryz.prog W base spare held n 3 (([c0, c1, c2, c3, c4, c5, c6].drop 0).take (Tryz.prog.cellsOf 3)) = some x0 := hf 0 _ rfl
      rw [cI] at q
      exact q
    have f1 : DataW.trod enc Tryz.prog W base spare held n 3 [c1] = some x1 := by
      have q : DataW.trod enc Tryz.prog W base spare held n 3 (([c0, c1, c2, c3, c4, c5, c6].drop 1).take (Tryz.prog.cellsOf 3)) = some x1 := hf 1 _ rfl
      rw [cI] at q
      exact q
    have f2 : DataW.trod enc Tryz.prog W base spare held n 3 [c2] = some x2 := by
      have q : DataW.trod enc Tryz.prog W base spare held n 3 (([c0, c1, c2, c3, c4, c5, c6].drop 2).take (Tryz.prog.cellsOf 3)) = some x2 := hf 2 _ rfl
      rw [cI] at q
      exact q
    have f3 : DataW.trod enc Tryz.prog W base spare held n 3 [c3] = some x3 := by
      have q : DataW.trod enc Tryz.prog W base spare held n 3 (([c0, c1, c2, c3, c4, c5, c6].drop 3).take (Tryz.prog.cellsOf 3)) = some x3 := hf 3 _ rfl
      rw [cI] at q
      exact q
    have f4 : DataW.trod enc Tryz.prog W base spare held n 9 [c4] = some x4 := by
      have q : DataW.trod enc Tryz.prog W base spare held n 9 (([c0, c1, c2, c3, c4, c5, c6].drop 4).take (Tryz.prog.cellsOf 9)) = some x4 := hf 4 _ rfl
      rw [cS] at q
      exact q
    have f5 : DataW.trod enc Tryz.prog W base spare held n 37 [c5, c6] = some x5 := by
      have q : DataW.trod enc Tryz.prog W base spare held n 37 (([c0, c1, c2, c3, c4, c5, c6].drop 5).take (Tryz.prog.cellsOf 37)) = some x5 := hf 5 _ rfl
      rw [cells_packet] at q
      exact q
    obtain ⟨k, rfl, _, _⟩ := open_i64 Tryz.underlying3 f0
    obtain ⟨a, rfl, a1, a2⟩ := open_i64 Tryz.underlying3 f1
    obtain ⟨b, rfl, b1, b2⟩ := open_i64 Tryz.underlying3 f2
    obtain ⟨c, rfl, c1, c2⟩ := open_i64 Tryz.underlying3 f3
    obtain ⟨d, e4, hx4, _⟩ := DataW.trod_string Tryz.underlying9 f4
    obtain ⟨m, v, fs, e5, hm, hfs, hbk⟩ := open_packet f5
    cases e4
    cases e5
    have hx4' : x4 = (.lit (.string d.data.toList), []) := by simpa using hx4
    refine ⟨{ kind := k, a := a, b := b, c := c, s := d.data.toList, n := m, fs := fs, fv := c6 }, ?_, hfs, ⟨a1, a2, b1, b2, c1, c2, hm⟩, ?_⟩
    · have hd : strOf d.data.toList = d := by simp [strOf]
      show _ = [Value.int .i64 k, .int .i64 a, .int .i64 b, .int .i64 c, .string (strOf d.data.toList), .int .u64 (m : Int), c6]
      rw [hd]
    · have := bulk_one x0.1
      subst hx4'
      simp only [List.map_cons, List.map_nil, Rows.uptoBulk, Rows.uptoBulkAll]
      omega

instance : Inhabited Stp := ⟨{ kind := 0, a := 0, b := 0, c := 0, s := [], n := 0, fs := [], fv := .nilIface }⟩

set_option maxRecDepth 100000 in
theorem open_script (h : DataW.trod enc Tryz.prog W base spare held fuel 22 cs = some x) : ∃ v l, cs = [v] ∧ ScrAt W v l ∧ bulkS l ≤ Rows.uptoBulk x.1 := by
  rcases open_slice Tryz.underlying22 h with ⟨rfl, rfl⟩ | ⟨a, len, cap, m, n, D, Pl, rfl, hb, hl, hm, hmm, rfl, hx⟩
  · exact ⟨_, [], rfl, ⟨none, 0, rfl, Nat.le_refl _, Nat.zero_le _, fun i fr hi => by simp at hi⟩, Nat.zero_le _⟩
  · have hle : len ≤ m := by rw [hmm]; split <;> omega
    have key : ∀ i, i < len → ∃ o : Stp, (∃ g off, a = ⟨g, off, none⟩ ∧ ∀ j y, (stCells o)[j]? = some y → W.cell? ⟨g, off + i * 7 + j, none⟩ = some y) ∧ FrsAt W o.fv o.fs ∧ o.Wf ∧ o.s.length + bulkF o.fs + 1 ≤ Rows.uptoBulk (D i) := by
      intro i hi
      obtain ⟨cs', h1, h2⟩ := hx i (by omega)
      obtain ⟨c0', hz, _⟩ := hx 0 (by omega)
      rw [cells_step] at h1 hz
      obtain ⟨hlen, hc⟩ := two_cells h1
      obtain ⟨hlenz, hcz⟩ := two_cells hz
      obtain ⟨g, off, rfl⟩ : ∃ g off, a = ⟨g, off, none⟩ := by
        have h0 := hcz 0 (by omega)
        rw [List.getElem?_eq_getElem (by omega)] at h0
        exact plain_addr h0
      obtain ⟨o, rfl, hf, hw, hbk⟩ := open_step h2
      refine ⟨o, ⟨g, off, rfl, fun j y hy => ?_⟩, hf, hw, hbk⟩
      have hj : j < 7 := (Array.getElem?_eq_some_iff.1 hy).1
      have := hc j hj
      rw [addr_add, addr_add, Array.getElem?_toList] at this
      rw [this]
      exact hy
    obtain ⟨F, hF⟩ := choose_lt (α := Stp) key
    refine ⟨_, (List.range len).map F, rfl, ⟨some a, cap, by simp, by simpa using hl, hm, fun i o hi => ?_⟩, ?_⟩
    · have hil : i < len := by
        have := (List.getElem?_eq_some_iff.1 hi).1
        simpa using this
      have hfr : o = F i := by
        simp [hil] at hi
        exact hi.symm
      subst hfr
      obtain ⟨⟨g, off, rfl, q1⟩, q2, q3, _⟩ := hF i hil
      exact ⟨⟨g, off, rfl, q1⟩, q2, q3⟩
    · have : ∀ k, k ≤ len → (((List.range k).map F).map fun o => o.s.length + bulkF o.fs + 1).sum ≤ Rows.uptoBulkAll ((List.range k).map D) := by
        have hap : ∀ l r : List (DataW H), Rows.uptoBulkAll (l ++ r) = Rows.uptoBulkAll l + Rows.uptoBulkAll r := by
          intro l r
          induction l with
          | nil => simp [Rows.uptoBulkAll]
          | cons x l ih => simp only [List.cons_append, Rows.uptoBulkAll, ih]; omega
        intro k
        induction k with
        | zero => intro _; simp [Rows.uptoBulkAll]
        | succ k ih =>
          intro hk
          have h1 := ih (by omega)
          have h2 := (hF k (by omega)).2.2.2
          simp only [List.range_succ, List.map_append, List.sum_append, hap, List.map_cons, List.map_nil, List.sum_cons, List.sum_nil, Rows.uptoBulkAll]
          omega
      have := this len (Nat.le_refl _)
      simp only [Rows.uptoBulk, bulkS]
      omega
end

theorem bulkS_le (l : List Stp) : l.length ≤ bulkS l ∧ ∀ o ∈ l, o.s.length ≤ bulkS l ∧ bulkF o.fs ≤ bulkS l := by
  unfold bulkS
  induction l with
  | nil => simp
  | cons x l ih =>
    obtain ⟨h1, h2⟩ := ih
    simp only [List.map_cons, List.length_cons, List.sum_cons]
    refine ⟨by omega, fun o ho => ?_⟩
    rcases List.mem_cons.1 ho with rfl | ho
    · omega
    · have := h2 o ho
      omega
end Go.Proofs.YtddfdpbaiedcjabGreatDoor
