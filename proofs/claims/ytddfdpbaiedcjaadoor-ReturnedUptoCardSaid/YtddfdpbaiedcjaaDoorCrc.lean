/- wire.Sum, wire.Seal: the sum of bytes; the table is a package variable that the contracts find in memory. -/
import Derived.Test.YtddfdpbaiedcjaaDoorWire1
import Derived.Laws.Bits64
namespace Go.Proofs.YtddfdpbaiedcjaaDoor
open Go.RowKit

theorem u32_wrap (n : Int) : IntKind.u32.wrap n = n % 4294967296 := by simp [IntKind.wrap, IntKind.bits, IntKind.signed]

theorem u32_xor (a b : Nat) (ha : a < 4294967296) (hb : b < 4294967296) : bits .xor .u32 (a : Int) (b : Int) = ((a ^^^ b : Nat) : Int) := by
  have hx : a ^^^ b < 2 ^ 32 := Nat.xor_lt_two_pow (by omega) (by omega)
  have h1 : (BitVec.ofInt 32 (a : Int)).toNat = a := by
    rw [BitVec.ofInt_natCast, BitVec.toNat_ofNat]; exact Nat.mod_eq_of_lt (by omega)
  have h2 : (BitVec.ofInt 32 (b : Int)).toNat = b := by
    rw [BitVec.ofInt_natCast, BitVec.toNat_ofNat]; exact Nat.mod_eq_of_lt (by omega)
  show IntKind.u32.wrap ((BitVec.ofInt 32 (a : Int) ^^^ BitVec.ofInt 32 (b : Int)).toNat : Int) = _
  rw [BitVec.toNat_xor, h1, h2, u32_wrap]
  omega

theorem u32_and (a b : Nat) (ha : a < 4294967296) (hb : b < 4294967296) : bits .and .u32 (a : Int) (b : Int) = ((a &&& b : Nat) : Int) := by
  have hx : a &&& b < 2 ^ 32 := Nat.and_lt_two_pow _ (by omega)
  have h1 : (BitVec.ofInt 32 (a : Int)).toNat = a := by
    rw [BitVec.ofInt_natCast, BitVec.toNat_ofNat]; exact Nat.mod_eq_of_lt (by omega)
  have h2 : (BitVec.ofInt 32 (b : Int)).toNat = b := by
    rw [BitVec.ofInt_natCast, BitVec.toNat_ofNat]; exact Nat.mod_eq_of_lt (by omega)
  show IntKind.u32.wrap ((BitVec.ofInt 32 (a : Int) &&& BitVec.ofInt 32 (b : Int)).toNat : Int) = _
  rw [BitVec.toNat_and, h1, h2, u32_wrap]
  omega

theorem u32_and15 (a : Nat) (ha : a < 4294967296) : bits .and .u32 (a : Int) 15 = ((a % 16 : Nat) : Int) := by
  have := u32_and a 15 ha (by omega)
  rw [show a &&& 15 = a % 16 from Nat.and_two_pow_sub_one_eq_mod a 4] at this
  exact this

def ctab : List Nat := [0, 498536548, 997073096, 651767980, 1994146192, 1802195444, 1303535960, 1342533948, 3988292384, 4027552580, 3604390888, 3412177804, 2607071920, 2262029012, 2685067896, 3183342108]
def ct (i : Nat) : Nat := ctab.getD i 0

theorem ct_lt (i : Nat) : ct i < 4294967296 := by
  unfold ct
  by_cases h : i < 16
  · have : ∀ j : Fin 16, ctab.getD j.val 0 < 4294967296 := by decide
    exact this ⟨i, h⟩
  · rw [List.getD_eq_getElem?_getD, List.getElem?_eq_none (by simp [ctab]; omega)]
    decide

def nib (c : Nat) : Nat := (c / 16) ^^^ ct (c % 16)
def crcB (c : Nat) (x : UInt8) : Nat := nib (nib (c ^^^ x.toNat))
def crcL (l : List UInt8) : Nat := l.foldl crcB 4294967295
/-- The sum: CRC-32. -/
def crc (l : List UInt8) : Nat := 4294967295 ^^^ crcL l

theorem nib_lt (c : Nat) (h : c < 4294967296) : nib c < 4294967296 := Nat.xor_lt_two_pow (n := 32) (by omega) (ct_lt _)
theorem xor8_lt (c : Nat) (x : UInt8) (h : c < 4294967296) : c ^^^ x.toNat < 4294967296 := Nat.xor_lt_two_pow (n := 32) h (by have := x.toNat_lt; omega)
theorem crcB_lt (c : Nat) (x : UInt8) (h : c < 4294967296) : crcB c x < 4294967296 := nib_lt _ (nib_lt _ (xor8_lt c x h))
theorem crcL_snoc (l : List UInt8) (x : UInt8) : crcL (l ++ [x]) = crcB (crcL l) x := by simp [crcL]
theorem foldl_crc_lt (l : List UInt8) : ∀ c, c < 4294967296 → l.foldl crcB c < 4294967296 := by
  induction l with
  | nil => intro c h; exact h
  | cons x l ih => intro c h; exact ih _ (crcB_lt c x h)
theorem crcL_lt (l : List UInt8) : crcL l < 4294967296 := foldl_crc_lt l _ (by omega)

/-- Bytes that can be read there. -/
def BR (w : World) (v : Value) (l : List UInt8) : Prop :=
  ∃ a cap, v = .slice a l.length cap ∧ l.length ≤ cap ∧ cap ≤ maxLen ∧ ∀ i c, l[i]? = some c → ∃ g o, a = some ⟨g, o, none⟩ ∧ w.cell? ⟨g, o + i, none⟩ = some (.int .u8 (c.toNat : Int))

theorem OB.br {w : World} {v : Value} {l : List UInt8} (h : OB w v l) : BR w v l := by
  obtain ⟨a, cap, rfl, h1, h2, h3⟩ := own_form h
  refine ⟨a, cap, rfl, h1, h2, fun i c hc => ?_⟩
  have hi : i < l.length := (List.getElem?_eq_some_iff.1 hc).1
  obtain ⟨g, rfl⟩ := h3 (by omega)
  refine ⟨g, 0, rfl, ?_⟩
  have := h.cells (g := g) rfl i (.int .u8 (c.toNat : Int)) (by simp [bcells, hc])
  rwa [addr_add] at this

/-- The table lies where the program has it. -/
def Tab (w : World) : Prop := ∀ i, i < 16 → w.cell? ⟨1, i, none⟩ = some (.int .u32 (ct i : Int))

theorem Tab.mod {S : Nat → Prop} {w w' : World} (h : Tab w) (m : Mod S w w') (hs : ¬ S 1) : Tab w' := fun i hi => m.cell (a := ⟨1, i, none⟩) hs (h i hi)
theorem Tab.lt {w : World} (h : Tab w) : 1 < w.heap.size := lt_of_cell (h 0 (by omega))

theorem take_succ_at (l : List UInt8) (k : Nat) (c : UInt8) (h : l[k]? = some c) : l.take (k + 1) = l.take k ++ [c] := by
  rw [List.take_add_one, h]
  rfl

set_option maxHeartbeats 400000 in
theorem sum_any (v : Value) (l : List UInt8) (w : World) (h : BR w v l) (ht : Tab w) :
    Calls Tryd.prog 20 #[v] w fun e w' => e = .returned (.int .u32 (crc l : Int)) ∧ w = w' := by
  obtain ⟨a, cap, rfl, h1, h2, h3⟩ := h
  unfold maxLen at h2
  go_enter Tryd.func20, Tryd.ntmps20
  go_wp2_with fail
  go_loop [3, 8] (fun c i => ∃ k : Nat, k ≤ l.length ∧ i = .int .i64 k ∧ c = .int .u32 (crcL (l.take k) : Int)) (fun _ i => l.length - (intOf i).toNat)
  case atStart => exact ⟨0, Nat.zero_le _, rfl, rfl⟩
  case round =>
    obtain ⟨k, hk, rfl, rfl⟩ := hrel
    by_cases hlt : k < l.length
    · obtain ⟨c, hc⟩ : ∃ c, l[k]? = some c := ⟨l[k], List.getElem?_eq_getElem hlt⟩
      obtain ⟨g, o, rfl, hcell⟩ := h3 k c hc
      have HS := hide (congrArg crcL (take_succ_at l k c hc))
      obtain ⟨x, hx⟩ : ∃ x, crcL (l.take k) = x := ⟨_, rfl⟩
      have hxl := crcL_lt (l.take k)
      rw [hx] at hxl
      have HS2 : Hid (crcL (l.take (k + 1)) = crcB x c) := by
        show _ = _
        rw [HS.out, crcL_snoc, hx]
      rw [hx]
      have hcl := c.toNat_lt
      obtain ⟨d, hd⟩ : ∃ d, c.toNat = d := ⟨_, rfl⟩
      rw [hd] at hcell hcl
      have e1 := u32_xor x d hxl (by omega)
      have hy := xor8_lt x c hxl
      rw [hd] at hy
      obtain ⟨y, hy1⟩ : ∃ y, x ^^^ d = y := ⟨_, rfl⟩
      rw [hy1] at e1 hy
      have e2 := u32_and15 y hy
      have t1 := ht (y % 16) (by omega)
      have e3 := u32_xor (y / 16) (ct (y % 16)) (by omega) (ct_lt _)
      have hz := nib_lt y hy
      obtain ⟨z, hz1⟩ : ∃ z, nib y = z := ⟨_, rfl⟩
      rw [show (y / 16 ^^^ ct (y % 16)) = z from hz1] at e3
      rw [hz1] at hz
      have e4 := u32_and15 z hz
      have t2 := ht (z % 16) (by omega)
      have e5 := u32_xor (z / 16) (ct (z % 16)) (by omega) (ct_lt _)
      have HS3 : Hid (crcB x c = (z / 16 ^^^ ct (z % 16))) := by
        show nib (nib (x ^^^ c.toNat)) = _
        rw [hd, hy1, hz1]
        rfl
      rw [show ((y / 16 : Nat) : Int) = (y : Int) / 16 by omega] at e3
      rw [show ((z / 16 : Nat) : Int) = (z : Int) / 16 by omega] at e5
      clear HS hx hd hy1 hz1 h3 ht hc
      go_wp2_with fail
      go_round
      case rel => exact ⟨k + 1, by omega, by go_num, by rw [HS2.out, HS3.out]⟩
      case measure => simp [intOf]; omega
    · have hkl : l.take k = l := List.take_of_length_le (by omega)
      rw [hkl]
      have HE : Hid (bits .xor .u32 IntKind.u32.max (crcL l : Int) = (crc l : Int)) := u32_xor 4294967295 (crcL l) (by omega) (crcL_lt l)
      clear hkl
      go_wp2_with fail
      go_ret
      exact ⟨by rw [HE.out]; rfl, rfl⟩

theorem crc_lt (l : List UInt8) : crc l < 4294967296 := Nat.xor_lt_two_pow (n := 32) (by omega) (crcL_lt l)

/-- The sum's four bytes. -/
def sum4 (s : Nat) : List UInt8 := [UInt8.ofNat (s / 16777216), UInt8.ofNat (s / 65536), UInt8.ofNat (s / 256), UInt8.ofNat s]

set_option maxRecDepth 100000 in
theorem seal_any (v : Value) (l : List UInt8) (w : World) (h : OB w v l) (hl : l.length ≤ 70368744177664) (ht : Tab w) :
    Calls Tryd.prog 19 #[v] w fun e w' => ∃ v', e = .returned v' ∧ App w v l (sum4 (crc l)) v' w' := by
  have hsum := sum_any v l w h.br ht
  have hc := crc_lt l
  obtain ⟨s, hs⟩ : ∃ s, crc l = s := ⟨_, rfl⟩
  rw [hs] at hsum hc
  rw [hs]
  obtain ⟨v', w', hr, happ⟩ := lit_app w v l (sum4 s) #[.int .u8 ((s : Int) / 16777216), .int .u8 ((s : Int) / 65536 % 256), .int .u8 ((s : Int) / 256 % 256), .int .u8 ((s : Int) % 256)] 4 h (by
    simp only [sum4, bcells, List.map_cons, List.map_nil, u8_cell]
    simp
    omega) rfl (by omega)
  obtain ⟨a, cap, rfl, _⟩ := own_form h
  have H := hide happ
  clear happ hs ht
  go_enter Tryd.func19, Tryd.ntmps19
  go_wp2_with (first | (go_at_call 20; refine hsum.mono ?_; rintro e w' ⟨rfl, rfl⟩) | (at_builtin; refine wpList_append_is rfl _ _ _ _ rfl _ _ _ rfl rfl hr ?_))
  go_ret
  exact ⟨_, rfl, H.out⟩

theorem str_app (w : World) (v : Value) (l : List UInt8) (s : ByteArray) (h : OB w v l) (hl : l.length + s.size ≤ 140737488355328) :
    ∃ v' w', (∀ ty, (Builtin.append_ #[29, 9] ty #[v, .string s]).run Tryd.prog w = .ok v' w') ∧ App w v l s.data.toList v' w' := by
  obtain ⟨i, hi, hz, hz1, hz2⟩ := info_parts info_u8
  obtain ⟨v', w', h1, h2, h3, h4, h5⟩ := run_append_str_kept (P := Tryd.prog) w 29 9 5 i Tryd.underlying29 Tryd.underlying9 hi hz hz1 hz2 v l.length (bcells l) h s (by unfold maxLen; omega) (by omega)
  refine ⟨v', w', h1, ⟨?_, h5, h3, h4⟩⟩
  unfold OB
  rw [List.length_append, bcells_append]
  exact h2

def strOf (l : List UInt8) : ByteArray := ⟨l.toArray⟩
theorem strOf_size (l : List UInt8) : (strOf l).size = l.length := by simp [strOf, ByteArray.size]
theorem strOf_list (l : List UInt8) : (strOf l).data.toList = l := by simp [strOf]

theorem vint_length (n : Nat) : (vint n).length ≤ 8 := by
  unfold vint
  split
  · simp
  · split
    · simp
    · split <;> simp

theorem text_any (v : Value) (l s : List UInt8) (w : World) (h : OB w v l) (hl : l.length ≤ 70368744177664) (hs : s.length ≤ 35184372088832) :
    Calls Tryd.prog 45 #[v, .string (strOf s)] w fun e w' => ∃ v', e = .returned v' ∧ App w v l (vint s.length ++ s) v' w' := by
  have hv := varint_any v l s.length w h hl (by omega)
  have hz := strOf_size s
  have hzm : (strOf s).size ≤ 9223372036854775807 := by omega
  obtain ⟨a, cap, rfl, _⟩ := own_form h
  go_enter Tryd.func45, Tryd.ntmps45
  have hvl : (vint s.length).length ≤ 8 := vint_length _
  go_wp2_with (first | (go_at_call 17; refine hv.mono ?_; rintro e w1 ⟨v1, rfl, ap1⟩; obtain ⟨v2, w2, hr2, ap2⟩ := str_app w1 v1 _ (strOf s) ap1.own (by rw [List.length_append]; omega); rw [strOf_list] at ap2; have H := hide (ap1.trans ap2); clear ap1 ap2) | (at_builtin; refine wpList_append_is rfl _ _ _ _ rfl _ _ _ rfl rfl hr2 ?_))
  go_ret
  exact ⟨_, rfl, H.out⟩
end Go.Proofs.YtddfdpbaiedcjaaDoor
