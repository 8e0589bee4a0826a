/- wire.reader: fail, take, varint, stream, text. -/
import Derived.Test.YtddfdpbaiedcjaaDoorEncode
import Derived.WalkLawsBesides
namespace Go.Proofs.YtddfdpbaiedcjaaDoor
open Go.RowKit

/-- What goes wrong is thrown. -/
def shortE : Ending := .panicked [{ v := .iface 67 (.agg #[]), recovered := false }]

/-- The reader lies there: its bytes, its place. -/
def RdAt (w : World) (rb : Nat) (v : Value) (pos : Nat) : Prop := w.heap[rb]? = some (.cells #[v, .int .i64 (pos : Int)] 65 (0, 0))

theorem RdAt.mod {S : Nat → Prop} {w w' : World} {rb pos : Nat} {v : Value} (h : RdAt w rb v pos) (m : Mod S w w') (hs : ¬ S rb) : RdAt w' rb v pos := m.obj hs h
theorem RdAt.c0 {w : World} {rb pos : Nat} {v : Value} (h : RdAt w rb v pos) : w.cell? ⟨rb, 0, none⟩ = some v := cell_of_obj h rfl
theorem RdAt.c1 {w : World} {rb pos : Nat} {v : Value} (h : RdAt w rb v pos) : w.cell? ⟨rb, 1, none⟩ = some (.int .i64 (pos : Int)) := cell_of_obj h rfl

theorem BR.mod {S : Nat → Prop} {w w' : World} {v : Value} {l : List UInt8} (h : BR w v l) (m : Mod S w w') (hs : OffS S v) : BR w' v l := by
  obtain ⟨a, cap, rfl, h1, h2, h3⟩ := h
  refine ⟨a, cap, rfl, h1, h2, fun i c hi => ?_⟩
  obtain ⟨g, o, rfl, hc⟩ := h3 i c hi
  exact ⟨g, o, rfl, m.cell (a := ⟨g, _, none⟩) (hs g o _ _ rfl) hc⟩

def Only (rb : Nat) : Nat → Prop := fun k => k = rb

theorem fail_any (p : Value) (w : World) : Calls Tryd.prog 23 #[p] w fun e w' => e = shortE ∧ w = w' := by
  go_enter Tryd.func23, Tryd.ntmps23
  go_wp2_with fail
  exact ⟨rfl, rfl, rfl⟩

theorem obj_setCell {w : World} {b i t : Nat} {cs : Array Value} {fz : Nat × Nat} {v : Value} (h : w.heap[b]? = some (.cells cs t fz)) : (w.setCell ⟨b, i, none⟩ v).heap[b]? = some (.cells (cs.setIfInBounds i v) t fz) := by
  simp [World.setCell, Array.getElem?_modify, h]

theorem BR.sub {w : World} {a : Option Addr} {cap pos n : Nat} {bs : List UInt8} (h : BR w (.slice a bs.length cap) bs) (hp : pos + n ≤ bs.length) : BR w (.slice (a.map fun x => x.add pos) n (cap - pos)) ((bs.drop pos).take n) := by
  obtain ⟨a', cap', hv, h1, h2, h3⟩ := h
  cases hv
  have hl : ((bs.drop pos).take n).length = n := by simp; omega
  refine ⟨a.map fun x => x.add pos, cap - pos, by rw [hl], by omega, by unfold maxLen at h2 ⊢; omega, fun i c hi => ?_⟩
  have hin : i < n := by
    have := (List.getElem?_eq_some_iff.1 hi).1
    omega
  rw [List.getElem?_take, if_pos hin, List.getElem?_drop] at hi
  obtain ⟨g, o, rfl, hc⟩ := h3 (pos + i) c hi
  refine ⟨g, o + pos, ?_, ?_⟩
  · simp only [Option.map_some, addr_add]
  · rw [Nat.add_assoc]
    exact hc

theorem BR.nil (w : World) (a : Option Addr) (c : Nat) (h : c ≤ maxLen) : BR w (.slice a 0 c) [] := ⟨a, c, rfl, Nat.zero_le _, h, fun i c hi => by simp at hi⟩

/-- It throws; only the reader's place may have turned. -/
def Throws (rb : Nat) (w : World) (e : Ending) (w' : World) : Prop := e = shortE ∧ Mod (Only rb) w w'

theorem take_no (rb n pos : Nat) (z : Int) (hz : z = (n : Int)) (v : Value) (bs : List UInt8) (w : World) (h : RdAt w rb v pos) (hb : BR w v bs) (hp : pos ≤ bs.length) (hn : bs.length - pos < n) :
    Calls Tryd.prog 24 #[.pointer (some ⟨rb, 0, none⟩), .int .u64 z] w (Throws rb w) := by
  subst hz
  obtain ⟨a, cap, rfl, h1, h2, h3⟩ := hb
  unfold maxLen at h2
  have c0 := h.c0
  have c1 := h.c1
  have e1 : IntKind.i64.wrap ((bs.length : Int) - pos) = (bs.length : Int) - pos := IntWalk.i64_in _ (by omega)
  have e2 : IntKind.u64.wrap ((bs.length : Int) - pos) = (bs.length : Int) - pos := by rw [IntKind.wrap_u64]; omega
  have d : (bs.length : Int) - pos < n := by omega
  clear h3 h
  go_enter Tryd.func24, Tryd.ntmps24
  go_wp2_with fail
  go_quiet (fail)
  go_wp2_with (go_at_call 23; refine (fail_any _ _).mono ?_; rintro e w' ⟨he, rfl⟩; unfold shortE at he; subst he)
  exact ⟨rfl, rfl, (Mod.refl _ _).drewN _⟩

theorem take_ok (rb n pos : Nat) (z : Int) (hz : z = (n : Int)) (v : Value) (bs : List UInt8) (w : World) (h : RdAt w rb v pos) (hb : BR w v bs) (hv : OffS (Only rb) v) (hp : pos + n ≤ bs.length) :
    Calls Tryd.prog 24 #[.pointer (some ⟨rb, 0, none⟩), .int .u64 z] w fun e w' => ∃ sv, e = .returned sv ∧ BR w' sv ((bs.drop pos).take n) ∧ RdAt w' rb v (pos + n) ∧ Mod (Only rb) w w' := by
  subst hz
  obtain ⟨a, cap, rfl, h1, h2, h3⟩ := id hb
  unfold maxLen at h2
  have c0 := h.c0
  have c1 := h.c1
  have e1 : IntKind.i64.wrap ((bs.length : Int) - pos) = (bs.length : Int) - pos := IntWalk.i64_in _ (by omega)
  have e2 : IntKind.u64.wrap ((bs.length : Int) - pos) = (bs.length : Int) - pos := by rw [IntKind.wrap_u64]; omega
  have e3 : IntKind.i64.wrap (n : Int) = (n : Int) := IntWalk.i64_in _ (by omega)
  have e4 : IntKind.i64.wrap ((pos : Int) + n) = (pos : Int) + n := IntWalk.i64_in _ (by omega)
  have d : ¬ ((bs.length : Int) - pos < n) := by omega
  have hfz : w.frozen? ⟨rb, 1, none⟩ = false := frozen_of_obj h
  clear h3
  have H := hide h
  have Hb := hide hb
  clear h hb
  go_enter Tryd.func24, Tryd.ntmps24
  go_wp2_with fail
  go_quiet (fail)
  go_wp2_with fail
  obtain ⟨W, hW⟩ : ∃ W, (w.drewN nq).setCell ⟨rb, 1, none⟩ (.int .i64 ((pos : Int) + n)) = W := ⟨_, rfl⟩
  have mW : Mod (Only rb) w W := by rw [← hW]; exact ((Mod.refl (Only rb) w).drewN nq).setCell (p := ⟨rb, 1, none⟩) (.inl rfl) _
  have k1 : W.cell? ⟨rb, 1, none⟩ = some (.int .i64 ((pos : Int) + n)) := by rw [← hW]; exact World.cell?_setCell_same _ _ _ c1
  have k0 : W.cell? ⟨rb, 0, none⟩ = some (.slice a bs.length cap) := by rw [← hW, World.cell?_setCell_other _ _ _ _ (by simp)]; exact c0
  have HR : Hid (RdAt W rb (.slice a bs.length cap) (pos + n)) := by
    show W.heap[rb]? = _
    rw [← hW, obj_setCell (w := w.drewN nq) H.out]
    simp
  have HB := hide (Hb.out.mod mW hv)
  have Hm := hide mW
  rw [hW]
  clear hW mW c0 c1 hfz
  have e5 : IntKind.i64.wrap ((pos : Int) + n - n) = (pos : Int) := by rw [show (pos : Int) + n - n = pos by omega]; exact IntWalk.i64_in _ (by omega)
  have e6 : ((pos : Int) + n).toNat = pos + n := by omega
  by_cases hc : pos = cap
  · have hn0 : n = 0 := by omega
    subst hn0
    have hl : bs.length = pos := by omega
    have HL := hide hl
    subst hc
    clear hl e5 e6
    have e5 : IntKind.i64.wrap ((pos : Int) + ((0 : Nat) : Int) - ((0 : Nat) : Int)) = (pos : Int) := by rw [show (pos : Int) + ((0 : Nat) : Int) - ((0 : Nat) : Int) = pos by omega]; exact IntWalk.i64_in _ (by omega)
    go_quiet (fail)
    go_wp2_with fail
    go_ret
    refine ⟨_, rfl, ?_, HR.out.mod (S := NoB) ((Mod.refl _ _).drewN _) (fun x => x), Hm.out.drewN _⟩
    rw [List.take_zero]
    exact BR.nil _ _ _ (by unfold maxLen; omega)
  · have hc' : ¬ cap = pos := fun h => hc h.symm
    go_quiet (fail)
    go_wp2_with fail
    go_ret
    refine ⟨_, rfl, ?_, HR.out.mod (S := NoB) ((Mod.refl _ _).drewN _) (fun x => x), Hm.out.drewN _⟩
    exact (HB.out.sub hp).mod (S := NoB) ((Mod.refl _ _).drewN _) (OffS.no _)

/-- How many bytes a number takes that begins with this one. -/
def vsz (c : UInt8) : Nat := 2 ^ (c.toNat / 64)
def rdNum (c : UInt8) (l : List UInt8) : Nat := l.foldl (fun n x => n * 256 + x.toNat) (c.toNat % 64)
/-- A number that is read from there on, and where it ends. -/
def rdVar (bs : List UInt8) (pos : Nat) : Option (Nat × Nat) :=
  match bs[pos]? with
  | none => none
  | some c => if pos + vsz c ≤ bs.length then some (rdNum c ((bs.drop (pos + 1)).take (vsz c - 1)), pos + vsz c) else none

theorem rdNum_snoc (c : UInt8) (l : List UInt8) (x : UInt8) : rdNum c (l ++ [x]) = rdNum c l * 256 + x.toNat := by simp [rdNum]

theorem foldl_num_lt (l : List UInt8) : ∀ n b, n < b → l.foldl (fun n x => n * 256 + x.toNat) n < b * 256 ^ l.length := by
  induction l with
  | nil => intro n b h; simpa using h
  | cons x l ih =>
    intro n b h
    have hx := x.toNat_lt
    have := ih (n * 256 + x.toNat) (b * 256) (by omega)
    simp only [List.foldl_cons, List.length_cons, Nat.pow_succ]
    rw [Nat.mul_assoc, Nat.mul_comm 256] at this
    exact this

theorem rdNum_lt (c : UInt8) (l : List UInt8) : rdNum c l < 64 * 256 ^ l.length := foldl_num_lt l _ 64 (Nat.mod_lt _ (by decide))

theorem u8_and63 : ∀ a : Fin 256, bits .and .u8 ((a.val : Nat) : Int) 63 = ((a.val % 64 : Nat) : Int) := by decide +kernel

theorem u64_or_nat (a b : Nat) (ha : a < 18446744073709551616) (hb : b < 18446744073709551616) : bits .or .u64 (a : Int) (b : Int) = ((a ||| b : Nat) : Int) := by
  have hx : a ||| b < 2 ^ 64 := Nat.or_lt_two_pow (by omega) (by omega)
  have h1 : (BitVec.ofInt 64 (a : Int)).toNat = a := by
    rw [BitVec.ofInt_natCast, BitVec.toNat_ofNat]; exact Nat.mod_eq_of_lt (by omega)
  have h2 : (BitVec.ofInt 64 (b : Int)).toNat = b := by
    rw [BitVec.ofInt_natCast, BitVec.toNat_ofNat]; exact Nat.mod_eq_of_lt (by omega)
  show IntKind.u64.wrap ((BitVec.ofInt 64 (a : Int) ||| BitVec.ofInt 64 (b : Int)).toNat : Int) = _
  rw [BitVec.toNat_or, h1, h2, IntKind.wrap_u64]
  omega

theorem or_256 (a c : Nat) (hc : c < 256) : a * 256 ||| c = a * 256 + c := by
  have := Nat.two_pow_add_eq_or_of_lt (b := c) (i := 8) hc a
  rw [Nat.mul_comm] at this
  exact this.symm

theorem u64_or (a c : Nat) (ha : a < 72057594037927936) (hc : c < 256) : bits .or .u64 ((a : Int) * 256) (c : Int) = ((a * 256 + c : Nat) : Int) := by
  have := u64_or_nat (a * 256) c (by omega) (by omega)
  rw [or_256 a c hc] at this
  rw [← this]
  congr 1

/-- What reading answers: this, and the place behind it; or it throws. -/
def Rds (w : World) (rb : Nat) (v : Value) (r : Option (Value × Nat)) (e : Ending) (w' : World) : Prop :=
  (∃ x p, r = some (x, p) ∧ e = .returned x ∧ RdAt w' rb v p ∧ Mod (Only rb) w w') ∨ (r = none ∧ Throws rb w e w')

set_option maxRecDepth 100000 in
set_option maxHeartbeats 1000000 in
theorem rvarint_any (rb pos : Nat) (v : Value) (bs : List UInt8) (w : World) (h : RdAt w rb v pos) (hb : BR w v bs) (hv : OffS (Only rb) v) (hp : pos ≤ bs.length) :
    Calls Tryd.prog 22 #[.pointer (some ⟨rb, 0, none⟩)] w (Rds w rb v ((rdVar bs pos).map fun q => (.int .u64 (q.1 : Int), q.2))) := by
  by_cases hlt : pos < bs.length
  · obtain ⟨c, hc⟩ : ∃ c, bs[pos]? = some c := ⟨bs[pos], List.getElem?_eq_getElem hlt⟩
    have hl1 : (bs.drop pos).take 1 = [c] := by
      rw [List.take_one, List.head?_drop, hc]
      rfl
    have t1 := take_ok rb 1 pos 1 rfl v bs w h hb hv (by omega)
    rw [hl1] at t1
    have hcl := c.toNat_lt
    have a63 := u8_and63 ⟨c.toNat, by omega⟩
    simp only at a63
    have hq : c.toNat / 64 = 0 ∨ c.toNat / 64 = 1 ∨ c.toNat / 64 = 2 ∨ c.toNat / 64 = 3 := by omega
    have Hq := hide hq
    have Hb := hide hb
    have Hc := hide hc
    clear h hb hq hc hl1
    go_enter Tryd.func22, Tryd.ntmps22
    go_wp2_with fail
    refine t1.mono ?_
    rintro e w1 ⟨sv, rfl, hs, h1, m1⟩
    obtain ⟨a, cap, rfl, _, _, h3⟩ := hs
    obtain ⟨g, o, rfl, hcell⟩ := h3 0 c rfl
    clear h3 t1
    simp only [Nat.add_zero] at hcell
    have Hv1 := hide h1
    have Hm1 := hide m1
    clear h1 m1
    simp only [List.length_cons, List.length_nil]
    have zv : IntKind.u64.wrap (IntKind.u64.wrap (2 ^ (c.toNat / 64)) - 1) = ((vsz c - 1 : Nat) : Int) := by
      unfold vsz
      rcases Hq.out with e | e | e | e <;> rw [e] <;> rfl
    have hz1 : 1 ≤ vsz c := Nat.one_le_two_pow
    have hz8 : vsz c ≤ 8 := by
      unfold vsz
      rcases Hq.out with e | e | e | e <;> rw [e] <;> decide
    by_cases hfit : pos + vsz c ≤ bs.length
    · have t2 := take_ok rb (vsz c - 1) (pos + 1) _ zv v bs w1 Hv1.out (Hb.out.mod Hm1.out hv) hv (by omega)
      have hl2 : ((bs.drop (pos + 1)).take (vsz c - 1)).length = vsz c - 1 := by simp; omega
      have HR : Hid (rdVar bs pos = some (rdNum c ((bs.drop (pos + 1)).take (vsz c - 1)), pos + vsz c)) := by
        show _ = _
        unfold rdVar
        rw [Hc.out]
        simp only [if_pos hfit]
      obtain ⟨l2, hl2e⟩ : ∃ l2, (bs.drop (pos + 1)).take (vsz c - 1) = l2 := ⟨_, rfl⟩
      rw [hl2e] at t2 hl2 HR
      clear hl2e
      have Zv := hide zv
      clear zv
      go_wp2_with fail
      refine t2.mono ?_
      rintro e w2 ⟨sv, rfl, hs2, h2, m2⟩
      have H2 : Hid (RdAt w2 rb v (pos + vsz c)) := by
        have e : pos + 1 + (vsz c - 1) = pos + vsz c := by omega
        rw [e] at h2
        exact h2
      have HM := hide (Hm1.out.trans m2)
      obtain ⟨a2, cap2, rfl, hq1, hq2, h4⟩ := hs2
      have hl27 : l2.length ≤ 7 := by omega
      unfold maxLen at hq2
      clear h2 m2 t2 hl2 a63 hcell Zv
      go_wp2_with fail
      go_loop [4, 6, 21] (fun n _ i => ∃ k : Nat, k ≤ l2.length ∧ i = .int .i64 k ∧ n = .int .u64 (rdNum c (l2.take k) : Int)) (fun _ _ i => l2.length - (intOf i).toNat)
      case atStart => exact ⟨0, Nat.zero_le _, rfl, by simp [rdNum]⟩
      case round =>
        obtain ⟨k, hk, rfl, rfl⟩ := hrel
        by_cases hk2 : k < l2.length
        · obtain ⟨x, hx⟩ : ∃ x, l2[k]? = some x := ⟨l2[k], List.getElem?_eq_getElem hk2⟩
          obtain ⟨g2, o2, rfl, hc2⟩ := h4 k x hx
          have HS : Hid (rdNum c (l2.take (k + 1)) = rdNum c (l2.take k) * 256 + x.toNat) := by
            show _ = _
            rw [take_succ_at l2 k x hx, rdNum_snoc]
          have hbd : rdNum c (l2.take k) < 72057594037927936 := by
            have h1 := rdNum_lt c (l2.take k)
            have h2 : (l2.take k).length ≤ 6 := by rw [List.length_take]; omega
            have h3 : 256 ^ (l2.take k).length ≤ 256 ^ 6 := Nat.pow_le_pow_right (by omega) h2
            have h5 : 64 * 256 ^ (l2.take k).length ≤ 64 * 256 ^ 6 := Nat.mul_le_mul_left _ h3
            have h6 : 64 * 256 ^ 6 ≤ 72057594037927936 := by decide
            exact Nat.lt_of_lt_of_le h1 (Nat.le_trans h5 h6)
          obtain ⟨m, hm⟩ : ∃ m, rdNum c (l2.take k) = m := ⟨_, rfl⟩
          have hxl := x.toNat_lt
          rw [hm] at hbd HS ⊢
          have hor := u64_or m x.toNat hbd (by omega)
          have hw1 : IntKind.u64.wrap ((m : Int) * 256) = (m : Int) * 256 := by rw [IntKind.wrap_u64]; omega
          clear hm h4 hx
          go_wp2_with fail
          go_round
          case rel => exact ⟨k + 1, by omega, by go_num, by rw [HS.out]; go_num⟩
          case measure => simp [intOf]; omega
        · have hkl : l2.take k = l2 := List.take_of_length_le (by omega)
          rw [hkl]
          clear hkl h4
          go_wp2_with fail
          go_ret
          exact .inl ⟨_, _, by rw [HR.out]; rfl, rfl, H2.out, HM.out⟩
    · have t2 := take_no rb (vsz c - 1) (pos + 1) _ zv v bs w1 Hv1.out (Hb.out.mod Hm1.out hv) (by omega) (by omega)
      have HR : Hid (rdVar bs pos = none) := by
        show _ = _
        unfold rdVar
        rw [Hc.out]
        simp only [if_neg hfit]
      clear zv
      go_wp2_with (go_at_call 24; refine t2.mono ?_; rintro e w2 ⟨he, hm⟩; unfold shortE at he; subst he)
      exact ⟨rfl, .inr ⟨by rw [HR.out]; rfl, rfl, Hm1.out.trans hm⟩⟩
  · have hr : Hid (rdVar bs pos = none) := by
      show _ = _
      unfold rdVar
      rw [List.getElem?_eq_none (by omega)]
    have t1 := take_no rb 1 pos 1 rfl v bs w h hb hp (by omega)
    clear h hb hv hlt
    go_enter Tryd.func22, Tryd.ntmps22
    go_wp2_with (go_at_call 24; refine t1.mono ?_; rintro e w1 ⟨he, hm⟩; unfold shortE at he; subst he)
    exact ⟨rfl, .inr ⟨by rw [hr.out]; rfl, rfl, hm⟩⟩
end Go.Proofs.YtddfdpbaiedcjaaDoor
