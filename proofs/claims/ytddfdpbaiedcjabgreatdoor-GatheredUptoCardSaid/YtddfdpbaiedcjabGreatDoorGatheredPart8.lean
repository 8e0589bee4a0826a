/- The statement Gathered, second form, its card: where what the law reads is of bulk at most 1048576, and the two listed variables read as listed, it returns true, and its argument reads behind the call as before. Part 8 of 23. -/
import Derived.Test.YtddfdpbaiedcjabGreatDoorGatheredPart7
import Derived.WalkLawsBesides
import Derived.Laws.BytesString
/- wire.reader: fail, take, varint, stream, text. -/
namespace Go.Proofs.YtddfdpbaiedcjabGreatDoor
open Go.RowKit

/-- What goes wrong is thrown. -/
def shortE : Ending := .panicked [{ v := .iface 230 (.agg #[]), recovered := false }]

/-- The reader lies there: its bytes, its place. -/
def RdAt (w : World) (rb : Nat) (v : Value) (pos : Nat) : Prop := w.heap[rb]? = some (.cells #[v, .int .i64 (pos : Int)] 228 (0, 0))

theorem RdAt.mod {S : Nat → Prop} {w w' : World} {rb pos : Nat} {v : Value} (h : RdAt w rb v pos) (m : Mod S w w') (hs : ¬ S rb) : RdAt w' rb v pos := m.obj hs h
theorem RdAt.c0 {w : World} {rb pos : Nat} {v : Value} (h : RdAt w rb v pos) : w.cell? ⟨rb, 0, none⟩ = some v := cell_of_obj h rfl
theorem RdAt.c1 {w : World} {rb pos : Nat} {v : Value} (h : RdAt w rb v pos) : w.cell? ⟨rb, 1, none⟩ = some (.int .i64 (pos : Int)) := cell_of_obj h rfl

theorem BR.mod {S : Nat → Prop} {w w' : World} {v : Value} {l : List UInt8} (h : BR w v l) (m : Mod S w w') (hs : OffS S v) : BR w' v l := by
  obtain ⟨a, cap, rfl, h1, h2, h3⟩ := h
  refine ⟨a, cap, rfl, h1, h2, fun i c hi => ?_⟩
  obtain ⟨g, o, rfl, hc⟩ := h3 i c hi
  exact ⟨g, o, rfl, m.cell (a := ⟨g, _, none⟩) (hs g o _ _ rfl) hc⟩

def Only (rb : Nat) : Nat → Prop := fun k => k = rb

theorem fail_any (p : Value) (w : World) : Calls Tryz.prog 146 #[p] w fun e w' => e = shortE ∧ w = w' := by
  go_enter Tryz.func146, Tryz.ntmps146
  go_wp2_with fail
  exact ⟨rfl, rfl, rfl⟩

theorem obj_setCell {w : World} {b i t : Nat} {cs : Array Value} {fz : Nat × Nat} {v : Value} (h : w.heap[b]? = some (.cells cs t fz)) : (w.setCell ⟨b, i, none⟩ v).heap[b]? = some (.cells (cs.setIfInBounds i v) t fz) := by
  simp [World.setCell, Array.getElem?_modify, h]

theorem BR.sub {w : World} {a : Option Addr} {cap pos n : Nat} {bs : List UInt8} (h : BR w (.slice a bs.length cap) bs) (hp : pos + n ≤ bs.length) : BR w (.slice (a.map fun x => x.add pos) n (cap - pos)) ((bs.drop pos).take n) := by
  obtain ⟨a', cap', hv, h1, h2, h3⟩ := h
  cases hv
  have hl : ((bs.drop pos).take n).length = n := by simp; omega
  refine ⟨a.map fun x => x.add pos, cap - pos, by rw [hl], by omega, by unfold maxLen at h2 ⊢; omega, fun i c hi => ?_⟩
  have hin : i < n := by
    have := (List.getElem?_eq_some_iff.1 hi).1
    omega
  rw [List.getElem?_take, if_pos hin, List.getElem?_drop] at hi
  obtain ⟨g, o, rfl, hc⟩ := h3 (pos + i) c hi
  refine ⟨g, o + pos, ?_, ?_⟩
  · simp only [Option.map_some, addr_add]
  · rw [Nat.add_assoc]
    exact hc

theorem BR.nil (w : World) (a : Option Addr) (c : Nat) (h : c ≤ maxLen) : BR w (.slice a 0 c) [] := ⟨a, c, rfl, Nat.zero_le _, h, fun i c hi => by simp at hi⟩

/-- It throws; only the reader's place may have turned. -/
def Throws (rb : Nat) (w : World) (e : Ending) (w' : World) : Prop := e = shortE ∧ Mod (Only rb) w w'

theorem take_no (rb n pos : Nat) (z : Int) (hz : z = (n : Int)) (v : Value) (bs : List UInt8) (w : World) (h : RdAt w rb v pos) (hb : BR w v bs) (hp : pos ≤ bs.length) (hn : bs.length - pos < n) :
    Calls Tryz.prog 147 #[.pointer (some ⟨rb, 0, none⟩), .int .u64 z] w (Throws rb w) := by
  subst hz
  obtain ⟨a, cap, rfl, h1, h2, h3⟩ := hb
  unfold maxLen at h2
  have c0 := h.c0
  have c1 := h.c1
  have e1 : IntKind.i64.wrap ((bs.length : Int) - pos) = (bs.length : Int) - pos := IntWalk.i64_in _ (by omega)
  have e2 : IntKind.u64.wrap ((bs.length : Int) - pos) = (bs.length : Int) - pos := by rw [IntKind.wrap_u64]; omega
  have d : (bs.length : Int) - pos < n := by omega
  clear h3 h
  go_enter Tryz.func147, Tryz.ntmps147
  go_wp2_with fail
  go_quiet (fail)
  go_wp2_with (go_at_call 146; refine (fail_any _ _).mono ?_; rintro e w' ⟨he, rfl⟩; unfold shortE at he; subst he)
  exact ⟨rfl, rfl, (Mod.refl _ _).drewN _⟩

theorem take_ok (rb n pos : Nat) (z : Int) (hz : z = (n : Int)) (v : Value) (bs : List UInt8) (w : World) (h : RdAt w rb v pos) (hb : BR w v bs) (hv : OffS (Only rb) v) (hp : pos + n ≤ bs.length) :
    Calls Tryz.prog 147 #[.pointer (some ⟨rb, 0, none⟩), .int .u64 z] w fun e w' => ∃ sv, e = .returned sv ∧ BR w' sv ((bs.drop pos).take n) ∧ RdAt w' rb v (pos + n) ∧ Mod (Only rb) w w' := by
  subst hz
  obtain ⟨a, cap, rfl, h1, h2, h3⟩ := id hb
  unfold maxLen at h2
  have c0 := h.c0
  have c1 := h.c1
  have e1 : IntKind.i64.wrap ((bs.length : Int) - pos) = (bs.length : Int) - pos := IntWalk.i64_in _ (by omega)
  have e2 : IntKind.u64.wrap ((bs.length : Int) - pos) = (bs.length : Int) - pos := by rw [IntKind.wrap_u64]; omega
  have e3 : IntKind.i64.wrap (n : Int) = (n : Int) := IntWalk.i64_in _ (by omega)
  have e4 : IntKind.i64.wrap ((pos : Int) + n) = (pos : Int) + n := IntWalk.i64_in _ (by omega)
  have d : ¬ ((bs.length : Int) - pos < n) := by omega
  have hfz : w.frozen? ⟨rb, 1, none⟩ = false := frozen_of_obj h
  clear h3
  have H := hide h
  have Hb := hide hb
  clear h hb
  go_enter Tryz.func147, Tryz.ntmps147
  go_wp2_with fail
  go_quiet (fail)
  go_wp2_with fail
  obtain ⟨W, hW⟩ : ∃ W, (w.drewN nq).setCell ⟨rb, 1, none⟩ (.int .i64 ((pos : Int) + n)) = W := ⟨_, rfl⟩
  have mW : Mod (Only rb) w W := by rw [← hW]; exact ((Mod.refl (Only rb) w).drewN nq).setCell (p := ⟨rb, 1, none⟩) (.inl rfl) _
  have k1 : W.cell? ⟨rb, 1, none⟩ = some (.int .i64 ((pos : Int) + n)) := by rw [← hW]; exact World.cell?_setCell_same _ _ _ c1
  have k0 : W.cell? ⟨rb, 0, none⟩ = some (.slice a bs.length cap) := by rw [← hW, World.cell?_setCell_other _ _ _ _ (by simp)]; exact c0
  have HR : Hid (RdAt W rb (.slice a bs.length cap) (pos + n)) := by
    show W.heap[rb]? = _
    rw [← hW, obj_setCell (w := w.drewN nq) H.out]
    simp
  have HB := hide (Hb.out.mod mW hv)
  have Hm := hide mW
  rw [hW]
  clear hW mW c0 c1 hfz
  have e5 : IntKind.i64.wrap ((pos : Int) + n - n) = (pos : Int) := by rw [show (pos : Int) + n - n = pos by omega]; exact IntWalk.i64_in _ (by omega)
  have e6 : ((pos : Int) + n).toNat = pos + n := by omega
  by_cases hc : pos = cap
  · have hn0 : n = 0 := by omega
    subst hn0
    have hl : bs.length = pos := by omega
    have HL := hide hl
    subst hc
    clear hl e5 e6
    have e5 : IntKind.i64.wrap ((pos : Int) + ((0 : Nat) : Int) - ((0 : Nat) : Int)) = (pos : Int) := by rw [show (pos : Int) + ((0 : Nat) : Int) - ((0 : Nat) : Int) = pos by omega]; exact IntWalk.i64_in _ (by omega)
    go_quiet (fail)
    go_wp2_with fail
    go_ret
    refine ⟨_, rfl, ?_, HR.out.mod (S := NoB) ((Mod.refl _ _).drewN _) (fun x => x), Hm.out.drewN _⟩
    rw [List.take_zero]
    exact BR.nil _ _ _ (by unfold maxLen; omega)
  · have hc' : ¬ cap = pos := fun h => hc h.symm
    go_quiet (fail)
    go_wp2_with fail
    go_ret
    refine ⟨_, rfl, ?_, HR.out.mod (S := NoB) ((Mod.refl _ _).drewN _) (fun x => x), Hm.out.drewN _⟩
    exact (HB.out.sub hp).mod (S := NoB) ((Mod.refl _ _).drewN _) (OffS.no _)

/-- How many bytes a number takes that begins with this one. -/
def vsz (c : UInt8) : Nat := 2 ^ (c.toNat / 64)
def rdNum (c : UInt8) (l : List UInt8) : Nat := l.foldl (fun n x => n * 256 + x.toNat) (c.toNat % 64)
/-- A number that is read from there on, and where it ends. -/
def rdVar (bs : List UInt8) (pos : Nat) : Option (Nat × Nat) :=
  match bs[pos]? with
  | none => none
  | some c => if pos + vsz c ≤ bs.length then some (rdNum c ((bs.drop (pos + 1)).take (vsz c - 1)), pos + vsz c) else none

theorem rdNum_snoc (c : UInt8) (l : List UInt8) (x : UInt8) : rdNum c (l ++ [x]) = rdNum c l * 256 + x.toNat := by simp [rdNum]

theorem foldl_num_lt (l : List UInt8) : ∀ n b, n < b → l.foldl (fun n x => n * 256 + x.toNat) n < b * 256 ^ l.length := by
  induction l with
  | nil => intro n b h; simpa using h
  | cons x l ih =>
    intro n b h
    have hx := x.toNat_lt
    have := ih (n * 256 + x.toNat) (b * 256) (by omega)
    simp only [List.foldl_cons, List.length_cons, Nat.pow_succ]
    rw [Nat.mul_assoc, Nat.mul_comm 256] at this
    exact this

theorem rdNum_lt (c : UInt8) (l : List UInt8) : rdNum c l < 64 * 256 ^ l.length := foldl_num_lt l _ 64 (Nat.mod_lt _ (by decide))

theorem u8_and63 : ∀ a : Fin 256, bits .and .u8 ((a.val : Nat) : Int) 63 = ((a.val % 64 : Nat) : Int) := by decide +kernel

theorem u64_or_nat (a b : Nat) (ha : a < 18446744073709551616) (hb : b < 18446744073709551616) : bits .or .u64 (a : Int) (b : Int) = ((a ||| b : Nat) : Int) := by
  have hx : a ||| b < 2 ^ 64 := Nat.or_lt_two_pow (by omega) (by omega)
  have h1 : (BitVec.ofInt 64 (a : Int)).toNat = a := by
    rw [BitVec.ofInt_natCast, BitVec.toNat_ofNat]; exact Nat.mod_eq_of_lt (by omega)
  have h2 : (BitVec.ofInt 64 (b : Int)).toNat = b := by
    rw [BitVec.ofInt_natCast, BitVec.toNat_ofNat]; exact Nat.mod_eq_of_lt (by omega)
  show IntKind.u64.wrap ((BitVec.ofInt 64 (a : Int) ||| BitVec.ofInt 64 (b : Int)).toNat : Int) = _
  rw [BitVec.toNat_or, h1, h2, IntKind.wrap_u64]
  omega

theorem or_256 (a c : Nat) (hc : c < 256) : a * 256 ||| c = a * 256 + c := by
  have := Nat.two_pow_add_eq_or_of_lt (b := c) (i := 8) hc a
  rw [Nat.mul_comm] at this
  exact this.symm

theorem u64_or (a c : Nat) (ha : a < 72057594037927936) (hc : c < 256) : bits .or .u64 ((a : Int) * 256) (c : Int) = ((a * 256 + c : Nat) : Int) := by
  have := u64_or_nat (a * 256) c (by omega) (by omega)
  rw [or_256 a c hc] at this
  rw [← this]
  congr 1

/-- What reading answers: this, and the place behind it; or it throws. -/
def Rds (w : World) (rb : Nat) (v : Value) (r : Option (Value × Nat)) (e : Ending) (w' : World) : Prop :=
  (∃ x p, r = some (x, p) ∧ e = .returned x ∧ RdAt w' rb v p ∧ Mod (Only rb) w w') ∨ (r = none ∧ Throws rb w e w')

set_option maxRecDepth 100000 in
set_option maxHeartbeats 1000000 in
theorem rvarint_any (rb pos : Nat) (v : Value) (bs : List UInt8) (w : World) (h : RdAt w rb v pos) (hb : BR w v bs) (hv : OffS (Only rb) v) (hp : pos ≤ bs.length) :
    Calls Tryz.prog 145 #[.pointer (some ⟨rb, 0, none⟩)] w (Rds w rb v ((rdVar bs pos).map fun q => (.int .u64 (q.1 : Int), q.2))) := by
  by_cases hlt : pos < bs.length
  · obtain ⟨c, hc⟩ : ∃ c, bs[pos]? = some c := ⟨bs[pos], List.getElem?_eq_getElem hlt⟩
    have hl1 : (bs.drop pos).take 1 = [c] := by
      rw [List.take_one, List.head?_drop, hc]
      rfl
    have t1 := take_ok rb 1 pos 1 rfl v bs w h hb hv (by omega)
    rw [hl1] at t1
    have hcl := c.toNat_lt
    have a63 := u8_and63 ⟨c.toNat, by omega⟩
    simp only at a63
    have hq : c.toNat / 64 = 0 ∨ c.toNat / 64 = 1 ∨ c.toNat / 64 = 2 ∨ c.toNat / 64 = 3 := by omega
    have Hq := hide hq
    have Hb := hide hb
    have Hc := hide hc
    clear h hb hq hc hl1
    go_enter Tryz.func145, Tryz.ntmps145
    go_wp2_with fail
    refine t1.mono ?_
    rintro e w1 ⟨sv, rfl, hs, h1, m1⟩
    obtain ⟨a, cap, rfl, _, _, h3⟩ := hs
    obtain ⟨g, o, rfl, hcell⟩ := h3 0 c rfl
    clear h3 t1
    simp only [Nat.add_zero] at hcell
    have Hv1 := hide h1
    have Hm1 := hide m1
    clear h1 m1
    simp only [List.length_cons, List.length_nil]
    have zv : IntKind.u64.wrap (IntKind.u64.wrap (2 ^ (c.toNat / 64)) - 1) = ((vsz c - 1 : Nat) : Int) := by
      unfold vsz
      rcases Hq.out with e | e | e | e <;> rw [e] <;> rfl
    have hz1 : 1 ≤ vsz c := Nat.one_le_two_pow
    have hz8 : vsz c ≤ 8 := by
      unfold vsz
      rcases Hq.out with e | e | e | e <;> rw [e] <;> decide
    by_cases hfit : pos + vsz c ≤ bs.length
    · have t2 := take_ok rb (vsz c - 1) (pos + 1) _ zv v bs w1 Hv1.out (Hb.out.mod Hm1.out hv) hv (by omega)
      have hl2 : ((bs.drop (pos + 1)).take (vsz c - 1)).length = vsz c - 1 := by simp; omega
      have HR : Hid (rdVar bs pos = some (rdNum c ((bs.drop (pos + 1)).take (vsz c - 1)), pos + vsz c)) := by
        show _ = _
        unfold rdVar
        rw [Hc.out]
        simp only [if_pos hfit]
      obtain ⟨l2, hl2e⟩ : ∃ l2, (bs.drop (pos + 1)).take (vsz c - 1) = l2 := ⟨_, rfl⟩
      rw [hl2e] at t2 hl2 HR
      clear hl2e
      have Zv := hide zv
      clear zv
      go_wp2_with fail
      refine t2.mono ?_
      rintro e w2 ⟨sv, rfl, hs2, h2, m2⟩
      have H2 : Hid (RdAt w2 rb v (pos + vsz c)) := by
        have e : pos + 1 + (vsz c - 1) = pos + vsz c := by omega
        rw [e] at h2
        exact h2
      have HM := hide (Hm1.out.trans m2)
      obtain ⟨a2, cap2, rfl, hq1, hq2, h4⟩ := hs2
      have hl27 : l2.length ≤ 7 := by omega
      unfold maxLen at hq2
      clear h2 m2 t2 hl2 a63 hcell Zv
      go_wp2_with fail
      go_loop [4, 6, 21] (fun n _ i => ∃ k : Nat, k ≤ l2.length ∧ i = .int .i64 k ∧ n = .int .u64 (rdNum c (l2.take k) : Int)) (fun _ _ i => l2.length - (intOf i).toNat)
      case atStart => exact ⟨0, Nat.zero_le _, rfl, by simp [rdNum]⟩
      case round =>
        obtain ⟨k, hk, rfl, rfl⟩ := hrel
        by_cases hk2 : k < l2.length
        · obtain ⟨x, hx⟩ : ∃ x, l2[k]? = some x := ⟨l2[k], List.getElem?_eq_getElem hk2⟩
          obtain ⟨g2, o2, rfl, hc2⟩ := h4 k x hx
          have HS : Hid (rdNum c (l2.take (k + 1)) = rdNum c (l2.take k) * 256 + x.toNat) := by
            show _ = _
            rw [take_succ_at l2 k x hx, rdNum_snoc]
          have hbd : rdNum c (l2.take k) < 72057594037927936 := by
            have h1 := rdNum_lt c (l2.take k)
            have h2 : (l2.take k).length ≤ 6 := by rw [List.length_take]; omega
            have h3 : 256 ^ (l2.take k).length ≤ 256 ^ 6 := Nat.pow_le_pow_right (by omega) h2
            have h5 : 64 * 256 ^ (l2.take k).length ≤ 64 * 256 ^ 6 := Nat.mul_le_mul_left _ h3
            have h6 : 64 * 256 ^ 6 ≤ 72057594037927936 := by decide
            exact Nat.lt_of_lt_of_le h1 (Nat.le_trans h5 h6)
          obtain ⟨m, hm⟩ : ∃ m, rdNum c (l2.take k) = m := ⟨_, rfl⟩
          have hxl := x.toNat_lt
          rw [hm] at hbd HS ⊢
          have hor := u64_or m x.toNat hbd (by omega)
          have hw1 : IntKind.u64.wrap ((m : Int) * 256) = (m : Int) * 256 := by rw [IntKind.wrap_u64]; omega
          clear hm h4 hx
          go_wp2_with fail
          go_round
          case rel => exact ⟨k + 1, by omega, by go_num, by rw [HS.out]; go_num⟩
          case measure => simp [intOf]; omega
        · have hkl : l2.take k = l2 := List.take_of_length_le (by omega)
          rw [hkl]
          clear hkl h4
          go_wp2_with fail
          go_ret
          exact .inl ⟨_, _, by rw [HR.out]; rfl, rfl, H2.out, HM.out⟩
    · have t2 := take_no rb (vsz c - 1) (pos + 1) _ zv v bs w1 Hv1.out (Hb.out.mod Hm1.out hv) (by omega) (by omega)
      have HR : Hid (rdVar bs pos = none) := by
        show _ = _
        unfold rdVar
        rw [Hc.out]
        simp only [if_neg hfit]
      clear zv
      go_wp2_with (go_at_call 147; refine t2.mono ?_; rintro e w2 ⟨he, hm⟩; unfold shortE at he; subst he)
      exact ⟨rfl, .inr ⟨by rw [HR.out]; rfl, rfl, Hm1.out.trans hm⟩⟩
  · have hr : Hid (rdVar bs pos = none) := by
      show _ = _
      unfold rdVar
      rw [List.getElem?_eq_none (by omega)]
    have t1 := take_no rb 1 pos 1 rfl v bs w h hb hp (by omega)
    clear h hb hv hlt
    go_enter Tryz.func145, Tryz.ntmps145
    go_wp2_with (go_at_call 147; refine t1.mono ?_; rintro e w1 ⟨he, hm⟩; unfold shortE at he; subst he)
    exact ⟨rfl, .inr ⟨by rw [hr.out]; rfl, rfl, hm⟩⟩
end Go.Proofs.YtddfdpbaiedcjabGreatDoor
/- wire.reader: stream, text; wire.kind. -/
namespace Go.Proofs.YtddfdpbaiedcjabGreatDoor
open Go.RowKit

theorem foldl_push (l : List UInt8) : ∀ s : ByteArray, (l.map fun c => ((c.toNat : Nat) : Int)).foldl (fun r n => r.push (UInt8.ofNat n.toNat)) s = ⟨s.data ++ l.toArray⟩ := by
  induction l with
  | nil => intro s; simp
  | cons c l ih =>
    intro s
    simp only [List.map_cons, List.foldl_cons, Int.toNat_natCast, UInt8.ofNat_toNat]
    rw [ih]
    simp [ByteArray.push]

theorem br_string {w : World} {v : Value} {l : List UInt8} (h : BR w v l) : (convert 44 9 v).run Tryz.prog w = .ok (.string (strOf l)) w := by
  obtain ⟨a, cap, rfl, h1, h2, h3⟩ := h
  rw [run_convert_bytes_string w _ _ _ a l.length cap Tryz.underlying44 Tryz.underlying5 Tryz.underlying9]
  cases a with
  | none =>
    have hl : l = [] := by
      cases l with
      | nil => rfl
      | cons c l =>
        obtain ⟨g, o, e, _⟩ := h3 0 c rfl
        cases e
    subst hl
    rfl
  | some a =>
    have hcells : ∀ j u, (bcells l)[j]? = some u → w.cell? (a.add j) = some u := by
      intro j u hu
      simp only [bcells, List.getElem?_map, Option.map_eq_some_iff] at hu
      obtain ⟨c, hc, rfl⟩ := hu
      obtain ⟨g, o, e, hh⟩ := h3 j c hc
      cases e
      rw [addr_add]
      exact hh
    have hload : (loadCells a l.length).run Tryz.prog w = .ok ((l.map fun c => ((c.toNat : Nat) : Int)).map (Value.int .u8)).toArray w := by
      have := run_loadCells_list (P := Tryz.prog) (w := w) a (bcells l) hcells
      rw [bcells_length] at this
      rw [this]
      simp [bcells]
    rw [run_bytesToString w a l.length cap _ hload, foldl_push]
    simp [strOf]

def rdStream (bs : List UInt8) (pos : Nat) : Option (Nat × Nat) := (rdVar bs pos).bind fun q => if q.1 < 8 then some q else none
def rdText (bs : List UInt8) (pos : Nat) : Option (List UInt8 × Nat) := (rdVar bs pos).bind fun q => if q.1 ≤ bs.length - q.2 then some ((bs.drop q.2).take q.1, q.2 + q.1) else none

theorem rdVar_le {bs : List UInt8} {pos n p : Nat} (h : rdVar bs pos = some (n, p)) : pos < p ∧ p ≤ bs.length ∧ n < 4611686018427387904 := by
  unfold rdVar at h
  cases hc : bs[pos]? with
  | none => rw [hc] at h; cases h
  | some c =>
    rw [hc] at h
    simp only at h
    split at h
    · rename_i hfit
      simp only [Option.some.injEq, Prod.mk.injEq] at h
      obtain ⟨rfl, rfl⟩ := h
      have hz1 : 1 ≤ vsz c := Nat.one_le_two_pow
      have hcl := c.toNat_lt
      have hq : c.toNat / 64 = 0 ∨ c.toNat / 64 = 1 ∨ c.toNat / 64 = 2 ∨ c.toNat / 64 = 3 := by omega
      have hz8 : vsz c ≤ 8 := by
        unfold vsz
        rcases hq with e | e | e | e <;> rw [e] <;> decide
      refine ⟨by omega, hfit, ?_⟩
      have h1 := rdNum_lt c ((bs.drop (pos + 1)).take (vsz c - 1))
      have h2 : ((bs.drop (pos + 1)).take (vsz c - 1)).length ≤ 7 := by rw [List.length_take]; omega
      have h5 : 64 * 256 ^ ((bs.drop (pos + 1)).take (vsz c - 1)).length ≤ 64 * 256 ^ 7 := Nat.mul_le_mul_left _ (Nat.pow_le_pow_right (by omega) h2)
      have h6 : 64 * 256 ^ 7 = 4611686018427387904 := by decide
      omega
    · cases h

theorem rstream_any (rb pos : Nat) (v : Value) (bs : List UInt8) (w : World) (h : RdAt w rb v pos) (hb : BR w v bs) (hv : OffS (Only rb) v) (hp : pos ≤ bs.length) :
    Calls Tryz.prog 176 #[.pointer (some ⟨rb, 0, none⟩)] w (Rds w rb v ((rdStream bs pos).map fun q => (.int .i64 (q.1 : Int), q.2))) := by
  have hc := rvarint_any rb pos v bs w h hb hv hp
  clear h hb hv
  cases hr : rdVar bs pos with
  | none =>
    rw [hr] at hc
    have HR : Hid (rdStream bs pos = none) := by show _ = _; rw [rdStream, hr]; rfl
    clear hr
    go_enter Tryz.func176, Tryz.ntmps176
    go_wp2_with (go_at_call 145; refine hc.mono ?_; rintro e w1 (⟨_, _, hx, _⟩ | ⟨_, he, hm⟩); cases hx; unfold shortE at he; subst he)
    exact ⟨rfl, .inr ⟨by rw [HR.out]; rfl, rfl, hm⟩⟩
  | some q =>
    obtain ⟨n, p⟩ := q
    obtain ⟨q1, q2, q3⟩ := rdVar_le hr
    rw [hr] at hc
    by_cases h8 : n < 8
    · have HR : Hid (rdStream bs pos = some (n, p)) := by show _ = _; rw [rdStream, hr]; simp [h8]
      have h8' : ¬ (8 : Int) ≤ n := by omega
      have e1 : IntKind.i64.wrap (n : Int) = n := IntWalk.i64_in _ (by omega)
      clear hr
      go_enter Tryz.func176, Tryz.ntmps176
      go_wp2_with fail
      refine hc.mono ?_
      rintro e w1 (⟨_, _, hx, rfl, hat, hm⟩ | ⟨hx, _⟩)
      · simp only [Option.map_some, Option.some.injEq, Prod.mk.injEq] at hx
        obtain ⟨rfl, rfl⟩ := hx
        have HA := hide hat
        have HM := hide hm
        clear hat hm
        go_wp2_with fail
        go_ret
        exact .inl ⟨_, _, by rw [HR.out]; rfl, rfl, HA.out, HM.out⟩
      · cases hx
    · have HR : Hid (rdStream bs pos = none) := by show _ = _; rw [rdStream, hr]; simp [h8]
      have h8' : (8 : Int) ≤ n := by omega
      clear hr
      go_enter Tryz.func176, Tryz.ntmps176
      go_wp2_with fail
      refine hc.mono ?_
      rintro e w1 (⟨_, _, hx, rfl, hat, hm⟩ | ⟨hx, _⟩)
      · simp only [Option.map_some, Option.some.injEq, Prod.mk.injEq] at hx
        obtain ⟨rfl, rfl⟩ := hx
        have HM := hide hm
        clear hat hm
        go_wp2_with (go_at_call 146; refine (fail_any _ _).mono ?_; rintro e w' ⟨he, rfl⟩; unfold shortE at he; subst he)
        exact ⟨rfl, .inr ⟨by rw [HR.out]; rfl, rfl, HM.out⟩⟩
      · cases hx

theorem rtext_any (rb pos : Nat) (v : Value) (bs : List UInt8) (w : World) (h : RdAt w rb v pos) (hb : BR w v bs) (hv : OffS (Only rb) v) (hp : pos ≤ bs.length) :
    Calls Tryz.prog 181 #[.pointer (some ⟨rb, 0, none⟩)] w (Rds w rb v ((rdText bs pos).map fun q => (.string (strOf q.1), q.2))) := by
  have hc := rvarint_any rb pos v bs w h hb hv hp
  have Hb := hide hb
  clear h hb
  cases hr : rdVar bs pos with
  | none =>
    rw [hr] at hc
    have HR : Hid (rdText bs pos = none) := by show _ = _; rw [rdText, hr]; rfl
    clear hr hv
    go_enter Tryz.func181, Tryz.ntmps181
    go_wp2_with (go_at_call 145; refine hc.mono ?_; rintro e w1 (⟨_, _, hx, _⟩ | ⟨_, he, hm⟩); cases hx; unfold shortE at he; subst he)
    exact ⟨rfl, .inr ⟨by rw [HR.out]; rfl, rfl, hm⟩⟩
  | some q =>
    obtain ⟨n, p⟩ := q
    obtain ⟨q1, q2, q3⟩ := rdVar_le hr
    rw [hr] at hc
    have Hr := hide hr
    have Hv := hide hv
    clear hr hv
    by_cases hfit : n ≤ bs.length - p
    · have HR : Hid (rdText bs pos = some ((bs.drop p).take n, p + n)) := by show _ = _; rw [rdText, Hr.out]; simp [hfit]
      go_enter Tryz.func181, Tryz.ntmps181
      go_wp2_with fail
      refine hc.mono ?_
      rintro e w1 (⟨_, _, hx, rfl, hat, hm⟩ | ⟨hx, _⟩)
      · simp only [Option.map_some, Option.some.injEq, Prod.mk.injEq] at hx
        obtain ⟨rfl, rfl⟩ := hx
        have t2 := take_ok rb n p (n : Int) rfl v bs w1 hat (Hb.out.mod hm Hv.out) Hv.out (by omega)
        have HM := hide hm
        clear hat hm
        go_wp2_with fail
        refine t2.mono ?_
        rintro e w2 ⟨sv, rfl, hs2, h2, m2⟩
        have hcv := br_string hs2
        have H2 := hide h2
        have HM2 := hide m2
        obtain ⟨a2, cap2, rfl, _⟩ := hs2
        obtain ⟨l2, hl2⟩ : ∃ l2, (bs.drop p).take n = l2 := ⟨_, rfl⟩
        rw [hl2] at hcv HR
        rw [hl2]
        clear h2 m2 t2 hl2
        go_wp2_with fail
        go_ret
        exact .inl ⟨_, _, by rw [HR.out]; rfl, rfl, H2.out, HM.out.trans HM2.out⟩
      · cases hx
    · have HR : Hid (rdText bs pos = none) := by show _ = _; rw [rdText, Hr.out]; simp [hfit]
      go_enter Tryz.func181, Tryz.ntmps181
      go_wp2_with fail
      refine hc.mono ?_
      rintro e w1 (⟨_, _, hx, rfl, hat, hm⟩ | ⟨hx, _⟩)
      · simp only [Option.map_some, Option.some.injEq, Prod.mk.injEq] at hx
        obtain ⟨rfl, rfl⟩ := hx
        have t2 := take_no rb n p (n : Int) rfl v bs w1 hat (Hb.out.mod hm Hv.out) (by omega) (by omega)
        have HM := hide hm
        clear hat hm
        go_wp2_with (go_at_call 147; refine t2.mono ?_; rintro e w' ⟨he, hm2⟩; unfold shortE at he; subst he)
        exact ⟨rfl, .inr ⟨by rw [HR.out]; rfl, rfl, HM.out.trans hm2⟩⟩
      · cases hx

/-- The kind that a first byte tells. -/
def kindOf (t : UInt8) : Option Int :=
  if t = 1 then some 1 else if t = 2 then some 2 else if t = 8 ∨ t = 9 then some 4 else if t = 16 then some 5 else if t = 17 then some 6 else if t = 28 then some 8 else if t = 36 then some 3 else if t = 48 then some 7 else none

theorem kind_none (t : UInt8) (w : World) (h : kindOf t = none) : Calls Tryz.prog 148 #[.int .u8 (t.toNat : Int)] w fun e w' => e = .returned (.tuple #[.int .i64 0, .bool false]) ∧ w = w' := by
  have hn : ∀ c : UInt8, c ∈ [1, 2, 8, 9, 16, 17, 28, 36, 48] → ((t.toNat : Int) == (c.toNat : Int)) = false := by
    intro c hc
    rw [beq_eq_false_iff_ne]
    intro he
    have : t = c := UInt8.toNat_inj.1 (by omega)
    subst this
    simp only [List.mem_cons, List.not_mem_nil, or_false] at hc
    rcases hc with rfl | rfl | rfl | rfl | rfl | rfl | rfl | rfl | rfl <;> simp [kindOf] at h
  have h1 : ((t.toNat : Int) == 1) = false := hn 1 (by simp)
  have h2 : ((t.toNat : Int) == 2) = false := hn 2 (by simp)
  have h3 : ((t.toNat : Int) == 8) = false := hn 8 (by simp)
  have h4 : ((t.toNat : Int) == 9) = false := hn 9 (by simp)
  have h5 : ((t.toNat : Int) == 16) = false := hn 16 (by simp)
  have h6 : ((t.toNat : Int) == 17) = false := hn 17 (by simp)
  have h7 : ((t.toNat : Int) == 28) = false := hn 28 (by simp)
  have h8 : ((t.toNat : Int) == 36) = false := hn 36 (by simp)
  have h9 : ((t.toNat : Int) == 48) = false := hn 48 (by simp)
  clear hn h
  go_enter Tryz.func148, Tryz.ntmps148
  go_wp2_with fail
  go_ret2
  exact ⟨rfl, rfl⟩

theorem kind_some (t : UInt8) (k : Int) (w : World) (h : kindOf t = some k) : Calls Tryz.prog 148 #[.int .u8 (t.toNat : Int)] w fun e w' => e = .returned (.tuple #[.int .i64 k, .bool true]) ∧ w = w' := by
  have hc : t ∈ ([1, 2, 8, 9, 16, 17, 28, 36, 48] : List UInt8) := by
    refine Decidable.byContradiction fun hc => ?_
    simp only [List.mem_cons, List.not_mem_nil, or_false, not_or] at hc
    obtain ⟨a1, a2, a3, a4, a5, a6, a7, a8, a9⟩ := hc
    simp [kindOf, *] at h
  simp only [List.mem_cons, List.not_mem_nil, or_false] at hc
  rcases hc with rfl | rfl | rfl | rfl | rfl | rfl | rfl | rfl | rfl
  all_goals
    simp [kindOf] at h
    subst h
    simp only [UInt8.reduceToNat]
    go_enter Tryz.func148, Tryz.ntmps148
    go_wp2_with fail
    go_ret2
    exact ⟨rfl, rfl⟩
end Go.Proofs.YtddfdpbaiedcjabGreatDoor
/- How the frames of a kind are read (printed by mkread3.py). -/
namespace Go.Proofs.YtddfdpbaiedcjabGreatDoor
open Go.RowKit

def Two (rb fb : Nat) : Nat → Prop := fun k => k = rb ∨ k = fb

/-- The slice owns these ranges. -/
def OwnR (w : World) (v : Value) (rs : Rngs) : Prop := w.ownsRow 0 110 2 v rs.length (rcells rs) ∧ ∀ i, i < rs.length → loAt rs i < 18446744073709551616 ∧ hiAt rs i < 18446744073709551616

theorem OwnR.nil (w : World) : OwnR w (.slice none 0 0) [] := ⟨World.ownsRow_nil w 0 _ 2, fun i hi => absurd hi (Nat.not_lt_zero i)⟩

theorem OwnR.mod {S : Nat → Prop} {w w' : World} {v : Value} {rs : Rngs} (h : OwnR w v rs) (m : Mod S w w') (hs : ∀ g, v.ownBlock = some g → ¬ S g) : OwnR w' v rs := ⟨m.owns h.1 hs, h.2⟩

theorem OwnR.not_type {w : World} {v : Value} {rs : Rngs} {b T : Nat} {cs : Array Value} {fz : Nat × Nat} (h : OwnR w v rs) (ho : w.heap[b]? = some (.cells cs T fz)) (hT : T ≠ 110) : ¬ v.ownBlock = some b := by
  intro hb
  rcases h.1.2 with ⟨rfl, _⟩ | ⟨g, cap, cur, rfl, _, hg, _⟩
  · cases hb
  · simp [Value.ownBlock] at hb
    subst hb
    rw [hg] at ho
    simp at ho
    exact hT ho.2.1.symm

theorem OwnR.rr {w : World} {v : Value} {rs : Rngs} (h : OwnR w v rs) : RR w v rs := by
  obtain ⟨a, cap, rfl, h1, h2, h3⟩ := own_form h.1
  refine ⟨a, cap, rfl, h1, h2, fun i hi => ?_⟩
  obtain ⟨g, rfl⟩ := h3 (by omega)
  have := own_rcells h.1 i hi
  exact ⟨g, 0, rfl, by simpa using this.1, by simpa using this.2, h.2 i hi⟩

/-- The slice's cells are new. -/
def NewSl (w : World) (v : Value) : Prop := ∀ g o n c, v = .slice (some ⟨g, o, none⟩) n c → w.heap.size ≤ g

/-- A frame of which its first byte alone was read. -/
def f0 (k : Int) (b : Bool) : Frm := { kind := k, stream := 0, off := 0, rel := 0, lim := 0, fin := b, id := 0, dl := 0, data := [], rngs := [] }

/-- What reading a frame's rest answers: this frame, and the place behind it; or it throws. -/
def RdF (w : World) (rb : Nat) (v : Value) (fb : Nat) (r : Option (Frm × Nat)) (e : Ending) (w' : World) : Prop :=
  (∃ f rv p, r = some (f, p) ∧ e = .returned (.tuple #[]) ∧ RdAt w' rb v p ∧ FrameAt w' fb f rv ∧ OwnR w' rv f.rngs ∧ NewSl w rv ∧ Mod (Two rb fb) w w') ∨ (r = none ∧ e = shortE ∧ Mod (Two rb fb) w w')

theorem mod_two {rb fb : Nat} {w w' : World} (m : Mod (Only rb) w w') : Mod (Two rb fb) w w' := m.mono (fun _ h => .inl (.inl h))

theorem NewSl.nil (w : World) : NewSl w (.slice none 0 0) := fun _ _ _ _ h => by cases h

theorem read1 (rb fb pos : Nat) (v : Value) (b : Bool) (w : World) (h : RdAt w rb v pos) (hf : FrameAt w fb (f0 1 b) (.slice none 0 0)) :
    Calls Tryz.prog 169 #[.pointer (some ⟨rb, 0, none⟩), .pointer (some ⟨fb, 0, none⟩)] w (RdF w rb v fb (some (f0 1 b, pos))) := by
  go_enter Tryz.func169, Tryz.ntmps169
  go_wp2_with fail
  exact bodyPost_end (results_none rfl _ _ _) rfl (.inl ⟨_, _, _, rfl, rfl, h, hf, OwnR.nil w, NewSl.nil w, Mod.refl _ _⟩)

theorem FrameAt.set {w : World} {b i : Nat} {f f' : Frm} {rv rv' v : Value} (h : FrameAt w b f rv) (he : (frCells f rv).setIfInBounds i v = frCells f' rv') : FrameAt (w.setCell ⟨b, i, none⟩ v) b f' rv' := by
  unfold FrameAt at h ⊢
  rw [obj_setCell h, he]

theorem rdVar_end {bs : List UInt8} {pos n p : Nat} (h : rdVar bs pos = some (n, p)) : p ≤ bs.length := (rdVar_le h).2.1
theorem rdStream_end {bs : List UInt8} {pos n p : Nat} (h : rdStream bs pos = some (n, p)) : p ≤ bs.length := by
  unfold rdStream at h
  cases hr : rdVar bs pos with
  | none => rw [hr] at h; cases h
  | some q =>
    rw [hr] at h
    simp only [Option.bind_some] at h
    split at h
    · cases h
      exact rdVar_end hr
    · cases h
theorem rdText_end {bs l : List UInt8} {pos p : Nat} (h : rdText bs pos = some (l, p)) : p ≤ bs.length := by
  unfold rdText at h
  cases hr : rdVar bs pos with
  | none => rw [hr] at h; cases h
  | some q =>
    rw [hr] at h
    have := rdVar_end hr
    simp only [Option.bind_some] at h
    split at h
    · cases h
      omega
    · cases h

def rd3 (b : Bool) (bs : List UInt8) (pos : Nat) : Option (Frm × Nat) :=
  (rdStream bs pos).bind fun (x1, p1) => (rdVar bs p1).bind fun (x2, p2) => (rdVar bs p2).bind fun (x3, p3) => some ({ f0 3 b with stream := (x1 : Int), off := x2, rel := x3 }, p3)

set_option maxHeartbeats 400000 in
theorem read3 (rb fb pos : Nat) (v : Value) (bs : List UInt8) (b : Bool) (w : World) (h : RdAt w rb v pos) (hb : BR w v bs) (hv : OffS (Two rb fb) v) (hp : pos ≤ bs.length) (hf : FrameAt w fb (f0 3 b) (.slice none 0 0)) (hne : fb ≠ rb) :
    Calls Tryz.prog 175 #[.pointer (some ⟨rb, 0, none⟩), .pointer (some ⟨fb, 0, none⟩)] w (RdF w rb v fb (rd3 b bs pos)) := by
  have hv1 : OffS (Only rb) v := fun g o n c e hx => hv g o n c e (.inl hx)
  have W0 : w = w := rfl
  have HM0 := hide (Mod.refl (Only rb) w)
  have Hb := hide hb
  have Hf := hide hf
  have Hv := hide hv1
  have Hne := hide hne
  clear hb hv hf hv1 hne W0
  have c1 := rstream_any rb pos v bs w h (Hb.out) Hv.out hp
  cases hr1 : rdStream bs pos with
  | none =>
    rw [hr1] at c1
    have HR : Hid (rd3 b bs pos = none) := by
      show _ = _
      unfold rd3
      simp only [hr1, Option.bind_some, Option.bind_none]
    clear hr1
    go_enter Tryz.func175, Tryz.ntmps175
    go_wp2_with (go_at_call 176; refine c1.mono ?_; rintro e w' (⟨_, _, hx, _⟩ | ⟨_, he, hm⟩); cases hx; unfold shortE at he; subst he)
    exact ⟨rfl, .inr ⟨HR.out, rfl, mod_two (hm)⟩⟩
  | some q1 =>
    obtain ⟨x1, p1⟩ := q1
    rw [hr1] at c1
    have hp1 : p1 ≤ bs.length := rdStream_end hr1
    have HR1 := hide hr1
    clear hr1
    go_enter Tryz.func175, Tryz.ntmps175
    go_wp2_with fail
    refine c1.mono ?_
    rintro e w1 (⟨_, _, hx, rfl, h1, m1⟩ | ⟨hx, _⟩)
    rotate_left
    · cases hx
    simp only [Option.map_some, Option.some.injEq, Prod.mk.injEq] at hx
    obtain ⟨rfl, rfl⟩ := hx
    have HM1 := hide (HM0.out.trans m1)
    clear c1 m1
    have c2 := rvarint_any rb p1 v bs w1 h1 (Hb.out.mod HM1.out Hv.out) Hv.out hp1
    cases hr2 : rdVar bs p1 with
    | none =>
      rw [hr2] at c2
      have HR : Hid (rd3 b bs pos = none) := by
        show _ = _
        unfold rd3
        simp only [HR1.out, hr2, Option.bind_some, Option.bind_none]
      clear hr2
      go_wp2_with (go_at_call 145; refine c2.mono ?_; rintro e w' (⟨_, _, hx, _⟩ | ⟨_, he, hm⟩); cases hx; unfold shortE at he; subst he)
      exact ⟨rfl, .inr ⟨HR.out, rfl, mod_two (HM1.out.trans hm)⟩⟩
    | some q2 =>
      obtain ⟨x2, p2⟩ := q2
      rw [hr2] at c2
      have hp2 : p2 ≤ bs.length := rdVar_end hr2
      have HR2 := hide hr2
      clear hr2
      go_wp2_with fail
      refine c2.mono ?_
      rintro e w2 (⟨_, _, hx, rfl, h2, m2⟩ | ⟨hx, _⟩)
      rotate_left
      · cases hx
      simp only [Option.map_some, Option.some.injEq, Prod.mk.injEq] at hx
      obtain ⟨rfl, rfl⟩ := hx
      have HM2 := hide (HM1.out.trans m2)
      clear c2 m2
      have c3 := rvarint_any rb p2 v bs w2 h2 (Hb.out.mod HM2.out Hv.out) Hv.out hp2
      cases hr3 : rdVar bs p2 with
      | none =>
        rw [hr3] at c3
        have HR : Hid (rd3 b bs pos = none) := by
          show _ = _
          unfold rd3
          simp only [HR1.out, HR2.out, hr3, Option.bind_some, Option.bind_none]
        clear hr3
        go_wp2_with (go_at_call 145; refine c3.mono ?_; rintro e w' (⟨_, _, hx, _⟩ | ⟨_, he, hm⟩); cases hx; unfold shortE at he; subst he)
        exact ⟨rfl, .inr ⟨HR.out, rfl, mod_two (HM2.out.trans hm)⟩⟩
      | some q3 =>
        obtain ⟨x3, p3⟩ := q3
        rw [hr3] at c3
        have hp3 : p3 ≤ bs.length := rdVar_end hr3
        have HR3 := hide hr3
        clear hr3
        go_wp2_with fail
        refine c3.mono ?_
        rintro e w3 (⟨_, _, hx, rfl, h3, m3⟩ | ⟨hx, _⟩)
        rotate_left
        · cases hx
        simp only [Option.map_some, Option.some.injEq, Prod.mk.injEq] at hx
        obtain ⟨rfl, rfl⟩ := hx
        have HM3 := hide (HM2.out.trans m3)
        clear c3 m3
        have HH := hide h3
        have hF := Hf.out.mod HM3.out Hne.out
        obtain ⟨k0, k1, k2, k3, k4, k5, k6, k7, k8, k9⟩ := hF.cells
        have hfz : ∀ j, w3.frozen? ⟨fb, j, none⟩ = false := fun j => frozen_of_obj hF
        have HF := hide hF
        clear hF h3
        go_wp2_with fail
        refine bodyPost_end (results_none rfl _ _ _) rfl (.inl ⟨{ f0 3 b with stream := (x1 : Int), off := x2, rel := x3 }, .slice none 0 0, p3, ?_, rfl, ?_, ?_, OwnR.nil _, NewSl.nil w, (((((((mod_two HM3.out)).setCell (p := ⟨fb, 1, none⟩) (.inl (.inr rfl)) _)).setCell (p := ⟨fb, 2, none⟩) (.inl (.inr rfl)) _)).setCell (p := ⟨fb, 3, none⟩) (.inl (.inr rfl)) _)⟩)
        · unfold rd3
          simp only [HR1.out, HR2.out, HR3.out, Option.bind_some]
        · exact HH.out.mod ((((Mod.refl (fun k => k = fb) _).setCell (p := ⟨fb, 1, none⟩) (.inl rfl) _).setCell (p := ⟨fb, 2, none⟩) (.inl rfl) _).setCell (p := ⟨fb, 3, none⟩) (.inl rfl) _) (fun e => Hne.out e.symm)
        · exact (((HF.out).set (i := 1) (v := .int .i64 (x1 : Int)) (f' := { f0 3 b with stream := (x1 : Int) }) (rv' := .slice none 0 0) rfl).set (i := 2) (v := .int .u64 (x2 : Int)) (f' := { f0 3 b with stream := (x1 : Int), off := x2 }) (rv' := .slice none 0 0) rfl).set (i := 3) (v := .int .u64 (x3 : Int)) (f' := { f0 3 b with stream := (x1 : Int), off := x2, rel := x3 }) (rv' := .slice none 0 0) rfl

def rd4 (b : Bool) (bs : List UInt8) (pos : Nat) : Option (Frm × Nat) :=
  (rdStream bs pos).bind fun (x1, p1) => (rdVar bs p1).bind fun (x2, p2) => (rdText bs p2).bind fun (x3, p3) => some ({ f0 4 b with stream := (x1 : Int), off := x2, data := x3 }, p3)

set_option maxHeartbeats 400000 in
theorem read4 (rb fb pos : Nat) (v : Value) (bs : List UInt8) (b : Bool) (w : World) (h : RdAt w rb v pos) (hb : BR w v bs) (hv : OffS (Two rb fb) v) (hp : pos ≤ bs.length) (hf : FrameAt w fb (f0 4 b) (.slice none 0 0)) (hne : fb ≠ rb) :
    Calls Tryz.prog 180 #[.pointer (some ⟨rb, 0, none⟩), .pointer (some ⟨fb, 0, none⟩)] w (RdF w rb v fb (rd4 b bs pos)) := by
  have hv1 : OffS (Only rb) v := fun g o n c e hx => hv g o n c e (.inl hx)
  have W0 : w = w := rfl
  have HM0 := hide (Mod.refl (Only rb) w)
  have Hb := hide hb
  have Hf := hide hf
  have Hv := hide hv1
  have Hne := hide hne
  clear hb hv hf hv1 hne W0
  have c1 := rstream_any rb pos v bs w h (Hb.out) Hv.out hp
  cases hr1 : rdStream bs pos with
  | none =>
    rw [hr1] at c1
    have HR : Hid (rd4 b bs pos = none) := by
      show _ = _
      unfold rd4
      simp only [hr1, Option.bind_some, Option.bind_none]
    clear hr1
    go_enter Tryz.func180, Tryz.ntmps180
    go_wp2_with (go_at_call 176; refine c1.mono ?_; rintro e w' (⟨_, _, hx, _⟩ | ⟨_, he, hm⟩); cases hx; unfold shortE at he; subst he)
    exact ⟨rfl, .inr ⟨HR.out, rfl, mod_two (hm)⟩⟩
  | some q1 =>
    obtain ⟨x1, p1⟩ := q1
    rw [hr1] at c1
    have hp1 : p1 ≤ bs.length := rdStream_end hr1
    have HR1 := hide hr1
    clear hr1
    go_enter Tryz.func180, Tryz.ntmps180
    go_wp2_with fail
    refine c1.mono ?_
    rintro e w1 (⟨_, _, hx, rfl, h1, m1⟩ | ⟨hx, _⟩)
    rotate_left
    · cases hx
    simp only [Option.map_some, Option.some.injEq, Prod.mk.injEq] at hx
    obtain ⟨rfl, rfl⟩ := hx
    have HM1 := hide (HM0.out.trans m1)
    clear c1 m1
    have c2 := rvarint_any rb p1 v bs w1 h1 (Hb.out.mod HM1.out Hv.out) Hv.out hp1
    cases hr2 : rdVar bs p1 with
    | none =>
      rw [hr2] at c2
      have HR : Hid (rd4 b bs pos = none) := by
        show _ = _
        unfold rd4
        simp only [HR1.out, hr2, Option.bind_some, Option.bind_none]
      clear hr2
      go_wp2_with (go_at_call 145; refine c2.mono ?_; rintro e w' (⟨_, _, hx, _⟩ | ⟨_, he, hm⟩); cases hx; unfold shortE at he; subst he)
      exact ⟨rfl, .inr ⟨HR.out, rfl, mod_two (HM1.out.trans hm)⟩⟩
    | some q2 =>
      obtain ⟨x2, p2⟩ := q2
      rw [hr2] at c2
      have hp2 : p2 ≤ bs.length := rdVar_end hr2
      have HR2 := hide hr2
      clear hr2
      go_wp2_with fail
      refine c2.mono ?_
      rintro e w2 (⟨_, _, hx, rfl, h2, m2⟩ | ⟨hx, _⟩)
      rotate_left
      · cases hx
      simp only [Option.map_some, Option.some.injEq, Prod.mk.injEq] at hx
      obtain ⟨rfl, rfl⟩ := hx
      have HM2 := hide (HM1.out.trans m2)
      clear c2 m2
      have c3 := rtext_any rb p2 v bs w2 h2 (Hb.out.mod HM2.out Hv.out) Hv.out hp2
      cases hr3 : rdText bs p2 with
      | none =>
        rw [hr3] at c3
        have HR : Hid (rd4 b bs pos = none) := by
          show _ = _
          unfold rd4
          simp only [HR1.out, HR2.out, hr3, Option.bind_some, Option.bind_none]
        clear hr3
        go_wp2_with (go_at_call 181; refine c3.mono ?_; rintro e w' (⟨_, _, hx, _⟩ | ⟨_, he, hm⟩); cases hx; unfold shortE at he; subst he)
        exact ⟨rfl, .inr ⟨HR.out, rfl, mod_two (HM2.out.trans hm)⟩⟩
      | some q3 =>
        obtain ⟨x3, p3⟩ := q3
        rw [hr3] at c3
        have hp3 : p3 ≤ bs.length := rdText_end hr3
        have HR3 := hide hr3
        clear hr3
        go_wp2_with fail
        refine c3.mono ?_
        rintro e w3 (⟨_, _, hx, rfl, h3, m3⟩ | ⟨hx, _⟩)
        rotate_left
        · cases hx
        simp only [Option.map_some, Option.some.injEq, Prod.mk.injEq] at hx
        obtain ⟨rfl, rfl⟩ := hx
        have HM3 := hide (HM2.out.trans m3)
        clear c3 m3
        have HH := hide h3
        have hF := Hf.out.mod HM3.out Hne.out
        obtain ⟨k0, k1, k2, k3, k4, k5, k6, k7, k8, k9⟩ := hF.cells
        have hfz : ∀ j, w3.frozen? ⟨fb, j, none⟩ = false := fun j => frozen_of_obj hF
        have HF := hide hF
        clear hF h3
        go_wp2_with fail
        refine bodyPost_end (results_none rfl _ _ _) rfl (.inl ⟨{ f0 4 b with stream := (x1 : Int), off := x2, data := x3 }, .slice none 0 0, p3, ?_, rfl, ?_, ?_, OwnR.nil _, NewSl.nil w, (((((((mod_two HM3.out)).setCell (p := ⟨fb, 1, none⟩) (.inl (.inr rfl)) _)).setCell (p := ⟨fb, 2, none⟩) (.inl (.inr rfl)) _)).setCell (p := ⟨fb, 8, none⟩) (.inl (.inr rfl)) _)⟩)
        · unfold rd4
          simp only [HR1.out, HR2.out, HR3.out, Option.bind_some]
        · exact HH.out.mod ((((Mod.refl (fun k => k = fb) _).setCell (p := ⟨fb, 1, none⟩) (.inl rfl) _).setCell (p := ⟨fb, 2, none⟩) (.inl rfl) _).setCell (p := ⟨fb, 8, none⟩) (.inl rfl) _) (fun e => Hne.out e.symm)
        · exact (((HF.out).set (i := 1) (v := .int .i64 (x1 : Int)) (f' := { f0 4 b with stream := (x1 : Int) }) (rv' := .slice none 0 0) rfl).set (i := 2) (v := .int .u64 (x2 : Int)) (f' := { f0 4 b with stream := (x1 : Int), off := x2 }) (rv' := .slice none 0 0) rfl).set (i := 8) (v := .string (strOf x3)) (f' := { f0 4 b with stream := (x1 : Int), off := x2, data := x3 }) (rv' := .slice none 0 0) rfl

def rd6 (b : Bool) (bs : List UInt8) (pos : Nat) : Option (Frm × Nat) :=
  (rdStream bs pos).bind fun (x1, p1) => (rdVar bs p1).bind fun (x2, p2) => some ({ f0 6 b with stream := (x1 : Int), lim := x2 }, p2)

set_option maxHeartbeats 400000 in
theorem read6 (rb fb pos : Nat) (v : Value) (bs : List UInt8) (b : Bool) (w : World) (h : RdAt w rb v pos) (hb : BR w v bs) (hv : OffS (Two rb fb) v) (hp : pos ≤ bs.length) (hf : FrameAt w fb (f0 6 b) (.slice none 0 0)) (hne : fb ≠ rb) :
    Calls Tryz.prog 186 #[.pointer (some ⟨rb, 0, none⟩), .pointer (some ⟨fb, 0, none⟩)] w (RdF w rb v fb (rd6 b bs pos)) := by
  have hv1 : OffS (Only rb) v := fun g o n c e hx => hv g o n c e (.inl hx)
  have W0 : w = w := rfl
  have HM0 := hide (Mod.refl (Only rb) w)
  have Hb := hide hb
  have Hf := hide hf
  have Hv := hide hv1
  have Hne := hide hne
  clear hb hv hf hv1 hne W0
  have c1 := rstream_any rb pos v bs w h (Hb.out) Hv.out hp
  cases hr1 : rdStream bs pos with
  | none =>
    rw [hr1] at c1
    have HR : Hid (rd6 b bs pos = none) := by
      show _ = _
      unfold rd6
      simp only [hr1, Option.bind_some, Option.bind_none]
    clear hr1
    go_enter Tryz.func186, Tryz.ntmps186
    go_wp2_with (go_at_call 176; refine c1.mono ?_; rintro e w' (⟨_, _, hx, _⟩ | ⟨_, he, hm⟩); cases hx; unfold shortE at he; subst he)
    exact ⟨rfl, .inr ⟨HR.out, rfl, mod_two (hm)⟩⟩
  | some q1 =>
    obtain ⟨x1, p1⟩ := q1
    rw [hr1] at c1
    have hp1 : p1 ≤ bs.length := rdStream_end hr1
    have HR1 := hide hr1
    clear hr1
    go_enter Tryz.func186, Tryz.ntmps186
    go_wp2_with fail
    refine c1.mono ?_
    rintro e w1 (⟨_, _, hx, rfl, h1, m1⟩ | ⟨hx, _⟩)
    rotate_left
    · cases hx
    simp only [Option.map_some, Option.some.injEq, Prod.mk.injEq] at hx
    obtain ⟨rfl, rfl⟩ := hx
    have HM1 := hide (HM0.out.trans m1)
    clear c1 m1
    have c2 := rvarint_any rb p1 v bs w1 h1 (Hb.out.mod HM1.out Hv.out) Hv.out hp1
    cases hr2 : rdVar bs p1 with
    | none =>
      rw [hr2] at c2
      have HR : Hid (rd6 b bs pos = none) := by
        show _ = _
        unfold rd6
        simp only [HR1.out, hr2, Option.bind_some, Option.bind_none]
      clear hr2
      go_wp2_with (go_at_call 145; refine c2.mono ?_; rintro e w' (⟨_, _, hx, _⟩ | ⟨_, he, hm⟩); cases hx; unfold shortE at he; subst he)
      exact ⟨rfl, .inr ⟨HR.out, rfl, mod_two (HM1.out.trans hm)⟩⟩
    | some q2 =>
      obtain ⟨x2, p2⟩ := q2
      rw [hr2] at c2
      have hp2 : p2 ≤ bs.length := rdVar_end hr2
      have HR2 := hide hr2
      clear hr2
      go_wp2_with fail
      refine c2.mono ?_
      rintro e w2 (⟨_, _, hx, rfl, h2, m2⟩ | ⟨hx, _⟩)
      rotate_left
      · cases hx
      simp only [Option.map_some, Option.some.injEq, Prod.mk.injEq] at hx
      obtain ⟨rfl, rfl⟩ := hx
      have HM2 := hide (HM1.out.trans m2)
      clear c2 m2
      have HH := hide h2
      have hF := Hf.out.mod HM2.out Hne.out
      obtain ⟨k0, k1, k2, k3, k4, k5, k6, k7, k8, k9⟩ := hF.cells
      have hfz : ∀ j, w2.frozen? ⟨fb, j, none⟩ = false := fun j => frozen_of_obj hF
      have HF := hide hF
      clear hF h2
      go_wp2_with fail
      refine bodyPost_end (results_none rfl _ _ _) rfl (.inl ⟨{ f0 6 b with stream := (x1 : Int), lim := x2 }, .slice none 0 0, p2, ?_, rfl, ?_, ?_, OwnR.nil _, NewSl.nil w, (((((mod_two HM2.out)).setCell (p := ⟨fb, 1, none⟩) (.inl (.inr rfl)) _)).setCell (p := ⟨fb, 4, none⟩) (.inl (.inr rfl)) _)⟩)
      · unfold rd6
        simp only [HR1.out, HR2.out, Option.bind_some]
      · exact HH.out.mod (((Mod.refl (fun k => k = fb) _).setCell (p := ⟨fb, 1, none⟩) (.inl rfl) _).setCell (p := ⟨fb, 4, none⟩) (.inl rfl) _) (fun e => Hne.out e.symm)
      · exact ((HF.out).set (i := 1) (v := .int .i64 (x1 : Int)) (f' := { f0 6 b with stream := (x1 : Int) }) (rv' := .slice none 0 0) rfl).set (i := 4) (v := .int .u64 (x2 : Int)) (f' := { f0 6 b with stream := (x1 : Int), lim := x2 }) (rv' := .slice none 0 0) rfl

def rd7 (b : Bool) (bs : List UInt8) (pos : Nat) : Option (Frm × Nat) :=
  (rdVar bs pos).bind fun (x1, p1) => (rdVar bs p1).bind fun (x2, p2) => (rdText bs p2).bind fun (x3, p3) => some ({ f0 7 b with id := x1, dl := x2, data := x3 }, p3)

set_option maxHeartbeats 400000 in
theorem read7 (rb fb pos : Nat) (v : Value) (bs : List UInt8) (b : Bool) (w : World) (h : RdAt w rb v pos) (hb : BR w v bs) (hv : OffS (Two rb fb) v) (hp : pos ≤ bs.length) (hf : FrameAt w fb (f0 7 b) (.slice none 0 0)) (hne : fb ≠ rb) :
    Calls Tryz.prog 188 #[.pointer (some ⟨rb, 0, none⟩), .pointer (some ⟨fb, 0, none⟩)] w (RdF w rb v fb (rd7 b bs pos)) := by
  have hv1 : OffS (Only rb) v := fun g o n c e hx => hv g o n c e (.inl hx)
  have W0 : w = w := rfl
  have HM0 := hide (Mod.refl (Only rb) w)
  have Hb := hide hb
  have Hf := hide hf
  have Hv := hide hv1
  have Hne := hide hne
  clear hb hv hf hv1 hne W0
  have c1 := rvarint_any rb pos v bs w h (Hb.out) Hv.out hp
  cases hr1 : rdVar bs pos with
  | none =>
    rw [hr1] at c1
    have HR : Hid (rd7 b bs pos = none) := by
      show _ = _
      unfold rd7
      simp only [hr1, Option.bind_some, Option.bind_none]
    clear hr1
    go_enter Tryz.func188, Tryz.ntmps188
    go_wp2_with (go_at_call 145; refine c1.mono ?_; rintro e w' (⟨_, _, hx, _⟩ | ⟨_, he, hm⟩); cases hx; unfold shortE at he; subst he)
    exact ⟨rfl, .inr ⟨HR.out, rfl, mod_two (hm)⟩⟩
  | some q1 =>
    obtain ⟨x1, p1⟩ := q1
    rw [hr1] at c1
    have hp1 : p1 ≤ bs.length := rdVar_end hr1
    have HR1 := hide hr1
    clear hr1
    go_enter Tryz.func188, Tryz.ntmps188
    go_wp2_with fail
    refine c1.mono ?_
    rintro e w1 (⟨_, _, hx, rfl, h1, m1⟩ | ⟨hx, _⟩)
    rotate_left
    · cases hx
    simp only [Option.map_some, Option.some.injEq, Prod.mk.injEq] at hx
    obtain ⟨rfl, rfl⟩ := hx
    have HM1 := hide (HM0.out.trans m1)
    clear c1 m1
    have c2 := rvarint_any rb p1 v bs w1 h1 (Hb.out.mod HM1.out Hv.out) Hv.out hp1
    cases hr2 : rdVar bs p1 with
    | none =>
      rw [hr2] at c2
      have HR : Hid (rd7 b bs pos = none) := by
        show _ = _
        unfold rd7
        simp only [HR1.out, hr2, Option.bind_some, Option.bind_none]
      clear hr2
      go_wp2_with (go_at_call 145; refine c2.mono ?_; rintro e w' (⟨_, _, hx, _⟩ | ⟨_, he, hm⟩); cases hx; unfold shortE at he; subst he)
      exact ⟨rfl, .inr ⟨HR.out, rfl, mod_two (HM1.out.trans hm)⟩⟩
    | some q2 =>
      obtain ⟨x2, p2⟩ := q2
      rw [hr2] at c2
      have hp2 : p2 ≤ bs.length := rdVar_end hr2
      have HR2 := hide hr2
      clear hr2
      go_wp2_with fail
      refine c2.mono ?_
      rintro e w2 (⟨_, _, hx, rfl, h2, m2⟩ | ⟨hx, _⟩)
      rotate_left
      · cases hx
      simp only [Option.map_some, Option.some.injEq, Prod.mk.injEq] at hx
      obtain ⟨rfl, rfl⟩ := hx
      have HM2 := hide (HM1.out.trans m2)
      clear c2 m2
      have c3 := rtext_any rb p2 v bs w2 h2 (Hb.out.mod HM2.out Hv.out) Hv.out hp2
      cases hr3 : rdText bs p2 with
      | none =>
        rw [hr3] at c3
        have HR : Hid (rd7 b bs pos = none) := by
          show _ = _
          unfold rd7
          simp only [HR1.out, HR2.out, hr3, Option.bind_some, Option.bind_none]
        clear hr3
        go_wp2_with (go_at_call 181; refine c3.mono ?_; rintro e w' (⟨_, _, hx, _⟩ | ⟨_, he, hm⟩); cases hx; unfold shortE at he; subst he)
        exact ⟨rfl, .inr ⟨HR.out, rfl, mod_two (HM2.out.trans hm)⟩⟩
      | some q3 =>
        obtain ⟨x3, p3⟩ := q3
        rw [hr3] at c3
        have hp3 : p3 ≤ bs.length := rdText_end hr3
        have HR3 := hide hr3
        clear hr3
        go_wp2_with fail
        refine c3.mono ?_
        rintro e w3 (⟨_, _, hx, rfl, h3, m3⟩ | ⟨hx, _⟩)
        rotate_left
        · cases hx
        simp only [Option.map_some, Option.some.injEq, Prod.mk.injEq] at hx
        obtain ⟨rfl, rfl⟩ := hx
        have HM3 := hide (HM2.out.trans m3)
        clear c3 m3
        have HH := hide h3
        have hF := Hf.out.mod HM3.out Hne.out
        obtain ⟨k0, k1, k2, k3, k4, k5, k6, k7, k8, k9⟩ := hF.cells
        have hfz : ∀ j, w3.frozen? ⟨fb, j, none⟩ = false := fun j => frozen_of_obj hF
        have HF := hide hF
        clear hF h3
        go_wp2_with fail
        refine bodyPost_end (results_none rfl _ _ _) rfl (.inl ⟨{ f0 7 b with id := x1, dl := x2, data := x3 }, .slice none 0 0, p3, ?_, rfl, ?_, ?_, OwnR.nil _, NewSl.nil w, (((((((mod_two HM3.out)).setCell (p := ⟨fb, 6, none⟩) (.inl (.inr rfl)) _)).setCell (p := ⟨fb, 7, none⟩) (.inl (.inr rfl)) _)).setCell (p := ⟨fb, 8, none⟩) (.inl (.inr rfl)) _)⟩)
        · unfold rd7
          simp only [HR1.out, HR2.out, HR3.out, Option.bind_some]
        · exact HH.out.mod ((((Mod.refl (fun k => k = fb) _).setCell (p := ⟨fb, 6, none⟩) (.inl rfl) _).setCell (p := ⟨fb, 7, none⟩) (.inl rfl) _).setCell (p := ⟨fb, 8, none⟩) (.inl rfl) _) (fun e => Hne.out e.symm)
        · exact (((HF.out).set (i := 6) (v := .int .u64 (x1 : Int)) (f' := { f0 7 b with id := x1 }) (rv' := .slice none 0 0) rfl).set (i := 7) (v := .int .u64 (x2 : Int)) (f' := { f0 7 b with id := x1, dl := x2 }) (rv' := .slice none 0 0) rfl).set (i := 8) (v := .string (strOf x3)) (f' := { f0 7 b with id := x1, dl := x2, data := x3 }) (rv' := .slice none 0 0) rfl

end Go.Proofs.YtddfdpbaiedcjabGreatDoor
/- How a frame of one number is read, and an answer's ranges. -/
namespace Go.Proofs.YtddfdpbaiedcjabGreatDoor
open Go.RowKit

def rdNumF (k : Int) (b : Bool) (bs : List UInt8) (pos : Nat) : Option (Frm × Nat) := (rdVar bs pos).bind fun (x1, p1) => some ({ f0 k b with lim := x1 }, p1)

theorem read_num (rb fb ab pos : Nat) (k : Int) (v : Value) (bs : List UInt8) (b : Bool) (w : World) (h : RdAt w rb v pos) (hb : BR w v bs) (hv : OffS (Two rb fb) v) (hp : pos ≤ bs.length) (hf : FrameAt w fb (f0 k b) (.slice none 0 0)) (hne : fb ≠ rb)
    (hab : w.cell? ⟨ab, 0, none⟩ = some (.func (.func 184) #[] #[])) :
    Calls Tryz.prog 192 #[.pointer (some ⟨rb, 0, none⟩), .pointer (some ⟨fb, 0, none⟩), .pointer (some ⟨ab, 0, none⟩)] w (RdF w rb v fb (rdNumF k b bs pos)) := by
  have hv1 : OffS (Only rb) v := fun g o n c e hx => hv g o n c e (.inl hx)
  have c1 := rvarint_any rb pos v bs w h hb hv1 hp
  have Hf := hide hf
  have Hne := hide hne
  clear hb hv hf hv1 hne h
  cases hr1 : rdVar bs pos with
  | none =>
    rw [hr1] at c1
    have HR : Hid (rdNumF k b bs pos = none) := by show _ = _; unfold rdNumF; rw [hr1]; rfl
    clear hr1
    go_enter Tryz.func192, Tryz.ntmps192
    go_wp2_with (first | (go_at_call 184; refine (limit_any _ _).mono ?_; rintro e w' ⟨rfl, rfl⟩) | (go_at_call 145; refine c1.mono ?_; rintro e w' (⟨_, _, hx, _⟩ | ⟨_, he, hm⟩); cases hx; unfold shortE at he; subst he))
    exact ⟨rfl, .inr ⟨HR.out, rfl, mod_two hm⟩⟩
  | some q1 =>
    obtain ⟨x1, p1⟩ := q1
    rw [hr1] at c1
    have HR1 := hide hr1
    clear hr1
    go_enter Tryz.func192, Tryz.ntmps192
    go_wp2_with (go_at_call 184; refine (limit_any _ _).mono ?_; rintro e w' ⟨rfl, rfl⟩)
    refine c1.mono ?_
    rintro e w1 (⟨_, _, hx, rfl, h1, m1⟩ | ⟨hx, _⟩)
    rotate_left
    · cases hx
    simp only [Option.map_some, Option.some.injEq, Prod.mk.injEq] at hx
    obtain ⟨rfl, rfl⟩ := hx
    have HM1 := hide m1
    have HH := hide h1
    have hF := Hf.out.mod m1 Hne.out
    obtain ⟨k0, k1, k2, k3, k4, k5, k6, k7, k8, k9⟩ := hF.cells
    have hfz : ∀ j, w1.frozen? ⟨fb, j, none⟩ = false := fun j => frozen_of_obj hF
    have HF := hide hF
    clear hF h1 c1 m1
    go_wp2_with fail
    refine bodyPost_end (results_none rfl _ _ _) rfl (.inl ⟨{ f0 k b with lim := x1 }, .slice none 0 0, p1, ?_, rfl, ?_, ?_, OwnR.nil _, NewSl.nil w, ((mod_two HM1.out).setCell (p := ⟨fb, 4, none⟩) (.inl (.inr rfl)) _)⟩)
    · unfold rdNumF
      simp only [HR1.out, Option.bind_some]
    · exact HH.out.mod ((Mod.refl (fun k => k = fb) _).setCell (p := ⟨fb, 4, none⟩) (.inl rfl) _) (fun e => Hne.out e.symm)
    · exact (HF.out).set (i := 4) (v := .int .u64 (x1 : Int)) (f' := { f0 k b with lim := x1 }) (rv' := .slice none 0 0) rfl

/-- The ranges from the first on. -/
def rdAckF (bs : List UInt8) : Nat → Nat → Nat → Nat → Nat → Rngs → Option (Rngs × Nat)
  | 0, _, _, _, _, _ => none
  | fuel + 1, hi, n, size, pos, acc =>
    if hi < size then none
    else if n = 0 then some (acc ++ [(hi - size, hi)], pos)
    else (rdVar bs pos).bind fun q1 => (rdVar bs q1.2).bind fun q2 =>
      if hi - size < 2 ∨ hi - size - 2 < q1.1 then none else rdAckF bs fuel (hi - size - 2 - q1.1) (n - 1) q2.1 q2.2 (acc ++ [(hi - size, hi)])

def rd2 (b : Bool) (bs : List UInt8) (pos : Nat) : Option (Frm × Nat) :=
  (rdVar bs pos).bind fun q1 => (rdVar bs q1.2).bind fun q2 => (rdVar bs q2.2).bind fun q3 =>
    (rdAckF bs (bs.length + 1) q1.1 q2.1 q3.1 q3.2 []).bind fun r => some ({ f0 2 b with rngs := r.1 }, r.2)

theorem info_range : (Tryz.prog.info? 110).map (fun i => (i.zero, i.size, i.bytes)) = some (some (.agg #[.int .u64 0, .int .u64 0]), 2, 16) := by kernel_rfl

theorem rlit_app (w : World) (v : Value) (rs : Rngs) (lo hi : Nat) (h : w.ownsRow 0 110 2 v rs.length (rcells rs)) (hl : rs.length ≤ 1099511627776) :
    ∃ v' w', (∀ ty, (Builtin.append_ #[46, 46] ty #[v, .slice (some ⟨w.heap.size, 0, none⟩) 1 1]).run Tryz.prog (w.alloc (.cells #[.int .u64 (lo : Int), .int .u64 (hi : Int)] 110)) = .ok v' w') ∧
      w'.ownsRow 0 110 2 v' (rs ++ [(lo, hi)]).length (rcells (rs ++ [(lo, hi)])) ∧ w.grownBy w' v.ownBlock ∧ NewOr w v v' := by
  obtain ⟨i, hi1, hz, hz1, hz2⟩ := info_parts info_range
  have hcell : ∀ (j : Nat) u, (rcells [(lo, hi)])[j]? = some u → (w.alloc (.cells #[.int .u64 (lo : Int), .int .u64 (hi : Int)] 110)).cell? ((⟨w.heap.size, 0, none⟩ : Addr).add j) = some u := by
    intro j u hj
    rw [addr_add]
    refine cell_of_obj (heap_alloc_new w _) ?_
    rw [Nat.zero_add, ← Array.getElem?_toList]
    exact hj
  obtain ⟨v', w', h1, h2, h3, h4, h5⟩ := run_append_kept (P := Tryz.prog) (w.alloc (.cells #[.int .u64 (lo : Int), .int .u64 (hi : Int)] 110)) 46 110 i (.agg #[.int .u64 0, .int .u64 0]) 2 16 Tryz.underlying46 hi1 hz hz1 hz2 rfl (by decide) v rs.length (rcells rs) (World.ownsRow.alloc h _)
    ⟨w.heap.size, 0, none⟩ 1 1 (rcells [(lo, hi)]) rfl hcell (by intro u hu; simp [rcells] at hu; rcases hu with rfl | rfl <;> rfl) (by unfold maxLen; omega) (by omega)
  refine ⟨v', w', h1, ?_, ?_, ?_⟩
  · rw [List.length_append, rcells_append]
    exact h2
  · exact ⟨h3.os, h3.tape, h3.output, Nat.le_trans (by simp) h3.size, fun k hk hn => (h3.block k (by simp; omega) hn).trans (Below.heap_alloc w _ k hk)⟩
  · intro k hk
    rcases h4 k hk with x | x
    · exact .inl x
    · exact .inr (by simp at x; omega)

end Go.Proofs.YtddfdpbaiedcjabGreatDoor
