/- The statement Gathered, second form, its card: where what the law reads is of bulk at most 1048576, and the two listed variables read as listed, it returns true, and its argument reads behind the call as before. Part 4 of 23. -/
import Derived.Test.YtddfdpbaiedcjabGreatDoorGatheredPart1
import Derived.Lib.AppendStr
import Derived.Test.YtddfdpbaiedcjabGreatDoorRows
import Derived.WalkKit
import Derived.Deep.QuietTactic
import Derived.BigQuiet
import Derived.WalkSpells
import Derived.LoopTactic
import Derived.Outline
import Derived.Laws.Bits64
/- Slices of bytes that are owned; append onto them. No program but its types. -/
namespace Go.Proofs.YtddfdpbaiedcjabGreatDoor
open Go.RowKit

section
variable {P : Program}

/-- append onto a row that is owned: where the result lies is told; what was appended to still owns what it owned. -/
theorem run_append_kept (w : World) (t e : Nat) (i : TypeInfo) (z : Value) (size bytes : Nat) (ht : P.underlying t = some (.slice e)) (hi : P.info? e = some i) (hz : i.zero = some z)
    (hsize : i.size = size) (hby : i.bytes = bytes) (hzs : z.cells.size = size) (hsz : 0 < size)
    (v : Value) (n : Nat) (xs : List Value) (hown : w.ownsRow 0 e size v n xs)
    (a : Addr) (m c : Nat) (news : List Value) (hl : news.length = m * size) (hnews : ∀ j u, news[j]? = some u → w.cell? (a.add j) = some u) (h1 : ∀ u ∈ news, u.oneCell' = true)
    (h63 : n + m ≤ maxLen) (hbytes : (n + m) * bytes ≤ 140737488355328) :
    ∃ v' w', (∀ ty, (Builtin.append_ #[t, t] ty #[v, .slice (some a) m c]).run P w = .ok v' w') ∧ w'.ownsRow 0 e size v' (n + m) (xs ++ news) ∧ w.grownBy w' v.ownBlock ∧ NewOr w v v' ∧ w'.ownsRow 0 e size v n xs := by
  subst hsize
  subst hby
  have hsmall : n + m ≤ 9223372036854775807 := by simp only [maxLen] at h63; omega
  have hlen : (xs ++ news).length = (n + m) * i.size := by rw [List.length_append, hown.1, hl, Nat.add_mul]
  have grown : ∀ (old : Nat), old < n + m → ∀ (row : Option Nat),
      (w.drew.alloc (.cells (xs.toArray ++ news.toArray ++ Builtin.zeroCells z.cells (grownCap w (n + m) old e - (n + m))) e)).ownsRow 0 e i.size
        (.slice (some ⟨w.heap.size, 0, none⟩) (n + m) (grownCap w (n + m) old e)) (n + m) (xs ++ news) ∧
      w.grownBy (w.drew.alloc (.cells (xs.toArray ++ news.toArray ++ Builtin.zeroCells z.cells (grownCap w (n + m) old e - (n + m))) e)) row := by
    intro old ho row
    have hge := grownCap_ge w (n + m) old e
    have hcm : grownCap w (n + m) old e ≤ maxLen := grownCap_le_maxLen w (n + m) old e h63
    refine ⟨⟨hlen, .inr ⟨w.heap.size, _, _, rfl, Nat.zero_le _, heap_alloc_new w.drew _, hge, hcm, ?_, ?_⟩⟩, ⟨rfl, rfl, rfl, by simp, fun k hk _ => Below.heap_alloc w.drew _ k hk⟩⟩
    · simp only [Array.size_append, List.size_toArray, size_zeroCells, hzs, hown.1, hl, ← Nat.add_mul]
      congr 1
      omega
    · simp only [Array.toList_append, List.append_assoc]
      rw [← List.append_assoc, ← hlen]
      exact List.take_left
  have fresh : ∀ c n v, NewOr w v (.slice (some ⟨w.heap.size, 0, none⟩) n c) := fun c n v k hk => by
    simp [Value.ownBlock] at hk
    omega
  rcases hown.2 with ⟨rfl, rfl⟩ | ⟨g, cap, cur, rfl, hbg, hg, hnc, hcm, hcs, htake⟩
  · have hx : xs = [] := List.eq_nil_of_length_eq_zero (by simpa using hown.1)
    subst hx
    by_cases hm : m = 0
    · subst hm
      have hn : news = [] := List.eq_nil_of_length_eq_zero (by simpa using hl)
      subst hn
      refine ⟨.slice none 0 0, w, fun ty => ?_, World.ownsRow_nil w 0 e i.size, ⟨rfl, rfl, rfl, Nat.le_refl _, fun _ _ _ => rfl⟩, NewOr.refl _ _, World.ownsRow_nil w 0 e i.size⟩
      simp [Builtin.append_, run_underlying ht, sizeOf, typeInfo, hi, Builtin.lenOf, Builtin.firstCells, loadCells, loadCellsFrom]
    · have hr := fun ty => run_append_nil (P := P) w t ty e i z ht hi hz a m c news hl hnews (by omega) (by omega) (by have hb := hbytes; simp only [Nat.zero_add] at hb; omega)
      have hgr := grown 0 (by omega) (Value.ownBlock (.slice none 0 0))
      simp only [Nat.zero_add, List.nil_append, Array.empty_append] at hgr ⊢
      exact ⟨_, _, hr, hgr.1, hgr.2, fresh _ _ _, World.ownsRow_nil _ 0 e i.size⟩
  · by_cases hroom : n + m ≤ cap
    · have hfit : n * i.size + news.length ≤ cur.size := by rw [hl, hcs, ← Nat.add_mul]; exact Nat.mul_le_mul_right _ hroom
      have hr := fun ty => run_append_room (P := P) w t ty e i ht hi g n cap cur hg a m c news hl hnews h1 hroom hfit
      refine ⟨_, _, hr, ⟨hlen, .inr ⟨g, cap, _, rfl, hbg, setRow_heap w g cur _ e _ hg, hroom, hcm, ?_, ?_⟩⟩, ⟨rfl, rfl, rfl, by simp, fun k _ hk => setRow_other w g k _ (fun e => hk (by simp [Value.ownBlock, e]))⟩, fun k hk => .inl hk, ⟨hown.1, .inr ⟨g, cap, _, rfl, hbg, setRow_heap w g cur _ e _ hg, hnc, hcm, ?_, ?_⟩⟩⟩
      · simp only [List.size_toArray, List.length_append, List.length_take, List.length_drop, Array.length_toList]
        omega
      · rw [htake, ← hlen]
        exact List.take_left
      · simp only [List.size_toArray, List.length_append, List.length_take, List.length_drop, Array.length_toList]
        omega
      · rw [htake, ← hown.1, List.append_assoc]
        exact List.take_left
    · have holds : ∀ j u, xs[j]? = some u → w.cell? ((⟨g, 0, none⟩ : Addr).add j) = some u := hown.cells (g := g) rfl
      have hr := fun ty => run_append_grow (P := P) w t ty e i z ht hi hz ⟨g, 0, none⟩ n cap xs hown.1 holds a m c news hl hnews (by omega) (by omega) (growslice_fits (by omega) hbytes)
      have hgr := grown cap (by omega) (Value.ownBlock (.slice (some ⟨g, 0, none⟩) n cap))
      have hgn := grown cap (by omega) none
      exact ⟨_, _, hr, hgr.1, hgr.2, fresh _ _ _, hown.kept hgn.2 (by simp [Value.ownBlock])⟩


/-- The same of a string onto a row of bytes. -/
theorem run_append_str_kept (w : World) (t u e : Nat) (i : TypeInfo) (ht : P.underlying t = some (.slice e)) (hu : P.underlying u = some .string) (hi : P.info? e = some i) (hz : i.zero = some (.int .u8 0))
    (hsize : i.size = 1) (hby : i.bytes = 1) (v : Value) (n : Nat) (xs : List Value) (hown : w.ownsRow 0 e 1 v n xs) (s : ByteArray) (h63 : n + s.size ≤ maxLen) (hbytes : n + s.size ≤ 140737488355328) :
    ∃ v' w', (∀ ty, (Builtin.append_ #[t, u] ty #[v, .string s]).run P w = .ok v' w') ∧ w'.ownsRow 0 e 1 v' (n + s.size) (xs ++ Lib.strCells s) ∧ w.grownBy w' v.ownBlock ∧ NewOr w v v' ∧ w'.ownsRow 0 e 1 v n xs := by
  have hsmall : n + s.size ≤ 9223372036854775807 := by simp only [maxLen] at h63; omega
  have hxl : xs.length = n := by simpa using hown.1
  have hlen : (xs ++ Lib.strCells s).length = (n + s.size) * 1 := by rw [List.length_append, hxl, Lib.strCells_length, Nat.mul_one]
  have grown : ∀ (old : Nat), old < n + s.size → ∀ (row : Option Nat),
      (w.drew.alloc (.cells (xs.toArray ++ (Lib.strCells s).toArray ++ Builtin.zeroCells (Value.int .u8 0).cells (grownCap w (n + s.size) old e - (n + s.size))) e)).ownsRow 0 e 1
        (.slice (some ⟨w.heap.size, 0, none⟩) (n + s.size) (grownCap w (n + s.size) old e)) (n + s.size) (xs ++ Lib.strCells s) ∧
      w.grownBy (w.drew.alloc (.cells (xs.toArray ++ (Lib.strCells s).toArray ++ Builtin.zeroCells (Value.int .u8 0).cells (grownCap w (n + s.size) old e - (n + s.size))) e)) row := by
    intro old ho row
    have hge := grownCap_ge w (n + s.size) old e
    have hcm : grownCap w (n + s.size) old e ≤ maxLen := grownCap_le_maxLen w (n + s.size) old e h63
    refine ⟨⟨hlen, .inr ⟨w.heap.size, _, _, rfl, Nat.zero_le _, heap_alloc_new w.drew _, hge, hcm, ?_, ?_⟩⟩, ⟨rfl, rfl, rfl, by simp, fun k hk _ => Below.heap_alloc w.drew _ k hk⟩⟩
    · have hz1 : (Value.int IntKind.u8 0).cells.size = 1 := rfl
      simp only [Array.size_append, List.size_toArray, size_zeroCells, hz1, hxl, Lib.strCells_length]
      omega
    · simp only [Array.toList_append, List.append_assoc]
      rw [← List.append_assoc, ← hlen]
      exact List.take_left
  have fresh : ∀ c n v, NewOr w v (.slice (some ⟨w.heap.size, 0, none⟩) n c) := fun c n v k hk => by
    simp [Value.ownBlock] at hk
    omega
  rcases hown.2 with ⟨rfl, rfl⟩ | ⟨g, cap, cur, rfl, hbg, hg, hnc, hcm, hcs, htake⟩
  · have hx : xs = [] := List.eq_nil_of_length_eq_zero hxl
    subst hx
    by_cases hm : s.size = 0
    · have hn : Lib.strCells s = [] := List.eq_nil_of_length_eq_zero (by rw [Lib.strCells_length]; exact hm)
      refine ⟨.slice none 0 0, w, fun ty => ?_, by rw [hm, hn]; exact World.ownsRow_nil w 0 e 1, ⟨rfl, rfl, rfl, Nat.le_refl _, fun _ _ _ => rfl⟩, NewOr.refl _ _, World.ownsRow_nil w 0 e 1⟩
      have hf := Lib.run_firstCells_string (P := P) w 1 s
      rw [hm] at hf
      simp [Builtin.append_, run_underlying ht, run_underlying hu, sizeOf, typeInfo, hi, hsize, Builtin.lenOf, hm, hf]
    · have hr := fun ty => run_append_nil_string (P := P) w t u ty e i (.int .u8 0) ht hu hi hz s (by omega) (by omega) (by rw [hby]; omega)
      have hgr := grown 0 (by omega) (Value.ownBlock (.slice none 0 0))
      simp only [Nat.zero_add, List.nil_append, Array.empty_append] at hgr ⊢
      have e1 : (s.data.map fun b => Value.int .u8 b.toNat) = (Lib.strCells s).toArray := by
        apply Array.ext'
        simp [Lib.strCells]
      rw [e1] at hr
      exact ⟨_, _, hr, hgr.1, hgr.2, fresh _ _ _, World.ownsRow_nil _ 0 e 1⟩
  · by_cases hroom : n + s.size ≤ cap
    · have hcs' : cur.size = cap := by simpa using hcs
      have ht' : cur.toList.take n = xs := by simpa using htake
      have hr := fun ty => Lib.run_append_room_string (P := P) w t u ty e i ht hu hi hsize g n cap cur hg s hroom (by omega)
      refine ⟨_, _, hr, ⟨hlen, .inr ⟨g, cap, _, rfl, hbg, setRow_heap w g cur _ e _ hg, hroom, hcm, ?_, ?_⟩⟩, ⟨rfl, rfl, rfl, by simp, fun k _ hk => setRow_other w g k _ (fun e => hk (by simp [Value.ownBlock, e]))⟩, fun k hk => .inl hk, ⟨hown.1, .inr ⟨g, cap, _, rfl, hbg, setRow_heap w g cur _ e _ hg, hnc, hcm, ?_, ?_⟩⟩⟩
      · simp only [List.size_toArray, List.length_append, List.length_take, List.length_drop, Array.length_toList, Lib.strCells_length]
        omega
      · rw [ht', ← hlen]
        exact List.take_left
      · simp only [List.size_toArray, List.length_append, List.length_take, List.length_drop, Array.length_toList, Lib.strCells_length]
        omega
      · rw [ht', ← hown.1, List.append_assoc]
        exact List.take_left
    · have holds : ∀ j u, xs[j]? = some u → w.cell? ((⟨g, 0, none⟩ : Addr).add j) = some u := hown.cells (g := g) rfl
      have hr := fun ty => Lib.run_append_grow_string (P := P) w t u ty e i (.int .u8 0) ht hu hi hz ⟨g, 0, none⟩ n cap xs (by rw [hsize]; simpa using hxl) holds s (by omega) (by omega) (by rw [hby]; exact growslice_fits (by omega) (by omega))
      have hgr := grown cap (by omega) (Value.ownBlock (.slice (some ⟨g, 0, none⟩) n cap))
      have hgn := grown cap (by omega) none
      exact ⟨_, _, hr, hgr.1, hgr.2, fresh _ _ _, hown.kept hgn.2 (by simp [Value.ownBlock])⟩
end

/-- The cells of a list of bytes. -/
def bcells (l : List UInt8) : List Value := l.map fun c => .int .u8 (c.toNat : Int)

theorem bcells_length (l : List UInt8) : (bcells l).length = l.length := by simp [bcells]
theorem bcells_append (a b : List UInt8) : bcells (a ++ b) = bcells a ++ bcells b := by simp [bcells]
theorem bcells_one (l : List UInt8) : ∀ u ∈ bcells l, u.oneCell' = true := by
  intro u hu
  simp only [bcells, List.mem_map] at hu
  obtain ⟨_, _, rfl⟩ := hu
  rfl
theorem strCells_is (s : ByteArray) : Lib.strCells s = bcells s.data.toList := rfl

/-- The slice owns these bytes. -/
def OB (w : World) (v : Value) (l : List UInt8) : Prop := w.ownsRow 0 5 1 v l.length (bcells l)

theorem OB.nil (w : World) : OB w (.slice none 0 0) [] := World.ownsRow_nil w 0 _ 1

/-- What an append leaves: the new slice owns both; the old one still owns its own; what else was there has not turned. -/
structure App (w : World) (v : Value) (l new : List UInt8) (v' : Value) (w' : World) : Prop where
  own : OB w' v' (l ++ new)
  old : OB w' v l
  grown : w.grownBy w' v.ownBlock
  at_ : NewOr w v v'

theorem own_prefix {w w' : World} {e sz n m : Nat} {v v' : Value} {xs ys : List Value} (h : w.ownsRow 0 e sz v n xs) (h' : w.ownsRow 0 e sz v' m (xs ++ ys)) (hb : v'.ownBlock = v.ownBlock) (k : w'.ownsRow 0 e sz v' m (xs ++ ys)) :
    w'.ownsRow 0 e sz v n xs := by
  rcases h.2 with ⟨rfl, rfl⟩ | ⟨g, cap, cur, rfl, hbg, hg, hnc, hcm, hcs, htake⟩
  · have : xs = [] := List.eq_nil_of_length_eq_zero (by simpa using h.1)
    subst this
    exact World.ownsRow_nil w' 0 e sz
  · rcases h'.2 with ⟨rfl, _⟩ | ⟨g', cap', cur', rfl, _, hg', hnc', hcm', hcs', htake'⟩
    · simp [Value.ownBlock] at hb
    · simp [Value.ownBlock] at hb
      subst hb
      rw [hg] at hg'
      cases hg'
      rcases k.2 with ⟨hv, _⟩ | ⟨g2, cap2, cur2, hv, _, hg2, hnc2, hcm2, hcs2, htake2⟩
      · cases hv
      · cases hv
        refine ⟨h.1, .inr ⟨g', cap, cur2, rfl, Nat.zero_le _, hg2, hnc, hcm, by rw [hcs2, ← hcs', hcs], ?_⟩⟩
        have e1 := h.1
        have e2 : (cur2.toList.take (m * sz)).take (n * sz) = (xs ++ ys).take (n * sz) := by rw [htake2]
        rw [List.take_take, ← e1, List.take_left] at e2
        have e3 := k.1
        simp only [List.length_append] at e3
        rwa [Nat.min_eq_left (by omega), e1] at e2

theorem App.refl {w : World} {v : Value} {l : List UInt8} (h : OB w v l) : App w v l [] v w :=
  ⟨by simpa using h, h, ⟨rfl, rfl, rfl, Nat.le_refl _, fun _ _ _ => rfl⟩, NewOr.refl _ _⟩

theorem App.trans {w w1 w2 : World} {v v1 v2 : Value} {l a b : List UInt8} (h : App w v l a v1 w1) (k : App w1 v1 (l ++ a) b v2 w2) : App w v l (a ++ b) v2 w2 := by
  have hgr : w.grownBy w2 v.ownBlock := ⟨k.grown.os.trans h.grown.os, k.grown.tape.trans h.grown.tape, k.grown.output.trans h.grown.output, Nat.le_trans h.grown.size k.grown.size, fun i hi hn =>
    (k.grown.block i (Nat.lt_of_lt_of_le hi h.grown.size) (fun e => by
      rcases h.at_ i e.symm with x | x
      · exact hn x.symm
      · omega)).trans (h.grown.block i hi hn)⟩
  refine ⟨by rw [← List.append_assoc]; exact k.own, ?_, hgr, fun i hi => ?_⟩
  · by_cases hb : v1.ownBlock = v.ownBlock
    · have h1 := h.own
      have h2 := k.old
      unfold OB at h1 h2 ⊢
      rw [bcells_append] at h1 h2
      exact own_prefix h.old h1 hb h2
    · refine h.old.kept k.grown ?_
      cases hv : v.ownBlock with
      | none => simp
      | some g => simpa [hv] using fun e => hb (e.symm.trans hv.symm)
  · rcases k.at_ i hi with x | x
    · exact h.at_ i x
    · exact .inr (Nat.le_trans h.grown.size x)
end Go.Proofs.YtddfdpbaiedcjabGreatDoor
/- wire.Varint, wire.text, wire.Seal: bytes behind bytes. -/
namespace Go.Proofs.YtddfdpbaiedcjabGreatDoor
open Go.RowKit

/-- A number as 1, 2, 4, 8 bytes. -/
def vint (n : Nat) : List UInt8 :=
  if n < 64 then [UInt8.ofNat n]
  else if n < 16384 then [UInt8.ofNat (n / 256 + 64), UInt8.ofNat n]
  else if n < 1073741824 then [UInt8.ofNat (n / 16777216 + 128), UInt8.ofNat (n / 65536), UInt8.ofNat (n / 256), UInt8.ofNat n]
  else [UInt8.ofNat (n / 72057594037927936 + 192), UInt8.ofNat (n / 281474976710656), UInt8.ofNat (n / 1099511627776), UInt8.ofNat (n / 4294967296), UInt8.ofNat (n / 16777216), UInt8.ofNat (n / 65536), UInt8.ofNat (n / 256), UInt8.ofNat n]

theorem info_u8 : (Tryz.prog.info? 5).map (fun i => (i.zero, i.size, i.bytes)) = some (some (.int .u8 0), 1, 1) := by kernel_rfl

theorem lit_app (w : World) (v : Value) (l new : List UInt8) (cs : Array Value) (m : Nat) (h : OB w v l) (hcs : cs.toList = bcells new) (hm : new.length = m) (hl : l.length + m ≤ 140737488355328) :
    ∃ v' w', (∀ ty, (Builtin.append_ #[44, 44] ty #[v, .slice (some ⟨w.heap.size, 0, none⟩) m m]).run Tryz.prog (w.alloc (.cells cs 5)) = .ok v' w') ∧ App w v l new v' w' := by
  obtain ⟨i, hi, hz, hz1, hz2⟩ := info_parts info_u8
  have hown : (w.alloc (.cells cs 5)).ownsRow 0 5 1 v l.length (bcells l) := World.ownsRow.alloc h _
  have hcell : ∀ (j : Nat) u, (bcells new)[j]? = some u → (w.alloc (.cells cs 5)).cell? ((⟨w.heap.size, 0, none⟩ : Addr).add j) = some u := by
    intro j u hj
    rw [addr_add]
    refine cell_of_obj (heap_alloc_new w _) ?_
    rw [Nat.zero_add, ← Array.getElem?_toList, hcs]
    exact hj
  obtain ⟨v', w', h1, h2, h3, h4, h5⟩ := run_append_kept (P := Tryz.prog) (w.alloc (.cells cs 5)) 44 5 i (.int .u8 0) 1 1 Tryz.underlying44 hi hz hz1 hz2 rfl (by decide) v l.length (bcells l) hown
    ⟨w.heap.size, 0, none⟩ m m (bcells new) (by rw [bcells_length, hm, Nat.mul_one]) hcell (bcells_one new) (by unfold maxLen; omega) (by omega)
  refine ⟨v', w', h1, ⟨?_, h5, ?_, ?_⟩⟩
  · unfold OB
    rw [List.length_append, hm, bcells_append]
    exact h2
  · exact ⟨h3.os, h3.tape, h3.output, Nat.le_trans (by simp) h3.size, fun k hk hn => (h3.block k (by simp; omega) hn).trans (Below.heap_alloc w _ k hk)⟩
  · intro k hk
    rcases h4 k hk with x | x
    · exact .inl x
    · exact .inr (by simp at x; omega)

theorem or_64 : ∀ a : Fin 64, bits BinOp.or IntKind.u8 ((a.val : Nat) : Int) 64 = ((a.val + 64 : Nat) : Int) ∧ bits BinOp.or IntKind.u8 ((a.val : Nat) : Int) 128 = ((a.val + 128 : Nat) : Int) ∧ bits BinOp.or IntKind.u8 ((a.val : Nat) : Int) 192 = ((a.val + 192 : Nat) : Int) := by decide +kernel

theorem u8_cell (n : Nat) : Value.int .u8 ((UInt8.ofNat n).toNat : Int) = .int .u8 ((n : Int) % 256) := by
  rw [UInt8.toNat_ofNat']
  congr 1

set_option maxRecDepth 100000 in
theorem varint_1 (v : Value) (l : List UInt8) (n : Nat) (w : World) (h : OB w v l) (hl : l.length ≤ 70368744177664) (hn : n < 64) :
    Calls Tryz.prog 84 #[v, .int .u64 (n : Int)] w fun e w' => ∃ v', e = .returned v' ∧ App w v l (vint n) v' w' := by
  have d1 : (n : Int) < 64 := by omega
  obtain ⟨v', w', hr, happ⟩ := lit_app w v l (vint n) #[.int .u8 (n : Int)] 1 h (by simp [vint, hn, bcells]; omega) (by simp [vint, hn]) (by omega)
  obtain ⟨a, cap, rfl, _⟩ := own_form h
  have H := hide happ
  clear happ
  go_enter Tryz.func84, Tryz.ntmps84
  go_wp2_with (at_builtin; refine wpList_append_is rfl _ _ _ _ rfl _ _ _ rfl rfl hr ?_)
  go_ret
  exact ⟨_, rfl, H.out⟩
set_option maxRecDepth 100000 in
theorem varint_2 (v : Value) (l : List UInt8) (n : Nat) (w : World) (h : OB w v l) (hl : l.length ≤ 70368744177664) (hn : 64 ≤ n) (hn2 : n < 16384) :
    Calls Tryz.prog 84 #[v, .int .u64 (n : Int)] w fun e w' => ∃ v', e = .returned v' ∧ App w v l (vint n) v' w' := by
  have d1 : ¬ (n : Int) < 64 := by omega
  have d2 : (n : Int) < 16384 := by omega
  have hv : (#[.int .u8 (bits BinOp.or IntKind.u8 ((n : Int) / 256) 64), .int .u8 ((n : Int) % 256)] : Array Value).toList = bcells (vint n) := by
    have o := or_64 ⟨n / 256, by omega⟩
    have e : ((n / 256 : Nat) : Int) = (n : Int) / 256 := by omega
    simp only [e] at o
    simp only [o.1]
    unfold vint
    simp only [show ¬ n < 64 by omega, hn2, if_true, if_false, bcells, List.map_cons, List.map_nil, u8_cell]
    simp
    omega
  obtain ⟨v', w', hr, happ⟩ := lit_app w v l (vint n) (#[.int .u8 (bits BinOp.or IntKind.u8 ((n : Int) / 256) 64), .int .u8 ((n : Int) % 256)] : Array Value) 2 h hv (by rw [← bcells_length, ← hv]; rfl) (by omega)
  clear hv
  obtain ⟨a, cap, rfl, _⟩ := own_form h
  have H := hide happ
  clear happ
  go_enter Tryz.func84, Tryz.ntmps84
  go_wp2_with (at_builtin; refine wpList_append_is rfl _ _ _ _ rfl _ _ _ rfl rfl hr ?_)
  go_ret
  exact ⟨_, rfl, H.out⟩
set_option maxRecDepth 100000 in
theorem varint_4 (v : Value) (l : List UInt8) (n : Nat) (w : World) (h : OB w v l) (hl : l.length ≤ 70368744177664) (hn : 16384 ≤ n) (hn2 : n < 1073741824) :
    Calls Tryz.prog 84 #[v, .int .u64 (n : Int)] w fun e w' => ∃ v', e = .returned v' ∧ App w v l (vint n) v' w' := by
  have d1 : ¬ (n : Int) < 64 := by omega
  have d2 : ¬ (n : Int) < 16384 := by omega
  have d3 : (n : Int) < 1073741824 := by omega
  have hv : (#[.int .u8 (bits BinOp.or IntKind.u8 ((n : Int) / 16777216) 128), .int .u8 ((n : Int) / 65536 % 256), .int .u8 ((n : Int) / 256 % 256), .int .u8 ((n : Int) % 256)] : Array Value).toList = bcells (vint n) := by
    have o := or_64 ⟨n / 16777216, by omega⟩
    have e : ((n / 16777216 : Nat) : Int) = (n : Int) / 16777216 := by omega
    simp only [e] at o
    simp only [o.2.1]
    unfold vint
    simp only [show ¬ n < 64 by omega, show ¬ n < 16384 by omega, hn2, if_true, if_false, bcells, List.map_cons, List.map_nil, u8_cell]
    simp
    omega
  obtain ⟨v', w', hr, happ⟩ := lit_app w v l (vint n) (#[.int .u8 (bits BinOp.or IntKind.u8 ((n : Int) / 16777216) 128), .int .u8 ((n : Int) / 65536 % 256), .int .u8 ((n : Int) / 256 % 256), .int .u8 ((n : Int) % 256)] : Array Value) 4 h hv (by rw [← bcells_length, ← hv]; rfl) (by omega)
  clear hv
  obtain ⟨a, cap, rfl, _⟩ := own_form h
  have H := hide happ
  clear happ
  go_enter Tryz.func84, Tryz.ntmps84
  go_wp2_with (at_builtin; refine wpList_append_is rfl _ _ _ _ rfl _ _ _ rfl rfl hr ?_)
  go_ret
  exact ⟨_, rfl, H.out⟩
set_option maxRecDepth 100000 in
theorem varint_8 (v : Value) (l : List UInt8) (n : Nat) (w : World) (h : OB w v l) (hl : l.length ≤ 70368744177664) (hn : 1073741824 ≤ n) (hn2 : n < 4611686018427387904) :
    Calls Tryz.prog 84 #[v, .int .u64 (n : Int)] w fun e w' => ∃ v', e = .returned v' ∧ App w v l (vint n) v' w' := by
  have d1 : ¬ (n : Int) < 64 := by omega
  have d2 : ¬ (n : Int) < 16384 := by omega
  have d3 : ¬ (n : Int) < 1073741824 := by omega
  have hv : (#[.int .u8 (bits BinOp.or IntKind.u8 ((n : Int) / 72057594037927936) 192), .int .u8 ((n : Int) / 281474976710656 % 256), .int .u8 ((n : Int) / 1099511627776 % 256), .int .u8 ((n : Int) / 4294967296 % 256), .int .u8 ((n : Int) / 16777216 % 256), .int .u8 ((n : Int) / 65536 % 256), .int .u8 ((n : Int) / 256 % 256), .int .u8 ((n : Int) % 256)] : Array Value).toList = bcells (vint n) := by
    have o := or_64 ⟨n / 72057594037927936, by omega⟩
    have e : ((n / 72057594037927936 : Nat) : Int) = (n : Int) / 72057594037927936 := by omega
    simp only [e] at o
    simp only [o.2.2]
    unfold vint
    simp only [show ¬ n < 64 by omega, show ¬ n < 16384 by omega, show ¬ n < 1073741824 by omega, if_false, bcells, List.map_cons, List.map_nil, u8_cell]
    simp
    omega
  obtain ⟨v', w', hr, happ⟩ := lit_app w v l (vint n) (#[.int .u8 (bits BinOp.or IntKind.u8 ((n : Int) / 72057594037927936) 192), .int .u8 ((n : Int) / 281474976710656 % 256), .int .u8 ((n : Int) / 1099511627776 % 256), .int .u8 ((n : Int) / 4294967296 % 256), .int .u8 ((n : Int) / 16777216 % 256), .int .u8 ((n : Int) / 65536 % 256), .int .u8 ((n : Int) / 256 % 256), .int .u8 ((n : Int) % 256)] : Array Value) 8 h hv (by rw [← bcells_length, ← hv]; rfl) (by omega)
  clear hv
  obtain ⟨a, cap, rfl, _⟩ := own_form h
  have H := hide happ
  clear happ
  go_enter Tryz.func84, Tryz.ntmps84
  go_wp2_with (at_builtin; refine wpList_append_is rfl _ _ _ _ rfl _ _ _ rfl rfl hr ?_)
  go_ret
  exact ⟨_, rfl, H.out⟩

theorem varint_any (v : Value) (l : List UInt8) (n : Nat) (w : World) (h : OB w v l) (hl : l.length ≤ 70368744177664) (hn : n < 4611686018427387904) :
    Calls Tryz.prog 84 #[v, .int .u64 (n : Int)] w fun e w' => ∃ v', e = .returned v' ∧ App w v l (vint n) v' w' := by
  by_cases h1 : n < 64
  · exact varint_1 v l n w h hl h1
  · by_cases h2 : n < 16384
    · exact varint_2 v l n w h hl (by omega) h2
    · by_cases h3 : n < 1073741824
      · exact varint_4 v l n w h hl (by omega) h3
      · exact varint_8 v l n w h hl (by omega) hn
end Go.Proofs.YtddfdpbaiedcjabGreatDoor
/- wire.Sum, wire.Seal: the sum of bytes; the table is a package variable that the contracts find in memory. -/
namespace Go.Proofs.YtddfdpbaiedcjabGreatDoor
open Go.RowKit

theorem u32_wrap (n : Int) : IntKind.u32.wrap n = n % 4294967296 := by simp [IntKind.wrap, IntKind.bits, IntKind.signed]

theorem u32_xor (a b : Nat) (ha : a < 4294967296) (hb : b < 4294967296) : bits .xor .u32 (a : Int) (b : Int) = ((a ^^^ b : Nat) : Int) := by
  have hx : a ^^^ b < 2 ^ 32 := Nat.xor_lt_two_pow (by omega) (by omega)
  have h1 : (BitVec.ofInt 32 (a : Int)).toNat = a := by
    rw [BitVec.ofInt_natCast, BitVec.toNat_ofNat]; exact Nat.mod_eq_of_lt (by omega)
  have h2 : (BitVec.ofInt 32 (b : Int)).toNat = b := by
    rw [BitVec.ofInt_natCast, BitVec.toNat_ofNat]; exact Nat.mod_eq_of_lt (by omega)
  show IntKind.u32.wrap ((BitVec.ofInt 32 (a : Int) ^^^ BitVec.ofInt 32 (b : Int)).toNat : Int) = _
  rw [BitVec.toNat_xor, h1, h2, u32_wrap]
  omega

theorem u32_and (a b : Nat) (ha : a < 4294967296) (hb : b < 4294967296) : bits .and .u32 (a : Int) (b : Int) = ((a &&& b : Nat) : Int) := by
  have hx : a &&& b < 2 ^ 32 := Nat.and_lt_two_pow _ (by omega)
  have h1 : (BitVec.ofInt 32 (a : Int)).toNat = a := by
    rw [BitVec.ofInt_natCast, BitVec.toNat_ofNat]; exact Nat.mod_eq_of_lt (by omega)
  have h2 : (BitVec.ofInt 32 (b : Int)).toNat = b := by
    rw [BitVec.ofInt_natCast, BitVec.toNat_ofNat]; exact Nat.mod_eq_of_lt (by omega)
  show IntKind.u32.wrap ((BitVec.ofInt 32 (a : Int) &&& BitVec.ofInt 32 (b : Int)).toNat : Int) = _
  rw [BitVec.toNat_and, h1, h2, u32_wrap]
  omega

theorem u32_and15 (a : Nat) (ha : a < 4294967296) : bits .and .u32 (a : Int) 15 = ((a % 16 : Nat) : Int) := by
  have := u32_and a 15 ha (by omega)
  rw [show a &&& 15 = a % 16 from Nat.and_two_pow_sub_one_eq_mod a 4] at this
  exact this

def ctab : List Nat := [0, 498536548, 997073096, 651767980, 1994146192, 1802195444, 1303535960, 1342533948, 3988292384, 4027552580, 3604390888, 3412177804, 2607071920, 2262029012, 2685067896, 3183342108]
def ct (i : Nat) : Nat := ctab.getD i 0

theorem ct_lt (i : Nat) : ct i < 4294967296 := by
  unfold ct
  by_cases h : i < 16
  · have : ∀ j : Fin 16, ctab.getD j.val 0 < 4294967296 := by decide
    exact this ⟨i, h⟩
  · rw [List.getD_eq_getElem?_getD, List.getElem?_eq_none (by simp [ctab]; omega)]
    decide

def nib (c : Nat) : Nat := (c / 16) ^^^ ct (c % 16)
def crcB (c : Nat) (x : UInt8) : Nat := nib (nib (c ^^^ x.toNat))
def crcL (l : List UInt8) : Nat := l.foldl crcB 4294967295
/-- The sum: CRC-32. -/
def crc (l : List UInt8) : Nat := 4294967295 ^^^ crcL l

theorem nib_lt (c : Nat) (h : c < 4294967296) : nib c < 4294967296 := Nat.xor_lt_two_pow (n := 32) (by omega) (ct_lt _)
theorem xor8_lt (c : Nat) (x : UInt8) (h : c < 4294967296) : c ^^^ x.toNat < 4294967296 := Nat.xor_lt_two_pow (n := 32) h (by have := x.toNat_lt; omega)
theorem crcB_lt (c : Nat) (x : UInt8) (h : c < 4294967296) : crcB c x < 4294967296 := nib_lt _ (nib_lt _ (xor8_lt c x h))
theorem crcL_snoc (l : List UInt8) (x : UInt8) : crcL (l ++ [x]) = crcB (crcL l) x := by simp [crcL]
theorem foldl_crc_lt (l : List UInt8) : ∀ c, c < 4294967296 → l.foldl crcB c < 4294967296 := by
  induction l with
  | nil => intro c h; exact h
  | cons x l ih => intro c h; exact ih _ (crcB_lt c x h)
theorem crcL_lt (l : List UInt8) : crcL l < 4294967296 := foldl_crc_lt l _ (by omega)

/-- Bytes that can be read there. -/
def BR (w : World) (v : Value) (l : List UInt8) : Prop :=
  ∃ a cap, v = .slice a l.length cap ∧ l.length ≤ cap ∧ cap ≤ maxLen ∧ ∀ i c, l[i]? = some c → ∃ g o, a = some ⟨g, o, none⟩ ∧ w.cell? ⟨g, o + i, none⟩ = some (.int .u8 (c.toNat : Int))

theorem OB.br {w : World} {v : Value} {l : List UInt8} (h : OB w v l) : BR w v l := by
  obtain ⟨a, cap, rfl, h1, h2, h3⟩ := own_form h
  refine ⟨a, cap, rfl, h1, h2, fun i c hc => ?_⟩
  have hi : i < l.length := (List.getElem?_eq_some_iff.1 hc).1
  obtain ⟨g, rfl⟩ := h3 (by omega)
  refine ⟨g, 0, rfl, ?_⟩
  have := h.cells (g := g) rfl i (.int .u8 (c.toNat : Int)) (by simp [bcells, hc])
  rwa [addr_add] at this

/-- The table lies where the program has it. -/
def Tab (w : World) : Prop := ∀ i, i < 16 → w.cell? ⟨1, i, none⟩ = some (.int .u32 (ct i : Int))

theorem Tab.mod {S : Nat → Prop} {w w' : World} (h : Tab w) (m : Mod S w w') (hs : ¬ S 1) : Tab w' := fun i hi => m.cell (a := ⟨1, i, none⟩) hs (h i hi)
theorem Tab.lt {w : World} (h : Tab w) : 1 < w.heap.size := lt_of_cell (h 0 (by omega))

theorem take_succ_at (l : List UInt8) (k : Nat) (c : UInt8) (h : l[k]? = some c) : l.take (k + 1) = l.take k ++ [c] := by
  rw [List.take_add_one, h]
  rfl

set_option maxHeartbeats 400000 in
theorem sum_any (v : Value) (l : List UInt8) (w : World) (h : BR w v l) (ht : Tab w) :
    Calls Tryz.prog 123 #[v] w fun e w' => e = .returned (.int .u32 (crc l : Int)) ∧ w = w' := by
  obtain ⟨a, cap, rfl, h1, h2, h3⟩ := h
  unfold maxLen at h2
  go_enter Tryz.func123, Tryz.ntmps123
  go_wp2_with fail
  go_loop [3, 8] (fun c i => ∃ k : Nat, k ≤ l.length ∧ i = .int .i64 k ∧ c = .int .u32 (crcL (l.take k) : Int)) (fun _ i => l.length - (intOf i).toNat)
  case atStart => exact ⟨0, Nat.zero_le _, rfl, rfl⟩
  case round =>
    obtain ⟨k, hk, rfl, rfl⟩ := hrel
    by_cases hlt : k < l.length
    · obtain ⟨c, hc⟩ : ∃ c, l[k]? = some c := ⟨l[k], List.getElem?_eq_getElem hlt⟩
      obtain ⟨g, o, rfl, hcell⟩ := h3 k c hc
      have HS := hide (congrArg crcL (take_succ_at l k c hc))
      obtain ⟨x, hx⟩ : ∃ x, crcL (l.take k) = x := ⟨_, rfl⟩
      have hxl := crcL_lt (l.take k)
      rw [hx] at hxl
      have HS2 : Hid (crcL (l.take (k + 1)) = crcB x c) := by
        show _ = _
        rw [HS.out, crcL_snoc, hx]
      rw [hx]
      have hcl := c.toNat_lt
      obtain ⟨d, hd⟩ : ∃ d, c.toNat = d := ⟨_, rfl⟩
      rw [hd] at hcell hcl
      have e1 := u32_xor x d hxl (by omega)
      have hy := xor8_lt x c hxl
      rw [hd] at hy
      obtain ⟨y, hy1⟩ : ∃ y, x ^^^ d = y := ⟨_, rfl⟩
      rw [hy1] at e1 hy
      have e2 := u32_and15 y hy
      have t1 := ht (y % 16) (by omega)
      have e3 := u32_xor (y / 16) (ct (y % 16)) (by omega) (ct_lt _)
      have hz := nib_lt y hy
      obtain ⟨z, hz1⟩ : ∃ z, nib y = z := ⟨_, rfl⟩
      rw [show (y / 16 ^^^ ct (y % 16)) = z from hz1] at e3
      rw [hz1] at hz
      have e4 := u32_and15 z hz
      have t2 := ht (z % 16) (by omega)
      have e5 := u32_xor (z / 16) (ct (z % 16)) (by omega) (ct_lt _)
      have HS3 : Hid (crcB x c = (z / 16 ^^^ ct (z % 16))) := by
        show nib (nib (x ^^^ c.toNat)) = _
        rw [hd, hy1, hz1]
        rfl
      rw [show ((y / 16 : Nat) : Int) = (y : Int) / 16 by omega] at e3
      rw [show ((z / 16 : Nat) : Int) = (z : Int) / 16 by omega] at e5
      clear HS hx hd hy1 hz1 h3 ht hc
      go_wp2_with fail
      go_round
      case rel => exact ⟨k + 1, by omega, by go_num, by rw [HS2.out, HS3.out]⟩
      case measure => simp [intOf]; omega
    · have hkl : l.take k = l := List.take_of_length_le (by omega)
      rw [hkl]
      have HE : Hid (bits .xor .u32 IntKind.u32.max (crcL l : Int) = (crc l : Int)) := u32_xor 4294967295 (crcL l) (by omega) (crcL_lt l)
      clear hkl
      go_wp2_with fail
      go_ret
      exact ⟨by rw [HE.out]; rfl, rfl⟩

theorem crc_lt (l : List UInt8) : crc l < 4294967296 := Nat.xor_lt_two_pow (n := 32) (by omega) (crcL_lt l)

/-- The sum's four bytes. -/
def sum4 (s : Nat) : List UInt8 := [UInt8.ofNat (s / 16777216), UInt8.ofNat (s / 65536), UInt8.ofNat (s / 256), UInt8.ofNat s]

set_option maxRecDepth 100000 in
theorem seal_any (v : Value) (l : List UInt8) (w : World) (h : OB w v l) (hl : l.length ≤ 70368744177664) (ht : Tab w) :
    Calls Tryz.prog 87 #[v] w fun e w' => ∃ v', e = .returned v' ∧ App w v l (sum4 (crc l)) v' w' := by
  have hsum := sum_any v l w h.br ht
  have hc := crc_lt l
  obtain ⟨s, hs⟩ : ∃ s, crc l = s := ⟨_, rfl⟩
  rw [hs] at hsum hc
  rw [hs]
  obtain ⟨v', w', hr, happ⟩ := lit_app w v l (sum4 s) #[.int .u8 ((s : Int) / 16777216), .int .u8 ((s : Int) / 65536 % 256), .int .u8 ((s : Int) / 256 % 256), .int .u8 ((s : Int) % 256)] 4 h (by
    simp only [sum4, bcells, List.map_cons, List.map_nil, u8_cell]
    simp
    omega) rfl (by omega)
  obtain ⟨a, cap, rfl, _⟩ := own_form h
  have H := hide happ
  clear happ hs ht
  go_enter Tryz.func87, Tryz.ntmps87
  go_wp2_with (first | (go_at_call 123; refine hsum.mono ?_; rintro e w' ⟨rfl, rfl⟩) | (at_builtin; refine wpList_append_is rfl _ _ _ _ rfl _ _ _ rfl rfl hr ?_))
  go_ret
  exact ⟨_, rfl, H.out⟩

theorem str_app (w : World) (v : Value) (l : List UInt8) (s : ByteArray) (h : OB w v l) (hl : l.length + s.size ≤ 140737488355328) :
    ∃ v' w', (∀ ty, (Builtin.append_ #[44, 9] ty #[v, .string s]).run Tryz.prog w = .ok v' w') ∧ App w v l s.data.toList v' w' := by
  obtain ⟨i, hi, hz, hz1, hz2⟩ := info_parts info_u8
  obtain ⟨v', w', h1, h2, h3, h4, h5⟩ := run_append_str_kept (P := Tryz.prog) w 44 9 5 i Tryz.underlying44 Tryz.underlying9 hi hz hz1 hz2 v l.length (bcells l) h s (by unfold maxLen; omega) (by omega)
  refine ⟨v', w', h1, ⟨?_, h5, h3, h4⟩⟩
  unfold OB
  rw [List.length_append, bcells_append]
  exact h2

def strOf (l : List UInt8) : ByteArray := ⟨l.toArray⟩
theorem strOf_size (l : List UInt8) : (strOf l).size = l.length := by simp [strOf, ByteArray.size]
theorem strOf_list (l : List UInt8) : (strOf l).data.toList = l := by simp [strOf]

theorem vint_length (n : Nat) : (vint n).length ≤ 8 := by
  unfold vint
  split
  · simp
  · split
    · simp
    · split <;> simp

theorem text_any (v : Value) (l s : List UInt8) (w : World) (h : OB w v l) (hl : l.length ≤ 70368744177664) (hs : s.length ≤ 35184372088832) :
    Calls Tryz.prog 179 #[v, .string (strOf s)] w fun e w' => ∃ v', e = .returned v' ∧ App w v l (vint s.length ++ s) v' w' := by
  have hv := varint_any v l s.length w h hl (by omega)
  have hz := strOf_size s
  have hzm : (strOf s).size ≤ 9223372036854775807 := by omega
  obtain ⟨a, cap, rfl, _⟩ := own_form h
  go_enter Tryz.func179, Tryz.ntmps179
  have hvl : (vint s.length).length ≤ 8 := vint_length _
  go_wp2_with (first | (go_at_call 84; refine hv.mono ?_; rintro e w1 ⟨v1, rfl, ap1⟩; obtain ⟨v2, w2, hr2, ap2⟩ := str_app w1 v1 _ (strOf s) ap1.own (by rw [List.length_append]; omega); rw [strOf_list] at ap2; have H := hide (ap1.trans ap2); clear ap1 ap2) | (at_builtin; refine wpList_append_is rfl _ _ _ _ rfl _ _ _ rfl rfl hr2 ?_))
  go_ret
  exact ⟨_, rfl, H.out⟩
end Go.Proofs.YtddfdpbaiedcjabGreatDoor
