/- wire.Varint, wire.text, wire.Seal: bytes behind bytes. -/
import Derived.Test.YtddfdpbaiedcjaaDoorRows
import Derived.Test.YtddfdpbaiedcjaaDoorBytes
import Derived.WalkKit
import Derived.Deep.QuietTactic
import Derived.BigQuiet
import Derived.WalkSpells
import Derived.LoopTactic
import Derived.Outline
namespace Go.Proofs.YtddfdpbaiedcjaaDoor
open Go.RowKit

/-- A number as 1, 2, 4, 8 bytes. -/
def vint (n : Nat) : List UInt8 :=
  if n < 64 then [UInt8.ofNat n]
  else if n < 16384 then [UInt8.ofNat (n / 256 + 64), UInt8.ofNat n]
  else if n < 1073741824 then [UInt8.ofNat (n / 16777216 + 128), UInt8.ofNat (n / 65536), UInt8.ofNat (n / 256), UInt8.ofNat n]
  else [UInt8.ofNat (n / 72057594037927936 + 192), UInt8.ofNat (n / 281474976710656), UInt8.ofNat (n / 1099511627776), UInt8.ofNat (n / 4294967296), UInt8.ofNat (n / 16777216), UInt8.ofNat (n / 65536), UInt8.ofNat (n / 256), UInt8.ofNat n]

theorem info_u8 : (Tryd.prog.info? 5).map (fun i => (i.zero, i.size, i.bytes)) = some (some (.int .u8 0), 1, 1) := by kernel_rfl

theorem lit_app (w : World) (v : Value) (l new : List UInt8) (cs : Array Value) (m : Nat) (h : OB w v l) (hcs : cs.toList = bcells new) (hm : new.length = m) (hl : l.length + m ≤ 140737488355328) :
    ∃ v' w', (∀ ty, (Builtin.append_ #[29, 29] ty #[v, .slice (some ⟨w.heap.size, 0, none⟩) m m]).run Tryd.prog (w.alloc (.cells cs 5)) = .ok v' w') ∧ App w v l new v' w' := by
  obtain ⟨i, hi, hz, hz1, hz2⟩ := info_parts info_u8
  have hown : (w.alloc (.cells cs 5)).ownsRow 0 5 1 v l.length (bcells l) := World.ownsRow.alloc h _
  have hcell : ∀ (j : Nat) u, (bcells new)[j]? = some u → (w.alloc (.cells cs 5)).cell? ((⟨w.heap.size, 0, none⟩ : Addr).add j) = some u := by
    intro j u hj
    rw [addr_add]
    refine cell_of_obj (heap_alloc_new w _) ?_
    rw [Nat.zero_add, ← Array.getElem?_toList, hcs]
    exact hj
  obtain ⟨v', w', h1, h2, h3, h4, h5⟩ := run_append_kept (P := Tryd.prog) (w.alloc (.cells cs 5)) 29 5 i (.int .u8 0) 1 1 Tryd.underlying29 hi hz hz1 hz2 rfl (by decide) v l.length (bcells l) hown
    ⟨w.heap.size, 0, none⟩ m m (bcells new) (by rw [bcells_length, hm, Nat.mul_one]) hcell (bcells_one new) (by unfold maxLen; omega) (by omega)
  refine ⟨v', w', h1, ⟨?_, h5, ?_, ?_⟩⟩
  · unfold OB
    rw [List.length_append, hm, bcells_append]
    exact h2
  · exact ⟨h3.os, h3.tape, h3.output, Nat.le_trans (by simp) h3.size, fun k hk hn => (h3.block k (by simp; omega) hn).trans (Below.heap_alloc w _ k hk)⟩
  · intro k hk
    rcases h4 k hk with x | x
    · exact .inl x
    · exact .inr (by simp at x; omega)

theorem or_64 : ∀ a : Fin 64, bits BinOp.or IntKind.u8 ((a.val : Nat) : Int) 64 = ((a.val + 64 : Nat) : Int) ∧ bits BinOp.or IntKind.u8 ((a.val : Nat) : Int) 128 = ((a.val + 128 : Nat) : Int) ∧ bits BinOp.or IntKind.u8 ((a.val : Nat) : Int) 192 = ((a.val + 192 : Nat) : Int) := by decide +kernel

theorem u8_cell (n : Nat) : Value.int .u8 ((UInt8.ofNat n).toNat : Int) = .int .u8 ((n : Int) % 256) := by
  rw [UInt8.toNat_ofNat']
  congr 1

set_option maxRecDepth 100000 in
theorem varint_1 (v : Value) (l : List UInt8) (n : Nat) (w : World) (h : OB w v l) (hl : l.length ≤ 70368744177664) (hn : n < 64) :
    Calls Tryd.prog 17 #[v, .int .u64 (n : Int)] w fun e w' => ∃ v', e = .returned v' ∧ App w v l (vint n) v' w' := by
  have d1 : (n : Int) < 64 := by omega
  obtain ⟨v', w', hr, happ⟩ := lit_app w v l (vint n) #[.int .u8 (n : Int)] 1 h (by simp [vint, hn, bcells]; omega) (by simp [vint, hn]) (by omega)
  obtain ⟨a, cap, rfl, _⟩ := own_form h
  have H := hide happ
  clear happ
  go_enter Tryd.func17, Tryd.ntmps17
  go_wp2_with (at_builtin; refine wpList_append_is rfl _ _ _ _ rfl _ _ _ rfl rfl hr ?_)
  go_ret
  exact ⟨_, rfl, H.out⟩
set_option maxRecDepth 100000 in
theorem varint_2 (v : Value) (l : List UInt8) (n : Nat) (w : World) (h : OB w v l) (hl : l.length ≤ 70368744177664) (hn : 64 ≤ n) (hn2 : n < 16384) :
    Calls Tryd.prog 17 #[v, .int .u64 (n : Int)] w fun e w' => ∃ v', e = .returned v' ∧ App w v l (vint n) v' w' := by
  have d1 : ¬ (n : Int) < 64 := by omega
  have d2 : (n : Int) < 16384 := by omega
  have hv : (#[.int .u8 (bits BinOp.or IntKind.u8 ((n : Int) / 256) 64), .int .u8 ((n : Int) % 256)] : Array Value).toList = bcells (vint n) := by
    have o := or_64 ⟨n / 256, by omega⟩
    have e : ((n / 256 : Nat) : Int) = (n : Int) / 256 := by omega
    simp only [e] at o
    simp only [o.1]
    unfold vint
    simp only [show ¬ n < 64 by omega, hn2, if_true, if_false, bcells, List.map_cons, List.map_nil, u8_cell]
    simp
    omega
  obtain ⟨v', w', hr, happ⟩ := lit_app w v l (vint n) (#[.int .u8 (bits BinOp.or IntKind.u8 ((n : Int) / 256) 64), .int .u8 ((n : Int) % 256)] : Array Value) 2 h hv (by rw [← bcells_length, ← hv]; rfl) (by omega)
  clear hv
  obtain ⟨a, cap, rfl, _⟩ := own_form h
  have H := hide happ
  clear happ
  go_enter Tryd.func17, Tryd.ntmps17
  go_wp2_with (at_builtin; refine wpList_append_is rfl _ _ _ _ rfl _ _ _ rfl rfl hr ?_)
  go_ret
  exact ⟨_, rfl, H.out⟩
set_option maxRecDepth 100000 in
theorem varint_4 (v : Value) (l : List UInt8) (n : Nat) (w : World) (h : OB w v l) (hl : l.length ≤ 70368744177664) (hn : 16384 ≤ n) (hn2 : n < 1073741824) :
    Calls Tryd.prog 17 #[v, .int .u64 (n : Int)] w fun e w' => ∃ v', e = .returned v' ∧ App w v l (vint n) v' w' := by
  have d1 : ¬ (n : Int) < 64 := by omega
  have d2 : ¬ (n : Int) < 16384 := by omega
  have d3 : (n : Int) < 1073741824 := by omega
  have hv : (#[.int .u8 (bits BinOp.or IntKind.u8 ((n : Int) / 16777216) 128), .int .u8 ((n : Int) / 65536 % 256), .int .u8 ((n : Int) / 256 % 256), .int .u8 ((n : Int) % 256)] : Array Value).toList = bcells (vint n) := by
    have o := or_64 ⟨n / 16777216, by omega⟩
    have e : ((n / 16777216 : Nat) : Int) = (n : Int) / 16777216 := by omega
    simp only [e] at o
    simp only [o.2.1]
    unfold vint
    simp only [show ¬ n < 64 by omega, show ¬ n < 16384 by omega, hn2, if_true, if_false, bcells, List.map_cons, List.map_nil, u8_cell]
    simp
    omega
  obtain ⟨v', w', hr, happ⟩ := lit_app w v l (vint n) (#[.int .u8 (bits BinOp.or IntKind.u8 ((n : Int) / 16777216) 128), .int .u8 ((n : Int) / 65536 % 256), .int .u8 ((n : Int) / 256 % 256), .int .u8 ((n : Int) % 256)] : Array Value) 4 h hv (by rw [← bcells_length, ← hv]; rfl) (by omega)
  clear hv
  obtain ⟨a, cap, rfl, _⟩ := own_form h
  have H := hide happ
  clear happ
  go_enter Tryd.func17, Tryd.ntmps17
  go_wp2_with (at_builtin; refine wpList_append_is rfl _ _ _ _ rfl _ _ _ rfl rfl hr ?_)
  go_ret
  exact ⟨_, rfl, H.out⟩
set_option maxRecDepth 100000 in
theorem varint_8 (v : Value) (l : List UInt8) (n : Nat) (w : World) (h : OB w v l) (hl : l.length ≤ 70368744177664) (hn : 1073741824 ≤ n) (hn2 : n < 4611686018427387904) :
    Calls Tryd.prog 17 #[v, .int .u64 (n : Int)] w fun e w' => ∃ v', e = .returned v' ∧ App w v l (vint n) v' w' := by
  have d1 : ¬ (n : Int) < 64 := by omega
  have d2 : ¬ (n : Int) < 16384 := by omega
  have d3 : ¬ (n : Int) < 1073741824 := by omega
  have hv : (#[.int .u8 (bits BinOp.or IntKind.u8 ((n : Int) / 72057594037927936) 192), .int .u8 ((n : Int) / 281474976710656 % 256), .int .u8 ((n : Int) / 1099511627776 % 256), .int .u8 ((n : Int) / 4294967296 % 256), .int .u8 ((n : Int) / 16777216 % 256), .int .u8 ((n : Int) / 65536 % 256), .int .u8 ((n : Int) / 256 % 256), .int .u8 ((n : Int) % 256)] : Array Value).toList = bcells (vint n) := by
    have o := or_64 ⟨n / 72057594037927936, by omega⟩
    have e : ((n / 72057594037927936 : Nat) : Int) = (n : Int) / 72057594037927936 := by omega
    simp only [e] at o
    simp only [o.2.2]
    unfold vint
    simp only [show ¬ n < 64 by omega, show ¬ n < 16384 by omega, show ¬ n < 1073741824 by omega, if_false, bcells, List.map_cons, List.map_nil, u8_cell]
    simp
    omega
  obtain ⟨v', w', hr, happ⟩ := lit_app w v l (vint n) (#[.int .u8 (bits BinOp.or IntKind.u8 ((n : Int) / 72057594037927936) 192), .int .u8 ((n : Int) / 281474976710656 % 256), .int .u8 ((n : Int) / 1099511627776 % 256), .int .u8 ((n : Int) / 4294967296 % 256), .int .u8 ((n : Int) / 16777216 % 256), .int .u8 ((n : Int) / 65536 % 256), .int .u8 ((n : Int) / 256 % 256), .int .u8 ((n : Int) % 256)] : Array Value) 8 h hv (by rw [← bcells_length, ← hv]; rfl) (by omega)
  clear hv
  obtain ⟨a, cap, rfl, _⟩ := own_form h
  have H := hide happ
  clear happ
  go_enter Tryd.func17, Tryd.ntmps17
  go_wp2_with (at_builtin; refine wpList_append_is rfl _ _ _ _ rfl _ _ _ rfl rfl hr ?_)
  go_ret
  exact ⟨_, rfl, H.out⟩

theorem varint_any (v : Value) (l : List UInt8) (n : Nat) (w : World) (h : OB w v l) (hl : l.length ≤ 70368744177664) (hn : n < 4611686018427387904) :
    Calls Tryd.prog 17 #[v, .int .u64 (n : Int)] w fun e w' => ∃ v', e = .returned v' ∧ App w v l (vint n) v' w' := by
  by_cases h1 : n < 64
  · exact varint_1 v l n w h hl h1
  · by_cases h2 : n < 16384
    · exact varint_2 v l n w h hl (by omega) h2
    · by_cases h3 : n < 1073741824
      · exact varint_4 v l n w h hl (by omega) h3
      · exact varint_8 v l n w h hl (by omega) hn
end Go.Proofs.YtddfdpbaiedcjaaDoor
