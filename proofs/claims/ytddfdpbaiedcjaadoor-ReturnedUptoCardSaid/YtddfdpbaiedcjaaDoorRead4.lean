/- How a frame of one number is read, and an answer's ranges. -/
import Derived.Test.YtddfdpbaiedcjaaDoorRead3
namespace Go.Proofs.YtddfdpbaiedcjaaDoor
open Go.RowKit

def rdNumF (k : Int) (b : Bool) (bs : List UInt8) (pos : Nat) : Option (Frm × Nat) := (rdVar bs pos).bind fun (x1, p1) => some ({ f0 k b with lim := x1 }, p1)

theorem read_num (rb fb ab pos : Nat) (k : Int) (v : Value) (bs : List UInt8) (b : Bool) (w : World) (h : RdAt w rb v pos) (hb : BR w v bs) (hv : OffS (Two rb fb) v) (hp : pos ≤ bs.length) (hf : FrameAt w fb (f0 k b) (.slice none 0 0)) (hne : fb ≠ rb)
    (hab : w.cell? ⟨ab, 0, none⟩ = some (.func (.func 50) #[] #[])) :
    Calls Tryd.prog 58 #[.pointer (some ⟨rb, 0, none⟩), .pointer (some ⟨fb, 0, none⟩), .pointer (some ⟨ab, 0, none⟩)] w (RdF w rb v fb (rdNumF k b bs pos)) := by
  have hv1 : OffS (Only rb) v := fun g o n c e hx => hv g o n c e (.inl hx)
  have c1 := rvarint_any rb pos v bs w h hb hv1 hp
  have Hf := hide hf
  have Hne := hide hne
  clear hb hv hf hv1 hne h
  cases hr1 : rdVar bs pos with
  | none =>
    rw [hr1] at c1
    have HR : Hid (rdNumF k b bs pos = none) := by show _ = _; unfold rdNumF; rw [hr1]; rfl
    clear hr1
    go_enter Tryd.func58, Tryd.ntmps58
    go_wp2_with (first | (go_at_call 50; refine (limit_any _ _).mono ?_; rintro e w' ⟨rfl, rfl⟩) | (go_at_call 22; refine c1.mono ?_; rintro e w' (⟨_, _, hx, _⟩ | ⟨_, he, hm⟩); cases hx; unfold shortE at he; subst he))
    exact ⟨rfl, .inr ⟨HR.out, rfl, mod_two hm⟩⟩
  | some q1 =>
    obtain ⟨x1, p1⟩ := q1
    rw [hr1] at c1
    have HR1 := hide hr1
    clear hr1
    go_enter Tryd.func58, Tryd.ntmps58
    go_wp2_with (go_at_call 50; refine (limit_any _ _).mono ?_; rintro e w' ⟨rfl, rfl⟩)
    refine c1.mono ?_
    rintro e w1 (⟨_, _, hx, rfl, h1, m1⟩ | ⟨hx, _⟩)
    rotate_left
    · cases hx
    simp only [Option.map_some, Option.some.injEq, Prod.mk.injEq] at hx
    obtain ⟨rfl, rfl⟩ := hx
    have HM1 := hide m1
    have HH := hide h1
    have hF := Hf.out.mod m1 Hne.out
    obtain ⟨k0, k1, k2, k3, k4, k5, k6, k7, k8, k9⟩ := hF.cells
    have hfz : ∀ j, w1.frozen? ⟨fb, j, none⟩ = false := fun j => frozen_of_obj hF
    have HF := hide hF
    clear hF h1 c1 m1
    go_wp2_with fail
    refine bodyPost_end (results_none rfl _ _ _) rfl (.inl ⟨{ f0 k b with lim := x1 }, .slice none 0 0, p1, ?_, rfl, ?_, ?_, OwnR.nil _, NewSl.nil w, ((mod_two HM1.out).setCell (p := ⟨fb, 4, none⟩) (.inl (.inr rfl)) _)⟩)
    · unfold rdNumF
      simp only [HR1.out, Option.bind_some]
    · exact HH.out.mod ((Mod.refl (fun k => k = fb) _).setCell (p := ⟨fb, 4, none⟩) (.inl rfl) _) (fun e => Hne.out e.symm)
    · exact (HF.out).set (i := 4) (v := .int .u64 (x1 : Int)) (f' := { f0 k b with lim := x1 }) (rv' := .slice none 0 0) rfl

/-- The ranges from the first on. -/
def rdAckF (bs : List UInt8) : Nat → Nat → Nat → Nat → Nat → Rngs → Option (Rngs × Nat)
  | 0, _, _, _, _, _ => none
  | fuel + 1, hi, n, size, pos, acc =>
    if hi < size then none
    else if n = 0 then some (acc ++ [(hi - size, hi)], pos)
    else (rdVar bs pos).bind fun q1 => (rdVar bs q1.2).bind fun q2 =>
      if hi - size < 2 ∨ hi - size - 2 < q1.1 then none else rdAckF bs fuel (hi - size - 2 - q1.1) (n - 1) q2.1 q2.2 (acc ++ [(hi - size, hi)])

def rd2 (b : Bool) (bs : List UInt8) (pos : Nat) : Option (Frm × Nat) :=
  (rdVar bs pos).bind fun q1 => (rdVar bs q1.2).bind fun q2 => (rdVar bs q2.2).bind fun q3 =>
    (rdAckF bs (bs.length + 1) q1.1 q2.1 q3.1 q3.2 []).bind fun r => some ({ f0 2 b with rngs := r.1 }, r.2)

theorem info_range : (Tryd.prog.info? 50).map (fun i => (i.zero, i.size, i.bytes)) = some (some (.agg #[.int .u64 0, .int .u64 0]), 2, 16) := by kernel_rfl

theorem rlit_app (w : World) (v : Value) (rs : Rngs) (lo hi : Nat) (h : w.ownsRow 0 50 2 v rs.length (rcells rs)) (hl : rs.length ≤ 1099511627776) :
    ∃ v' w', (∀ ty, (Builtin.append_ #[26, 26] ty #[v, .slice (some ⟨w.heap.size, 0, none⟩) 1 1]).run Tryd.prog (w.alloc (.cells #[.int .u64 (lo : Int), .int .u64 (hi : Int)] 50)) = .ok v' w') ∧
      w'.ownsRow 0 50 2 v' (rs ++ [(lo, hi)]).length (rcells (rs ++ [(lo, hi)])) ∧ w.grownBy w' v.ownBlock ∧ NewOr w v v' := by
  obtain ⟨i, hi1, hz, hz1, hz2⟩ := info_parts info_range
  have hcell : ∀ (j : Nat) u, (rcells [(lo, hi)])[j]? = some u → (w.alloc (.cells #[.int .u64 (lo : Int), .int .u64 (hi : Int)] 50)).cell? ((⟨w.heap.size, 0, none⟩ : Addr).add j) = some u := by
    intro j u hj
    rw [addr_add]
    refine cell_of_obj (heap_alloc_new w _) ?_
    rw [Nat.zero_add, ← Array.getElem?_toList]
    exact hj
  obtain ⟨v', w', h1, h2, h3, h4, h5⟩ := run_append_kept (P := Tryd.prog) (w.alloc (.cells #[.int .u64 (lo : Int), .int .u64 (hi : Int)] 50)) 26 50 i (.agg #[.int .u64 0, .int .u64 0]) 2 16 Tryd.underlying26 hi1 hz hz1 hz2 rfl (by decide) v rs.length (rcells rs) (World.ownsRow.alloc h _)
    ⟨w.heap.size, 0, none⟩ 1 1 (rcells [(lo, hi)]) rfl hcell (by intro u hu; simp [rcells] at hu; rcases hu with rfl | rfl <;> rfl) (by unfold maxLen; omega) (by omega)
  refine ⟨v', w', h1, ?_, ?_, ?_⟩
  · rw [List.length_append, rcells_append]
    exact h2
  · exact ⟨h3.os, h3.tape, h3.output, Nat.le_trans (by simp) h3.size, fun k hk hn => (h3.block k (by simp; omega) hn).trans (Below.heap_alloc w _ k hk)⟩
  · intro k hk
    rcases h4 k hk with x | x
    · exact .inl x
    · exact .inr (by simp at x; omega)

end Go.Proofs.YtddfdpbaiedcjaaDoor
