/- The codec of a kind, as it is used to read (printed by mkread6.py). -/
import Derived.Test.YtddfdpbaiedcjaaDoorRead5
namespace Go.Proofs.YtddfdpbaiedcjaaDoor
open Go.RowKit

/-- A frame of this kind, from there on. -/
def rdBody (k : Int) (b : Bool) (bs : List UInt8) (pos : Nat) : Option (Frm × Nat) :=
  if k = 1 then some (f0 1 b, pos)
  else if k = 2 then rd2 b bs pos
  else if k = 3 then rd3 b bs pos
  else if k = 4 then rd4 b bs pos
  else if k = 5 then rdNumF 5 b bs pos
  else if k = 6 then rd6 b bs pos
  else if k = 7 then rd7 b bs pos
  else rdNumF 8 b bs pos

def RCodec (k : Int) (b : Bool) (bs : List UInt8) (v : Value) (w : World) (e : Ending) (w' : World) : Prop :=
  ∃ cb wv F caps G, e = .returned (.pointer (some ⟨cb, 0, none⟩)) ∧ CodecAt w' cb wv (.func (.func F) #[] caps) (.func (.func G) #[] #[]) ∧ Goes F ∧ Goes G ∧ Mod NoB w w' ∧ w.heap.size ≤ cb ∧
    (∀ rb fb pos, RdAt w' rb v pos → BR w' v bs → OffS (Two rb fb) v → pos ≤ bs.length → bs.length ≤ 1099511627776 → FrameAt w' fb (f0 k b) (.slice none 0 0) → fb ≠ rb → Calls Tryd.prog F (#[.pointer (some ⟨rb, 0, none⟩), .pointer (some ⟨fb, 0, none⟩)] ++ caps) w' (RdF w' rb v fb (rdBody k b bs pos))) ∧
    (∀ Y bf f rv, FrameAt Y bf f rv → RR Y rv f.rngs → f.kind = k → f.rngs.length ≤ 1099511627776 → f.data.length ≤ 35184372088832 → numsOk f = true → Calls Tryd.prog G #[.pointer (some ⟨bf, 0, none⟩)] Y (Says Y (soundC f)))

theorem goes_58 : Goes 58 := goes_of Tryd.func58 (by kernel_rfl) rfl
theorem goes_52 : Goes 52 := goes_of Tryd.func52 (by kernel_rfl) rfl
theorem goes_54 : Goes 54 := goes_of Tryd.func54 (by kernel_rfl) rfl
theorem goes_35 : Goes 35 := goes_of Tryd.func35 (by kernel_rfl) rfl
theorem goes_41 : Goes 41 := goes_of Tryd.func41 (by kernel_rfl) rfl
theorem goes_46 : Goes 46 := goes_of Tryd.func46 (by kernel_rfl) rfl
theorem goes_38 : Goes 38 := goes_of Tryd.func38 (by kernel_rfl) rfl

theorem rcodec_1 (b : Bool) (bs : List UInt8) (v : Value) (w : World) : Calls Tryd.prog 26 #[.int .i64 1] w (RCodec 1 b bs v w) := by
  refine (of_1 w).mono ?_
  rintro e w' ⟨cb, rfl, hc, hm, hb⟩
  refine ⟨cb, _, 35, #[], 36, rfl, hc, goes_35, goes_36, hm, hb, fun rb fb pos h hb hv hp hl hf hne => by rw [show rdBody 1 b bs pos = some (f0 1 b, pos) by simp [rdBody]]; exact read1 rb fb pos v b w' h hf, fun Y bf f rv hf hr hk hn hd hq => ?_⟩
  rw [show soundC f = (true) by simp [soundC, hk]]
  exact always_any _ Y

theorem rcodec_2 (b : Bool) (bs : List UInt8) (v : Value) (w : World) : Calls Tryd.prog 26 #[.int .i64 2] w (RCodec 2 b bs v w) := by
  refine (of_2 w).mono ?_
  rintro e w' ⟨cb, rfl, hc, hm, hb⟩
  refine ⟨cb, _, 38, #[], 39, rfl, hc, goes_38, goes_39, hm, hb, fun rb fb pos h hb hv hp hl hf hne => by rw [show rdBody 2 b bs pos = rd2 b bs pos by simp [rdBody]]; exact readack_any rb fb pos v bs b w' h hb hv hp hl hf hne, fun Y bf f rv hf hr hk hn hd hq => ?_⟩
  rw [show soundC f = (soundRs f.rngs) by simp [soundC, hk]]
  exact soundack_any bf f rv Y hf hr hn

theorem rcodec_3 (b : Bool) (bs : List UInt8) (v : Value) (w : World) : Calls Tryd.prog 26 #[.int .i64 3] w (RCodec 3 b bs v w) := by
  refine (of_3 w).mono ?_
  rintro e w' ⟨cb, rfl, hc, hm, hb⟩
  refine ⟨cb, _, 41, #[], 43, rfl, hc, goes_41, goes_43, hm, hb, fun rb fb pos h hb hv hp hl hf hne => by rw [show rdBody 3 b bs pos = rd3 b bs pos by simp [rdBody]]; exact read3 rb fb pos v bs b w' h hb hv hp hf hne, fun Y bf f rv hf hr hk hn hd hq => ?_⟩
  rw [show soundC f = (decide (f.rel ≤ f.off)) by simp [soundC, hk]]
  exact sound3 bf f rv Y hf

theorem rcodec_4 (b : Bool) (bs : List UInt8) (v : Value) (w : World) : Calls Tryd.prog 26 #[.int .i64 4] w (RCodec 4 b bs v w) := by
  refine (of_4 w).mono ?_
  rintro e w' ⟨cb, rfl, hc, hm, hb⟩
  refine ⟨cb, _, 46, #[], 48, rfl, hc, goes_46, goes_48, hm, hb, fun rb fb pos h hb hv hp hl hf hne => by rw [show rdBody 4 b bs pos = rd4 b bs pos by simp [rdBody]]; exact read4 rb fb pos v bs b w' h hb hv hp hf hne, fun Y bf f rv hf hr hk hn hd hq => ?_⟩
  rw [show soundC f = (decide (f.data.length + f.off ≤ 4611686018427387903)) by simp [soundC, hk]]
  exact sound4 bf f rv Y hf (numsOk_facts hq).1 (by omega)

theorem rcodec_5 (b : Bool) (bs : List UInt8) (v : Value) (w : World) : Calls Tryd.prog 26 #[.int .i64 5] w (RCodec 5 b bs v w) := by
  refine (of_5 w).mono ?_
  rintro e w' ⟨cb, tb, ab, rfl, hc, hcap, hm, hb, _, _⟩
  refine ⟨cb, _, _, _, 36, rfl, hc, goes_58, goes_36, hm, hb, fun rb fb pos h hb hv hp hl hf hne => by rw [show rdBody 5 b bs pos = rdNumF 5 b bs pos by simp [rdBody]]; exact read_num rb fb ab pos 5 v bs b w' h hb hv hp hf hne hcap.2, fun Y bf f rv hf hr hk hn hd hq => ?_⟩
  rw [show soundC f = (true) by simp [soundC, hk]]
  exact always_any _ Y

theorem rcodec_6 (b : Bool) (bs : List UInt8) (v : Value) (w : World) : Calls Tryd.prog 26 #[.int .i64 6] w (RCodec 6 b bs v w) := by
  refine (of_6 w).mono ?_
  rintro e w' ⟨cb, rfl, hc, hm, hb⟩
  refine ⟨cb, _, 52, #[], 36, rfl, hc, goes_52, goes_36, hm, hb, fun rb fb pos h hb hv hp hl hf hne => by rw [show rdBody 6 b bs pos = rd6 b bs pos by simp [rdBody]]; exact read6 rb fb pos v bs b w' h hb hv hp hf hne, fun Y bf f rv hf hr hk hn hd hq => ?_⟩
  rw [show soundC f = (true) by simp [soundC, hk]]
  exact always_any _ Y

theorem rcodec_7 (b : Bool) (bs : List UInt8) (v : Value) (w : World) : Calls Tryd.prog 26 #[.int .i64 7] w (RCodec 7 b bs v w) := by
  refine (of_7 w).mono ?_
  rintro e w' ⟨cb, rfl, hc, hm, hb⟩
  refine ⟨cb, _, 54, #[], 36, rfl, hc, goes_54, goes_36, hm, hb, fun rb fb pos h hb hv hp hl hf hne => by rw [show rdBody 7 b bs pos = rd7 b bs pos by simp [rdBody]]; exact read7 rb fb pos v bs b w' h hb hv hp hf hne, fun Y bf f rv hf hr hk hn hd hq => ?_⟩
  rw [show soundC f = (true) by simp [soundC, hk]]
  exact always_any _ Y

theorem rcodec_8 (b : Bool) (bs : List UInt8) (v : Value) (w : World) : Calls Tryd.prog 26 #[.int .i64 8] w (RCodec 8 b bs v w) := by
  refine (of_8 w).mono ?_
  rintro e w' ⟨cb, tb, ab, rfl, hc, hcap, hm, hb, _, _⟩
  refine ⟨cb, _, _, _, 36, rfl, hc, goes_58, goes_36, hm, hb, fun rb fb pos h hb hv hp hl hf hne => by rw [show rdBody 8 b bs pos = rdNumF 8 b bs pos by simp [rdBody]]; exact read_num rb fb ab pos 8 v bs b w' h hb hv hp hf hne hcap.2, fun Y bf f rv hf hr hk hn hd hq => ?_⟩
  rw [show soundC f = (true) by simp [soundC, hk]]
  exact always_any _ Y

theorem rcodec_any (t : UInt8) (k : Int) (hk : kindOf t = some k) (b : Bool) (bs : List UInt8) (v : Value) (w : World) : Calls Tryd.prog 26 #[.int .i64 k] w (RCodec k b bs v w) := by
  have hk' : k = 1 ∨ k = 2 ∨ k = 3 ∨ k = 4 ∨ k = 5 ∨ k = 6 ∨ k = 7 ∨ k = 8 := by
    unfold kindOf at hk
    repeat' split at hk
    all_goals simp at hk
    all_goals omega
  rcases hk' with rfl | rfl | rfl | rfl | rfl | rfl | rfl | rfl
  · exact rcodec_1 b bs v w
  · exact rcodec_2 b bs v w
  · exact rcodec_3 b bs v w
  · exact rcodec_4 b bs v w
  · exact rcodec_5 b bs v w
  · exact rcodec_6 b bs v w
  · exact rcodec_7 b bs v w
  · exact rcodec_8 b bs v w

/-- The cells of frames, one behind the other. -/
def fcells (fs : List (Frm × Value)) : List Value := fs.flatMap fun x => (frCells x.1 x.2).toList

theorem fcells_append (a b : List (Frm × Value)) : fcells (a ++ b) = fcells a ++ fcells b := by simp [fcells]
theorem fcells_length (fs : List (Frm × Value)) : (fcells fs).length = fs.length * 10 := by
  induction fs with
  | nil => rfl
  | cons x fs ih =>
    have : fcells (x :: fs) = (frCells x.1 x.2).toList ++ fcells fs := rfl
    rw [this, List.length_append, ih]
    simp [frCells]
    omega

theorem fcells_at (fs : List (Frm × Value)) : ∀ i x, fs[i]? = some x → ∀ j u, (frCells x.1 x.2)[j]? = some u → (fcells fs)[i * 10 + j]? = some u := by
  induction fs with
  | nil => intro i x h; simp at h
  | cons y fs ih =>
    intro i x h j u hu
    have hl : ((frCells y.1 y.2).toList).length = 10 := rfl
    have e : fcells (y :: fs) = (frCells y.1 y.2).toList ++ fcells fs := rfl
    cases i with
    | zero =>
      simp only [List.getElem?_cons_zero, Option.some.injEq] at h
      subst h
      have hj : j < 10 := (Array.getElem?_eq_some_iff.1 hu).1
      rw [e, Nat.zero_mul, Nat.zero_add, List.getElem?_append_left (by omega), Array.getElem?_toList]
      exact hu
    | succ i =>
      simp only [List.getElem?_cons_succ] at h
      rw [e, show (i + 1) * 10 + j = 10 + (i * 10 + j) by omega, List.getElem?_append_right (by omega), hl, Nat.add_sub_cancel_left]
      exact ih i x h j u hu

/-- The slice owns these frames, each of which owns its ranges. -/
def OwnF (w : World) (v : Value) (fs : List (Frm × Value)) : Prop := w.ownsRow 0 28 10 v fs.length (fcells fs) ∧ ∀ x ∈ fs, OwnR w x.2 x.1.rngs

theorem OwnF.frs {w : World} {v : Value} {fs : List (Frm × Value)} (h : OwnF w v fs) : FrsAt w v fs := by
  obtain ⟨a, cap, rfl, h1, h2, h3⟩ := own_form h.1
  refine ⟨a, cap, rfl, h1, h2, fun i fr hi => ⟨?_, (h.2 fr (List.mem_of_getElem? hi)).rr⟩⟩
  have hlt : i < fs.length := (List.getElem?_eq_some_iff.1 hi).1
  obtain ⟨g, rfl⟩ := h3 (by omega)
  refine ⟨g, 0, rfl, fun j x hx => ?_⟩
  have := h.1.cells (g := g) rfl _ _ (fcells_at fs i fr hi j x hx)
  rw [addr_add] at this
  rw [Nat.zero_add] at this
  rwa [Nat.zero_add]

theorem info_frame : (Tryd.prog.info? 28).map (fun i => (i.zero, i.size, i.bytes)) = some (some (.agg #[.int .i64 0, .int .i64 0, .int .u64 0, .int .u64 0, .int .u64 0, .bool false, .int .u64 0, .int .u64 0, .string ⟨#[]⟩, .slice none 0 0]), 10, 104) := by kernel_rfl

theorem frCells_one (f : Frm) (a : Option Addr) (n c : Nat) : ∀ u ∈ (frCells f (.slice a n c)).toList, u.oneCell' = true := by
  intro u hu
  simp [frCells] at hu
  rcases hu with rfl | rfl | rfl | rfl | rfl | rfl | rfl | rfl | rfl | rfl <;> rfl

theorem flit_app (w : World) (v : Value) (fs : List (Frm × Value)) (f : Frm) (a : Option Addr) (n c : Nat) (h : w.ownsRow 0 28 10 v fs.length (fcells fs)) (hl : fs.length ≤ 1099511627776) :
    ∃ v' w', (∀ ty, (Builtin.append_ #[23, 23] ty #[v, .slice (some ⟨w.heap.size, 0, none⟩) 1 1]).run Tryd.prog (w.alloc (.cells (frCells f (.slice a n c)) 28)) = .ok v' w') ∧
      w'.ownsRow 0 28 10 v' (fs.length + 1) (fcells (fs ++ [(f, .slice a n c)])) ∧ w.grownBy w' v.ownBlock ∧ NewOr w v v' := by
  obtain ⟨i, hi1, hz, hz1, hz2⟩ := info_parts info_frame
  have e1 : fcells [(f, .slice a n c)] = (frCells f (.slice a n c)).toList := by simp [fcells]
  have hcell : ∀ (j : Nat) u, (fcells [(f, .slice a n c)])[j]? = some u → (w.alloc (.cells (frCells f (.slice a n c)) 28)).cell? ((⟨w.heap.size, 0, none⟩ : Addr).add j) = some u := by
    intro j u hj
    rw [addr_add]
    refine cell_of_obj (heap_alloc_new w _) ?_
    rw [Nat.zero_add, ← Array.getElem?_toList, ← e1]
    exact hj
  obtain ⟨v', w', h1, h2, h3, h4, h5⟩ := run_append_kept (P := Tryd.prog) (w.alloc (.cells (frCells f (.slice a n c)) 28)) 23 28 i _ 10 104 Tryd.underlying23 hi1 hz hz1 hz2 rfl (by decide) v fs.length (fcells fs) (World.ownsRow.alloc h _)
    ⟨w.heap.size, 0, none⟩ 1 1 (fcells [(f, .slice a n c)]) (by rw [fcells_length]; rfl) hcell (by rw [e1]; exact frCells_one f a n c) (by unfold maxLen; omega) (by omega)
  refine ⟨v', w', h1, ?_, ?_, ?_⟩
  · rw [fcells_append]
    exact h2
  · exact ⟨h3.os, h3.tape, h3.output, Nat.le_trans (by simp) h3.size, fun k hk hn => (h3.block k (by simp; omega) hn).trans (Below.heap_alloc w _ k hk)⟩
  · intro k hk
    rcases h4 k hk with x | x
    · exact .inl x
    · exact .inr (by simp at x; omega)
end Go.Proofs.YtddfdpbaiedcjaaDoor
