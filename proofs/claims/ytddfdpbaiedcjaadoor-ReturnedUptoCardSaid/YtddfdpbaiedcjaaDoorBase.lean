/- Words and lemmas that need no program: the lists of ranges, hiding of facts, rows of cells. -/
import Derived.WalkKit
import Derived.Deep.Draws
namespace Go.Proofs.YtddfdpbaiedcjaaDoor
open Go.RowKit

theorem hide {p : Prop} (h : p) : Hid p := h

/-- A list of ranges, each (lo, hi). -/
abbrev Rngs := List (Nat × Nat)

def loAt (rs : Rngs) (i : Nat) : Nat := (rs.getD i (0, 0)).1
def hiAt (rs : Rngs) (i : Nat) : Nat := (rs.getD i (0, 0)).2

def rcells : Rngs → List Value
  | [] => []
  | r :: rs => .int .u64 (r.1 : Int) :: .int .u64 (r.2 : Int) :: rcells rs

theorem rcells_length (rs : Rngs) : (rcells rs).length = rs.length * 2 := by
  induction rs with
  | nil => rfl
  | cons r rs ih => simp only [rcells, List.length_cons, ih]; omega

theorem rcells_append (a b : Rngs) : rcells (a ++ b) = rcells a ++ rcells b := by
  induction a with
  | nil => rfl
  | cons r rs ih => simp [rcells, ih]

theorem rcells_lo (rs : Rngs) : ∀ i, i < rs.length → (rcells rs)[i * 2]? = some (.int .u64 (loAt rs i : Int)) := by
  induction rs with
  | nil => intro i h; simp at h
  | cons r rs ih =>
    intro i h
    cases i with
    | zero => rfl
    | succ i =>
      have e : (i + 1) * 2 = i * 2 + 1 + 1 := by omega
      rw [e]
      simp only [rcells, List.getElem?_cons_succ, loAt, List.getD_cons_succ]
      exact ih i (by simpa using h)

theorem rcells_hi (rs : Rngs) : ∀ i, i < rs.length → (rcells rs)[i * 2 + 1]? = some (.int .u64 (hiAt rs i : Int)) := by
  induction rs with
  | nil => intro i h; simp at h
  | cons r rs ih =>
    intro i h
    cases i with
    | zero => rfl
    | succ i =>
      have e : (i + 1) * 2 + 1 = i * 2 + 1 + 1 + 1 := by omega
      rw [e]
      simp only [rcells, List.getElem?_cons_succ, hiAt, List.getD_cons_succ]
      exact ih i (by simpa using h)

theorem rcells_take (rs : Rngs) : ∀ k, (rcells rs).take (k * 2) = rcells (rs.take k) := by
  induction rs with
  | nil => intro k; simp [rcells]
  | cons r rs ih =>
    intro k
    cases k with
    | zero => simp [rcells]
    | succ k =>
      have e : (k + 1) * 2 = k * 2 + 1 + 1 := by omega
      rw [e]
      simp [rcells, ih]

theorem rcells_drop (rs : Rngs) : ∀ k, (rcells rs).drop (k * 2) = rcells (rs.drop k) := by
  induction rs with
  | nil => intro k; simp [rcells]
  | cons r rs ih =>
    intro k
    cases k with
    | zero => simp [rcells]
    | succ k =>
      have e : (k + 1) * 2 = k * 2 + 1 + 1 := by omega
      rw [e]
      simp [rcells, ih]

/-- What a slice of ranges is good for: its cells. -/
theorem own_rcells {w : World} {base e : Nat} {g n cap : Nat} {rs : Rngs} (h : w.ownsRow base e 2 (.slice (some ⟨g, 0, none⟩) n cap) rs.length (rcells rs)) :
    ∀ i, i < rs.length → w.cell? ⟨g, i * 2, none⟩ = some (.int .u64 (loAt rs i : Int)) ∧ w.cell? ⟨g, i * 2 + 1, none⟩ = some (.int .u64 (hiAt rs i : Int)) := by
  intro i hi
  have hc := h.cells (g := g) rfl
  have hadd : ∀ j, (⟨g, 0, none⟩ : Addr).add j = ⟨g, j, none⟩ := fun j => by unfold Addr.add; split <;> simp_all
  exact ⟨by rw [← hadd]; exact hc _ _ (rcells_lo rs i hi), by rw [← hadd]; exact hc _ _ (rcells_hi rs i hi)⟩

/-- A slice that owns a row: its form. -/
theorem own_form {w : World} {base e sz : Nat} {v : Value} {n : Nat} {xs : List Value} (h : w.ownsRow base e sz v n xs) :
    ∃ a cap, v = .slice a n cap ∧ n ≤ cap ∧ cap ≤ maxLen ∧ (0 < n → ∃ g, a = some ⟨g, 0, none⟩) := by
  rcases h.2 with ⟨rfl, rfl⟩ | ⟨g, cap, cur, rfl, _, _, h1, h2, _⟩
  · exact ⟨none, 0, rfl, Nat.le_refl _, Nat.zero_le _, fun h => absurd h (Nat.lt_irrefl _)⟩
  · exact ⟨_, cap, rfl, h1, h2, fun _ => ⟨g, rfl⟩⟩

/-- Of what was there, only blocks of S have turned. -/
structure Mod (S : Nat → Prop) (w w' : World) : Prop where
  os : w'.os = w.os
  tape : w'.tape = w.tape
  output : w'.output = w.output
  size : w.heap.size ≤ w'.heap.size
  block : ∀ k, k < w.heap.size → ¬ S k → w'.heap[k]? = w.heap[k]?

/-- No block at all. -/
def NoB : Nat → Prop := fun _ => False

section
variable {S : Nat → Prop} {w w' w'' : World}
theorem Mod.refl (S : Nat → Prop) (w : World) : Mod S w w := ⟨rfl, rfl, rfl, Nat.le_refl _, fun _ _ _ => rfl⟩
theorem Mod.trans (h : Mod S w w') (k : Mod S w' w'') : Mod S w w'' :=
  ⟨k.os.trans h.os, k.tape.trans h.tape, k.output.trans h.output, Nat.le_trans h.size k.size, fun i hi hs => (k.block i (Nat.lt_of_lt_of_le hi h.size) hs).trans (h.block i hi hs)⟩
/-- The second step may turn new blocks too. -/
theorem Mod.then {S' : Nat → Prop} (h : Mod S w w') (k : Mod S' w' w'') (hs : ∀ i, S' i → S i ∨ w.heap.size ≤ i) : Mod S w w'' :=
  ⟨k.os.trans h.os, k.tape.trans h.tape, k.output.trans h.output, Nat.le_trans h.size k.size,
    fun i hi hn => (k.block i (Nat.lt_of_lt_of_le hi h.size) (fun x => (hs i x).elim hn (fun y => by omega))).trans (h.block i hi hn)⟩
theorem Mod.mono {S' : Nat → Prop} (h : Mod S w w') (hs : ∀ i, S i → S' i ∨ w.heap.size ≤ i) : Mod S' w w' :=
  ⟨h.os, h.tape, h.output, h.size, fun i hi hn => h.block i hi (fun x => (hs i x).elim hn (fun y => by omega))⟩
theorem Mod.drewN (h : Mod S w w') (n : Nat) : Mod S w (w'.drewN n) := ⟨h.os, h.tape, h.output, h.size, h.block⟩
theorem Mod.drew (h : Mod S w w') : Mod S w w'.drew := ⟨h.os, h.tape, h.output, h.size, h.block⟩
theorem Mod.alloc (h : Mod S w w') (o : Obj) : Mod S w (w'.alloc o) :=
  ⟨h.os, h.tape, h.output, Nat.le_trans h.size (by simp), fun i hi hn => (Below.heap_alloc w' o i (Nat.lt_of_lt_of_le hi h.size)).trans (h.block i hi hn)⟩
theorem Mod.setCell (h : Mod S w w') {p : Addr} (hp : S p.block ∨ w.heap.size ≤ p.block) (u : Value) : Mod S w (w'.setCell p u) :=
  ⟨h.os, h.tape, h.output, by simpa [World.setCell] using h.size, fun i hi hn => (Below.heap_setCell w' p u i (by
    rintro rfl
    rcases hp with hp | hp
    · exact hn hp
    · omega)).trans (h.block i hi hn)⟩
theorem Mod.grown {row : Option Nat} (h : Mod S w w') (hg : w'.grownBy w'' row) (hr : ∀ k, row = some k → S k ∨ w.heap.size ≤ k) : Mod S w w'' :=
  ⟨hg.os.trans h.os, hg.tape.trans h.tape, hg.output.trans h.output, Nat.le_trans h.size hg.size,
    fun i hi hn => (hg.block i (Nat.lt_of_lt_of_le hi h.size) (fun e => by
      rcases hr i e.symm with x | x
      · exact hn x
      · omega)).trans (h.block i hi hn)⟩
theorem Mod.of_below (h : Below w.heap.size w w') : Mod S w w' := ⟨h.os, h.tape, h.output, h.size, fun i hi _ => h.block i hi⟩
theorem Mod.below (h : Mod NoB w w') : Below w.heap.size w w' := ⟨h.os, h.tape, h.output, h.size, fun i hi => h.block i hi (fun x => x)⟩
theorem Mod.cell (h : Mod S w w') {a : Addr} {v : Value} (hs : ¬ S a.block) (hc : w.cell? a = some v) : w'.cell? a = some v :=
  (World.cell?_of_block (h.block a.block (World.block_lt_of_cell? w a hc) hs)).trans hc
theorem Mod.obj (h : Mod S w w') {k : Nat} {o : Obj} (hs : ¬ S k) (hc : w.heap[k]? = some o) : w'.heap[k]? = some o :=
  (h.block k (Array.getElem?_eq_some_iff.1 hc).1 hs).trans hc
theorem Mod.owns (h : Mod S w w') {base e sz n : Nat} {v : Value} {xs : List Value} (ho : w.ownsRow base e sz v n xs) (hs : ∀ g, v.ownBlock = some g → ¬ S g) : w'.ownsRow base e sz v n xs := by
  refine ⟨ho.1, ?_⟩
  rcases ho.2 with hn | ⟨g, cap, cur, rfl, hb, hg, rest⟩
  · exact .inl hn
  · exact .inr ⟨g, cap, cur, rfl, hb, h.obj (hs g rfl) hg, rest⟩
end

theorem lt_of_cell {w : World} {b o : Nat} {v : Value} (h : w.cell? ⟨b, o, none⟩ = some v) : b < w.heap.size := World.block_lt_of_cell? w _ h

theorem cell_of_obj {w : World} {k o t : Nat} {cs : Array Value} {fz : Nat × Nat} {v : Value} (h : w.heap[k]? = some (.cells cs t fz)) (hv : cs[o]? = some v) : w.cell? ⟨k, o, none⟩ = some v := by
  unfold World.cell?
  simp only [h]
  simpa using hv

theorem frozen_of_obj {w : World} {k o t : Nat} {cs : Array Value} (h : w.heap[k]? = some (.cells cs t (0, 0))) : w.frozen? ⟨k, o, none⟩ = false := by
  unfold World.frozen?
  simp only [h]
  simp

theorem cell_set_ne {w : World} {R j : Nat} {x v : Value} {a : Addr} (h : w.cell? a = some v) (ne : ¬ a.block = R) : (w.setCell ⟨R, j, none⟩ x).cell? a = some v :=
  ((Mod.refl (fun k => k = R) w).setCell (p := ⟨R, j, none⟩) (.inl rfl) x).cell ne h

theorem keep1 {w : World} {R j : Nat} {x v : Value} {a : Addr} (h : w.cell? a = some v) (ne : ¬ a.block = R) : (w.setCell ⟨R, j, none⟩ x).drew.cell? a = some v := cell_set_ne h ne
theorem keep2 {w : World} {R j k : Nat} {x y v : Value} {a : Addr} (h : w.cell? a = some v) (ne : ¬ a.block = R) : ((w.setCell ⟨R, j, none⟩ x).setCell ⟨R, k, none⟩ y).drew.cell? a = some v := cell_set_ne (cell_set_ne h ne) ne

theorem setCell_block {w w' : World} {b : Nat} (h : w'.heap[b]? = w.heap[b]?) (o : Nat) (v : Value) : (w'.setCell ⟨b, o, none⟩ v).heap[b]? = (w.setCell ⟨b, o, none⟩ v).heap[b]? := by
  simp only [World.setCell, Array.getElem?_modify, h]

theorem run_enter {P : Program} {f : FuncId} {fn : Func} {c : Code} (hf : P.funcs[f]? = some fn) (hname : (fn.name == "runtime.NumGoroutine") = false) (hb : fn.body = some c) (args : Array Value) (w : World) :
    (callFunc f args).run P w = .ok (.enter f args) w := by
  have h1 : fn.name ≠ "runtime.NumGoroutine" := by simpa using hname
  simp [callFunc, hf, h1, hb]
end Go.Proofs.YtddfdpbaiedcjaaDoor
