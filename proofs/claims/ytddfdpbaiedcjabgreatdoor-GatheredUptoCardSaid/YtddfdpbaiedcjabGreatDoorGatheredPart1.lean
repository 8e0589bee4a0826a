/- The statement Gathered, second form, its card: where what the law reads is of bulk at most 1048576, and the two listed variables read as listed, it returns true, and its argument reads behind the call as before. Part 1 of 23. -/
import Derived.WalkKit
import Derived.Deep.Draws
import Derived.Test.YtddfdpbaiedcjabGreatDoorRows
import Derived.Deep.QuietTactic
import Derived.BigQuiet
import Derived.WalkSpells
import Derived.LoopTactic
import Derived.Laws.CopyOwn
import Derived.Laws.Append
import Derived.Laws.AppendOwn
import Derived.Laws.Cells
import Derived.Lib.SliceRun
import Derived.IntWalk
import Derived.Tactics
import Derived.Deep.RegionLaw
import Derived.RegionTactic
import Derived.BigRegion
import Derived.Outline
import Derived.Lib.Overlaps
import Derived.OwnWalk
/- Words and lemmas that need no program: the lists of ranges, hiding of facts, rows of cells. -/
namespace Go.Proofs.YtddfdpbaiedcjabGreatDoor
open Go.RowKit

theorem hide {p : Prop} (h : p) : Hid p := h

/-- A list of ranges, each (lo, hi). -/
abbrev Rngs := List (Nat × Nat)

def loAt (rs : Rngs) (i : Nat) : Nat := (rs.getD i (0, 0)).1
def hiAt (rs : Rngs) (i : Nat) : Nat := (rs.getD i (0, 0)).2

def rcells : Rngs → List Value
  | [] => []
  | r :: rs => .int .u64 (r.1 : Int) :: .int .u64 (r.2 : Int) :: rcells rs

theorem rcells_length (rs : Rngs) : (rcells rs).length = rs.length * 2 := by
  induction rs with
  | nil => rfl
  | cons r rs ih => simp only [rcells, List.length_cons, ih]; omega

theorem rcells_append (a b : Rngs) : rcells (a ++ b) = rcells a ++ rcells b := by
  induction a with
  | nil => rfl
  | cons r rs ih => simp [rcells, ih]

theorem rcells_lo (rs : Rngs) : ∀ i, i < rs.length → (rcells rs)[i * 2]? = some (.int .u64 (loAt rs i : Int)) := by
  induction rs with
  | nil => intro i h; simp at h
  | cons r rs ih =>
    intro i h
    cases i with
    | zero => rfl
    | succ i =>
      have e : (i + 1) * 2 = i * 2 + 1 + 1 := by omega
      rw [e]
      simp only [rcells, List.getElem?_cons_succ, loAt, List.getD_cons_succ]
      exact ih i (by simpa using h)

theorem rcells_hi (rs : Rngs) : ∀ i, i < rs.length → (rcells rs)[i * 2 + 1]? = some (.int .u64 (hiAt rs i : Int)) := by
  induction rs with
  | nil => intro i h; simp at h
  | cons r rs ih =>
    intro i h
    cases i with
    | zero => rfl
    | succ i =>
      have e : (i + 1) * 2 + 1 = i * 2 + 1 + 1 + 1 := by omega
      rw [e]
      simp only [rcells, List.getElem?_cons_succ, hiAt, List.getD_cons_succ]
      exact ih i (by simpa using h)

theorem rcells_take (rs : Rngs) : ∀ k, (rcells rs).take (k * 2) = rcells (rs.take k) := by
  induction rs with
  | nil => intro k; simp [rcells]
  | cons r rs ih =>
    intro k
    cases k with
    | zero => simp [rcells]
    | succ k =>
      have e : (k + 1) * 2 = k * 2 + 1 + 1 := by omega
      rw [e]
      simp [rcells, ih]

theorem rcells_drop (rs : Rngs) : ∀ k, (rcells rs).drop (k * 2) = rcells (rs.drop k) := by
  induction rs with
  | nil => intro k; simp [rcells]
  | cons r rs ih =>
    intro k
    cases k with
    | zero => simp [rcells]
    | succ k =>
      have e : (k + 1) * 2 = k * 2 + 1 + 1 := by omega
      rw [e]
      simp [rcells, ih]

/-- What a slice of ranges is good for: its cells. -/
theorem own_rcells {w : World} {base e : Nat} {g n cap : Nat} {rs : Rngs} (h : w.ownsRow base e 2 (.slice (some ⟨g, 0, none⟩) n cap) rs.length (rcells rs)) :
    ∀ i, i < rs.length → w.cell? ⟨g, i * 2, none⟩ = some (.int .u64 (loAt rs i : Int)) ∧ w.cell? ⟨g, i * 2 + 1, none⟩ = some (.int .u64 (hiAt rs i : Int)) := by
  intro i hi
  have hc := h.cells (g := g) rfl
  have hadd : ∀ j, (⟨g, 0, none⟩ : Addr).add j = ⟨g, j, none⟩ := fun j => by unfold Addr.add; split <;> simp_all
  exact ⟨by rw [← hadd]; exact hc _ _ (rcells_lo rs i hi), by rw [← hadd]; exact hc _ _ (rcells_hi rs i hi)⟩

/-- A slice that owns a row: its form. -/
theorem own_form {w : World} {base e sz : Nat} {v : Value} {n : Nat} {xs : List Value} (h : w.ownsRow base e sz v n xs) :
    ∃ a cap, v = .slice a n cap ∧ n ≤ cap ∧ cap ≤ maxLen ∧ (0 < n → ∃ g, a = some ⟨g, 0, none⟩) := by
  rcases h.2 with ⟨rfl, rfl⟩ | ⟨g, cap, cur, rfl, _, _, h1, h2, _⟩
  · exact ⟨none, 0, rfl, Nat.le_refl _, Nat.zero_le _, fun h => absurd h (Nat.lt_irrefl _)⟩
  · exact ⟨_, cap, rfl, h1, h2, fun _ => ⟨g, rfl⟩⟩

/-- Of what was there, only blocks of S have turned. -/
structure Mod (S : Nat → Prop) (w w' : World) : Prop where
  os : w'.os = w.os
  tape : w'.tape = w.tape
  output : w'.output = w.output
  size : w.heap.size ≤ w'.heap.size
  block : ∀ k, k < w.heap.size → ¬ S k → w'.heap[k]? = w.heap[k]?

/-- No block at all. -/
def NoB : Nat → Prop := fun _ => False

section
variable {S : Nat → Prop} {w w' w'' : World}
theorem Mod.refl (S : Nat → Prop) (w : World) : Mod S w w := ⟨rfl, rfl, rfl, Nat.le_refl _, fun _ _ _ => rfl⟩
theorem Mod.trans (h : Mod S w w') (k : Mod S w' w'') : Mod S w w'' :=
  ⟨k.os.trans h.os, k.tape.trans h.tape, k.output.trans h.output, Nat.le_trans h.size k.size, fun i hi hs => (k.block i (Nat.lt_of_lt_of_le hi h.size) hs).trans (h.block i hi hs)⟩
/-- The second step may turn new blocks too. -/
theorem Mod.then {S' : Nat → Prop} (h : Mod S w w') (k : Mod S' w' w'') (hs : ∀ i, S' i → S i ∨ w.heap.size ≤ i) : Mod S w w'' :=
  ⟨k.os.trans h.os, k.tape.trans h.tape, k.output.trans h.output, Nat.le_trans h.size k.size,
    fun i hi hn => (k.block i (Nat.lt_of_lt_of_le hi h.size) (fun x => (hs i x).elim hn (fun y => by omega))).trans (h.block i hi hn)⟩
theorem Mod.mono {S' : Nat → Prop} (h : Mod S w w') (hs : ∀ i, S i → S' i ∨ w.heap.size ≤ i) : Mod S' w w' :=
  ⟨h.os, h.tape, h.output, h.size, fun i hi hn => h.block i hi (fun x => (hs i x).elim hn (fun y => by omega))⟩
theorem Mod.drewN (h : Mod S w w') (n : Nat) : Mod S w (w'.drewN n) := ⟨h.os, h.tape, h.output, h.size, h.block⟩
theorem Mod.drew (h : Mod S w w') : Mod S w w'.drew := ⟨h.os, h.tape, h.output, h.size, h.block⟩
theorem Mod.alloc (h : Mod S w w') (o : Obj) : Mod S w (w'.alloc o) :=
  ⟨h.os, h.tape, h.output, Nat.le_trans h.size (by simp), fun i hi hn => (Below.heap_alloc w' o i (Nat.lt_of_lt_of_le hi h.size)).trans (h.block i hi hn)⟩
theorem Mod.setCell (h : Mod S w w') {p : Addr} (hp : S p.block ∨ w.heap.size ≤ p.block) (u : Value) : Mod S w (w'.setCell p u) :=
  ⟨h.os, h.tape, h.output, by simpa [World.setCell] using h.size, fun i hi hn => (Below.heap_setCell w' p u i (by
    rintro rfl
    rcases hp with hp | hp
    · exact hn hp
    · omega)).trans (h.block i hi hn)⟩
theorem Mod.grown {row : Option Nat} (h : Mod S w w') (hg : w'.grownBy w'' row) (hr : ∀ k, row = some k → S k ∨ w.heap.size ≤ k) : Mod S w w'' :=
  ⟨hg.os.trans h.os, hg.tape.trans h.tape, hg.output.trans h.output, Nat.le_trans h.size hg.size,
    fun i hi hn => (hg.block i (Nat.lt_of_lt_of_le hi h.size) (fun e => by
      rcases hr i e.symm with x | x
      · exact hn x
      · omega)).trans (h.block i hi hn)⟩
theorem Mod.of_below (h : Below w.heap.size w w') : Mod S w w' := ⟨h.os, h.tape, h.output, h.size, fun i hi _ => h.block i hi⟩
theorem Mod.below (h : Mod NoB w w') : Below w.heap.size w w' := ⟨h.os, h.tape, h.output, h.size, fun i hi => h.block i hi (fun x => x)⟩
theorem Mod.cell (h : Mod S w w') {a : Addr} {v : Value} (hs : ¬ S a.block) (hc : w.cell? a = some v) : w'.cell? a = some v :=
  (World.cell?_of_block (h.block a.block (World.block_lt_of_cell? w a hc) hs)).trans hc
theorem Mod.obj (h : Mod S w w') {k : Nat} {o : Obj} (hs : ¬ S k) (hc : w.heap[k]? = some o) : w'.heap[k]? = some o :=
  (h.block k (Array.getElem?_eq_some_iff.1 hc).1 hs).trans hc
theorem Mod.owns (h : Mod S w w') {base e sz n : Nat} {v : Value} {xs : List Value} (ho : w.ownsRow base e sz v n xs) (hs : ∀ g, v.ownBlock = some g → ¬ S g) : w'.ownsRow base e sz v n xs := by
  refine ⟨ho.1, ?_⟩
  rcases ho.2 with hn | ⟨g, cap, cur, rfl, hb, hg, rest⟩
  · exact .inl hn
  · exact .inr ⟨g, cap, cur, rfl, hb, h.obj (hs g rfl) hg, rest⟩
end

theorem lt_of_cell {w : World} {b o : Nat} {v : Value} (h : w.cell? ⟨b, o, none⟩ = some v) : b < w.heap.size := World.block_lt_of_cell? w _ h

theorem cell_of_obj {w : World} {k o t : Nat} {cs : Array Value} {fz : Nat × Nat} {v : Value} (h : w.heap[k]? = some (.cells cs t fz)) (hv : cs[o]? = some v) : w.cell? ⟨k, o, none⟩ = some v := by
  unfold World.cell?
  simp only [h]
  simpa using hv

theorem frozen_of_obj {w : World} {k o t : Nat} {cs : Array Value} (h : w.heap[k]? = some (.cells cs t (0, 0))) : w.frozen? ⟨k, o, none⟩ = false := by
  unfold World.frozen?
  simp only [h]
  simp

theorem cell_set_ne {w : World} {R j : Nat} {x v : Value} {a : Addr} (h : w.cell? a = some v) (ne : ¬ a.block = R) : (w.setCell ⟨R, j, none⟩ x).cell? a = some v :=
  ((Mod.refl (fun k => k = R) w).setCell (p := ⟨R, j, none⟩) (.inl rfl) x).cell ne h

theorem keep1 {w : World} {R j : Nat} {x v : Value} {a : Addr} (h : w.cell? a = some v) (ne : ¬ a.block = R) : (w.setCell ⟨R, j, none⟩ x).drew.cell? a = some v := cell_set_ne h ne
theorem keep2 {w : World} {R j k : Nat} {x y v : Value} {a : Addr} (h : w.cell? a = some v) (ne : ¬ a.block = R) : ((w.setCell ⟨R, j, none⟩ x).setCell ⟨R, k, none⟩ y).drew.cell? a = some v := cell_set_ne (cell_set_ne h ne) ne

theorem setCell_block {w w' : World} {b : Nat} (h : w'.heap[b]? = w.heap[b]?) (o : Nat) (v : Value) : (w'.setCell ⟨b, o, none⟩ v).heap[b]? = (w.setCell ⟨b, o, none⟩ v).heap[b]? := by
  simp only [World.setCell, Array.getElem?_modify, h]

theorem run_enter {P : Program} {f : FuncId} {fn : Func} {c : Code} (hf : P.funcs[f]? = some fn) (hname : (fn.name == "runtime.NumGoroutine") = false) (hb : fn.body = some c) (args : Array Value) (w : World) :
    (callFunc f args).run P w = .ok (.enter f args) w := by
  have h1 : fn.name ≠ "runtime.NumGoroutine" := by simpa using hname
  simp [callFunc, hf, h1, hb]
end Go.Proofs.YtddfdpbaiedcjabGreatDoor
/- sort.Search: the place where a test turns from false to true. -/
namespace Go.Proofs.YtddfdpbaiedcjabGreatDoor
open Go.RowKit

/-- A test of an index, by a function value: it only reads. -/
def TestAt (F : FuncId) (caps : Array Value) (n : Nat) (p : Nat → Bool) (w : World) : Prop :=
  ∀ i k, i < n → Calls Tryz.prog F (#[.int .i64 (i : Int)] ++ caps) (w.drewN k) fun e w' => e = .returned (.bool (p i)) ∧ ∃ k, w' = w.drewN k

def Enters (F : FuncId) : Prop := ∀ args w, (callFunc F args).run Tryz.prog w = .ok (.enter F args) w

def SearchIs (n : Nat) (p : Nat → Bool) (m : Nat) : Prop := m ≤ n ∧ (0 < m → p (m - 1) = false) ∧ (m < n → p m = true)

set_option maxHeartbeats 400000 in
theorem search (n : Nat) (F : FuncId) (caps : Array Value) (p : Nat → Bool) (w : World) (hn : n ≤ 4611686018427387904) (hF : Enters F) (hp : TestAt F caps n p w) :
    Calls Tryz.prog 75 #[.int .i64 n, .func (.func F) #[] caps] w fun e w' => ∃ m : Nat, SearchIs n p m ∧ e = .returned (.int .i64 m) ∧ ∃ k, w' = w.drewN k := by
  go_enter Tryz.func75, Tryz.ntmps75
  go_wp2_with fail
  go_loopw [5, 6] (fun i j w' => ∃ a b : Nat, a ≤ b ∧ b ≤ n ∧ i = .int .i64 a ∧ j = .int .i64 b ∧ (0 < a → p (a - 1) = false) ∧ (b < n → p b = true) ∧ ∃ k, w' = w.drewN k) (fun i j _ => ((intOf j) - (intOf i)).toNat)
  case atStart => exact ⟨0, n, by omega, by omega, rfl, rfl, by omega, by omega, 0, rfl⟩
  case round =>
    obtain ⟨a, b, hab, hbn, rfl, rfl, h1, h2, k, rfl⟩ := hrel
    by_cases hlt : a < b
    · have e1 : (a + b) / 2 < n := by omega
      have H := hp ((a + b) / 2) k e1
      have e2 : 0 ≤ (a : Int) + b := by omega
      have ec : (((a + b) / 2 : Nat) : Int) = ((a : Int) + b) / 2 := by omega
      rw [ec] at H
      have hF' : ∀ args w, (callFunc F args).run Tryz.prog w = .ok (.enter F args) w := hF
      clear ec
      cases hpv : p ((a + b) / 2)
      · rw [hpv] at H
        have Hp : Hid (p ((a + b) / 2) = false) := hpv
        clear hpv
        go_wp2_with (refine H.mono ?_; rintro e w' ⟨rfl, k', rfl⟩)
        go_roundw
        case rel => exact ⟨(a + b) / 2 + 1, b, by omega, by omega, by go_num, rfl, fun _ => Hp, h2, k', rfl⟩
        case measure => simp [intOf]; omega
      · rw [hpv] at H
        have Hp : Hid (p ((a + b) / 2) = true) := hpv
        clear hpv
        go_wp2_with (refine H.mono ?_; rintro e w' ⟨rfl, k', rfl⟩)
        go_roundw
        case rel => exact ⟨a, (a + b) / 2, by omega, by omega, rfl, by go_num, h1, fun _ => Hp, k', rfl⟩
        case measure => simp [intOf]; omega
    · go_wp2_with fail
      go_ret
      exact ⟨a, ⟨by omega, h1, fun h => by have e : a = b := by omega
                                           rw [e]; exact h2 (by omega)⟩, rfl, k, rfl⟩
end Go.Proofs.YtddfdpbaiedcjabGreatDoor
/- A set of numbers in memory; Set.Has, Set.Floor, NewSet. -/
namespace Go.Proofs.YtddfdpbaiedcjabGreatDoor
open Go.RowKit

/-- A set lies at (b, o): its three cells; the slice of its ranges owns its row. -/
structure SetAt (w : World) (b o : Nat) (v : Value) (rs : Rngs) (fl most : Nat) : Prop where
  cl : w.cell? ⟨b, o, none⟩ = some v
  cf : w.cell? ⟨b, o + 1, none⟩ = some (.int .u64 (fl : Int))
  cm : w.cell? ⟨b, o + 2, none⟩ = some (.int .i64 (most : Int))
  own : w.ownsRow 0 110 2 v rs.length (rcells rs)
  len : rs.length ≤ 1099511627776
  fz : ∀ j, w.frozen? ⟨b, j, none⟩ = false

theorem SetAt.mod {S : Nat → Prop} {w w' : World} {b o : Nat} {v : Value} {rs : Rngs} {fl most : Nat} (h : SetAt w b o v rs fl most) (m : Mod S w w') (hb : ¬ S b) (hs : ∀ g, v.ownBlock = some g → ¬ S g) : SetAt w' b o v rs fl most :=
  ⟨m.cell hb h.cl, m.cell hb h.cf, m.cell hb h.cm, m.owns h.own hs, h.len, fun j => by rw [World.frozen?_of_block (w := w) (m.block b (lt_of_cell h.cl) hb)]; exact h.fz j⟩

def hiGe (rs : Rngs) (n : Nat) (i : Nat) : Bool := decide (n ≤ hiAt rs i)

theorem has1_any (rs : Rngs) (fl most i b o bb bn n : Nat) (v : Value) (w : World)
    (hs : w.cell? ⟨bb, 0, none⟩ = some (.pointer (some ⟨b, o, none⟩))) (hn : w.cell? ⟨bn, 0, none⟩ = some (.int .u64 (n : Int)))
    (h : SetAt w b o v rs fl most) (hi : i < rs.length) :
    Calls Tryz.prog 80 #[.int .i64 i, .pointer (some ⟨bb, 0, none⟩), .pointer (some ⟨bn, 0, none⟩)] w fun e w' => e = .returned (.bool (hiGe rs n i)) ∧ ∃ k, w' = w.drewN k := by
  obtain ⟨a, cap, rfl, h1, h2, h3⟩ := own_form h.own
  obtain ⟨g, rfl⟩ := h3 (by omega)
  have hl := h.cl
  have hr := (own_rcells h.own i hi).2
  have hi1 : (i : Int) < rs.length := by omega
  have hi0 : 0 ≤ (i : Int) := by omega
  unfold maxLen at h2
  clear h3
  go_enter Tryz.func80, Tryz.ntmps80
  go_wp2_with fail
  go_quiet (fail)
  go_wp2_with fail
  go_ret
  exact ⟨rfl, _, rfl⟩

def hasB (rs : Rngs) (fl n : Nat) : Bool := decide (n < fl) || rs.any fun r => decide (r.1 ≤ n) && decide (n ≤ r.2)

theorem enters_has1 : Enters 80 := fun args w => run_enter Tryz.func80 (by kernel_rfl) rfl args w

theorem has_walk (rs : Rngs) (fl most b o n : Nat) (v : Value) (w : World) (h : SetAt w b o v rs fl most) :
    Calls Tryz.prog 40 #[.pointer (some ⟨b, o, none⟩), .int .u64 n] w fun e w' => ∃ m, SearchIs rs.length (hiGe rs n) m ∧ e = .returned (.bool (decide (n < fl) || decide (m < rs.length) && decide (loAt rs m ≤ n))) ∧ Below w.heap.size w w' := by
  have hbw := lt_of_cell h.cl
  have hlen := h.len
  obtain ⟨a, cap, hv, h1, h2, h3⟩ := own_form h.own
  unfold maxLen at h2
  have hsr := search rs.length 80 #[.pointer (some ⟨w.heap.size, 0, none⟩), .pointer (some ⟨w.heap.size + 1, 0, none⟩)] (hiGe rs n) ((w.alloc (.cells #[.pointer (some ⟨b, o, none⟩)] 101)).alloc (.cells #[.int .u64 n] 34)) (by omega) enters_has1 (by
    intro i k hi
    have hm : Mod NoB w (((w.alloc (.cells #[.pointer (some ⟨b, o, none⟩)] 101)).alloc (.cells #[.int .u64 n] 34)).drewN k) := (((Mod.refl _ _).alloc _).alloc _).drewN k
    exact (has1_any rs fl most i b o w.heap.size (w.heap.size + 1) n v _ (by simp) (by simp) (h.mod hm (fun x => x) (fun _ _ x => x)) hi).mono fun e w' ⟨he, k', hw⟩ => ⟨he, k + k', by rw [hw, World.drewN_drewN]⟩)
  have hl := h.cl
  have hf := h.cf
  subst hv
  go_enter Tryz.func40, Tryz.ntmps40
  go_wp2_with (go_at_call 75; refine hsr.mono ?_; rintro e w' ⟨m, hm, rfl, k, rfl⟩)
  have fin : ∀ j, Below w.heap.size w ((((w.alloc (.cells #[.pointer (some ⟨b, o, none⟩)] 101)).alloc (.cells #[.int .u64 n] 34)).drewN k).drewN j) := fun j => (((((Mod.refl NoB _).alloc _).alloc _).drewN k).drewN j).below
  by_cases c1 : n < fl
  · have d1 : decide ((n : Int) < fl) = true := by simp; omega
    go_quiet (fail)
    go_wp2_with fail
    go_ret
    exact ⟨m, hm, by simp [c1], fin _⟩
  · have d1 : decide ((n : Int) < fl) = false := by simp; omega
    by_cases c2 : m < rs.length
    · have d2 : decide ((m : Int) < rs.length) = true := by simp; omega
      obtain ⟨g, rfl⟩ := h3 (by omega)
      have hr := (own_rcells h.own m c2).1
      have hg := lt_of_cell hr
      clear h3 hsr
      go_quiet (fail)
      go_wp2_with fail
      go_ret
      exact ⟨m, hm, by simp [c1, c2], fin _⟩
    · have d2 : decide ((m : Int) < rs.length) = false := by simp; omega
      clear h3 hsr
      go_quiet (fail)
      go_wp2_with fail
      go_ret
      exact ⟨m, hm, by simp [c1, c2], fin _⟩

theorem floor_walk (rs : Rngs) (fl most b o : Nat) (v : Value) (w : World) (h : SetAt w b o v rs fl most) :
    Calls Tryz.prog 42 #[.pointer (some ⟨b, o, none⟩)] w fun e w' => e = .returned (.int .u64 (fl : Int)) ∧ w = w' := by
  have hf := h.cf
  go_enter Tryz.func42, Tryz.ntmps42
  go_wp2_with fail
  go_ret
  exact ⟨rfl, rfl⟩

theorem newset_walk (most : Int) (w : World) (hm : most ≤ 9223372036854775807) (hl : -9223372036854775808 ≤ most) :
    Calls Tryz.prog 37 #[.int .i64 most] w fun e w' => e = .returned (.pointer (some ⟨w.heap.size, 0, none⟩)) ∧ w' = w.alloc (.cells #[.slice none 0 0, .int .u64 0, .int .i64 (max most 1)] 138) := by
  go_enter Tryz.func37, Tryz.ntmps37
  go_wp2_with fail
  · go_ret
    exact ⟨rfl, by rw [show max most 1 = 1 by omega]⟩
  · go_ret
    exact ⟨rfl, by rw [show max most 1 = most by omega]⟩
end Go.Proofs.YtddfdpbaiedcjabGreatDoor
/- Laws of the built-in copy, clear and append on rows of cells; elements of any number of cells. No program. -/
namespace Go.Proofs.YtddfdpbaiedcjabGreatDoor
open Go.RowKit

section
variable {P : Program}

theorem addr_add (g o j : Nat) : (⟨g, o, none⟩ : Addr).add j = ⟨g, o + j, none⟩ := by unfold Addr.add; split <;> simp_all

theorem size_of_info {e k : Nat} (hk : (P.info? e).map (·.size) = some k) (w : World) : (sizeOf e).run P w = .ok k w := by
  cases hq : P.info? e with
  | none => simp [hq] at hk
  | some i => simp [hq] at hk; simp [sizeOf, typeInfo, hq, hk]

theorem row_cells {w : World} {g : Nat} {cur : List Value} {t : Nat} {fz : Nat × Nat} (hg : w.heap[g]? = some (.cells cur.toArray t fz)) (o n : Nat) :
    ∀ j v, ((cur.drop o).take n)[j]? = some v → w.cell? ((⟨g, o, none⟩ : Addr).add j) = some v := by
  intro j v hj
  rw [addr_add]
  rw [List.getElem?_take] at hj
  split at hj
  · rw [List.getElem?_drop] at hj
    simpa [World.cell?, hg] using hj
  · cases hj

theorem run_copy_rows (w : World) (dT sT ty e k : Nat) (hu : P.underlying dT = some (.slice e)) (hk : (P.info? e).map (·.size) = some k)
    (g od dl dc h os sl sc n : Nat) (cur src : List Value) (t t' : Nat) (fz : Nat × Nat)
    (hg : w.heap[g]? = some (.cells cur.toArray t (0, 0))) (hh : w.heap[h]? = some (.cells src.toArray t' fz)) (hn1 : n ≤ sl) (hn2 : n ≤ dl) (hn3 : n = sl ∨ n = dl)
    (hs : os + n * k ≤ src.length) (hd : od + n * k ≤ cur.length) (h1 : ∀ v ∈ (src.drop os).take (n * k), v.oneCell' = true) :
    (Builtin.copy_ #[dT, sT] ty #[.slice (some ⟨g, od, none⟩) dl dc, .slice (some ⟨h, os, none⟩) sl sc]).run P w =
      .ok (goInt n) (w.setRow g (splice cur od ((src.drop os).take (n * k))).toArray) := by
  have hn : n = Nat.min sl dl := by
    show n = min sl dl
    omega
  have hlen : ((src.drop os).take (n * k)).length = n * k := by simp; omega
  have hl := run_firstCells_some (P := P) (w := w) k n ⟨h, os, none⟩ sl sc _ hlen (row_cells hh os (n * k))
  have hst := run_storeCells_at P g od t ((src.drop os).take (n * k)) 0 cur.toArray w hg (by simp; omega) h1
  have hz := size_of_info hk
  subst hn
  simp only [Nat.add_zero, hlen] at hst
  have hst' := hst
  simp [Builtin.copy_, run_underlying hu, Builtin.lenOf, hz, hl, hst, splice, hlen]
  try omega

theorem run_copy_zero (w : World) (dT sT ty e k : Nat) (hu : P.underlying dT = some (.slice e)) (hk : (P.info? e).map (·.size) = some k)
    (d s : Option Addr) (dl dc sl sc : Nat) (hn : Nat.min sl dl = 0) :
    (Builtin.copy_ #[dT, sT] ty #[.slice d dl dc, .slice s sl sc]).run P w = .ok (goInt 0) w := by
  have hz := size_of_info hk
  have hf : (Builtin.firstCells k 0 (.slice s sl sc)).run P w = .ok #[] w := by
    cases s with
    | none => exact run_firstCells_none ..
    | some a => exact run_firstCells_some (P := P) (w := w) k 0 a sl sc [] (by simp) (by simp)
  simp [Builtin.copy_, run_underlying hu, Builtin.lenOf, hz, hn, hf]
  cases d <;> simp [storeCells]

theorem zeroCells_one (z : Array Value) (n : Nat) (h1 : ∀ v ∈ z.toList, v.oneCell' = true) : ∀ v ∈ (Builtin.zeroCells z n).toList, v.oneCell' = true := by
  intro v hv
  simp only [Builtin.zeroCells, Array.toList_map, List.mem_map] at hv
  obtain ⟨i, hi, rfl⟩ := hv
  by_cases hz : z.size = 0
  · simp [hz] at hi
  · have hlt : i % z.size < z.size := Nat.mod_lt _ (by omega)
    apply h1
    rw [getElem!_pos z _ hlt]
    exact Array.getElem_mem_toList hlt

theorem run_clear_rows (w : World) (T ty e : Nat) (z : Value) (k : Nat) (hu : P.underlying T = some (.slice e)) (hv : ∀ w, (zeroValue e).run P w = .ok z w) (hz : z.cells.size = k)
    (h1 : ∀ v ∈ z.cells.toList, v.oneCell' = true) (g o n c : Nat) (cur : List Value) (t : Nat) (hg : w.heap[g]? = some (.cells cur.toArray t (0, 0))) (hd : o + n * k ≤ cur.length) :
    (Builtin.clear_ #[T] ty #[.slice (some ⟨g, o, none⟩) n c]).run P w = .ok (.tuple #[]) (w.setRow g (splice cur o (Builtin.zeroCells z.cells n).toList).toArray) := by
  have hlen : (Builtin.zeroCells z.cells n).toList.length = n * k := by simp [size_zeroCells, hz]
  have hst := run_storeCells_at P g o t (Builtin.zeroCells z.cells n).toList 0 cur.toArray w hg (by rw [hlen]; simpa using hd) (zeroCells_one _ _ h1)
  simp only [Nat.add_zero, hlen] at hst
  cases n with
  | zero =>
    have e1 : (Builtin.zeroCells z.cells 0).toList = [] := by simp [Builtin.zeroCells]
    have := setRow_self w g cur.toArray t (0, 0) hg
    simp [Builtin.clear_, run_underlying hu, e1, splice, this]
  | succ n =>
    simp only [Builtin.clear_]
    simp [run_underlying hu, hv, hst, splice, hlen]

/-- The block of v' is v's, or new. -/
def NewOr (w : World) (v v' : Value) : Prop := ∀ k, v'.ownBlock = some k → v.ownBlock = some k ∨ w.heap.size ≤ k

theorem NewOr.refl (w : World) (v : Value) : NewOr w v v := fun _ h => .inl h

/-- append onto a row that is owned: where the result lies is told. -/
theorem run_append_owned_at (w : World) (t e : Nat) (i : TypeInfo) (z : Value) (size bytes : Nat) (ht : P.underlying t = some (.slice e)) (hi : P.info? e = some i) (hz : i.zero = some z)
    (hsize : i.size = size) (hby : i.bytes = bytes) (hzs : z.cells.size = size) (hsz : 0 < size)
    (v : Value) (n : Nat) (xs : List Value) (hown : w.ownsRow 0 e size v n xs)
    (a : Addr) (m c : Nat) (news : List Value) (hl : news.length = m * size) (hnews : ∀ j u, news[j]? = some u → w.cell? (a.add j) = some u) (h1 : ∀ u ∈ news, u.oneCell' = true)
    (h63 : n + m ≤ maxLen) (hbytes : (n + m) * bytes ≤ 140737488355328) :
    ∃ v' w', (∀ ty, (Builtin.append_ #[t, t] ty #[v, .slice (some a) m c]).run P w = .ok v' w') ∧ w'.ownsRow 0 e size v' (n + m) (xs ++ news) ∧ w.grownBy w' v.ownBlock ∧ NewOr w v v' := by
  subst hsize
  subst hby
  have hsmall : n + m ≤ 9223372036854775807 := by simp only [maxLen] at h63; omega
  have hlen : (xs ++ news).length = (n + m) * i.size := by rw [List.length_append, hown.1, hl, Nat.add_mul]
  have grown : ∀ (old : Nat), old < n + m → ∀ (row : Option Nat),
      (w.drew.alloc (.cells (xs.toArray ++ news.toArray ++ Builtin.zeroCells z.cells (grownCap w (n + m) old e - (n + m))) e)).ownsRow 0 e i.size
        (.slice (some ⟨w.heap.size, 0, none⟩) (n + m) (grownCap w (n + m) old e)) (n + m) (xs ++ news) ∧
      w.grownBy (w.drew.alloc (.cells (xs.toArray ++ news.toArray ++ Builtin.zeroCells z.cells (grownCap w (n + m) old e - (n + m))) e)) row := by
    intro old ho row
    have hge := grownCap_ge w (n + m) old e
    have hcm : grownCap w (n + m) old e ≤ maxLen := grownCap_le_maxLen w (n + m) old e h63
    refine ⟨⟨hlen, .inr ⟨w.heap.size, _, _, rfl, Nat.zero_le _, heap_alloc_new w.drew _, hge, hcm, ?_, ?_⟩⟩, ⟨rfl, rfl, rfl, by simp, fun k hk _ => Below.heap_alloc w.drew _ k hk⟩⟩
    · simp only [Array.size_append, List.size_toArray, size_zeroCells, hzs, hown.1, hl, ← Nat.add_mul]
      congr 1
      omega
    · simp only [Array.toList_append, List.append_assoc]
      rw [← List.append_assoc, ← hlen]
      exact List.take_left
  have fresh : ∀ c n v, NewOr w v (.slice (some ⟨w.heap.size, 0, none⟩) n c) := fun c n v k hk => by
    simp [Value.ownBlock] at hk
    omega
  rcases hown.2 with ⟨rfl, rfl⟩ | ⟨g, cap, cur, rfl, hbg, hg, hnc, hcm, hcs, htake⟩
  · have hx : xs = [] := List.eq_nil_of_length_eq_zero (by simpa using hown.1)
    subst hx
    by_cases hm : m = 0
    · subst hm
      have hn : news = [] := List.eq_nil_of_length_eq_zero (by simpa using hl)
      subst hn
      refine ⟨.slice none 0 0, w, fun ty => ?_, World.ownsRow_nil w 0 e i.size, ⟨rfl, rfl, rfl, Nat.le_refl _, fun _ _ _ => rfl⟩, NewOr.refl _ _⟩
      simp [Builtin.append_, run_underlying ht, sizeOf, typeInfo, hi, Builtin.lenOf, Builtin.firstCells, loadCells, loadCellsFrom]
    · have hr := fun ty => run_append_nil (P := P) w t ty e i z ht hi hz a m c news hl hnews (by omega) (by omega) (by have hb := hbytes; simp only [Nat.zero_add] at hb; omega)
      have hgr := grown 0 (by omega) (Value.ownBlock (.slice none 0 0))
      simp only [Nat.zero_add, List.nil_append, Array.empty_append] at hgr ⊢
      exact ⟨_, _, hr, hgr.1, hgr.2, fresh _ _ _⟩
  · by_cases hroom : n + m ≤ cap
    · have hfit : n * i.size + news.length ≤ cur.size := by rw [hl, hcs, ← Nat.add_mul]; exact Nat.mul_le_mul_right _ hroom
      have hr := fun ty => run_append_room (P := P) w t ty e i ht hi g n cap cur hg a m c news hl hnews h1 hroom hfit
      refine ⟨_, _, hr, ⟨hlen, .inr ⟨g, cap, _, rfl, hbg, setRow_heap w g cur _ e _ hg, hroom, hcm, ?_, ?_⟩⟩, ⟨rfl, rfl, rfl, by simp, fun k _ hk => setRow_other w g k _ (fun e => hk (by simp [Value.ownBlock, e]))⟩, fun k hk => .inl hk⟩
      · simp only [List.size_toArray, List.length_append, List.length_take, List.length_drop, Array.length_toList]
        omega
      · rw [htake, ← hlen]
        exact List.take_left
    · have holds : ∀ j u, xs[j]? = some u → w.cell? ((⟨g, 0, none⟩ : Addr).add j) = some u := hown.cells (g := g) rfl
      have hr := fun ty => run_append_grow (P := P) w t ty e i z ht hi hz ⟨g, 0, none⟩ n cap xs hown.1 holds a m c news hl hnews (by omega) (by omega) (growslice_fits (by omega) hbytes)
      have hgr := grown cap (by omega) (Value.ownBlock (.slice (some ⟨g, 0, none⟩) n cap))
      exact ⟨_, _, hr, hgr.1, hgr.2, fresh _ _ _⟩

/-- append(s, make(S, n)...) where it must grow. -/
theorem run_append_make (w : World) (t u ty e : Nat) (ik : IntKind) (i : TypeInfo) (z : Value) (ht : P.underlying t = some (.slice e)) (hu : P.underlying u = some (.int ik)) (hi : P.info? e = some i) (hz : i.zero = some z)
    (b : Addr) (sLen sCap n : Nat) (olds : List Value) (hlo : olds.length = sLen * i.size) (holds : ∀ j v, olds[j]? = some v → w.cell? (b.add j) = some v)
    (hg : sCap < sLen + n) (h63 : sLen + n ≤ 9223372036854775807) (hb : (sLen + n) * i.bytes ≤ 140737488355328) (hnz : 0 < n * i.size) :
    (Builtin.append_ #[t, u] ty #[.slice (some b) sLen sCap, .int .i64 (n : Int)]).run P w =
      .ok (.slice (some ⟨w.heap.size, 0, none⟩) (sLen + n) (grownCap w (sLen + n) sCap e))
        (w.drew.alloc (.cells (olds.toArray ++ Builtin.zeroCells z.cells n ++ Builtin.zeroCells z.cells (grownCap w (sLen + n) sCap e - (sLen + n))) e)) := by
  have hn : ¬ (sLen + n ≤ sCap) := by omega
  have h63' : ¬ (9223372036854775807 < ((sLen : Int) + (n : Int))) := by omega
  have hfit := growslice_fits hg hb
  have h48' : ¬ (281474976710656 < Builtin.nextslicecap (sLen + n) sCap * i.bytes) := by omega
  have hw : IntKind.i64.wrap (n : Int) = (n : Int) := IntWalk.i64_in _ (by omega)
  have hneg : ¬ ((n : Int) < 0) := by omega
  have hbn : n * i.bytes ≤ 281474976710656 := by rw [Nat.add_mul] at hb; omega
  have hbn' : ¬ (281474976710656 < (n : Int) * (i.bytes : Int)) := by
    have : ((n * i.bytes : Nat) : Int) ≤ 281474976710656 := by omega
    rw [Int.natCast_mul] at this
    omega
  have hnz'' : ¬ (n * i.size = 0) := by omega
  have hfo := run_firstCells_some (P := P) w.drew i.size sLen b sLen sCap olds hlo (by simpa using holds)
  have hai : Sem.run P (asIntOf (.int .i64 (n : Int))) w = .ok (.i64, (n : Int)) w := rfl
  simp [Builtin.append_, run_underlying ht, run_underlying hu, sizeOf, typeInfo, zeroValue, hi, hz, asInt, hai, hw, hneg, hbn', hn, h63', h48', hnz'', Question.forced, hfo, newRow, grownCap]

/-- An append whose run is known: for the walk. -/
theorem wpList_append_is {w w1 : World} {ops : Array Oper} {rest : List Oper} {o : Oper} {a : Act} {Q : Exit → Act → World → Prop} (hgd : o.guard = none) (s x : Operand) (t u : TypeId)
    (ho : o.op = .call { callee := .builtin .append, args := #[s, x], argTypes := #[t, u] }) (vs vx v' : Value) (hs : a.eval s = vs) (hx : a.eval x = vx)
    (happ : ∀ ty, (Builtin.append_ #[t, u] ty #[vs, vx]).run P w = .ok v' w1) (h : wpList P ops Q rest (a.put o.dst v') w1) : wpList P ops Q (o :: rest) a w := by
  refine wpList_plain hgd fun K hK => ?_
  have hrun := happ o.type
  unfold Oper.wp
  simp [execOp, ho, resolve, invoke, builtin, hs, hx, hrun, Result.andThen]
  exact hK _ _ h

/-- The same as one step of a region that draws its order. -/
theorem step_append_is {w w1 : World} {ops : Array Oper} {o : Oper} {a : Act} {K : Act → World → Prop} {Q : Exit → Act → World → Prop} {E : Prop} (hgd : o.guard = none) (s x : Operand) (t u : TypeId)
    (ho : o.op = .call { callee := .builtin .append, args := #[s, x], argTypes := #[t, u] }) (vs vx v' : Value) (hs : a.eval s = vs) (hx : a.eval x = vx)
    (happ : ∀ ty, (Builtin.append_ #[t, u] ty #[vs, vx]).run P w = .ok v' w1) (h : K (a.put o.dst v') w1) :
    if Region.wanted o (yielded ops a.tmps) = true then Oper.wp P o a w K Q else E := by
  have hw : Region.wanted o (yielded ops a.tmps) = true := by simp [Region.wanted, hgd]
  rw [if_pos hw]
  have hrun := happ o.type
  unfold Oper.wp
  simp [execOp, ho, resolve, invoke, builtin, hs, hx, hrun, Result.andThen]
  exact h
end
end Go.Proofs.YtddfdpbaiedcjabGreatDoor
/- slices.Insert of one range into a row of ranges. -/
namespace Go.Proofs.YtddfdpbaiedcjabGreatDoor
open Go.RowKit

theorem info_rng : (Tryz.prog.info? 110).map (fun i => (i.zero, i.size, i.bytes)) = some (some (.agg #[.int .u64 0, .int .u64 0]), 2, 16) := by kernel_rfl
theorem size_rng : (Tryz.prog.info? 110).map (·.size) = some 2 := by kernel_rfl
theorem zero_rng (w : World) : (zeroValue 110).run Tryz.prog w = .ok (.agg #[.int .u64 0, .int .u64 0]) w := by kernel_rfl


theorem overlaps_no (w : World) (g g2 o la ca lb cb : Nat) (cur cur2 : List Value) (hg : w.heap[g]? = some (.cells cur.toArray 110 (0, 0))) (hg2 : w.heap[g2]? = some (.cells cur2.toArray 110 (0, 0)))
    (hne : g2 ≠ g) (hpos : cur.length ≠ 0) :
    (callFunc 108 #[.slice (some ⟨g2, 0, none⟩) la ca, .slice (some ⟨g, o, none⟩) lb cb]).run Tryz.prog w = .ok (.value (.bool false)) w := by
  rw [run_callFunc_extern Tryz.func108 (by kernel_rfl) (by kernel_rfl) (by kernel_rfl) (e := Extern.SlicesOverlaps.overlaps #[46, 46] #[4]) (by kernel_rfl),
    Lib.run_overlaps_apart w 46 4 110 Tryz.underlying46 2 (fun w => size_of_info size_rng w) ⟨g2, 0, none⟩ ⟨g, o, none⟩ la ca lb cb hne 110 110 cur2.length cur.length
      (by simp [World.shape?, hg2]) (by simp [World.shape?, hg]) hpos (by simp [World.frozen?, hg2]) (by simp [World.frozen?, hg2])]
  rfl

/-- What lies in the row behind the insertion. -/
def insRow (cur : List Value) (i n : Nat) (r : List Value) : List Value := splice (splice cur ((i + 1) * 2) ((cur.drop (i * 2)).take ((n - i) * 2))) (i * 2) r

set_option maxRecDepth 100000 in
set_option maxHeartbeats 400000 in
theorem ins_room (g g2 i n cap : Nat) (cur : List Value) (r : Nat × Nat) (w : World) (hi : i < n) (hn : n + 1 ≤ cap) (hcap : cap ≤ 9223372036854775807)
    (hg : w.heap[g]? = some (.cells cur.toArray 110 (0, 0))) (hcur : cur.length = cap * 2) (h1c : ∀ v ∈ (cur.drop (i * 2)).take ((n - i) * 2), v.oneCell' = true) (hg2 : w.heap[g2]? = some (.cells [.int .u64 r.1, .int .u64 r.2].toArray 110 (0, 0))) (hne : g2 ≠ g) :
    Calls Tryz.prog 107 #[.slice (some ⟨g, 0, none⟩) n cap, .int .i64 i, .slice (some ⟨g2, 0, none⟩) 1 1] w fun e w' => e = .returned (.slice (some ⟨g, 0, none⟩) (n + 1) cap) ∧
      w' = (w.setRow g (insRow cur i n [.int .u64 r.1, .int .u64 r.2]).toArray).drew := by
  have h1 : (i : Int) < n := by omega
  have h2 : decide ((i : Int) = n) = false := by simp; omega
  have h3 : ((i : Int) == n) = false := by simp; omega
  have h4 : i + 1 < cap := by omega
  have hov := overlaps_no w g g2 ((i + 1) * 2) 1 1 (n - i) (cap - (i + 1)) cur _ hg hg2 hne (by omega)
  have hc1 : ∀ ty, (Builtin.copy_ #[46, 46] ty #[.slice (some ⟨g, (i + 1) * 2, none⟩) (n - i) (cap - (i + 1)), .slice (some ⟨g, i * 2, none⟩) (n + 1 - i) (cap - i)]).run Tryz.prog w.drew =
      .ok (goInt (n - i : Nat)) (w.setRow g (splice cur ((i + 1) * 2) ((cur.drop (i * 2)).take ((n - i) * 2))).toArray).drew := fun ty =>
    run_copy_rows (P := Tryz.prog) w.drew 46 46 ty 110 2 Tryz.underlying46 size_rng g ((i + 1) * 2) (n - i) (cap - (i + 1)) g (i * 2) (n + 1 - i) (cap - i) (n - i) cur cur _ _ _ hg hg
      (by omega) (by omega) (by omega) (by omega) (by omega) h1c
  obtain ⟨C1, hC1⟩ : ∃ C1, splice cur ((i + 1) * 2) ((cur.drop (i * 2)).take ((n - i) * 2)) = C1 := ⟨_, rfl⟩
  rw [hC1] at hc1
  have hC1l : C1.length = cap * 2 := by rw [← hC1, length_splice _ _ _ (by simp; omega)]; exact hcur
  obtain ⟨C2, hC2⟩ : ∃ C2, splice C1 (i * 2) [Value.int .u64 (r.1 : Int), Value.int .u64 (r.2 : Int)] = C2 := ⟨_, rfl⟩
  have hc2 : ∀ ty, (Builtin.copy_ #[46, 46] ty #[.slice (some ⟨g, i * 2, none⟩) (n + 1 - i) (cap - i), .slice (some ⟨g2, 0, none⟩) 1 1]).run Tryz.prog (w.setRow g C1.toArray).drew =
      .ok (goInt (1 : Nat)) (w.setRow g C2.toArray).drew := fun ty => by
    rw [run_copy_rows (P := Tryz.prog) (w.setRow g C1.toArray).drew 46 46 ty 110 2 Tryz.underlying46 size_rng g (i * 2) (n + 1 - i) (cap - i) g2 0 1 1 1 C1 _ _ _ _ (setRow_heap w g _ _ _ _ hg)
      ((setRow_other w g g2 _ hne).trans hg2) (by omega) (by omega) (by omega) (by simp) (by omega) (by simp [Value.oneCell'])]
    simp only [List.drop_zero, List.take_succ_cons, List.take_zero, Nat.one_mul, hC2]
    congr 1
    exact congrArg World.drew (setRow_setRow w g _ _)
  have HC : Hid (insRow cur i n [.int .u64 r.1, .int .u64 r.2] = C2) := by
    show splice (splice _ _ _) _ _ = C2
    rw [hC1, hC2]
  clear hC1 hC2
  go_enter Tryz.func107, Tryz.ntmps107
  go_wp2_with fail
  go_region
  go_wp2_with fail
  go_ret
  exact ⟨rfl, by rw [HC.out]⟩

set_option maxRecDepth 100000 in
set_option maxHeartbeats 400000 in
theorem ins_end (g2 n cap : Nat) (a : Option Addr) (v' : Value) (w w1 : World) (hcap : n ≤ cap) (hcap2 : cap ≤ 9223372036854775807)
    (happ : ∀ ty, (Builtin.append_ #[46, 46] ty #[.slice a n cap, .slice (some ⟨g2, 0, none⟩) 1 1]).run Tryz.prog w = .ok v' w1) :
    Calls Tryz.prog 107 #[.slice a n cap, .int .i64 n, .slice (some ⟨g2, 0, none⟩) 1 1] w fun e w' => e = .returned v' ∧ w' = w1 := by
  by_cases hc : n = cap
  · subst hc
    cases a
    all_goals
      go_enter Tryz.func107, Tryz.ntmps107
      go_wp2_with (at_builtin; refine wpList_append_is rfl _ _ _ _ rfl _ _ _ rfl rfl happ ?_)
      go_ret
      exact ⟨rfl, rfl⟩
  · have h1 : n < cap := by omega
    cases a
    all_goals
      go_enter Tryz.func107, Tryz.ntmps107
      go_wp2_with (at_builtin; refine wpList_append_is rfl _ _ _ _ rfl _ _ _ rfl rfl happ ?_)
      go_ret
      exact ⟨rfl, rfl⟩

/-- What lies in the new row behind the insertion. -/
def insGrow (C0 cur : List Value) (i n : Nat) (r : List Value) : List Value := splice (splice C0 (i * 2) r) ((i + 1) * 2) ((cur.drop (i * 2)).take ((n - i) * 2))

set_option maxRecDepth 100000 in
set_option maxHeartbeats 400000 in
theorem ins_grow (g g2 h i n cap nc : Nat) (cur C0 : List Value) (r : Nat × Nat) (w w1 : World) (hi : i < n) (hnc : n ≤ cap) (hn : cap < n + 1) (hcap : cap ≤ 9223372036854775807)
    (hcur : cur.length = cap * 2) (h1c : ∀ v ∈ (cur.drop (i * 2)).take ((n - i) * 2), v.oneCell' = true)
    (happ : ∀ ty, (Builtin.append_ #[46, 3] ty #[.slice (some ⟨g, 0, none⟩) i cap, .int .i64 ((n : Int) + 1 - i)]).run Tryz.prog w = .ok (.slice (some ⟨h, 0, none⟩) (n + 1) nc) w1)
    (hg : w1.heap[g]? = some (.cells cur.toArray 110 (0, 0))) (hg2 : w1.heap[g2]? = some (.cells [.int .u64 r.1, .int .u64 r.2].toArray 110 (0, 0)))
    (hh : w1.heap[h]? = some (.cells C0.toArray 110 (0, 0))) (hC0 : C0.length = nc * 2) (hnc2 : n + 1 ≤ nc) (hnc3 : nc ≤ 9223372036854775807) (_hne : g2 ≠ h) (hne1 : g ≠ h) :
    Calls Tryz.prog 107 #[.slice (some ⟨g, 0, none⟩) n cap, .int .i64 i, .slice (some ⟨g2, 0, none⟩) 1 1] w fun e w' => e = .returned (.slice (some ⟨h, 0, none⟩) (n + 1) nc) ∧
      w' = (w1.setRow h (insGrow C0 cur i n [.int .u64 r.1, .int .u64 r.2]).toArray).drew := by
  have h1 : (i : Int) < n := by omega
  have h3 : ((i : Int) == n) = false := by simp; omega
  have h4 : i < cap := by omega
  have h5 : i + 1 < nc := by omega
  obtain ⟨C1, hC1⟩ : ∃ C1, splice C0 (i * 2) [Value.int .u64 (r.1 : Int), Value.int .u64 (r.2 : Int)] = C1 := ⟨_, rfl⟩
  have hC1l : C1.length = nc * 2 := by rw [← hC1, length_splice _ _ _ (by simp; omega)]; exact hC0
  have hc1 : ∀ ty, (Builtin.copy_ #[46, 46] ty #[.slice (some ⟨h, i * 2, none⟩) (n + 1 - i) (nc - i), .slice (some ⟨g2, 0, none⟩) 1 1]).run Tryz.prog w1 =
      .ok (goInt (1 : Nat)) (w1.setRow h C1.toArray) := fun ty => by
    rw [run_copy_rows (P := Tryz.prog) w1 46 46 ty 110 2 Tryz.underlying46 size_rng h (i * 2) (n + 1 - i) (nc - i) g2 0 1 1 1 C0 _ _ _ _ hh
      hg2 (by omega) (by omega) (by omega) (by simp) (by omega) (by simp [Value.oneCell'])]
    simp only [List.drop_zero, List.take_succ_cons, List.take_zero, Nat.one_mul, hC1]
  obtain ⟨C2, hC2⟩ : ∃ C2, splice C1 ((i + 1) * 2) ((cur.drop (i * 2)).take ((n - i) * 2)) = C2 := ⟨_, rfl⟩
  have hc2 : ∀ ty, (Builtin.copy_ #[46, 46] ty #[.slice (some ⟨h, (i + 1) * 2, none⟩) (n - i) (nc - (i + 1)), .slice (some ⟨g, i * 2, none⟩) (n - i) (cap - i)]).run Tryz.prog (w1.setRow h C1.toArray).drew =
      .ok (goInt (n - i : Nat)) (w1.setRow h C2.toArray).drew := fun ty => by
    rw [run_copy_rows (P := Tryz.prog) (w1.setRow h C1.toArray).drew 46 46 ty 110 2 Tryz.underlying46 size_rng h ((i + 1) * 2) (n - i) (nc - (i + 1)) g (i * 2) (n - i) (cap - i) (n - i) C1 cur _ _ _ (setRow_heap w1 h _ _ _ _ hh)
      ((setRow_other w1 h g _ hne1).trans hg) (by omega) (by omega) (by omega) (by omega) (by omega) h1c]
    rw [hC2]
    congr 1
    exact congrArg World.drew (setRow_setRow w1 h _ _)
  have HC : Hid (insGrow C0 cur i n [.int .u64 r.1, .int .u64 r.2] = C2) := by
    show splice (splice _ _ _) _ _ = C2
    rw [hC1, hC2]
  clear hC1 hC2
  go_enter Tryz.func107, Tryz.ntmps107
  go_wp2_with (at_builtin; refine wpList_append_is rfl _ _ _ _ rfl _ _ _ rfl rfl happ ?_)
  go_region
  go_wp2_with fail
  go_ret
  exact ⟨rfl, by rw [HC.out]⟩
end Go.Proofs.YtddfdpbaiedcjabGreatDoor
/- slices.Insert of one range: what it comes to, over rows of ranges. -/
namespace Go.Proofs.YtddfdpbaiedcjabGreatDoor
open Go.RowKit

theorem splice_at {α : Type} (A B cs : List α) (o : Nat) (ho : o = A.length) : splice (A ++ B) o cs = A ++ (cs ++ B.drop cs.length) := by
  subst ho
  simp [splice, ← List.drop_drop]

theorem row_split {α : Type} (cur X : List α) (n : Nat) (ht : cur.take n = X) : ∃ Y, cur = X ++ Y := ⟨cur.drop n, by rw [← ht, List.take_append_drop]⟩

theorem ins_shape (A X Y : List Value) (a b : Value) (hY : 2 ≤ Y.length) :
    splice (splice (A ++ X ++ Y) (A.length + 2) X) A.length [a, b] = A ++ [a, b] ++ X ++ Y.drop 2 := by
  have h1 : splice (A ++ X ++ Y) (A.length + 2) X = A ++ ((X ++ Y).take 2 ++ (X ++ Y.drop 2)) := by
    have e : (A ++ X ++ Y) = (A ++ (X ++ Y).take 2) ++ (X ++ Y).drop 2 := by simp [List.append_assoc, List.take_append_drop]
    have hl : ((X ++ Y).take 2).length = 2 := by simp; omega
    rw [e, splice_at _ _ _ _ (by simp [hl]), List.drop_drop, Nat.add_comm, List.append_assoc]
    congr 1
    congr 1
    congr 1
    rw [List.drop_append]
    simp
  rw [h1, splice_at _ _ _ _ rfl]
  have hl : ((X ++ Y).take 2).length = 2 := by simp; omega
  have : List.drop [a, b].length (List.take 2 (X ++ Y) ++ (X ++ List.drop 2 Y)) = X ++ Y.drop 2 := by
    have e2 : [a, b].length = ((X ++ Y).take 2).length := by rw [hl]; rfl
    rw [e2, List.drop_left]
  rw [this]
  simp

theorem insRow_take (cur : List Value) (i n cap : Nat) (rs : Rngs) (r : Nat × Nat) (hi : i ≤ n) (hn : n + 1 ≤ cap) (hcur : cur.length = cap * 2) (hrs : rs.length = n) (ht : cur.take (n * 2) = rcells rs) :
    (insRow cur i n [.int .u64 r.1, .int .u64 r.2]).take ((n + 1) * 2) = rcells (rs.take i ++ r :: rs.drop i) := by
  obtain ⟨Y, rfl⟩ := row_split _ _ _ ht
  have hA : (rcells (rs.take i)).length = i * 2 := by rw [rcells_length]; simp; omega
  have hX : (rcells (rs.drop i)).length = (n - i) * 2 := by rw [rcells_length]; simp; omega
  have hAX : rcells rs = rcells (rs.take i) ++ rcells (rs.drop i) := by rw [← rcells_append, List.take_append_drop]
  have hY : 2 ≤ Y.length := by
    simp only [List.length_append, rcells_length] at hcur
    omega
  have h1 : ((rcells rs ++ Y).drop (i * 2)).take ((n - i) * 2) = rcells (rs.drop i) := by
    rw [hAX, ← hA, List.append_assoc, List.drop_left, ← hX, List.take_left]
  unfold insRow
  rw [h1, hAX, show (i + 1) * 2 = (rcells (rs.take i)).length + 2 by omega, show i * 2 = (rcells (rs.take i)).length by omega, ins_shape _ _ _ _ _ hY, rcells_append, rcells]
  have hl : (rcells (rs.take i) ++ [Value.int .u64 (r.1 : Int), Value.int .u64 (r.2 : Int)] ++ rcells (rs.drop i)).length = (n + 1) * 2 := by simp [hA, hX]; omega
  rw [← hl, List.take_left]
  simp

theorem insGrow_take (C0 cur : List Value) (i n cap nc : Nat) (rs : Rngs) (r : Nat × Nat) (hi : i ≤ n) (hn : n + 1 ≤ nc) (_hcap : n ≤ cap) (hcur : cur.length = cap * 2) (hC0 : C0.length = nc * 2) (h0 : C0.take (i * 2) = cur.take (i * 2)) (hrs : rs.length = n) (ht : cur.take (n * 2) = rcells rs) :
    (insGrow C0 cur i n [.int .u64 r.1, .int .u64 r.2]).take ((n + 1) * 2) = rcells (rs.take i ++ r :: rs.drop i) := by
  obtain ⟨Y, rfl⟩ := row_split _ _ _ ht
  have hA : (rcells (rs.take i)).length = i * 2 := by rw [rcells_length]; simp; omega
  have hX : (rcells (rs.drop i)).length = (n - i) * 2 := by rw [rcells_length]; simp; omega
  have hAX : rcells rs = rcells (rs.take i) ++ rcells (rs.drop i) := by rw [← rcells_append, List.take_append_drop]
  have h1 : ((rcells rs ++ Y).drop (i * 2)).take ((n - i) * 2) = rcells (rs.drop i) := by
    rw [hAX, ← hA, List.append_assoc, List.drop_left, ← hX, List.take_left]
  have h2 : (rcells rs ++ Y).take (i * 2) = rcells (rs.take i) := by rw [hAX, ← hA, List.append_assoc, List.take_left]
  obtain ⟨Z, rfl⟩ := row_split _ _ _ (h0.trans h2)
  have hZ : Z.length = nc * 2 - i * 2 := by simp [hA] at hC0; omega
  unfold insGrow
  rw [h1, splice_at _ _ _ _ hA.symm]
  have e : rcells (rs.take i) ++ ([Value.int .u64 (r.1 : Int), Value.int .u64 (r.2 : Int)] ++ Z.drop 2) = (rcells (rs.take i) ++ [Value.int .u64 (r.1 : Int), Value.int .u64 (r.2 : Int)]) ++ Z.drop 2 := by simp
  have hl2 : [Value.int .u64 (r.1 : Int), Value.int .u64 (r.2 : Int)].length = 2 := rfl
  rw [hl2, e, splice_at _ _ _ _ (by simp [hA]; omega), ← List.append_assoc, rcells_append, rcells]
  have hl : (rcells (rs.take i) ++ [Value.int .u64 (r.1 : Int), Value.int .u64 (r.2 : Int)] ++ rcells (rs.drop i)).length = (n + 1) * 2 := by simp [hA, hX]; omega
  rw [← hl, List.take_left]
  simp

theorem insRow_length (cur : List Value) (i n cap : Nat) (r : Nat × Nat) (hi : i ≤ n) (hn : n + 1 ≤ cap) (hcur : cur.length = cap * 2) : (insRow cur i n [.int .u64 r.1, .int .u64 r.2]).length = cap * 2 := by
  unfold insRow
  have h1 : (splice cur ((i + 1) * 2) ((cur.drop (i * 2)).take ((n - i) * 2))).length = cap * 2 := by
    rw [length_splice _ _ _ (by simp; omega)]; exact hcur
  rw [length_splice _ _ _ (by simp; omega)]; exact h1

theorem insGrow_length (C0 cur : List Value) (i n nc cap : Nat) (r : Nat × Nat) (hi : i ≤ n) (hn : n + 1 ≤ nc) (hcap : n ≤ cap) (hcur : cur.length = cap * 2) (hC0 : C0.length = nc * 2) : (insGrow C0 cur i n [.int .u64 r.1, .int .u64 r.2]).length = nc * 2 := by
  unfold insGrow
  have h1 : (splice C0 (i * 2) [Value.int .u64 (r.1 : Int), Value.int .u64 (r.2 : Int)]).length = nc * 2 := by
    rw [length_splice _ _ _ (by simp; omega)]; exact hC0
  rw [length_splice _ _ _ (by simp; omega)]; exact h1

theorem rcells_one (rs : Rngs) : ∀ v ∈ rcells rs, v.oneCell' = true := by
  induction rs with
  | nil => intro v h; cases h
  | cons r rs ih =>
    intro v h
    simp only [rcells, List.mem_cons] at h
    rcases h with rfl | rfl | h
    · rfl
    · rfl
    · exact ih v h


theorem cell_row {w : World} {g : Nat} {cs : List Value} {t : Nat} {fz : Nat × Nat} (hg : w.heap[g]? = some (.cells cs.toArray t fz)) : ∀ j u, cs[j]? = some u → w.cell? ((⟨g, 0, none⟩ : Addr).add j) = some u := by
  intro j u h
  rw [addr_add]
  simpa [World.cell?, hg] using h

theorem own_take {w : World} {base e sz : Nat} {v : Value} {n : Nat} {xs : List Value} (h : w.ownsRow base e sz v n xs) (hn : 0 < n) :
    ∃ g cap cur, v = .slice (some ⟨g, 0, none⟩) n cap ∧ w.heap[g]? = some (.cells (cur : List Value).toArray e (0, 0)) ∧ n ≤ cap ∧ cap ≤ maxLen ∧ cur.length = cap * sz ∧ cur.take (n * sz) = xs := by
  rcases h.2 with ⟨_, h0⟩ | ⟨g, cap, cur, rfl, _, hg, h1, h2, h3, h4⟩
  · omega
  · exact ⟨g, cap, cur.toList, rfl, by simpa using hg, h1, h2, by simpa using h3, h4⟩

set_option maxRecDepth 100000 in
theorem insert_any (v : Value) (rs : Rngs) (i : Nat) (r : Nat × Nat) (g2 : Nat) (w : World) (hi : i ≤ rs.length) (hlen : rs.length ≤ 1099511627776) (hown : w.ownsRow 0 110 2 v rs.length (rcells rs))
    (hg2 : w.heap[g2]? = some (.cells [.int .u64 r.1, .int .u64 r.2].toArray 110 (0, 0))) (hne : v.ownBlock ≠ some g2) :
    Calls Tryz.prog 107 #[v, .int .i64 i, .slice (some ⟨g2, 0, none⟩) 1 1] w fun e w' => ∃ v', e = .returned v' ∧ w'.ownsRow 0 110 2 v' (rs.length + 1) (rcells (rs.take i ++ r :: rs.drop i)) ∧ w.grownBy w' v.ownBlock ∧ NewOr w v v' := by
  obtain ⟨i0, hinf, hz0, hz1, hz2⟩ := info_parts info_rng
  by_cases hie : i = rs.length
  · obtain ⟨a, cap, rfl, h1, h2, h3⟩ := own_form hown
    obtain ⟨v', w1, happ, ho, hgr, hnw⟩ := run_append_owned_at (P := Tryz.prog) w 46 110 i0 _ 2 16 Tryz.underlying46 hinf hz0 hz1 hz2 rfl (by decide) _ _ _ hown ⟨g2, 0, none⟩ 1 1 [.int .u64 r.1, .int .u64 r.2] rfl (cell_row hg2) (by simp [Value.oneCell']) (by unfold maxLen; omega) (by omega)
    subst hie
    unfold maxLen at h2
    refine (ins_end g2 _ cap a v' w w1 h1 (by omega) happ).mono ?_
    rintro e w' ⟨rfl, rfl⟩
    refine ⟨v', rfl, ?_, hgr, hnw⟩
    simpa [rcells_append, rcells] using ho
  · obtain ⟨g, cap, cur, rfl, hg, h1, h2, h3, h4⟩ := own_take hown (by omega)
    have hgn : g2 ≠ g := fun e => hne (by simp [Value.ownBlock, e])
    unfold maxLen at h2
    have hone : ∀ v ∈ (cur.drop (i * 2)).take ((rs.length - i) * 2), v.oneCell' = true := by
      intro v hv
      refine rcells_one rs v ?_
      rw [← h4]
      have e : (cur.drop (i * 2)).take ((rs.length - i) * 2) = (cur.take (rs.length * 2)).drop (i * 2) := by
        rw [List.drop_take]
        congr 1
        omega
      rw [e] at hv
      exact List.mem_of_mem_drop hv
    by_cases hroom : rs.length + 1 ≤ cap
    · refine (ins_room g g2 i rs.length cap cur r w (by omega) hroom (by omega) hg h3 hone hg2 hgn).mono ?_
      rintro e w' ⟨rfl, rfl⟩
      refine ⟨_, rfl, ⟨by simp [rcells_length]; omega, .inr ⟨g, cap, _, rfl, Nat.zero_le _, setRow_heap w g _ _ _ _ hg, hroom, by unfold maxLen; omega, ?_, ?_⟩⟩, ⟨rfl, rfl, rfl, by simp, fun k _ hk => setRow_other w g k _ (fun e => hk (by simp [Value.ownBlock, e]))⟩, fun k hk => .inl hk⟩
      · simpa using insRow_length cur i rs.length cap r hi hroom h3
      · simpa using insRow_take cur i rs.length cap rs r hi hroom h3 rfl h4
    · have happ := fun ty => run_append_make (P := Tryz.prog) w 46 3 ty 110 .i64 i0 _ Tryz.underlying46 Tryz.underlying3 hinf hz0 ⟨g, 0, none⟩ i cap (rs.length + 1 - i) (rcells (rs.take i)) (by rw [rcells_length, hz1]; simp; omega)
        (fun j u hj => cell_row hg j u (by
          rw [← rcells_take, ← h4, List.take_take, List.getElem?_take] at hj
          split at hj
          · exact hj
          · cases hj)) (by omega) (by omega) (by rw [hz2]; omega) (by rw [hz1]; omega)
      rw [show i + (rs.length + 1 - i) = rs.length + 1 by omega, show ((rs.length + 1 - i : Nat) : Int) = (rs.length : Int) + 1 - i by omega] at happ
      have hge := grownCap_ge w (rs.length + 1) cap 110
      have hcm : grownCap w (rs.length + 1) cap 110 ≤ maxLen := grownCap_le_maxLen w _ cap _ (by unfold maxLen; omega)
      unfold maxLen at hcm
      generalize grownCap w (rs.length + 1) cap 110 = nc at happ hge hcm
      have hgl := (Array.getElem?_eq_some_iff.1 hg).1
      have hgl2 := (Array.getElem?_eq_some_iff.1 hg2).1
      obtain ⟨C0, hC0⟩ : ∃ C0 : List Value, (rcells (rs.take i)).toArray ++ Builtin.zeroCells (Value.agg #[Value.int .u64 0, Value.int .u64 0]).cells (rs.length + 1 - i) ++ Builtin.zeroCells (Value.agg #[Value.int .u64 0, Value.int .u64 0]).cells (nc - (rs.length + 1)) = C0.toArray ∧ C0.length = nc * 2 ∧ C0.take (i * 2) = cur.take (i * 2) := by
        refine ⟨rcells (rs.take i) ++ (Builtin.zeroCells (Value.agg #[Value.int .u64 0, Value.int .u64 0]).cells (rs.length + 1 - i)).toList ++ (Builtin.zeroCells (Value.agg #[Value.int .u64 0, Value.int .u64 0]).cells (nc - (rs.length + 1))).toList, by simp, ?_, ?_⟩
        · simp [size_zeroCells, rcells_length, Value.cells]
          omega
        · have hA : (rcells (rs.take i)).length = i * 2 := by rw [rcells_length]; simp; omega
          rw [List.append_assoc, ← hA, List.take_left, hA, ← rcells_take, ← h4, List.take_take]
          congr 1
          omega
      obtain ⟨hC0, hC0l, hC0t⟩ := hC0
      rw [hC0] at happ
      refine (ins_grow g g2 w.heap.size i rs.length cap nc cur C0 r w _ (by omega) h1 (by omega) (by omega) h3 hone happ ((Below.heap_alloc w.drew _ g hgl).trans hg) ((Below.heap_alloc w.drew _ g2 hgl2).trans hg2) (heap_alloc_new w.drew _) hC0l hge (by omega) (by omega) (by omega)).mono ?_
      rintro e w' ⟨rfl, rfl⟩
      refine ⟨_, rfl, ⟨by simp [rcells_length]; omega, .inr ⟨w.heap.size, nc, _, rfl, Nat.zero_le _, setRow_heap _ _ _ _ _ _ (heap_alloc_new w.drew _), hge, by unfold maxLen; omega, ?_, ?_⟩⟩, ⟨rfl, rfl, rfl, by simp, fun k hk _ => ?_⟩, fun k hk => by simp [Value.ownBlock] at hk; omega⟩
      · simpa using insGrow_length C0 cur i rs.length nc cap r hi hge h1 h3 hC0l
      · simpa using insGrow_take C0 cur i rs.length cap nc rs r hi hge h1 h3 hC0l hC0t rfl h4
      · exact (setRow_other _ _ _ _ (by omega)).trans (Below.heap_alloc w.drew _ k hk)
end Go.Proofs.YtddfdpbaiedcjabGreatDoor
/- slices.Delete of the first range of a row of two or more. -/
namespace Go.Proofs.YtddfdpbaiedcjabGreatDoor
open Go.RowKit

def delRow (cur : List Value) (n : Nat) : List Value := splice (splice cur 0 ((cur.drop 2).take ((n - 1) * 2))) ((n - 1) * 2) [.int .u64 0, .int .u64 0]

set_option maxRecDepth 100000 in
set_option maxHeartbeats 400000 in
theorem del_walk (g n cap : Nat) (cur : List Value) (w : World) (hn : 2 ≤ n) (hcap : n ≤ cap) (hcap2 : cap ≤ 9223372036854775807)
    (hg : w.heap[g]? = some (.cells cur.toArray 110 (0, 0))) (hcur : cur.length = cap * 2) (h1c : ∀ v ∈ (cur.drop 2).take ((n - 1) * 2), v.oneCell' = true) :
    Calls Tryz.prog 79 #[.slice (some ⟨g, 0, none⟩) n cap, .int .i64 0, .int .i64 1] w fun e w' => e = .returned (.slice (some ⟨g, 0, none⟩) (n - 1) cap) ∧
      w' = (w.setRow g (delRow cur n).toArray).drew := by
  obtain ⟨i0, hinf, hz0, hz1, hz2⟩ := info_parts info_rng
  have hl : ((cur.drop 2).take ((n - 1) * 2)).length = (n - 1) * 2 := by simp; omega
  have happ : ∀ ty, (Builtin.append_ #[46, 46] ty #[.slice (some ⟨g, 0, none⟩) 0 cap, .slice (some ⟨g, 2, none⟩) (n - 1) (cap - 1)]).run Tryz.prog w.drew =
      .ok (.slice (some ⟨g, 0, none⟩) (n - 1) cap) (w.setRow g (splice cur 0 ((cur.drop 2).take ((n - 1) * 2))).toArray).drew := fun ty => by
    have := run_append_room (P := Tryz.prog) w.drew 46 ty 110 i0 Tryz.underlying46 hinf g 0 cap cur.toArray hg ⟨g, 2, none⟩ (n - 1) (cap - 1) _ (by rw [hl, hz1]) (row_cells hg 2 ((n - 1) * 2)) h1c (by omega) (by rw [hl]; simp; omega)
    rw [this]
    simp [splice]
    rfl
  obtain ⟨C1, hC1⟩ : ∃ C1, splice cur 0 ((cur.drop 2).take ((n - 1) * 2)) = C1 := ⟨_, rfl⟩
  have hC1l : C1.length = cap * 2 := by rw [← hC1, length_splice _ _ _ (by rw [hl]; omega)]; exact hcur
  rw [hC1] at happ
  obtain ⟨C2, hC2⟩ : ∃ C2, splice C1 ((n - 1) * 2) [Value.int .u64 0, Value.int .u64 0] = C2 := ⟨_, rfl⟩
  have hcl : ∀ ty, (Builtin.clear_ #[46] ty #[.slice (some ⟨g, (n - 1) * 2, none⟩) (n - (n - 1)) (cap - (n - 1))]).run Tryz.prog (w.setRow g C1.toArray).drew = .ok (.tuple #[]) (w.setRow g C2.toArray).drew := fun ty => by
    rw [show n - (n - 1) = 1 by omega, run_clear_rows (P := Tryz.prog) (w.setRow g C1.toArray).drew 46 ty 110 (.agg #[.int .u64 0, .int .u64 0]) 2 Tryz.underlying46 zero_rng rfl (by simp [Value.cells, Value.oneCell']) g ((n - 1) * 2) 1 _ C1 _ (setRow_heap w g _ _ _ _ hg) (by omega)]
    rw [show (Builtin.zeroCells (Value.agg #[Value.int .u64 0, Value.int .u64 0]).cells 1).toList = [Value.int .u64 0, Value.int .u64 0] by kernel_rfl, hC2]
    congr 1
    exact congrArg World.drew (setRow_setRow w g _ _)
  have HC : Hid (delRow cur n = C2) := by
    show splice (splice _ _ _) _ _ = C2
    rw [hC1, hC2]
  have h1 : 1 < cap := by omega
  have h2 : (1 : Int) ≤ n := by omega
  have h3 : n - 1 < cap := by omega
  clear hC1 hC2 hl
  go_enter Tryz.func79, Tryz.ntmps79
  go_wp2_with fail
  have h5 : ¬ cap = 1 := by omega
  go_region_law (refine step_append_is rfl (.tmp 22) (.tmp 25) 46 46 rfl (.slice (some ⟨g, 0, none⟩) 0 cap) (.slice (some ⟨g, 2, none⟩) (n - 1) (cap - 1)) (.slice (some ⟨g, 0, none⟩) (n - 1) cap) (by simp [Act.eval, Act.put]) (by simp [Act.eval, Act.put]) happ ?_)
  go_wp2_with fail
  go_ret
  exact ⟨rfl, by rw [HC.out]⟩
end Go.Proofs.YtddfdpbaiedcjabGreatDoor
