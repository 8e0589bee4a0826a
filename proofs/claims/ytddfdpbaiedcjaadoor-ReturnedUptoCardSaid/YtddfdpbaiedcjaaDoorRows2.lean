/- Laws of the built-in copy, clear and append on rows of cells; elements of any number of cells. No program. -/
import Derived.Laws.CopyOwn
import Derived.Laws.Append
import Derived.Laws.AppendOwn
import Derived.Laws.Cells
import Derived.Lib.SliceRun
import Derived.IntWalk
import Derived.Tactics
import Derived.Deep.RegionLaw
import Derived.Test.YtddfdpbaiedcjaaDoorBase
namespace Go.Proofs.YtddfdpbaiedcjaaDoor
open Go.RowKit

section
variable {P : Program}

theorem addr_add (g o j : Nat) : (⟨g, o, none⟩ : Addr).add j = ⟨g, o + j, none⟩ := by unfold Addr.add; split <;> simp_all

theorem size_of_info {e k : Nat} (hk : (P.info? e).map (·.size) = some k) (w : World) : (sizeOf e).run P w = .ok k w := by
  cases hq : P.info? e with
  | none => simp [hq] at hk
  | some i => simp [hq] at hk; simp [sizeOf, typeInfo, hq, hk]

theorem row_cells {w : World} {g : Nat} {cur : List Value} {t : Nat} {fz : Nat × Nat} (hg : w.heap[g]? = some (.cells cur.toArray t fz)) (o n : Nat) :
    ∀ j v, ((cur.drop o).take n)[j]? = some v → w.cell? ((⟨g, o, none⟩ : Addr).add j) = some v := by
  intro j v hj
  rw [addr_add]
  rw [List.getElem?_take] at hj
  split at hj
  · rw [List.getElem?_drop] at hj
    simpa [World.cell?, hg] using hj
  · cases hj

theorem run_copy_rows (w : World) (dT sT ty e k : Nat) (hu : P.underlying dT = some (.slice e)) (hk : (P.info? e).map (·.size) = some k)
    (g od dl dc h os sl sc n : Nat) (cur src : List Value) (t t' : Nat) (fz : Nat × Nat)
    (hg : w.heap[g]? = some (.cells cur.toArray t (0, 0))) (hh : w.heap[h]? = some (.cells src.toArray t' fz)) (hn1 : n ≤ sl) (hn2 : n ≤ dl) (hn3 : n = sl ∨ n = dl)
    (hs : os + n * k ≤ src.length) (hd : od + n * k ≤ cur.length) (h1 : ∀ v ∈ (src.drop os).take (n * k), v.oneCell' = true) :
    (Builtin.copy_ #[dT, sT] ty #[.slice (some ⟨g, od, none⟩) dl dc, .slice (some ⟨h, os, none⟩) sl sc]).run P w =
      .ok (goInt n) (w.setRow g (splice cur od ((src.drop os).take (n * k))).toArray) := by
  have hn : n = Nat.min sl dl := by
    show n = min sl dl
    omega
  have hlen : ((src.drop os).take (n * k)).length = n * k := by simp; omega
  have hl := run_firstCells_some (P := P) (w := w) k n ⟨h, os, none⟩ sl sc _ hlen (row_cells hh os (n * k))
  have hst := run_storeCells_at P g od t ((src.drop os).take (n * k)) 0 cur.toArray w hg (by simp; omega) h1
  have hz := size_of_info hk
  subst hn
  simp only [Nat.add_zero, hlen] at hst
  have hst' := hst
  simp [Builtin.copy_, run_underlying hu, Builtin.lenOf, hz, hl, hst, splice, hlen]
  try omega

theorem run_copy_zero (w : World) (dT sT ty e k : Nat) (hu : P.underlying dT = some (.slice e)) (hk : (P.info? e).map (·.size) = some k)
    (d s : Option Addr) (dl dc sl sc : Nat) (hn : Nat.min sl dl = 0) :
    (Builtin.copy_ #[dT, sT] ty #[.slice d dl dc, .slice s sl sc]).run P w = .ok (goInt 0) w := by
  have hz := size_of_info hk
  have hf : (Builtin.firstCells k 0 (.slice s sl sc)).run P w = .ok #[] w := by
    cases s with
    | none => exact run_firstCells_none ..
    | some a => exact run_firstCells_some (P := P) (w := w) k 0 a sl sc [] (by simp) (by simp)
  simp [Builtin.copy_, run_underlying hu, Builtin.lenOf, hz, hn, hf]
  cases d <;> simp [storeCells]

theorem zeroCells_one (z : Array Value) (n : Nat) (h1 : ∀ v ∈ z.toList, v.oneCell' = true) : ∀ v ∈ (Builtin.zeroCells z n).toList, v.oneCell' = true := by
  intro v hv
  simp only [Builtin.zeroCells, Array.toList_map, List.mem_map] at hv
  obtain ⟨i, hi, rfl⟩ := hv
  by_cases hz : z.size = 0
  · simp [hz] at hi
  · have hlt : i % z.size < z.size := Nat.mod_lt _ (by omega)
    apply h1
    rw [getElem!_pos z _ hlt]
    exact Array.getElem_mem_toList hlt

theorem run_clear_rows (w : World) (T ty e : Nat) (z : Value) (k : Nat) (hu : P.underlying T = some (.slice e)) (hv : ∀ w, (zeroValue e).run P w = .ok z w) (hz : z.cells.size = k)
    (h1 : ∀ v ∈ z.cells.toList, v.oneCell' = true) (g o n c : Nat) (cur : List Value) (t : Nat) (hg : w.heap[g]? = some (.cells cur.toArray t (0, 0))) (hd : o + n * k ≤ cur.length) :
    (Builtin.clear_ #[T] ty #[.slice (some ⟨g, o, none⟩) n c]).run P w = .ok (.tuple #[]) (w.setRow g (splice cur o (Builtin.zeroCells z.cells n).toList).toArray) := by
  have hlen : (Builtin.zeroCells z.cells n).toList.length = n * k := by simp [size_zeroCells, hz]
  have hst := run_storeCells_at P g o t (Builtin.zeroCells z.cells n).toList 0 cur.toArray w hg (by rw [hlen]; simpa using hd) (zeroCells_one _ _ h1)
  simp only [Nat.add_zero, hlen] at hst
  cases n with
  | zero =>
    have e1 : (Builtin.zeroCells z.cells 0).toList = [] := by simp [Builtin.zeroCells]
    have := setRow_self w g cur.toArray t (0, 0) hg
    simp [Builtin.clear_, run_underlying hu, e1, splice, this]
  | succ n =>
    simp only [Builtin.clear_]
    simp [run_underlying hu, hv, hst, splice, hlen]

/-- The block of v' is v's, or new. -/
def NewOr (w : World) (v v' : Value) : Prop := ∀ k, v'.ownBlock = some k → v.ownBlock = some k ∨ w.heap.size ≤ k

theorem NewOr.refl (w : World) (v : Value) : NewOr w v v := fun _ h => .inl h

/-- append onto a row that is owned: where the result lies is told. -/
theorem run_append_owned_at (w : World) (t e : Nat) (i : TypeInfo) (z : Value) (size bytes : Nat) (ht : P.underlying t = some (.slice e)) (hi : P.info? e = some i) (hz : i.zero = some z)
    (hsize : i.size = size) (hby : i.bytes = bytes) (hzs : z.cells.size = size) (hsz : 0 < size)
    (v : Value) (n : Nat) (xs : List Value) (hown : w.ownsRow 0 e size v n xs)
    (a : Addr) (m c : Nat) (news : List Value) (hl : news.length = m * size) (hnews : ∀ j u, news[j]? = some u → w.cell? (a.add j) = some u) (h1 : ∀ u ∈ news, u.oneCell' = true)
    (h63 : n + m ≤ maxLen) (hbytes : (n + m) * bytes ≤ 140737488355328) :
    ∃ v' w', (∀ ty, (Builtin.append_ #[t, t] ty #[v, .slice (some a) m c]).run P w = .ok v' w') ∧ w'.ownsRow 0 e size v' (n + m) (xs ++ news) ∧ w.grownBy w' v.ownBlock ∧ NewOr w v v' := by
  subst hsize
  subst hby
  have hsmall : n + m ≤ 9223372036854775807 := by simp only [maxLen] at h63; omega
  have hlen : (xs ++ news).length = (n + m) * i.size := by rw [List.length_append, hown.1, hl, Nat.add_mul]
  have grown : ∀ (old : Nat), old < n + m → ∀ (row : Option Nat),
      (w.drew.alloc (.cells (xs.toArray ++ news.toArray ++ Builtin.zeroCells z.cells (grownCap w (n + m) old e - (n + m))) e)).ownsRow 0 e i.size
        (.slice (some ⟨w.heap.size, 0, none⟩) (n + m) (grownCap w (n + m) old e)) (n + m) (xs ++ news) ∧
      w.grownBy (w.drew.alloc (.cells (xs.toArray ++ news.toArray ++ Builtin.zeroCells z.cells (grownCap w (n + m) old e - (n + m))) e)) row := by
    intro old ho row
    have hge := grownCap_ge w (n + m) old e
    have hcm : grownCap w (n + m) old e ≤ maxLen := grownCap_le_maxLen w (n + m) old e h63
    refine ⟨⟨hlen, .inr ⟨w.heap.size, _, _, rfl, Nat.zero_le _, heap_alloc_new w.drew _, hge, hcm, ?_, ?_⟩⟩, ⟨rfl, rfl, rfl, by simp, fun k hk _ => Below.heap_alloc w.drew _ k hk⟩⟩
    · simp only [Array.size_append, List.size_toArray, size_zeroCells, hzs, hown.1, hl, ← Nat.add_mul]
      congr 1
      omega
    · simp only [Array.toList_append, List.append_assoc]
      rw [← List.append_assoc, ← hlen]
      exact List.take_left
  have fresh : ∀ c n v, NewOr w v (.slice (some ⟨w.heap.size, 0, none⟩) n c) := fun c n v k hk => by
    simp [Value.ownBlock] at hk
    omega
  rcases hown.2 with ⟨rfl, rfl⟩ | ⟨g, cap, cur, rfl, hbg, hg, hnc, hcm, hcs, htake⟩
  · have hx : xs = [] := List.eq_nil_of_length_eq_zero (by simpa using hown.1)
    subst hx
    by_cases hm : m = 0
    · subst hm
      have hn : news = [] := List.eq_nil_of_length_eq_zero (by simpa using hl)
      subst hn
      refine ⟨.slice none 0 0, w, fun ty => ?_, World.ownsRow_nil w 0 e i.size, ⟨rfl, rfl, rfl, Nat.le_refl _, fun _ _ _ => rfl⟩, NewOr.refl _ _⟩
      simp [Builtin.append_, run_underlying ht, sizeOf, typeInfo, hi, Builtin.lenOf, Builtin.firstCells, loadCells, loadCellsFrom]
    · have hr := fun ty => run_append_nil (P := P) w t ty e i z ht hi hz a m c news hl hnews (by omega) (by omega) (by have hb := hbytes; simp only [Nat.zero_add] at hb; omega)
      have hgr := grown 0 (by omega) (Value.ownBlock (.slice none 0 0))
      simp only [Nat.zero_add, List.nil_append, Array.empty_append] at hgr ⊢
      exact ⟨_, _, hr, hgr.1, hgr.2, fresh _ _ _⟩
  · by_cases hroom : n + m ≤ cap
    · have hfit : n * i.size + news.length ≤ cur.size := by rw [hl, hcs, ← Nat.add_mul]; exact Nat.mul_le_mul_right _ hroom
      have hr := fun ty => run_append_room (P := P) w t ty e i ht hi g n cap cur hg a m c news hl hnews h1 hroom hfit
      refine ⟨_, _, hr, ⟨hlen, .inr ⟨g, cap, _, rfl, hbg, setRow_heap w g cur _ e _ hg, hroom, hcm, ?_, ?_⟩⟩, ⟨rfl, rfl, rfl, by simp, fun k _ hk => setRow_other w g k _ (fun e => hk (by simp [Value.ownBlock, e]))⟩, fun k hk => .inl hk⟩
      · simp only [List.size_toArray, List.length_append, List.length_take, List.length_drop, Array.length_toList]
        omega
      · rw [htake, ← hlen]
        exact List.take_left
    · have holds : ∀ j u, xs[j]? = some u → w.cell? ((⟨g, 0, none⟩ : Addr).add j) = some u := hown.cells (g := g) rfl
      have hr := fun ty => run_append_grow (P := P) w t ty e i z ht hi hz ⟨g, 0, none⟩ n cap xs hown.1 holds a m c news hl hnews (by omega) (by omega) (growslice_fits (by omega) hbytes)
      have hgr := grown cap (by omega) (Value.ownBlock (.slice (some ⟨g, 0, none⟩) n cap))
      exact ⟨_, _, hr, hgr.1, hgr.2, fresh _ _ _⟩

/-- append(s, make(S, n)...) where it must grow. -/
theorem run_append_make (w : World) (t u ty e : Nat) (ik : IntKind) (i : TypeInfo) (z : Value) (ht : P.underlying t = some (.slice e)) (hu : P.underlying u = some (.int ik)) (hi : P.info? e = some i) (hz : i.zero = some z)
    (b : Addr) (sLen sCap n : Nat) (olds : List Value) (hlo : olds.length = sLen * i.size) (holds : ∀ j v, olds[j]? = some v → w.cell? (b.add j) = some v)
    (hg : sCap < sLen + n) (h63 : sLen + n ≤ 9223372036854775807) (hb : (sLen + n) * i.bytes ≤ 140737488355328) (hnz : 0 < n * i.size) :
    (Builtin.append_ #[t, u] ty #[.slice (some b) sLen sCap, .int .i64 (n : Int)]).run P w =
      .ok (.slice (some ⟨w.heap.size, 0, none⟩) (sLen + n) (grownCap w (sLen + n) sCap e))
        (w.drew.alloc (.cells (olds.toArray ++ Builtin.zeroCells z.cells n ++ Builtin.zeroCells z.cells (grownCap w (sLen + n) sCap e - (sLen + n))) e)) := by
  have hn : ¬ (sLen + n ≤ sCap) := by omega
  have h63' : ¬ (9223372036854775807 < ((sLen : Int) + (n : Int))) := by omega
  have hfit := growslice_fits hg hb
  have h48' : ¬ (281474976710656 < Builtin.nextslicecap (sLen + n) sCap * i.bytes) := by omega
  have hw : IntKind.i64.wrap (n : Int) = (n : Int) := IntWalk.i64_in _ (by omega)
  have hneg : ¬ ((n : Int) < 0) := by omega
  have hbn : n * i.bytes ≤ 281474976710656 := by rw [Nat.add_mul] at hb; omega
  have hbn' : ¬ (281474976710656 < (n : Int) * (i.bytes : Int)) := by
    have : ((n * i.bytes : Nat) : Int) ≤ 281474976710656 := by omega
    rw [Int.natCast_mul] at this
    omega
  have hnz'' : ¬ (n * i.size = 0) := by omega
  have hfo := run_firstCells_some (P := P) w.drew i.size sLen b sLen sCap olds hlo (by simpa using holds)
  have hai : Sem.run P (asIntOf (.int .i64 (n : Int))) w = .ok (.i64, (n : Int)) w := rfl
  simp [Builtin.append_, run_underlying ht, run_underlying hu, sizeOf, typeInfo, zeroValue, hi, hz, asInt, hai, hw, hneg, hbn', hn, h63', h48', hnz'', Question.forced, hfo, newRow, grownCap]

/-- An append whose run is known: for the walk. -/
theorem wpList_append_is {w w1 : World} {ops : Array Oper} {rest : List Oper} {o : Oper} {a : Act} {Q : Exit → Act → World → Prop} (hgd : o.guard = none) (s x : Operand) (t u : TypeId)
    (ho : o.op = .call { callee := .builtin .append, args := #[s, x], argTypes := #[t, u] }) (vs vx v' : Value) (hs : a.eval s = vs) (hx : a.eval x = vx)
    (happ : ∀ ty, (Builtin.append_ #[t, u] ty #[vs, vx]).run P w = .ok v' w1) (h : wpList P ops Q rest (a.put o.dst v') w1) : wpList P ops Q (o :: rest) a w := by
  refine wpList_plain hgd fun K hK => ?_
  have hrun := happ o.type
  unfold Oper.wp
  simp [execOp, ho, resolve, invoke, builtin, hs, hx, hrun, Result.andThen]
  exact hK _ _ h

/-- The same as one step of a region that draws its order. -/
theorem step_append_is {w w1 : World} {ops : Array Oper} {o : Oper} {a : Act} {K : Act → World → Prop} {Q : Exit → Act → World → Prop} {E : Prop} (hgd : o.guard = none) (s x : Operand) (t u : TypeId)
    (ho : o.op = .call { callee := .builtin .append, args := #[s, x], argTypes := #[t, u] }) (vs vx v' : Value) (hs : a.eval s = vs) (hx : a.eval x = vx)
    (happ : ∀ ty, (Builtin.append_ #[t, u] ty #[vs, vx]).run P w = .ok v' w1) (h : K (a.put o.dst v') w1) :
    if Region.wanted o (yielded ops a.tmps) = true then Oper.wp P o a w K Q else E := by
  have hw : Region.wanted o (yielded ops a.tmps) = true := by simp [Region.wanted, hgd]
  rw [if_pos hw]
  have hrun := happ o.type
  unfold Oper.wp
  simp [execOp, ho, resolve, invoke, builtin, hs, hx, hrun, Result.andThen]
  exact h
end
end Go.Proofs.YtddfdpbaiedcjaaDoor
