/- Arguments that hold packets, opened: what is read lies there as frames with their ranges. -/
import Derived.Test.YtddfdpbaiedcjaaDoorEncode
import Derived.Test.YtddfdpbaiedcjaaDoorWireLaw
import Derived.Test.YtddfdpbaiedcjaaDoorRows
import Derived.ProofKit
import Derived.OpenShut
import Derived.ChangeSlices
import Derived.ChangeArms
import Derived.ChangeSame
import Derived.Deep.Slices
namespace Go.Proofs.YtddfdpbaiedcjaaDoor
open Go.ChangeShapes Go.WideShapes Go.ChangeAt Go.RowKit Go.Deep

theorem cells_u64 : Tryd.prog.cellsOf 22 = 1 := by kernel_rfl
theorem cells_range : Tryd.prog.cellsOf 50 = 2 := by kernel_rfl
theorem cells_frame : Tryd.prog.cellsOf 28 = 10 := by kernel_rfl
theorem cells_packet : Tryd.prog.cellsOf 25 = 2 := by kernel_rfl

section
variable {H : Type} {enc : TypeId × Value → H} {W : World} {base : Nat} {spare : Nat → Bool} {held : Bool} {fuel : Nat} {cs : List Value} {x : DataW H × List MemPlace}

theorem bulk_one (d : DataW H) : 1 ≤ Rows.uptoBulk d := by
  cases d with
  | lit l => cases l <;> simp [Rows.uptoBulk]
  | nil => simp [Rows.uptoBulk]
  | ptr d => simp [Rows.uptoBulk]
  | slice elems spare => simp [Rows.uptoBulk]
  | agg parts => simp [Rows.uptoBulk]
  | iface t d => simp [Rows.uptoBulk]
  | map entries => simp [Rows.uptoBulk]
  | held h => simp [Rows.uptoBulk]

theorem bulk_len (l : List (DataW H)) : l.length ≤ Rows.uptoBulkAll l := by
  induction l with
  | nil => simp [Rows.uptoBulkAll]
  | cons x r ih => have := bulk_one x; simp only [Rows.uptoBulkAll, List.length_cons]; omega

/-- A number that is read. -/
theorem open_u64 {c : Value} (h : DataW.trod enc Tryd.prog W base spare held fuel 22 [c] = some x) : ∃ n : Nat, c = .int .u64 (n : Int) ∧ n < 18446744073709551616 := by
  obtain ⟨n, e, _, hw⟩ := DataW.trod_int Tryd.underlying22 h
  cases e
  have hw' : (decide ((0 : Int) ≤ n) && decide (n ≤ 18446744073709551615)) = true := hw
  simp only [Bool.and_eq_true, decide_eq_true_eq] at hw'
  exact ⟨n.toNat, by rw [Int.toNat_of_nonneg hw'.1], by omega⟩

theorem open_i64 {c : Value} {t : TypeId} (ht : Tryd.prog.underlying t = some (.int .i64)) (h : DataW.trod enc Tryd.prog W base spare held fuel t [c] = some x) : ∃ n : Int, c = .int .i64 n ∧ -9223372036854775808 ≤ n ∧ n ≤ 9223372036854775807 := by
  obtain ⟨n, e, _, hw⟩ := DataW.trod_int ht h
  cases e
  have hw' : (decide ((-9223372036854775808 : Int) ≤ n) && decide (n ≤ 9223372036854775807)) = true := hw
  simp only [Bool.and_eq_true, decide_eq_true_eq] at hw'
  exact ⟨n, rfl, hw'.1, hw'.2⟩

theorem plain_addr {a : Addr} {k : Nat} {v : Value} (h : W.cell? ((a.add (0 * k)).add 0) = some v) : ∃ g o, a = ⟨g, o, none⟩ := by
  obtain ⟨b, off, spot⟩ := a
  have hs : spot = none := by simpa [Addr.add] using World.cell?_spot h
  subst hs
  exact ⟨b, off, rfl⟩

theorem two_cells {base : Nat} {a : Addr} {n : Nat} {cs : List Value} (h : W.cells? base a n = some cs) : cs.length = n ∧ ∀ i, i < n → W.cell? (a.add i) = cs[i]? := by
  obtain ⟨_, h1, h2⟩ := World.cells?_some h
  exact ⟨h1, h2⟩

set_option maxRecDepth 100000 in
theorem open_ranges (h : DataW.trod enc Tryd.prog W base spare held fuel 26 cs = some x) : ∃ v rs, cs = [v] ∧ RR W v rs ∧ rs.length ≤ Rows.uptoBulk x.1 := by
  rcases open_slice Tryd.underlying26 h with ⟨rfl, rfl⟩ | ⟨a, len, cap, m, n, D, Pl, rfl, hb, hl, hm, hmm, rfl, hx⟩
  · exact ⟨_, [], rfl, ⟨none, 0, rfl, Nat.le_refl _, Nat.zero_le _, fun i hi => absurd hi (Nat.not_lt_zero i)⟩, Nat.zero_le _⟩
  · have hle : len ≤ m := by rw [hmm]; split <;> omega
    have key : ∀ i, i < len → ∃ r : Nat × Nat, ∃ g o, a = ⟨g, o, none⟩ ∧ W.cell? ⟨g, o + i * 2, none⟩ = some (.int .u64 (r.1 : Int)) ∧ W.cell? ⟨g, o + i * 2 + 1, none⟩ = some (.int .u64 (r.2 : Int)) ∧ r.1 < 18446744073709551616 ∧ r.2 < 18446744073709551616 := by
      intro i hi
      obtain ⟨cs', h1, h2⟩ := hx i (by omega)
      obtain ⟨c0', hz, _⟩ := hx 0 (by omega)
      rw [cells_range] at h1 hz
      obtain ⟨hlen, hc⟩ := two_cells h1
      obtain ⟨hlenz, hcz⟩ := two_cells hz
      obtain ⟨g, o, rfl⟩ : ∃ g o, a = ⟨g, o, none⟩ := by
        have h0 := hcz 0 (by omega)
        rw [List.getElem?_eq_getElem (by omega)] at h0
        exact plain_addr h0
      match cs', hlen, h2, hc with
      | [c0, c1], _, h2, hc =>
        obtain ⟨y0, y1, n', _, _, e0, e1⟩ := trod_struct2 Tryd.underlying50 h2
        simp only [List.drop_zero, List.drop_succ_cons] at e0 e1
        rw [cells_u64] at e0 e1
        obtain ⟨lo, rfl, b0⟩ := open_u64 e0
        obtain ⟨hi', rfl, b1⟩ := open_u64 e1
        have k0 := hc 0 (by omega)
        have k1 := hc 1 (by omega)
        simp only [addr_add] at k0 k1
        exact ⟨(lo, hi'), g, o, rfl, k0, k1, b0, b1⟩
    obtain ⟨R, hR⟩ := choose_lt (α := Nat × Nat) key
    refine ⟨_, (List.range len).map R, rfl, ⟨some a, cap, by simp, by simpa using hl, hm, fun i hi => ?_⟩, ?_⟩
    · have hi : i < len := by simpa using hi
      obtain ⟨g, o, rfl, q1, q2, q3, q4⟩ := hR i hi
      have e1 : loAt ((List.range len).map R) i = (R i).1 := by simp [loAt, List.getD, hi]
      have e2 : hiAt ((List.range len).map R) i = (R i).2 := by simp [hiAt, List.getD, hi]
      rw [e1, e2]
      exact ⟨g, o, rfl, q1, q2, q3, q4⟩
    · have := bulk_len ((List.range len).map D)
      simp only [Rows.uptoBulk]
      simp only [List.length_map, List.length_range] at this ⊢
      omega

set_option maxRecDepth 100000 in
theorem open_frame (h : DataW.trod enc Tryd.prog W base spare held fuel 28 cs = some x) : ∃ f rv, cs = (frCells f rv).toList ∧ RR W rv f.rngs ∧ f.data.length + f.rngs.length + 1 ≤ Rows.uptoBulk x.1 := by
  obtain ⟨xs, n, _, rfl, hl, hxs, hf⟩ := DataW.trod_struct Tryd.underlying28 h
  rw [cells_frame] at hl
  have cI : Tryd.prog.cellsOf 3 = 1 := by kernel_rfl
  have cB : Tryd.prog.cellsOf 4 = 1 := by kernel_rfl
  have cS : Tryd.prog.cellsOf 9 = 1 := by kernel_rfl
  have cR : Tryd.prog.cellsOf 26 = 1 := by kernel_rfl
  match cs, hl, xs, hxs with
  | [c0, c1, c2, c3, c4, c5, c6, c7, c8, c9], _, [x0, x1, x2, x3, x4, x5, x6, x7, x8, x9], _ =>
    have f0 : DataW.trod enc Tryd.prog W base spare held n 3 [c0] = some x0 := by
      have q : DataW.trod enc Tryd.prog W base spare held n 3 (([c0, c1, c2, c3, c4, c5, c6, c7, c8, c9].drop 0).take (Tryd.prog.cellsOf 3)) = some x0 := hf 0 _ rfl
      rw [cI] at q
      exact q
    have f1 : DataW.trod enc Tryd.prog W base spare held n 3 [c1] = some x1 := by
      have q : DataW.trod enc Tryd.prog W base spare held n 3 (([c0, c1, c2, c3, c4, c5, c6, c7, c8, c9].drop 1).take (Tryd.prog.cellsOf 3)) = some x1 := hf 1 _ rfl
      rw [cI] at q
      exact q
    have f2 : DataW.trod enc Tryd.prog W base spare held n 22 [c2] = some x2 := by
      have q : DataW.trod enc Tryd.prog W base spare held n 22 (([c0, c1, c2, c3, c4, c5, c6, c7, c8, c9].drop 2).take (Tryd.prog.cellsOf 22)) = some x2 := hf 2 _ rfl
      rw [cells_u64] at q
      exact q
    have f3 : DataW.trod enc Tryd.prog W base spare held n 22 [c3] = some x3 := by
      have q : DataW.trod enc Tryd.prog W base spare held n 22 (([c0, c1, c2, c3, c4, c5, c6, c7, c8, c9].drop 3).take (Tryd.prog.cellsOf 22)) = some x3 := hf 3 _ rfl
      rw [cells_u64] at q
      exact q
    have f4 : DataW.trod enc Tryd.prog W base spare held n 22 [c4] = some x4 := by
      have q : DataW.trod enc Tryd.prog W base spare held n 22 (([c0, c1, c2, c3, c4, c5, c6, c7, c8, c9].drop 4).take (Tryd.prog.cellsOf 22)) = some x4 := hf 4 _ rfl
      rw [cells_u64] at q
      exact q
    have f5 : DataW.trod enc Tryd.prog W base spare held n 4 [c5] = some x5 := by
      have q : DataW.trod enc Tryd.prog W base spare held n 4 (([c0, c1, c2, c3, c4, c5, c6, c7, c8, c9].drop 5).take (Tryd.prog.cellsOf 4)) = some x5 := hf 5 _ rfl
      rw [cB] at q
      exact q
    have f6 : DataW.trod enc Tryd.prog W base spare held n 22 [c6] = some x6 := by
      have q : DataW.trod enc Tryd.prog W base spare held n 22 (([c0, c1, c2, c3, c4, c5, c6, c7, c8, c9].drop 6).take (Tryd.prog.cellsOf 22)) = some x6 := hf 6 _ rfl
      rw [cells_u64] at q
      exact q
    have f7 : DataW.trod enc Tryd.prog W base spare held n 22 [c7] = some x7 := by
      have q : DataW.trod enc Tryd.prog W base spare held n 22 (([c0, c1, c2, c3, c4, c5, c6, c7, c8, c9].drop 7).take (Tryd.prog.cellsOf 22)) = some x7 := hf 7 _ rfl
      rw [cells_u64] at q
      exact q
    have f8 : DataW.trod enc Tryd.prog W base spare held n 9 [c8] = some x8 := by
      have q : DataW.trod enc Tryd.prog W base spare held n 9 (([c0, c1, c2, c3, c4, c5, c6, c7, c8, c9].drop 8).take (Tryd.prog.cellsOf 9)) = some x8 := hf 8 _ rfl
      rw [cS] at q
      exact q
    have f9 : DataW.trod enc Tryd.prog W base spare held n 26 [c9] = some x9 := by
      have q : DataW.trod enc Tryd.prog W base spare held n 26 (([c0, c1, c2, c3, c4, c5, c6, c7, c8, c9].drop 9).take (Tryd.prog.cellsOf 26)) = some x9 := hf 9 _ rfl
      rw [cR] at q
      exact q
    obtain ⟨k, rfl, _, _⟩ := open_i64 Tryd.underlying3 f0
    obtain ⟨s, rfl, _, _⟩ := open_i64 Tryd.underlying3 f1
    obtain ⟨n2, rfl, _⟩ := open_u64 f2
    obtain ⟨n3, rfl, _⟩ := open_u64 f3
    obtain ⟨n4, rfl, _⟩ := open_u64 f4
    obtain ⟨b, e5, _⟩ := DataW.trod_bool Tryd.underlying4 f5
    obtain ⟨n6, rfl, _⟩ := open_u64 f6
    obtain ⟨n7, rfl, _⟩ := open_u64 f7
    obtain ⟨d, e8, hx8, _⟩ := DataW.trod_string Tryd.underlying9 f8
    obtain ⟨rv, rs, e9, hrr, hbr⟩ := open_ranges f9
    cases e5
    cases e8
    cases e9
    have hx8' : x8 = (.lit (.string d.data.toList), []) := by simpa using hx8
    have hx9 : (some x9).get rfl = x9 := rfl
    refine ⟨{ kind := k, stream := s, off := n2, rel := n3, lim := n4, fin := b, id := n6, dl := n7, data := d.data.toList, rngs := rs }, c9, ?_, hrr, ?_⟩
    · have hd : strOf d.data.toList = d := by simp [strOf]
      show _ = [Value.int .i64 k, .int .i64 s, .int .u64 (n2 : Int), .int .u64 (n3 : Int), .int .u64 (n4 : Int), .bool b, .int .u64 (n6 : Int), .int .u64 (n7 : Int), .string (strOf d.data.toList), c9]
      rw [hd]
    · have := bulk_one x0.1
      subst hx8'
      simp only [List.map_cons, List.map_nil, Rows.uptoBulk, Rows.uptoBulkAll]
      omega

/-- The bulk of frames. -/
def bulkF (fs : List (Frm × Value)) : Nat := (fs.map fun fr => fr.1.data.length + fr.1.rngs.length + 1).sum

instance : Inhabited Frm := ⟨{ kind := 0, stream := 0, off := 0, rel := 0, lim := 0, fin := false, id := 0, dl := 0, data := [], rngs := [] }⟩
instance : Inhabited Value := ⟨.nilIface⟩

set_option maxRecDepth 100000 in
theorem open_frames (h : DataW.trod enc Tryd.prog W base spare held fuel 23 cs = some x) : ∃ v fs, cs = [v] ∧ FrsAt W v fs ∧ bulkF fs ≤ Rows.uptoBulk x.1 := by
  rcases open_slice Tryd.underlying23 h with ⟨rfl, rfl⟩ | ⟨a, len, cap, m, n, D, Pl, rfl, hb, hl, hm, hmm, rfl, hx⟩
  · exact ⟨_, [], rfl, ⟨none, 0, rfl, Nat.le_refl _, Nat.zero_le _, fun i fr hi => by simp at hi⟩, Nat.zero_le _⟩
  · have hle : len ≤ m := by rw [hmm]; split <;> omega
    have key : ∀ i, i < len → ∃ fr : Frm × Value, (∃ g o, a = ⟨g, o, none⟩ ∧ ∀ j y, (frCells fr.1 fr.2)[j]? = some y → W.cell? ⟨g, o + i * 10 + j, none⟩ = some y) ∧ RR W fr.2 fr.1.rngs ∧ fr.1.data.length + fr.1.rngs.length + 1 ≤ Rows.uptoBulk (D i) := by
      intro i hi
      obtain ⟨cs', h1, h2⟩ := hx i (by omega)
      obtain ⟨c0', hz, _⟩ := hx 0 (by omega)
      rw [cells_frame] at h1 hz
      obtain ⟨hlen, hc⟩ := two_cells h1
      obtain ⟨hlenz, hcz⟩ := two_cells hz
      obtain ⟨g, o, rfl⟩ : ∃ g o, a = ⟨g, o, none⟩ := by
        have h0 := hcz 0 (by omega)
        rw [List.getElem?_eq_getElem (by omega)] at h0
        exact plain_addr h0
      obtain ⟨f, rv, rfl, hrr, hbk⟩ := open_frame h2
      refine ⟨(f, rv), ⟨g, o, rfl, fun j y hy => ?_⟩, hrr, hbk⟩
      have hj : j < 10 := (Array.getElem?_eq_some_iff.1 hy).1
      have := hc j hj
      rw [addr_add, addr_add, Array.getElem?_toList] at this
      rw [this]
      exact hy
    obtain ⟨F, hF⟩ := choose_lt (α := Frm × Value) key
    refine ⟨_, (List.range len).map F, rfl, ⟨some a, cap, by simp, by simpa using hl, hm, fun i fr hi => ?_⟩, ?_⟩
    · have hil : i < len := by
        have := (List.getElem?_eq_some_iff.1 hi).1
        simpa using this
      have hfr : fr = F i := by
        simp [hil] at hi
        exact hi.symm
      subst hfr
      obtain ⟨⟨g, o, rfl, q1⟩, q2, _⟩ := hF i hil
      exact ⟨⟨g, o, rfl, q1⟩, q2⟩
    · have : ∀ k, k ≤ len → (((List.range k).map F).map fun fr => fr.1.data.length + fr.1.rngs.length + 1).sum ≤ Rows.uptoBulkAll ((List.range k).map D) := by
        have hap : ∀ l r : List (DataW H), Rows.uptoBulkAll (l ++ r) = Rows.uptoBulkAll l + Rows.uptoBulkAll r := by
          intro l r
          induction l with
          | nil => simp [Rows.uptoBulkAll]
          | cons x l ih => simp only [List.cons_append, Rows.uptoBulkAll, ih]; omega
        intro k
        induction k with
        | zero => intro _; simp [Rows.uptoBulkAll]
        | succ k ih =>
          intro hk
          have h1 := ih (by omega)
          have h2 := (hF k (by omega)).2.2
          simp only [List.range_succ, List.map_append, List.sum_append, hap, List.map_cons, List.map_nil, List.sum_cons, List.sum_nil, Rows.uptoBulkAll]
          omega
      have := this len (Nat.le_refl _)
      simp only [Rows.uptoBulk, bulkF]
      omega

set_option maxRecDepth 100000 in
theorem open_packet (h : DataW.trod enc Tryd.prog W base spare held fuel 25 cs = some x) : ∃ (n : Nat) (v : Value) (fs : List (Frm × Value)), cs = [.int .u64 (n : Int), v] ∧ n < 18446744073709551616 ∧ FrsAt W v fs ∧ bulkF fs ≤ Rows.uptoBulk x.1 := by
  obtain ⟨y0, y1, n', rfl, hl, e0, e1⟩ := trod_struct2 Tryd.underlying25 h
  rw [cells_packet] at hl
  have cF : Tryd.prog.cellsOf 23 = 1 := by kernel_rfl
  match cs, hl with
  | [c0, c1], _ =>
    simp only [List.drop_zero, List.drop_succ_cons, cF, cells_u64, List.take_succ_cons, List.take_zero] at e0 e1
    obtain ⟨n, rfl, hn⟩ := open_u64 e0
    obtain ⟨v, fs, e, hfs, hbk⟩ := open_frames e1
    cases e
    refine ⟨n, _, fs, rfl, hn, hfs, ?_⟩
    simp only [Rows.uptoBulk, Rows.uptoBulkAll]
    omega
end

/-- How many bytes frames take. -/
theorem bytesF_len (f : Frm) : (bytesF f).length ≤ 32 * (f.data.length + f.rngs.length + 1) := by
  have hv := vint_lt8
  unfold bytesF
  repeat' split
  all_goals simp only [bwrite2, bwrite3, bwrite4, bwrite4f, bwrite6, bwrite7, bnum, List.length_append, List.length_cons, List.length_nil]
  · omega
  · have h1 := hv (hiAt f.rngs 0)
    have h2 := hv (f.rngs.length - 1)
    have h3 := hv (hiAt f.rngs 0 - loAt f.rngs 0)
    have h4 := ackB_length f.rngs (f.rngs.length - 1)
    omega
  all_goals
    have h1 := hv f.stream.toNat
    have h2 := hv f.off
    have h3 := hv f.rel
    have h4 := hv f.lim
    have h5 := hv f.id
    have h6 := hv f.dl
    have h7 := hv f.data.length
    omega

theorem flat_le (fs : List (Frm × Value)) : ((fs.map (·.1)).flatMap bytesF).length ≤ 32 * bulkF fs ∧ fs.length ≤ bulkF fs ∧ ∀ fr ∈ fs, fr.1.data.length ≤ bulkF fs ∧ fr.1.rngs.length ≤ bulkF fs := by
  unfold bulkF
  induction fs with
  | nil => simp
  | cons f fs ih =>
    obtain ⟨h1, h2, h3⟩ := ih
    have := bytesF_len f.1
    simp only [List.map_cons, List.flatMap_cons, List.length_append, List.length_cons, List.sum_cons]
    refine ⟨by omega, by omega, fun fr hfr => ?_⟩
    rcases List.mem_cons.1 hfr with rfl | hfr
    · omega
    · have := h3 fr hfr
      omega
end Go.Proofs.YtddfdpbaiedcjaaDoor
