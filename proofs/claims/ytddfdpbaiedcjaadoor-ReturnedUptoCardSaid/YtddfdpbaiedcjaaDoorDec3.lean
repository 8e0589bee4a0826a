/- wire.Decode: the walk. -/
import Derived.Test.YtddfdpbaiedcjaaDoorDec1
import Derived.Test.YtddfdpbaiedcjaaDoorDec2
namespace Go.Proofs.YtddfdpbaiedcjaaDoor
open Go.RowKit

/-- The packet that is being read. -/
def PkAt (w : World) (pb num : Nat) (fv : Value) : Prop := w.heap[pb]? = some (.cells #[.int .u64 (num : Int), fv] 25 (0, 0))
/-- The error's variable. -/
def ErAt (w : World) (eb : Nat) (v : Value) : Prop := w.heap[eb]? = some (.cells #[v] 40 (0, 0))

/-- What Decode answers. -/
def Decoded (w : World) (r : DecR) (e : Ending) (w' : World) : Prop :=
  Mod NoB w w' ∧ match r with
  | .sum => e = .returned (.tuple #[.agg #[.int .u64 0, .slice none 0 0], .iface 30 (.int .i64 7)])
  | .bad at_ => ∃ fa, e = .returned (.tuple #[.agg #[.int .u64 0, .slice none 0 0], .iface 51 (.pointer (some ⟨fa, 0, none⟩))]) ∧ w'.heap[fa]? = some (.cells #[.int .i64 8, .int .i64 (at_ : Int)] 56 (0, 0)) ∧ w.heap.size ≤ fa
  | .ok num fs => ∃ fv rvs, e = .returned (.tuple #[.agg #[.int .u64 (num : Int), fv], .nilIface]) ∧ OwnF w' fv rvs ∧ rvs.map (·.1) = fs ∧ (∀ g, fv.ownBlock = some g → w.heap.size ≤ g) ∧ ∀ x ∈ rvs, ∀ g, x.2.ownBlock = some g → w.heap.size ≤ g

theorem results_dec (tmps : Array Value) (w : World) (pb eb : Nat) (n fv ev : Value) (h2 : tmps.getD 2 undef = .pointer (some ⟨pb, 0, none⟩)) (h3 : tmps.getD 3 undef = .pointer (some ⟨eb, 0, none⟩))
    (c0 : w.cell? ⟨pb, 0, none⟩ = some n) (c1 : w.cell? ⟨pb, 1, none⟩ = some fv) (c2 : w.cell? ⟨eb, 0, none⟩ = some ev) :
    (results Tryd.f14 tmps).run Tryd.prog w = .ok (.tuple #[.agg #[n, fv], ev]) w := by
  have h2' : tmps[2]?.getD undef = .pointer (some ⟨pb, 0, none⟩) := by rw [← h2]; simp
  have h3' : tmps[3]?.getD undef = .pointer (some ⟨eb, 0, none⟩) := by rw [← h3]; simp
  simp [results, Tryd.results14, go_sem, h2', h3', c0, c1, c2]

set_option maxRecDepth 100000 in
theorem dec_short (v : Value) (bs : List UInt8) (w : World) (hb : BR w v bs) (hs : bs.length < 4) :
    Calls Tryd.prog 14 #[v] w (Decoded w .sum) := by
  obtain ⟨a, cap, rfl, h1, h2, h3⟩ := hb
  unfold maxLen at h2
  have z1 : IntKind.i64.wrap ((bs.length : Int) - 4) = (bs.length : Int) - 4 := IntWalk.i64_in _ (by omega)
  have d : (bs.length : Int) - 4 < 0 := by omega
  clear h3
  go_enter_defers Tryd.func14, Tryd.ntmps14
  go_wp2_with fail
  refine ⟨_, results_dec _ _ _ _ _ _ _ rfl rfl (by simp) (by simp) (by simp), ((Mod.refl _ _).alloc _).alloc _, rfl⟩

theorem u32_or_nat (a b : Nat) (ha : a < 4294967296) (hb : b < 4294967296) : bits .or .u32 (a : Int) (b : Int) = ((a ||| b : Nat) : Int) := by
  have hx : a ||| b < 2 ^ 32 := Nat.or_lt_two_pow (by omega) (by omega)
  have h1 : (BitVec.ofInt 32 (a : Int)).toNat = a := by
    rw [BitVec.ofInt_natCast, BitVec.toNat_ofNat]; exact Nat.mod_eq_of_lt (by omega)
  have h2 : (BitVec.ofInt 32 (b : Int)).toNat = b := by
    rw [BitVec.ofInt_natCast, BitVec.toNat_ofNat]; exact Nat.mod_eq_of_lt (by omega)
  show IntKind.u32.wrap ((BitVec.ofInt 32 (a : Int) ||| BitVec.ofInt 32 (b : Int)).toNat : Int) = _
  rw [BitVec.toNat_or, h1, h2, u32_wrap]
  omega

theorem or_pow (a b i : Nat) (h : b < 2 ^ i) : a * 2 ^ i ||| b = a * 2 ^ i + b := by
  have := Nat.two_pow_add_eq_or_of_lt h a
  rw [Nat.mul_comm] at this
  exact this.symm

theorem or_be (x0 x1 x2 x3 : Nat) (h0 : x0 < 256) (h1 : x1 < 256) (h2 : x2 < 256) (h3 : x3 < 256) :
    bits .or .u32 ((x0 : Int) * 16777216) ((x1 : Int) * 65536) = (x0 : Int) * 16777216 + (x1 : Int) * 65536 ∧
    bits .or .u32 ((x0 : Int) * 16777216 + (x1 : Int) * 65536) ((x2 : Int) * 256) = (x0 : Int) * 16777216 + (x1 : Int) * 65536 + (x2 : Int) * 256 ∧
    bits .or .u32 ((x0 : Int) * 16777216 + (x1 : Int) * 65536 + (x2 : Int) * 256) (x3 : Int) = (x0 : Int) * 16777216 + (x1 : Int) * 65536 + (x2 : Int) * 256 + (x3 : Int) := by
  refine ⟨?_, ?_, ?_⟩
  · have := u32_or_nat (x0 * 16777216) (x1 * 65536) (by omega) (by omega)
    rw [or_pow x0 (x1 * 65536) 24 (by omega)] at this
    rw [show (x0 : Int) * 16777216 = ((x0 * 16777216 : Nat) : Int) by omega, show (x1 : Int) * 65536 = ((x1 * 65536 : Nat) : Int) by omega, this]
    omega
  · have := u32_or_nat (x0 * 16777216 + x1 * 65536) (x2 * 256) (by omega) (by omega)
    have e : x0 * 16777216 + x1 * 65536 = (x0 * 256 + x1) * 2 ^ 16 := by omega
    rw [e, or_pow _ (x2 * 256) 16 (by omega), ← e] at this
    rw [show (x0 : Int) * 16777216 + (x1 : Int) * 65536 = ((x0 * 16777216 + x1 * 65536 : Nat) : Int) by omega, show (x2 : Int) * 256 = ((x2 * 256 : Nat) : Int) by omega, this]
    omega
  · have := u32_or_nat (x0 * 16777216 + x1 * 65536 + x2 * 256) x3 (by omega) (by omega)
    have e : x0 * 16777216 + x1 * 65536 + x2 * 256 = (x0 * 65536 + x1 * 256 + x2) * 2 ^ 8 := by omega
    rw [e, or_pow _ x3 8 (by omega), ← e] at this
    rw [show (x0 : Int) * 16777216 + (x1 : Int) * 65536 + (x2 : Int) * 256 = ((x0 * 16777216 + x1 * 65536 + x2 * 256 : Nat) : Int) by omega, this]
    omega

theorem BR.pre {w : World} {a : Option Addr} {cap n : Nat} {bs : List UInt8} (h : BR w (.slice a bs.length cap) bs) (hn : n ≤ bs.length) : BR w (.slice a n cap) (bs.take n) := by
  obtain ⟨a', cap', hv, h1, h2, h3⟩ := h
  cases hv
  have hl : (bs.take n).length = n := by simp; omega
  refine ⟨a, cap, by rw [hl], by omega, h2, fun i c hi => ?_⟩
  have hin : i < n := by
    have := (List.getElem?_eq_some_iff.1 hi).1
    omega
  rw [List.getElem?_take, if_pos hin] at hi
  exact h3 i c hi

theorem BR.byte {w : World} {a : Option Addr} {l cap : Nat} {bs : List UInt8} (h : BR w (.slice a l cap) bs) {i : Nat} (hi : i < bs.length) : ∃ g o, a = some ⟨g, o, none⟩ ∧ w.cell? ⟨g, o + i, none⟩ = some (.int .u8 (byteAt bs i : Int)) := by
  obtain ⟨a', cap', hv, h1, h2, h3⟩ := h
  cases hv
  have := h3 i bs[i] (List.getElem?_eq_getElem hi)
  unfold byteAt
  rw [List.getD_eq_getElem?_getD, List.getElem?_eq_getElem hi]
  exact this

theorem byteAt_lt (bs : List UInt8) (i : Nat) : byteAt bs i < 256 := by
  unfold byteAt
  have := (bs.getD i 0).toNat_lt
  omega

set_option maxRecDepth 100000 in
set_option maxHeartbeats 1000000 in
theorem dec_sum (v : Value) (bs : List UInt8) (n : Nat) (w : World) (hb : BR w v bs) (ht : Tab w) (hn : bs.length = n + 4) (hs : be4 bs n ≠ crc (bs.take n)) :
    Calls Tryd.prog 14 #[v] w (Decoded w .sum) := by
  obtain ⟨a, cap, rfl, h1, h2, h3⟩ := id hb
  unfold maxLen at h2
  rw [hn] at h1 hb ⊢
  have hb' : BR w (.slice a bs.length cap) bs := by rw [hn]; exact hb
  obtain ⟨g, o, rfl, k0⟩ := hb'.byte (i := n) (by omega)
  obtain ⟨_, _, e, k1⟩ := hb'.byte (i := n + 1) (by omega)
  cases e
  obtain ⟨_, _, e, k2⟩ := hb'.byte (i := n + 2) (by omega)
  cases e
  obtain ⟨_, _, e, k3⟩ := hb'.byte (i := n + 3) (by omega)
  cases e
  have hgl := lt_of_cell k0
  have hpre := hb'.pre (n := n) (by omega)
  have hsum := fun w' (m : Mod NoB w w') => sum_any (.slice (some ⟨g, o, none⟩) n cap) (bs.take n) w' (hpre.mod m (OffS.no _)) (ht.mod m (fun x => x))
  have hcl := crc_lt (bs.take n)
  obtain ⟨s, hse⟩ : ∃ s, crc (bs.take n) = s := ⟨_, rfl⟩
  rw [hse] at hsum hs hcl
  have b0 := byteAt_lt bs n
  have b1 := byteAt_lt bs (n + 1)
  have b2 := byteAt_lt bs (n + 2)
  have b3 := byteAt_lt bs (n + 3)
  unfold be4 at hs
  obtain ⟨x0, e0⟩ : ∃ x, byteAt bs n = x := ⟨_, rfl⟩
  obtain ⟨x1, e1⟩ : ∃ x, byteAt bs (n + 1) = x := ⟨_, rfl⟩
  obtain ⟨x2, e2⟩ : ∃ x, byteAt bs (n + 2) = x := ⟨_, rfl⟩
  obtain ⟨x3, e3⟩ : ∃ x, byteAt bs (n + 3) = x := ⟨_, rfl⟩
  rw [e0] at k0 b0 hs
  rw [e1] at k1 b1 hs
  rw [e2] at k2 b2 hs
  rw [e3] at k3 b3 hs
  obtain ⟨o1, o2, o3⟩ := or_be x0 x1 x2 x3 b0 b1 b2 b3
  have z1 : IntKind.i64.wrap (((n + 4 : Nat) : Int) - 4) = (n : Int) := by rw [show ((n + 4 : Nat) : Int) - 4 = n by omega]; exact IntWalk.i64_in _ (by omega)
  have z2 : IntKind.i64.wrap ((n : Int) + 1) = (n : Int) + 1 := IntWalk.i64_in _ (by omega)
  have z3 : IntKind.i64.wrap ((n : Int) + 2) = (n : Int) + 2 := IntWalk.i64_in _ (by omega)
  have z4 : IntKind.i64.wrap ((n : Int) + 3) = (n : Int) + 3 := IntWalk.i64_in _ (by omega)
  have t2 : ((n : Int) + 1).toNat = n + 1 := by omega
  have t3 : ((n : Int) + 2).toNat = n + 2 := by omega
  have t4 : ((n : Int) + 3).toNat = n + 3 := by omega
  have y0 : IntKind.u32.wrap ((x0 : Int) * 16777216) = (x0 : Int) * 16777216 := by rw [u32_wrap]; omega
  have y1 : IntKind.u32.wrap ((x1 : Int) * 65536) = (x1 : Int) * 65536 := by rw [u32_wrap]; omega
  have y2 : IntKind.u32.wrap ((x2 : Int) * 256) = (x2 : Int) * 256 := by rw [u32_wrap]; omega
  have hq : ((x0 : Int) * 16777216 + (x1 : Int) * 65536 + (x2 : Int) * 256 + (x3 : Int) != (s : Int)) = true := by rw [bne_iff_ne]; omega
  clear h3 hb hb' ht hpre e0 e1 e2 e3 hse hs
  go_enter_defers Tryd.func14, Tryd.ntmps14
  go_wp2_with (go_at_call 20; refine (hsum _ (((Mod.refl _ _).alloc _).alloc _)).mono ?_; rintro e w' ⟨rfl, rfl⟩)
  go_quiet (fail)
  go_wp2_with fail
  have m0 : Mod NoB w (((w.alloc (.cells #[.int .u64 0, .slice none 0 0] 25)).alloc (.cells #[.nilIface] 40)).drewN nq) := (((Mod.refl _ _).alloc _).alloc _).drewN _
  obtain ⟨X, hX⟩ : ∃ X, ((w.alloc (.cells #[.int .u64 0, .slice none 0 0] 25)).alloc (.cells #[.nilIface] 40)).drewN nq = X := ⟨_, rfl⟩
  have oP : X.heap[w.heap.size]? = some (.cells #[.int .u64 0, .slice none 0 0] 25 (0, 0)) := by
    rw [← hX]
    exact (((Mod.refl NoB _).alloc (.cells #[.nilIface] 40)).drewN nq).obj (fun x => x) (heap_alloc_new w _)
  have oE : X.heap[w.heap.size + 1]? = some (.cells #[.nilIface] 40 (0, 0)) := by
    rw [← hX]
    have e : (w.alloc (.cells #[.int .u64 0, .slice none 0 0] 25)).heap.size = w.heap.size + 1 := by simp
    rw [← e]
    exact ((Mod.refl NoB _).drewN nq).obj (fun x => x) (heap_alloc_new _ _)
  rw [hX] at m0 ⊢
  have oP2 := obj_setCell (i := 1) (v := .slice none 0 0) (obj_setCell (i := 0) (v := .int .u64 0) oP)
  have mE : Mod (fun k => k = w.heap.size) X ((X.setCell ⟨w.heap.size, 0, none⟩ (.int .u64 0)).setCell ⟨w.heap.size, 1, none⟩ (.slice none 0 0)) := ((Mod.refl (fun k => k = w.heap.size) X).setCell (p := ⟨w.heap.size, 0, none⟩) (.inl rfl) _).setCell (p := ⟨w.heap.size, 1, none⟩) (.inl rfl) _
  have oE2 := obj_setCell (i := 0) (v := .iface 30 (.int .i64 7)) (mE.obj (by show ¬ w.heap.size + 1 = w.heap.size; omega) oE)
  have mL : ∀ u, Mod (fun k => k = w.heap.size + 1) ((X.setCell ⟨w.heap.size, 0, none⟩ (.int .u64 0)).setCell ⟨w.heap.size, 1, none⟩ (.slice none 0 0)) (((X.setCell ⟨w.heap.size, 0, none⟩ (.int .u64 0)).setCell ⟨w.heap.size, 1, none⟩ (.slice none 0 0)).setCell ⟨w.heap.size + 1, 0, none⟩ u) := fun u => (Mod.refl (fun k => k = w.heap.size + 1) _).setCell (p := ⟨w.heap.size + 1, 0, none⟩) (.inl rfl) u
  have oP3 := (mL (.iface 30 (.int .i64 7))).obj (by show ¬ w.heap.size = w.heap.size + 1; omega) oP2
  refine ⟨_, results_dec _ _ _ _ _ _ _ rfl rfl (cell_of_obj oP3 rfl) (cell_of_obj oP3 rfl) (cell_of_obj oE2 rfl), ((m0.setCell (p := ⟨w.heap.size, 0, none⟩) (.inr (Nat.le_refl _)) _).setCell (p := ⟨w.heap.size, 1, none⟩) (.inr (Nat.le_refl _)) _).setCell (p := ⟨w.heap.size + 1, 0, none⟩) (.inr (Nat.le_succ _)) _, rfl⟩

/-- The door, where what was read was too short. -/
theorem door_short (r : DecR) (w W : World) (tmps : Array Value) (pb eb ab at_ : Nat) (n0 fv e0 : Value) (h2 : tmps.getD 2 undef = .pointer (some ⟨pb, 0, none⟩)) (h3 : tmps.getD 3 undef = .pointer (some ⟨eb, 0, none⟩)) (hm : Mod NoB w W)
    (hp : W.heap[pb]? = some (.cells #[n0, fv] 25 (0, 0))) (he : W.heap[eb]? = some (.cells #[e0] 40 (0, 0))) (ha : W.cell? ⟨ab, 0, none⟩ = some (.int .i64 (at_ : Int))) (hne : pb ≠ eb) (hpb : w.heap.size ≤ pb) (heb : w.heap.size ≤ eb) (hr : r = .bad at_) :
    bodyPostD Tryd.prog Tryd.f14 (Decoded w r) (Exit.panic [{ v := .iface 67 (.agg #[]), recovered := false }]) { tmps := tmps, defers := [{ target := .fn (.func 21) #[.pointer (some ⟨ab, 0, none⟩), .pointer (some ⟨pb, 0, none⟩), .pointer (some ⟨eb, 0, none⟩)], args := #[] }] } W := by
  subst hr
  refine leaves_cons (f := 21) (args := #[.pointer (some ⟨ab, 0, none⟩), .pointer (some ⟨pb, 0, none⟩), .pointer (some ⟨eb, 0, none⟩)]) (by simp) (by simp [go_sem]) ?_
  refine (catch_short ab pb eb at_ n0 fv e0 [] W ha hp he hne).mono ?_
  rintro e u' w'' ⟨rfl, rfl, c1, ⟨fa, c2, c3, c4⟩, c5⟩
  show Leaves Tryd.prog Tryd.f14 tmps (Decoded w (.bad at_)) [] .returning w''
  refine ⟨_, results_dec _ _ _ _ _ _ _ h2 h3 (cell_of_obj c1 rfl) (cell_of_obj c1 rfl) (cell_of_obj c2 rfl), ?_, fa, rfl, c3, ?_⟩
  · refine hm.then c5 ?_
    rintro i (rfl | rfl)
    · exact .inr hpb
    · exact .inr heb
  · exact Nat.le_trans hm.size c4

/-- The door, where all was read. -/
theorem door_ok (r : DecR) (w W : World) (tmps : Array Value) (pb eb num : Nat) (a b c : Value) (fv : Value) (rvs : List (Frm × Value)) (h2 : tmps.getD 2 undef = .pointer (some ⟨pb, 0, none⟩)) (h3 : tmps.getD 3 undef = .pointer (some ⟨eb, 0, none⟩)) (hm : Mod NoB w W)
    (hp : PkAt W pb num fv) (he : ErAt W eb .nilIface) (hf : OwnF W fv rvs) (hn1 : ∀ g, fv.ownBlock = some g → w.heap.size ≤ g) (hn2 : ∀ x ∈ rvs, ∀ g, x.2.ownBlock = some g → w.heap.size ≤ g) (hr : r = .ok num (rvs.map (·.1))) :
    bodyPostD Tryd.prog Tryd.f14 (Decoded w r) Exit.ret { tmps := tmps, defers := [{ target := .fn (.func 21) #[a, b, c], args := #[] }] } W := by
  subst hr
  refine leaves_cons (f := 21) (args := #[a, b, c]) (by simp) (by simp [go_sem]) ?_
  refine (catch_idle a b c W).mono ?_
  rintro e u' w'' ⟨rfl, rfl, rfl⟩
  show Leaves Tryd.prog Tryd.f14 tmps (Decoded w (.ok num (rvs.map (·.1)))) [] .returning w''
  exact ⟨_, results_dec _ _ _ _ _ _ _ h2 h3 (cell_of_obj hp rfl) (cell_of_obj hp rfl) (cell_of_obj he rfl), hm, fv, rvs, rfl, hf, rfl, hn1, hn2⟩
end Go.Proofs.YtddfdpbaiedcjaaDoor
