/- The statement Gathered, second form, its card: where what the law reads is of bulk at most 1048576, and the two listed variables read as listed, it returns true, and its argument reads behind the call as before. Part 14 of 23. -/
import Derived.Test.YtddfdpbaiedcjabGreatDoorGatheredPart13
import Derived.Test.YtddfdpbaiedcjabGreatDoorGatheredPart4
import Derived.Test.YtddfdpbaiedcjabGreatDoorGatheredPart5
import Derived.Test.YtddfdpbaiedcjabGreatDoorGatheredPart7
/- mediawirelaw.copied. -/
namespace Go.Proofs.YtddfdpbaiedcjabGreatDoor
open Go.RowKit

theorem results_lpacket (tmps : Array Value) (w : World) (qb : Nat) (n fv : Value) (h2 : tmps.getD 2 undef = .pointer (some ⟨qb, 0, none⟩))
    (c0 : w.cell? ⟨qb, 0, none⟩ = some n) (c1 : w.cell? ⟨qb, 1, none⟩ = some fv) :
    (results Tryz.f33 tmps).run Tryz.prog w = .ok (.agg #[n, fv]) w := by
  have h2' : tmps[2]?.getD undef = .pointer (some ⟨qb, 0, none⟩) := by rw [← h2]; simp
  simp [results, Tryz.results33, go_sem, h2', c0, c1]

set_option maxRecDepth 100000 in
set_option maxHeartbeats 1000000 in
theorem lcopied_any (n : Nat) (fs : List (Frm × Value)) (v : Value) (w : World) (h : FrsAt w v fs) (hl : fs.length ≤ 1099511627775) (hd : ∀ fr ∈ fs, fr.1.rngs.length ≤ 1099511627776) :
    Calls Tryz.prog 33 #[.agg #[.int .u64 (n : Int), v]] w (Copy w n fs) := by
  obtain ⟨a, cap, rfl, h1, h2, h3⟩ := id h
  unfold maxLen at h2
  clear h3
  have H := hide h
  have Hd := hide hd
  clear h hd
  obtain ⟨W0, hW0⟩ : ∃ W0, (w.alloc (.cells #[.int .u64 (n : Int), .slice a fs.length cap] 37)).alloc (.cells #[.int .u64 0, .slice none 0 0] 37) = W0 := ⟨_, rfl⟩
  have m0 : Mod NoB w W0 := by rw [← hW0]; exact ((Mod.refl _ _).alloc _).alloc _
  have e1 : (w.alloc (.cells #[.int .u64 (n : Int), .slice a fs.length cap] 37)).heap.size = w.heap.size + 1 := by simp
  have oP : W0.heap[w.heap.size]? = some (.cells #[.int .u64 (n : Int), .slice a fs.length cap] 37 (0, 0)) := by rw [← hW0]; exact ((Mod.refl NoB _).alloc _).obj (fun x => x) (heap_alloc_new w _)
  have oQ : W0.heap[w.heap.size + 1]? = some (.cells #[.int .u64 0, .slice none 0 0] 37 (0, 0)) := by rw [← hW0, ← e1]; exact heap_alloc_new _ _
  have HP := hide oP
  have HQ := hide oQ
  have HM0 := hide m0
  have HW0 := hide hW0
  clear oP oQ m0 hW0 e1
  go_enter Tryz.func33, Tryz.ntmps33
  go_wp2_with fail
  rw [HW0.out]
  go_loopw [3, 4] (fun lv i wr => ∃ k : Nat, k ≤ fs.length ∧ i = .int .i64 k ∧ CopyK W0 fs k lv wr) (fun _ i _ => fs.length - (intOf i).toNat)
  case atStart => exact ⟨0, Nat.zero_le _, rfl, [], OwnF.nil _, rfl, rfl, (fun g hg => by cases hg), (fun x hx => by cases hx), Mod.refl _ _⟩
  case round =>
    obtain ⟨k, hk, rfl, hC⟩ := hrel
    obtain ⟨rvs, hof, hlen, hmap, hn1, hn2, hmr⟩ := id hC
    obtain ⟨la, lc, rfl, _⟩ := own_form hof.1
    subst hlen
    have HC := hide hC
    have HMR := hide hmr
    have HOF := hide hof
    have HMP := hide hmap
    have HN1 := hide hn1
    have HN2 := hide hn2
    have HFS : FrsAt wr (.slice a fs.length cap) fs := (H.out.mod0 HM0.out).mod0 hmr
    clear hC hmr hof hmap hn1 hn2
    have oP : wr.heap[w.heap.size]? = some (.cells #[.int .u64 (n : Int), .slice a fs.length cap] 37 (0, 0)) := HMR.out.obj (fun x => x) HP.out
    have oQ : wr.heap[w.heap.size + 1]? = some (.cells #[.int .u64 0, .slice none 0 0] 37 (0, 0)) := HMR.out.obj (fun x => x) HQ.out
    have p0 : wr.cell? ⟨w.heap.size, 0, none⟩ = some (.int .u64 (n : Int)) := cell_of_obj oP rfl
    have p1 : wr.cell? ⟨w.heap.size, 1, none⟩ = some (.slice a fs.length cap) := cell_of_obj oP rfl
    have pz : wr.frozen? ⟨w.heap.size, 1, none⟩ = false := frozen_of_obj oP
    have q0 : wr.cell? ⟨w.heap.size + 1, 0, none⟩ = some (.int .u64 0) := cell_of_obj oQ rfl
    have q1 : wr.cell? ⟨w.heap.size + 1, 1, none⟩ = some (.slice none 0 0) := cell_of_obj oQ rfl
    have qz0 : wr.frozen? ⟨w.heap.size + 1, 0, none⟩ = false := frozen_of_obj oQ
    have qz1 : wr.frozen? ⟨w.heap.size + 1, 1, none⟩ = false := frozen_of_obj oQ
    by_cases hlt : rvs.length < fs.length
    · obtain ⟨fr, hfr⟩ : ∃ fr, fs[rvs.length]? = some fr := ⟨fs[rvs.length], List.getElem?_eq_getElem hlt⟩
      obtain ⟨a', cap', hv', _, _, h3⟩ := HFS
      cases hv'
      obtain ⟨f, rv⟩ := fr
      obtain ⟨⟨g, o, rfl, hc⟩, hrr⟩ := h3 rvs.length (f, rv) hfr
      simp only at hc hrr
      obtain ⟨ra, rc, rfl, _⟩ := id hrr
      obtain ⟨hc0, hc1, hc2, hc3, hc4, hc5, hc6, hc7, hc8, hc9⟩ := fr_cells hc
      have hrl := Hd.out _ (List.mem_of_getElem? hfr)
      simp only at hrl
      obtain ⟨v1, W1, hr1, own1, mod1, new1⟩ := rs_copy (wr.alloc (.cells (frCells f (.slice ra f.rngs.length rc)) 48)) (.slice ra f.rngs.length rc) f.rngs (hrr.mod ((Mod.refl NoB _).alloc _) (OffS.no _)) hrl
      obtain ⟨xa, xc, rfl, _⟩ := own_form own1.1
      have fb1 : FrameAt W1 wr.heap.size f (.slice ra f.rngs.length rc) := mod1.obj (fun x => x) (heap_alloc_new wr _)
      obtain ⟨k0, k1, k2, k3, k4, k5, k6, k7, k8, k9⟩ := fb1.cells
      have kz : W1.frozen? ⟨wr.heap.size, 9, none⟩ = false := frozen_of_obj fb1
      have fbl := lt_of_cell k0
      have m2 : Mod (fun x => x = wr.heap.size) W1 (W1.setCell ⟨wr.heap.size, 9, none⟩ (.slice xa f.rngs.length xc)) := (Mod.refl (fun x => x = wr.heap.size) W1).setCell (p := ⟨wr.heap.size, 9, none⟩) (.inl rfl) _
      have m1 : Mod NoB wr W1 := ((Mod.refl NoB wr).alloc _).trans mod1
      have own2 : OwnF (W1.setCell ⟨wr.heap.size, 9, none⟩ (.slice xa f.rngs.length xc)) (.slice la rvs.length lc) rvs :=
        OwnF.mod HOF.out (m1.then m2 (fun i hi => .inr (by omega))) (fun i hi => hi.elim)
      obtain ⟨v3, W3, hr3, own3, gr3, nw3⟩ := flit_app (W1.setCell ⟨wr.heap.size, 9, none⟩ (.slice xa f.rngs.length xc)) (.slice la rvs.length lc) rvs f xa f.rngs.length xc own2.1 (by omega)
      have HK : Hid (CopyK W0 fs (rvs.length + 1) v3 W3) :=
        copy_step (rv := .slice xa f.rngs.length xc) HOF.out HMP.out HN1.out HN2.out HMR.out hfr m1 own1 (fun g hg => by have := new1 g hg; simp at this; omega) rfl m2 own3 gr3 nw3
      have HF1 := hide fb1
      have p1' : (wr.alloc (.cells (frCells f (.slice ra f.rngs.length rc)) 48)).cell? ⟨w.heap.size, 1, none⟩ = some (.slice (some ⟨g, o, none⟩) fs.length cap) := ((Mod.refl NoB _).alloc _).cell (a := ⟨w.heap.size, 1, none⟩) (fun x => x) p1
      have hc9' : (wr.alloc (.cells (frCells f (.slice ra f.rngs.length rc)) 48)).cell? ⟨g, o + rvs.length * 10 + 9, none⟩ = some (.slice ra f.rngs.length rc) := ((Mod.refl NoB _).alloc _).cell (a := ⟨g, _, none⟩) (fun x => x) hc9
      clear h3 own1 mod1 new1 fb1 m2 m1 own2 oP oQ own3 gr3 nw3 hc hrr hrl
      unfold frCells at hr1 hr3 p1' hc9'
      have hsz : (W1.setCell ⟨wr.heap.size, 9, none⟩ (.slice xa f.rngs.length xc)).heap.size = W1.heap.size := by simp [World.setCell]
      rw [hsz] at hr3
      clear hsz
      go_wp2_with (at_builtin; first | (refine wpList_append_is rfl _ _ _ _ rfl _ _ _ rfl rfl hr1 ?_; clear hr1) | (refine wpList_append_is rfl _ _ _ _ rfl _ _ _ rfl rfl hr3 ?_; clear hr3))
      go_roundw
      case rel => exact ⟨rvs.length + 1, by omega, by go_num, HK.out⟩
      case measure => simp [intOf]; omega
    · have hkn : rvs.length = fs.length := by omega
      have HKN := hide hkn
      have HOP := hide oP
      have HOQ := hide oQ
      clear oP oQ
      go_wp2_with fail
      obtain ⟨WF, hWF⟩ : ∃ WF, (wr.setCell ⟨w.heap.size + 1, 0, none⟩ (.int .u64 (n : Int))).setCell ⟨w.heap.size + 1, 1, none⟩ (.slice la fs.length lc) = WF := ⟨_, rfl⟩
      rw [hWF]
      have mF : Mod (fun k => k = w.heap.size + 1) wr WF := by
        rw [← hWF]
        exact ((Mod.refl (fun k => k = w.heap.size + 1) wr).setCell (p := ⟨w.heap.size + 1, 0, none⟩) (.inl rfl) _).setCell (p := ⟨w.heap.size + 1, 1, none⟩) (.inl rfl) _
      have oF : WF.heap[w.heap.size + 1]? = some (.cells #[.int .u64 (n : Int), .slice la fs.length lc] 37 (0, 0)) := by
        rw [← hWF]
        exact obj_setCell (obj_setCell HOQ.out)
      have hsz : w.heap.size + 1 + 1 = W0.heap.size := by rw [← HW0.out]; simp
      have own : OwnF WF (.slice la rvs.length lc) rvs := OwnF.mod HOF.out mF (fun i hi => .inr (by
        have hi : i = w.heap.size + 1 := hi
        subst hi
        exact ⟨_, _, _, HOQ.out, by decide, by decide⟩))
      refine bodyPost_ret (results_lpacket _ _ (w.heap.size + 1) (.int .u64 (n : Int)) (.slice la fs.length lc) rfl (cell_of_obj oF rfl) (cell_of_obj oF rfl)) rfl ?_
      refine ⟨.slice la rvs.length lc, rvs, by rw [HKN.out], own, ?_, fun g hg => ?_, fun x hx g hg => ?_, ?_⟩
      · rw [HMP.out, HKN.out, List.take_length]
      · have := HN1.out g hg
        omega
      · have := HN2.out x hx g hg
        omega
      · exact (HM0.out.trans HMR.out).then mF (fun i hi => .inr (by have hi : i = w.heap.size + 1 := hi; omega))
end Go.Proofs.YtddfdpbaiedcjabGreatDoor
/- The plain law of the document's answer: its sum bit by bit, its numbers as bytes. -/
namespace Go.Proofs.YtddfdpbaiedcjabGreatDoor
open Go.RowKit

/-- One bit of the sum. -/
def rbit (c : Nat) : Nat := if c % 2 = 1 then c / 2 ^^^ 3988292384 else c / 2
def rbits : Nat → Nat → Nat
  | 0, c => c
  | k + 1, c => rbit (rbits k c)

theorem rbit_xor (a b : Nat) : rbit (a ^^^ b) = rbit a ^^^ rbit b := by
  unfold rbit
  have h1 : (a ^^^ b) / 2 = a / 2 ^^^ b / 2 := by
    have := Nat.shiftRight_xor_distrib (a := a) (b := b) (i := 1)
    simpa [Nat.shiftRight_eq_div_pow] using this
  have h2 : (a ^^^ b) % 2 = (a % 2 + b % 2) % 2 := by
    have h := Nat.xor_mod_two_pow (a := a) (b := b) (n := 1)
    simp only [Nat.pow_one] at h
    rw [h]
    rcases Nat.mod_two_eq_zero_or_one a with ha | ha <;> rcases Nat.mod_two_eq_zero_or_one b with hb | hb <;> simp [ha, hb]
  rw [h1, h2]
  rcases Nat.mod_two_eq_zero_or_one a with ha | ha <;> rcases Nat.mod_two_eq_zero_or_one b with hb | hb <;> simp [ha, hb]
  · rw [Nat.xor_assoc]
  · rw [Nat.xor_assoc, Nat.xor_comm (b / 2), ← Nat.xor_assoc]
  · rw [Nat.xor_comm (b / 2), ← Nat.xor_assoc, Nat.xor_assoc (a / 2), Nat.xor_self, Nat.xor_zero]

theorem rbits_xor : ∀ k a b, rbits k (a ^^^ b) = rbits k a ^^^ rbits k b
  | 0, _, _ => rfl
  | k + 1, a, b => by
    show rbit _ = rbit _ ^^^ rbit _
    rw [rbits_xor k a b, rbit_xor]

theorem part16 (c : Nat) : c / 16 * 16 ^^^ c % 16 = c := by
  apply Nat.eq_of_testBit_eq
  intro i
  rw [Nat.testBit_xor, show (16 : Nat) = 2 ^ 4 from rfl, Nat.testBit_mod_two_pow, Nat.testBit_mul_two_pow, Nat.testBit_div_two_pow]
  by_cases h : i < 4
  · simp [h, show ¬ 4 ≤ i by omega]
  · simp [h, show 4 ≤ i by omega]

theorem rbits_four : ∀ d : Fin 16, rbits 4 d.val = ct d.val := by decide +kernel

theorem rbits_high (h : Nat) : rbits 4 (h * 16) = h := by
  have e : ∀ m, rbit (m * 2) = m := fun m => by
    unfold rbit
    rw [if_neg (by omega)]
    omega
  simp only [rbits]
  rw [show h * 16 = h * 8 * 2 by omega, e, show h * 8 = h * 4 * 2 by omega, e, show h * 4 = h * 2 * 2 by omega, e, e]

theorem rbits_nib (c : Nat) : rbits 4 c = nib c := by
  rw [← part16 c, rbits_xor, rbits_high, rbits_four ⟨c % 16, by omega⟩, part16]
  rfl

theorem rbits_crc (c : Nat) (x : UInt8) : rbits 8 (c ^^^ x.toNat) = crcB c x := by
  unfold crcB
  rw [← rbits_nib, ← rbits_nib]
  rfl

/-- One byte of a number, as the document's answer has it. -/
def rvb (n size i : Nat) : UInt8 := UInt8.ofNat (n / 256 ^ i % 256 + (if i + 1 = size then (if size = 8 then 3 else if size = 4 then 2 else if size = 2 then 1 else 0) * 64 else 0))
def rsize (n : Nat) : Nat := if 1073741824 ≤ n then 8 else if 16384 ≤ n then 4 else if 64 ≤ n then 2 else 1
/-- The bytes from the greatest on, down to the k-th. -/
def rvint (n : Nat) (size : Nat) : Nat → List UInt8
  | 0 => []
  | k + 1 => rvint n size k ++ [rvb n size (size - 1 - k)]

theorem rvint_vint (n : Nat) (h : n < 4611686018427387904) : rvint n (rsize n) (rsize n) = vint n := by
  have e : ∀ a b : Nat, a % 256 = b % 256 → UInt8.ofNat a = UInt8.ofNat b := by
    intro a b hab
    apply UInt8.toNat_inj.1
    rw [UInt8.toNat_ofNat', UInt8.toNat_ofNat']
    exact hab
  unfold rsize vint
  by_cases h3 : 1073741824 ≤ n
  · rw [if_pos h3, if_neg (by omega), if_neg (by omega), if_neg (by omega)]
    simp [rvint, rvb]
    refine ⟨e _ _ (by omega), e _ _ (by omega), e _ _ (by omega), e _ _ (by omega), e _ _ (by omega), e _ _ (by omega), e _ _ (by omega), e _ _ (by omega)⟩
  · rw [if_neg h3]
    by_cases h2 : 16384 ≤ n
    · rw [if_pos h2, if_neg (by omega), if_neg (by omega), if_pos (by omega)]
      simp [rvint, rvb]
      refine ⟨e _ _ (by omega), e _ _ (by omega), e _ _ (by omega), e _ _ (by omega)⟩
    · rw [if_neg h2]
      by_cases h1 : 64 ≤ n
      · rw [if_pos h1, if_neg (by omega), if_pos (by omega)]
        simp [rvint, rvb]
        refine ⟨e _ _ (by omega), e _ _ (by omega)⟩
      · rw [if_neg h1, if_pos (by omega)]
        simp [rvint, rvb]
        exact e _ _ (by omega)

end Go.Proofs.YtddfdpbaiedcjabGreatDoor
/- mediawireref.Sum, mediawireref.Sealed: the document's sum, bit by bit. -/
namespace Go.Proofs.YtddfdpbaiedcjabGreatDoor
open Go.RowKit

theorem u32_and1 (a : Nat) (ha : a < 4294967296) : bits .and .u32 (a : Int) 1 = ((a % 2 : Nat) : Int) := by
  have := u32_and a 1 ha (by omega)
  rw [show a &&& 1 = a % 2 from Nat.and_two_pow_sub_one_eq_mod a 1] at this
  exact this

theorem rbit_lt (c : Nat) (h : c < 4294967296) : rbit c < 4294967296 := by
  unfold rbit
  split
  · exact Nat.xor_lt_two_pow (n := 32) (by omega) (by omega)
  · omega

theorem rbits_lt : ∀ k c, c < 4294967296 → rbits k c < 4294967296
  | 0, _, h => h
  | k + 1, c, h => rbit_lt _ (rbits_lt k c h)

set_option maxHeartbeats 400000 in
theorem rsum_any (v : Value) (l : List UInt8) (w : World) (h : BR w v l) :
    Calls Tryz.prog 25 #[v] w fun e w' => e = .returned (.int .u32 (crc l : Int)) ∧ w = w' := by
  obtain ⟨a, cap, rfl, h1, h2, h3⟩ := h
  unfold maxLen at h2
  go_enter Tryz.func25, Tryz.ntmps25
  go_wp2_with fail
  go_loop [3, 4] (fun c i => ∃ k : Nat, k ≤ l.length ∧ i = .int .i64 k ∧ c = .int .u32 (crcL (l.take k) : Int)) (fun _ i => l.length - (intOf i).toNat)
  case atStart => exact ⟨0, Nat.zero_le _, rfl, rfl⟩
  case round =>
    obtain ⟨k, hk, rfl, rfl⟩ := hrel
    by_cases hlt : k < l.length
    · obtain ⟨c, hc⟩ : ∃ c, l[k]? = some c := ⟨l[k], List.getElem?_eq_getElem hlt⟩
      obtain ⟨g, o, rfl, hcell⟩ := h3 k c hc
      have HS := hide (congrArg crcL (take_succ_at l k c hc))
      obtain ⟨x, hx⟩ : ∃ x, crcL (l.take k) = x := ⟨_, rfl⟩
      have hxl := crcL_lt (l.take k)
      rw [hx] at hxl
      have HS2 : Hid (crcL (l.take (k + 1)) = crcB x c) := by
        show _ = _
        rw [HS.out, crcL_snoc, hx]
      rw [hx]
      have hcl := c.toNat_lt
      obtain ⟨d, hd⟩ : ∃ d, c.toNat = d := ⟨_, rfl⟩
      have HS4 : Hid (rbits 8 (x ^^^ d) = crcB x c) := by
        show _ = _
        rw [← hd]
        exact rbits_crc x c
      rw [hd] at hcell hcl
      have e1 := u32_xor x d hxl (by omega)
      have hy := xor8_lt x c hxl
      rw [hd] at hy
      obtain ⟨y, hy1⟩ : ∃ y, x ^^^ d = y := ⟨_, rfl⟩
      rw [hy1] at e1 hy HS4
      clear HS hx hd hy1 h3 hc
      go_wp2_with fail
      go_loop [3, 5] (fun c i => ∃ m : Nat, m ≤ 8 ∧ i = .int .i64 m ∧ c = .int .u32 (rbits m y : Int)) (fun _ i => 8 - (intOf i).toNat)
      case atStart => exact ⟨0, by omega, rfl, rfl⟩
      case round =>
        obtain ⟨m, hm, rfl, rfl⟩ := hrel
        by_cases hml : m < 8
        · have hz := rbits_lt m y hy
          have HR : Hid (rbits (m + 1) y = rbit (rbits m y)) := rfl
          obtain ⟨z, hz1⟩ : ∃ z, rbits m y = z := ⟨_, rfl⟩
          rw [hz1] at hz HR
          rw [hz1]
          clear hz1
          have e2 := u32_and1 z hz
          have e3 := u32_xor (z / 2) 3988292384 (by omega) (by omega)
          rw [show ((z / 2 : Nat) : Int) = (z : Int) / 2 by omega] at e3
          rcases Nat.mod_two_eq_zero_or_one z with hodd | hodd
          · rw [hodd] at e2
            have HB : Hid (rbit z = z / 2) := by show _ = _; unfold rbit; rw [if_neg (by omega)]
            clear hodd
            go_wp2_with fail
            go_round
            case rel => exact ⟨m + 1, by omega, by go_num, by rw [HR.out, HB.out]; rfl⟩
            case measure => simp [intOf]; omega
          · rw [hodd] at e2
            have HB : Hid (rbit z = (z / 2 ^^^ 3988292384)) := by show _ = _; unfold rbit; rw [if_pos hodd]
            clear hodd
            go_wp2_with fail
            go_round
            case rel => exact ⟨m + 1, by omega, by go_num, by rw [HR.out, HB.out]; exact congrArg (Value.int .u32) e3⟩
            case measure => simp [intOf]; omega
        · have hme : m = 8 := by omega
          subst hme
          rw [HS4.out]
          clear e1
          go_wp2_with fail
          go_round
          case rel => exact ⟨k + 1, by omega, by go_num, by rw [HS2.out]⟩
          case measure => simp [intOf]; omega
    · have hkl : l.take k = l := List.take_of_length_le (by omega)
      rw [hkl]
      have HE : Hid (bits .xor .u32 IntKind.u32.max (crcL l : Int) = (crc l : Int)) := u32_xor 4294967295 (crcL l) (by omega) (crcL_lt l)
      clear hkl
      go_wp2_with fail
      go_ret
      exact ⟨by rw [HE.out]; rfl, rfl⟩
end Go.Proofs.YtddfdpbaiedcjabGreatDoor
/- mediawireref.varint: a number as bytes, the document's answer (printed by mkrvint.py). -/
namespace Go.Proofs.YtddfdpbaiedcjabGreatDoor
open Go.RowKit

theorem rvint_length (n size : Nat) : ∀ k, (rvint n size k).length = k
  | 0 => rfl
  | k + 1 => by simp [rvint, rvint_length n size k]

set_option maxRecDepth 100000 in
set_option maxHeartbeats 1000000 in
theorem rvint_1 (v : Value) (l : List UInt8) (n : Nat) (w : World) (h : OB w v l) (hl : l.length ≤ 35184372088832) (hn2 : n < 64) :
    Calls Tryz.prog 50 #[v, .int .u64 (n : Int)] w fun e w' => ∃ v', e = .returned v' ∧ App w v l (rvint n 1 1) v' w' := by
  have d1073741824 : ¬ (1073741824 : Int) ≤ n := by omega
  have d16384 : ¬ (16384 : Int) ≤ n := by omega
  have d64 : ¬ (64 : Int) ≤ n := by omega
  obtain ⟨a, cap, rfl, _⟩ := own_form h
  have H := hide h
  clear h
  go_enter Tryz.func50, Tryz.ntmps50
  go_wp2_with fail
  have hn3 : n < 4611686018427387904 := by omega
  clear d1073741824 d16384 d64 hn2
  go_loopw [0, 7] (fun vb i wr => ∃ (j : Nat) (z : Int), j ≤ 1 ∧ z = 0 - (j : Int) ∧ i = .int .i64 z ∧ App w (.slice a l.length cap) l (rvint n 1 j) vb wr) (fun _ i _ => (intOf i + 1).toNat)
  case atStart => exact ⟨0, 0, by omega, by omega, rfl, App.refl H.out⟩
  case round =>
    obtain ⟨j, z, hj, hz, rfl, hA⟩ := hrel
    have HA := hide hA
    have hob := hA.own
    have hl2 : (l ++ rvint n 1 j).length ≤ 70368744177664 := by
      rw [List.length_append, rvint_length]
      omega
    obtain ⟨L, hL⟩ : ∃ L, l ++ rvint n 1 j = L := ⟨_, rfl⟩
    rw [hL] at hob hl2
    obtain ⟨ba, bc, rfl, _⟩ := own_form hob
    have HL := hide hL
    clear hA hL
    by_cases hlt : j < 1
    · obtain ⟨ii, hii⟩ : ∃ ii : Nat, z = (ii : Int) := ⟨z.toNat, by omega⟩
      subst hii
      have hi1 := hide (show ii + j = 0 by omega)
      have hi2 : ii ≤ 0 := by omega
      clear hz
      go_wp2_with fail
      go_loop [8, 9] (fun b k => ∃ m : Nat, m ≤ ii ∧ k = .int .i64 m ∧ b = .int .u64 ((n / 256 ^ m : Nat) : Int)) (fun _ k => ii - (intOf k).toNat)
      case atStart => exact ⟨0, Nat.zero_le _, rfl, by simp⟩
      case round =>
        obtain ⟨m, hm, rfl, rfl⟩ := hrel
        have hq : n / 256 ^ m ≤ n := Nat.div_le_self _ _
        by_cases hml : m < ii
        · have HD : Hid (n / 256 ^ m / 256 = n / 256 ^ (m + 1)) := by
            show _ = _
            rw [Nat.pow_succ, Nat.div_div_eq_div_mul]
          obtain ⟨q, hqq⟩ : ∃ q, n / 256 ^ m = q := ⟨_, rfl⟩
          rw [hqq] at HD hq
          rw [hqq]
          clear hqq
          go_wp2_with fail
          go_round
          case rel => exact ⟨m + 1, by omega, by go_num, by rw [← HD.out]; rfl⟩
          case measure => simp [intOf]; omega
        · have hme : m = ii := by omega
          subst hme
          have HV : Hid (rvint n 1 (j + 1) = rvint n 1 j ++ [rvb n 1 m]) := by
            show _ = _
            rw [show m = 1 - 1 - j by have := hi1.out; omega]
            rfl
          have hb : rvb n 1 m = UInt8.ofNat (n / 256 ^ m % 256 + (if m + 1 = 1 then 0 else 0)) := rfl
          obtain ⟨q, hqq⟩ : ∃ q, n / 256 ^ m = q := ⟨_, rfl⟩
          rw [hqq] at hb hq
          rw [hqq]
          clear hqq
          by_cases dt : m + 1 = 1
          · have hm2 : (m : Int) = 0 := by omega
            obtain ⟨v2, w2, hr2, ha2⟩ := lit1_app wr _ _ (rvb n 1 m) ((q : Int) % 256) hob (by first | (rw [hb, if_pos dt, UInt8.toNat_ofNat']; done) | (rw [hb, if_pos dt, UInt8.toNat_ofNat']; omega)) hl2
            have HA2 := hide (HA.out.trans (by rw [HL.out]; exact ha2))
            clear ha2 hb dt
            go_wp2_with (at_builtin; refine wpList_append_is rfl _ _ _ _ rfl _ _ _ rfl rfl hr2 ?_)
            go_roundw
            case rel => exact ⟨j + 1, (m : Int) - 1, by have := hi1.out; omega, by have := hi1.out; omega, by go_num, by rw [HV.out]; exact HA2.out⟩
            case measure => first | (simp [intOf]; done) | (simp [intOf]; omega)
          · exact absurd (show m + 1 = 1 by omega) dt
    · have hje : j = 1 := by omega
      subst hje
      have hz2 : z < 0 := by omega
      clear hz
      go_wp2_with fail
      go_ret
      exact ⟨_, rfl, HA.out⟩

set_option maxRecDepth 100000 in
set_option maxHeartbeats 1000000 in
theorem rvint_2 (v : Value) (l : List UInt8) (n : Nat) (w : World) (h : OB w v l) (hl : l.length ≤ 35184372088832) (hn1 : 64 ≤ n) (hn2 : n < 16384) :
    Calls Tryz.prog 50 #[v, .int .u64 (n : Int)] w fun e w' => ∃ v', e = .returned v' ∧ App w v l (rvint n 2 2) v' w' := by
  have d1073741824 : ¬ (1073741824 : Int) ≤ n := by omega
  have d16384 : ¬ (16384 : Int) ≤ n := by omega
  have d64 : (64 : Int) ≤ n := by omega
  obtain ⟨a, cap, rfl, _⟩ := own_form h
  have H := hide h
  clear h
  go_enter Tryz.func50, Tryz.ntmps50
  go_wp2_with fail
  have hn3 : n < 4611686018427387904 := by omega
  clear d1073741824 d16384 d64 hn1 hn2
  go_loopw [0, 7] (fun vb i wr => ∃ (j : Nat) (z : Int), j ≤ 2 ∧ z = 1 - (j : Int) ∧ i = .int .i64 z ∧ App w (.slice a l.length cap) l (rvint n 2 j) vb wr) (fun _ i _ => (intOf i + 1).toNat)
  case atStart => exact ⟨0, 1, by omega, by omega, rfl, App.refl H.out⟩
  case round =>
    obtain ⟨j, z, hj, hz, rfl, hA⟩ := hrel
    have HA := hide hA
    have hob := hA.own
    have hl2 : (l ++ rvint n 2 j).length ≤ 70368744177664 := by
      rw [List.length_append, rvint_length]
      omega
    obtain ⟨L, hL⟩ : ∃ L, l ++ rvint n 2 j = L := ⟨_, rfl⟩
    rw [hL] at hob hl2
    obtain ⟨ba, bc, rfl, _⟩ := own_form hob
    have HL := hide hL
    clear hA hL
    by_cases hlt : j < 2
    · obtain ⟨ii, hii⟩ : ∃ ii : Nat, z = (ii : Int) := ⟨z.toNat, by omega⟩
      subst hii
      have hi1 := hide (show ii + j = 1 by omega)
      have hi2 : ii ≤ 1 := by omega
      clear hz
      go_wp2_with fail
      go_loop [8, 9] (fun b k => ∃ m : Nat, m ≤ ii ∧ k = .int .i64 m ∧ b = .int .u64 ((n / 256 ^ m : Nat) : Int)) (fun _ k => ii - (intOf k).toNat)
      case atStart => exact ⟨0, Nat.zero_le _, rfl, by simp⟩
      case round =>
        obtain ⟨m, hm, rfl, rfl⟩ := hrel
        have hq : n / 256 ^ m ≤ n := Nat.div_le_self _ _
        by_cases hml : m < ii
        · have HD : Hid (n / 256 ^ m / 256 = n / 256 ^ (m + 1)) := by
            show _ = _
            rw [Nat.pow_succ, Nat.div_div_eq_div_mul]
          obtain ⟨q, hqq⟩ : ∃ q, n / 256 ^ m = q := ⟨_, rfl⟩
          rw [hqq] at HD hq
          rw [hqq]
          clear hqq
          go_wp2_with fail
          go_round
          case rel => exact ⟨m + 1, by omega, by go_num, by rw [← HD.out]; rfl⟩
          case measure => simp [intOf]; omega
        · have hme : m = ii := by omega
          subst hme
          have HV : Hid (rvint n 2 (j + 1) = rvint n 2 j ++ [rvb n 2 m]) := by
            show _ = _
            rw [show m = 2 - 1 - j by have := hi1.out; omega]
            rfl
          have hb : rvb n 2 m = UInt8.ofNat (n / 256 ^ m % 256 + (if m + 1 = 2 then 64 else 0)) := rfl
          obtain ⟨q, hqq⟩ : ∃ q, n / 256 ^ m = q := ⟨_, rfl⟩
          rw [hqq] at hb hq
          rw [hqq]
          clear hqq
          by_cases dt : m + 1 = 2
          · have hm2 : (m : Int) = 1 := by omega
            obtain ⟨v2, w2, hr2, ha2⟩ := lit1_app wr _ _ (rvb n 2 m) (((q : Int) + 64) % 256) hob (by first | (rw [hb, if_pos dt, UInt8.toNat_ofNat']; done) | (rw [hb, if_pos dt, UInt8.toNat_ofNat']; omega)) hl2
            have HA2 := hide (HA.out.trans (by rw [HL.out]; exact ha2))
            clear ha2 hb dt
            go_wp2_with (at_builtin; refine wpList_append_is rfl _ _ _ _ rfl _ _ _ rfl rfl hr2 ?_)
            go_roundw
            case rel => exact ⟨j + 1, (m : Int) - 1, by have := hi1.out; omega, by have := hi1.out; omega, by go_num, by rw [HV.out]; exact HA2.out⟩
            case measure => first | (simp [intOf]; done) | (simp [intOf]; omega)
          · have hm2 : ¬ (m : Int) = 1 := by omega
            obtain ⟨v2, w2, hr2, ha2⟩ := lit1_app wr _ _ (rvb n 2 m) ((q : Int) % 256) hob (by first | (rw [hb, if_neg dt, UInt8.toNat_ofNat']; done) | (rw [hb, if_neg dt, UInt8.toNat_ofNat']; omega)) hl2
            have HA2 := hide (HA.out.trans (by rw [HL.out]; exact ha2))
            clear ha2 hb dt
            go_wp2_with (at_builtin; refine wpList_append_is rfl _ _ _ _ rfl _ _ _ rfl rfl hr2 ?_)
            go_roundw
            case rel => exact ⟨j + 1, (m : Int) - 1, by have := hi1.out; omega, by have := hi1.out; omega, by go_num, by rw [HV.out]; exact HA2.out⟩
            case measure => first | (simp [intOf]; done) | (simp [intOf]; omega)
    · have hje : j = 2 := by omega
      subst hje
      have hz2 : z < 0 := by omega
      clear hz
      go_wp2_with fail
      go_ret
      exact ⟨_, rfl, HA.out⟩

set_option maxRecDepth 100000 in
set_option maxHeartbeats 1000000 in
theorem rvint_4 (v : Value) (l : List UInt8) (n : Nat) (w : World) (h : OB w v l) (hl : l.length ≤ 35184372088832) (hn1 : 16384 ≤ n) (hn2 : n < 1073741824) :
    Calls Tryz.prog 50 #[v, .int .u64 (n : Int)] w fun e w' => ∃ v', e = .returned v' ∧ App w v l (rvint n 4 4) v' w' := by
  have d1073741824 : ¬ (1073741824 : Int) ≤ n := by omega
  have d16384 : (16384 : Int) ≤ n := by omega
  have d64 : (64 : Int) ≤ n := by omega
  obtain ⟨a, cap, rfl, _⟩ := own_form h
  have H := hide h
  clear h
  go_enter Tryz.func50, Tryz.ntmps50
  go_wp2_with fail
  have hn3 : n < 4611686018427387904 := by omega
  clear d1073741824 d16384 d64 hn1 hn2
  go_loopw [0, 7] (fun vb i wr => ∃ (j : Nat) (z : Int), j ≤ 4 ∧ z = 3 - (j : Int) ∧ i = .int .i64 z ∧ App w (.slice a l.length cap) l (rvint n 4 j) vb wr) (fun _ i _ => (intOf i + 1).toNat)
  case atStart => exact ⟨0, 3, by omega, by omega, rfl, App.refl H.out⟩
  case round =>
    obtain ⟨j, z, hj, hz, rfl, hA⟩ := hrel
    have HA := hide hA
    have hob := hA.own
    have hl2 : (l ++ rvint n 4 j).length ≤ 70368744177664 := by
      rw [List.length_append, rvint_length]
      omega
    obtain ⟨L, hL⟩ : ∃ L, l ++ rvint n 4 j = L := ⟨_, rfl⟩
    rw [hL] at hob hl2
    obtain ⟨ba, bc, rfl, _⟩ := own_form hob
    have HL := hide hL
    clear hA hL
    by_cases hlt : j < 4
    · obtain ⟨ii, hii⟩ : ∃ ii : Nat, z = (ii : Int) := ⟨z.toNat, by omega⟩
      subst hii
      have hi1 := hide (show ii + j = 3 by omega)
      have hi2 : ii ≤ 3 := by omega
      clear hz
      go_wp2_with fail
      go_loop [8, 9] (fun b k => ∃ m : Nat, m ≤ ii ∧ k = .int .i64 m ∧ b = .int .u64 ((n / 256 ^ m : Nat) : Int)) (fun _ k => ii - (intOf k).toNat)
      case atStart => exact ⟨0, Nat.zero_le _, rfl, by simp⟩
      case round =>
        obtain ⟨m, hm, rfl, rfl⟩ := hrel
        have hq : n / 256 ^ m ≤ n := Nat.div_le_self _ _
        by_cases hml : m < ii
        · have HD : Hid (n / 256 ^ m / 256 = n / 256 ^ (m + 1)) := by
            show _ = _
            rw [Nat.pow_succ, Nat.div_div_eq_div_mul]
          obtain ⟨q, hqq⟩ : ∃ q, n / 256 ^ m = q := ⟨_, rfl⟩
          rw [hqq] at HD hq
          rw [hqq]
          clear hqq
          go_wp2_with fail
          go_round
          case rel => exact ⟨m + 1, by omega, by go_num, by rw [← HD.out]; rfl⟩
          case measure => simp [intOf]; omega
        · have hme : m = ii := by omega
          subst hme
          have HV : Hid (rvint n 4 (j + 1) = rvint n 4 j ++ [rvb n 4 m]) := by
            show _ = _
            rw [show m = 4 - 1 - j by have := hi1.out; omega]
            rfl
          have hb : rvb n 4 m = UInt8.ofNat (n / 256 ^ m % 256 + (if m + 1 = 4 then 128 else 0)) := rfl
          obtain ⟨q, hqq⟩ : ∃ q, n / 256 ^ m = q := ⟨_, rfl⟩
          rw [hqq] at hb hq
          rw [hqq]
          clear hqq
          by_cases dt : m + 1 = 4
          · have hm2 : (m : Int) = 3 := by omega
            obtain ⟨v2, w2, hr2, ha2⟩ := lit1_app wr _ _ (rvb n 4 m) (((q : Int) + 128) % 256) hob (by first | (rw [hb, if_pos dt, UInt8.toNat_ofNat']; done) | (rw [hb, if_pos dt, UInt8.toNat_ofNat']; omega)) hl2
            have HA2 := hide (HA.out.trans (by rw [HL.out]; exact ha2))
            clear ha2 hb dt
            go_wp2_with (at_builtin; refine wpList_append_is rfl _ _ _ _ rfl _ _ _ rfl rfl hr2 ?_)
            go_roundw
            case rel => exact ⟨j + 1, (m : Int) - 1, by have := hi1.out; omega, by have := hi1.out; omega, by go_num, by rw [HV.out]; exact HA2.out⟩
            case measure => first | (simp [intOf]; done) | (simp [intOf]; omega)
          · have hm2 : ¬ (m : Int) = 3 := by omega
            obtain ⟨v2, w2, hr2, ha2⟩ := lit1_app wr _ _ (rvb n 4 m) ((q : Int) % 256) hob (by first | (rw [hb, if_neg dt, UInt8.toNat_ofNat']; done) | (rw [hb, if_neg dt, UInt8.toNat_ofNat']; omega)) hl2
            have HA2 := hide (HA.out.trans (by rw [HL.out]; exact ha2))
            clear ha2 hb dt
            go_wp2_with (at_builtin; refine wpList_append_is rfl _ _ _ _ rfl _ _ _ rfl rfl hr2 ?_)
            go_roundw
            case rel => exact ⟨j + 1, (m : Int) - 1, by have := hi1.out; omega, by have := hi1.out; omega, by go_num, by rw [HV.out]; exact HA2.out⟩
            case measure => first | (simp [intOf]; done) | (simp [intOf]; omega)
    · have hje : j = 4 := by omega
      subst hje
      have hz2 : z < 0 := by omega
      clear hz
      go_wp2_with fail
      go_ret
      exact ⟨_, rfl, HA.out⟩

set_option maxRecDepth 100000 in
set_option maxHeartbeats 1000000 in
theorem rvint_8 (v : Value) (l : List UInt8) (n : Nat) (w : World) (h : OB w v l) (hl : l.length ≤ 35184372088832) (hn1 : 1073741824 ≤ n) (hn2 : n < 4611686018427387904) :
    Calls Tryz.prog 50 #[v, .int .u64 (n : Int)] w fun e w' => ∃ v', e = .returned v' ∧ App w v l (rvint n 8 8) v' w' := by
  have d1073741824 : (1073741824 : Int) ≤ n := by omega
  have d16384 : (16384 : Int) ≤ n := by omega
  have d64 : (64 : Int) ≤ n := by omega
  obtain ⟨a, cap, rfl, _⟩ := own_form h
  have H := hide h
  clear h
  go_enter Tryz.func50, Tryz.ntmps50
  go_wp2_with fail
  have hn3 : n < 4611686018427387904 := by omega
  clear d1073741824 d16384 d64 hn1 hn2
  go_loopw [0, 7] (fun vb i wr => ∃ (j : Nat) (z : Int), j ≤ 8 ∧ z = 7 - (j : Int) ∧ i = .int .i64 z ∧ App w (.slice a l.length cap) l (rvint n 8 j) vb wr) (fun _ i _ => (intOf i + 1).toNat)
  case atStart => exact ⟨0, 7, by omega, by omega, rfl, App.refl H.out⟩
  case round =>
    obtain ⟨j, z, hj, hz, rfl, hA⟩ := hrel
    have HA := hide hA
    have hob := hA.own
    have hl2 : (l ++ rvint n 8 j).length ≤ 70368744177664 := by
      rw [List.length_append, rvint_length]
      omega
    obtain ⟨L, hL⟩ : ∃ L, l ++ rvint n 8 j = L := ⟨_, rfl⟩
    rw [hL] at hob hl2
    obtain ⟨ba, bc, rfl, _⟩ := own_form hob
    have HL := hide hL
    clear hA hL
    by_cases hlt : j < 8
    · obtain ⟨ii, hii⟩ : ∃ ii : Nat, z = (ii : Int) := ⟨z.toNat, by omega⟩
      subst hii
      have hi1 := hide (show ii + j = 7 by omega)
      have hi2 : ii ≤ 7 := by omega
      clear hz
      go_wp2_with fail
      go_loop [8, 9] (fun b k => ∃ m : Nat, m ≤ ii ∧ k = .int .i64 m ∧ b = .int .u64 ((n / 256 ^ m : Nat) : Int)) (fun _ k => ii - (intOf k).toNat)
      case atStart => exact ⟨0, Nat.zero_le _, rfl, by simp⟩
      case round =>
        obtain ⟨m, hm, rfl, rfl⟩ := hrel
        have hq : n / 256 ^ m ≤ n := Nat.div_le_self _ _
        by_cases hml : m < ii
        · have HD : Hid (n / 256 ^ m / 256 = n / 256 ^ (m + 1)) := by
            show _ = _
            rw [Nat.pow_succ, Nat.div_div_eq_div_mul]
          obtain ⟨q, hqq⟩ : ∃ q, n / 256 ^ m = q := ⟨_, rfl⟩
          rw [hqq] at HD hq
          rw [hqq]
          clear hqq
          go_wp2_with fail
          go_round
          case rel => exact ⟨m + 1, by omega, by go_num, by rw [← HD.out]; rfl⟩
          case measure => simp [intOf]; omega
        · have hme : m = ii := by omega
          subst hme
          have HV : Hid (rvint n 8 (j + 1) = rvint n 8 j ++ [rvb n 8 m]) := by
            show _ = _
            rw [show m = 8 - 1 - j by have := hi1.out; omega]
            rfl
          have hb : rvb n 8 m = UInt8.ofNat (n / 256 ^ m % 256 + (if m + 1 = 8 then 192 else 0)) := rfl
          obtain ⟨q, hqq⟩ : ∃ q, n / 256 ^ m = q := ⟨_, rfl⟩
          rw [hqq] at hb hq
          rw [hqq]
          clear hqq
          by_cases dt : m + 1 = 8
          · have hm2 : (m : Int) = 7 := by omega
            obtain ⟨v2, w2, hr2, ha2⟩ := lit1_app wr _ _ (rvb n 8 m) (((q : Int) + 192) % 256) hob (by first | (rw [hb, if_pos dt, UInt8.toNat_ofNat']; done) | (rw [hb, if_pos dt, UInt8.toNat_ofNat']; omega)) hl2
            have HA2 := hide (HA.out.trans (by rw [HL.out]; exact ha2))
            clear ha2 hb dt
            go_wp2_with (at_builtin; refine wpList_append_is rfl _ _ _ _ rfl _ _ _ rfl rfl hr2 ?_)
            go_roundw
            case rel => exact ⟨j + 1, (m : Int) - 1, by have := hi1.out; omega, by have := hi1.out; omega, by go_num, by rw [HV.out]; exact HA2.out⟩
            case measure => first | (simp [intOf]; done) | (simp [intOf]; omega)
          · have hm2 : ¬ (m : Int) = 7 := by omega
            obtain ⟨v2, w2, hr2, ha2⟩ := lit1_app wr _ _ (rvb n 8 m) ((q : Int) % 256) hob (by first | (rw [hb, if_neg dt, UInt8.toNat_ofNat']; done) | (rw [hb, if_neg dt, UInt8.toNat_ofNat']; omega)) hl2
            have HA2 := hide (HA.out.trans (by rw [HL.out]; exact ha2))
            clear ha2 hb dt
            go_wp2_with (at_builtin; refine wpList_append_is rfl _ _ _ _ rfl _ _ _ rfl rfl hr2 ?_)
            go_roundw
            case rel => exact ⟨j + 1, (m : Int) - 1, by have := hi1.out; omega, by have := hi1.out; omega, by go_num, by rw [HV.out]; exact HA2.out⟩
            case measure => first | (simp [intOf]; done) | (simp [intOf]; omega)
    · have hje : j = 8 := by omega
      subst hje
      have hz2 : z < 0 := by omega
      clear hz
      go_wp2_with fail
      go_ret
      exact ⟨_, rfl, HA.out⟩

theorem rvint_any (v : Value) (l : List UInt8) (n : Nat) (w : World) (h : OB w v l) (hl : l.length ≤ 35184372088832) (hn : n < 4611686018427387904) :
    Calls Tryz.prog 50 #[v, .int .u64 (n : Int)] w fun e w' => ∃ v', e = .returned v' ∧ App w v l (vint n) v' w' := by
  rw [← rvint_vint n hn]
  unfold rsize
  by_cases h3 : 1073741824 ≤ n
  · rw [if_pos h3]
    exact rvint_8 v l n w h hl h3 hn
  · rw [if_neg h3]
    by_cases h2 : 16384 ≤ n
    · rw [if_pos h2]
      exact rvint_4 v l n w h hl h2 (by omega)
    · rw [if_neg h2]
      by_cases h1 : 64 ≤ n
      · rw [if_pos h1]
        exact rvint_2 v l n w h hl h1 (by omega)
      · rw [if_neg h1]
        exact rvint_1 v l n w h hl (by omega)
end Go.Proofs.YtddfdpbaiedcjabGreatDoor
/- append of bytes onto nothing. -/
namespace Go.Proofs.YtddfdpbaiedcjabGreatDoor
open Go.RowKit

/-- append of bytes onto nothing: a copy. -/
theorem bs_copy (w : World) (v : Value) (l : List UInt8) (h : BR w v l) (hl : l.length ≤ 70368744177664) :
    ∃ v' w', (∀ ty, (Builtin.append_ #[44, 44] ty #[.slice none 0 0, v]).run Tryz.prog w = .ok v' w') ∧ OB w' v' l ∧ Mod NoB w w' ∧ (∀ g, v'.ownBlock = some g → w.heap.size ≤ g) := by
  obtain ⟨i, hi1, hz, hz1, hz2⟩ := info_parts info_u8
  obtain ⟨a, cap, rfl, h1, h2, h3⟩ := id h
  by_cases h0 : l.length = 0
  · have hrs : l = [] := List.eq_nil_of_length_eq_zero h0
    subst hrs
    cases a with
    | none =>
      refine ⟨.slice none 0 0, w, fun ty => ?_, OB.nil w, Mod.refl _ _, fun g hg => by cases hg⟩
      simp [Builtin.append_, run_underlying Tryz.underlying44, sizeOf, typeInfo, hi1, Builtin.lenOf, Builtin.firstCells, loadCells, loadCellsFrom]
    | some a =>
      obtain ⟨v', w', k1, k2, k3, k4⟩ := run_append_owned_at (P := Tryz.prog) w 44 5 i (.int .u8 0) 1 1 Tryz.underlying44 hi1 hz hz1 hz2 rfl (by decide) (.slice none 0 0) 0 [] (World.ownsRow_nil w 0 _ 1)
        a 0 cap [] rfl (by intro j u hu; cases hu) (by intro u hu; cases hu) (by unfold maxLen; omega) (by omega)
      exact ⟨v', w', k1, k2, (Mod.refl _ w).grown k3 (fun k hk => by cases hk), fun g hg => (k4 g hg).elim (fun x => by cases x) id⟩
  · obtain ⟨g, o, rfl, _⟩ := h3 0 l[0] (List.getElem?_eq_getElem (by omega))
    obtain ⟨v', w', k1, k2, k3, k4⟩ := run_append_owned_at (P := Tryz.prog) w 44 5 i (.int .u8 0) 1 1 Tryz.underlying44 hi1 hz hz1 hz2 rfl (by decide) (.slice none 0 0) 0 [] (World.ownsRow_nil w 0 _ 1)
      ⟨g, o, none⟩ l.length cap (bcells l) (by rw [bcells_length, Nat.mul_one]) (by
        intro j u hu
        simp only [bcells, List.getElem?_map, Option.map_eq_some_iff] at hu
        obtain ⟨c, hc, rfl⟩ := hu
        obtain ⟨g', o', e, hh⟩ := h3 j c hc
        cases e
        rw [addr_add]
        exact hh) (bcells_one l) (by unfold maxLen; omega) (by omega)
    refine ⟨v', w', k1, ?_, (Mod.refl _ w).grown k3 (fun k hk => by cases hk), fun g hg => (k4 g hg).elim (fun x => by cases x) id⟩
    rw [Nat.zero_add, List.nil_append] at k2
    exact k2

end Go.Proofs.YtddfdpbaiedcjabGreatDoor
/- mediawireref.Sealed: the bytes with their sum behind them. -/
namespace Go.Proofs.YtddfdpbaiedcjabGreatDoor
open Go.RowKit

set_option maxRecDepth 100000 in
theorem rsealed_any (v : Value) (l : List UInt8) (w : World) (h : BR w v l) (hl : l.length ≤ 35184372088832) :
    Calls Tryz.prog 10 #[v] w fun e w' => ∃ v', e = .returned v' ∧ OB w' v' (l ++ sum4 (crc l)) ∧ Mod NoB w w' ∧ ∀ g, v'.ownBlock = some g → w.heap.size ≤ g := by
  have hsum := rsum_any v l w h
  have hc := crc_lt l
  obtain ⟨v1, W1, hr1, own1, m1, hn1⟩ := bs_copy w v l h (by omega)
  obtain ⟨s, hs⟩ : ∃ s, crc l = s := ⟨_, rfl⟩
  rw [hs] at hsum hc
  rw [hs]
  obtain ⟨v', w', hr, happ⟩ := lit_app W1 v1 l (sum4 s) #[.int .u8 ((s : Int) / 16777216), .int .u8 ((s : Int) / 65536 % 256), .int .u8 ((s : Int) / 256 % 256), .int .u8 ((s : Int) % 256)] 4 own1 (by
    simp only [sum4, bcells, List.map_cons, List.map_nil, u8_cell]
    simp
    omega) rfl (by omega)
  obtain ⟨a, cap, rfl, _⟩ := h
  obtain ⟨xa, xc, rfl, _⟩ := own_form own1
  have H := hide happ
  have M1 := hide m1
  clear happ hs m1 own1
  go_enter Tryz.func10, Tryz.ntmps10
  go_wp2_with (first | (go_at_call 25; refine hsum.mono ?_; rintro e w' ⟨rfl, rfl⟩) | (at_builtin; first | (refine wpList_append_is rfl _ _ _ _ rfl _ _ _ rfl rfl hr1 ?_; clear hr1) | (refine wpList_append_is rfl _ _ _ _ rfl _ _ _ rfl rfl hr ?_)))
  go_ret
  refine ⟨_, rfl, H.out.own, M1.out.then H.out.mod (fun i hi => .inr (hn1 i hi)), fun g hg => ?_⟩
  rcases H.out.at_ g hg with x | x
  · exact hn1 g x
  · have := M1.out.size
    omega
end Go.Proofs.YtddfdpbaiedcjabGreatDoor
/- mediawireref.sound: can the frame be written? (printed by mkrsound.py) -/
namespace Go.Proofs.YtddfdpbaiedcjabGreatDoor
open Go.RowKit

theorem soundF_num {f : Frm} (h : numsOk f = false) : soundF f = false := by
  unfold soundF
  rw [h, Bool.false_and, Bool.false_and]

theorem soundF_str {f : Frm} (h : strOk f = false) : soundF f = false := by
  unfold soundF
  rw [h, Bool.and_false, Bool.false_and]

theorem soundF_rest {f : Frm} (h1 : numsOk f = true) (h2 : strOk f = true) : soundF f = soundC f := by
  unfold soundF
  rw [h1, h2, Bool.true_and, Bool.true_and]

set_option maxRecDepth 100000 in
theorem rsound_off (f : Frm) (rv : Value) (w : World)  (h : 4611686018427387903 < f.off) : Calls Tryz.prog 29 #[.agg (frCells f rv)] w (Says w (soundF f)) := by
  have HF := hide (soundF_num (numsOk_false (k := 0) (by omega) h))
  have d : (4611686018427387903 : Int) < f.off := by omega
  unfold frCells
  go_enter Tryz.func29, Tryz.ntmps29
  go_wp2_with fail
  go_ret
  exact ⟨by rw [HF.out]; rfl, ((Mod.refl _ _).alloc _)⟩

set_option maxRecDepth 100000 in
theorem rsound_rel (f : Frm) (rv : Value) (w : World) (hoff : ¬ 4611686018427387903 < f.off) (h : 4611686018427387903 < f.rel) : Calls Tryz.prog 29 #[.agg (frCells f rv)] w (Says w (soundF f)) := by
  have HF := hide (soundF_num (numsOk_false (k := 1) (by omega) h))
  have doff : ¬ (4611686018427387903 : Int) < f.off := by omega
  have d : (4611686018427387903 : Int) < f.rel := by omega
  unfold frCells
  go_enter Tryz.func29, Tryz.ntmps29
  go_wp2_with fail
  go_ret
  exact ⟨by rw [HF.out]; rfl, ((Mod.refl _ _).alloc _)⟩

set_option maxRecDepth 100000 in
theorem rsound_lim (f : Frm) (rv : Value) (w : World) (hoff : ¬ 4611686018427387903 < f.off) (hrel : ¬ 4611686018427387903 < f.rel) (h : 4611686018427387903 < f.lim) : Calls Tryz.prog 29 #[.agg (frCells f rv)] w (Says w (soundF f)) := by
  have HF := hide (soundF_num (numsOk_false (k := 2) (by omega) h))
  have doff : ¬ (4611686018427387903 : Int) < f.off := by omega
  have drel : ¬ (4611686018427387903 : Int) < f.rel := by omega
  have d : (4611686018427387903 : Int) < f.lim := by omega
  unfold frCells
  go_enter Tryz.func29, Tryz.ntmps29
  go_wp2_with fail
  go_ret
  exact ⟨by rw [HF.out]; rfl, ((Mod.refl _ _).alloc _)⟩

set_option maxRecDepth 100000 in
theorem rsound_id (f : Frm) (rv : Value) (w : World) (hoff : ¬ 4611686018427387903 < f.off) (hrel : ¬ 4611686018427387903 < f.rel) (hlim : ¬ 4611686018427387903 < f.lim) (h : 4611686018427387903 < f.id) : Calls Tryz.prog 29 #[.agg (frCells f rv)] w (Says w (soundF f)) := by
  have HF := hide (soundF_num (numsOk_false (k := 3) (by omega) h))
  have doff : ¬ (4611686018427387903 : Int) < f.off := by omega
  have drel : ¬ (4611686018427387903 : Int) < f.rel := by omega
  have dlim : ¬ (4611686018427387903 : Int) < f.lim := by omega
  have d : (4611686018427387903 : Int) < f.id := by omega
  unfold frCells
  go_enter Tryz.func29, Tryz.ntmps29
  go_wp2_with fail
  go_ret
  exact ⟨by rw [HF.out]; rfl, ((Mod.refl _ _).alloc _)⟩

set_option maxRecDepth 100000 in
theorem rsound_dl (f : Frm) (rv : Value) (w : World) (hoff : ¬ 4611686018427387903 < f.off) (hrel : ¬ 4611686018427387903 < f.rel) (hlim : ¬ 4611686018427387903 < f.lim) (hid : ¬ 4611686018427387903 < f.id) (h : 4611686018427387903 < f.dl) : Calls Tryz.prog 29 #[.agg (frCells f rv)] w (Says w (soundF f)) := by
  have HF := hide (soundF_num (numsOk_false (k := 4) (by omega) h))
  have doff : ¬ (4611686018427387903 : Int) < f.off := by omega
  have drel : ¬ (4611686018427387903 : Int) < f.rel := by omega
  have dlim : ¬ (4611686018427387903 : Int) < f.lim := by omega
  have did : ¬ (4611686018427387903 : Int) < f.id := by omega
  have d : (4611686018427387903 : Int) < f.dl := by omega
  unfold frCells
  go_enter Tryz.func29, Tryz.ntmps29
  go_wp2_with fail
  go_ret
  exact ⟨by rw [HF.out]; rfl, ((Mod.refl _ _).alloc _)⟩

set_option maxRecDepth 100000 in
theorem rsound_neg (f : Frm) (rv : Value) (w : World) (hoff : ¬ 4611686018427387903 < f.off) (hrel : ¬ 4611686018427387903 < f.rel) (hlim : ¬ 4611686018427387903 < f.lim) (hid : ¬ 4611686018427387903 < f.id) (hdl : ¬ 4611686018427387903 < f.dl) (h : f.stream < 0) : Calls Tryz.prog 29 #[.agg (frCells f rv)] w (Says w (soundF f)) := by
  have HF := hide (soundF_str (f := f) (by simp [strOk]; omega))
  have doff : ¬ (4611686018427387903 : Int) < f.off := by omega
  have drel : ¬ (4611686018427387903 : Int) < f.rel := by omega
  have dlim : ¬ (4611686018427387903 : Int) < f.lim := by omega
  have did : ¬ (4611686018427387903 : Int) < f.id := by omega
  have ddl : ¬ (4611686018427387903 : Int) < f.dl := by omega
  unfold frCells
  go_enter Tryz.func29, Tryz.ntmps29
  go_wp2_with fail
  go_ret
  exact ⟨by rw [HF.out]; rfl, ((Mod.refl _ _).alloc _)⟩

set_option maxRecDepth 100000 in
theorem rsound_big (f : Frm) (rv : Value) (w : World) (hoff : ¬ 4611686018427387903 < f.off) (hrel : ¬ 4611686018427387903 < f.rel) (hlim : ¬ 4611686018427387903 < f.lim) (hid : ¬ 4611686018427387903 < f.id) (hdl : ¬ 4611686018427387903 < f.dl) (h : 8 ≤ f.stream) : Calls Tryz.prog 29 #[.agg (frCells f rv)] w (Says w (soundF f)) := by
  have HF := hide (soundF_str (f := f) (by simp [strOk]; omega))
  have doff : ¬ (4611686018427387903 : Int) < f.off := by omega
  have drel : ¬ (4611686018427387903 : Int) < f.rel := by omega
  have dlim : ¬ (4611686018427387903 : Int) < f.lim := by omega
  have did : ¬ (4611686018427387903 : Int) < f.id := by omega
  have ddl : ¬ (4611686018427387903 : Int) < f.dl := by omega
  have dn : ¬ f.stream < 0 := by omega
  unfold frCells
  go_enter Tryz.func29, Tryz.ntmps29
  go_wp2_with fail
  go_ret
  exact ⟨by rw [HF.out]; rfl, ((Mod.refl _ _).alloc _)⟩

set_option maxRecDepth 100000 in
theorem rsound_3 (f : Frm) (rv : Value) (w : World) (hoff : ¬ 4611686018427387903 < f.off) (hrel : ¬ 4611686018427387903 < f.rel) (hlim : ¬ 4611686018427387903 < f.lim) (hid : ¬ 4611686018427387903 < f.id) (hdl : ¬ 4611686018427387903 < f.dl) (hn : ¬ f.stream < 0) (h8 : ¬ 8 ≤ f.stream) (hk : f.kind = 3) : Calls Tryz.prog 29 #[.agg (frCells f rv)] w (Says w (soundF f)) := by
  have doff : ¬ (4611686018427387903 : Int) < f.off := by omega
  have drel : ¬ (4611686018427387903 : Int) < f.rel := by omega
  have dlim : ¬ (4611686018427387903 : Int) < f.lim := by omega
  have did : ¬ (4611686018427387903 : Int) < f.id := by omega
  have ddl : ¬ (4611686018427387903 : Int) < f.dl := by omega
  have dn : ¬ f.stream < 0 := by omega
  have db : ¬ 8 ≤ f.stream := by omega
  have HR := hide (soundF_rest (f := f) (by simp [numsOk, nums]; omega) (by simp [strOk]; omega))
  have HC : Hid (soundC f = decide (f.rel ≤ f.off)) := by show _ = _; simp [soundC, hk]
  unfold frCells
  go_enter Tryz.func29, Tryz.ntmps29
  go_wp2_with fail
  go_ret
  exact ⟨by rw [HR.out, HC.out]; rfl, ((Mod.refl _ _).alloc _)⟩

set_option maxRecDepth 100000 in
theorem rsound_4 (f : Frm) (rv : Value) (w : World) (hoff : ¬ 4611686018427387903 < f.off) (hrel : ¬ 4611686018427387903 < f.rel) (hlim : ¬ 4611686018427387903 < f.lim) (hid : ¬ 4611686018427387903 < f.id) (hdl : ¬ 4611686018427387903 < f.dl) (hn : ¬ f.stream < 0) (h8 : ¬ 8 ≤ f.stream) (hk : f.kind = 4) (hd : f.data.length ≤ 35184372088832) : Calls Tryz.prog 29 #[.agg (frCells f rv)] w (Says w (soundF f)) := by
  have doff : ¬ (4611686018427387903 : Int) < f.off := by omega
  have drel : ¬ (4611686018427387903 : Int) < f.rel := by omega
  have dlim : ¬ (4611686018427387903 : Int) < f.lim := by omega
  have did : ¬ (4611686018427387903 : Int) < f.id := by omega
  have ddl : ¬ (4611686018427387903 : Int) < f.dl := by omega
  have dn : ¬ f.stream < 0 := by omega
  have db : ¬ 8 ≤ f.stream := by omega
  have HR := hide (soundF_rest (f := f) (by simp [numsOk, nums]; omega) (by simp [strOk]; omega))
  have HC : Hid (soundC f = decide ((f.data.length : Int) ≤ 4611686018427387903 - f.off)) := by show _ = _; simp [soundC, hk]; omega
  have hz := strOf_size f.data
  have hzm : (strOf f.data).size ≤ 9223372036854775807 := by omega
  rw [← hz] at HC
  unfold frCells
  go_enter Tryz.func29, Tryz.ntmps29
  go_wp2_with fail
  go_ret
  exact ⟨by rw [HR.out, HC.out]; rfl, ((Mod.refl _ _).alloc _)⟩

set_option maxRecDepth 100000 in
theorem rsound_rest (f : Frm) (rv : Value) (w : World) (hoff : ¬ 4611686018427387903 < f.off) (hrel : ¬ 4611686018427387903 < f.rel) (hlim : ¬ 4611686018427387903 < f.lim) (hid : ¬ 4611686018427387903 < f.id) (hdl : ¬ 4611686018427387903 < f.dl) (hn : ¬ f.stream < 0) (h8 : ¬ 8 ≤ f.stream) (h2 : f.kind ≠ 2) (h3 : f.kind ≠ 3) (h4 : f.kind ≠ 4) : Calls Tryz.prog 29 #[.agg (frCells f rv)] w (Says w (soundF f)) := by
  have doff : ¬ (4611686018427387903 : Int) < f.off := by omega
  have drel : ¬ (4611686018427387903 : Int) < f.rel := by omega
  have dlim : ¬ (4611686018427387903 : Int) < f.lim := by omega
  have did : ¬ (4611686018427387903 : Int) < f.id := by omega
  have ddl : ¬ (4611686018427387903 : Int) < f.dl := by omega
  have dn : ¬ f.stream < 0 := by omega
  have db : ¬ 8 ≤ f.stream := by omega
  have HR := hide (soundF_rest (f := f) (by simp [numsOk, nums]; omega) (by simp [strOk]; omega))
  have k2 : ¬ f.kind = 2 := h2
  have k3 : ¬ f.kind = 3 := h3
  have k4 : ¬ f.kind = 4 := h4
  have HC : Hid (soundC f = (decide (1 ≤ f.kind) && decide (f.kind ≤ 8))) := by show _ = _; simp [soundC, h2, h3, h4]
  by_cases a1 : 1 ≤ f.kind
  · by_cases a2 : f.kind ≤ 8
    · unfold frCells
      go_enter Tryz.func29, Tryz.ntmps29
      go_wp2_with fail
      go_ret
      exact ⟨by rw [HR.out, HC.out]; simp [a1, a2], ((Mod.refl _ _).alloc _)⟩
    · unfold frCells
      go_enter Tryz.func29, Tryz.ntmps29
      go_wp2_with fail
      go_ret
      exact ⟨by rw [HR.out, HC.out]; simp [a1, a2], ((Mod.refl _ _).alloc _)⟩
  · unfold frCells
    go_enter Tryz.func29, Tryz.ntmps29
    go_wp2_with fail
    go_ret
    exact ⟨by rw [HR.out, HC.out]; simp [a1]; omega, ((Mod.refl _ _).alloc _)⟩

set_option maxRecDepth 100000 in
set_option maxHeartbeats 1000000 in
theorem rsound_2 (f : Frm) (a : Option Addr) (c : Nat) (w : World) (hoff : ¬ 4611686018427387903 < f.off) (hrel : ¬ 4611686018427387903 < f.rel) (hlim : ¬ 4611686018427387903 < f.lim) (hid : ¬ 4611686018427387903 < f.id) (hdl : ¬ 4611686018427387903 < f.dl) (hn : ¬ f.stream < 0) (h8 : ¬ 8 ≤ f.stream) (hk : f.kind = 2) (hr : RR w (.slice a f.rngs.length c) f.rngs) (hb : f.rngs.length ≤ 1099511627776) : Calls Tryz.prog 29 #[.agg (frCells f (.slice a f.rngs.length c))] w (Says w (soundF f)) := by
  have doff : ¬ (4611686018427387903 : Int) < f.off := by omega
  have drel : ¬ (4611686018427387903 : Int) < f.rel := by omega
  have dlim : ¬ (4611686018427387903 : Int) < f.lim := by omega
  have did : ¬ (4611686018427387903 : Int) < f.id := by omega
  have ddl : ¬ (4611686018427387903 : Int) < f.dl := by omega
  have dn : ¬ f.stream < 0 := by omega
  have db : ¬ 8 ≤ f.stream := by omega
  have HR := hide (soundF_rest (f := f) (by simp [numsOk, nums]; omega) (by simp [strOk]; omega))
  have HC : Hid (soundC f = soundRs f.rngs) := by show _ = _; simp [soundC, hk]
  have hf : FrameAt (w.alloc (.cells (frCells f (.slice a f.rngs.length c)) 48)) w.heap.size f (.slice a f.rngs.length c) := heap_alloc_new w _
  have m0 : Mod NoB w (w.alloc (.cells (frCells f (.slice a f.rngs.length c)) 48)) := (Mod.refl _ _).alloc _
  obtain ⟨W0, hW0⟩ : ∃ W0, w.alloc (.cells (frCells f (.slice a f.rngs.length c)) 48) = W0 := ⟨_, rfl⟩
  rw [hW0] at hf m0
  have c9 := hf.cells.2.2.2.2.2.2.2.2.2
  have hr0 := hr.mod m0 (OffS.no _)
  obtain ⟨a', c', hv, h1, h2, _⟩ := id hr
  cases hv
  unfold maxLen at h2
  unfold frCells at hW0
  rw [hk] at hW0
  have HW0 := hide hW0
  have M0 := hide m0
  have HK := hide hk
  have hcells := hf.cells
  clear hW0 m0 hr
  obtain ⟨k0, k1, k2, k3, k4, k5, k6, k7, k8, k9⟩ := hcells
  clear k1 k2 k3 k4 k5 k6 k7 k8 k9
  unfold frCells
  go_enter Tryz.func29, Tryz.ntmps29
  go_wp2_with fail
  rw [HW0.out]
  clear hk doff drel dlim did ddl dn db hoff hrel hlim hid hdl hn h8
  go_loopw [3] (fun i wr => ∃ k : Nat, k ≤ f.rngs.length ∧ i = .int .i64 k ∧ okTo f.rngs k = true ∧ Mod NoB W0 wr) (fun i _ => f.rngs.length - (intOf i).toNat)
  case atStart => exact ⟨0, Nat.zero_le _, rfl, rfl, Mod.refl _ _⟩
  case round =>
    obtain ⟨k, hk, rfl, hok, hm⟩ := hrel
    have Hok := hide hok
    clear hok
    by_cases hlt : k < f.rngs.length
    · obtain ⟨a', cap', hv, _, _, h3⟩ := hr0.mod hm (OffS.no _)
      cases hv
      obtain ⟨g, o, rfl, e1, e2, b1, b2⟩ := h3 k hlt
      have e3 : 0 < k → wr.cell? ⟨g, o + (k - 1) * 2, none⟩ = some (.int .u64 (loAt f.rngs (k - 1) : Int)) ∧ loAt f.rngs (k - 1) < 18446744073709551616 := fun h0 => by
        obtain ⟨g', o', hg, e3, _, b3, _⟩ := h3 (k - 1) (by omega)
        cases hg
        exact ⟨e3, b3⟩
      have c9r := (hf.mod hm (fun x => x)).cells.2.2.2.2.2.2.2.2.2
      have hbl := lt_of_cell c9r
      have hgl := lt_of_cell e1
      have HS := hide (okTo_succ f.rngs k)
      have HF := hide (fun h => (HR.out.trans HC.out).trans (okTo_false (rs := f.rngs) hlt h))
      have HA : Hid (okAt f.rngs k = (decide (loAt f.rngs k ≤ hiAt f.rngs k) && decide (hiAt f.rngs k ≤ 4611686018427387903) && (decide (k = 0) || (decide (2 ≤ loAt f.rngs (k - 1)) && decide (hiAt f.rngs k + 2 ≤ loAt f.rngs (k - 1)))))) := rfl
      obtain ⟨lo, hlo⟩ : ∃ x, loAt f.rngs k = x := ⟨_, rfl⟩
      obtain ⟨hi, hhi⟩ : ∃ x, hiAt f.rngs k = x := ⟨_, rfl⟩
      obtain ⟨pl, hpl⟩ : ∃ x, loAt f.rngs (k - 1) = x := ⟨_, rfl⟩
      rw [hlo, hhi, hpl] at HA
      rw [hlo] at e1 b1
      rw [hhi] at e2 b2
      rw [hpl] at e3
      clear hlo hhi hpl h3 hr0
      clear hf c9
      by_cases d1 : hi < lo
      · have hd1 : decide (hi < lo) = true := by simpa using d1
        go_wp2_with fail
        go_quiet (fail)
        go_wp2_with fail
        go_ret
        exact ⟨by rw [HF.out (by rw [HA.out]; simp; omega)]; rfl, M0.out.trans ((hm.alloc _).drewN _)⟩
      · have hd1 : decide (hi < lo) = false := by simpa using d1
        by_cases d2 : (4611686018427387903 : Int) < hi
        · have hd2 : decide ((4611686018427387903 : Int) < hi) = true := by simpa using d2
          go_wp2_with fail
          go_quiet (fail)
          go_wp2_with fail
          go_ret
          exact ⟨by rw [HF.out (by rw [HA.out]; simp; omega)]; rfl, M0.out.trans ((hm.alloc _).drewN _)⟩
        · have hd2 : decide ((4611686018427387903 : Int) < hi) = false := by simpa using d2
          by_cases d3 : 0 < k
          · have hd3 : decide (0 < k) = true := by simpa using d3
            obtain ⟨e4, b4⟩ := e3 (by omega)
            have s1 : IntKind.i64.wrap ((k : Int) - 1) = (k : Int) - 1 := IntWalk.i64_in _ (by omega)
            have s2 : ((k : Int) - 1).toNat = k - 1 := by omega
            have s3 : 0 ≤ (k : Int) - 1 := by omega
            have s4 : (k : Int) - 1 < f.rngs.length := by omega
            clear e3
            by_cases d4 : (pl : Int) < 2
            · have hd4 : decide ((pl : Int) < 2) = true := by simpa using d4
              go_wp2_with fail
              go_quiet (fail)
              go_wp2_with fail
              go_ret
              exact ⟨by rw [HF.out (by rw [HA.out]; simp; omega)]; rfl, M0.out.trans ((hm.alloc _).drewN _)⟩
            · have hd4 : decide ((pl : Int) < 2) = false := by simpa using d4
              have s5 : IntKind.u64.wrap ((pl : Int) - 2) = (pl : Int) - 2 := by rw [IntKind.wrap_u64]; omega
              by_cases d5 : (pl : Int) - 2 < hi
              · have hd5 : decide ((pl : Int) - 2 < hi) = true := by simpa using d5
                go_wp2_with fail
                go_quiet (fail)
                go_wp2_with fail
                go_ret
                exact ⟨by rw [HF.out (by rw [HA.out]; simp; omega)]; rfl, M0.out.trans ((hm.alloc _).drewN _)⟩
              · have hd5 : decide ((pl : Int) - 2 < hi) = false := by simpa using d5
                go_wp2_with fail
                go_quiet (fail)
                go_wp2_with fail
                go_roundw
                case rel => exact ⟨k + 1, by omega, by go_num, by rw [HS.out, Hok.out, HA.out]; simp; omega, (hm.alloc _).drewN _⟩
                case measure => simp [intOf]; omega
          · have hd3 : decide (0 < k) = false := by simpa using d3
            clear e3
            go_wp2_with fail
            go_quiet (fail)
            go_wp2_with fail
            go_roundw
            case rel => exact ⟨k + 1, by omega, by go_num, by rw [HS.out, Hok.out, HA.out]; simp; omega, (hm.alloc _).drewN _⟩
            case measure => simp [intOf]; omega
    · have hkn : k = f.rngs.length := by omega
      have HE : Hid (soundRs f.rngs = decide (0 < f.rngs.length)) := by
        show _ = _
        unfold soundRs
        have := Hok.out
        rw [hkn] at this
        rw [this]
        simp
      have c9r := (hf.mod hm (fun x => x)).cells.2.2.2.2.2.2.2.2.2
      clear hkn
      go_wp2_with fail
      go_ret
      exact ⟨by rw [HR.out, HC.out, HE.out]; rfl, M0.out.trans hm⟩

theorem rsound_any (f : Frm) (a : Option Addr) (c : Nat) (w : World) (hr : RR w (.slice a f.rngs.length c) f.rngs) (hb : f.rngs.length ≤ 1099511627776) (hd : f.data.length ≤ 35184372088832) :
    Calls Tryz.prog 29 #[.agg (frCells f (.slice a f.rngs.length c))] w (Says w (soundF f)) := by
  by_cases h0 : 4611686018427387903 < f.off
  · exact rsound_off f _ w h0
  by_cases h1 : 4611686018427387903 < f.rel
  · exact rsound_rel f _ w h0 h1
  by_cases h2 : 4611686018427387903 < f.lim
  · exact rsound_lim f _ w h0 h1 h2
  by_cases h3 : 4611686018427387903 < f.id
  · exact rsound_id f _ w h0 h1 h2 h3
  by_cases h4 : 4611686018427387903 < f.dl
  · exact rsound_dl f _ w h0 h1 h2 h3 h4
  by_cases h5 : f.stream < 0
  · exact rsound_neg f _ w h0 h1 h2 h3 h4 h5
  by_cases h6 : 8 ≤ f.stream
  · exact rsound_big f _ w h0 h1 h2 h3 h4 h6
  by_cases k2 : f.kind = 2
  · exact rsound_2 f a c w h0 h1 h2 h3 h4 h5 h6 k2 hr hb
  by_cases k3 : f.kind = 3
  · exact rsound_3 f _ w h0 h1 h2 h3 h4 h5 h6 k3
  by_cases k4 : f.kind = 4
  · exact rsound_4 f _ w h0 h1 h2 h3 h4 h5 h6 k4 hd
  exact rsound_rest f _ w h0 h1 h2 h3 h4 h5 h6 k2 k3 k4

end Go.Proofs.YtddfdpbaiedcjabGreatDoor
