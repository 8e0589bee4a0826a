/- mediawirekeep.Returned: the walk. -/
import Derived.Test.YtddfdpbaiedcjaaDoorPlain2
import Derived.Test.YtddfdpbaiedcjaaDoorKPickD
namespace Go.Proofs.YtddfdpbaiedcjaaDoor
open Go.RowKit

theorem all_okF {n : Nat} {l : List Frm} (h : okF n l = true) : 0 < l.length ∧ n ≤ 4611686018427387903 ∧ ∀ f ∈ l, soundF f = true := by
  simp only [okF, Bool.and_eq_true, decide_eq_true_eq, List.all_eq_true] at h
  exact ⟨h.1.1, h.1.2, h.2⟩

theorem okF_canon {n : Nat} {l : List Frm} (h : okF n l = true) : okF n (l.map canon) = true := by
  obtain ⟨h1, h2, h3⟩ := all_okF h
  simp only [okF, Bool.and_eq_true, decide_eq_true_eq, List.all_eq_true, List.length_map, List.mem_map]
  refine ⟨⟨h1, h2⟩, ?_⟩
  rintro _ ⟨f, hf, rfl⟩
  exact canon_sound (h3 f hf)

theorem flat_canon (l : List Frm) (h3 : ∀ f ∈ l, soundF f = true) : (l.flatMap fun f => bytesF (canon f)) = l.flatMap bytesF := by
  induction l with
  | nil => rfl
  | cons f l ih =>
    simp only [List.flatMap_cons]
    rw [canon_bytes (h3 f (by simp)), ih (fun g hg => h3 g (by simp [hg]))]

theorem bodyF_canon {n : Nat} {l : List Frm} (h : okF n l = true) : bodyF n (l.map canon) = bodyF n l := by
  obtain ⟨_, _, h3⟩ := all_okF h
  unfold bodyF
  rw [List.flatMap_map]
  congr 1
  exact flat_canon l h3

theorem canon_sizes (f : Frm) : (canon f).data.length ≤ f.data.length ∧ (canon f).rngs.length ≤ f.rngs.length := by
  unfold canon
  simp only
  repeat' split
  all_goals simp [f0]

theorem dec_enc {n : Nat} {l : List Frm} (h : okF n l = true) (hd : ∀ f ∈ l, f.data.length ≤ 35184372088832 ∧ f.rngs.length ≤ 1099511627776) : dec (sealed (bodyF n l)) = .ok n (l.map canon) := by
  obtain ⟨h1, h2, h3⟩ := all_okF h
  unfold sealed
  rw [dec_sealed]
  exact dec_body n l h2 h1 (fun f hf => ⟨h3 f hf, by have := (hd f hf).1; omega, by have := (hd f hf).2; omega⟩)

def one : Frm := { kind := 4, stream := 1, off := 5, rel := 0, lim := 0, fin := true, id := 0, dl := 0, data := [97, 98], rngs := [] }

theorem one_ok : okF 70 [one] = true := by decide +kernel
theorem one_len : (sealed (bodyF 70 [one])).length = 12 := by decide +kernel

theorem one_at (w : World) (b : Nat) (rv : Value) (h : w.heap[b]? = some (.cells (frCells one (.slice none 0 0)) 28 (0, 0))) : FrsAt w (.slice (some ⟨b, 0, none⟩) 1 1) [(one, .slice none 0 0)] := by
  refine ⟨some ⟨b, 0, none⟩, 1, rfl, Nat.le_refl _, by unfold maxLen; omega, fun i fr hi => ?_⟩
  cases i with
  | zero =>
    simp only [List.getElem?_cons_zero, Option.some.injEq] at hi
    subst hi
    refine ⟨⟨b, 0, rfl, fun j x hx => ?_⟩, ⟨none, 0, rfl, Nat.le_refl _, by unfold maxLen; omega, fun i hi => absurd hi (Nat.not_lt_zero i)⟩⟩
    rw [Nat.zero_mul, Nat.zero_add]
    exact cell_of_obj h hx
  | succ i => simp at hi

theorem flip_bits : ∀ a : Fin 256, ∀ j : Fin 8, bits .xor .u8 ((a.val : Nat) : Int) (2 ^ j.val % 256) = (((UInt8.ofNat a.val) ^^^ UInt8.ofNat (2 ^ j.val)).toNat : Int) := by decide +kernel

theorem flip_is (x : UInt8) (j : Nat) (hj : j < 8) : bits .xor .u8 (x.toNat : Int) (2 ^ j % 256) = ((x ^^^ UInt8.ofNat (2 ^ j)).toNat : Int) := by
  have := flip_bits ⟨x.toNat, x.toNat_lt⟩ ⟨j, hj⟩
  simpa using this

theorem OB.set {w : World} {g cap : Nat} {l : List UInt8} (h : OB w (.slice (some ⟨g, 0, none⟩) l.length cap) l) {i : Nat} (hi : i < l.length) (y : UInt8) :
    OB (w.setCell ⟨g, i, none⟩ (.int .u8 (y.toNat : Int))) (.slice (some ⟨g, 0, none⟩) (l.set i y).length cap) (l.set i y) := by
  unfold OB at h ⊢
  rcases h.2 with ⟨hv, _⟩ | ⟨g', cap', cur, hv, hb, hg, h1, h2, h3, h4⟩
  · cases hv
  · cases hv
    refine ⟨by rw [bcells_length, Nat.mul_one], .inr ⟨g, cap, _, rfl, hb, obj_setCell hg, by simpa using h1, h2, by simpa using h3, ?_⟩⟩
    rw [Nat.mul_one] at h4 ⊢
    rw [Array.toList_setIfInBounds, List.length_set, List.take_set, h4]
    simp [bcells, List.map_set]

set_option maxRecDepth 100000 in
set_option maxHeartbeats 1000000 in
theorem returned_any (n : Nat) (fs : List (Frm × Value)) (v : Value) (k : Int) (w : World) (h : FrsAt w v fs) (ht : Tab w) (hg : ErrT w) (hl : fs.length ≤ 1099511627775) (hb : (bodyF n (fs.map (·.1))).length ≤ 1000000000000)
    (hd : ∀ fr ∈ fs, fr.1.data.length ≤ 35184372088832 ∧ fr.1.rngs.length ≤ 1099511627776) (hk1 : -9223372036854775808 ≤ k) (hk2 : k ≤ 9223372036854775807) :
    Calls Tryd.prog 3 #[.agg #[.int .u64 (n : Int), v], .int .i64 k] w (Says w true) := by
  obtain ⟨a, cap, rfl, h1, h2, h3⟩ := id h
  unfold maxLen at h2
  clear h3
  have H := hide h
  have HT := hide ht
  have HG := hide hg
  have HB := hide hb
  have HD := hide hd
  clear h ht hg hb hd
  go_enter Tryd.func3, Tryd.ntmps3
  go_wp2_with fail
  have HEAD : True := trivial
  obtain ⟨W1, hW1⟩ : ∃ W1, ((w.alloc (.cells #[.int .u64 (n : Int), .slice a fs.length cap] 25)).alloc (.cells #[.int .i64 4, .int .i64 1, .int .u64 5, .int .u64 0, .int .u64 0, .bool true, .int .u64 0, .int .u64 0, .string ⟨#[97, 98]⟩, .slice none 0 0] 28)).alloc (.cells #[.int .u64 70, .slice (some ⟨w.heap.size + 1, 0, none⟩) 1 1] 25) = W1 := ⟨_, rfl⟩
  have m1 : Mod NoB w W1 := by rw [← hW1]; exact (((Mod.refl _ _).alloc _).alloc _).alloc _
  have oP : W1.heap[w.heap.size]? = some (.cells #[.int .u64 (n : Int), .slice a fs.length cap] 25 (0, 0)) := by
    rw [← hW1]
    exact (((Mod.refl NoB _).alloc _).alloc _).obj (fun x => x) (heap_alloc_new w _)
  have oF : W1.heap[w.heap.size + 1]? = some (.cells (frCells one (.slice none 0 0)) 28 (0, 0)) := by
    rw [← hW1]
    refine ((Mod.refl NoB _).alloc _).obj (fun x => x) ?_
    have e : (w.alloc (.cells #[.int .u64 (n : Int), .slice a fs.length cap] 25)).heap.size = w.heap.size + 1 := by simp
    rw [← e]
    exact heap_alloc_new _ _
  have k1 := pencode_any 70 [(one, .slice none 0 0)] (.slice (some ⟨w.heap.size + 1, 0, none⟩) 1 1) W1 (one_at W1 (w.heap.size + 1) .nilIface oF) (HT.out.mod m1 (fun x => x)) (HG.out.mod m1 (fun x => x)) (by decide) (by decide +kernel) (by
    intro fr hfr
    simp only [List.mem_singleton] at hfr
    subst hfr
    decide)
  simp only [List.map_cons, List.map_nil] at k1
  have HM1 := hide m1
  have HP1 := hide oP
  have HW1 := hide hW1
  clear m1 oP oF hW1 HEAD
  rw [HW1.out]
  refine k1.mono ?_
  clear k1
  rintro e w2 ⟨m2, hE⟩
  have hE' : ∃ ba bc, e = .returned (.tuple #[.slice ba 12 bc, .int .i64 0]) := by
    rcases hE with ⟨_, v', he, ho, _⟩ | ⟨hf, _⟩
    · obtain ⟨ba, bc, rfl, _⟩ := own_form ho
      rw [one_len] at he
      exact ⟨ba, bc, he⟩
    · rw [one_ok] at hf
      cases hf
  clear hE
  obtain ⟨ba, bc, rfl⟩ := hE'
  have M2 := hide (HM1.out.trans m2)
  have oP2 := m2.obj (fun x => x) HP1.out
  have p0 : w2.cell? ⟨w.heap.size, 0, none⟩ = some (.int .u64 (n : Int)) := cell_of_obj oP2 rfl
  have p1 : w2.cell? ⟨w.heap.size, 1, none⟩ = some (.slice a fs.length cap) := cell_of_obj oP2 rfl
  have HP2 := hide oP2
  clear m2 oP2
  by_cases hbig : 1000 < fs.length
  · go_wp2_with fail
    go_ret
    exact ⟨rfl, M2.out⟩
  · have k2 := pencode_any n fs (.slice a fs.length cap) w2 (H.out.mod0 M2.out) (HT.out.mod M2.out (fun x => x)) (HG.out.mod M2.out (fun x => x)) hl (by have := HB.out; omega) HD.out
    go_wp2_with fail
    refine k2.mono ?_
    clear k2
    rintro e w3 ⟨m3, ⟨ho, v3, rfl, hob, hn3⟩ | ⟨ho, rfl⟩⟩
    · have M3 := hide (M2.out.trans m3)
      have oP3 := m3.obj (fun x => x) HP2.out
      have r0 : w3.cell? ⟨w.heap.size, 0, none⟩ = some (.int .u64 (n : Int)) := cell_of_obj oP3 rfl
      have r1 : w3.cell? ⟨w.heap.size, 1, none⟩ = some (.slice a fs.length cap) := cell_of_obj oP3 rfl
      have HP3 := hide oP3
      have HO := hide ho
      obtain ⟨bs, hbs⟩ : ∃ bs, sealed (bodyF n (fs.map (·.1))) = bs := ⟨_, rfl⟩
      have hsl : bs.length ≤ 1000000000004 := by
        have := HB.out
        rw [← hbs]
        unfold sealed sum4
        simp only [List.length_append, List.length_cons, List.length_nil]
        omega
      have hsp : 0 < bs.length := by
        rw [← hbs]
        unfold sealed sum4
        simp only [List.length_append, List.length_cons, List.length_nil]
        omega
      have hdec : dec bs = .ok n ((fs.map (·.1)).map canon) := by
        rw [← hbs]
        refine dec_enc ho (fun f hf => ?_)
        obtain ⟨fr, h1, h2⟩ := List.mem_map.1 hf
        rw [← h2]
        exact HD.out fr h1
      rw [hbs] at hob
      have k3 := pdecode_any v3 bs w3 hob.br (HT.out.mod M3.out (fun x => x)) (HG.out.mod M3.out (fun x => x)) (by omega)
      rw [hdec] at k3
      have HBS := hide hbs
      have HOB := hide hob
      have HN3 := hide hn3
      obtain ⟨xa, xc, rfl, hx1, hx2, hx3⟩ := own_form hob
      unfold maxLen at hx2
      clear m3 oP3 ho hbs hob hn3 hdec p0 p1
      go_wp2_with fail
      refine k3.mono ?_
      clear k3
      rintro e w4 ⟨m4, fv, rvs, rfl, own4, hmap, hn4, hn5⟩
      obtain ⟨fa, fc, rfl, _⟩ := own_form own4.1
      have hlen : rvs.length = fs.length := by
        have := congrArg List.length hmap
        simpa using this
      have oP4 := m4.obj (fun x => x) HP3.out
      have s0 : w4.cell? ⟨w.heap.size, 0, none⟩ = some (.int .u64 (n : Int)) := cell_of_obj oP4 rfl
      have s1 : w4.cell? ⟨w.heap.size, 1, none⟩ = some (.slice a fs.length cap) := cell_of_obj oP4 rfl
      have hpl := lt_of_cell s0
      have HLEN := hide hlen
      have M4 := hide (M3.out.trans m4)
      have HOWN4 := hide own4
      have HMAP := hide hmap
      have HOB4 := hide (HOB.out.mod0 m4)
      rw [hlen]
      rw [hlen] at own4
      clear r0 r1 m4 oP4 own4 hmap hlen hn4 hn5
      have HEAD : True := trivial
      go_wp2_with fail
      obtain ⟨W5, hW5⟩ : ∃ W5, w4.alloc (.cells #[.int .u64 (n : Int), .slice fa fs.length fc] 25) = W5 := ⟨_, rfl⟩
      have m5 : Mod NoB w4 W5 := by rw [← hW5]; exact (Mod.refl _ _).alloc _
      have k4 := pencode_any n rvs (.slice fa rvs.length fc) W5 ((OwnF.mod HOWN4.out m5 (fun i hi => hi.elim)).frs) ((HT.out.mod M4.out (fun x => x)).mod m5 (fun x => x)) ((HG.out.mod M4.out (fun x => x)).mod m5 (fun x => x)) (by rw [HLEN.out]; exact hl) (by rw [HMAP.out, bodyF_canon HO.out]; have := HB.out; omega) (by
        intro fr hfr
        have hin : fr.1 ∈ (fs.map (·.1)).map canon := by rw [← HMAP.out]; exact List.mem_map_of_mem hfr
        obtain ⟨g, hg1, hg2⟩ := List.mem_map.1 hin
        obtain ⟨fr', q1, q2⟩ := List.mem_map.1 hg1
        have := canon_sizes g
        have := HD.out fr' q1
        rw [← hg2]
        rw [q2] at this
        omega)
      rw [HMAP.out, HLEN.out] at k4
      have M5 := hide m5
      have HW5 := hide hW5
      clear m5 hW5 HEAD s0 s1
      rw [HW5.out]
      refine k4.mono ?_
      clear k4
      rintro e w6 ⟨m6, hE⟩
      have hE' : ∃ v6, e = .returned (.tuple #[v6, .int .i64 0]) ∧ OB w6 v6 bs ∧ ∀ g, v6.ownBlock = some g → W5.heap.size ≤ g := by
        rcases hE with ⟨_, v', he, ho, hn⟩ | ⟨hf, _⟩
        · rw [bodyF_canon HO.out, HBS.out] at ho
          exact ⟨v', he, ho, hn⟩
        · rw [okF_canon HO.out] at hf
          cases hf
      clear hE
      obtain ⟨v6, rfl, hob6, hnb⟩ := hE'
      have hsz5 := (M4.out.trans M5.out).size
      have HNB : Hid (∀ g, v6.ownBlock = some g → w.heap.size ≤ g) := fun g hg => by have := hnb g hg; omega
      clear hnb
      have hobB := (HOB4.out.mod0 M5.out).mod0 m6
      have c1 := br_string hob6.br
      have c2 := br_string hobB.br
      obtain ⟨ya, yc, rfl, hy1, hy2, hy3⟩ := own_form hob6
      unfold maxLen at hy2
      have M6 := hide ((M4.out.trans M5.out).trans m6)
      have HOB6 := hide hob6
      have e8 : IntKind.i64.wrap (8 * (bs.length : Int)) = 8 * (bs.length : Int) := IntWalk.i64_in _ (by omega)
      have kp := pick_any k (8 * bs.length) w6 hk1 hk2 (by omega) (by omega)
      have hpk := pickN_lt k (8 * bs.length) (by omega)
      rw [show ((8 * bs.length : Nat) : Int) = 8 * (bs.length : Int) by omega] at kp
      obtain ⟨p, hp⟩ : ∃ p, pickN k (8 * bs.length) = p := ⟨_, rfl⟩
      rw [hp] at kp hpk
      clear hob6 hobB m6 hp
      go_wp2_with fail
      refine kp.mono ?_
      clear kp c1 c2
      rintro e w7 ⟨rfl, rfl⟩
      obtain ⟨d, hd⟩ : ∃ d, p / 8 = d := ⟨_, rfl⟩
      obtain ⟨j, hj⟩ : ∃ j, p % 8 = j := ⟨_, rfl⟩
      have hdl : d < bs.length := by omega
      have hjl : j < 8 := by omega
      have z1 : (p : Int) / 8 = (d : Int) := by omega
      have z2 : (p : Int) % 8 = (j : Int) := by omega
      obtain ⟨g, rfl⟩ := hy3 (by omega)
      obtain ⟨cg, og, sg, _⟩ := own_obj HOB6.out
      obtain ⟨x, hx⟩ : ∃ x, bs[d]? = some x := ⟨bs[d], List.getElem?_eq_getElem hdl⟩
      have cx : w6.cell? ⟨g, d, none⟩ = some (.int .u8 (x.toNat : Int)) := by
        have := HOB6.out.cells (g := g) rfl d (.int .u8 (x.toNat : Int)) (by simp [bcells, hx])
        rwa [addr_add, Nat.zero_add] at this
      have zx : w6.frozen? ⟨g, d, none⟩ = false := frozen_of_obj og
      have hfl := flip_is x j hjl
      have m7 : Mod (fun q => q = g) w6 (w6.setCell ⟨g, d, none⟩ (.int .u8 ((x ^^^ UInt8.ofNat (2 ^ j)).toNat : Int))) := (Mod.refl (fun q => q = g) w6).setCell (p := ⟨g, d, none⟩) (.inl rfl) _
      have hg7 : w.heap.size ≤ g := HNB.out g rfl
      have hob7 := HOB6.out.set hdl (x ^^^ UInt8.ofNat (2 ^ j))
      have hob7' : BR (w6.setCell ⟨g, d, none⟩ (.int .u8 ((x ^^^ UInt8.ofNat (2 ^ j)).toNat : Int))) (.slice (some ⟨g, 0, none⟩) bs.length yc) (bs.set d (x ^^^ UInt8.ofNat (2 ^ j))) := by
        have := hob7.br
        rw [List.length_set] at this
        exact this
      have hsum : dec (bs.set d (x ^^^ UInt8.ofNat (2 ^ j))) = .sum := by
        have hxe : bs[d] = x := by
          have := List.getElem?_eq_getElem hdl
          rw [hx] at this
          exact (Option.some.inj this).symm
        have hbe : bs = bodyF n (fs.map (·.1)) ++ sum4 (crc (bodyF n (fs.map (·.1)))) := by rw [← HBS.out]; rfl
        have := dec_turned (bodyF n (fs.map (·.1))) d (x ^^^ UInt8.ofNat (2 ^ j)) (by rw [← hbe]; exact hdl) (by
          simp only [← hbe]
          rw [hxe]
          exact fun e => flip_ne x j hjl e.symm)
        rwa [← hbe] at this
      have h1w : 1 < w.heap.size := HT.out.lt
      have k7 := pdecode_any (.slice (some ⟨g, 0, none⟩) bs.length yc) _ _ hob7' ((HT.out.mod M6.out (fun x => x)).mod m7 (fun e => by have e : 1 = g := e; omega)) ((HG.out.mod M6.out (fun x => x)).mod m7 (fun e => by have e : 0 = g := e; omega)) (by rw [List.length_set]; omega)
      rw [hsum] at k7
      have M7 := hide (M6.out.then m7 (fun i hi => .inr (by have hi : i = g := hi; omega)))
      clear og sg hpk hd hj hob7 m7 hsum hx
      go_wp2_with fail
      refine k7.mono ?_
      rintro e w8 ⟨m8, rfl⟩
      go_wp2_with fail
      go_ret
      exact ⟨rfl, M7.out.trans m8⟩
    · have q1 : ∀ w, (binOp .eql 29 (.slice none 0 0) (.slice none 0 0)).run Tryd.prog w = .ok (.bool true) w := fun w => _root_.Go.run_eql_slice_nil w _ _ none 0 0 Tryd.underlying29
      go_wp2_with fail
      go_ret
      exact ⟨rfl, M2.out.trans m3⟩
end Go.Proofs.YtddfdpbaiedcjaaDoor
