/- The statement Gathered, second form, its card: where what the law reads is of bulk at most 1048576, and the two listed variables read as listed, it returns true, and its argument reads behind the call as before. Part 13 of 23. -/
import Derived.Test.YtddfdpbaiedcjabGreatDoorGatheredPart12
/- wire.Decode where the sum is right (printed by mkdec4.py). -/
namespace Go.Proofs.YtddfdpbaiedcjabGreatDoor
open Go.RowKit

theorem own_lt' {w : World} {base e sz : Nat} {v : Value} {n : Nat} {xs : List Value} (h : w.ownsRow base e sz v n xs) : ∀ g, v.ownBlock = some g → g < w.heap.size := by
  intro g hg
  rcases h.2 with ⟨rfl, rfl⟩ | ⟨g', cap, cur, rfl, _, h0, h1, h2, _⟩
  · cases hg
  · simp [Value.ownBlock] at hg
    subst hg
    exact (Array.getElem?_eq_some_iff.1 h0).1

theorem own_not_type {w : World} {base e sz : Nat} {v : Value} {n b T : Nat} {xs : List Value} {cs : Array Value} {fz : Nat × Nat} (h : w.ownsRow base e sz v n xs) (ho : w.heap[b]? = some (.cells cs T fz)) (hT : T ≠ e) : ¬ v.ownBlock = some b := by
  intro hb
  rcases h.2 with ⟨rfl, _⟩ | ⟨g, cap, cur, rfl, _, hg, _⟩
  · cases hb
  · simp [Value.ownBlock] at hb
    subst hb
    rw [hg] at ho
    simp at ho
    exact hT ho.2.1.symm

theorem two_types {w : World} {b1 b2 e e' sz sz' n n' : Nat} {v v' : Value} {xs xs' : List Value} (h : w.ownsRow b1 e sz v n xs) (h' : w.ownsRow b2 e' sz' v' n' xs') (hne : e' ≠ e) {g : Nat} (hg : v.ownBlock = some g) (hg' : v'.ownBlock = some g) : False := by
  rcases h'.2 with ⟨rfl, _⟩ | ⟨g', cap, cur, rfl, _, ho, _⟩
  · cases hg'
  · simp [Value.ownBlock] at hg'
    subst hg'
    exact own_not_type h ho hne hg

theorem own_newsl {w W : World} {base e sz : Nat} {v : Value} {n : Nat} {xs : List Value} (h : w.ownsRow base e sz v n xs) (hn : NewSl W v) : ∀ g, v.ownBlock = some g → W.heap.size ≤ g := by
  intro g hg
  rcases h.2 with ⟨rfl, _⟩ | ⟨g', cap, cur, rfl, _⟩
  · cases hg
  · simp [Value.ownBlock] at hg
    subst hg
    exact hn _ _ _ _ rfl

def AtAt (w : World) (ab at_ : Nat) : Prop := w.heap[ab]? = some (.cells #[.int .i64 (at_ : Int)] 3 (0, 0))

/-- At the head of a round. -/
def DecAt (w wr : World) (v : Value) (bs : List UInt8) (num : Nat) (R : DecR) : Prop :=
  ∃ fuel pos fv rvs at_, RdAt wr (w.heap.size + 1 + 1) v pos ∧ PkAt wr w.heap.size num fv ∧ ErAt wr (w.heap.size + 1) .nilIface ∧ AtAt wr (w.heap.size + 1 + 1 + 1) at_ ∧ OwnF wr fv rvs ∧ (∀ g, fv.ownBlock = some g → w.heap.size ≤ g) ∧ (∀ x ∈ rvs, ∀ g, x.2.ownBlock = some g → w.heap.size ≤ g) ∧
    pos ≤ bs.length ∧ bs.length - pos < fuel ∧ rvs.length ≤ pos ∧ Mod NoB w wr ∧ rdLoop bs fuel num pos (rvs.map (·.1)) = R

/-- The reader's and the place's variables. -/
def RA (w : World) : Nat → Prop := fun k => k = w.heap.size + 1 + 1 ∨ k = w.heap.size + 1 + 1 + 1

theorem OwnF.mod {S : Nat → Prop} {w w' : World} {v : Value} {fs : List (Frm × Value)} (h : OwnF w v fs) (m : Mod S w w') (hs : ∀ i, S i → w.heap.size ≤ i ∨ ∃ cs T fz, w.heap[i]? = some (.cells cs T fz) ∧ T ≠ 48 ∧ T ≠ 110) : OwnF w' v fs := by
  refine ⟨m.owns h.1 (fun g hg hx => ?_), fun x hx => (h.2 x hx).mod m (fun g hg hx' => ?_)⟩
  · rcases hs g hx with h1 | ⟨cs, T, fz, h1, h2, _⟩
    · have := own_lt' h.1 g hg
      omega
    · exact own_not_type h.1 h1 h2 hg
  · rcases hs g hx' with h1 | ⟨cs, T, fz, h1, _, h2⟩
    · have := own_lt' (h.2 x hx).1 g hg
      omega
    · exact own_not_type (h.2 x hx).1 h1 h2 hg

/-- Where reading begins. -/
structure DecIn (w W : World) (v : Value) : Prop where
  rd : RdAt W (w.heap.size + 1 + 1) v 0
  pk : PkAt W w.heap.size 0 (.slice none 0 0)
  er : ErAt W (w.heap.size + 1) .nilIface
  at_ : AtAt W (w.heap.size + 1 + 1 + 1) 0
  mod : Mod NoB w W

theorem decin (w : World) (nq : Nat) (v : Value) : DecIn w (((((w.alloc (.cells #[.int .u64 0, .slice none 0 0] 37)).alloc (.cells #[.nilIface] 80)).drewN nq).alloc (.cells #[v, .int .i64 0] 228)).alloc (.cells #[.int .i64 0] 3)) v := by
  have e1 : (w.alloc (.cells #[.int .u64 0, .slice none 0 0] 37)).heap.size = w.heap.size + 1 := by simp
  have e2 : (((w.alloc (.cells #[.int .u64 0, .slice none 0 0] 37)).alloc (.cells #[.nilIface] 80)).drewN nq).heap.size = w.heap.size + 1 + 1 := by simp
  have e3 : ((((w.alloc (.cells #[.int .u64 0, .slice none 0 0] 37)).alloc (.cells #[.nilIface] 80)).drewN nq).alloc (.cells #[v, .int .i64 0] 228)).heap.size = w.heap.size + 1 + 1 + 1 := by simp
  refine ⟨?_, ?_, ?_, ?_, ((((Mod.refl _ _).alloc _).alloc _).drewN _).alloc _ |>.alloc _⟩
  · unfold RdAt
    rw [← e2]
    exact ((Mod.refl NoB _).alloc _).obj (fun x => x) (heap_alloc_new _ _)
  · exact (((((Mod.refl NoB _).alloc _).drewN nq).alloc _).alloc _).obj (fun x => x) (heap_alloc_new w _)
  · unfold ErAt
    rw [← e1]
    exact ((((Mod.refl NoB _).drewN nq).alloc _).alloc _).obj (fun x => x) (heap_alloc_new _ _)
  · unfold AtAt
    rw [← e3]
    exact heap_alloc_new _ _

set_option maxRecDepth 100000 in
set_option maxHeartbeats 4000000 in
theorem dec_main (v : Value) (bs : List UInt8) (n : Nat) (w : World) (hb : BR w v bs) (ht : Tab w) (hn : bs.length = n + 4) (hs : be4 bs n = crc (bs.take n)) (hl40 : n < 1099511627776) :
    Calls Tryz.prog 106 #[v] w (Decoded w (decBody (bs.take n))) := by
  obtain ⟨a, cap, rfl, h1, h2, h3⟩ := id hb
  unfold maxLen at h2
  rw [hn] at h1 hb ⊢
  have hb' : BR w (.slice a bs.length cap) bs := by rw [hn]; exact hb
  obtain ⟨g, o, rfl, k0⟩ := hb'.byte (i := n) (by omega)
  obtain ⟨_, _, e, k1⟩ := hb'.byte (i := n + 1) (by omega)
  cases e
  obtain ⟨_, _, e, k2⟩ := hb'.byte (i := n + 2) (by omega)
  cases e
  obtain ⟨_, _, e, k3⟩ := hb'.byte (i := n + 3) (by omega)
  cases e
  have hgl := lt_of_cell k0
  have hpre := hb'.pre (n := n) (by omega)
  have hsum := fun w' (m : Mod NoB w w') => sum_any (.slice (some ⟨g, o, none⟩) n cap) (bs.take n) w' (hpre.mod m (OffS.no _)) (ht.mod m (fun x => x))
  have hcl := crc_lt (bs.take n)
  obtain ⟨s, hse⟩ : ∃ s, crc (bs.take n) = s := ⟨_, rfl⟩
  rw [hse] at hsum hs hcl
  have b0 := byteAt_lt bs n
  have b1 := byteAt_lt bs (n + 1)
  have b2 := byteAt_lt bs (n + 2)
  have b3 := byteAt_lt bs (n + 3)
  unfold be4 at hs
  obtain ⟨x0, e0⟩ : ∃ x, byteAt bs n = x := ⟨_, rfl⟩
  obtain ⟨x1, e1⟩ : ∃ x, byteAt bs (n + 1) = x := ⟨_, rfl⟩
  obtain ⟨x2, e2⟩ : ∃ x, byteAt bs (n + 2) = x := ⟨_, rfl⟩
  obtain ⟨x3, e3⟩ : ∃ x, byteAt bs (n + 3) = x := ⟨_, rfl⟩
  rw [e0] at k0 b0 hs
  rw [e1] at k1 b1 hs
  rw [e2] at k2 b2 hs
  rw [e3] at k3 b3 hs
  obtain ⟨o1, o2, o3⟩ := or_be x0 x1 x2 x3 b0 b1 b2 b3
  have z1 : IntKind.i64.wrap (((n + 4 : Nat) : Int) - 4) = (n : Int) := by rw [show ((n + 4 : Nat) : Int) - 4 = n by omega]; exact IntWalk.i64_in _ (by omega)
  have z2 : IntKind.i64.wrap ((n : Int) + 1) = (n : Int) + 1 := IntWalk.i64_in _ (by omega)
  have z3 : IntKind.i64.wrap ((n : Int) + 2) = (n : Int) + 2 := IntWalk.i64_in _ (by omega)
  have z4 : IntKind.i64.wrap ((n : Int) + 3) = (n : Int) + 3 := IntWalk.i64_in _ (by omega)
  have t2 : ((n : Int) + 1).toNat = n + 1 := by omega
  have t3 : ((n : Int) + 2).toNat = n + 2 := by omega
  have t4 : ((n : Int) + 3).toNat = n + 3 := by omega
  have y0 : IntKind.u32.wrap ((x0 : Int) * 16777216) = (x0 : Int) * 16777216 := by rw [u32_wrap]; omega
  have y1 : IntKind.u32.wrap ((x1 : Int) * 65536) = (x1 : Int) * 65536 := by rw [u32_wrap]; omega
  have y2 : IntKind.u32.wrap ((x2 : Int) * 256) = (x2 : Int) * 256 := by rw [u32_wrap]; omega
  have hq : ((x0 : Int) * 16777216 + (x1 : Int) * 65536 + (x2 : Int) * 256 + (x3 : Int) != (s : Int)) = false := by rw [bne_eq_false_iff_eq]; omega
  have Hpre := hide hpre
  clear h3 hb hb' ht hpre e0 e1 e2 e3 hse hs
  have hln : (bs.take n).length = n := by simp; omega
  obtain ⟨bd, hbd⟩ : ∃ bd, bs.take n = bd := ⟨_, rfl⟩
  rw [hbd] at Hpre hln ⊢
  clear hbd hn
  subst hln
  go_enter_defers Tryz.func106, Tryz.ntmps106
  go_wp2_with (go_at_call 123; refine (hsum _ (((Mod.refl _ _).alloc _).alloc _)).mono ?_; rintro e w' ⟨rfl, rfl⟩)
  go_quiet (fail)
  have hD := decin w nq (.slice (some ⟨g, o, none⟩) bd.length cap)
  obtain ⟨W, hW⟩ : ∃ W, ((((w.alloc (.cells #[.int .u64 0, .slice none 0 0] 37)).alloc (.cells #[.nilIface] 80)).drewN nq).alloc (.cells #[.slice (some ⟨g, o, none⟩) bd.length cap, .int .i64 0] 228)).alloc (.cells #[.int .i64 0] 3) = W := ⟨_, rfl⟩
  rw [hW] at hD
  have HW := hide hW
  clear hW
  have HD := hide hD
  have hgw : g < w.heap.size := hgl
  have hoff : ∀ b, w.heap.size ≤ b → OffS (Only b) (.slice (some ⟨g, o, none⟩) bd.length cap) := fun b hb' g' o' n' c' e hx => by
    cases e
    have : g = b := hx
    omega
  have Hoff := hide hoff
  have hrv := rvarint_any (w.heap.size + 1 + 1) 0 (.slice (some ⟨g, o, none⟩) bd.length cap) bd W hD.rd (Hpre.out.mod hD.mod (OffS.no _)) (hoff _ (by omega)) (Nat.zero_le _)
  clear hD hoff hsum k0 k1 k2 k3 o1 o2 o3 t2 t3 t4 y0 y1 y2 b0 b1 b2 b3
  go_wp2_with fail
  rw [HW.out]
  have hk : ∀ tmps r W' at_ num fv, tmps.getD 2 undef = .pointer (some ⟨w.heap.size, 0, none⟩) → tmps.getD 3 undef = .pointer (some ⟨w.heap.size + 1, 0, none⟩) → Mod NoB w W' → PkAt W' w.heap.size num fv → ErAt W' (w.heap.size + 1) .nilIface → AtAt W' (w.heap.size + 1 + 1 + 1) at_ → r = .bad at_ →
      bodyPostD Tryz.prog Tryz.f106 (Decoded w r) (Exit.panic [{ v := .iface 230 (.agg #[]), recovered := false }]) { tmps := tmps, defers := [{ target := .fn (.func 144) #[.pointer (some ⟨w.heap.size + 1 + 1 + 1, 0, none⟩), .pointer (some ⟨w.heap.size, 0, none⟩), .pointer (some ⟨w.heap.size + 1, 0, none⟩)], args := #[] }] } W' :=
    fun tmps r W' at_ num fv e2 e3 hm hp he ha hr => door_short r w W' tmps _ _ _ at_ _ fv _ e2 e3 hm hp he (cell_of_obj ha rfl) (by omega) (Nat.le_refl _) (by omega) hr
  have Hk := hide hk
  clear hk HW
  cases hr0 : rdVar bd 0 with
  | none =>
    rw [hr0] at hrv
    have HR : Hid (decBody bd = .bad 0) := by show _ = _; unfold decBody; rw [hr0]
    clear hr0
    refine hrv.mono ?_
    rintro e w1 (⟨_, _, hx, _⟩ | ⟨_, he, hm⟩)
    · cases hx
    unfold shortE at he
    subst he
    have hm' : Mod (Only (w.heap.size + 1 + 1)) W w1 := hm
    exact Hk.out _ _ w1 0 0 _ rfl rfl (HD.out.mod.then hm' (fun i hi => .inr (by cases hi; omega))) (hm'.obj (by show ¬ w.heap.size = w.heap.size + 1 + 1; omega) HD.out.pk) (hm'.obj (by show ¬ w.heap.size + 1 = w.heap.size + 1 + 1; omega) HD.out.er) (hm'.obj (by show ¬ w.heap.size + 1 + 1 + 1 = w.heap.size + 1 + 1; omega) HD.out.at_) HR.out
  | some q0 =>
    obtain ⟨num, p0⟩ := q0
    rw [hr0] at hrv
    obtain ⟨u1, u2, u3⟩ := rdVar_le hr0
    have HR0 := hide hr0
    clear hr0
    refine hrv.mono ?_
    rintro e w1 (⟨_, _, hx, rfl, h1', m1⟩ | ⟨hx, _⟩)
    rotate_left
    · cases hx
    simp only [Option.map_some, Option.some.injEq, Prod.mk.injEq] at hx
    obtain ⟨rfl, rfl⟩ := hx
    have hpk : PkAt w1 w.heap.size 0 (.slice none 0 0) := m1.obj (by show ¬ w.heap.size = w.heap.size + 1 + 1; omega) HD.out.pk
    have cp0 : w1.cell? ⟨w.heap.size, 0, none⟩ = some (.int .u64 0) := cell_of_obj hpk rfl
    have fp : w1.frozen? ⟨w.heap.size, 0, none⟩ = false := frozen_of_obj hpk
    obtain ⟨X, hX⟩ : ∃ X, w1.setCell ⟨w.heap.size, 0, none⟩ (.int .u64 (num : Int)) = X := ⟨_, rfl⟩
    have mX : Mod (fun k => k = w.heap.size) w1 X := by rw [← hX]; exact (Mod.refl (fun k => k = w.heap.size) w1).setCell (p := ⟨w.heap.size, 0, none⟩) (.inl rfl) _
    have pX : PkAt X w.heap.size num (.slice none 0 0) := by
      unfold PkAt
      rw [← hX, obj_setCell hpk]
      simp
    have rX : RdAt X (w.heap.size + 1 + 1) (.slice (some ⟨g, o, none⟩) bd.length cap) p0 := h1'.mod mX (by show ¬ w.heap.size + 1 + 1 = w.heap.size; omega)
    have eX : ErAt X (w.heap.size + 1) .nilIface := mX.obj (by show ¬ w.heap.size + 1 = w.heap.size; omega) (m1.obj (by show ¬ w.heap.size + 1 = w.heap.size + 1 + 1; omega) HD.out.er)
    have aX : AtAt X (w.heap.size + 1 + 1 + 1) 0 := mX.obj (by show ¬ w.heap.size + 1 + 1 + 1 = w.heap.size; omega) (m1.obj (by show ¬ w.heap.size + 1 + 1 + 1 = w.heap.size + 1 + 1; omega) HD.out.at_)
    have mwX : Mod NoB w X := (HD.out.mod.then m1 (fun i hi => .inr (by cases hi; omega))).then mX (fun i hi => .inr (by cases hi; omega))
    have cr1 := rX.c1
    have HpX := hide pX
    have HrX := hide rX
    have HeX := hide eX
    have HaX := hide aX
    have HmX := hide mwX
    clear hpk mX pX rX eX aX mwX h1' m1 hrv
    by_cases hp0 : p0 = bd.length
    · have HR : Hid (decBody bd = .bad 0) := by show _ = _; unfold decBody; rw [HR0.out]; simp only [if_pos hp0]
      have e1 : (p0 == bd.length) = true := by simp [hp0]
      have e1' : ((p0 : Int) == (bd.length : Int)) = true := by simp [hp0]
      clear hp0
      go_wp2_with (go_at_call 146; refine (fail_any _ _).mono ?_; rintro e w' ⟨he, rfl⟩; unfold shortE at he; subst he)
      exact Hk.out _ _ X 0 num _ rfl rfl HmX.out HpX.out HeX.out HaX.out HR.out
    · have e1 : (p0 == bd.length) = false := by simpa using hp0
      have e1' : ((p0 : Int) == (bd.length : Int)) = false := by rw [beq_eq_false_iff_ne]; omega
      obtain ⟨R, hR⟩ : ∃ R, rdLoop bd (bd.length + 1) num p0 [] = R := ⟨_, rfl⟩
      have HR : Hid (decBody bd = R) := by show _ = _; unfold decBody; rw [HR0.out]; simp only [if_neg hp0]; exact hR
      have HDR := HR
      have HA : Hid (DecAt w X (.slice (some ⟨g, o, none⟩) bd.length cap) bd num R) := ⟨bd.length + 1, p0, .slice none 0 0, [], 0, HrX.out, HpX.out, HeX.out, HaX.out, ⟨World.ownsRow_nil X 0 _ 10, fun x hx => by cases hx⟩, (fun g hg => by cases hg), (fun x hx => by cases hx), u2, by omega, Nat.zero_le _, HmX.out, hR⟩
      clear hR HR HR0 hp0 HpX HrX HeX HaX HmX
      go_wp2_with fail
      go_loopw [8, 9, 10, 11, 12] (fun _ _ _ _ _ wr => DecAt w wr (.slice (some ⟨g, o, none⟩) bd.length cap) bd num R) (fun _ _ _ _ _ wr => bd.length - posOf wr (w.heap.size + 1 + 1))
      case atStart => exact HA.out
      case round =>
        obtain ⟨fuel, pos, fv, rvs, at_, hrd, hpk, her, hat, hof, hn1, hn2, hpos, hfu, hrl, hm, hR⟩ := hrel
        obtain ⟨fuel, rfl⟩ : ∃ f, fuel = f + 1 := ⟨fuel - 1, by omega⟩
        unfold rdLoop at hR
        have cr1 := hrd.c1
        have Hrd := hide hrd
        have Hpk := hide hpk
        have Her := hide her
        have Hat := hide hat
        have Hof := hide hof
        have Hn1 := hide hn1
        have Hn2 := hide hn2
        have Hm := hide hm
        have hsz := hm.size
        have hws : w.heap.size + 1 + 1 + 1 < wr.heap.size := (Array.getElem?_eq_some_iff.1 hat).1
        by_cases hlt : pos < bd.length
        · rw [if_pos hlt] at hR
          have HR := hide hR
          have ca : wr.cell? ⟨w.heap.size + 1 + 1 + 1, 0, none⟩ = some (.int .i64 (at_ : Int)) := cell_of_obj hat rfl
          have fzA : wr.frozen? ⟨w.heap.size + 1 + 1 + 1, 0, none⟩ = false := frozen_of_obj hat
          obtain ⟨W1, hW1⟩ : ∃ W1, wr.setCell ⟨w.heap.size + 1 + 1 + 1, 0, none⟩ (.int .i64 (pos : Int)) = W1 := ⟨_, rfl⟩
          have m1 : Mod (RA w) wr W1 := by rw [← hW1]; exact (Mod.refl (RA w) wr).setCell (p := ⟨w.heap.size + 1 + 1 + 1, 0, none⟩) (.inl (.inr rfl)) _
          have m1a : Mod (Only (w.heap.size + 1 + 1 + 1)) wr W1 := by rw [← hW1]; exact (Mod.refl (Only (w.heap.size + 1 + 1 + 1)) wr).setCell (p := ⟨w.heap.size + 1 + 1 + 1, 0, none⟩) (.inl rfl) _
          have a1 : AtAt W1 (w.heap.size + 1 + 1 + 1) pos := by
            unfold AtAt
            rw [← hW1, obj_setCell hat]
            simp
          have r1 := hrd.mod m1a (by show ¬ w.heap.size + 1 + 1 = w.heap.size + 1 + 1 + 1; omega)
          have mw1 : Mod NoB w W1 := hm.then m1 (fun i hi => .inr (by rcases hi with rfl | rfl <;> omega))
          have ht1 := take_ok (w.heap.size + 1 + 1) 1 pos 1 rfl (.slice (some ⟨g, o, none⟩) bd.length cap) bd W1 r1 (Hpre.out.mod mw1 (OffS.no _)) (Hoff.out _ (by omega)) (by omega)
          obtain ⟨tb, htb⟩ : ∃ c, bd[pos]? = some c := ⟨bd[pos], List.getElem?_eq_getElem hlt⟩
          have hl1 : (bd.drop pos).take 1 = [tb] := by
            rw [List.take_one, List.head?_drop, htb]
            rfl
          rw [hl1] at ht1
          have Htb := hide htb
          have M1 := hide m1
          have A1 := hide a1
          have sW1 := m1.size
          have cr2 := r1.c1
          -- what fails, fails at pos
          have hfail : rdFrame bd pos = none → ∀ tmps W', tmps.getD 2 undef = .pointer (some ⟨w.heap.size, 0, none⟩) → tmps.getD 3 undef = .pointer (some ⟨w.heap.size + 1, 0, none⟩) → Mod (RA w) wr W' → Mod (Only (w.heap.size + 1 + 1)) W1 W' →
              bodyPostD Tryz.prog Tryz.f106 (Decoded w (decBody bd)) (Exit.panic [{ v := .iface 230 (.agg #[]), recovered := false }]) { tmps := tmps, defers := [{ target := .fn (.func 144) #[.pointer (some ⟨w.heap.size + 1 + 1 + 1, 0, none⟩), .pointer (some ⟨w.heap.size, 0, none⟩), .pointer (some ⟨w.heap.size + 1, 0, none⟩)], args := #[] }] } W' := by
            intro hrf tmps W' e2 e3 mA mB
            refine Hk.out tmps (decBody bd) W' pos num fv e2 e3 (Hm.out.then mA (fun i hi => .inr (by rcases hi with rfl | rfl <;> omega))) (mA.obj (fun hx => by rcases hx with hx | hx <;> omega) Hpk.out) (mA.obj (fun hx => by rcases hx with hx | hx <;> omega) Her.out) (mB.obj (fun hx => by have : w.heap.size + 1 + 1 + 1 = w.heap.size + 1 + 1 := hx; omega) A1.out) ?_
            have := HR.out
            rw [hrf] at this
            rw [HDR.out]
            exact this.symm
          have Hfail := hide hfail
          clear hR hrd hpk her hat hof hn1 hn2 hm m1 m1a a1 r1 mw1 htb hl1 hfail
          go_wp2_with fail
          refine ht1.mono ?_
          rintro e w2 ⟨sv, rfl, hs2, h2', m2⟩
          obtain ⟨a2, c2, rfl, _, _, h3'⟩ := hs2
          obtain ⟨g2, o2, rfl, ct⟩ := h3' 0 tb rfl
          simp only [Nat.add_zero] at ct
          have M2 : Hid (Mod (RA w) wr w2) := M1.out.then m2 (fun i hi => .inl (.inl hi))
          have N2 := hide m2
          have H2 := hide h2'
          have s2 := m2.size
          clear h3' ht1 h2' m2
          cases hkd : kindOf tb with
          | none =>
            have hrf : Hid (rdFrame bd pos = none) := by
              show _ = _
              unfold rdFrame
              rw [Htb.out]
              simp only [hkd, Option.bind_none]
            have hkn := fun w => kind_none tb w hkd
            clear hkd
            go_wp2_with (first | (go_at_call 148; refine (hkn _).mono ?_; rintro e w' ⟨rfl, rfl⟩) | (go_at_call 146; refine (fail_any _ _).mono ?_; rintro e w' ⟨he, rfl⟩; unfold shortE at he; subst he))
            show bodyPostD Tryz.prog Tryz.f106 (Decoded w (decBody bd)) (Exit.panic _) _ _
            exact Hfail.out hrf.out _ w2 (by rfl) (by rfl) M2.out N2.out
          | some k =>
            have hkn := fun w => kind_some tb k w hkd
            have Hkd := hide hkd
            have hb9 : ((tb.toNat : Int) == 9) = decide (tb = 9) := by
              rw [Bool.eq_iff_iff, beq_iff_eq, decide_eq_true_eq]
              constructor
              · intro h
                exact UInt8.toNat_inj.1 (by show _ = 9; omega)
              · rintro rfl
                rfl
            obtain ⟨b9, hb9'⟩ : ∃ b, decide (tb = 9) = b := ⟨_, rfl⟩
            rw [hb9'] at hb9
            have Hb9 := hide hb9'
            obtain ⟨W3, hW3⟩ : ∃ W3, w2.alloc (.cells #[.int .i64 k, .int .i64 0, .int .u64 0, .int .u64 0, .int .u64 0, .bool b9, .int .u64 0, .int .u64 0, .string ⟨#[]⟩, .slice none 0 0] 48) = W3 := ⟨_, rfl⟩
            have m3 : Mod NoB w2 W3 := by rw [← hW3]; exact (Mod.refl _ _).alloc _
            have f3 : FrameAt W3 w2.heap.size (f0 k b9) (.slice none 0 0) := by rw [← hW3]; exact heap_alloc_new w2 _
            have hof' := rcodec_any tb k hkd b9 bd (.slice (some ⟨g, o, none⟩) bd.length cap) W3
            have M3 := hide m3
            have F3 := hide f3
            have z3' : W3.heap.size = w2.heap.size + 1 := by rw [← hW3]; simp
            have HW3 := hide hW3
            clear hkd hb9' m3 f3 hW3
            go_wp2_with (go_at_call 148; refine (hkn _).mono ?_; rintro e w' ⟨rfl, rfl⟩)
            rw [HW3.out]
            refine hof'.mono ?_
            rintro e w4 ⟨cb, wv, F, caps, G, rfl, hc4, gF, gG, m4, hcb, hread, hsound⟩
            have s3 := M3.out.size
            have c41 := hc4.2.1
            have N4 : Hid (Mod (Only (w.heap.size + 1 + 1)) W1 w4) := (N2.out.then M3.out (fun i hi => hi.elim)).then m4 (fun i hi => hi.elim)
            have M4 : Hid (Mod (RA w) wr w4) := (M2.out.then M3.out (fun i hi => hi.elim)).then m4 (fun i hi => hi.elim)
            have F4 := F3.out.mod m4 (fun x => x)
            have R4 : RdAt w4 (w.heap.size + 1 + 1) (.slice (some ⟨g, o, none⟩) bd.length cap) (pos + 1) := (H2.out.mod M3.out (fun x => x)).mod m4 (fun x => x)
            have mw4 : Mod NoB w w4 := Hm.out.then M4.out (fun i hi => .inr (by rcases hi with rfl | rfl <;> omega))
            have hcl4 := hread (w.heap.size + 1 + 1) w2.heap.size (pos + 1) R4 (Hpre.out.mod mw4 (OffS.no _)) (fun g' o' n' c' e hx => by cases e; rcases hx with hx | hx <;> omega) (by omega) (by omega) F4 (by omega)
            have Hc4 := hide hc4
            have Hs4 := hide hsound
            have HgG := hide gG
            have gF' : ∀ args w, (callFunc F args).run Tryz.prog w = .ok (.enter F args) w := gF
            have s4 := m4.size
            clear hof' hc4 m4 hread hsound gF gG F4 R4 mw4 hkn hb9
            go_wp2_with fail
            refine hcl4.mono ?_
            rintro e w5 (⟨f, rv, p, hrb, rfl, h5, hf5, ho5, hnew5, m5⟩ | ⟨hrb, he, m5⟩)
            · have M5 : Hid (Mod (RA w) wr w5) := M4.out.then m5 (fun i hi => by
                rcases hi with hi | hi
                · exact .inl (.inl hi)
                · exact .inr (by omega))
              have N5 : Hid (Mod (Only (w.heap.size + 1 + 1)) W1 w5) := N4.out.then m5 (fun i hi => by
                rcases hi with hi | hi
                · exact .inl hi
                · have := N2.out.size
                  exact .inr (by omega))
              obtain ⟨d1, d2, d3, d4, d5⟩ := rdBody_read Hkd.out (by omega) hrb
              have hc5 : CodecAt w5 cb wv (.func (.func F) #[] caps) (.func (.func G) #[] #[]) := Hc4.out.mod m5 (by rintro (hi | hi) <;> omega)
              have hsn := sound_gen w2.heap.size cb f rv wv _ G (soundC f) w5 hf5 hc5 HgG.out (fun w' m hq => Hs4.out w' w2.heap.size f rv (hf5.mod m (fun x => x)) (ho5.rr.mod m (OffS.no _)) d1 (by omega) (by omega) hq)
              rw [show (numsOk f && strOk f && soundC f) = soundF f from rfl] at hsn
              have HF5 := hide hf5
              have HO5 := hide ho5
              have HN5 := hide hnew5
              have H5 := hide h5
              have s5 := m5.size
              clear hcl4 hc5 hf5 ho5 hnew5 h5 m5 gF' c41 d1
              cases hsf : soundF f with
              | false =>
                rw [hsf] at hsn
                have hrf : Hid (rdFrame bd pos = none) := by
                  show _ = _
                  unfold rdFrame
                  rw [Htb.out]
                  simp only [Hkd.out, Option.bind_some, Hb9.out, hrb, hsf]
                  rfl
                clear hrb hsf
                go_wp2_with (first | (go_at_call 150; refine hsn.mono ?_; rintro e w6 ⟨rfl, m6⟩; have M6 := hide m6; clear m6) | (go_at_call 146; refine (fail_any _ _).mono ?_; rintro e w' ⟨he, rfl⟩; unfold shortE at he; subst he))
                show bodyPostD Tryz.prog Tryz.f106 (Decoded w (decBody bd)) (Exit.panic _) _ _
                exact Hfail.out hrf.out _ w6 (by rfl) (by rfl) (M5.out.then M6.out (fun i hi => hi.elim)) (N5.out.then M6.out (fun i hi => hi.elim))
              | true =>
                rw [hsf] at hsn
                have hrf : Hid (rdFrame bd pos = some (f, p)) := by
                  show _ = _
                  unfold rdFrame
                  rw [Htb.out]
                  simp only [Hkd.out, Option.bind_some, Hb9.out, hrb, hsf]
                  rfl
                clear hrb hsf
                go_wp2_with fail
                refine hsn.mono ?_
                rintro e w6 ⟨rfl, m6⟩
                have M6 : Hid (Mod (RA w) wr w6) := M5.out.then m6 (fun i hi => hi.elim)
                have M56 : Hid (Mod NoB w5 w6) := m6
                have N6 : Hid (Mod (Only (w.heap.size + 1 + 1)) W1 w6) := N5.out.then m6 (fun i hi => hi.elim)
                have f6 := HF5.out.mod m6 (fun x => x)
                have o6 := HO5.out.mod m6 (fun _ _ x => x)
                have p6 : PkAt w6 w.heap.size num fv := M6.out.obj (fun hx => by rcases hx with hx | hx <;> omega) Hpk.out
                have of6 : OwnF w6 fv rvs := Hof.out.mod M6.out (fun i hi => .inr (by
                  rcases hi with rfl | rfl
                  · exact ⟨_, _, _, Hrd.out, by decide, by decide⟩
                  · exact ⟨_, _, _, Hat.out, by decide, by decide⟩))
                obtain ⟨ra, rc, rfl, _⟩ := own_form o6.1
                obtain ⟨k0, k1, k2, k3, k4, k5, k6, k7, k8, k9⟩ := f6.cells
                obtain ⟨v7, W7, hr7, own7, gr7, nw7⟩ := flit_app w6 fv rvs f ra f.rngs.length rc of6.1 (by omega)
                obtain ⟨fa, fc, rfl, _⟩ := own_form of6.1
                have cp6 : w6.cell? ⟨w.heap.size, 1, none⟩ = some (.slice fa rvs.length fc) := cell_of_obj p6 rfl
                obtain ⟨W8, hW8⟩ : ∃ W8, W7.setCell ⟨w.heap.size, 1, none⟩ v7 = W8 := ⟨_, rfl⟩
                have m7 : Mod (fun k => (Value.slice fa rvs.length fc).ownBlock = some k) w6 W7 := (Mod.refl _ _).grown gr7 (fun k hk => .inl hk)
                have p7 : PkAt W7 w.heap.size num (.slice fa rvs.length fc) := m7.obj (fun hx => own_not_type of6.1 p6 (by decide) hx) p6
                have cp7 : W7.cell? ⟨w.heap.size, 1, none⟩ = some (.slice fa rvs.length fc) := cell_of_obj p7 rfl
                have fp7 : W7.frozen? ⟨w.heap.size, 1, none⟩ = false := frozen_of_obj p7
                obtain ⟨va, vc, rfl, _⟩ := own_form own7
                have HO6 := hide o6
                have HP7 := hide p7
                have HOF6 := hide of6
                have HM7 := hide m7
                have HOWN7 := hide own7
                have HNW7 := hide nw7
                have HF6 := hide f6
                clear hsn m6 f6 o6 p6 of6 p7 m7 own7 nw7 gr7
                unfold frCells at hr7
                go_wp2_with (at_builtin; refine wpList_append_is rfl _ _ _ _ rfl _ _ _ rfl rfl hr7 ?_)
                have m8 : Mod (fun k => k = w.heap.size) W7 W8 := by rw [← hW8]; exact (Mod.refl (fun k => k = w.heap.size) W7).setCell (p := ⟨w.heap.size, 1, none⟩) (.inl rfl) _
                have HA8 : DecAt w W8 (.slice (some ⟨g, o, none⟩) bd.length cap) bd num R := by
                  have hS7 : ∀ i, (Value.slice fa rvs.length fc).ownBlock = some i → w.heap.size ≤ i := fun i hi => Hn1.out i hi
                  have q1 : ¬ (Value.slice fa rvs.length fc).ownBlock = some (w.heap.size + 1 + 1) := fun hx => own_not_type Hof.out.1 Hrd.out (by decide) hx
                  have q2 : ¬ (Value.slice fa rvs.length fc).ownBlock = some (w.heap.size + 1) := fun hx => own_not_type Hof.out.1 Her.out (by decide) hx
                  have q3 : ¬ (Value.slice fa rvs.length fc).ownBlock = some (w.heap.size + 1 + 1 + 1) := fun hx => own_not_type Hof.out.1 Hat.out (by decide) hx
                  have er6 : ErAt w6 (w.heap.size + 1) .nilIface := M6.out.obj (fun hx => by rcases hx with hx | hx <;> omega) Her.out
                  have at6 : AtAt w6 (w.heap.size + 1 + 1 + 1) pos := N6.out.obj (fun hx => by have : w.heap.size + 1 + 1 + 1 = w.heap.size + 1 + 1 := hx; omega) A1.out
                  have rd6 : RdAt w6 (w.heap.size + 1 + 1) (.slice (some ⟨g, o, none⟩) bd.length cap) p := H5.out.mod (Mod.refl NoB w5) (fun x => x) |>.mod (S := NoB) M56.out (fun x => x)
                  refine ⟨fuel, p, .slice va (rvs.length + 1) vc, rvs ++ [(f, .slice ra f.rngs.length rc)], pos, ?_, ?_, ?_, ?_, ⟨?_, ?_⟩, ?_, ?_, d3, by omega, ?_, ?_, ?_⟩
                  · exact (rd6.mod HM7.out q1).mod m8 (by show ¬ w.heap.size + 1 + 1 = w.heap.size; omega)
                  · unfold PkAt
                    rw [← hW8, obj_setCell HP7.out]
                    simp
                  · exact m8.obj (by show ¬ w.heap.size + 1 = w.heap.size; omega) (HM7.out.obj q2 er6)
                  · exact m8.obj (by show ¬ w.heap.size + 1 + 1 + 1 = w.heap.size; omega) (HM7.out.obj q3 at6)
                  · have := m8.owns HOWN7.out (fun i hi hx => own_not_type HOWN7.out HP7.out (by decide) (by rw [hi, hx]))
                    simpa using this
                  · intro x hx
                    have hx6 : OwnR w6 x.2 x.1.rngs ∧ ∀ i, x.2.ownBlock = some i → ¬ (Value.slice fa rvs.length fc).ownBlock = some i := by
                      rcases List.mem_append.1 hx with h1 | h1
                      · refine ⟨HOF6.out.2 x h1, fun i hi hj => ?_⟩
                        exact two_types HOF6.out.1 (HOF6.out.2 x h1).1 (by decide) hj hi
                      · simp only [List.mem_singleton] at h1
                        subst h1
                        exact ⟨HO6.out, fun i hi hj => two_types HOF6.out.1 HO6.out.1 (by decide) hj hi⟩
                    have h7 := hx6.1.mod HM7.out hx6.2
                    exact h7.mod m8 (fun i hi hj => own_not_type h7.1 HP7.out (by decide) (by rw [hi]; exact congrArg some hj))
                  · intro i hi
                    rcases HNW7.out i hi with h1 | h1
                    · exact hS7 i h1
                    · have := M6.out.size
                      omega
                  · intro x hx i hi
                    rcases List.mem_append.1 hx with h1 | h1
                    · exact Hn2.out x h1 i hi
                    · simp only [List.mem_singleton] at h1
                      subst h1
                      have := own_newsl HO6.out.1 HN5.out i hi
                      omega
                  · simp only [List.length_append, List.length_cons, List.length_nil]
                    omega
                  · exact ((Hm.out.then M6.out (fun i hi => .inr (by rcases hi with rfl | rfl <;> omega))).then HM7.out (fun i hi => .inr (hS7 i hi))).then m8 (fun i hi => .inr (by cases hi; omega))
                  · have := HR.out
                    rw [hrf.out] at this
                    simpa using this
                have HP : Hid (posOf W8 (w.heap.size + 1 + 1) = p ∧ posOf wr (w.heap.size + 1 + 1) = pos) := by
                  obtain ⟨_, p', _, _, _, hr8, _, _, _, _, _, _, _, _, _, _, _⟩ := id HA8
                  refine ⟨?_, posOf_at Hrd.out⟩
                  have rd6 : RdAt w6 (w.heap.size + 1 + 1) (.slice (some ⟨g, o, none⟩) bd.length cap) p := H5.out.mod (S := NoB) M56.out (fun x => x)
                  have q1 : ¬ (Value.slice fa rvs.length fc).ownBlock = some (w.heap.size + 1 + 1) := fun hx => own_not_type Hof.out.1 Hrd.out (by decide) hx
                  exact posOf_at ((rd6.mod HM7.out q1).mod m8 (by show ¬ w.heap.size + 1 + 1 = w.heap.size; omega))
                have HA8' := hide HA8
                have Hlt := hide hlt
                clear HA8 m8 hlt
                go_roundw
                case rel => exact HA8'.out
                case measure =>
                  have := Hlt.out
                  rw [HP.out.1, HP.out.2]
                  omega
            · have N5 : Hid (Mod (Only (w.heap.size + 1 + 1)) W1 w5) := N4.out.then m5 (fun i hi => by
                rcases hi with hi | hi
                · exact .inl hi
                · have := N2.out.size
                  exact .inr (by omega))
              have M5 : Hid (Mod (RA w) wr w5) := M4.out.then m5 (fun i hi => by
                rcases hi with hi | hi
                · exact .inl (.inl hi)
                · exact .inr (by omega))
              have hrf : Hid (rdFrame bd pos = none) := by
                show _ = _
                unfold rdFrame
                rw [Htb.out]
                simp only [Hkd.out, Option.bind_some, Hb9.out, hrb, Option.bind_none]
              unfold shortE at he
              subst he
              show bodyPostD Tryz.prog Tryz.f106 (Decoded w (decBody bd)) (Exit.panic _) _ _
              exact Hfail.out hrf.out _ w5 (by rfl) (by rfl) M5.out N5.out
        · rw [if_neg hlt] at hR
          have HR : Hid (decBody bd = .ok num (rvs.map (·.1))) := by show _ = _; rw [HDR.out]; exact hR.symm
          have cp0 : wr.cell? ⟨w.heap.size, 0, none⟩ = some (.int .u64 (num : Int)) := cell_of_obj hpk rfl
          have ce0 : wr.cell? ⟨w.heap.size + 1, 0, none⟩ = some .nilIface := cell_of_obj her rfl
          obtain ⟨fa, fc, rfl, _⟩ := own_form hof.1
          have cp1 : wr.cell? ⟨w.heap.size, 1, none⟩ = some (.slice fa rvs.length fc) := cell_of_obj hpk rfl
          have f0' : ∀ j, wr.frozen? ⟨w.heap.size, j, none⟩ = false := fun j => frozen_of_obj hpk
          have f1' : ∀ j, wr.frozen? ⟨w.heap.size + 1, j, none⟩ = false := fun j => frozen_of_obj her
          clear hR hrd hpk her hat hof hn1 hn2 hm
          go_wp2_with fail
          obtain ⟨Z, hZ⟩ : ∃ Z, ((wr.setCell ⟨w.heap.size, 0, none⟩ (.int .u64 (num : Int))).setCell ⟨w.heap.size, 1, none⟩ (.slice fa rvs.length fc)).setCell ⟨w.heap.size + 1, 0, none⟩ .nilIface = Z := ⟨_, rfl⟩
          rw [hZ]
          have mZ : Mod (fun k => k = w.heap.size ∨ k = w.heap.size + 1) wr Z := by
            rw [← hZ]
            exact (((Mod.refl (fun k => k = w.heap.size ∨ k = w.heap.size + 1) wr).setCell (p := ⟨w.heap.size, 0, none⟩) (.inl (.inl rfl)) _).setCell (p := ⟨w.heap.size, 1, none⟩) (.inl (.inl rfl)) _).setCell (p := ⟨w.heap.size + 1, 0, none⟩) (.inl (.inr rfl)) _
          have o1 := obj_setCell (i := 1) (v := .slice fa rvs.length fc) (obj_setCell (i := 0) (v := .int .u64 (num : Int)) Hpk.out)
          have pZ : PkAt Z w.heap.size num (.slice fa rvs.length fc) := by
            unfold PkAt
            rw [← hZ]
            exact (((Mod.refl (fun k => k = w.heap.size + 1) _).setCell (p := ⟨w.heap.size + 1, 0, none⟩) (.inl rfl) _).obj (by show ¬ w.heap.size = w.heap.size + 1; omega) o1).trans (by simp)
          have eZ : ErAt Z (w.heap.size + 1) .nilIface := by
            unfold ErAt
            rw [← hZ]
            have e1 := (((Mod.refl (fun k => k = w.heap.size) wr).setCell (p := ⟨w.heap.size, 0, none⟩) (.inl rfl) (.int .u64 (num : Int))).setCell (p := ⟨w.heap.size, 1, none⟩) (.inl rfl) (.slice fa rvs.length fc)).obj (by show ¬ w.heap.size + 1 = w.heap.size; omega) Her.out
            exact (obj_setCell (i := 0) e1).trans (by simp)
          refine door_ok (decBody bd) w Z _ w.heap.size (w.heap.size + 1) num _ _ _ (.slice fa rvs.length fc) rvs (by rfl) (by rfl) (Hm.out.then mZ (fun i hi => .inr (by rcases hi with rfl | rfl <;> omega))) pZ eZ ?_ Hn1.out Hn2.out HR.out
          exact Hof.out.mod mZ (fun i hi => .inr (by
            rcases hi with rfl | rfl
            · exact ⟨_, _, _, Hpk.out, by decide, by decide⟩
            · exact ⟨_, _, _, Her.out, by decide, by decide⟩))
end Go.Proofs.YtddfdpbaiedcjabGreatDoor
/- wire.Decode: its contract. -/
namespace Go.Proofs.YtddfdpbaiedcjabGreatDoor
open Go.RowKit

theorem wdecode_any (v : Value) (bs : List UInt8) (w : World) (hb : BR w v bs) (ht : Tab w) (hl : bs.length < 1099511627776) : Calls Tryz.prog 106 #[v] w (Decoded w (dec bs)) := by
  unfold dec
  by_cases h4 : bs.length < 4
  · rw [if_pos h4]
    exact dec_short v bs w hb h4
  · rw [if_neg h4]
    obtain ⟨n, hn⟩ : ∃ n, bs.length = n + 4 := ⟨bs.length - 4, by omega⟩
    rw [show bs.length - 4 = n by omega]
    by_cases hs : be4 bs n = crc (bs.take n)
    · rw [if_pos hs]
      exact dec_main v bs n w hb ht hn hs (by omega)
    · rw [if_neg hs]
      exact dec_sum v bs n w hb ht hn hs
end Go.Proofs.YtddfdpbaiedcjabGreatDoor
/- plain.copied: a packet with lists of its own. -/
namespace Go.Proofs.YtddfdpbaiedcjabGreatDoor
open Go.RowKit

theorem rr_cells {w : World} {g o cap : Nat} {rs : Rngs} (h : RR w (.slice (some ⟨g, o, none⟩) rs.length cap) rs) : ∀ j u, (rcells rs)[j]? = some u → w.cell? ((⟨g, o, none⟩ : Addr).add j) = some u := by
  obtain ⟨a, c, hv, _, _, h3⟩ := h
  cases hv
  intro j u hu
  have hj : j < rs.length * 2 := by
    have := (List.getElem?_eq_some_iff.1 hu).1
    rwa [rcells_length] at this
  obtain ⟨g', o', e, c1, c2, _⟩ := h3 (j / 2) (by omega)
  cases e
  rw [addr_add]
  rcases Nat.mod_two_eq_zero_or_one j with h0 | h0
  · have e : j / 2 * 2 = j := by omega
    rw [e] at c1
    have := rcells_lo rs (j / 2) (by omega)
    rw [e] at this
    rw [c1, ← this, hu]
  · have e : j / 2 * 2 + 1 = j := by omega
    rw [show o + j / 2 * 2 + 1 = o + j by omega] at c2
    have := rcells_hi rs (j / 2) (by omega)
    rw [e] at this
    rw [c2, ← this, hu]

theorem rcells_ones (rs : Rngs) : ∀ u ∈ rcells rs, u.oneCell' = true := by
  intro u hu
  induction rs with
  | nil => cases hu
  | cons r rs ih =>
    simp only [rcells, List.mem_cons] at hu
    rcases hu with rfl | rfl | hu
    · rfl
    · rfl
    · exact ih hu

/-- append of ranges onto nothing: a copy. -/
theorem rs_copy (w : World) (v : Value) (rs : Rngs) (h : RR w v rs) (hl : rs.length ≤ 1099511627776) :
    ∃ v' w', (∀ ty, (Builtin.append_ #[46, 46] ty #[.slice none 0 0, v]).run Tryz.prog w = .ok v' w') ∧ OwnR w' v' rs ∧ Mod NoB w w' ∧ (∀ g, v'.ownBlock = some g → w.heap.size ≤ g) := by
  obtain ⟨i, hi1, hz, hz1, hz2⟩ := info_parts info_range
  obtain ⟨a, cap, rfl, h1, h2, h3⟩ := id h
  cases a with
  | none =>
    have h0 : rs.length = 0 := by
      rcases Nat.eq_zero_or_pos rs.length with h0 | h0
      · exact h0
      · obtain ⟨g, o, e, _⟩ := h3 0 h0
        cases e
    have hrs : rs = [] := List.eq_nil_of_length_eq_zero h0
    subst hrs
    refine ⟨.slice none 0 0, w, fun ty => ?_, OwnR.nil w, Mod.refl _ _, fun g hg => by cases hg⟩
    simp [Builtin.append_, run_underlying Tryz.underlying46, sizeOf, typeInfo, hi1, Builtin.lenOf, Builtin.firstCells, loadCells, loadCellsFrom]
  | some a =>
    obtain ⟨g, o, s⟩ : ∃ g o s, a = ⟨g, o, s⟩ := ⟨_, _, _, rfl⟩
    by_cases h0 : rs.length = 0
    · have hrs : rs = [] := List.eq_nil_of_length_eq_zero h0
      subst hrs
      obtain ⟨v', w', k1, k2, k3, k4⟩ := run_append_owned_at (P := Tryz.prog) w 46 110 i (.agg #[.int .u64 0, .int .u64 0]) 2 16 Tryz.underlying46 hi1 hz hz1 hz2 rfl (by decide) (.slice none 0 0) 0 [] (World.ownsRow_nil w 0 _ 2)
        a 0 cap [] rfl (by intro j u hu; cases hu) (by intro u hu; cases hu) (by unfold maxLen; omega) (by omega)
      exact ⟨v', w', k1, ⟨k2, fun i hi => absurd hi (Nat.not_lt_zero i)⟩, (Mod.refl _ w).grown k3 (fun k hk => by cases hk), fun g hg => (k4 g hg).elim (fun x => by cases x) id⟩
    · obtain ⟨g', o', e, _⟩ := h3 0 (by omega)
      cases e
      obtain ⟨v', w', k1, k2, k3, k4⟩ := run_append_owned_at (P := Tryz.prog) w 46 110 i (.agg #[.int .u64 0, .int .u64 0]) 2 16 Tryz.underlying46 hi1 hz hz1 hz2 rfl (by decide) (.slice none 0 0) 0 [] (World.ownsRow_nil w 0 _ 2)
        ⟨g', o', none⟩ rs.length cap (rcells rs) (rcells_length rs) (rr_cells h) (rcells_ones rs) (by unfold maxLen; omega) (by omega)
      refine ⟨v', w', k1, ⟨?_, fun i hi => ?_⟩, (Mod.refl _ w).grown k3 (fun k hk => by cases hk), fun g hg => (k4 g hg).elim (fun x => by cases x) id⟩
      · rw [Nat.zero_add, List.nil_append] at k2
        exact k2
      · obtain ⟨_, _, _, _, _, b1, b2⟩ := h3 i hi
        exact ⟨b1, b2⟩

/-- What copied answers. -/
def Copy (w : World) (n : Nat) (fs : List (Frm × Value)) (e : Ending) (w' : World) : Prop :=
  ∃ v rvs, e = .returned (.agg #[.int .u64 (n : Int), v]) ∧ OwnF w' v rvs ∧ rvs.map (·.1) = fs.map (·.1) ∧ (∀ g, v.ownBlock = some g → w.heap.size ≤ g) ∧ (∀ x ∈ rvs, ∀ g, x.2.ownBlock = some g → w.heap.size ≤ g) ∧ Mod NoB w w'

/-- Midway: the first k frames have been copied. -/
def CopyK (w : World) (fs : List (Frm × Value)) (k : Nat) (v : Value) (wr : World) : Prop :=
  ∃ rvs, OwnF wr v rvs ∧ rvs.length = k ∧ rvs.map (·.1) = (fs.take k).map (·.1) ∧ (∀ g, v.ownBlock = some g → w.heap.size ≤ g) ∧ (∀ x ∈ rvs, ∀ g, x.2.ownBlock = some g → w.heap.size ≤ g) ∧ Mod NoB w wr

theorem OwnF.nil (w : World) : OwnF w (.slice none 0 0) [] := ⟨World.ownsRow_nil w 0 _ 10, fun x hx => by cases hx⟩

/-- One frame more. -/
theorem copy_step {w wr W0 W1 W3 : World} {fs rvs : List (Frm × Value)} {fb : Nat} {v rv v3 : Value} {f : Frm} {rv0 : Value}
    (h1 : OwnF wr v rvs) (h3 : rvs.map (·.1) = (fs.take rvs.length).map (·.1)) (h4 : ∀ g, v.ownBlock = some g → w.heap.size ≤ g) (h5 : ∀ x ∈ rvs, ∀ g, x.2.ownBlock = some g → w.heap.size ≤ g) (h6 : Mod NoB w wr)
    (hf : fs[rvs.length]? = some (f, rv0)) (m1 : Mod NoB wr W1) (ho : OwnR W1 rv f.rngs) (hrn : ∀ g, rv.ownBlock = some g → wr.heap.size < g) (hfb : wr.heap.size = fb) (m2 : Mod (fun x => x = fb) W1 W0)
    (q1 : W3.ownsRow 0 48 10 v3 (rvs.length + 1) (fcells (rvs ++ [(f, rv)]))) (q2 : W0.grownBy W3 v.ownBlock) (q3 : NewOr W0 v v3) : CopyK w fs (rvs.length + 1) v3 W3 := by
  have hlt : ∀ g, v.ownBlock = some g → g < wr.heap.size := fun g hg => own_lt' h1.1 g hg
  have hltx : ∀ x ∈ rvs, ∀ g, x.2.ownBlock = some g → g < wr.heap.size := fun x hx g hg => own_lt' (h1.2 x hx).1 g hg
  have e0 : OwnF W0 v rvs := by
    refine ⟨m2.owns (m1.owns h1.1 (fun _ _ x => x)) (fun g hg e => by have := hlt g hg; omega), fun x hx => ?_⟩
    exact ((h1.2 x hx).mod m1 (fun _ _ x => x)).mod m2 (fun g hg e => by have := hltx x hx g hg; omega)
  have ho0 : OwnR W0 rv f.rngs := ho.mod m2 (fun g hg e => by have := hrn g hg; omega)
  have m3 : Mod (fun k => v.ownBlock = some k) W0 W3 := (Mod.refl _ _).grown q2 (fun k hk => .inl hk)
  have hsz : w.heap.size ≤ W0.heap.size := Nat.le_trans h6.size (Nat.le_trans m1.size m2.size)
  refine ⟨rvs ++ [(f, rv)], ⟨by simpa using q1, ?_⟩, by simp, ?_, ?_, ?_, ?_⟩
  · intro x hx
    rcases List.mem_append.1 hx with hx | hx
    · exact (e0.2 x hx).mod m3 (fun g hg hj => two_types e0.1 (e0.2 x hx).1 (by decide) hj hg)
    · simp only [List.mem_singleton] at hx
      subst hx
      exact ho0.mod m3 (fun g hg hj => two_types e0.1 ho0.1 (by decide) hj hg)
  · rw [List.map_append, h3, List.take_add_one, hf, List.map_append]
    rfl
  · intro g hg
    rcases q3 g hg with x | x
    · exact h4 g x
    · omega
  · intro x hx g hg
    rcases List.mem_append.1 hx with hx | hx
    · exact h5 x hx g hg
    · simp only [List.mem_singleton] at hx
      subst hx
      have := hrn g hg
      have := h6.size
      omega
  · have hs := h6.size
    exact ((h6.trans m1).then m2 (fun i hi => .inr (by omega))).then m3 (fun i hi => .inr (h4 i hi))

theorem results_packet (tmps : Array Value) (w : World) (qb : Nat) (n fv : Value) (h2 : tmps.getD 2 undef = .pointer (some ⟨qb, 0, none⟩))
    (c0 : w.cell? ⟨qb, 0, none⟩ = some n) (c1 : w.cell? ⟨qb, 1, none⟩ = some fv) :
    (results Tryz.f71 tmps).run Tryz.prog w = .ok (.agg #[n, fv]) w := by
  have h2' : tmps[2]?.getD undef = .pointer (some ⟨qb, 0, none⟩) := by rw [← h2]; simp
  simp [results, Tryz.results71, go_sem, h2', c0, c1]

set_option maxRecDepth 100000 in
set_option maxHeartbeats 1000000 in
theorem copied_any (n : Nat) (fs : List (Frm × Value)) (v : Value) (w : World) (h : FrsAt w v fs) (hl : fs.length ≤ 1099511627775) (hd : ∀ fr ∈ fs, fr.1.rngs.length ≤ 1099511627776) :
    Calls Tryz.prog 71 #[.agg #[.int .u64 (n : Int), v]] w (Copy w n fs) := by
  obtain ⟨a, cap, rfl, h1, h2, h3⟩ := id h
  unfold maxLen at h2
  clear h3
  have H := hide h
  have Hd := hide hd
  clear h hd
  obtain ⟨W0, hW0⟩ : ∃ W0, (w.alloc (.cells #[.int .u64 (n : Int), .slice a fs.length cap] 37)).alloc (.cells #[.int .u64 0, .slice none 0 0] 37) = W0 := ⟨_, rfl⟩
  have m0 : Mod NoB w W0 := by rw [← hW0]; exact ((Mod.refl _ _).alloc _).alloc _
  have e1 : (w.alloc (.cells #[.int .u64 (n : Int), .slice a fs.length cap] 37)).heap.size = w.heap.size + 1 := by simp
  have oP : W0.heap[w.heap.size]? = some (.cells #[.int .u64 (n : Int), .slice a fs.length cap] 37 (0, 0)) := by rw [← hW0]; exact ((Mod.refl NoB _).alloc _).obj (fun x => x) (heap_alloc_new w _)
  have oQ : W0.heap[w.heap.size + 1]? = some (.cells #[.int .u64 0, .slice none 0 0] 37 (0, 0)) := by rw [← hW0, ← e1]; exact heap_alloc_new _ _
  have HP := hide oP
  have HQ := hide oQ
  have HM0 := hide m0
  have HW0 := hide hW0
  clear oP oQ m0 hW0 e1
  go_enter Tryz.func71, Tryz.ntmps71
  go_wp2_with fail
  rw [HW0.out]
  go_loopw [3, 9] (fun lv i wr => ∃ k : Nat, k ≤ fs.length ∧ i = .int .i64 k ∧ CopyK W0 fs k lv wr) (fun _ i _ => fs.length - (intOf i).toNat)
  case atStart => exact ⟨0, Nat.zero_le _, rfl, [], OwnF.nil _, rfl, rfl, (fun g hg => by cases hg), (fun x hx => by cases hx), Mod.refl _ _⟩
  case round =>
    obtain ⟨k, hk, rfl, hC⟩ := hrel
    obtain ⟨rvs, hof, hlen, hmap, hn1, hn2, hmr⟩ := id hC
    obtain ⟨la, lc, rfl, _⟩ := own_form hof.1
    subst hlen
    have HC := hide hC
    have HMR := hide hmr
    have HOF := hide hof
    have HMP := hide hmap
    have HN1 := hide hn1
    have HN2 := hide hn2
    have HFS : FrsAt wr (.slice a fs.length cap) fs := (H.out.mod0 HM0.out).mod0 hmr
    clear hC hmr hof hmap hn1 hn2
    by_cases hlt : rvs.length < fs.length
    · obtain ⟨fr, hfr⟩ : ∃ fr, fs[rvs.length]? = some fr := ⟨fs[rvs.length], List.getElem?_eq_getElem hlt⟩
      obtain ⟨a', cap', hv', _, _, h3⟩ := HFS
      cases hv'
      obtain ⟨f, rv⟩ := fr
      obtain ⟨⟨g, o, rfl, hc⟩, hrr⟩ := h3 rvs.length (f, rv) hfr
      simp only at hc hrr
      obtain ⟨ra, rc, rfl, _⟩ := id hrr
      obtain ⟨hc0, hc1, hc2, hc3, hc4, hc5, hc6, hc7, hc8, hc9⟩ := fr_cells hc
      have hrl := Hd.out _ (List.mem_of_getElem? hfr)
      simp only at hrl
      obtain ⟨v1, W1, hr1, own1, mod1, new1⟩ := rs_copy (wr.alloc (.cells (frCells f (.slice ra f.rngs.length rc)) 48)) (.slice ra f.rngs.length rc) f.rngs (hrr.mod ((Mod.refl NoB _).alloc _) (OffS.no _)) hrl
      obtain ⟨xa, xc, rfl, _⟩ := own_form own1.1
      have fb1 : FrameAt W1 wr.heap.size f (.slice ra f.rngs.length rc) := mod1.obj (fun x => x) (heap_alloc_new wr _)
      obtain ⟨k0, k1, k2, k3, k4, k5, k6, k7, k8, k9⟩ := fb1.cells
      have kz : W1.frozen? ⟨wr.heap.size, 9, none⟩ = false := frozen_of_obj fb1
      have fbl := lt_of_cell k0
      have m2 : Mod (fun x => x = wr.heap.size) W1 (W1.setCell ⟨wr.heap.size, 9, none⟩ (.slice xa f.rngs.length xc)) := (Mod.refl (fun x => x = wr.heap.size) W1).setCell (p := ⟨wr.heap.size, 9, none⟩) (.inl rfl) _
      have m1 : Mod NoB wr W1 := ((Mod.refl NoB wr).alloc _).trans mod1
      have own2 : OwnF (W1.setCell ⟨wr.heap.size, 9, none⟩ (.slice xa f.rngs.length xc)) (.slice la rvs.length lc) rvs :=
        OwnF.mod HOF.out (m1.then m2 (fun i hi => .inr (by omega))) (fun i hi => hi.elim)
      obtain ⟨v3, W3, hr3, own3, gr3, nw3⟩ := flit_app (W1.setCell ⟨wr.heap.size, 9, none⟩ (.slice xa f.rngs.length xc)) (.slice la rvs.length lc) rvs f xa f.rngs.length xc own2.1 (by omega)
      have HK : Hid (CopyK W0 fs (rvs.length + 1) v3 W3) :=
        copy_step (rv := .slice xa f.rngs.length xc) HOF.out HMP.out HN1.out HN2.out HMR.out hfr m1 own1 (fun g hg => by have := new1 g hg; simp at this; omega) rfl m2 own3 gr3 nw3
      have HF1 := hide fb1
      clear h3 own1 mod1 new1 fb1 m2 m1 own2 own3 gr3 nw3 hc hrr hrl
      unfold frCells at hr1 hr3
      have hsz : (W1.setCell ⟨wr.heap.size, 9, none⟩ (.slice xa f.rngs.length xc)).heap.size = W1.heap.size := by simp [World.setCell]
      rw [hsz] at hr3
      clear hsz
      go_wp2_with (at_builtin; first | (refine wpList_append_is rfl _ _ _ _ rfl _ _ _ rfl rfl hr1 ?_; clear hr1) | (refine wpList_append_is rfl _ _ _ _ rfl _ _ _ rfl rfl hr3 ?_; clear hr3))
      go_roundw
      case rel => exact ⟨rvs.length + 1, by omega, by go_num, HK.out⟩
      case measure => simp [intOf]; omega
    · have hkn : rvs.length = fs.length := by omega
      have oP : wr.heap[w.heap.size]? = some (.cells #[.int .u64 (n : Int), .slice a fs.length cap] 37 (0, 0)) := HMR.out.obj (fun x => x) HP.out
      have oQ : wr.heap[w.heap.size + 1]? = some (.cells #[.int .u64 0, .slice none 0 0] 37 (0, 0)) := HMR.out.obj (fun x => x) HQ.out
      have p0 : wr.cell? ⟨w.heap.size, 0, none⟩ = some (.int .u64 (n : Int)) := cell_of_obj oP rfl
      have p1 : wr.cell? ⟨w.heap.size, 1, none⟩ = some (.slice a fs.length cap) := cell_of_obj oP rfl
      have pz : wr.frozen? ⟨w.heap.size, 1, none⟩ = false := frozen_of_obj oP
      have q0 : wr.cell? ⟨w.heap.size + 1, 0, none⟩ = some (.int .u64 0) := cell_of_obj oQ rfl
      have q1 : wr.cell? ⟨w.heap.size + 1, 1, none⟩ = some (.slice none 0 0) := cell_of_obj oQ rfl
      have qz0 : wr.frozen? ⟨w.heap.size + 1, 0, none⟩ = false := frozen_of_obj oQ
      have qz1 : wr.frozen? ⟨w.heap.size + 1, 1, none⟩ = false := frozen_of_obj oQ
      have HKN := hide hkn
      have HOP := hide oP
      have HOQ := hide oQ
      clear oP oQ
      go_wp2_with fail
      obtain ⟨WF, hWF⟩ : ∃ WF, ((wr.setCell ⟨w.heap.size, 1, none⟩ (.slice la fs.length lc)).setCell ⟨w.heap.size + 1, 0, none⟩ (.int .u64 (n : Int))).setCell ⟨w.heap.size + 1, 1, none⟩ (.slice la fs.length lc) = WF := ⟨_, rfl⟩
      rw [hWF]
      have mF : Mod (fun k => k = w.heap.size ∨ k = w.heap.size + 1) wr WF := by
        rw [← hWF]
        exact (((Mod.refl (fun k => k = w.heap.size ∨ k = w.heap.size + 1) wr).setCell (p := ⟨w.heap.size, 1, none⟩) (.inl (.inl rfl)) _).setCell (p := ⟨w.heap.size + 1, 0, none⟩) (.inl (.inr rfl)) _).setCell (p := ⟨w.heap.size + 1, 1, none⟩) (.inl (.inr rfl)) _
      have oF : WF.heap[w.heap.size + 1]? = some (.cells #[.int .u64 (n : Int), .slice la fs.length lc] 37 (0, 0)) := by
        rw [← hWF]
        have o1 : (wr.setCell ⟨w.heap.size, 1, none⟩ (.slice la fs.length lc)).heap[w.heap.size + 1]? = some (.cells #[.int .u64 0, .slice none 0 0] 37 (0, 0)) :=
          ((Mod.refl (fun k => k = w.heap.size) wr).setCell (p := ⟨w.heap.size, 1, none⟩) (.inl rfl) _).obj (fun e => by have e : w.heap.size + 1 = w.heap.size := e; omega) HOQ.out
        exact obj_setCell (obj_setCell o1)
      have hsz : w.heap.size + 1 + 1 = W0.heap.size := by rw [← HW0.out]; simp
      have own : OwnF WF (.slice la rvs.length lc) rvs := OwnF.mod HOF.out mF (fun i hi => .inr (by
        rcases hi with rfl | rfl
        · exact ⟨_, _, _, HOP.out, by decide, by decide⟩
        · exact ⟨_, _, _, HOQ.out, by decide, by decide⟩))
      refine bodyPost_ret (results_packet _ _ (w.heap.size + 1) (.int .u64 (n : Int)) (.slice la fs.length lc) rfl (cell_of_obj oF rfl) (cell_of_obj oF rfl)) rfl ?_
      refine ⟨.slice la rvs.length lc, rvs, by rw [HKN.out], own, ?_, fun g hg => ?_, fun x hx g hg => ?_, ?_⟩
      · rw [HMP.out, HKN.out, List.take_length]
      · have := HN1.out g hg
        omega
      · have := HN2.out x hx g hg
        omega
      · exact (HM0.out.trans HMR.out).then mF (fun i hi => .inr (by rcases hi with rfl | rfl <;> omega))
end Go.Proofs.YtddfdpbaiedcjabGreatDoor
