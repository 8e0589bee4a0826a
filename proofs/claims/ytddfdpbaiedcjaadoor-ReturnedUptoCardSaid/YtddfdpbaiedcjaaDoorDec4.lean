/- wire.Decode where the sum is right (printed by mkdec4.py). -/
import Derived.Test.YtddfdpbaiedcjaaDoorDec3
namespace Go.Proofs.YtddfdpbaiedcjaaDoor
open Go.RowKit

theorem own_lt' {w : World} {base e sz : Nat} {v : Value} {n : Nat} {xs : List Value} (h : w.ownsRow base e sz v n xs) : ∀ g, v.ownBlock = some g → g < w.heap.size := by
  intro g hg
  rcases h.2 with ⟨rfl, rfl⟩ | ⟨g', cap, cur, rfl, _, h0, h1, h2, _⟩
  · cases hg
  · simp [Value.ownBlock] at hg
    subst hg
    exact (Array.getElem?_eq_some_iff.1 h0).1

theorem own_not_type {w : World} {base e sz : Nat} {v : Value} {n b T : Nat} {xs : List Value} {cs : Array Value} {fz : Nat × Nat} (h : w.ownsRow base e sz v n xs) (ho : w.heap[b]? = some (.cells cs T fz)) (hT : T ≠ e) : ¬ v.ownBlock = some b := by
  intro hb
  rcases h.2 with ⟨rfl, _⟩ | ⟨g, cap, cur, rfl, _, hg, _⟩
  · cases hb
  · simp [Value.ownBlock] at hb
    subst hb
    rw [hg] at ho
    simp at ho
    exact hT ho.2.1.symm

theorem two_types {w : World} {b1 b2 e e' sz sz' n n' : Nat} {v v' : Value} {xs xs' : List Value} (h : w.ownsRow b1 e sz v n xs) (h' : w.ownsRow b2 e' sz' v' n' xs') (hne : e' ≠ e) {g : Nat} (hg : v.ownBlock = some g) (hg' : v'.ownBlock = some g) : False := by
  rcases h'.2 with ⟨rfl, _⟩ | ⟨g', cap, cur, rfl, _, ho, _⟩
  · cases hg'
  · simp [Value.ownBlock] at hg'
    subst hg'
    exact own_not_type h ho hne hg

theorem own_newsl {w W : World} {base e sz : Nat} {v : Value} {n : Nat} {xs : List Value} (h : w.ownsRow base e sz v n xs) (hn : NewSl W v) : ∀ g, v.ownBlock = some g → W.heap.size ≤ g := by
  intro g hg
  rcases h.2 with ⟨rfl, _⟩ | ⟨g', cap, cur, rfl, _⟩
  · cases hg
  · simp [Value.ownBlock] at hg
    subst hg
    exact hn _ _ _ _ rfl

def AtAt (w : World) (ab at_ : Nat) : Prop := w.heap[ab]? = some (.cells #[.int .i64 (at_ : Int)] 3 (0, 0))

/-- At the head of a round. -/
def DecAt (w wr : World) (v : Value) (bs : List UInt8) (num : Nat) (R : DecR) : Prop :=
  ∃ fuel pos fv rvs at_, RdAt wr (w.heap.size + 1 + 1) v pos ∧ PkAt wr w.heap.size num fv ∧ ErAt wr (w.heap.size + 1) .nilIface ∧ AtAt wr (w.heap.size + 1 + 1 + 1) at_ ∧ OwnF wr fv rvs ∧ (∀ g, fv.ownBlock = some g → w.heap.size ≤ g) ∧ (∀ x ∈ rvs, ∀ g, x.2.ownBlock = some g → w.heap.size ≤ g) ∧
    pos ≤ bs.length ∧ bs.length - pos < fuel ∧ rvs.length ≤ pos ∧ Mod NoB w wr ∧ rdLoop bs fuel num pos (rvs.map (·.1)) = R

/-- The reader's and the place's variables. -/
def RA (w : World) : Nat → Prop := fun k => k = w.heap.size + 1 + 1 ∨ k = w.heap.size + 1 + 1 + 1

theorem OwnF.mod {S : Nat → Prop} {w w' : World} {v : Value} {fs : List (Frm × Value)} (h : OwnF w v fs) (m : Mod S w w') (hs : ∀ i, S i → w.heap.size ≤ i ∨ ∃ cs T fz, w.heap[i]? = some (.cells cs T fz) ∧ T ≠ 28 ∧ T ≠ 50) : OwnF w' v fs := by
  refine ⟨m.owns h.1 (fun g hg hx => ?_), fun x hx => (h.2 x hx).mod m (fun g hg hx' => ?_)⟩
  · rcases hs g hx with h1 | ⟨cs, T, fz, h1, h2, _⟩
    · have := own_lt' h.1 g hg
      omega
    · exact own_not_type h.1 h1 h2 hg
  · rcases hs g hx' with h1 | ⟨cs, T, fz, h1, _, h2⟩
    · have := own_lt' (h.2 x hx).1 g hg
      omega
    · exact own_not_type (h.2 x hx).1 h1 h2 hg

/-- Where reading begins. -/
structure DecIn (w W : World) (v : Value) : Prop where
  rd : RdAt W (w.heap.size + 1 + 1) v 0
  pk : PkAt W w.heap.size 0 (.slice none 0 0)
  er : ErAt W (w.heap.size + 1) .nilIface
  at_ : AtAt W (w.heap.size + 1 + 1 + 1) 0
  mod : Mod NoB w W

theorem decin (w : World) (nq : Nat) (v : Value) : DecIn w (((((w.alloc (.cells #[.int .u64 0, .slice none 0 0] 25)).alloc (.cells #[.nilIface] 40)).drewN nq).alloc (.cells #[v, .int .i64 0] 65)).alloc (.cells #[.int .i64 0] 3)) v := by
  have e1 : (w.alloc (.cells #[.int .u64 0, .slice none 0 0] 25)).heap.size = w.heap.size + 1 := by simp
  have e2 : (((w.alloc (.cells #[.int .u64 0, .slice none 0 0] 25)).alloc (.cells #[.nilIface] 40)).drewN nq).heap.size = w.heap.size + 1 + 1 := by simp
  have e3 : ((((w.alloc (.cells #[.int .u64 0, .slice none 0 0] 25)).alloc (.cells #[.nilIface] 40)).drewN nq).alloc (.cells #[v, .int .i64 0] 65)).heap.size = w.heap.size + 1 + 1 + 1 := by simp
  refine ⟨?_, ?_, ?_, ?_, ((((Mod.refl _ _).alloc _).alloc _).drewN _).alloc _ |>.alloc _⟩
  · unfold RdAt
    rw [← e2]
    exact ((Mod.refl NoB _).alloc _).obj (fun x => x) (heap_alloc_new _ _)
  · exact (((((Mod.refl NoB _).alloc _).drewN nq).alloc _).alloc _).obj (fun x => x) (heap_alloc_new w _)
  · unfold ErAt
    rw [← e1]
    exact ((((Mod.refl NoB _).drewN nq).alloc _).alloc _).obj (fun x => x) (heap_alloc_new _ _)
  · unfold AtAt
    rw [← e3]
    exact heap_alloc_new _ _

set_option maxRecDepth 100000 in
set_option maxHeartbeats 4000000 in
theorem dec_main (v : Value) (bs : List UInt8) (n : Nat) (w : World) (hb : BR w v bs) (ht : Tab w) (hn : bs.length = n + 4) (hs : be4 bs n = crc (bs.take n)) (hl40 : n < 1099511627776) :
    Calls Tryd.prog 14 #[v] w (Decoded w (decBody (bs.take n))) := by
  obtain ⟨a, cap, rfl, h1, h2, h3⟩ := id hb
  unfold maxLen at h2
  rw [hn] at h1 hb ⊢
  have hb' : BR w (.slice a bs.length cap) bs := by rw [hn]; exact hb
  obtain ⟨g, o, rfl, k0⟩ := hb'.byte (i := n) (by omega)
  obtain ⟨_, _, e, k1⟩ := hb'.byte (i := n + 1) (by omega)
  cases e
  obtain ⟨_, _, e, k2⟩ := hb'.byte (i := n + 2) (by omega)
  cases e
  obtain ⟨_, _, e, k3⟩ := hb'.byte (i := n + 3) (by omega)
  cases e
  have hgl := lt_of_cell k0
  have hpre := hb'.pre (n := n) (by omega)
  have hsum := fun w' (m : Mod NoB w w') => sum_any (.slice (some ⟨g, o, none⟩) n cap) (bs.take n) w' (hpre.mod m (OffS.no _)) (ht.mod m (fun x => x))
  have hcl := crc_lt (bs.take n)
  obtain ⟨s, hse⟩ : ∃ s, crc (bs.take n) = s := ⟨_, rfl⟩
  rw [hse] at hsum hs hcl
  have b0 := byteAt_lt bs n
  have b1 := byteAt_lt bs (n + 1)
  have b2 := byteAt_lt bs (n + 2)
  have b3 := byteAt_lt bs (n + 3)
  unfold be4 at hs
  obtain ⟨x0, e0⟩ : ∃ x, byteAt bs n = x := ⟨_, rfl⟩
  obtain ⟨x1, e1⟩ : ∃ x, byteAt bs (n + 1) = x := ⟨_, rfl⟩
  obtain ⟨x2, e2⟩ : ∃ x, byteAt bs (n + 2) = x := ⟨_, rfl⟩
  obtain ⟨x3, e3⟩ : ∃ x, byteAt bs (n + 3) = x := ⟨_, rfl⟩
  rw [e0] at k0 b0 hs
  rw [e1] at k1 b1 hs
  rw [e2] at k2 b2 hs
  rw [e3] at k3 b3 hs
  obtain ⟨o1, o2, o3⟩ := or_be x0 x1 x2 x3 b0 b1 b2 b3
  have z1 : IntKind.i64.wrap (((n + 4 : Nat) : Int) - 4) = (n : Int) := by rw [show ((n + 4 : Nat) : Int) - 4 = n by omega]; exact IntWalk.i64_in _ (by omega)
  have z2 : IntKind.i64.wrap ((n : Int) + 1) = (n : Int) + 1 := IntWalk.i64_in _ (by omega)
  have z3 : IntKind.i64.wrap ((n : Int) + 2) = (n : Int) + 2 := IntWalk.i64_in _ (by omega)
  have z4 : IntKind.i64.wrap ((n : Int) + 3) = (n : Int) + 3 := IntWalk.i64_in _ (by omega)
  have t2 : ((n : Int) + 1).toNat = n + 1 := by omega
  have t3 : ((n : Int) + 2).toNat = n + 2 := by omega
  have t4 : ((n : Int) + 3).toNat = n + 3 := by omega
  have y0 : IntKind.u32.wrap ((x0 : Int) * 16777216) = (x0 : Int) * 16777216 := by rw [u32_wrap]; omega
  have y1 : IntKind.u32.wrap ((x1 : Int) * 65536) = (x1 : Int) * 65536 := by rw [u32_wrap]; omega
  have y2 : IntKind.u32.wrap ((x2 : Int) * 256) = (x2 : Int) * 256 := by rw [u32_wrap]; omega
  have hq : ((x0 : Int) * 16777216 + (x1 : Int) * 65536 + (x2 : Int) * 256 + (x3 : Int) != (s : Int)) = false := by rw [bne_eq_false_iff_eq]; omega
  have Hpre := hide hpre
  clear h3 hb hb' ht hpre e0 e1 e2 e3 hse hs
  have hln : (bs.take n).length = n := by simp; omega
  obtain ⟨bd, hbd⟩ : ∃ bd, bs.take n = bd := ⟨_, rfl⟩
  rw [hbd] at Hpre hln ⊢
  clear hbd hn
  subst hln
  go_enter_defers Tryd.func14, Tryd.ntmps14
  go_wp2_with (go_at_call 20; refine (hsum _ (((Mod.refl _ _).alloc _).alloc _)).mono ?_; rintro e w' ⟨rfl, rfl⟩)
  go_quiet (fail)
  have hD := decin w nq (.slice (some ⟨g, o, none⟩) bd.length cap)
  obtain ⟨W, hW⟩ : ∃ W, ((((w.alloc (.cells #[.int .u64 0, .slice none 0 0] 25)).alloc (.cells #[.nilIface] 40)).drewN nq).alloc (.cells #[.slice (some ⟨g, o, none⟩) bd.length cap, .int .i64 0] 65)).alloc (.cells #[.int .i64 0] 3) = W := ⟨_, rfl⟩
  rw [hW] at hD
  have HW := hide hW
  clear hW
  have HD := hide hD
  have hgw : g < w.heap.size := hgl
  have hoff : ∀ b, w.heap.size ≤ b → OffS (Only b) (.slice (some ⟨g, o, none⟩) bd.length cap) := fun b hb' g' o' n' c' e hx => by
    cases e
    have : g = b := hx
    omega
  have Hoff := hide hoff
  have hrv := rvarint_any (w.heap.size + 1 + 1) 0 (.slice (some ⟨g, o, none⟩) bd.length cap) bd W hD.rd (Hpre.out.mod hD.mod (OffS.no _)) (hoff _ (by omega)) (Nat.zero_le _)
  clear hD hoff hsum k0 k1 k2 k3 o1 o2 o3 t2 t3 t4 y0 y1 y2 b0 b1 b2 b3
  go_wp2_with fail
  rw [HW.out]
  have hk : ∀ tmps r W' at_ num fv, tmps.getD 2 undef = .pointer (some ⟨w.heap.size, 0, none⟩) → tmps.getD 3 undef = .pointer (some ⟨w.heap.size + 1, 0, none⟩) → Mod NoB w W' → PkAt W' w.heap.size num fv → ErAt W' (w.heap.size + 1) .nilIface → AtAt W' (w.heap.size + 1 + 1 + 1) at_ → r = .bad at_ →
      bodyPostD Tryd.prog Tryd.f14 (Decoded w r) (Exit.panic [{ v := .iface 67 (.agg #[]), recovered := false }]) { tmps := tmps, defers := [{ target := .fn (.func 21) #[.pointer (some ⟨w.heap.size + 1 + 1 + 1, 0, none⟩), .pointer (some ⟨w.heap.size, 0, none⟩), .pointer (some ⟨w.heap.size + 1, 0, none⟩)], args := #[] }] } W' :=
    fun tmps r W' at_ num fv e2 e3 hm hp he ha hr => door_short r w W' tmps _ _ _ at_ _ fv _ e2 e3 hm hp he (cell_of_obj ha rfl) (by omega) (Nat.le_refl _) (by omega) hr
  have Hk := hide hk
  clear hk HW
  cases hr0 : rdVar bd 0 with
  | none =>
    rw [hr0] at hrv
    have HR : Hid (decBody bd = .bad 0) := by show _ = _; unfold decBody; rw [hr0]
    clear hr0
    refine hrv.mono ?_
    rintro e w1 (⟨_, _, hx, _⟩ | ⟨_, he, hm⟩)
    · cases hx
    unfold shortE at he
    subst he
    have hm' : Mod (Only (w.heap.size + 1 + 1)) W w1 := hm
    exact Hk.out _ _ w1 0 0 _ rfl rfl (HD.out.mod.then hm' (fun i hi => .inr (by cases hi; omega))) (hm'.obj (by show ¬ w.heap.size = w.heap.size + 1 + 1; omega) HD.out.pk) (hm'.obj (by show ¬ w.heap.size + 1 = w.heap.size + 1 + 1; omega) HD.out.er) (hm'.obj (by show ¬ w.heap.size + 1 + 1 + 1 = w.heap.size + 1 + 1; omega) HD.out.at_) HR.out
  | some q0 =>
    obtain ⟨num, p0⟩ := q0
    rw [hr0] at hrv
    obtain ⟨u1, u2, u3⟩ := rdVar_le hr0
    have HR0 := hide hr0
    clear hr0
    refine hrv.mono ?_
    rintro e w1 (⟨_, _, hx, rfl, h1', m1⟩ | ⟨hx, _⟩)
    rotate_left
    · cases hx
    simp only [Option.map_some, Option.some.injEq, Prod.mk.injEq] at hx
    obtain ⟨rfl, rfl⟩ := hx
    have hpk : PkAt w1 w.heap.size 0 (.slice none 0 0) := m1.obj (by show ¬ w.heap.size = w.heap.size + 1 + 1; omega) HD.out.pk
    have cp0 : w1.cell? ⟨w.heap.size, 0, none⟩ = some (.int .u64 0) := cell_of_obj hpk rfl
    have fp : w1.frozen? ⟨w.heap.size, 0, none⟩ = false := frozen_of_obj hpk
    obtain ⟨X, hX⟩ : ∃ X, w1.setCell ⟨w.heap.size, 0, none⟩ (.int .u64 (num : Int)) = X := ⟨_, rfl⟩
    have mX : Mod (fun k => k = w.heap.size) w1 X := by rw [← hX]; exact (Mod.refl (fun k => k = w.heap.size) w1).setCell (p := ⟨w.heap.size, 0, none⟩) (.inl rfl) _
    have pX : PkAt X w.heap.size num (.slice none 0 0) := by
      unfold PkAt
      rw [← hX, obj_setCell hpk]
      simp
    have rX : RdAt X (w.heap.size + 1 + 1) (.slice (some ⟨g, o, none⟩) bd.length cap) p0 := h1'.mod mX (by show ¬ w.heap.size + 1 + 1 = w.heap.size; omega)
    have eX : ErAt X (w.heap.size + 1) .nilIface := mX.obj (by show ¬ w.heap.size + 1 = w.heap.size; omega) (m1.obj (by show ¬ w.heap.size + 1 = w.heap.size + 1 + 1; omega) HD.out.er)
    have aX : AtAt X (w.heap.size + 1 + 1 + 1) 0 := mX.obj (by show ¬ w.heap.size + 1 + 1 + 1 = w.heap.size; omega) (m1.obj (by show ¬ w.heap.size + 1 + 1 + 1 = w.heap.size + 1 + 1; omega) HD.out.at_)
    have mwX : Mod NoB w X := (HD.out.mod.then m1 (fun i hi => .inr (by cases hi; omega))).then mX (fun i hi => .inr (by cases hi; omega))
    have cr1 := rX.c1
    have HpX := hide pX
    have HrX := hide rX
    have HeX := hide eX
    have HaX := hide aX
    have HmX := hide mwX
    clear hpk mX pX rX eX aX mwX h1' m1 hrv
    by_cases hp0 : p0 = bd.length
    · have HR : Hid (decBody bd = .bad 0) := by show _ = _; unfold decBody; rw [HR0.out]; simp only [if_pos hp0]
      have e1 : (p0 == bd.length) = true := by simp [hp0]
      have e1' : ((p0 : Int) == (bd.length : Int)) = true := by simp [hp0]
      clear hp0
      go_wp2_with (go_at_call 23; refine (fail_any _ _).mono ?_; rintro e w' ⟨he, rfl⟩; unfold shortE at he; subst he)
      exact Hk.out _ _ X 0 num _ rfl rfl HmX.out HpX.out HeX.out HaX.out HR.out
    · have e1 : (p0 == bd.length) = false := by simpa using hp0
      have e1' : ((p0 : Int) == (bd.length : Int)) = false := by rw [beq_eq_false_iff_ne]; omega
      obtain ⟨R, hR⟩ : ∃ R, rdLoop bd (bd.length + 1) num p0 [] = R := ⟨_, rfl⟩
      have HR : Hid (decBody bd = R) := by show _ = _; unfold decBody; rw [HR0.out]; simp only [if_neg hp0]; exact hR
      have HDR := HR
      have HA : Hid (DecAt w X (.slice (some ⟨g, o, none⟩) bd.length cap) bd num R) := ⟨bd.length + 1, p0, .slice none 0 0, [], 0, HrX.out, HpX.out, HeX.out, HaX.out, ⟨World.ownsRow_nil X 0 _ 10, fun x hx => by cases hx⟩, (fun g hg => by cases hg), (fun x hx => by cases hx), u2, by omega, Nat.zero_le _, HmX.out, hR⟩
      clear hR HR HR0 hp0 HpX HrX HeX HaX HmX
      go_wp2_with fail
      go_loopw [8, 9, 10, 11, 12] (fun _ _ _ _ _ wr => DecAt w wr (.slice (some ⟨g, o, none⟩) bd.length cap) bd num R) (fun _ _ _ _ _ wr => bd.length - posOf wr (w.heap.size + 1 + 1))
      case atStart => exact HA.out
      case round =>
        obtain ⟨fuel, pos, fv, rvs, at_, hrd, hpk, her, hat, hof, hn1, hn2, hpos, hfu, hrl, hm, hR⟩ := hrel
        obtain ⟨fuel, rfl⟩ : ∃ f, fuel = f + 1 := ⟨fuel - 1, by omega⟩
        unfold rdLoop at hR
        have cr1 := hrd.c1
        have Hrd := hide hrd
        have Hpk := hide hpk
        have Her := hide her
        have Hat := hide hat
        have Hof := hide hof
        have Hn1 := hide hn1
        have Hn2 := hide hn2
        have Hm := hide hm
        have hsz := hm.size
        have hws : w.heap.size + 1 + 1 + 1 < wr.heap.size := (Array.getElem?_eq_some_iff.1 hat).1
        by_cases hlt : pos < bd.length
        · rw [if_pos hlt] at hR
          have HR := hide hR
          have ca : wr.cell? ⟨w.heap.size + 1 + 1 + 1, 0, none⟩ = some (.int .i64 (at_ : Int)) := cell_of_obj hat rfl
          have fzA : wr.frozen? ⟨w.heap.size + 1 + 1 + 1, 0, none⟩ = false := frozen_of_obj hat
          obtain ⟨W1, hW1⟩ : ∃ W1, wr.setCell ⟨w.heap.size + 1 + 1 + 1, 0, none⟩ (.int .i64 (pos : Int)) = W1 := ⟨_, rfl⟩
          have m1 : Mod (RA w) wr W1 := by rw [← hW1]; exact (Mod.refl (RA w) wr).setCell (p := ⟨w.heap.size + 1 + 1 + 1, 0, none⟩) (.inl (.inr rfl)) _
          have m1a : Mod (Only (w.heap.size + 1 + 1 + 1)) wr W1 := by rw [← hW1]; exact (Mod.refl (Only (w.heap.size + 1 + 1 + 1)) wr).setCell (p := ⟨w.heap.size + 1 + 1 + 1, 0, none⟩) (.inl rfl) _
          have a1 : AtAt W1 (w.heap.size + 1 + 1 + 1) pos := by
            unfold AtAt
            rw [← hW1, obj_setCell hat]
            simp
          have r1 := hrd.mod m1a (by show ¬ w.heap.size + 1 + 1 = w.heap.size + 1 + 1 + 1; omega)
          have mw1 : Mod NoB w W1 := hm.then m1 (fun i hi => .inr (by rcases hi with rfl | rfl <;> omega))
          have ht1 := take_ok (w.heap.size + 1 + 1) 1 pos 1 rfl (.slice (some ⟨g, o, none⟩) bd.length cap) bd W1 r1 (Hpre.out.mod mw1 (OffS.no _)) (Hoff.out _ (by omega)) (by omega)
          obtain ⟨tb, htb⟩ : ∃ c, bd[pos]? = some c := ⟨bd[pos], List.getElem?_eq_getElem hlt⟩
          have hl1 : (bd.drop pos).take 1 = [tb] := by
            rw [List.take_one, List.head?_drop, htb]
            rfl
          rw [hl1] at ht1
          have Htb := hide htb
          have M1 := hide m1
          have A1 := hide a1
          have sW1 := m1.size
          have cr2 := r1.c1
          -- what fails, fails at pos
          have hfail : rdFrame bd pos = none → ∀ tmps W', tmps.getD 2 undef = .pointer (some ⟨w.heap.size, 0, none⟩) → tmps.getD 3 undef = .pointer (some ⟨w.heap.size + 1, 0, none⟩) → Mod (RA w) wr W' → Mod (Only (w.heap.size + 1 + 1)) W1 W' →
              bodyPostD Tryd.prog Tryd.f14 (Decoded w (decBody bd)) (Exit.panic [{ v := .iface 67 (.agg #[]), recovered := false }]) { tmps := tmps, defers := [{ target := .fn (.func 21) #[.pointer (some ⟨w.heap.size + 1 + 1 + 1, 0, none⟩), .pointer (some ⟨w.heap.size, 0, none⟩), .pointer (some ⟨w.heap.size + 1, 0, none⟩)], args := #[] }] } W' := by
            intro hrf tmps W' e2 e3 mA mB
            refine Hk.out tmps (decBody bd) W' pos num fv e2 e3 (Hm.out.then mA (fun i hi => .inr (by rcases hi with rfl | rfl <;> omega))) (mA.obj (fun hx => by rcases hx with hx | hx <;> omega) Hpk.out) (mA.obj (fun hx => by rcases hx with hx | hx <;> omega) Her.out) (mB.obj (fun hx => by have : w.heap.size + 1 + 1 + 1 = w.heap.size + 1 + 1 := hx; omega) A1.out) ?_
            have := HR.out
            rw [hrf] at this
            rw [HDR.out]
            exact this.symm
          have Hfail := hide hfail
          clear hR hrd hpk her hat hof hn1 hn2 hm m1 m1a a1 r1 mw1 htb hl1 hfail
          go_wp2_with fail
          refine ht1.mono ?_
          rintro e w2 ⟨sv, rfl, hs2, h2', m2⟩
          obtain ⟨a2, c2, rfl, _, _, h3'⟩ := hs2
          obtain ⟨g2, o2, rfl, ct⟩ := h3' 0 tb rfl
          simp only [Nat.add_zero] at ct
          have M2 : Hid (Mod (RA w) wr w2) := M1.out.then m2 (fun i hi => .inl (.inl hi))
          have N2 := hide m2
          have H2 := hide h2'
          have s2 := m2.size
          clear h3' ht1 h2' m2
          cases hkd : kindOf tb with
          | none =>
            have hrf : Hid (rdFrame bd pos = none) := by
              show _ = _
              unfold rdFrame
              rw [Htb.out]
              simp only [hkd, Option.bind_none]
            have hkn := fun w => kind_none tb w hkd
            clear hkd
            go_wp2_with (first | (go_at_call 25; refine (hkn _).mono ?_; rintro e w' ⟨rfl, rfl⟩) | (go_at_call 23; refine (fail_any _ _).mono ?_; rintro e w' ⟨he, rfl⟩; unfold shortE at he; subst he))
            show bodyPostD Tryd.prog Tryd.f14 (Decoded w (decBody bd)) (Exit.panic _) _ _
            exact Hfail.out hrf.out _ w2 (by rfl) (by rfl) M2.out N2.out
          | some k =>
            have hkn := fun w => kind_some tb k w hkd
            have Hkd := hide hkd
            have hb9 : ((tb.toNat : Int) == 9) = decide (tb = 9) := by
              rw [Bool.eq_iff_iff, beq_iff_eq, decide_eq_true_eq]
              constructor
              · intro h
                exact UInt8.toNat_inj.1 (by show _ = 9; omega)
              · rintro rfl
                rfl
            obtain ⟨b9, hb9'⟩ : ∃ b, decide (tb = 9) = b := ⟨_, rfl⟩
            rw [hb9'] at hb9
            have Hb9 := hide hb9'
            obtain ⟨W3, hW3⟩ : ∃ W3, w2.alloc (.cells #[.int .i64 k, .int .i64 0, .int .u64 0, .int .u64 0, .int .u64 0, .bool b9, .int .u64 0, .int .u64 0, .string ⟨#[]⟩, .slice none 0 0] 28) = W3 := ⟨_, rfl⟩
            have m3 : Mod NoB w2 W3 := by rw [← hW3]; exact (Mod.refl _ _).alloc _
            have f3 : FrameAt W3 w2.heap.size (f0 k b9) (.slice none 0 0) := by rw [← hW3]; exact heap_alloc_new w2 _
            have hof' := rcodec_any tb k hkd b9 bd (.slice (some ⟨g, o, none⟩) bd.length cap) W3
            have M3 := hide m3
            have F3 := hide f3
            have z3' : W3.heap.size = w2.heap.size + 1 := by rw [← hW3]; simp
            have HW3 := hide hW3
            clear hkd hb9' m3 f3 hW3
            go_wp2_with (go_at_call 25; refine (hkn _).mono ?_; rintro e w' ⟨rfl, rfl⟩)
            rw [HW3.out]
            refine hof'.mono ?_
            rintro e w4 ⟨cb, wv, F, caps, G, rfl, hc4, gF, gG, m4, hcb, hread, hsound⟩
            have s3 := M3.out.size
            have c41 := hc4.2.1
            have N4 : Hid (Mod (Only (w.heap.size + 1 + 1)) W1 w4) := (N2.out.then M3.out (fun i hi => hi.elim)).then m4 (fun i hi => hi.elim)
            have M4 : Hid (Mod (RA w) wr w4) := (M2.out.then M3.out (fun i hi => hi.elim)).then m4 (fun i hi => hi.elim)
            have F4 := F3.out.mod m4 (fun x => x)
            have R4 : RdAt w4 (w.heap.size + 1 + 1) (.slice (some ⟨g, o, none⟩) bd.length cap) (pos + 1) := (H2.out.mod M3.out (fun x => x)).mod m4 (fun x => x)
            have mw4 : Mod NoB w w4 := Hm.out.then M4.out (fun i hi => .inr (by rcases hi with rfl | rfl <;> omega))
            have hcl4 := hread (w.heap.size + 1 + 1) w2.heap.size (pos + 1) R4 (Hpre.out.mod mw4 (OffS.no _)) (fun g' o' n' c' e hx => by cases e; rcases hx with hx | hx <;> omega) (by omega) (by omega) F4 (by omega)
            have Hc4 := hide hc4
            have Hs4 := hide hsound
            have HgG := hide gG
            have gF' : ∀ args w, (callFunc F args).run Tryd.prog w = .ok (.enter F args) w := gF
            have s4 := m4.size
            clear hof' hc4 m4 hread hsound gF gG F4 R4 mw4 hkn hb9
            go_wp2_with fail
            refine hcl4.mono ?_
            rintro e w5 (⟨f, rv, p, hrb, rfl, h5, hf5, ho5, hnew5, m5⟩ | ⟨hrb, he, m5⟩)
            · have M5 : Hid (Mod (RA w) wr w5) := M4.out.then m5 (fun i hi => by
                rcases hi with hi | hi
                · exact .inl (.inl hi)
                · exact .inr (by omega))
              have N5 : Hid (Mod (Only (w.heap.size + 1 + 1)) W1 w5) := N4.out.then m5 (fun i hi => by
                rcases hi with hi | hi
                · exact .inl hi
                · have := N2.out.size
                  exact .inr (by omega))
              obtain ⟨d1, d2, d3, d4, d5⟩ := rdBody_read Hkd.out (by omega) hrb
              have hc5 : CodecAt w5 cb wv (.func (.func F) #[] caps) (.func (.func G) #[] #[]) := Hc4.out.mod m5 (by rintro (hi | hi) <;> omega)
              have hsn := sound_gen w2.heap.size cb f rv wv _ G (soundC f) w5 hf5 hc5 HgG.out (fun w' m hq => Hs4.out w' w2.heap.size f rv (hf5.mod m (fun x => x)) (ho5.rr.mod m (OffS.no _)) d1 (by omega) (by omega) hq)
              rw [show (numsOk f && strOk f && soundC f) = soundF f from rfl] at hsn
              have HF5 := hide hf5
              have HO5 := hide ho5
              have HN5 := hide hnew5
              have H5 := hide h5
              have s5 := m5.size
              clear hcl4 hc5 hf5 ho5 hnew5 h5 m5 gF' c41 d1
              cases hsf : soundF f with
              | false =>
                rw [hsf] at hsn
                have hrf : Hid (rdFrame bd pos = none) := by
                  show _ = _
                  unfold rdFrame
                  rw [Htb.out]
                  simp only [Hkd.out, Option.bind_some, Hb9.out, hrb, hsf]
                  rfl
                clear hrb hsf
                go_wp2_with (first | (go_at_call 27; refine hsn.mono ?_; rintro e w6 ⟨rfl, m6⟩; have M6 := hide m6; clear m6) | (go_at_call 23; refine (fail_any _ _).mono ?_; rintro e w' ⟨he, rfl⟩; unfold shortE at he; subst he))
                show bodyPostD Tryd.prog Tryd.f14 (Decoded w (decBody bd)) (Exit.panic _) _ _
                exact Hfail.out hrf.out _ w6 (by rfl) (by rfl) (M5.out.then M6.out (fun i hi => hi.elim)) (N5.out.then M6.out (fun i hi => hi.elim))
              | true =>
                rw [hsf] at hsn
                have hrf : Hid (rdFrame bd pos = some (f, p)) := by
                  show _ = _
                  unfold rdFrame
                  rw [Htb.out]
                  simp only [Hkd.out, Option.bind_some, Hb9.out, hrb, hsf]
                  rfl
                clear hrb hsf
                go_wp2_with fail
                refine hsn.mono ?_
                rintro e w6 ⟨rfl, m6⟩
                have M6 : Hid (Mod (RA w) wr w6) := M5.out.then m6 (fun i hi => hi.elim)
                have M56 : Hid (Mod NoB w5 w6) := m6
                have N6 : Hid (Mod (Only (w.heap.size + 1 + 1)) W1 w6) := N5.out.then m6 (fun i hi => hi.elim)
                have f6 := HF5.out.mod m6 (fun x => x)
                have o6 := HO5.out.mod m6 (fun _ _ x => x)
                have p6 : PkAt w6 w.heap.size num fv := M6.out.obj (fun hx => by rcases hx with hx | hx <;> omega) Hpk.out
                have of6 : OwnF w6 fv rvs := Hof.out.mod M6.out (fun i hi => .inr (by
                  rcases hi with rfl | rfl
                  · exact ⟨_, _, _, Hrd.out, by decide, by decide⟩
                  · exact ⟨_, _, _, Hat.out, by decide, by decide⟩))
                obtain ⟨ra, rc, rfl, _⟩ := own_form o6.1
                obtain ⟨k0, k1, k2, k3, k4, k5, k6, k7, k8, k9⟩ := f6.cells
                obtain ⟨v7, W7, hr7, own7, gr7, nw7⟩ := flit_app w6 fv rvs f ra f.rngs.length rc of6.1 (by omega)
                obtain ⟨fa, fc, rfl, _⟩ := own_form of6.1
                have cp6 : w6.cell? ⟨w.heap.size, 1, none⟩ = some (.slice fa rvs.length fc) := cell_of_obj p6 rfl
                obtain ⟨W8, hW8⟩ : ∃ W8, W7.setCell ⟨w.heap.size, 1, none⟩ v7 = W8 := ⟨_, rfl⟩
                have m7 : Mod (fun k => (Value.slice fa rvs.length fc).ownBlock = some k) w6 W7 := (Mod.refl _ _).grown gr7 (fun k hk => .inl hk)
                have p7 : PkAt W7 w.heap.size num (.slice fa rvs.length fc) := m7.obj (fun hx => own_not_type of6.1 p6 (by decide) hx) p6
                have cp7 : W7.cell? ⟨w.heap.size, 1, none⟩ = some (.slice fa rvs.length fc) := cell_of_obj p7 rfl
                have fp7 : W7.frozen? ⟨w.heap.size, 1, none⟩ = false := frozen_of_obj p7
                obtain ⟨va, vc, rfl, _⟩ := own_form own7
                have HO6 := hide o6
                have HP7 := hide p7
                have HOF6 := hide of6
                have HM7 := hide m7
                have HOWN7 := hide own7
                have HNW7 := hide nw7
                have HF6 := hide f6
                clear hsn m6 f6 o6 p6 of6 p7 m7 own7 nw7 gr7
                unfold frCells at hr7
                go_wp2_with (at_builtin; refine wpList_append_is rfl _ _ _ _ rfl _ _ _ rfl rfl hr7 ?_)
                have m8 : Mod (fun k => k = w.heap.size) W7 W8 := by rw [← hW8]; exact (Mod.refl (fun k => k = w.heap.size) W7).setCell (p := ⟨w.heap.size, 1, none⟩) (.inl rfl) _
                have HA8 : DecAt w W8 (.slice (some ⟨g, o, none⟩) bd.length cap) bd num R := by
                  have hS7 : ∀ i, (Value.slice fa rvs.length fc).ownBlock = some i → w.heap.size ≤ i := fun i hi => Hn1.out i hi
                  have q1 : ¬ (Value.slice fa rvs.length fc).ownBlock = some (w.heap.size + 1 + 1) := fun hx => own_not_type Hof.out.1 Hrd.out (by decide) hx
                  have q2 : ¬ (Value.slice fa rvs.length fc).ownBlock = some (w.heap.size + 1) := fun hx => own_not_type Hof.out.1 Her.out (by decide) hx
                  have q3 : ¬ (Value.slice fa rvs.length fc).ownBlock = some (w.heap.size + 1 + 1 + 1) := fun hx => own_not_type Hof.out.1 Hat.out (by decide) hx
                  have er6 : ErAt w6 (w.heap.size + 1) .nilIface := M6.out.obj (fun hx => by rcases hx with hx | hx <;> omega) Her.out
                  have at6 : AtAt w6 (w.heap.size + 1 + 1 + 1) pos := N6.out.obj (fun hx => by have : w.heap.size + 1 + 1 + 1 = w.heap.size + 1 + 1 := hx; omega) A1.out
                  have rd6 : RdAt w6 (w.heap.size + 1 + 1) (.slice (some ⟨g, o, none⟩) bd.length cap) p := H5.out.mod (Mod.refl NoB w5) (fun x => x) |>.mod (S := NoB) M56.out (fun x => x)
                  refine ⟨fuel, p, .slice va (rvs.length + 1) vc, rvs ++ [(f, .slice ra f.rngs.length rc)], pos, ?_, ?_, ?_, ?_, ⟨?_, ?_⟩, ?_, ?_, d3, by omega, ?_, ?_, ?_⟩
                  · exact (rd6.mod HM7.out q1).mod m8 (by show ¬ w.heap.size + 1 + 1 = w.heap.size; omega)
                  · unfold PkAt
                    rw [← hW8, obj_setCell HP7.out]
                    simp
                  · exact m8.obj (by show ¬ w.heap.size + 1 = w.heap.size; omega) (HM7.out.obj q2 er6)
                  · exact m8.obj (by show ¬ w.heap.size + 1 + 1 + 1 = w.heap.size; omega) (HM7.out.obj q3 at6)
                  · have := m8.owns HOWN7.out (fun i hi hx => own_not_type HOWN7.out HP7.out (by decide) (by rw [hi, hx]))
                    simpa using this
                  · intro x hx
                    have hx6 : OwnR w6 x.2 x.1.rngs ∧ ∀ i, x.2.ownBlock = some i → ¬ (Value.slice fa rvs.length fc).ownBlock = some i := by
                      rcases List.mem_append.1 hx with h1 | h1
                      · refine ⟨HOF6.out.2 x h1, fun i hi hj => ?_⟩
                        exact two_types HOF6.out.1 (HOF6.out.2 x h1).1 (by decide) hj hi
                      · simp only [List.mem_singleton] at h1
                        subst h1
                        exact ⟨HO6.out, fun i hi hj => two_types HOF6.out.1 HO6.out.1 (by decide) hj hi⟩
                    have h7 := hx6.1.mod HM7.out hx6.2
                    exact h7.mod m8 (fun i hi hj => own_not_type h7.1 HP7.out (by decide) (by rw [hi]; exact congrArg some hj))
                  · intro i hi
                    rcases HNW7.out i hi with h1 | h1
                    · exact hS7 i h1
                    · have := M6.out.size
                      omega
                  · intro x hx i hi
                    rcases List.mem_append.1 hx with h1 | h1
                    · exact Hn2.out x h1 i hi
                    · simp only [List.mem_singleton] at h1
                      subst h1
                      have := own_newsl HO6.out.1 HN5.out i hi
                      omega
                  · simp only [List.length_append, List.length_cons, List.length_nil]
                    omega
                  · exact ((Hm.out.then M6.out (fun i hi => .inr (by rcases hi with rfl | rfl <;> omega))).then HM7.out (fun i hi => .inr (hS7 i hi))).then m8 (fun i hi => .inr (by cases hi; omega))
                  · have := HR.out
                    rw [hrf.out] at this
                    simpa using this
                have HP : Hid (posOf W8 (w.heap.size + 1 + 1) = p ∧ posOf wr (w.heap.size + 1 + 1) = pos) := by
                  obtain ⟨_, p', _, _, _, hr8, _, _, _, _, _, _, _, _, _, _, _⟩ := id HA8
                  refine ⟨?_, posOf_at Hrd.out⟩
                  have rd6 : RdAt w6 (w.heap.size + 1 + 1) (.slice (some ⟨g, o, none⟩) bd.length cap) p := H5.out.mod (S := NoB) M56.out (fun x => x)
                  have q1 : ¬ (Value.slice fa rvs.length fc).ownBlock = some (w.heap.size + 1 + 1) := fun hx => own_not_type Hof.out.1 Hrd.out (by decide) hx
                  exact posOf_at ((rd6.mod HM7.out q1).mod m8 (by show ¬ w.heap.size + 1 + 1 = w.heap.size; omega))
                have HA8' := hide HA8
                have Hlt := hide hlt
                clear HA8 m8 hlt
                go_roundw
                case rel => exact HA8'.out
                case measure =>
                  have := Hlt.out
                  rw [HP.out.1, HP.out.2]
                  omega
            · have N5 : Hid (Mod (Only (w.heap.size + 1 + 1)) W1 w5) := N4.out.then m5 (fun i hi => by
                rcases hi with hi | hi
                · exact .inl hi
                · have := N2.out.size
                  exact .inr (by omega))
              have M5 : Hid (Mod (RA w) wr w5) := M4.out.then m5 (fun i hi => by
                rcases hi with hi | hi
                · exact .inl (.inl hi)
                · exact .inr (by omega))
              have hrf : Hid (rdFrame bd pos = none) := by
                show _ = _
                unfold rdFrame
                rw [Htb.out]
                simp only [Hkd.out, Option.bind_some, Hb9.out, hrb, Option.bind_none]
              unfold shortE at he
              subst he
              show bodyPostD Tryd.prog Tryd.f14 (Decoded w (decBody bd)) (Exit.panic _) _ _
              exact Hfail.out hrf.out _ w5 (by rfl) (by rfl) M5.out N5.out
        · rw [if_neg hlt] at hR
          have HR : Hid (decBody bd = .ok num (rvs.map (·.1))) := by show _ = _; rw [HDR.out]; exact hR.symm
          have cp0 : wr.cell? ⟨w.heap.size, 0, none⟩ = some (.int .u64 (num : Int)) := cell_of_obj hpk rfl
          have ce0 : wr.cell? ⟨w.heap.size + 1, 0, none⟩ = some .nilIface := cell_of_obj her rfl
          obtain ⟨fa, fc, rfl, _⟩ := own_form hof.1
          have cp1 : wr.cell? ⟨w.heap.size, 1, none⟩ = some (.slice fa rvs.length fc) := cell_of_obj hpk rfl
          have f0' : ∀ j, wr.frozen? ⟨w.heap.size, j, none⟩ = false := fun j => frozen_of_obj hpk
          have f1' : ∀ j, wr.frozen? ⟨w.heap.size + 1, j, none⟩ = false := fun j => frozen_of_obj her
          clear hR hrd hpk her hat hof hn1 hn2 hm
          go_wp2_with fail
          obtain ⟨Z, hZ⟩ : ∃ Z, ((wr.setCell ⟨w.heap.size, 0, none⟩ (.int .u64 (num : Int))).setCell ⟨w.heap.size, 1, none⟩ (.slice fa rvs.length fc)).setCell ⟨w.heap.size + 1, 0, none⟩ .nilIface = Z := ⟨_, rfl⟩
          rw [hZ]
          have mZ : Mod (fun k => k = w.heap.size ∨ k = w.heap.size + 1) wr Z := by
            rw [← hZ]
            exact (((Mod.refl (fun k => k = w.heap.size ∨ k = w.heap.size + 1) wr).setCell (p := ⟨w.heap.size, 0, none⟩) (.inl (.inl rfl)) _).setCell (p := ⟨w.heap.size, 1, none⟩) (.inl (.inl rfl)) _).setCell (p := ⟨w.heap.size + 1, 0, none⟩) (.inl (.inr rfl)) _
          have o1 := obj_setCell (i := 1) (v := .slice fa rvs.length fc) (obj_setCell (i := 0) (v := .int .u64 (num : Int)) Hpk.out)
          have pZ : PkAt Z w.heap.size num (.slice fa rvs.length fc) := by
            unfold PkAt
            rw [← hZ]
            exact (((Mod.refl (fun k => k = w.heap.size + 1) _).setCell (p := ⟨w.heap.size + 1, 0, none⟩) (.inl rfl) _).obj (by show ¬ w.heap.size = w.heap.size + 1; omega) o1).trans (by simp)
          have eZ : ErAt Z (w.heap.size + 1) .nilIface := by
            unfold ErAt
            rw [← hZ]
            have e1 := (((Mod.refl (fun k => k = w.heap.size) wr).setCell (p := ⟨w.heap.size, 0, none⟩) (.inl rfl) (.int .u64 (num : Int))).setCell (p := ⟨w.heap.size, 1, none⟩) (.inl rfl) (.slice fa rvs.length fc)).obj (by show ¬ w.heap.size + 1 = w.heap.size; omega) Her.out
            exact (obj_setCell (i := 0) e1).trans (by simp)
          refine door_ok (decBody bd) w Z _ w.heap.size (w.heap.size + 1) num _ _ _ (.slice fa rvs.length fc) rvs (by rfl) (by rfl) (Hm.out.then mZ (fun i hi => .inr (by rcases hi with rfl | rfl <;> omega))) pZ eZ ?_ Hn1.out Hn2.out HR.out
          exact Hof.out.mod mZ (fun i hi => .inr (by
            rcases hi with rfl | rfl
            · exact ⟨_, _, _, Hpk.out, by decide, by decide⟩
            · exact ⟨_, _, _, Her.out, by decide, by decide⟩))
end Go.Proofs.YtddfdpbaiedcjaaDoor
