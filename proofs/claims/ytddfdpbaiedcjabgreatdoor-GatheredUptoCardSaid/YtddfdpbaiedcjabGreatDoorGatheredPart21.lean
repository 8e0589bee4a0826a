/- The statement Gathered, second form, its card: where what the law reads is of bulk at most 1048576, and the two listed variables read as listed, it returns true, and its argument reads behind the call as before. Part 21 of 23. -/
import Derived.Test.YtddfdpbaiedcjabGreatDoorGatheredPart12
import Derived.Test.YtddfdpbaiedcjabGreatDoorGatheredPart20
import Derived.Test.YtddfdpbaiedcjabGreatDoorGatheredPart9
import Derived.Test.YtddfdpbaiedcjabGreatDoorGatheredPart3
import Derived.Test.YtddfdpbaiedcjabGreatDoorGatheredPart1
/- mediawirelaw.plays: what each of its laws has in common. -/
namespace Go.Proofs.YtddfdpbaiedcjabGreatDoor
open Go.RowKit

/-- A list of kinds lies there. -/
def KsAt (w : World) (v : Value) (ks : List Int) : Prop := ∃ g o cap, v = .slice (some ⟨g, o, none⟩) ks.length cap ∧ ks.length ≤ cap ∧ cap ≤ 1048576 ∧ ∀ i k, ks[i]? = some k → w.cell? ⟨g, o + i, none⟩ = some (.int .i64 k)

theorem KsAt.mod0 {w w' : World} {v : Value} {ks : List Int} (h : KsAt w v ks) (m : Mod NoB w w') : KsAt w' v ks := by
  obtain ⟨g, o, cap, rfl, h1, h2, h3⟩ := h
  exact ⟨g, o, cap, rfl, h1, h2, fun i k hi => m.cell (a := ⟨g, _, none⟩) (fun x => x) (h3 i k hi)⟩

/-- The packet of a step holds early frames alone. -/
def earlyO (o : Stp) : Bool := if o.kind = 9 then earlyF (frsR (dec o.s)) else earlyF (o.fs.map (·.1))

/-- Is the step played? -/
def playsO (ks : List Int) (first : Bool) (o : Stp) : Bool := ks.any (fun k => o.kind == k) && !(first && !earlyO o)

def inTo (ks : List Int) (z : Int) (k : Nat) : Bool := (ks.take k).any fun q => z == q

theorem inTo_succ (ks : List Int) (z : Int) (k : Nat) (q : Int) (h : ks[k]? = some q) : inTo ks z (k + 1) = (inTo ks z k || z == q) := by
  unfold inTo
  rw [List.take_add_one, h]
  simp

def WorldObj (w : World) (b : Nat) (first : Bool) : Prop := w.heap[b]? = some (.cells #[.slice none 0 0, .slice none 0 0, .slice none 0 0, .slice none 0 0, .slice none 0 0, .bool first] 33 (0, 0))

set_option maxRecDepth 100000 in
set_option maxHeartbeats 1000000 in
theorem plays_any (l : List Stp) (v kv : Value) (ks : List Int) (first : Bool) (w : World) (P : Nat → Nat → World → Prop) (hscr : ScrAt w v l) (hks : KsAt w kv ks) (hb : bulkS l ≤ 1048576)
    (hstart : ∀ b w0, Mod NoB w w0 → w.heap.size ≤ b → WorldObj w0 b first → P b 0 w0)
    (hmod : ∀ b k w1 w2, P b k w1 → Mod NoB w1 w2 → P b k w2) (hsafe : ∀ b k w1, P b k w1 → Mod NoB w w1)
    (hskip : ∀ b k o w1, l[k]? = some o → playsO ks first o = false → P b k w1 → P b (k + 1) w1)
    (hstep : ∀ b k o w1, l[k]? = some o → playsO ks first o = true → P b k w1 → Calls Tryz.prog 9 #[.pointer (some ⟨b, 0, none⟩), .agg (stCells o)] w1 fun e w' => e = .returned (.bool true) ∧ P b (k + 1) w') :
    Calls Tryz.prog 5 #[v, kv, .bool first] w (Says w true) := by
  have k1 := small_any l v w hscr hb
  have HSCR := hide hscr
  have HKS := hide hks
  have HBB := hide hb
  have HST := hide hstart
  have HMOD := hide hmod
  have HSF := hide hsafe
  have HSK := hide hskip
  have HSTEP := hide hstep
  obtain ⟨a, cap, rfl, h1, h2, _⟩ := id hscr
  obtain ⟨kg, ko, kc, rfl, _, _, _⟩ := id hks
  have hll : l.length ≤ 1048576 := by have := (bulkS_le l).1; omega
  unfold maxLen at h2
  clear hscr hks hb hstart hmod hsafe hskip hstep
  go_enter Tryz.func5, Tryz.ntmps5
  go_wp2_with fail
  refine k1.mono ?_
  clear k1
  rintro e w1 ⟨b, rfl, m1⟩
  have M1 := hide m1
  clear m1
  cases b
  · go_wp2_with fail
    go_ret
    exact ⟨rfl, M1.out⟩
  · go_wp2_with fail
    obtain ⟨W0, hW0⟩ : ∃ W0, w1.alloc (.cells #[.slice none 0 0, .slice none 0 0, .slice none 0 0, .slice none 0 0, .slice none 0 0, .bool first] 33) = W0 := ⟨_, rfl⟩
    rw [hW0]
    have h0 : P w1.heap.size 0 W0 := HST.out _ _ (M1.out.trans (by rw [← hW0]; exact (Mod.refl _ _).alloc _)) M1.out.size (by rw [← hW0]; exact heap_alloc_new w1 _)
    have H0 := hide h0
    clear hW0 h0
    go_loopw [9] (fun i wr => ∃ k : Nat, k ≤ l.length ∧ i = .int .i64 k ∧ Hid (P w1.heap.size k wr)) (fun i _ => l.length - (intOf i).toNat)
    case atStart => exact ⟨0, Nat.zero_le _, rfl, H0⟩
    case round =>
      obtain ⟨k, hk, rfl, hP⟩ := hrel
      have m := HSF.out _ _ _ hP.out
      by_cases hlt : k < l.length
      · obtain ⟨o, ho⟩ : ∃ o, l[k]? = some o := ⟨l[k], List.getElem?_eq_getElem hlt⟩
        obtain ⟨a', cap', hv', _, _, h3⟩ := HSCR.out.mod0 m
        cases hv'
        obtain ⟨⟨g, off, rfl, hc⟩, hf, _⟩ := h3 k o ho
        obtain ⟨hc0, hc1, hc2, hc3, hc4, hc5, hc6⟩ := st_cells hc
        obtain ⟨WB, hWB⟩ : ∃ WB, WB = wr := ⟨_, rfl⟩
        subst hWB
        obtain ⟨W2, hW2⟩ : ∃ W2, WB.alloc (.cells (stCells o) 39) = W2 := ⟨_, rfl⟩
        have m2 : Mod NoB WB W2 := by rw [← hW2]; exact (Mod.refl _ _).alloc _
        have oO : W2.heap[WB.heap.size]? = some (.cells (stCells o) 39 (0, 0)) := by rw [← hW2]; exact heap_alloc_new WB _
        have M := hide m
        have HF := hide hf
        have HO := hide oO
        have M2 := hide m2
        have HOO := hide ho
        have HW2 := hide hW2
        obtain ⟨fa, fc, hfv, _⟩ := id hf
        have HFV := hide hfv
        rw [hfv] at hc6
        clear hc h3 m ho hf oO m2 hW2 hfv
        unfold stCells at HW2
        rw [HFV.out] at HW2
        go_wp2_with fail
        rw [HW2.out]
        go_loopw [11, 12] (fun nv j wr => ∃ q : Nat, q ≤ ks.length ∧ nv = .bool (inTo ks o.kind q) ∧ j = .int .i64 q ∧ Mod NoB W2 wr) (fun _ j _ => ks.length - (intOf j).toNat)
        case atStart => exact ⟨0, Nat.zero_le _, rfl, rfl, Mod.refl _ _⟩
        case round =>
          obtain ⟨q, hq, rfl, rfl, m⟩ := hrel
          have M3 := hide m
          have oO := m.obj (fun x => x) HO.out
          unfold stCells at oO
          rw [HFV.out] at oO
          have o0 : wr.cell? ⟨WB.heap.size, 0, none⟩ = some (.int .i64 o.kind) := cell_of_obj oO rfl
          have o4 : wr.cell? ⟨WB.heap.size, 4, none⟩ = some (.string (strOf o.s)) := cell_of_obj oO rfl
          have o5 : wr.cell? ⟨WB.heap.size, 5, none⟩ = some (.int .u64 (o.n : Int)) := cell_of_obj oO rfl
          have o6 : wr.cell? ⟨WB.heap.size, 6, none⟩ = some (.slice fa o.fs.length fc) := cell_of_obj oO rfl
          by_cases hlq : q < ks.length
          · obtain ⟨kz, hkz⟩ : ∃ kz, ks[q]? = some kz := ⟨ks[q], List.getElem?_eq_getElem hlq⟩
            obtain ⟨g', o', c', e', _, _, hk3⟩ := (((HKS.out.mod0 M.out).mod0 M2.out).mod0 m)
            cases e'
            have hkc := hk3 q kz hkz
            have HI := hide (inTo_succ ks o.kind q kz hkz)
            clear hk3 m oO hkz
            obtain ⟨ib, hib⟩ : ∃ ib, inTo ks o.kind q = ib := ⟨_, rfl⟩
            rw [hib] at HI
            rw [hib]
            have HIB := hide hib
            clear hib
            cases ib
            · by_cases hz : o.kind = kz
              · have hzb : (o.kind == kz) = true := by rw [hz]; exact beq_self_eq_true _
                have HZ := hide hz
                rw [hzb] at HI
                clear hz
                go_wp2_with fail
                go_quiet (fail)
                go_wp2_with fail
                go_roundw
                case rel => exact ⟨q + 1, by omega, by rw [HI.out]; rfl, by go_num, M3.out.drewN _⟩
                case measure => simp [intOf]; omega
              · have hzb : (o.kind == kz) = false := beq_eq_false_iff_ne.2 hz
                rw [hzb] at HI
                clear hz
                go_wp2_with fail
                go_quiet (fail)
                go_wp2_with fail
                go_roundw
                case rel => exact ⟨q + 1, by omega, by rw [HI.out]; rfl, by go_num, M3.out.drewN _⟩
                case measure => simp [intOf]; omega
            · go_wp2_with fail
              go_quiet (fail)
              go_wp2_with fail
              go_roundw
              case rel => exact ⟨q + 1, by omega, by rw [HI.out]; rfl, by go_num, M3.out.drewN _⟩
              case measure => simp [intOf]; omega
          · have hqk : q = ks.length := by omega
            rw [hqk]
            obtain ⟨ib, hib⟩ : ∃ ib, inTo ks o.kind ks.length = ib := ⟨_, rfl⟩
            have HIN := hide hib
            rw [hib]
            clear hib hqk oO
            have ke := early_any o.n o.fs (.slice fa o.fs.length fc) wr (by rw [← HFV.out]; exact (HF.out.mod0 M2.out).mod0 m)
            clear m
            go_wp2_with fail
            refine ke.mono ?_
            clear ke
            rintro e w3 ⟨rfl, m3⟩
            have M4 := hide (M3.out.trans m3)
            have o0 := m3.cell (a := ⟨WB.heap.size, 0, none⟩) (fun x => x) o0
            have o4 := m3.cell (a := ⟨WB.heap.size, 4, none⟩) (fun x => x) o4
            clear m3
            by_cases h9 : o.kind = 9
            · have hsl : o.s.length ≤ 1048576 := by
                have h1 := ((bulkS_le l).2 o (List.mem_of_getElem? HOO.out)).1
                have h2 := HBB.out
                omega
              have HEO : Hid (earlyO o = earlyF (frsR (dec o.s))) := by show _ = _; rw [earlyO, if_pos h9]
              obtain ⟨bc, w4, hcv, hbr, m4, hs4⟩ := str_bytes w3 o.s (by omega)
              have kd := rdecode_any (.slice (some ⟨w3.heap.size, 0, none⟩) o.s.length bc) o.s w4 hbr (by omega)
              have M5 := hide (M4.out.trans m4)
              clear hbr m4 hs4 hsl
              have b9 : (o.kind == 9) = true := by rw [h9]; rfl
              have H9 := hide h9
              clear h9
              go_wp2_with fail
              refine kd.mono ?_
              clear kd
              rintro e w5 hp5
              obtain ⟨m5, ga, gc, rvs, rfl, own5, hm5⟩ := hp5.shape
              obtain ⟨W6, hW6⟩ : ∃ W6, w5.alloc (.cells #[.int .u64 (numR (dec o.s) : Int), .slice ga rvs.length gc] 37) = W6 := ⟨_, rfl⟩
              have m6 : Mod NoB w5 W6 := by rw [← hW6]; exact (Mod.refl _ _).alloc _
              have p0 : W6.cell? ⟨w5.heap.size, 0, none⟩ = some (.int .u64 (numR (dec o.s) : Int)) := by rw [← hW6]; exact cell_of_obj (heap_alloc_new w5 _) rfl
              have p1 : W6.cell? ⟨w5.heap.size, 1, none⟩ = some (.slice ga rvs.length gc) := by rw [← hW6]; exact cell_of_obj (heap_alloc_new w5 _) rfl
              have ke2 := early_any (numR (dec o.s)) rvs (.slice ga rvs.length gc) W6 (own5.mod m6 (fun i hi => hi.elim)).frs
              rw [hm5] at ke2
              obtain ⟨eb, heb⟩ : ∃ eb, earlyF (frsR (dec o.s)) = eb := ⟨_, rfl⟩
              have HEB : Hid (earlyO o = eb) := by show _ = _; rw [HEO.out, heb]
              rw [heb] at ke2
              have M6 := hide ((M5.out.trans m5).trans m6)
              have HW6 := hide hW6
              rw [← hW6] at p0 p1
              clear heb m5 m6 own5 hm5 hp5 hW6
              go_wp2_with fail
              rw [HW6.out]
              refine ke2.mono ?_
              clear ke2
              rintro e w7 ⟨rfl, m7⟩
              have MX := hide (M6.out.trans m7)
              clear m7 p0 p1
              go_upto_region 18 with fail
              obtain ⟨WX, hWX⟩ : ∃ WX, WX = w7 := ⟨_, rfl⟩
              subst hWX
              have mX := MX.out
              have oX := mX.obj (fun x => x) HO.out
              unfold stCells at oX
              rw [HFV.out] at oX
              have x0 : WX.cell? ⟨WB.heap.size, 0, none⟩ = some (.int .i64 o.kind) := cell_of_obj oX rfl
              have x1 : WX.cell? ⟨WB.heap.size, 1, none⟩ = some (.int .i64 o.a) := cell_of_obj oX rfl
              have x2 : WX.cell? ⟨WB.heap.size, 2, none⟩ = some (.int .i64 o.b) := cell_of_obj oX rfl
              have x3 : WX.cell? ⟨WB.heap.size, 3, none⟩ = some (.int .i64 o.c) := cell_of_obj oX rfl
              have x4 : WX.cell? ⟨WB.heap.size, 4, none⟩ = some (.string (strOf o.s)) := cell_of_obj oX rfl
              have x5 : WX.cell? ⟨WB.heap.size, 5, none⟩ = some (.int .u64 (o.n : Int)) := cell_of_obj oX rfl
              have x6 : WX.cell? ⟨WB.heap.size, 6, none⟩ = some (.slice fa o.fs.length fc) := cell_of_obj oX rfl
              have HPX := hide (HMOD.out _ _ _ _ hP.out (M2.out.trans mX))
              have hst := fun hp => HSTEP.out _ _ _ _ HOO.out hp HPX.out
              have HSKX := hide (fun hp => HSK.out _ _ _ _ HOO.out hp HPX.out)
              unfold stCells at hst
              rw [HFV.out] at hst
              obtain ⟨pb, hpb⟩ : ∃ pb, playsO ks first o = pb := ⟨_, rfl⟩
              have hpe : pb = (ib && !(first && !eb)) := by
                rw [← hpb, playsO, HEB.out, ← HIN.out]
                unfold inTo
                rw [List.take_length]
              rw [hpb] at hst HSKX
              clear mX oX hpb
              cases ib
              · have HSKY := hide (HSKX.out hpe)
                clear hst HSKX hpe
                go_wp2_with fail
                go_roundw
                case rel => exact ⟨k + 1, by omega, by go_num, HSKY⟩
                case measure => simp [intOf]; omega
              · cases first
                · have hst := hst hpe
                  clear hpe
                  go_wp2_with fail
                  refine hst.mono ?_
                  rintro e w5 ⟨rfl, hp5⟩
                  have HP5 := hide hp5
                  clear hp5 hst
                  go_wp2_with fail
                  go_roundw
                  case rel => exact ⟨k + 1, by omega, by go_num, HP5⟩
                  case measure => simp [intOf]; omega
                · cases eb
                  · have HSKY := hide (HSKX.out hpe)
                    clear hst HSKX hpe
                    go_wp2_with fail
                    go_roundw
                    case rel => exact ⟨k + 1, by omega, by go_num, HSKY⟩
                    case measure => simp [intOf]; omega
                  · have hst := hst hpe
                    clear hpe
                    go_wp2_with fail
                    refine hst.mono ?_
                    rintro e w5 ⟨rfl, hp5⟩
                    have HP5 := hide hp5
                    clear hp5 hst
                    go_wp2_with fail
                    go_roundw
                    case rel => exact ⟨k + 1, by omega, by go_num, HP5⟩
                    case measure => simp [intOf]; omega
            · have b9 : (o.kind == 9) = false := beq_eq_false_iff_ne.2 h9
              obtain ⟨eb, heb⟩ : ∃ eb, earlyF (o.fs.map (·.1)) = eb := ⟨_, rfl⟩
              have HEB : Hid (earlyO o = eb) := by show _ = _; rw [earlyO, if_neg h9, heb]
              rw [heb]
              clear heb h9
              go_upto_region 18 with fail
              obtain ⟨WX, hWX⟩ : ∃ WX, WX = w3 := ⟨_, rfl⟩
              subst hWX
              have MX := M4
              have mX := MX.out
              have oX := mX.obj (fun x => x) HO.out
              unfold stCells at oX
              rw [HFV.out] at oX
              have x0 : WX.cell? ⟨WB.heap.size, 0, none⟩ = some (.int .i64 o.kind) := cell_of_obj oX rfl
              have x1 : WX.cell? ⟨WB.heap.size, 1, none⟩ = some (.int .i64 o.a) := cell_of_obj oX rfl
              have x2 : WX.cell? ⟨WB.heap.size, 2, none⟩ = some (.int .i64 o.b) := cell_of_obj oX rfl
              have x3 : WX.cell? ⟨WB.heap.size, 3, none⟩ = some (.int .i64 o.c) := cell_of_obj oX rfl
              have x4 : WX.cell? ⟨WB.heap.size, 4, none⟩ = some (.string (strOf o.s)) := cell_of_obj oX rfl
              have x5 : WX.cell? ⟨WB.heap.size, 5, none⟩ = some (.int .u64 (o.n : Int)) := cell_of_obj oX rfl
              have x6 : WX.cell? ⟨WB.heap.size, 6, none⟩ = some (.slice fa o.fs.length fc) := cell_of_obj oX rfl
              have HPX := hide (HMOD.out _ _ _ _ hP.out (M2.out.trans mX))
              have hst := fun hp => HSTEP.out _ _ _ _ HOO.out hp HPX.out
              have HSKX := hide (fun hp => HSK.out _ _ _ _ HOO.out hp HPX.out)
              unfold stCells at hst
              rw [HFV.out] at hst
              obtain ⟨pb, hpb⟩ : ∃ pb, playsO ks first o = pb := ⟨_, rfl⟩
              have hpe : pb = (ib && !(first && !eb)) := by
                rw [← hpb, playsO, HEB.out, ← HIN.out]
                unfold inTo
                rw [List.take_length]
              rw [hpb] at hst HSKX
              clear mX oX hpb
              cases ib
              · have HSKY := hide (HSKX.out hpe)
                clear hst HSKX hpe
                go_wp2_with fail
                go_roundw
                case rel => exact ⟨k + 1, by omega, by go_num, HSKY⟩
                case measure => simp [intOf]; omega
              · cases first
                · have hst := hst hpe
                  clear hpe
                  go_wp2_with fail
                  refine hst.mono ?_
                  rintro e w5 ⟨rfl, hp5⟩
                  have HP5 := hide hp5
                  clear hp5 hst
                  go_wp2_with fail
                  go_roundw
                  case rel => exact ⟨k + 1, by omega, by go_num, HP5⟩
                  case measure => simp [intOf]; omega
                · cases eb
                  · have HSKY := hide (HSKX.out hpe)
                    clear hst HSKX hpe
                    go_wp2_with fail
                    go_roundw
                    case rel => exact ⟨k + 1, by omega, by go_num, HSKY⟩
                    case measure => simp [intOf]; omega
                  · have hst := hst hpe
                    clear hpe
                    go_wp2_with fail
                    refine hst.mono ?_
                    rintro e w5 ⟨rfl, hp5⟩
                    have HP5 := hide hp5
                    clear hp5 hst
                    go_wp2_with fail
                    go_roundw
                    case rel => exact ⟨k + 1, by omega, by go_num, HP5⟩
                    case measure => simp [intOf]; omega
      · clear m
        go_wp2_with fail
        go_ret
        exact ⟨rfl, HSF.out _ _ _ hP.out⟩
end Go.Proofs.YtddfdpbaiedcjabGreatDoor
/- mediawirelaw.World: its sets. What holds between the steps. -/
namespace Go.Proofs.YtddfdpbaiedcjabGreatDoor
open Go.RowKit

/-- A set of the program, the document's set beside it. -/
structure Ent where
  b : Nat
  v : Value
  mb : Nat
  mv : Value
  rs : Rngs
  fl : Nat
  most : Nat

def psx (L : List Ent) : List Value := L.map fun e => .pointer (some ⟨e.b, 0, none⟩)
def psm (L : List Ent) : List Value := L.map fun e => .pointer (some ⟨e.mb, 0, none⟩)

/-- Each block that the world's sets lie in bears a tag: whose it is. -/
structure EntAt (tag : Nat → Nat × Nat) (k i : Nat) (e : Ent) (W : World) : Prop where
  s : SetAt W e.b 0 e.v e.rs e.fl e.most
  r : RSetAt W e.mb e.mv e.rs e.fl e.most
  wf : WF e.rs
  len : e.rs.length ≤ k
  m1 : 1 ≤ e.most
  m2 : e.most ≤ 9223372036854775807
  fl : e.fl < 18446744073709551616
  tb : tag e.b = (3, i)
  tv : ∀ g, e.v.ownBlock = some g → tag g = (4, i)
  tm : tag e.mb = (5, i)
  tw : ∀ g o n c, e.mv = .slice (some ⟨g, o, none⟩) n c → tag g = (6, i)

theorem RSetAt.mod {S : Nat → Prop} {w w' : World} {b : Nat} {v : Value} {rs : Rngs} {fl most : Nat} (h : RSetAt w b v rs fl most) (m : Mod S w w') (hb : ¬ S b) (hs : OffS S v) : RSetAt w' b v rs fl most :=
  ⟨m.obj hb h.obj, h.rd.mod m hs, h.len⟩

theorem EntAt.mod {S : Nat → Prop} {tag tag' : Nat → Nat × Nat} {k k' i : Nat} {e : Ent} {W W' : World} (h : EntAt tag k i e W) (m : Mod S W W') (hS : ∀ g, S g → tag g ≠ (3, i) ∧ tag g ≠ (4, i) ∧ tag g ≠ (5, i) ∧ tag g ≠ (6, i)) (hk : k ≤ k') (ht : ∀ g, tag g ≠ (0, 0) → tag' g = tag g) : EntAt tag' k' i e W' := by
  refine ⟨h.s.mod m (fun x => (hS _ x).1 h.tb) (fun g hg x => (hS _ x).2.1 (h.tv g hg)), h.r.mod m (fun x => (hS _ x).2.2.1 h.tm) (fun g o n c e x => (hS _ x).2.2.2 (h.tw g o n c e)), h.wf, Nat.le_trans h.len hk, h.m1, h.m2, h.fl, ?_, fun g hg => ?_, ?_, fun g o n c e => ?_⟩
  · rw [ht _ (by rw [h.tb]; simp), h.tb]
  · rw [ht _ (by rw [h.tv g hg]; simp), h.tv g hg]
  · rw [ht _ (by rw [h.tm]; simp), h.tm]
  · rw [ht _ (by rw [h.tw g o n c e]; simp), h.tw g o n c e]

structure SetsAt (w : World) (b k : Nat) (first : Bool) (L : List Ent) (tag : Nat → Nat × Nat) (vx vm : Value) (W : World) : Prop where
  mod : Mod NoB w W
  le : L.length ≤ k
  obj : W.heap[b]? = some (.cells #[.slice none 0 0, .slice none 0 0, .slice none 0 0, vx, vm, .bool first] 33 (0, 0))
  ox : W.ownsRow 0 101 1 vx L.length (psx L)
  om : W.ownsRow 0 84 1 vm L.length (psm L)
  es : ∀ i e, L[i]? = some e → EntAt tag k i e W
  t0 : ∀ g, W.heap.size ≤ g → tag g = (0, 0)
  t1 : ∀ g, tag g ≠ (0, 0) → w.heap.size ≤ g
  tb : tag b = (1, 0)
  tx : ∀ g, vx.ownBlock = some g → tag g = (1, 1)
  tm : ∀ g, vm.ownBlock = some g → tag g = (2, 0)

theorem SetsAt.mod0 {w W W' : World} {b k k' : Nat} {first : Bool} {L : List Ent} {tag : Nat → Nat × Nat} {vx vm : Value} (h : SetsAt w b k first L tag vx vm W) (m : Mod NoB W W') (hk : k ≤ k') : SetsAt w b k' first L tag vx vm W' :=
  ⟨h.mod.trans m, Nat.le_trans h.le hk, m.obj (fun x => x) h.obj, m.owns h.ox (fun _ _ x => x), m.owns h.om (fun _ _ x => x), fun i e hi => (h.es i e hi).mod m (fun _ x => x.elim) hk (fun _ _ => rfl), fun g hg => h.t0 g (Nat.le_trans m.size hg), h.t1, h.tb, h.tx, h.tm⟩

theorem SetsAt.start {w W : World} {b : Nat} {first : Bool} (m : Mod NoB w W) (hb : w.heap.size ≤ b) (h : WorldObj W b first) : SetsAt w b 0 first [] (fun g => if g = b then (1, 0) else (0, 0)) (.slice none 0 0) (.slice none 0 0) W := by
  have hlt : b < W.heap.size := (Array.getElem?_eq_some_iff.1 h).1
  refine ⟨m, Nat.le_refl _, h, World.ownsRow_nil W 0 _ 1, World.ownsRow_nil W 0 _ 1, fun i e hi => by simp at hi, fun g hg => ?_, fun g hg => ?_, by simp, fun g hg => by simp [Value.ownBlock] at hg, fun g hg => by simp [Value.ownBlock] at hg⟩
  · rw [if_neg (by omega)]
  · by_cases e : g = b
    · omega
    · simp [e] at hg

/-- A set more. -/
theorem SetsAt.push {w W W' : World} {b k : Nat} {first : Bool} {L : List Ent} {tag : Nat → Nat × Nat} {vx vm vx' vm' : Value} (h : SetsAt w b k first L tag vx vm W) (s1 s2 s3 nb nm most : Nat)
    (m : Mod (fun g => g = b ∨ vx.ownBlock = some g ∨ vm.ownBlock = some g) W W')
    (hobj : W'.heap[b]? = some (.cells #[.slice none 0 0, .slice none 0 0, .slice none 0 0, vx', vm', .bool first] 33 (0, 0)))
    (hox : W'.ownsRow 0 101 1 vx' (L.length + 1) (psx L ++ [.pointer (some ⟨nb, 0, none⟩)])) (hom : W'.ownsRow 0 84 1 vm' (L.length + 1) (psm L ++ [.pointer (some ⟨nm, 0, none⟩)]))
    (hs : W'.heap[nb]? = some (.cells #[.slice none 0 0, .int .u64 0, .int .i64 (most : Int)] 138 (0, 0))) (hr : W'.heap[nm]? = some (.cells #[.slice none 0 0, .int .u64 0, .int .i64 (most : Int)] 106 (0, 0)))
    (h1 : W.heap.size ≤ nb) (h2 : nb < s1) (h3 : s1 ≤ s2) (h4 : s2 ≤ nm) (h5 : nm < s3) (h6 : s3 ≤ W'.heap.size)
    (hx : ∀ g, vx'.ownBlock = some g → vx.ownBlock = some g ∨ s1 ≤ g ∧ g < s2) (hm : ∀ g, vm'.ownBlock = some g → vm.ownBlock = some g ∨ s3 ≤ g ∧ g < W'.heap.size)
    (hmo : 1 ≤ most) (hmo2 : most ≤ 9223372036854775807) :
    ∃ L' tag', SetsAt w b (k + 1) first L' tag' vx' vm' W' := by
  refine ⟨L ++ [⟨nb, .slice none 0 0, nm, .slice none 0 0, [], 0, most⟩], fun g => if g < W.heap.size then tag g else if g < s1 then (3, L.length) else if g < s2 then (1, 1) else if g < s3 then (5, L.length) else if g < W'.heap.size then (2, 0) else (0, 0), ?_⟩
  have old : ∀ g, tag g ≠ (0, 0) → g < W.heap.size := fun g hg => by
    by_cases q : g < W.heap.size
    · exact q
    · exact absurd (h.t0 g (by omega)) hg
  have hsz := h.mod.size
  refine ⟨h.mod.then m (fun i hi => ?_), by have := h.le; simp; omega, hobj, ?_, ?_, fun i e hi => ?_, fun g hg => ?_, fun g hg => ?_, ?_, fun g hg => ?_, fun g hg => ?_⟩
  · rcases hi with hi | hi | hi
    · subst hi
      exact .inr (h.t1 _ (by rw [h.tb]; simp))
    · exact .inr (h.t1 _ (by rw [h.tx i hi]; simp))
    · exact .inr (h.t1 _ (by rw [h.tm i hi]; simp))
  · simpa [psx] using hox
  · simpa [psm] using hom
  · by_cases hlt : i < L.length
    · rw [List.getElem?_append_left hlt] at hi
      refine (h.es i e hi).mod m (fun g hg => ?_) (Nat.le_succ _) (fun g hg => by simp [old g hg])
      rcases hg with hg | hg | hg
      · rw [hg, h.tb]; simp
      · rw [h.tx g hg]; simp
      · rw [h.tm g hg]; simp
    · have hi0 : i = L.length := by
        have := (List.getElem?_eq_some_iff.1 hi).1
        simp at this
        omega
      subst hi0
      simp at hi
      subst hi
      refine ⟨⟨cell_of_obj hs rfl, cell_of_obj hs rfl, cell_of_obj hs rfl, World.ownsRow_nil W' 0 _ 2, by simp, fun j => ?_⟩, ⟨hr, ⟨none, 0, rfl, Nat.le_refl _, Nat.zero_le _, fun i hi => absurd hi (Nat.not_lt_zero i)⟩, by simp⟩, ⟨fun i hi => absurd hi (Nat.not_lt_zero i), fun i j _ hj => absurd hj (Nat.not_lt_zero j)⟩, by simp, hmo, hmo2, Nat.zero_lt_succ _, ?_, fun g hg => by simp [Value.ownBlock] at hg, ?_, fun g o n c e => by cases e⟩
      · simp [World.frozen?, hs]
      · simp only [show ¬ nb < W.heap.size by omega, if_neg, not_false_eq_true, if_pos h2]
      · simp only [show ¬ nm < W.heap.size by omega, show ¬ nm < s1 by omega, show ¬ nm < s2 by omega, if_neg, not_false_eq_true, if_pos h5]
  · have := m.size
    simp only [show ¬ g < W.heap.size by omega, show ¬ g < s1 by omega, show ¬ g < s2 by omega, show ¬ g < s3 by omega, show ¬ g < W'.heap.size by omega, if_neg, not_false_eq_true]
  · by_cases q : g < W.heap.size
    · rw [if_pos q] at hg
      exact h.t1 g hg
    · omega
  · rw [if_pos (old _ (by rw [h.tb]; simp)), h.tb]
  · rcases hx g hg with q | ⟨q1, q2⟩
    · have := h.tx g q
      rw [if_pos (old _ (by rw [this]; simp)), this]
    · simp only [show ¬ g < W.heap.size by omega, show ¬ g < s1 by omega, if_neg, not_false_eq_true, if_pos q2]
  · rcases hm g hg with q | ⟨q1, q2⟩
    · have := h.tm g q
      rw [if_pos (old _ (by rw [this]; simp)), this]
    · simp only [show ¬ g < W.heap.size by omega, show ¬ g < s1 by omega, show ¬ g < s2 by omega, show ¬ g < s3 by omega, if_neg, not_false_eq_true, if_pos q2]

theorem psx_set {L : List Ent} {i : Nat} {e e' : Ent} (hi : L[i]? = some e) (hb : e'.b = e.b) : psx (L.set i e') = psx L := by
  unfold psx
  rw [List.map_set, hb]
  apply List.ext_getElem?
  intro j
  rw [List.getElem?_set]
  split
  · rename_i hj
    subst hj
    split
    · simp [hi]
    · rename_i hl
      exact absurd (by simpa using (List.getElem?_eq_some_iff.1 hi).1) hl
  · rfl

theorem psm_set {L : List Ent} {i : Nat} {e e' : Ent} (hi : L[i]? = some e) (hb : e'.mb = e.mb) : psm (L.set i e') = psm L := by
  unfold psm
  rw [List.map_set, hb]
  apply List.ext_getElem?
  intro j
  rw [List.getElem?_set]
  split
  · rename_i hj
    subst hj
    split
    · simp [hi]
    · rename_i hl
      exact absurd (by simpa using (List.getElem?_eq_some_iff.1 hi).1) hl
  · rfl

/-- One set has turned, with the document's beside it. -/
theorem SetsAt.turn {w W W1 W2 : World} {b k : Nat} {first : Bool} {L : List Ent} {tag : Nat → Nat × Nat} {vx vm : Value} (h : SetsAt w b k first L tag vx vm W) {i : Nat} {e e' : Ent} (hi : L[i]? = some e) (hb : e'.b = e.b) (hmb : e'.mb = e.mb)
    (ma : Mod (fun g => g = e.b ∨ e.v.ownBlock = some g) W W1) (mb : Mod (fun g => g = e.mb) W1 W2)
    (hs : SetAt W2 e'.b 0 e'.v e'.rs e'.fl e'.most) (hr : RSetAt W2 e'.mb e'.mv e'.rs e'.fl e'.most) (hwf : WF e'.rs) (hlen : e'.rs.length ≤ k + 1) (hm1 : 1 ≤ e'.most) (hm2 : e'.most ≤ 9223372036854775807) (hfl : e'.fl < 18446744073709551616)
    (hv : ∀ g, e'.v.ownBlock = some g → e.v.ownBlock = some g ∨ W.heap.size ≤ g ∧ g < W1.heap.size) (hw : ∀ g o n c, e'.mv = .slice (some ⟨g, o, none⟩) n c → W1.heap.size ≤ g ∧ g < W2.heap.size) :
    ∃ tag', SetsAt w b (k + 1) first (L.set i e') tag' vx vm W2 := by
  refine ⟨fun g => if g < W.heap.size then tag g else if g < W1.heap.size then (4, i) else if g < W2.heap.size then (6, i) else (0, 0), ?_⟩
  have old : ∀ g, tag g ≠ (0, 0) → g < W.heap.size := fun g hg => by
    by_cases q : g < W.heap.size
    · exact q
    · exact absurd (h.t0 g (by omega)) hg
  have hsz := h.mod.size
  have hE := h.es i e hi
  have z1 := ma.size
  have z2 := mb.size
  have m : Mod (fun g => (g = e.b ∨ e.v.ownBlock = some g) ∨ g = e.mb) W W2 := (ma.mono (fun g hg => .inl (.inl hg))).then mb (fun g hg => .inl (.inr hg))
  have hS : ∀ g, ((g = e.b ∨ e.v.ownBlock = some g) ∨ g = e.mb) → tag g = (3, i) ∨ tag g = (4, i) ∨ tag g = (5, i) := fun g hg => by
    rcases hg with (hg | hg) | hg
    · exact .inl (by rw [hg, hE.tb])
    · exact .inr (.inl (hE.tv g hg))
    · exact .inr (.inr (by rw [hg, hE.tm]))
  have hN : ∀ g t, tag g = t → t ≠ (3, i) → t ≠ (4, i) → t ≠ (5, i) → ¬ ((g = e.b ∨ e.v.ownBlock = some g) ∨ g = e.mb) := fun g t ht a b c x => by
    rcases hS g x with q | q | q
    · exact a (ht.symm.trans q)
    · exact b (ht.symm.trans q)
    · exact c (ht.symm.trans q)
  refine ⟨h.mod.then m (fun g hg => ?_), by have := h.le; simp; omega, m.obj (hN _ _ h.tb (by simp) (by simp) (by simp)) h.obj, ?_, ?_, fun j f hj => ?_, fun g hg => ?_, fun g hg => ?_, ?_, fun g hg => ?_, fun g hg => ?_⟩
  · refine .inr (h.t1 g ?_)
    rcases hS g hg with q | q | q <;> rw [q] <;> simp
  · rw [psx_set hi hb, List.length_set]
    exact m.owns h.ox (fun g hg => hN _ _ (h.tx g hg) (by simp) (by simp) (by simp))
  · rw [psm_set hi hmb, List.length_set]
    exact m.owns h.om (fun g hg => hN _ _ (h.tm g hg) (by simp) (by simp) (by simp))
  · rw [List.getElem?_set] at hj
    split at hj
    · rename_i hij
      subst hij
      split at hj
      · cases hj
        refine ⟨hs, hr, hwf, hlen, hm1, hm2, hfl, ?_, fun g hg => ?_, ?_, fun g o n c ee => ?_⟩
        · rw [hb, if_pos (old _ (by rw [hE.tb]; simp)), hE.tb]
        · rcases hv g hg with q | ⟨q1, q2⟩
          · have := hE.tv g q
            rw [if_pos (old _ (by rw [this]; simp)), this]
          · simp only [show ¬ g < W.heap.size by omega, if_neg, not_false_eq_true, if_pos q2]
        · rw [hmb, if_pos (old _ (by rw [hE.tm]; simp)), hE.tm]
        · obtain ⟨q1, q2⟩ := hw g o n c ee
          simp only [show ¬ g < W.heap.size by omega, show ¬ g < W1.heap.size by omega, if_neg, not_false_eq_true, if_pos q2]
      · cases hj
    · rename_i hij
      refine (h.es j f hj).mod m (fun g hg => ?_) (Nat.le_succ _) (fun g hg => by simp [old g hg])
      rcases hS g hg with q | q | q <;> rw [q] <;> simp [hij]
  · simp only [show ¬ g < W.heap.size by omega, show ¬ g < W1.heap.size by omega, show ¬ g < W2.heap.size by omega, if_neg, not_false_eq_true]
  · by_cases q : g < W.heap.size
    · rw [if_pos q] at hg
      exact h.t1 g hg
    · omega
  · rw [if_pos (old _ (by rw [h.tb]; simp)), h.tb]
  · have := h.tx g hg
    rw [if_pos (old _ (by rw [this]; simp)), this]
  · have := h.tm g hg
    rw [if_pos (old _ (by rw [this]; simp)), this]

theorem info_px : (Tryz.prog.info? 101).map (fun i => (i.zero, i.size, i.bytes)) = some (some (.pointer none), 1, 8) := by kernel_rfl
theorem info_pm : (Tryz.prog.info? 84).map (fun i => (i.zero, i.size, i.bytes)) = some (some (.pointer none), 1, 8) := by kernel_rfl

/-- append of one pointer. -/
theorem plit_app (t e : TypeId) (ht : Tryz.prog.underlying t = some (.slice e)) (hinfo : (Tryz.prog.info? e).map (fun i => (i.zero, i.size, i.bytes)) = some (some (.pointer none), 1, 8)) (w : World) (v : Value) (n : Nat) (ps : List Value) (p : Option Addr) (h : w.ownsRow 0 e 1 v n ps) (hl : n ≤ 1099511627776) :
    ∃ v' w', (∀ ty, (Builtin.append_ #[t, t] ty #[v, .slice (some ⟨w.heap.size, 0, none⟩) 1 1]).run Tryz.prog (w.alloc (.cells #[.pointer p] e)) = .ok v' w') ∧
      w'.ownsRow 0 e 1 v' (n + 1) (ps ++ [.pointer p]) ∧ w.grownBy w' v.ownBlock ∧ NewOr w v v' := by
  obtain ⟨i, hi1, hz, hz1, hz2⟩ := info_parts hinfo
  have hcell : ∀ (j : Nat) u, ([.pointer p] : List Value)[j]? = some u → (w.alloc (.cells #[.pointer p] e)).cell? ((⟨w.heap.size, 0, none⟩ : Addr).add j) = some u := by
    intro j u hj
    rw [addr_add]
    refine cell_of_obj (heap_alloc_new w _) ?_
    rw [Nat.zero_add, ← Array.getElem?_toList]
    exact hj
  obtain ⟨v', w', h1, h2, h3, h4, h5⟩ := run_append_kept (P := Tryz.prog) (w.alloc (.cells #[.pointer p] e)) t e i (.pointer none) 1 8 ht hi1 hz hz1 hz2 rfl (by decide) v n ps (World.ownsRow.alloc h _)
    ⟨w.heap.size, 0, none⟩ 1 1 [.pointer p] rfl hcell (by intro u hu; simp at hu; subst hu; rfl) (by unfold maxLen; omega) (by omega)
  refine ⟨v', w', h1, h2, ?_, ?_⟩
  · exact ⟨h3.os, h3.tape, h3.output, Nat.le_trans (by simp) h3.size, fun k hk hn => (h3.block k (by simp; omega) hn).trans (Below.heap_alloc w _ k hk)⟩
  · intro k hk
    rcases h4 k hk with x | x
    · exact .inl x
    · exact .inr (by simp at x; omega)
end Go.Proofs.YtddfdpbaiedcjabGreatDoor
/- mediawireref.Set.Has, mediawireref.NewSet; mediawirelaw.pick. -/
namespace Go.Proofs.YtddfdpbaiedcjabGreatDoor
open Go.RowKit

def pickL (c : Int) (n : Nat) : Nat := ((if c < 0 then -(c + 1) else c) % (n : Int)).toNat

theorem pickL_lt (c : Int) (n : Nat) (h : 0 < n) : pickL c n < n := by
  unfold pickL
  have h1 := Int.emod_lt_of_pos (if c < 0 then -(c + 1) else c) (show (0 : Int) < n by omega)
  have h2 := Int.emod_nonneg (if c < 0 then -(c + 1) else c) (show (n : Int) ≠ 0 by omega)
  omega

theorem lpick_any (c : Int) (n : Nat) (w : World) (h1 : -9223372036854775808 ≤ c) (h2 : c ≤ 9223372036854775807) (hn : 0 < n) (hn2 : n ≤ 9223372036854775807) :
    Calls Tryz.prog 18 #[.int .i64 c, .int .i64 n] w fun e w' => e = .returned (.int .i64 (pickL c n : Int)) ∧ w = w' := by
  have hv : ∀ x : Int, (if c < 0 then -(c + 1) else c) = x → 0 ≤ x → x % (n : Int) = (pickL c n : Int) := by
    intro x hx _
    unfold pickL
    rw [hx]
    have := Int.emod_nonneg x (show (n : Int) ≠ 0 by omega)
    omega
  have hn' : (1 : Int) ≤ n := by omega
  by_cases hc : c < 0
  · have H := hide (hv (-(c + 1)) (by rw [if_pos hc]) (by omega))
    have E : Hid (-((c + 1).tmod (n : Int)) = (-(c + 1)) % (n : Int)) := by
      show _ = _
      rw [← Int.neg_tmod, Int.tmod_eq_emod_of_nonneg (by omega)]
    clear hv
    go_enter Tryz.func18, Tryz.ntmps18
    go_wp2_with fail
    go_ret
    exact ⟨by rw [← H.out, ← E.out]; rfl, rfl⟩
  · have H := hide (hv c (by rw [if_neg hc]) (by omega))
    clear hv
    go_enter Tryz.func18, Tryz.ntmps18
    go_wp2_with fail
    go_ret
    exact ⟨by rw [← H.out]; rfl, rfl⟩

theorem rnewset_any (most : Int) (w : World) (hm : most ≤ 9223372036854775807) (hl : -9223372036854775808 ≤ most) :
    Calls Tryz.prog 32 #[.int .i64 most] w fun e w' => e = .returned (.pointer (some ⟨w.heap.size, 0, none⟩)) ∧ w' = w.alloc (.cells #[.slice none 0 0, .int .u64 0, .int .i64 (max most 1)] 106) := by
  by_cases hc : most < 1
  · have e : max most 1 = 1 := by omega
    rw [e]
    clear e
    go_enter Tryz.func32, Tryz.ntmps32
    go_wp2_with fail
    go_ret
    exact ⟨rfl, rfl⟩
  · have e : max most 1 = most := by omega
    rw [e]
    clear e
    go_enter Tryz.func32, Tryz.ntmps32
    go_wp2_with fail
    go_ret
    exact ⟨rfl, rfl⟩

def inR (n : Nat) (r : Nat × Nat) : Bool := decide (r.1 ≤ n) && decide (n ≤ r.2)

theorem inR_take {rs : Rngs} {n k : Nat} (hk : k < rs.length) (h : (rs.take k).any (inR n) = false) : (rs.take (k + 1)).any (inR n) = (decide (loAt rs k ≤ n) && decide (n ≤ hiAt rs k)) := by
  have : rs[k]? = some (loAt rs k, hiAt rs k) := at_get hk
  rw [List.take_add_one, this]
  simp only [Option.toList_some, List.any_append, h, Bool.false_or, List.any_cons, List.any_nil, Bool.or_false]
  rfl

theorem inR_all {rs : Rngs} {n k : Nat} (hk : k < rs.length) (h : inR n (loAt rs k, hiAt rs k) = true) : rs.any (inR n) = true :=
  List.any_eq_true.2 ⟨_, List.mem_of_getElem? (at_get hk), h⟩

set_option maxRecDepth 100000 in
theorem rhas_any (rs : Rngs) (fl most b n : Nat) (v : Value) (w : World) (h : RSetAt w b v rs fl most) :
    Calls Tryz.prog 41 #[.pointer (some ⟨b, 0, none⟩), .int .u64 (n : Int)] w (Says w (decide (n < fl) || rs.any (inR n))) := by
  have HOBJ := hide h.obj
  have hlen := h.len
  obtain ⟨a, cap, rfl, h1, h2, h3⟩ := h.rd
  have HR := hide h3
  have c1 : w.cell? ⟨b, 1, none⟩ = some (.int .u64 (fl : Int)) := cell_of_obj h.obj rfl
  unfold maxLen at h2
  clear h3 h
  by_cases hc : n < fl
  · have d1 : (n : Int) < fl := by omega
    have HC := hide hc
    clear hc
    go_enter Tryz.func41, Tryz.ntmps41
    go_wp2_with fail
    go_ret
    exact ⟨by simp [HC.out], Mod.refl _ _⟩
  · have d1 : ¬ (n : Int) < fl := by omega
    have HC := hide hc
    clear hc
    go_enter Tryz.func41, Tryz.ntmps41
    go_wp2_with fail
    go_loopw [5] (fun i wr => ∃ k : Nat, k ≤ rs.length ∧ i = .int .i64 k ∧ Mod NoB w wr ∧ Hid ((rs.take k).any (inR n) = false)) (fun i _ => rs.length - (intOf i).toNat)
    case atStart => exact ⟨0, Nat.zero_le _, rfl, Mod.refl _ _, hide (by simp)⟩
    case round =>
      obtain ⟨k, hk, rfl, m, hany⟩ := hrel
      have M := hide m
      have c0 : wr.cell? ⟨b, 0, none⟩ = some (.slice a rs.length cap) := cell_of_obj (m.obj (fun x => x) HOBJ.out) rfl
      by_cases hlt : k < rs.length
      · obtain ⟨g, o, rfl, x1, x2, _, _⟩ := HR.out k hlt
        have x1 := m.cell (a := ⟨g, _, none⟩) (fun x => x) x1
        have x2 := m.cell (a := ⟨g, _, none⟩) (fun x => x) x2
        obtain ⟨p, hp⟩ : ∃ p, loAt rs k = p := ⟨_, rfl⟩
        obtain ⟨q, hq⟩ : ∃ q, hiAt rs k = q := ⟨_, rfl⟩
        rw [hp] at x1
        rw [hq] at x2
        have HP := hide hp
        have HQ := hide hq
        have HLT := hide hlt
        clear m c1 hp hq
        by_cases k1 : p ≤ n
        · have e1 : (p : Int) ≤ n := by omega
          have e1' : decide ((p : Int) ≤ n) = true := by simp; omega
          by_cases k2 : n ≤ q
          · have e2 : (n : Int) ≤ q := by omega
            have e2' : decide ((n : Int) ≤ q) = true := by simp; omega
            have K1 := hide k1
            have K2 := hide k2
            clear k1 k2
            go_wp2_with fail
            go_ret
            exact ⟨by rw [inR_all (n := n) HLT.out (by simp [inR, HP.out, HQ.out, K1.out, K2.out])]; simp, M.out⟩
          · have e2 : ¬ (n : Int) ≤ q := by omega
            have e2' : decide ((n : Int) ≤ q) = false := by simp; omega
            have K1 := hide k1
            have K2 := hide k2
            clear k1 k2
            go_wp2_with fail
            go_roundw
            case rel => exact ⟨k + 1, by omega, by go_num, M.out, hide (by rw [inR_take HLT.out hany.out, HP.out, HQ.out]; simp [K2.out])⟩
            case measure => simp [intOf]; omega
        · have e1 : ¬ (p : Int) ≤ n := by omega
          have e1' : decide ((p : Int) ≤ n) = false := by simp; omega
          have K1 := hide k1
          clear k1
          go_wp2_with fail
          go_roundw
          case rel => exact ⟨k + 1, by omega, by go_num, M.out, hide (by rw [inR_take HLT.out hany.out, HP.out, HQ.out]; simp [K1.out])⟩
          case measure => simp [intOf]; omega
      · have hkn : k = rs.length := by omega
        have HF : Hid (rs.any (inR n) = false) := hide (by have := hany.out; rw [hkn, List.take_length] at this; exact this)
        clear m hkn hany c1
        go_wp2_with fail
        go_ret
        exact ⟨by simp [HC.out, HF.out], M.out⟩
end Go.Proofs.YtddfdpbaiedcjabGreatDoor
/- mediawirelaw.World.sets: a set more. -/
namespace Go.Proofs.YtddfdpbaiedcjabGreatDoor
open Go.RowKit

def SetsPost (w : World) (b k : Nat) (first : Bool) (e : Ending) (W' : World) : Prop := e = .returned (.bool true) ∧ ∃ L' tag' vx' vm', SetsAt w b k first L' tag' vx' vm' W'

set_option maxRecDepth 100000 in
set_option maxHeartbeats 2000000 in
theorem sets_set (w : World) (b k : Nat) (first : Bool) (L : List Ent) (tag : Nat → Nat × Nat) (vx vm : Value) (o : Stp) (W : World) (h : SetsAt w b k first L tag vx vm W) (hk : o.kind = 18) (hw : o.Wf) (hkk : k ≤ 1048576) :
    Calls Tryz.prog 17 #[.pointer (some ⟨b, 0, none⟩), .agg (stCells o)] W (SetsPost w b (k + 1) first) := by
  obtain ⟨W2, hW2⟩ : ∃ W2, W.alloc (.cells (stCells o) 39) = W2 := ⟨_, rfl⟩
  have m2 : Mod NoB W W2 := by rw [← hW2]; exact (Mod.refl _ _).alloc _
  have oX : W2.heap[W.heap.size]? = some (.cells (stCells o) 39 (0, 0)) := by rw [← hW2]; exact heap_alloc_new W _
  have h2 := h.mod0 m2 (Nat.le_refl k)
  have hll := h2.le
  obtain ⟨ax, cx, rfl, x1, x2, x3⟩ := own_form h2.ox
  obtain ⟨am, cm, rfl, y1, y2, y3⟩ := own_form h2.om
  have hbs : b < W2.heap.size := (Array.getElem?_eq_some_iff.1 h2.obj).1
  have old : ∀ g, tag g ≠ (0, 0) → g < W2.heap.size := fun g hg => by
    by_cases q : g < W2.heap.size
    · exact q
    · exact absurd (h2.t0 g (by omega)) hg
  have hgx : ∀ g, (Value.slice ax L.length cx).ownBlock = some g → g < W2.heap.size ∧ g ≠ b := fun g hg => by
    have := h2.tx g hg
    refine ⟨old g (by rw [this]; simp), fun e => ?_⟩
    rw [e, h2.tb] at this
    simp at this
  have hgm : ∀ g, (Value.slice am L.length cm).ownBlock = some g → g < W2.heap.size ∧ g ≠ b ∧ (Value.slice ax L.length cx).ownBlock ≠ some g := fun g hg => by
    have := h2.tm g hg
    refine ⟨old g (by rw [this]; simp), fun e => ?_, fun e => ?_⟩
    · rw [e, h2.tb] at this
      simp at this
    · rw [h2.tx g e] at this
      simp at this
  obtain ⟨M, hM⟩ : ∃ M : Nat, max o.a 1 = (M : Int) := ⟨(max o.a 1).toNat, by omega⟩
  have hM1 : 1 ≤ M := by omega
  have hM2 : M ≤ 9223372036854775807 := by have := hw.2.1; omega
  have n1 := newset_walk o.a W2 hw.2.1 hw.1
  rw [hM] at n1
  obtain ⟨W3, hW3⟩ : ∃ W3, W2.alloc (.cells #[.slice none 0 0, .int .u64 0, .int .i64 (M : Int)] 138) = W3 := ⟨_, rfl⟩
  rw [hW3] at n1
  have m3 : Mod NoB W2 W3 := by rw [← hW3]; exact (Mod.refl _ _).alloc _
  have z3 : W3.heap.size = W2.heap.size + 1 := by rw [← hW3]; simp
  have o3 : W3.heap[W2.heap.size]? = some (.cells #[.slice none 0 0, .int .u64 0, .int .i64 (M : Int)] 138 (0, 0)) := by rw [← hW3]; exact heap_alloc_new W2 _
  obtain ⟨v4, W4, a4, ox4, g4, nw4⟩ := plit_app 30 101 Tryz.underlying30 info_px W3 (.slice ax L.length cx) L.length (psx L) (some ⟨W2.heap.size, 0, none⟩) (m3.owns h2.ox (fun _ _ x => x)) (by omega)
  obtain ⟨ax4, cx4, rfl, _⟩ := own_form ox4
  have m4 : Mod (fun g => (Value.slice ax L.length cx).ownBlock = some g) W3 W4 := (Mod.refl _ _).grown g4 (fun g hg => .inl hg)
  obtain ⟨W5, hW5⟩ : ∃ W5, W4.setCell ⟨b, 3, none⟩ (.slice ax4 (L.length + 1) cx4) = W5 := ⟨_, rfl⟩
  have m5 : Mod (fun g => g = b) W4 W5 := by rw [← hW5]; exact (Mod.refl (fun g => g = b) _).setCell (p := ⟨b, 3, none⟩) (.inl rfl) _
  have ob4 : W4.heap[b]? = some (.cells #[.slice none 0 0, .slice none 0 0, .slice none 0 0, .slice ax L.length cx, .slice am L.length cm, .bool first] 33 (0, 0)) := m4.obj (fun e => (hgx b e).2 rfl) (m3.obj (fun x => x) h2.obj)
  have ob5 : W5.heap[b]? = some (.cells #[.slice none 0 0, .slice none 0 0, .slice none 0 0, .slice ax4 (L.length + 1) cx4, .slice am L.length cm, .bool first] 33 (0, 0)) := by rw [← hW5]; exact obj_setCell ob4
  have n2 := rnewset_any o.a W5 hw.2.1 hw.1
  rw [hM] at n2
  obtain ⟨W6, hW6⟩ : ∃ W6, W5.alloc (.cells #[.slice none 0 0, .int .u64 0, .int .i64 (M : Int)] 106) = W6 := ⟨_, rfl⟩
  rw [hW6] at n2
  have m6 : Mod NoB W5 W6 := by rw [← hW6]; exact (Mod.refl _ _).alloc _
  have z6 : W6.heap.size = W5.heap.size + 1 := by rw [← hW6]; simp
  have o6 : W6.heap[W5.heap.size]? = some (.cells #[.slice none 0 0, .int .u64 0, .int .i64 (M : Int)] 106 (0, 0)) := by rw [← hW6]; exact heap_alloc_new W5 _
  have m36 : Mod (fun g => g = b ∨ (Value.slice ax L.length cx).ownBlock = some g) W2 W6 := (((m3.mono (fun g hg => hg.elim)).then m4 (fun g hg => .inl (.inr hg))).then m5 (fun g hg => .inl (.inl hg))).then m6 (fun g hg => hg.elim)
  obtain ⟨v7, W7, a7, om7, g7, nw7⟩ := plit_app 31 84 Tryz.underlying31 info_pm W6 (.slice am L.length cm) L.length (psm L) (some ⟨W5.heap.size, 0, none⟩) (m36.owns h2.om (fun g hg x => by
    rcases x with x | x
    · exact (hgm g hg).2.1 x
    · exact (hgm g hg).2.2 x)) (by omega)
  obtain ⟨am7, cm7, rfl, _⟩ := own_form om7
  have m7 : Mod (fun g => (Value.slice am L.length cm).ownBlock = some g) W6 W7 := (Mod.refl _ _).grown g7 (fun g hg => .inl hg)
  obtain ⟨W8, hW8⟩ : ∃ W8, W7.setCell ⟨b, 4, none⟩ (.slice am7 (L.length + 1) cm7) = W8 := ⟨_, rfl⟩
  have m8 : Mod (fun g => g = b) W7 W8 := by rw [← hW8]; exact (Mod.refl (fun g => g = b) _).setCell (p := ⟨b, 4, none⟩) (.inl rfl) _
  have hb6 : b < W6.heap.size := by have := m36.size; omega
  have ob7 : W7.heap[b]? = some (.cells #[.slice none 0 0, .slice none 0 0, .slice none 0 0, .slice ax4 (L.length + 1) cx4, .slice am L.length cm, .bool first] 33 (0, 0)) := m7.obj (fun e => (hgm b e).2.1 rfl) (m6.obj (fun x => x) ob5)
  have ob8 : W8.heap[b]? = some (.cells #[.slice none 0 0, .slice none 0 0, .slice none 0 0, .slice ax4 (L.length + 1) cx4, .slice am7 (L.length + 1) cm7, .bool first] 33 (0, 0)) := by rw [← hW8]; exact obj_setCell ob7
  have zz3 := m3.size
  have zz4 := m4.size
  have zz5 := m5.size
  have zz7 := m7.size
  have zz8 := m8.size
  have e5 : W5.heap.size = W4.heap.size := by rw [← hW5]; simp
  have e8 : W8.heap.size = W7.heap.size := by rw [← hW8]; simp
  have ltX : ∀ g, (Value.slice ax4 (L.length + 1) cx4).ownBlock = some g → g < W4.heap.size := own_ltR ox4
  have ltM : ∀ g, (Value.slice am7 (L.length + 1) cm7).ownBlock = some g → g < W7.heap.size := own_ltR om7
  have m48 : Mod (fun g => g = b ∨ (Value.slice am L.length cm).ownBlock = some g) W4 W8 := (((m5.mono (fun g hg => .inl (.inl hg))).then m6 (fun g hg => hg.elim)).then m7 (fun g hg => .inl (.inr hg))).then m8 (fun g hg => .inl (.inl hg))
  have ox8 := m48.owns ox4 (fun g hg x => by
    rcases nw4 g hg with q | q
    · rcases x with x | x
      · exact (hgx g q).2 x
      · exact (hgm g x).2.2 q
    · rcases x with x | x
      · omega
      · have := (hgm g x).1
        omega)
  have om8 := m8.owns om7 (fun g hg x => by
    have x : g = b := x
    rw [x] at hg
    rcases nw7 b hg with q | q
    · exact (hgm b q).2.1 rfl
    · omega)
  have HP : Hid (∃ L' tag', SetsAt w b (k + 1) first L' tag' (.slice ax4 (L.length + 1) cx4) (.slice am7 (L.length + 1) cm7) W8) := hide (by
    refine h2.push W3.heap.size W4.heap.size W6.heap.size W2.heap.size W5.heap.size M ?_ ob8 ox8 om8 ?_ ?_ (Nat.le_refl _) (by omega) (by omega) (by omega) (by omega) (by omega) ?_ ?_ hM1 hM2
    · exact ((m36.mono (fun g hg => .inl (by rcases hg with hg | hg; exact .inl hg; exact .inr (.inl hg)))).then m7 (fun g hg => .inl (.inr (.inr hg)))).then m8 (fun g hg => .inl (.inl hg))
    · refine m48.obj (fun x => ?_) (m4.obj (fun x => ?_) o3)
      · rcases x with x | x
        · omega
        · have := (hgm _ x).1
          omega
      · have := (hgx _ x).1
        omega
    · refine m8.obj (fun x => ?_) (m7.obj (fun x => ?_) o6)
      · omega
      · have := (hgm _ x).1
        omega
    · intro g hg
      rcases nw4 g hg with q | q
      · exact .inl q
      · exact .inr ⟨q, ltX g hg⟩
    · intro g hg
      rcases nw7 g hg with q | q
      · exact .inl q
      · exact .inr ⟨q, by have := ltM g hg; omega⟩)
  have cb3 : W2.cell? ⟨b, 3, none⟩ = some (.slice ax L.length cx) := cell_of_obj h2.obj rfl
  have cc3 : W3.cell? ⟨b, 3, none⟩ = some (.slice ax L.length cx) := m3.cell (a := ⟨b, 3, none⟩) (fun x => x) cb3
  have cc4 : W4.cell? ⟨b, 3, none⟩ = some (.slice ax L.length cx) := cell_of_obj ob4 rfl
  have cf4 : W4.frozen? ⟨b, 3, none⟩ = false := by simp [World.frozen?, ob4]
  have cc6 : W6.cell? ⟨b, 4, none⟩ = some (.slice am L.length cm) := cell_of_obj (m6.obj (fun x => x) ob5) rfl
  have cc7 : W7.cell? ⟨b, 4, none⟩ = some (.slice am L.length cm) := cell_of_obj ob7 rfl
  have cf7 : W7.frozen? ⟨b, 4, none⟩ = false := by simp [World.frozen?, ob7]
  have x0 : W2.cell? ⟨W.heap.size, 0, none⟩ = some (.int .i64 18) := by rw [← hk]; exact cell_of_obj oX rfl
  have xa2 : W2.cell? ⟨W.heap.size, 1, none⟩ = some (.int .i64 o.a) := cell_of_obj oX rfl
  have hbW : W.heap.size ≠ b := by
    have : b < W.heap.size := (Array.getElem?_eq_some_iff.1 h.obj).1
    omega
  have hxW : ∀ g, (Value.slice ax L.length cx).ownBlock = some g → g ≠ W.heap.size := fun g hg => by
    have : g < W.heap.size := own_ltR h.ox g hg
    omega
  have xa6 : W5.cell? ⟨W.heap.size, 1, none⟩ = some (.int .i64 o.a) := m5.cell (a := ⟨W.heap.size, 1, none⟩) hbW (m4.cell (a := ⟨W.heap.size, 1, none⟩) (fun e => hxW _ e rfl) (m3.cell (a := ⟨W.heap.size, 1, none⟩) (fun x => x) xa2))
  rw [← hW5] at xa6
  have HW2 := hide hW2
  have HW5 := hide hW5
  have HW8 := hide hW8
  have N1 := hide n1
  have N2 := hide n2
  have A4 := hide a4
  have A7 := hide a7
  clear h h2 hgx hgm old x3 y3 m2 oX hW3 hW5 hW6 hW8 m3 m4 m5 m6 m7 m8 m36 m48 ob4 ob5 ob7 ob8 ox4 om7 g4 g7 nw4 nw7 ox8 om8 ltX ltM o3 o6 hW2 n1 n2 a4 a7 hw hM zz3 zz4 zz5 zz7 zz8 e5 e8 z3 z6 hb6 hbs hbW hxW
  unfold stCells at HW2
  unfold stCells
  rw [hk] at HW2
  rw [hk]
  go_enter Tryz.func17, Tryz.ntmps17
  go_wp2_with fail
  rw [HW2.out]
  refine N1.out.mono ?_
  rintro e w' ⟨rfl, rfl⟩
  go_wp2_with (at_builtin; refine wpList_append_is rfl _ _ _ _ rfl _ _ _ rfl rfl A4.out ?_)
  rw [HW5.out]
  refine N2.out.mono ?_
  rintro e w' ⟨rfl, rfl⟩
  go_wp2_with (at_builtin; refine wpList_append_is rfl _ _ _ _ rfl _ _ _ rfl rfl A7.out ?_)
  rw [HW8.out]
  go_ret
  obtain ⟨L', tag', h'⟩ := HP.out
  exact ⟨rfl, L', tag', _, _, h'⟩
end Go.Proofs.YtddfdpbaiedcjabGreatDoor
