/- The statement Coded, second form, its card: where what the law reads is of bulk at most 1048576, and the two listed variables read as listed, it returns true, and its argument reads behind the call as before. Part 18 of 18. -/
import Derived.Test.YtddfdpbaiedcjaaGreatDoorCodedPart9
import Derived.Test.YtddfdpbaiedcjaaGreatDoorCodedPart17
import Derived.Test.YtddfdpbaiedcjaaGreatDoorRows
import Derived.Test.YtddfdpbaiedcjaaGreatDoorCodedPart14
import Derived.LaidLaws
import Derived.LaidHandle
import Derived.Lib.LaidTab
import Derived.Stop.Joined
import Derived.Deep.DeepHandedRow
import Derived.WalkKit
import Derived.ProofKit
import Derived.OpenShut
import Derived.ChangeSlices
import Derived.ChangeSame
import Derived.JoinedOf
import Derived.JoinedAt
import Derived.Carry
import Derived.JoinedCond
import Derived.SevenTiedAt
import Derived.ClaimOpenTies
/- mediawirelaw.plays: what each of its laws has in common. -/
namespace Go.Proofs.YtddfdpbaiedcjaaGreatDoor
open Go.RowKit

/-- A list of kinds lies there. -/
def KsAt (w : World) (v : Value) (ks : List Int) : Prop := ∃ g o cap, v = .slice (some ⟨g, o, none⟩) ks.length cap ∧ ks.length ≤ cap ∧ cap ≤ 1048576 ∧ ∀ i k, ks[i]? = some k → w.cell? ⟨g, o + i, none⟩ = some (.int .i64 k)

theorem KsAt.mod0 {w w' : World} {v : Value} {ks : List Int} (h : KsAt w v ks) (m : Mod NoB w w') : KsAt w' v ks := by
  obtain ⟨g, o, cap, rfl, h1, h2, h3⟩ := h
  exact ⟨g, o, cap, rfl, h1, h2, fun i k hi => m.cell (a := ⟨g, _, none⟩) (fun x => x) (h3 i k hi)⟩

/-- The packet of a step holds early frames alone. -/
def earlyO (o : Stp) : Bool := if o.kind = 9 then earlyF (frsR (dec o.s)) else earlyF (o.fs.map (·.1))

/-- Is the step played? -/
def playsO (ks : List Int) (first : Bool) (o : Stp) : Bool := ks.any (fun k => o.kind == k) && !(first && !earlyO o)

def inTo (ks : List Int) (z : Int) (k : Nat) : Bool := (ks.take k).any fun q => z == q

theorem inTo_succ (ks : List Int) (z : Int) (k : Nat) (q : Int) (h : ks[k]? = some q) : inTo ks z (k + 1) = (inTo ks z k || z == q) := by
  unfold inTo
  rw [List.take_add_one, h]
  simp

def WorldObj (w : World) (b : Nat) (first : Bool) : Prop := w.heap[b]? = some (.cells #[.slice none 0 0, .slice none 0 0, .slice none 0 0, .slice none 0 0, .slice none 0 0, .bool first] 81 (0, 0))

set_option maxRecDepth 100000 in
set_option maxHeartbeats 1000000 in
theorem plays_any (l : List Stp) (v kv : Value) (ks : List Int) (first : Bool) (w : World) (P : Nat → Nat → World → Prop) (hscr : ScrAt w v l) (hks : KsAt w kv ks) (hb : bulkS l ≤ 1048576)
    (hstart : ∀ b w0, Mod NoB w w0 → w.heap.size ≤ b → WorldObj w0 b first → P b 0 w0)
    (hmod : ∀ b k w1 w2, P b k w1 → Mod NoB w1 w2 → P b k w2) (hsafe : ∀ b k w1, P b k w1 → Mod NoB w w1)
    (hskip : ∀ b k o w1, l[k]? = some o → playsO ks first o = false → P b k w1 → P b (k + 1) w1)
    (hstep : ∀ b k o w1, l[k]? = some o → playsO ks first o = true → P b k w1 → Calls Tryz.prog 33 #[.pointer (some ⟨b, 0, none⟩), .agg (stCells o)] w1 fun e w' => e = .returned (.bool true) ∧ P b (k + 1) w') :
    Calls Tryz.prog 12 #[v, kv, .bool first] w (Says w true) := by
  have k1 := small_any l v w hscr hb
  have HSCR := hide hscr
  have HKS := hide hks
  have HBB := hide hb
  have HST := hide hstart
  have HMOD := hide hmod
  have HSF := hide hsafe
  have HSK := hide hskip
  have HSTEP := hide hstep
  obtain ⟨a, cap, rfl, h1, h2, _⟩ := id hscr
  obtain ⟨kg, ko, kc, rfl, _, _, _⟩ := id hks
  have hll : l.length ≤ 1048576 := by have := (bulkS_le l).1; omega
  unfold maxLen at h2
  clear hscr hks hb hstart hmod hsafe hskip hstep
  go_enter Tryz.func12, Tryz.ntmps12
  go_wp2_with fail
  refine k1.mono ?_
  clear k1
  rintro e w1 ⟨b, rfl, m1⟩
  have M1 := hide m1
  clear m1
  cases b
  · go_wp2_with fail
    go_ret
    exact ⟨rfl, M1.out⟩
  · go_wp2_with fail
    obtain ⟨W0, hW0⟩ : ∃ W0, w1.alloc (.cells #[.slice none 0 0, .slice none 0 0, .slice none 0 0, .slice none 0 0, .slice none 0 0, .bool first] 81) = W0 := ⟨_, rfl⟩
    rw [hW0]
    have h0 : P w1.heap.size 0 W0 := HST.out _ _ (M1.out.trans (by rw [← hW0]; exact (Mod.refl _ _).alloc _)) M1.out.size (by rw [← hW0]; exact heap_alloc_new w1 _)
    have H0 := hide h0
    clear hW0 h0
    go_loopw [9] (fun i wr => ∃ k : Nat, k ≤ l.length ∧ i = .int .i64 k ∧ Hid (P w1.heap.size k wr)) (fun i _ => l.length - (intOf i).toNat)
    case atStart => exact ⟨0, Nat.zero_le _, rfl, H0⟩
    case round =>
      obtain ⟨k, hk, rfl, hP⟩ := hrel
      have m := HSF.out _ _ _ hP.out
      by_cases hlt : k < l.length
      · obtain ⟨o, ho⟩ : ∃ o, l[k]? = some o := ⟨l[k], List.getElem?_eq_getElem hlt⟩
        obtain ⟨a', cap', hv', _, _, h3⟩ := HSCR.out.mod0 m
        cases hv'
        obtain ⟨⟨g, off, rfl, hc⟩, hf, _⟩ := h3 k o ho
        obtain ⟨hc0, hc1, hc2, hc3, hc4, hc5, hc6⟩ := st_cells hc
        obtain ⟨WB, hWB⟩ : ∃ WB, WB = wr := ⟨_, rfl⟩
        subst hWB
        obtain ⟨W2, hW2⟩ : ∃ W2, WB.alloc (.cells (stCells o) 83) = W2 := ⟨_, rfl⟩
        have m2 : Mod NoB WB W2 := by rw [← hW2]; exact (Mod.refl _ _).alloc _
        have oO : W2.heap[WB.heap.size]? = some (.cells (stCells o) 83 (0, 0)) := by rw [← hW2]; exact heap_alloc_new WB _
        have M := hide m
        have HF := hide hf
        have HO := hide oO
        have M2 := hide m2
        have HOO := hide ho
        have HW2 := hide hW2
        obtain ⟨fa, fc, hfv, _⟩ := id hf
        have HFV := hide hfv
        rw [hfv] at hc6
        clear hc h3 m ho hf oO m2 hW2 hfv
        unfold stCells at HW2
        rw [HFV.out] at HW2
        go_wp2_with fail
        rw [HW2.out]
        go_loopw [11, 12] (fun nv j wr => ∃ q : Nat, q ≤ ks.length ∧ nv = .bool (inTo ks o.kind q) ∧ j = .int .i64 q ∧ Mod NoB W2 wr) (fun _ j _ => ks.length - (intOf j).toNat)
        case atStart => exact ⟨0, Nat.zero_le _, rfl, rfl, Mod.refl _ _⟩
        case round =>
          obtain ⟨q, hq, rfl, rfl, m⟩ := hrel
          have M3 := hide m
          have oO := m.obj (fun x => x) HO.out
          unfold stCells at oO
          rw [HFV.out] at oO
          have o0 : wr.cell? ⟨WB.heap.size, 0, none⟩ = some (.int .i64 o.kind) := cell_of_obj oO rfl
          have o4 : wr.cell? ⟨WB.heap.size, 4, none⟩ = some (.string (strOf o.s)) := cell_of_obj oO rfl
          have o5 : wr.cell? ⟨WB.heap.size, 5, none⟩ = some (.int .u64 (o.n : Int)) := cell_of_obj oO rfl
          have o6 : wr.cell? ⟨WB.heap.size, 6, none⟩ = some (.slice fa o.fs.length fc) := cell_of_obj oO rfl
          by_cases hlq : q < ks.length
          · obtain ⟨kz, hkz⟩ : ∃ kz, ks[q]? = some kz := ⟨ks[q], List.getElem?_eq_getElem hlq⟩
            obtain ⟨g', o', c', e', _, _, hk3⟩ := (((HKS.out.mod0 M.out).mod0 M2.out).mod0 m)
            cases e'
            have hkc := hk3 q kz hkz
            have HI := hide (inTo_succ ks o.kind q kz hkz)
            clear hk3 m oO hkz
            obtain ⟨ib, hib⟩ : ∃ ib, inTo ks o.kind q = ib := ⟨_, rfl⟩
            rw [hib] at HI
            rw [hib]
            have HIB := hide hib
            clear hib
            cases ib
            · by_cases hz : o.kind = kz
              · have hzb : (o.kind == kz) = true := by rw [hz]; exact beq_self_eq_true _
                have HZ := hide hz
                rw [hzb] at HI
                clear hz
                go_wp2_with fail
                go_quiet (fail)
                go_wp2_with fail
                go_roundw
                case rel => exact ⟨q + 1, by omega, by rw [HI.out]; rfl, by go_num, M3.out.drewN _⟩
                case measure => simp [intOf]; omega
              · have hzb : (o.kind == kz) = false := beq_eq_false_iff_ne.2 hz
                rw [hzb] at HI
                clear hz
                go_wp2_with fail
                go_quiet (fail)
                go_wp2_with fail
                go_roundw
                case rel => exact ⟨q + 1, by omega, by rw [HI.out]; rfl, by go_num, M3.out.drewN _⟩
                case measure => simp [intOf]; omega
            · go_wp2_with fail
              go_quiet (fail)
              go_wp2_with fail
              go_roundw
              case rel => exact ⟨q + 1, by omega, by rw [HI.out]; rfl, by go_num, M3.out.drewN _⟩
              case measure => simp [intOf]; omega
          · have hqk : q = ks.length := by omega
            rw [hqk]
            obtain ⟨ib, hib⟩ : ∃ ib, inTo ks o.kind ks.length = ib := ⟨_, rfl⟩
            have HIN := hide hib
            rw [hib]
            clear hib hqk oO
            have ke := early_any o.n o.fs (.slice fa o.fs.length fc) wr (by rw [← HFV.out]; exact (HF.out.mod0 M2.out).mod0 m)
            clear m
            go_wp2_with fail
            refine ke.mono ?_
            clear ke
            rintro e w3 ⟨rfl, m3⟩
            have M4 := hide (M3.out.trans m3)
            have o0 := m3.cell (a := ⟨WB.heap.size, 0, none⟩) (fun x => x) o0
            have o4 := m3.cell (a := ⟨WB.heap.size, 4, none⟩) (fun x => x) o4
            clear m3
            by_cases h9 : o.kind = 9
            · have hsl : o.s.length ≤ 1048576 := by
                have h1 := ((bulkS_le l).2 o (List.mem_of_getElem? HOO.out)).1
                have h2 := HBB.out
                omega
              have HEO : Hid (earlyO o = earlyF (frsR (dec o.s))) := by show _ = _; rw [earlyO, if_pos h9]
              obtain ⟨bc, w4, hcv, hbr, m4, hs4⟩ := str_bytes w3 o.s (by omega)
              have kd := rdecode_any (.slice (some ⟨w3.heap.size, 0, none⟩) o.s.length bc) o.s w4 hbr (by omega)
              have M5 := hide (M4.out.trans m4)
              clear hbr m4 hs4 hsl
              have b9 : (o.kind == 9) = true := by rw [h9]; rfl
              have H9 := hide h9
              clear h9
              go_wp2_with fail
              refine kd.mono ?_
              clear kd
              rintro e w5 hp5
              obtain ⟨m5, ga, gc, rvs, rfl, own5, hm5⟩ := hp5.shape
              obtain ⟨W6, hW6⟩ : ∃ W6, w5.alloc (.cells #[.int .u64 (numR (dec o.s) : Int), .slice ga rvs.length gc] 56) = W6 := ⟨_, rfl⟩
              have m6 : Mod NoB w5 W6 := by rw [← hW6]; exact (Mod.refl _ _).alloc _
              have p0 : W6.cell? ⟨w5.heap.size, 0, none⟩ = some (.int .u64 (numR (dec o.s) : Int)) := by rw [← hW6]; exact cell_of_obj (heap_alloc_new w5 _) rfl
              have p1 : W6.cell? ⟨w5.heap.size, 1, none⟩ = some (.slice ga rvs.length gc) := by rw [← hW6]; exact cell_of_obj (heap_alloc_new w5 _) rfl
              have ke2 := early_any (numR (dec o.s)) rvs (.slice ga rvs.length gc) W6 (own5.mod m6 (fun i hi => hi.elim)).frs
              rw [hm5] at ke2
              obtain ⟨eb, heb⟩ : ∃ eb, earlyF (frsR (dec o.s)) = eb := ⟨_, rfl⟩
              have HEB : Hid (earlyO o = eb) := by show _ = _; rw [HEO.out, heb]
              rw [heb] at ke2
              have M6 := hide ((M5.out.trans m5).trans m6)
              have HW6 := hide hW6
              rw [← hW6] at p0 p1
              clear heb m5 m6 own5 hm5 hp5 hW6
              go_wp2_with fail
              rw [HW6.out]
              refine ke2.mono ?_
              clear ke2
              rintro e w7 ⟨rfl, m7⟩
              have MX := hide (M6.out.trans m7)
              clear m7 p0 p1
              go_upto_region 18 with fail
              obtain ⟨WX, hWX⟩ : ∃ WX, WX = w7 := ⟨_, rfl⟩
              subst hWX
              have mX := MX.out
              have oX := mX.obj (fun x => x) HO.out
              unfold stCells at oX
              rw [HFV.out] at oX
              have x0 : WX.cell? ⟨WB.heap.size, 0, none⟩ = some (.int .i64 o.kind) := cell_of_obj oX rfl
              have x1 : WX.cell? ⟨WB.heap.size, 1, none⟩ = some (.int .i64 o.a) := cell_of_obj oX rfl
              have x2 : WX.cell? ⟨WB.heap.size, 2, none⟩ = some (.int .i64 o.b) := cell_of_obj oX rfl
              have x3 : WX.cell? ⟨WB.heap.size, 3, none⟩ = some (.int .i64 o.c) := cell_of_obj oX rfl
              have x4 : WX.cell? ⟨WB.heap.size, 4, none⟩ = some (.string (strOf o.s)) := cell_of_obj oX rfl
              have x5 : WX.cell? ⟨WB.heap.size, 5, none⟩ = some (.int .u64 (o.n : Int)) := cell_of_obj oX rfl
              have x6 : WX.cell? ⟨WB.heap.size, 6, none⟩ = some (.slice fa o.fs.length fc) := cell_of_obj oX rfl
              have HPX := hide (HMOD.out _ _ _ _ hP.out (M2.out.trans mX))
              have hst := fun hp => HSTEP.out _ _ _ _ HOO.out hp HPX.out
              have HSKX := hide (fun hp => HSK.out _ _ _ _ HOO.out hp HPX.out)
              unfold stCells at hst
              rw [HFV.out] at hst
              obtain ⟨pb, hpb⟩ : ∃ pb, playsO ks first o = pb := ⟨_, rfl⟩
              have hpe : pb = (ib && !(first && !eb)) := by
                rw [← hpb, playsO, HEB.out, ← HIN.out]
                unfold inTo
                rw [List.take_length]
              rw [hpb] at hst HSKX
              clear mX oX hpb
              cases ib
              · have HSKY := hide (HSKX.out hpe)
                clear hst HSKX hpe
                go_wp2_with fail
                go_roundw
                case rel => exact ⟨k + 1, by omega, by go_num, HSKY⟩
                case measure => simp [intOf]; omega
              · cases first
                · have hst := hst hpe
                  clear hpe
                  go_wp2_with fail
                  refine hst.mono ?_
                  rintro e w5 ⟨rfl, hp5⟩
                  have HP5 := hide hp5
                  clear hp5 hst
                  go_wp2_with fail
                  go_roundw
                  case rel => exact ⟨k + 1, by omega, by go_num, HP5⟩
                  case measure => simp [intOf]; omega
                · cases eb
                  · have HSKY := hide (HSKX.out hpe)
                    clear hst HSKX hpe
                    go_wp2_with fail
                    go_roundw
                    case rel => exact ⟨k + 1, by omega, by go_num, HSKY⟩
                    case measure => simp [intOf]; omega
                  · have hst := hst hpe
                    clear hpe
                    go_wp2_with fail
                    refine hst.mono ?_
                    rintro e w5 ⟨rfl, hp5⟩
                    have HP5 := hide hp5
                    clear hp5 hst
                    go_wp2_with fail
                    go_roundw
                    case rel => exact ⟨k + 1, by omega, by go_num, HP5⟩
                    case measure => simp [intOf]; omega
            · have b9 : (o.kind == 9) = false := beq_eq_false_iff_ne.2 h9
              obtain ⟨eb, heb⟩ : ∃ eb, earlyF (o.fs.map (·.1)) = eb := ⟨_, rfl⟩
              have HEB : Hid (earlyO o = eb) := by show _ = _; rw [earlyO, if_neg h9, heb]
              rw [heb]
              clear heb h9
              go_upto_region 18 with fail
              obtain ⟨WX, hWX⟩ : ∃ WX, WX = w3 := ⟨_, rfl⟩
              subst hWX
              have MX := M4
              have mX := MX.out
              have oX := mX.obj (fun x => x) HO.out
              unfold stCells at oX
              rw [HFV.out] at oX
              have x0 : WX.cell? ⟨WB.heap.size, 0, none⟩ = some (.int .i64 o.kind) := cell_of_obj oX rfl
              have x1 : WX.cell? ⟨WB.heap.size, 1, none⟩ = some (.int .i64 o.a) := cell_of_obj oX rfl
              have x2 : WX.cell? ⟨WB.heap.size, 2, none⟩ = some (.int .i64 o.b) := cell_of_obj oX rfl
              have x3 : WX.cell? ⟨WB.heap.size, 3, none⟩ = some (.int .i64 o.c) := cell_of_obj oX rfl
              have x4 : WX.cell? ⟨WB.heap.size, 4, none⟩ = some (.string (strOf o.s)) := cell_of_obj oX rfl
              have x5 : WX.cell? ⟨WB.heap.size, 5, none⟩ = some (.int .u64 (o.n : Int)) := cell_of_obj oX rfl
              have x6 : WX.cell? ⟨WB.heap.size, 6, none⟩ = some (.slice fa o.fs.length fc) := cell_of_obj oX rfl
              have HPX := hide (HMOD.out _ _ _ _ hP.out (M2.out.trans mX))
              have hst := fun hp => HSTEP.out _ _ _ _ HOO.out hp HPX.out
              have HSKX := hide (fun hp => HSK.out _ _ _ _ HOO.out hp HPX.out)
              unfold stCells at hst
              rw [HFV.out] at hst
              obtain ⟨pb, hpb⟩ : ∃ pb, playsO ks first o = pb := ⟨_, rfl⟩
              have hpe : pb = (ib && !(first && !eb)) := by
                rw [← hpb, playsO, HEB.out, ← HIN.out]
                unfold inTo
                rw [List.take_length]
              rw [hpb] at hst HSKX
              clear mX oX hpb
              cases ib
              · have HSKY := hide (HSKX.out hpe)
                clear hst HSKX hpe
                go_wp2_with fail
                go_roundw
                case rel => exact ⟨k + 1, by omega, by go_num, HSKY⟩
                case measure => simp [intOf]; omega
              · cases first
                · have hst := hst hpe
                  clear hpe
                  go_wp2_with fail
                  refine hst.mono ?_
                  rintro e w5 ⟨rfl, hp5⟩
                  have HP5 := hide hp5
                  clear hp5 hst
                  go_wp2_with fail
                  go_roundw
                  case rel => exact ⟨k + 1, by omega, by go_num, HP5⟩
                  case measure => simp [intOf]; omega
                · cases eb
                  · have HSKY := hide (HSKX.out hpe)
                    clear hst HSKX hpe
                    go_wp2_with fail
                    go_roundw
                    case rel => exact ⟨k + 1, by omega, by go_num, HSKY⟩
                    case measure => simp [intOf]; omega
                  · have hst := hst hpe
                    clear hpe
                    go_wp2_with fail
                    refine hst.mono ?_
                    rintro e w5 ⟨rfl, hp5⟩
                    have HP5 := hide hp5
                    clear hp5 hst
                    go_wp2_with fail
                    go_roundw
                    case rel => exact ⟨k + 1, by omega, by go_num, HP5⟩
                    case measure => simp [intOf]; omega
      · clear m
        go_wp2_with fail
        go_ret
        exact ⟨rfl, HSF.out _ _ _ hP.out⟩
end Go.Proofs.YtddfdpbaiedcjaaGreatDoor
/- mediawirelaw.Coded: its steps; the law. -/
namespace Go.Proofs.YtddfdpbaiedcjaaGreatDoor
open Go.RowKit

set_option maxRecDepth 100000 in
set_option maxHeartbeats 1000000 in
theorem step_encode (b : Nat) (o : Stp) (w : World) (hk : o.kind = 16) (h : FrsAt w o.fv o.fs) (ht : Tab w) (hg : ErrT w) (hb : bulkF o.fs ≤ 1048576) :
    Calls Tryz.prog 33 #[.pointer (some ⟨b, 0, none⟩), .agg (stCells o)] w (Says w true) := by
  obtain ⟨l1, l2, l3⟩ := flat_le o.fs
  have hv8 := vint_lt8 o.n
  have hbody : (bodyF o.n (o.fs.map (·.1))).length ≤ 8796093022208 := by
    unfold bodyF
    rw [List.length_append]
    omega
  have ke := fun w' (m : Mod NoB w w') => lencoded_any o.n o.fs o.fv w' (h.mod0 m) (ht.mod m (fun x => x)) (hg.mod m (fun x => x)) (by omega) hbody (fun fr hfr => by have := l3 fr hfr; omega)
  obtain ⟨fa, fc, hfv, _⟩ := id h
  obtain ⟨W2, hW2⟩ : ∃ W2, w.alloc (.cells (stCells o) 83) = W2 := ⟨_, rfl⟩
  have m2 : Mod NoB w W2 := by rw [← hW2]; exact (Mod.refl _ _).alloc _
  have oX : W2.heap[w.heap.size]? = some (.cells (stCells o) 83 (0, 0)) := by rw [← hW2]; exact heap_alloc_new w _
  have ke := ke W2 m2
  unfold stCells at oX hW2
  unfold stCells
  rw [hfv] at ke oX hW2
  rw [hfv]
  rw [hk] at oX hW2
  rw [hk]
  have x0 : W2.cell? ⟨w.heap.size, 0, none⟩ = some (.int .i64 16) := cell_of_obj oX rfl
  have x5 : W2.cell? ⟨w.heap.size, 5, none⟩ = some (.int .u64 (o.n : Int)) := cell_of_obj oX rfl
  have x6 : W2.cell? ⟨w.heap.size, 6, none⟩ = some (.slice fa o.fs.length fc) := cell_of_obj oX rfl
  have M2 := hide m2
  have HW2 := hide hW2
  clear l1 l2 l3 hv8 hbody h ht hg hb hk m2 oX hW2 hfv
  go_enter Tryz.func33, Tryz.ntmps33
  go_wp2_with fail
  rw [HW2.out]
  refine ke.mono ?_
  clear ke
  rintro e w3 ⟨rfl, m3⟩
  have M3 := hide (M2.out.trans m3)
  clear m3 x0 x5 x6
  go_wp2_with fail
  go_ret
  exact ⟨rfl, M3.out⟩

set_option maxRecDepth 100000 in
set_option maxHeartbeats 1000000 in
theorem step_decode (b : Nat) (o : Stp) (w : World) (hk : o.kind = 17) (ht : Tab w) (hg : ErrT w) (hb : o.s.length ≤ 1048576) :
    Calls Tryz.prog 33 #[.pointer (some ⟨b, 0, none⟩), .agg (stCells o)] w (Says w true) := by
  obtain ⟨W2, hW2⟩ : ∃ W2, w.alloc (.cells (stCells o) 83) = W2 := ⟨_, rfl⟩
  have m2 : Mod NoB w W2 := by rw [← hW2]; exact (Mod.refl _ _).alloc _
  have oX : W2.heap[w.heap.size]? = some (.cells (stCells o) 83 (0, 0)) := by rw [← hW2]; exact heap_alloc_new w _
  obtain ⟨bc, w4, hcv, hbr, m4, hs4⟩ := str_bytes W2 o.s (by omega)
  obtain ⟨fv, hfv⟩ : ∃ fv, o.fv = fv := ⟨_, rfl⟩
  have hsz : W2.heap.size = w.heap.size + 1 := by rw [← hW2]; simp
  unfold stCells at oX hW2
  unfold stCells
  rw [hk] at oX hW2
  rw [hk]
  have x0 : W2.cell? ⟨w.heap.size, 0, none⟩ = some (.int .i64 17) := cell_of_obj oX rfl
  have x1 : W2.cell? ⟨w.heap.size, 1, none⟩ = some (.int .i64 o.a) := cell_of_obj oX rfl
  have x4 : W2.cell? ⟨w.heap.size, 4, none⟩ = some (.string (strOf o.s)) := cell_of_obj oX rfl
  have y1 : w4.cell? ⟨w.heap.size, 1, none⟩ = some (.int .i64 o.a) := m4.cell (a := ⟨w.heap.size, 1, none⟩) (fun x => x) x1
  rw [← hW2] at x0 x1 x4 hcv
  have HT := hide ((ht.mod m2 (fun x => x)).mod m4 (fun x => x))
  have HG := hide ((hg.mod m2 (fun x => x)).mod m4 (fun x => x))
  have M4 := hide (m2.trans m4)
  rw [hsz] at hbr
  have HBR := hide hbr
  have HW2 := hide hW2
  have HB := hide hb
  clear ht hg hb hk m2 m4 oX hbr hW2 hfv hsz
  by_cases ha : o.a = 0
  · rw [ha] at x1 y1 x0 x4 hcv HW2
    rw [ha]
    have kd := ldecoded_any _ o.s w4 HBR.out HT.out HG.out (by have := HB.out; omega)
    clear ha
    go_enter Tryz.func33, Tryz.ntmps33
    go_wp2_with fail
    refine kd.mono ?_
    clear kd
    rintro e w5 ⟨rfl, m5⟩
    have M5 := hide (M4.out.trans m5)
    clear m5 x0 x1 x4 y1 hcv
    go_wp2_with fail
    go_ret
    exact ⟨rfl, M5.out⟩
  · have ks := rsealed_any _ o.s w4 HBR.out (by have := HB.out; omega)
    have bz : (o.a == 0) = false := beq_eq_false_iff_ne.2 ha
    clear ha
    go_enter Tryz.func33, Tryz.ntmps33
    go_wp2_with fail
    refine ks.mono ?_
    clear ks
    rintro e w5 ⟨v5, rfl, ob5, m5, _⟩
    have kd := ldecoded_any _ _ w5 ob5.br (HT.out.mod m5 (fun x => x)) (HG.out.mod m5 (fun x => x)) (by
      rw [List.length_append]
      have := HB.out
      have : (sum4 (crc o.s)).length = 4 := rfl
      omega)
    have M5 := hide (M4.out.trans m5)
    clear m5 x0 x1 x4 y1 hcv ob5
    go_wp2_with fail
    refine kd.mono ?_
    clear kd
    rintro e w6 ⟨rfl, m6⟩
    have M6 := hide (M5.out.trans m6)
    clear m6
    go_wp2_with fail
    go_ret
    exact ⟨rfl, M6.out⟩

/-- The list of kinds that a law writes down. -/
theorem ks_lit (w : World) (cs : Array Value) (ks : List Int) (hc : cs.toList = ks.map (Value.int .i64)) (hn : ks.length ≤ 1048576) : KsAt (w.alloc (.cells cs 3)) (.slice (some ⟨w.heap.size, 0, none⟩) ks.length ks.length) ks := by
  refine ⟨_, _, _, rfl, Nat.le_refl _, hn, fun i k hi => ?_⟩
  refine cell_of_obj (heap_alloc_new w _) ?_
  have h1 : cs.toList[i]? = some (.int .i64 k) := by rw [hc, List.getElem?_map, hi]; rfl
  rw [Nat.zero_add]
  simpa using h1

set_option maxRecDepth 100000 in
set_option maxHeartbeats 1000000 in
theorem coded_any (l : List Stp) (v : Value) (w : World) (hscr : ScrAt w v l) (ht : Tab w) (hg : ErrT w) (hb : bulkS l ≤ 1048576) :
    Calls Tryz.prog 11 #[v] w (Says w true) := by
  obtain ⟨a, cap, rfl, _⟩ := id hscr
  have kp := fun (w0 : World) (m0 : Mod NoB w w0) kv (hk : KsAt w0 kv [16, 17]) => plays_any l (.slice a l.length cap) kv [16, 17] false w0 (fun _ _ w1 => Mod NoB w0 w1) (hscr.mod0 m0) hk hb
    (fun _ _ m _ _ => m) (fun _ _ _ _ h m => h.trans m) (fun _ _ _ h => h) (fun _ _ _ _ _ _ h => h)
    (fun bb k o w1 ho hp hm => by
      obtain ⟨_, _, _, _, _, h3⟩ := hscr
      obtain ⟨_, hf, _⟩ := h3 k o ho
      obtain ⟨_, hq⟩ := bulkS_le l
      obtain ⟨q1, q2⟩ := hq o (List.mem_of_getElem? ho)
      have hpp : o.kind = 16 ∨ o.kind = 17 := by
        unfold playsO at hp
        simp at hp
        exact hp
      rcases hpp with hk' | hk'
      · refine (step_encode bb o w1 hk' ((hf.mod0 m0).mod0 hm) ((ht.mod m0 (fun x => x)).mod hm (fun x => x)) ((hg.mod m0 (fun x => x)).mod hm (fun x => x)) (by omega)).mono ?_
        rintro e w' ⟨rfl, m'⟩
        exact ⟨rfl, hm.trans m'⟩
      · refine (step_decode bb o w1 hk' ((ht.mod m0 (fun x => x)).mod hm (fun x => x)) ((hg.mod m0 (fun x => x)).mod hm (fun x => x)) (by omega)).mono ?_
        rintro e w' ⟨rfl, m'⟩
        exact ⟨rfl, hm.trans m'⟩)
  have KP := hide kp
  clear kp hscr ht hg hb
  go_enter Tryz.func11, Tryz.ntmps11
  go_wp2_with fail
  have m0 : Mod NoB w (w.alloc (.cells #[.int .i64 16, .int .i64 17] 3)) := (Mod.refl _ _).alloc _
  refine (KP.out _ m0 (.slice (some ⟨w.heap.size, 0, none⟩) 2 2) (ks_lit w #[.int .i64 16, .int .i64 17] [16, 17] rfl (by decide))).mono ?_
  clear KP
  rintro e w1 ⟨rfl, m1⟩
  have M1 := hide (m0.trans m1)
  clear m0 m1
  go_wp2_with fail
  go_ret
  exact ⟨rfl, M1.out⟩
end Go.Proofs.YtddfdpbaiedcjaaGreatDoor
/- What the listed package variables give a walk: errors' own variable, the table of sums; a world that holds them. -/
namespace Go.Proofs.YtddfdpbaiedcjaaGreatDoor
open Go.ChangeShapes Go.WideShapes Go.ChangeAt Go.RowKit

def laid2 {H : Type} : List (String × DataW H) := [("errors.errorType", Rows.laid_errors_errorType), ("mediawire/wire.table", Rows.laid_mediawire_wire_table)]

theorem gErr : Tryz.prog.globalNamed "errors.errorType" = some 0 := by kernel_rfl
theorem gTab : Tryz.prog.globalNamed "mediawire/wire.table" = some 1 := by kernel_rfl
theorem tyTab : (Tryz.prog.globals[1]?).map (·.type) = some 281 := by kernel_rfl
theorem cells_tab : Tryz.prog.cellsOf 281 = 16 := by kernel_rfl
theorem cells_u32 : Tryz.prog.cellsOf 189 = 1 := by kernel_rfl
theorem rtype_row : (Tryz.prog.cutTypes.find? (·.1 == "internal/reflectlite.rtype")).map (·.2) = some 286 := by kernel_rfl
theorem one_error : ((List.range Tryz.prog.types.size).filter fun t => Tryz.prog.rowNamed t [101, 114, 114, 111, 114]) = [98] := by kernel_rfl
theorem err_handle : typeHandle Tryz.prog 98 = .pointer (some ⟨2, 98, none⟩) := by kernel_rfl

def ctabZ : List Int := [0, 498536548, 997073096, 651767980, 1994146192, 1802195444, 1303535960, 1342533948, 3988292384, 4027552580, 3604390888, 3412177804, 2607071920, 2262029012, 2685067896, 3183342108]

theorem tab_of {W : World} (h : laidMetH Tryz.prog laid2 W) : Tab W := by
  have h' : laidMet Tryz.prog [("mediawire/wire.table", Lib.tabData .u32 ctabZ)] W ∧ handlesMet Tryz.prog [("errors.errorType", Rows.laid_errors_errorType)] W := h
  have ht := Lib.tabIs_of_head (rest := []) gTab tyTab Tryz.underlying281 Tryz.underlying189 cells_u32 cells_tab h'.1
  intro i hi
  have := ht.cell gTab i (by simpa [ctabZ] using hi)
  rw [this]
  have e : ∀ j : Fin 16, ctabZ.getD j.val 0 = (ct j.val : Int) := by decide
  rw [e ⟨i, hi⟩]

theorem errT_of {W : World} (h : laidMetH Tryz.prog laid2 W) : ErrT W := by
  have h' : laidMet Tryz.prog [("mediawire/wire.table", Lib.tabData .u32 ctabZ)] W ∧ handlesMet Tryz.prog [("errors.errorType", Rows.laid_errors_errorType)] W := h
  obtain ⟨name, u, ty, e1, e2, e3, e4, e5⟩ := h'.2 _ (List.mem_singleton.2 rfl)
  have en : name = [101, 114, 114, 111, 114] := (Option.some.inj e1).symm
  subst en
  obtain rfl := Option.some.inj (rtype_row.symm.trans e2)
  have hm : ty ∈ (List.range Tryz.prog.types.size).filter fun t => Tryz.prog.rowNamed t [101, 114, 114, 111, 114] := List.mem_filter.2 ⟨List.mem_range.2 e3, e4⟩
  rw [one_error] at hm
  obtain rfl := List.mem_singleton.1 hm
  rw [err_handle] at e5
  unfold ErrT
  simpa using World.var?_cell gErr e5 0

/-- A world that holds them: the settled one, with the two variables' cells. -/
noncomputable def laidWorld (os : Os) : World :=
  let w0 := World.holding Tryz.prog os ⟨#[], #[], []⟩
  let w1 : World := { w0 with heap := w0.heap.modify 0 fun
      | .cells _ t frozen => .cells #[.iface 286 (.agg #[.pointer (some ⟨2, 98, none⟩)])] t frozen
      | o => o }
  { w1 with heap := w1.heap.modify 1 fun
      | .cells _ t frozen => .cells (ctabZ.map fun z => Value.int .u32 z).toArray t frozen
      | o => o }

theorem laid_met (os : Os) (args : Array Value) : laidMetH Tryz.prog laid2 ((laidWorld os).forCall (fun _ _ => 0) ⟨#[], args, []⟩).memory :=
  laidMetH_of_parts (laidMet_of_run' 8 (by kernel_rfl) (by kernel_rfl)) (by kernel_rfl)
end Go.Proofs.YtddfdpbaiedcjaaGreatDoor
/- What every law's proof ends with: the arguments read behind the call as before, if no old block has turned. -/
namespace Go.Proofs.YtddfdpbaiedcjaaGreatDoor
open Go.ChangeShapes Go.WideShapes Go.ChangeAt Go.RowKit

theorem all_below {H : Type} {enc : TypeId × Value → H} {P : Program} (hl : laidOutB P = true) {W W' : World} (hb : Below W.heap.size W W') :
    ∀ {ts : List TypeId} {vs : List Value} {ds : List (DataW H)} {ps : List MemPlace}, (∀ t ∈ ts, P.readableRec t = true ∧ t < P.types.size) →
      DataW.TrodAll enc P W 0 (fun _ => true) true ts vs ds ps → (∀ x ∈ ps, x.block < W.heap.size) → DataW.TrodAll enc P W' 0 (fun b => decide (b < W.heap.size)) true ts vs ds ps
  | [], [], [], _, _, h, _ => h
  | t :: _, _ :: _, _ :: _, _, hT, ⟨p, q, h1, h2, e⟩, hs =>
    ⟨p, q, Below.trod hl (hT t (List.mem_cons.2 (Or.inl rfl))).1 (hT t (List.mem_cons.2 (Or.inl rfl))).2 h1 hb (fun x hx => hs x (by rw [e]; exact List.mem_append_left _ hx)),
      all_below hl hb (fun t ht => hT t (List.mem_cons.2 (Or.inr ht))) h2 (fun x hx => hs x (by rw [e]; exact List.mem_append_right _ hx)), e⟩

/-- The end of a law's proof: it answered true, no old block has turned. -/
theorem post_true {H : Type} {enc : TypeId × Value → H} {P : Program} {f : Func} {s : ChangeSpec} {apart fresh handsOn : Bool} {W W' : World} {args : Array Value} {ds gs : List (DataW H)} {before : List MemPlace} {tb : TypeId}
    (hW : DataW.Whole enc P f.params.toList s.vars apart W args.toList ds gs before) (hl : laidOutB P = true) (hts : ∀ t ∈ f.params.toList, P.readableRec t = true ∧ t < P.types.size)
    (hv : s.vars = []) (hres : (s.fn H (ds ++ gs)).results = [.lit (.bool true)]) (hargs : (s.fn H (ds ++ gs)).args = ds) (hvs : (s.fn H (ds ++ gs)).vars = [])
    (hrt : f.resultTypes = #[tb]) (htb : P.underlying tb = some .bool) (hb : Below W.heap.size W W') :
    s.post enc P f apart fresh handsOn false W args (.bool true) W' := by
  have hlt : ∀ x ∈ before, x.block < W.heap.size := fun x hx => by simpa using hW.lt x hx
  have hW' := hW
  obtain ⟨p, q, hA, hV, rfl, hfz, hnd⟩ := hW
  rw [hv] at hV
  obtain ⟨rfl, rfl⟩ := trodVars_none hV
  refine ⟨ds, [], p ++ [], [], p, [], hW', ?_, ?_, ?_, hb.frame _, fun h => by cases h⟩
  · rw [hres, hrt]
    exact trodAll_mk1 (shut_bool htb true)
  · rw [hargs]
    exact all_below hl hb hts hA (fun x hx => hlt x (List.mem_append_left _ hx))
  · rw [hv, hvs]
    exact rfl
end Go.Proofs.YtddfdpbaiedcjaaGreatDoor
/- A row that bears 'leaving', of a call that starts no goroutine: from the row that says more. A card whose program has a 'go' statement somewhere. -/
namespace Go.Proofs.YtddfdpbaiedcjaaGreatDoor

/-- Nobody else is there: so all others are only leaving. -/
theorem leaving_of_alone {P : Program} (m : Machine) (w : World) (t : Trace) (h : aloneAtReturn P m w t) : leavingAtReturn P m w t := by
  obtain ⟨hq, hh, he⟩ := h
  refine ⟨hh, ⟨fun g hg => ⟨0, ?_⟩, hq.2⟩, he⟩
  have h1 : (m.gs.toList.drop 1).all (fun g => g.status == .finished) = true := hq.1
  rw [List.all_eq_true] at h1
  have := h1 g hg
  simpa [Goroutine.LeavesIn] using this

theorem holds_leaving {p : Pinned} {s : OpenSpec} {c : OpenClaim} (hst : c.start = .entering) (hstops : c.stops = []) (hwf : c.wf s = true) (h : ({ c with leaving := false } : OpenClaim).holds p s) (hl : c.leaving = true) : c.holds p s := by
  obtain ⟨h1, h2, h3, h4, h5, h6, h7, h8, f, fn, h9, h10, h11, h12, h13, h14, h15, h16, h17, h18, h19, h20, h21, h22, h23, h24, h25, h26, h27, k1, k2, L, h28, h29⟩ := h
  refine ⟨hwf, h2, h3, h4, h5, h6, h7, h8, f, fn, h9, h10, h11, h12, h13, h14, h15, h16, h17, h18, h19, h20, h21, h22, h23, h24, h25, h26, h27, k1, k2, L, h28, fun os hw hq H enc inj => ?_⟩
  have hf := h29 os hw hq H enc inj
  unfold OpenClaim.form at hf ⊢
  have e1 : ({ c with leaving := false } : OpenClaim).start = .entering := hst
  have e2 : ({ c with leaving := false } : OpenClaim).stops = [] := hstops
  rw [e1, e2] at hf
  rw [hst, hstops]
  intro F
  have hF := hf F
  have e4 : c.atReturn p.checked.prog = leavingAtReturn p.checked.prog := by unfold OpenClaim.atReturn; rw [hl]
  rw [e4]
  exact ReturnsInOpen.mono (atReturn := aloneAtReturn p.checked.prog) (fun m w t h => leaving_of_alone m w t h) (fun m h => h) hF

/-- A tied card of a program that has a 'go' statement. -/
theorem card_going (Lk : Looks) {p : Pinned} {s : OpenSpec} {c : OpenClaim} (kinds : List LaidKind) (tests : Bool) (har : Bool × String) (lk : Bool)
    (hc : c.holds p s) (hw : c.wfByText s = true) (htie : c.laidByTextAt Lk p kinds tests)
    (hst : c.start = .entering) (hnb : c.noBlocks = false ∧ c.again = false) (hm : p.checked.prog.mainIs = some (har.1, har.2.toList)) (hn : (!har.1 && har.2.isEmpty && !lk) = false)
    (hl : ∀ f fn, p.checked.prog.funcNamed c.func = some f → p.checked.prog.funcs[f]? = some fn → lk = p.checked.prog.looks [] ∧ ∀ (j : Nat) t, fn.params[j]? = some t → p.checked.prog.wantsStandIn t = false)
    (hg : true = c.goesBy p.checked.prog) :
    Claim7.holds p (.plain s) { stood := { row := c, standIns := [], harness := har, looks := lk }, kinds := [], alts := [], laidByText := true, laidKinds := kinds, laidTests := tests, laidLooks := Lk, goes := true } :=
  ⟨Claim7.tied_new_at Lk kinds tests (Claim7.new_of_sixth hc har lk hst hnb hm (by simpa [Claim7.isSixth] using hn) hl) hw, (fun D hD => by cases hD), htie, (fun h => by cases h), hg⟩
end Go.Proofs.YtddfdpbaiedcjaaGreatDoor
