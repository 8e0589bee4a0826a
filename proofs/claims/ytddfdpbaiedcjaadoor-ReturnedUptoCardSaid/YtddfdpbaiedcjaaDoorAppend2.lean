/- wire.Append at each kind (printed by mkappend2.py). -/
import Derived.Test.YtddfdpbaiedcjaaDoorAppend
namespace Go.Proofs.YtddfdpbaiedcjaaDoor
open Go.RowKit

/-- What a frame of its kind must meet besides. -/
def soundC (f : Frm) : Bool :=
  if f.kind = 2 then soundRs f.rngs
  else if f.kind = 3 then decide (f.rel ≤ f.off)
  else if f.kind = 4 then decide (f.data.length + f.off ≤ 4611686018427387903)
  else decide (1 ≤ f.kind) && decide (f.kind ≤ 8)

/-- Can the frame be written? -/
def soundF (f : Frm) : Bool := numsOk f && strOk f && soundC f

/-- The frame's bytes. -/
def bytesF (f : Frm) : List UInt8 :=
  if f.kind = 1 then [1]
  else if f.kind = 2 then bwrite2 f
  else if f.kind = 3 then bwrite3 f
  else if f.kind = 4 then (if f.fin then bwrite4f f else bwrite4 f)
  else if f.kind = 5 then bnum 16 f
  else if f.kind = 6 then bwrite6 f
  else if f.kind = 7 then bwrite7 f
  else bnum 28 f

theorem bounds_of {f : Frm} {sc : Bool} (h : (numsOk f && strOk f && sc) = true) (hd : f.data.length ≤ 35184372088832) : f.Bounds := by
  simp only [Bool.and_eq_true] at h
  obtain ⟨⟨h1, h2⟩, _⟩ := h
  obtain ⟨a, b, c, d, e⟩ := numsOk_facts h1
  simp only [strOk, Bool.and_eq_true, decide_eq_true_eq] at h2
  exact ⟨h2.1, h2.2, by omega, by omega, by omega, by omega, by omega, hd⟩

theorem goes_of {F : FuncId} {fn : Func} {c : Code} (hf : Tryd.prog.funcs[F]? = some fn) (hname : (fn.name == "runtime.NumGoroutine") = false) (hb : fn.body = some c) : Goes F := fun args w => run_enter hf hname hb args w

theorem goes_36 : Goes 36 := goes_of Tryd.func36 (by kernel_rfl) rfl
theorem goes_57 : Goes 57 := goes_of Tryd.func57 (by kernel_rfl) rfl
theorem goes_34 : Goes 34 := goes_of Tryd.func34 (by kernel_rfl) rfl
theorem goes_53 : Goes 53 := goes_of Tryd.func53 (by kernel_rfl) rfl
theorem goes_40 : Goes 40 := goes_of Tryd.func40 (by kernel_rfl) rfl
theorem goes_43 : Goes 43 := goes_of Tryd.func43 (by kernel_rfl) rfl
theorem goes_44 : Goes 44 := goes_of Tryd.func44 (by kernel_rfl) rfl
theorem goes_48 : Goes 48 := goes_of Tryd.func48 (by kernel_rfl) rfl
theorem goes_51 : Goes 51 := goes_of Tryd.func51 (by kernel_rfl) rfl
theorem goes_39 : Goes 39 := goes_of Tryd.func39 (by kernel_rfl) rfl
theorem goes_37 : Goes 37 := goes_of Tryd.func37 (by kernel_rfl) rfl

theorem wcodec_1 (f : Frm) (rv : Value) (l : List UInt8) (w : World) (hk : f.kind = 1) (hr : RR w rv f.rngs) (hn : f.rngs.length ≤ 1099511627776) (hd : f.data.length ≤ 35184372088832) (hl : l.length ≤ 35184372088832) :
    Calls Tryd.prog 26 #[.int .i64 f.kind] w (WCodec f rv l ([1]) (true) w) := by
  rw [hk]
  refine (of_1 w).mono ?_
  rintro e w' ⟨b, rfl, hc, hm, hb⟩
  refine ⟨b, 34, #[], 36, _, rfl, hc, goes_34, goes_36, hm, fun Y bf m hf hq => always_any _ Y, fun Y v bf m hf ho hlt hoff hok => ?_⟩
  exact write1 v l bf Y ho hl

theorem wcodec_2 (f : Frm) (rv : Value) (l : List UInt8) (w : World) (hk : f.kind = 2) (hr : RR w rv f.rngs) (hn : f.rngs.length ≤ 1099511627776) (hd : f.data.length ≤ 35184372088832) (hl : l.length ≤ 35184372088832) :
    Calls Tryd.prog 26 #[.int .i64 f.kind] w (WCodec f rv l (bwrite2 f) (soundRs f.rngs) w) := by
  rw [hk]
  refine (of_2 w).mono ?_
  rintro e w' ⟨b, rfl, hc, hm, hb⟩
  refine ⟨b, 37, #[], 39, _, rfl, hc, goes_37, goes_39, hm, fun Y bf m hf hq => soundack_any bf f rv Y hf (hr.mod (hm.trans m) (OffS.no _)) hn, fun Y v bf m hf ho hlt hoff hok => ?_⟩
  exact write2 v l bf f rv Y hf (hr.mod (hm.trans m) (OffS.no _)) (by simp only [Bool.and_eq_true] at hok; exact hok.2) hn (hoff (by simp only [Bool.and_eq_true, soundRs, decide_eq_true_eq] at hok; exact hok.2.2)) ho hl

theorem wcodec_3 (f : Frm) (rv : Value) (l : List UInt8) (w : World) (hk : f.kind = 3) (hr : RR w rv f.rngs) (hn : f.rngs.length ≤ 1099511627776) (hd : f.data.length ≤ 35184372088832) (hl : l.length ≤ 35184372088832) :
    Calls Tryd.prog 26 #[.int .i64 f.kind] w (WCodec f rv l (bwrite3 f) (decide (f.rel ≤ f.off)) w) := by
  rw [hk]
  refine (of_3 w).mono ?_
  rintro e w' ⟨b, rfl, hc, hm, hb⟩
  refine ⟨b, 40, #[], 43, _, rfl, hc, goes_40, goes_43, hm, fun Y bf m hf hq => sound3 bf f rv Y hf, fun Y v bf m hf ho hlt hoff hok => ?_⟩
  exact write3 v l bf f rv Y hf ho hl (bounds_of hok hd)

theorem wcodec_4 (f : Frm) (rv : Value) (l : List UInt8) (w : World) (hk : f.kind = 4) (hr : RR w rv f.rngs) (hn : f.rngs.length ≤ 1099511627776) (hd : f.data.length ≤ 35184372088832) (hl : l.length ≤ 35184372088832) :
    Calls Tryd.prog 26 #[.int .i64 f.kind] w (WCodec f rv l (if f.fin then bwrite4f f else bwrite4 f) (decide (f.data.length + f.off ≤ 4611686018427387903)) w) := by
  rw [hk]
  refine (of_4 w).mono ?_
  rintro e w' ⟨b, rfl, hc, hm, hb⟩
  refine ⟨b, 44, #[], 48, _, rfl, hc, goes_44, goes_48, hm, fun Y bf m hf hq => sound4 bf f rv Y hf (numsOk_facts hq).1 (by omega), fun Y v bf m hf ho hlt hoff hok => ?_⟩
  cases hfin : f.fin
  · exact write4 v l bf f rv Y hf ho hl (bounds_of hok hd) hfin
  · exact write4f v l bf f rv Y hf ho hl (bounds_of hok hd) hfin

theorem wcodec_5 (f : Frm) (rv : Value) (l : List UInt8) (w : World) (hk : f.kind = 5) (hr : RR w rv f.rngs) (hn : f.rngs.length ≤ 1099511627776) (hd : f.data.length ≤ 35184372088832) (hl : l.length ≤ 35184372088832) :
    Calls Tryd.prog 26 #[.int .i64 f.kind] w (WCodec f rv l (bnum 16 f) (true) w) := by
  rw [hk]
  refine (of_5 w).mono ?_
  rintro e w' ⟨b, tb, ab, rfl, hc, hcap, hm, hb, htb, hab⟩
  refine ⟨b, _, _, 36, _, rfl, hc, goes_57, goes_36, hm, fun Y bf _ _ _ => always_any _ Y, fun Y v bf m hf ho hlt hoff hok => ?_⟩
  exact write_num v l bf tb ab _ f rv Y hf (hcap.mod m (fun x => x) (fun x => x)) (fun hx => by have := hlt _ hx; omega) (fun hx => by have := hlt _ hx; omega) ho hl (bounds_of hok hd)

theorem wcodec_6 (f : Frm) (rv : Value) (l : List UInt8) (w : World) (hk : f.kind = 6) (hr : RR w rv f.rngs) (hn : f.rngs.length ≤ 1099511627776) (hd : f.data.length ≤ 35184372088832) (hl : l.length ≤ 35184372088832) :
    Calls Tryd.prog 26 #[.int .i64 f.kind] w (WCodec f rv l (bwrite6 f) (true) w) := by
  rw [hk]
  refine (of_6 w).mono ?_
  rintro e w' ⟨b, rfl, hc, hm, hb⟩
  refine ⟨b, 51, #[], 36, _, rfl, hc, goes_51, goes_36, hm, fun Y bf m hf hq => always_any _ Y, fun Y v bf m hf ho hlt hoff hok => ?_⟩
  exact write6 v l bf f rv Y hf ho hl (bounds_of hok hd)

theorem wcodec_7 (f : Frm) (rv : Value) (l : List UInt8) (w : World) (hk : f.kind = 7) (hr : RR w rv f.rngs) (hn : f.rngs.length ≤ 1099511627776) (hd : f.data.length ≤ 35184372088832) (hl : l.length ≤ 35184372088832) :
    Calls Tryd.prog 26 #[.int .i64 f.kind] w (WCodec f rv l (bwrite7 f) (true) w) := by
  rw [hk]
  refine (of_7 w).mono ?_
  rintro e w' ⟨b, rfl, hc, hm, hb⟩
  refine ⟨b, 53, #[], 36, _, rfl, hc, goes_53, goes_36, hm, fun Y bf m hf hq => always_any _ Y, fun Y v bf m hf ho hlt hoff hok => ?_⟩
  exact write7 v l bf f rv Y hf ho hl (bounds_of hok hd)

theorem wcodec_8 (f : Frm) (rv : Value) (l : List UInt8) (w : World) (hk : f.kind = 8) (hr : RR w rv f.rngs) (hn : f.rngs.length ≤ 1099511627776) (hd : f.data.length ≤ 35184372088832) (hl : l.length ≤ 35184372088832) :
    Calls Tryd.prog 26 #[.int .i64 f.kind] w (WCodec f rv l (bnum 28 f) (true) w) := by
  rw [hk]
  refine (of_8 w).mono ?_
  rintro e w' ⟨b, tb, ab, rfl, hc, hcap, hm, hb, htb, hab⟩
  refine ⟨b, _, _, 36, _, rfl, hc, goes_57, goes_36, hm, fun Y bf _ _ _ => always_any _ Y, fun Y v bf m hf ho hlt hoff hok => ?_⟩
  exact write_num v l bf tb ab _ f rv Y hf (hcap.mod m (fun x => x) (fun x => x)) (fun hx => by have := hlt _ hx; omega) (fun hx => by have := hlt _ hx; omega) ho hl (bounds_of hok hd)

theorem append_no (v : Value) (l : List UInt8) (f : Frm) (rv : Value) (w : World) (hk : f.kind < 1 ∨ 8 < f.kind) (hv : ∃ a n c, v = .slice a n c) :
    Calls Tryd.prog 18 #[v, .agg (frCells f rv)] w fun e w' => e = .returned (.slice none 0 0) ∧ Mod NoB w w' := by
  have c0 : (w.alloc (.cells (frCells f rv) 28)).cell? ⟨w.heap.size, 0, none⟩ = some (.int .i64 f.kind) := cell_of_obj (heap_alloc_new w _) rfl
  have m0 : Mod NoB w (w.alloc (.cells (frCells f rv) 28)) := (Mod.refl _ _).alloc _
  have hof := of_no f.kind hk (w.alloc (.cells (frCells f rv) 28))
  obtain ⟨X, hX⟩ : ∃ X, w.alloc (.cells (frCells f rv) 28) = X := ⟨_, rfl⟩
  rw [hX] at hof m0 c0
  have Hm0 := hide m0
  clear m0 hk
  obtain ⟨a, n, c, rfl⟩ := hv
  unfold frCells at hX ⊢
  go_enter Tryd.func18, Tryd.ntmps18
  go_wp2_with fail
  refine hof.mono ?_
  rintro e w1 ⟨rfl, m1⟩
  go_wp2_with fail
  go_ret
  exact ⟨rfl, Hm0.out.trans m1⟩

theorem append_any (v : Value) (l : List UInt8) (f : Frm) (rv : Value) (w : World) (h : OB w v l) (hoff : 0 < f.rngs.length → OffS (fun k => v.ownBlock = some k) rv) (hr : RR w rv f.rngs) (hn : f.rngs.length ≤ 1099511627776) (hd : f.data.length ≤ 35184372088832) (hl : l.length ≤ 35184372088832) :
    Calls Tryd.prog 18 #[v, .agg (frCells f rv)] w (Appended w v l (soundF f) (bytesF f)) := by
  by_cases hk : f.kind < 1 ∨ 8 < f.kind
  · have hs : soundF f = false := by
      have : soundC f = false := by
        unfold soundC
        rw [if_neg (by omega), if_neg (by omega), if_neg (by omega)]
        simp
        omega
      rw [soundF, this, Bool.and_false]
    refine (append_no v l f rv w hk (by obtain ⟨a, c, rfl, _⟩ := own_form h; exact ⟨a, _, c, rfl⟩)).mono ?_
    rintro e w' ⟨rfl, hm⟩
    exact .inr ⟨hs, rfl, hm⟩
  · have hk' : f.kind = 1 ∨ f.kind = 2 ∨ f.kind = 3 ∨ f.kind = 4 ∨ f.kind = 5 ∨ f.kind = 6 ∨ f.kind = 7 ∨ f.kind = 8 := by omega
    rcases hk' with e | e | e | e | e | e | e | e
    · have e1 : bytesF f = [1] := by simp [bytesF, e]
      have e2 : soundC f = (true) := by simp [soundC, e]
      rw [soundF, e1, e2]
      exact append_gen v l f rv _ _ w h hoff (fun w1 m => wcodec_1 f rv l w1 e (hr.mod m (OffS.no _)) hn hd hl)
    · have e1 : bytesF f = bwrite2 f := by simp [bytesF, e]
      have e2 : soundC f = (soundRs f.rngs) := by simp [soundC, e]
      rw [soundF, e1, e2]
      exact append_gen v l f rv _ _ w h hoff (fun w1 m => wcodec_2 f rv l w1 e (hr.mod m (OffS.no _)) hn hd hl)
    · have e1 : bytesF f = bwrite3 f := by simp [bytesF, e]
      have e2 : soundC f = (decide (f.rel ≤ f.off)) := by simp [soundC, e]
      rw [soundF, e1, e2]
      exact append_gen v l f rv _ _ w h hoff (fun w1 m => wcodec_3 f rv l w1 e (hr.mod m (OffS.no _)) hn hd hl)
    · have e1 : bytesF f = if f.fin then bwrite4f f else bwrite4 f := by simp [bytesF, e]
      have e2 : soundC f = (decide (f.data.length + f.off ≤ 4611686018427387903)) := by simp [soundC, e]
      rw [soundF, e1, e2]
      exact append_gen v l f rv _ _ w h hoff (fun w1 m => wcodec_4 f rv l w1 e (hr.mod m (OffS.no _)) hn hd hl)
    · have e1 : bytesF f = bnum 16 f := by simp [bytesF, e]
      have e2 : soundC f = (true) := by simp [soundC, e]
      rw [soundF, e1, e2]
      exact append_gen v l f rv _ _ w h hoff (fun w1 m => wcodec_5 f rv l w1 e (hr.mod m (OffS.no _)) hn hd hl)
    · have e1 : bytesF f = bwrite6 f := by simp [bytesF, e]
      have e2 : soundC f = (true) := by simp [soundC, e]
      rw [soundF, e1, e2]
      exact append_gen v l f rv _ _ w h hoff (fun w1 m => wcodec_6 f rv l w1 e (hr.mod m (OffS.no _)) hn hd hl)
    · have e1 : bytesF f = bwrite7 f := by simp [bytesF, e]
      have e2 : soundC f = (true) := by simp [soundC, e]
      rw [soundF, e1, e2]
      exact append_gen v l f rv _ _ w h hoff (fun w1 m => wcodec_7 f rv l w1 e (hr.mod m (OffS.no _)) hn hd hl)
    · have e1 : bytesF f = bnum 28 f := by simp [bytesF, e]
      have e2 : soundC f = (true) := by simp [soundC, e]
      rw [soundF, e1, e2]
      exact append_gen v l f rv _ _ w h hoff (fun w1 m => wcodec_8 f rv l w1 e (hr.mod m (OffS.no _)) hn hd hl)
end Go.Proofs.YtddfdpbaiedcjaaDoor
