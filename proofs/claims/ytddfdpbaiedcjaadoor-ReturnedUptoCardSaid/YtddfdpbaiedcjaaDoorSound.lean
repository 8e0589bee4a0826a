/- wire.sound: can a frame be written? (printed by mksound.py) -/
import Derived.Test.YtddfdpbaiedcjaaDoorCodec
namespace Go.Proofs.YtddfdpbaiedcjaaDoor
open Go.RowKit

theorem always_any (p : Value) (w : World) : Calls Tryd.prog 36 #[p] w (Says w true) := by
  go_enter Tryd.func36, Tryd.ntmps36
  go_wp2_with fail
  go_ret
  exact ⟨rfl, Mod.refl _ _⟩

theorem sound3 (b : Nat) (f : Frm) (rv : Value) (w : World) (hf : FrameAt w b f rv) :
    Calls Tryd.prog 43 #[.pointer (some ⟨b, 0, none⟩)] w (Says w (decide (f.rel ≤ f.off))) := by
  obtain ⟨c0, c1, c2, c3, c4, c5, c6, c7, c8, c9⟩ := hf.cells
  go_enter Tryd.func43, Tryd.ntmps43
  go_wp2_with fail
  go_quiet (fail)
  go_wp2_with fail
  go_ret
  exact ⟨rfl, (Mod.refl _ _).drewN _⟩

theorem sound4 (b : Nat) (f : Frm) (rv : Value) (w : World) (hf : FrameAt w b f rv) (ho : f.off ≤ 4611686018427387903) (hd : f.data.length ≤ 4611686018427387903) :
    Calls Tryd.prog 48 #[.pointer (some ⟨b, 0, none⟩)] w (Says w (decide (f.data.length + f.off ≤ 4611686018427387903))) := by
  obtain ⟨c0, c1, c2, c3, c4, c5, c6, c7, c8, c9⟩ := hf.cells
  have hz := strOf_size f.data
  have e1 : IntKind.u64.wrap (4611686018427387903 - (f.off : Int)) = 4611686018427387903 - (f.off : Int) := by rw [IntKind.wrap_u64]; omega
  have e2 : IntKind.u64.wrap (f.data.length : Int) = (f.data.length : Int) := by rw [IntKind.wrap_u64]; omega
  have HE : Hid (decide ((f.data.length : Int) ≤ 4611686018427387903 - (f.off : Int)) = decide (f.data.length + f.off ≤ 4611686018427387903)) := by
    show _ = _
    rw [decide_eq_decide]
    omega
  go_enter Tryd.func48, Tryd.ntmps48
  go_wp2_with fail
  go_quiet (fail)
  go_wp2_with fail
  go_ret
  exact ⟨by rw [← HE.out]; rfl, (Mod.refl _ _).drewN _⟩

/-- The numbers of a frame. -/
def nums (f : Frm) : List Nat := [f.off, f.rel, f.lim, f.id, f.dl]
def numsOk (f : Frm) : Bool := (nums f).all fun n => decide (n ≤ 4611686018427387903)
def nAt (f : Frm) (k : Nat) : Nat := (nums f).getD k 0

theorem numsOk_false {f : Frm} {k : Nat} (hk : k < 5) (h : 4611686018427387903 < nAt f k) : numsOk f = false := by
  cases hq : numsOk f
  · rfl
  · unfold numsOk at hq
    rw [List.all_eq_true] at hq
    have hm : nAt f k ∈ nums f := by
      unfold nAt
      rw [List.getD_eq_getElem?_getD, List.getElem?_eq_getElem (by simpa [nums] using hk)]
      exact List.getElem_mem _
    have := hq _ hm
    simp at this
    omega

theorem numsOk_true {f : Frm} (h : ∀ k, k < 5 → nAt f k ≤ 4611686018427387903) : numsOk f = true := by
  have h0 := h 0 (by omega); have h1 := h 1 (by omega); have h2 := h 2 (by omega); have h3 := h 3 (by omega); have h4 := h 4 (by omega)
  simp [nAt, nums] at h0 h1 h2 h3 h4
  simp [numsOk, nums]
  omega

theorem numsOk_facts {f : Frm} (h : numsOk f = true) : f.off ≤ 4611686018427387903 ∧ f.rel ≤ 4611686018427387903 ∧ f.lim ≤ 4611686018427387903 ∧ f.id ≤ 4611686018427387903 ∧ f.dl ≤ 4611686018427387903 := by
  simpa [numsOk, nums] using h

def strOk (f : Frm) : Bool := decide (0 ≤ f.stream) && decide (f.stream < 8)

set_option maxHeartbeats 400000 in
theorem sound_gen (b cb : Nat) (f : Frm) (rv wv ev : Value) (G : FuncId) (sc : Bool) (w : World) (hf : FrameAt w b f rv) (hc : CodecAt w cb wv ev (.func (.func G) #[] #[])) (hE : Goes G)
    (hG : ∀ w', Mod NoB w w' → numsOk f = true → Calls Tryd.prog G #[.pointer (some ⟨b, 0, none⟩)] w' (Says w' sc)) :
    Calls Tryd.prog 27 #[.pointer (some ⟨b, 0, none⟩), .pointer (some ⟨cb, 0, none⟩)] w (Says w (numsOk f && strOk f && sc)) := by
  have hbl := lt_of_cell hf.cells.1
  have hE' : ∀ args w, (callFunc G args).run Tryd.prog w = .ok (.enter G args) w := hE
  have HG := hide hG
  clear hG hE
  go_enter Tryd.func27, Tryd.ntmps27
  go_wp2_with fail
  refine GT_start 23 (fun w' => FrameAt w' b f rv) (by kernel_rfl) (by kernel_rfl) (hf) ?_
  refine GT_take (i := 0) (v := ?_) rfl (by kernel_rfl) (fun _ _ _ h => h) (Or.inl ⟨by rfl, ?_⟩) ?_
  rotate_left
  · (intro wx hFx; (try dsimp only at hFx); have hc := hFx.cells; clear hFx; obtain ⟨c0, c1, c2, c3, c4, c5, c6, c7, c8, c9⟩ := hc; go_simp) <;> (try with_reducible rfl)
  try simp only [Act.put, List.setIfInBounds_toArray, List.set_cons_zero, List.set_cons_succ, List.getElem_toArray, List.getElem_cons_zero, List.getElem_cons_succ]
  refine GT_take (i := 1) (v := ?_) rfl (by kernel_rfl) (fun _ _ _ h => h) (Or.inl ⟨by rfl, ?_⟩) ?_
  rotate_left
  · (intro wx hFx; (try dsimp only at hFx); have hc := hFx.cells; clear hFx; obtain ⟨c0, c1, c2, c3, c4, c5, c6, c7, c8, c9⟩ := hc; go_simp) <;> (try with_reducible rfl)
  try simp only [Act.put, List.setIfInBounds_toArray, List.set_cons_zero, List.set_cons_succ, List.getElem_toArray, List.getElem_cons_zero, List.getElem_cons_succ]
  refine GT_take (i := 2) (v := ?_) rfl (by kernel_rfl) (fun _ _ _ h => h) (Or.inl ⟨by rfl, ?_⟩) ?_
  rotate_left
  · (intro wx hFx; (try dsimp only at hFx); have hc := hFx.cells; clear hFx; obtain ⟨c0, c1, c2, c3, c4, c5, c6, c7, c8, c9⟩ := hc; go_simp) <;> (try with_reducible rfl)
  try simp only [Act.put, List.setIfInBounds_toArray, List.set_cons_zero, List.set_cons_succ, List.getElem_toArray, List.getElem_cons_zero, List.getElem_cons_succ]
  refine GT_take (i := 3) (v := ?_) rfl (by kernel_rfl) (fun _ _ _ h => h) (Or.inl ⟨by rfl, ?_⟩) ?_
  rotate_left
  · (intro wx hFx; (try dsimp only at hFx); have hc := hFx.cells; clear hFx; obtain ⟨c0, c1, c2, c3, c4, c5, c6, c7, c8, c9⟩ := hc; go_simp) <;> (try with_reducible rfl)
  try simp only [Act.put, List.setIfInBounds_toArray, List.set_cons_zero, List.set_cons_succ, List.getElem_toArray, List.getElem_cons_zero, List.getElem_cons_succ]
  refine GT_take (i := 4) (v := ?_) rfl (by kernel_rfl) (fun _ _ _ h => h) (Or.inl ⟨by rfl, ?_⟩) ?_
  rotate_left
  · (intro wx hFx; (try dsimp only at hFx); have hc := hFx.cells; clear hFx; obtain ⟨c0, c1, c2, c3, c4, c5, c6, c7, c8, c9⟩ := hc; go_simp) <;> (try with_reducible rfl)
  try simp only [Act.put, List.setIfInBounds_toArray, List.set_cons_zero, List.set_cons_succ, List.getElem_toArray, List.getElem_cons_zero, List.getElem_cons_succ]
  refine GT_take (i := 5) (v := ?_) rfl (by kernel_rfl) (fun _ _ _ h => h) (Or.inl ⟨by rfl, ?_⟩) ?_
  rotate_left
  · (intro wx hFx; (try dsimp only at hFx); have hc := hFx.cells; clear hFx; obtain ⟨c0, c1, c2, c3, c4, c5, c6, c7, c8, c9⟩ := hc; go_simp) <;> (try with_reducible rfl)
  try simp only [Act.put, List.setIfInBounds_toArray, List.set_cons_zero, List.set_cons_succ, List.getElem_toArray, List.getElem_cons_zero, List.getElem_cons_succ]
  refine GT_take (i := 6) (v := ?_) rfl (by kernel_rfl) (fun _ _ _ h => h) (Or.inl ⟨by rfl, ?_⟩) ?_
  rotate_left
  · (intro wx hFx; (try dsimp only at hFx); have hc := hFx.cells; clear hFx; obtain ⟨c0, c1, c2, c3, c4, c5, c6, c7, c8, c9⟩ := hc; go_simp) <;> (try with_reducible rfl)
  try simp only [Act.put, List.setIfInBounds_toArray, List.set_cons_zero, List.set_cons_succ, List.getElem_toArray, List.getElem_cons_zero, List.getElem_cons_succ]
  refine GT_take (i := 7) (v := ?_) rfl (by kernel_rfl) (fun _ _ _ h => h) (Or.inl ⟨by rfl, ?_⟩) ?_
  rotate_left
  · (intro wx hFx; (try dsimp only at hFx); have hc := hFx.cells; clear hFx; obtain ⟨c0, c1, c2, c3, c4, c5, c6, c7, c8, c9⟩ := hc; go_simp) <;> (try with_reducible rfl)
  try simp only [Act.put, List.setIfInBounds_toArray, List.set_cons_zero, List.set_cons_succ, List.getElem_toArray, List.getElem_cons_zero, List.getElem_cons_succ]
  refine GT_take (i := 8) (v := ?_) rfl (by kernel_rfl) (fun _ _ _ h => h) (Or.inl ⟨by rfl, ?_⟩) ?_
  rotate_left
  · (intro wx hFx; (try dsimp only at hFx); have hc := hFx.cells; clear hFx; obtain ⟨c0, c1, c2, c3, c4, c5, c6, c7, c8, c9⟩ := hc; go_simp) <;> (try with_reducible rfl)
  try simp only [Act.put, List.setIfInBounds_toArray, List.set_cons_zero, List.set_cons_succ, List.getElem_toArray, List.getElem_cons_zero, List.getElem_cons_succ]
  refine GT_take (i := 9) (v := ?_) rfl (by kernel_rfl) (fun _ _ _ h => h) (Or.inl ⟨by rfl, ?_⟩) ?_
  rotate_left
  · (intro wx hFx; (try dsimp only at hFx); have hc := hFx.cells; clear hFx; obtain ⟨c0, c1, c2, c3, c4, c5, c6, c7, c8, c9⟩ := hc; go_simp) <;> (try with_reducible rfl)
  try simp only [Act.put, List.setIfInBounds_toArray, List.set_cons_zero, List.set_cons_succ, List.getElem_toArray, List.getElem_cons_zero, List.getElem_cons_succ]
  refine GT_take (i := 10) (v := ?_) rfl (by kernel_rfl) (fun _ _ _ h => h) (Or.inl ⟨by rfl, ?_⟩) ?_
  rotate_left
  · (intro wx hFx; (try dsimp only at hFx); have hc := hFx.cells; clear hFx; obtain ⟨c0, c1, c2, c3, c4, c5, c6, c7, c8, c9⟩ := hc; go_simp) <;> (try with_reducible rfl)
  try simp only [Act.put, List.setIfInBounds_toArray, List.set_cons_zero, List.set_cons_succ, List.getElem_toArray, List.getElem_cons_zero, List.getElem_cons_succ]
  refine GT_take (i := 11) (v := ?_) rfl (by kernel_rfl) (fun _ _ _ h => h) (Or.inl ⟨by rfl, ?_⟩) ?_
  rotate_left
  · (intro wx hFx; (try dsimp only at hFx); have hc := hFx.cells; clear hFx; obtain ⟨c0, c1, c2, c3, c4, c5, c6, c7, c8, c9⟩ := hc; go_simp) <;> (try with_reducible rfl)
  try simp only [Act.put, List.setIfInBounds_toArray, List.set_cons_zero, List.set_cons_succ, List.getElem_toArray, List.getElem_cons_zero, List.getElem_cons_succ]
  refine GT_take (i := 12) (v := ?_) rfl (by kernel_rfl) (fun _ _ _ h => h) (Or.inl ⟨by rfl, ?_⟩) ?_
  rotate_left
  · (intro wx hFx; (try dsimp only at hFx); have hc := hFx.cells; clear hFx; obtain ⟨c0, c1, c2, c3, c4, c5, c6, c7, c8, c9⟩ := hc; go_simp) <;> (try with_reducible rfl)
  try simp only [Act.put, List.setIfInBounds_toArray, List.set_cons_zero, List.set_cons_succ, List.getElem_toArray, List.getElem_cons_zero, List.getElem_cons_succ]
  refine GT_take (i := 13) (v := ?_) rfl (by kernel_rfl) (fun _ _ _ h => h) (Or.inl ⟨by rfl, ?_⟩) ?_
  rotate_left
  · (intro wx hFx; (try dsimp only at hFx); have hc := hFx.cells; clear hFx; obtain ⟨c0, c1, c2, c3, c4, c5, c6, c7, c8, c9⟩ := hc; go_simp) <;> (try with_reducible rfl)
  try simp only [Act.put, List.setIfInBounds_toArray, List.set_cons_zero, List.set_cons_succ, List.getElem_toArray, List.getElem_cons_zero, List.getElem_cons_succ]
  refine GT_take (i := 14) (v := ?_) rfl (by kernel_rfl) (fun _ _ _ h => h) (Or.inl ⟨by rfl, ?_⟩) ?_
  rotate_left
  · (intro wx hFx; (try dsimp only at hFx); have hc := hFx.cells; clear hFx; obtain ⟨c0, c1, c2, c3, c4, c5, c6, c7, c8, c9⟩ := hc; go_simp) <;> (try with_reducible rfl)
  try simp only [Act.put, List.setIfInBounds_toArray, List.set_cons_zero, List.set_cons_succ, List.getElem_toArray, List.getElem_cons_zero, List.getElem_cons_succ]
  refine GT_take (i := 15) (v := ?_) rfl (by kernel_rfl) (fun _ _ _ h => h) (Or.inl ⟨by rfl, ?_⟩) ?_
  rotate_left
  · (intro wx hFx; (try dsimp only at hFx); have hc := hFx.cells; clear hFx; obtain ⟨c0, c1, c2, c3, c4, c5, c6, c7, c8, c9⟩ := hc; go_simp) <;> (try with_reducible rfl)
  try simp only [Act.put, List.setIfInBounds_toArray, List.set_cons_zero, List.set_cons_succ, List.getElem_toArray, List.getElem_cons_zero, List.getElem_cons_succ]
  refine GT_take (i := 16) (v := ?_) rfl (by kernel_rfl) (fun _ _ _ h => h) (Or.inl ⟨by rfl, ?_⟩) ?_
  rotate_left
  · (intro wx hFx; (try dsimp only at hFx); have hc := hFx.cells; clear hFx; obtain ⟨c0, c1, c2, c3, c4, c5, c6, c7, c8, c9⟩ := hc; go_simp) <;> (try with_reducible rfl)
  try simp only [Act.put, List.setIfInBounds_toArray, List.set_cons_zero, List.set_cons_succ, List.getElem_toArray, List.getElem_cons_zero, List.getElem_cons_succ]
  refine GT_take (i := 17) (v := ?_) rfl (by kernel_rfl) (fun _ _ _ h => h) (Or.inl ⟨by rfl, ?_⟩) ?_
  rotate_left
  · (intro wx hFx; (try dsimp only at hFx); have hc := hFx.cells; clear hFx; obtain ⟨c0, c1, c2, c3, c4, c5, c6, c7, c8, c9⟩ := hc; go_simp) <;> (try with_reducible rfl)
  try simp only [Act.put, List.setIfInBounds_toArray, List.set_cons_zero, List.set_cons_succ, List.getElem_toArray, List.getElem_cons_zero, List.getElem_cons_succ]
  refine GT_take (i := 18) (v := ?_) rfl (by kernel_rfl) (fun _ _ _ h => h) (Or.inl ⟨by rfl, ?_⟩) ?_
  rotate_left
  · (intro wx hFx; (try dsimp only at hFx); have hc := hFx.cells; clear hFx; obtain ⟨c0, c1, c2, c3, c4, c5, c6, c7, c8, c9⟩ := hc; go_simp) <;> (try with_reducible rfl)
  try simp only [Act.put, List.setIfInBounds_toArray, List.set_cons_zero, List.set_cons_succ, List.getElem_toArray, List.getElem_cons_zero, List.getElem_cons_succ]
  refine GT_take (i := 19) (v := ?_) rfl (by kernel_rfl) (fun _ _ _ h => h) (Or.inl ⟨by rfl, ?_⟩) ?_
  rotate_left
  · (intro wx hFx; (try dsimp only at hFx); have hc := hFx.cells; clear hFx; obtain ⟨c0, c1, c2, c3, c4, c5, c6, c7, c8, c9⟩ := hc; go_simp) <;> (try with_reducible rfl)
  try simp only [Act.put, List.setIfInBounds_toArray, List.set_cons_zero, List.set_cons_succ, List.getElem_toArray, List.getElem_cons_zero, List.getElem_cons_succ]
  refine GT_take (i := 22) (v := ?_) rfl (by kernel_rfl) (fun _ _ _ h => h) (Or.inl ⟨by rfl, ?_⟩) ?_
  rotate_left
  · (intro wx hFx; (try dsimp only at hFx); have hc := hFx.cells; clear hFx; obtain ⟨c0, c1, c2, c3, c4, c5, c6, c7, c8, c9⟩ := hc; go_simp) <;> (try with_reducible rfl)
  try simp only [Act.put, List.setIfInBounds_toArray, List.set_cons_zero, List.set_cons_succ, List.getElem_toArray, List.getElem_cons_zero, List.getElem_cons_succ]
  refine GT_one (i := 20) rfl (by kernel_rfl) (fun K hK => ?_)
  go_simp
  refine hK.out _ _ ?_ ?_
  · exact FrameAt.mod (w := w.drew) (S := NoB) hf ((Mod.refl _ _).alloc _) (fun x => x)
  clear hK K
  try simp only [Act.put, List.setIfInBounds_toArray, List.set_cons_zero, List.set_cons_succ, List.getElem_toArray, List.getElem_cons_zero, List.getElem_cons_succ]
  refine GT_take (i := 21) (v := ?_) rfl (by kernel_rfl) (fun _ _ _ h => h) (Or.inl ⟨by rfl, ?_⟩) ?_
  rotate_left
  · (intro wx hFx; (try dsimp only at hFx); have hc := hFx.cells; clear hFx; obtain ⟨c0, c1, c2, c3, c4, c5, c6, c7, c8, c9⟩ := hc; go_simp) <;> (try with_reducible rfl)
  try simp only [Act.put, List.setIfInBounds_toArray, List.set_cons_zero, List.set_cons_succ, List.getElem_toArray, List.getElem_cons_zero, List.getElem_cons_succ]
  refine GT_done (by kernel_rfl) ?_
  obtain ⟨X, hX⟩ : ∃ X, (w.alloc (.cells #[.int .u64 (f.off : Int), .int .u64 (f.rel : Int), .int .u64 (f.lim : Int), .int .u64 (f.id : Int), .int .u64 (f.dl : Int)] 22)).drew = X := ⟨_, rfl⟩
  have mX : Mod NoB w X := by rw [← hX]; exact ((Mod.refl _ _).alloc _).drew
  have hB : ∀ k, k < 5 → X.cell? ⟨w.heap.size, k, none⟩ = some (.int .u64 (nAt f k : Int)) := fun k hk => by
    rw [← hX]
    refine cell_of_obj (heap_alloc_new w _) ?_
    match k, hk with
    | 0, _ => rfl
    | 1, _ => rfl
    | 2, _ => rfl
    | 3, _ => rfl
    | 4, _ => rfl
  rw [hX]
  have fX := hf.mod mX (fun x => x)
  have cX := (hc.mod mX (fun x => x)).2.2
  have c1 := fX.cells.2.1
  clear hX hf hc fX hbl
  have HX := hide mX
  clear mX
  go_wp2_with fail
  go_loop [6, 29] (fun _ i => ∃ k : Nat, k ≤ 5 ∧ i = .int .i64 k ∧ Hid (∀ j, j < k → nAt f j ≤ 4611686018427387903)) (fun _ i => 5 - (intOf i).toNat)
  case atStart => exact ⟨0, by omega, rfl, hide (fun j hj => absurd hj (Nat.not_lt_zero j))⟩
  case round =>
    obtain ⟨k, hk, rfl, hn⟩ := hrel
    by_cases hlt : k < 5
    · have c := hB k hlt
      obtain ⟨n, hnk⟩ : ∃ n, nAt f k = n := ⟨_, rfl⟩
      rw [hnk] at c
      have Hn := hide hnk
      clear hB hnk
      by_cases hbig : 4611686018427387903 < n
      · have HF := hide (numsOk_false hlt (by rw [Hn.out]; exact hbig))
        have hbig' : (4611686018427387903 : Int) < n := by omega
        go_wp2_with fail
        go_ret
        exact ⟨by rw [HF.out]; rfl, HX.out⟩
      · have hbig' : ¬ (4611686018427387903 : Int) < n := by omega
        go_wp2_with fail
        go_round
        case rel => exact ⟨k + 1, by omega, by go_num, hide (fun j hj => by
          by_cases h : j < k
          · exact hn.out j h
          · have : j = k := by omega
            rw [this, Hn.out]
            omega)⟩
        case measure => simp [intOf]; omega
    · have hk5 : k = 5 := by omega
      have hok := numsOk_true (f := f) (fun j hj => hn.out j (by omega))
      have HO := hide hok
      have hcall := HG.out X HX.out hok
      clear hok hB hk5 hn
      by_cases d1 : 0 ≤ f.stream
      · by_cases d2 : f.stream < 8
        · have HS : Hid (strOk f = true) := by show _ = _; simp [strOk, d1, d2]
          have e1 : decide (0 ≤ f.stream) = true := by simpa using d1
          have e2 : decide (f.stream < 8) = true := by simpa using d2
          go_wp2_with (refine hcall.mono ?_; rintro e w' ⟨rfl, hm'⟩)
          go_ret
          exact ⟨by rw [HO.out, HS.out, Bool.true_and, Bool.true_and]; rfl, HX.out.trans hm'⟩
        · have HS : Hid (strOk f = false) := by show _ = _; simp [strOk, d2]
          have e1 : decide (0 ≤ f.stream) = true := by simpa using d1
          have e2 : decide (f.stream < 8) = false := by simpa using d2
          go_wp2_with fail
          go_ret
          exact ⟨by rw [HO.out, HS.out, Bool.true_and, Bool.false_and]; rfl, HX.out⟩
      · have HS : Hid (strOk f = false) := by show _ = _; simp [strOk, d1]
        have e1 : decide (0 ≤ f.stream) = false := by simpa using d1
        go_wp2_with fail
        go_ret
        exact ⟨by rw [HO.out, HS.out, Bool.true_and, Bool.false_and]; rfl, HX.out⟩
end Go.Proofs.YtddfdpbaiedcjaaDoor
