/- The statement Gathered, second form, its card: where what the law reads is of bulk at most 1048576, and the two listed variables read as listed, it returns true, and its argument reads behind the call as before. Part 7 of 23. -/
import Derived.Test.YtddfdpbaiedcjabGreatDoorGatheredPart6
import Derived.Lib.LazyBuf
/- wire.sound: can a frame be written? (printed by mksound.py) -/
namespace Go.Proofs.YtddfdpbaiedcjabGreatDoor
open Go.RowKit

theorem always_any (p : Value) (w : World) : Calls Tryz.prog 170 #[p] w (Says w true) := by
  go_enter Tryz.func170, Tryz.ntmps170
  go_wp2_with fail
  go_ret
  exact ⟨rfl, Mod.refl _ _⟩

theorem sound3 (b : Nat) (f : Frm) (rv : Value) (w : World) (hf : FrameAt w b f rv) :
    Calls Tryz.prog 177 #[.pointer (some ⟨b, 0, none⟩)] w (Says w (decide (f.rel ≤ f.off))) := by
  obtain ⟨c0, c1, c2, c3, c4, c5, c6, c7, c8, c9⟩ := hf.cells
  go_enter Tryz.func177, Tryz.ntmps177
  go_wp2_with fail
  go_quiet (fail)
  go_wp2_with fail
  go_ret
  exact ⟨rfl, (Mod.refl _ _).drewN _⟩

theorem sound4 (b : Nat) (f : Frm) (rv : Value) (w : World) (hf : FrameAt w b f rv) (ho : f.off ≤ 4611686018427387903) (hd : f.data.length ≤ 4611686018427387903) :
    Calls Tryz.prog 182 #[.pointer (some ⟨b, 0, none⟩)] w (Says w (decide (f.data.length + f.off ≤ 4611686018427387903))) := by
  obtain ⟨c0, c1, c2, c3, c4, c5, c6, c7, c8, c9⟩ := hf.cells
  have hz := strOf_size f.data
  have e1 : IntKind.u64.wrap (4611686018427387903 - (f.off : Int)) = 4611686018427387903 - (f.off : Int) := by rw [IntKind.wrap_u64]; omega
  have e2 : IntKind.u64.wrap (f.data.length : Int) = (f.data.length : Int) := by rw [IntKind.wrap_u64]; omega
  have HE : Hid (decide ((f.data.length : Int) ≤ 4611686018427387903 - (f.off : Int)) = decide (f.data.length + f.off ≤ 4611686018427387903)) := by
    show _ = _
    rw [decide_eq_decide]
    omega
  go_enter Tryz.func182, Tryz.ntmps182
  go_wp2_with fail
  go_quiet (fail)
  go_wp2_with fail
  go_ret
  exact ⟨by rw [← HE.out]; rfl, (Mod.refl _ _).drewN _⟩

/-- The numbers of a frame. -/
def nums (f : Frm) : List Nat := [f.off, f.rel, f.lim, f.id, f.dl]
def numsOk (f : Frm) : Bool := (nums f).all fun n => decide (n ≤ 4611686018427387903)
def nAt (f : Frm) (k : Nat) : Nat := (nums f).getD k 0

theorem numsOk_false {f : Frm} {k : Nat} (hk : k < 5) (h : 4611686018427387903 < nAt f k) : numsOk f = false := by
  cases hq : numsOk f
  · rfl
  · unfold numsOk at hq
    rw [List.all_eq_true] at hq
    have hm : nAt f k ∈ nums f := by
      unfold nAt
      rw [List.getD_eq_getElem?_getD, List.getElem?_eq_getElem (by simpa [nums] using hk)]
      exact List.getElem_mem _
    have := hq _ hm
    simp at this
    omega

theorem numsOk_true {f : Frm} (h : ∀ k, k < 5 → nAt f k ≤ 4611686018427387903) : numsOk f = true := by
  have h0 := h 0 (by omega); have h1 := h 1 (by omega); have h2 := h 2 (by omega); have h3 := h 3 (by omega); have h4 := h 4 (by omega)
  simp [nAt, nums] at h0 h1 h2 h3 h4
  simp [numsOk, nums]
  omega

theorem numsOk_facts {f : Frm} (h : numsOk f = true) : f.off ≤ 4611686018427387903 ∧ f.rel ≤ 4611686018427387903 ∧ f.lim ≤ 4611686018427387903 ∧ f.id ≤ 4611686018427387903 ∧ f.dl ≤ 4611686018427387903 := by
  simpa [numsOk, nums] using h

def strOk (f : Frm) : Bool := decide (0 ≤ f.stream) && decide (f.stream < 8)

set_option maxHeartbeats 400000 in
theorem sound_gen (b cb : Nat) (f : Frm) (rv wv ev : Value) (G : FuncId) (sc : Bool) (w : World) (hf : FrameAt w b f rv) (hc : CodecAt w cb wv ev (.func (.func G) #[] #[])) (hE : Goes G)
    (hG : ∀ w', Mod NoB w w' → numsOk f = true → Calls Tryz.prog G #[.pointer (some ⟨b, 0, none⟩)] w' (Says w' sc)) :
    Calls Tryz.prog 150 #[.pointer (some ⟨b, 0, none⟩), .pointer (some ⟨cb, 0, none⟩)] w (Says w (numsOk f && strOk f && sc)) := by
  have hbl := lt_of_cell hf.cells.1
  have hE' : ∀ args w, (callFunc G args).run Tryz.prog w = .ok (.enter G args) w := hE
  have HG := hide hG
  clear hG hE
  go_enter Tryz.func150, Tryz.ntmps150
  go_wp2_with fail
  refine GT_start 23 (fun w' => FrameAt w' b f rv) (by kernel_rfl) (by kernel_rfl) (hf) ?_
  refine GT_take (i := 0) (v := ?_) rfl (by kernel_rfl) (fun _ _ _ h => h) (Or.inl ⟨by rfl, ?_⟩) ?_
  rotate_left
  · (intro wx hFx; (try dsimp only at hFx); have hc := hFx.cells; clear hFx; obtain ⟨c0, c1, c2, c3, c4, c5, c6, c7, c8, c9⟩ := hc; go_simp) <;> (try with_reducible rfl)
  try simp only [Act.put, List.setIfInBounds_toArray, List.set_cons_zero, List.set_cons_succ, List.getElem_toArray, List.getElem_cons_zero, List.getElem_cons_succ]
  refine GT_take (i := 1) (v := ?_) rfl (by kernel_rfl) (fun _ _ _ h => h) (Or.inl ⟨by rfl, ?_⟩) ?_
  rotate_left
  · (intro wx hFx; (try dsimp only at hFx); have hc := hFx.cells; clear hFx; obtain ⟨c0, c1, c2, c3, c4, c5, c6, c7, c8, c9⟩ := hc; go_simp) <;> (try with_reducible rfl)
  try simp only [Act.put, List.setIfInBounds_toArray, List.set_cons_zero, List.set_cons_succ, List.getElem_toArray, List.getElem_cons_zero, List.getElem_cons_succ]
  refine GT_take (i := 2) (v := ?_) rfl (by kernel_rfl) (fun _ _ _ h => h) (Or.inl ⟨by rfl, ?_⟩) ?_
  rotate_left
  · (intro wx hFx; (try dsimp only at hFx); have hc := hFx.cells; clear hFx; obtain ⟨c0, c1, c2, c3, c4, c5, c6, c7, c8, c9⟩ := hc; go_simp) <;> (try with_reducible rfl)
  try simp only [Act.put, List.setIfInBounds_toArray, List.set_cons_zero, List.set_cons_succ, List.getElem_toArray, List.getElem_cons_zero, List.getElem_cons_succ]
  refine GT_take (i := 3) (v := ?_) rfl (by kernel_rfl) (fun _ _ _ h => h) (Or.inl ⟨by rfl, ?_⟩) ?_
  rotate_left
  · (intro wx hFx; (try dsimp only at hFx); have hc := hFx.cells; clear hFx; obtain ⟨c0, c1, c2, c3, c4, c5, c6, c7, c8, c9⟩ := hc; go_simp) <;> (try with_reducible rfl)
  try simp only [Act.put, List.setIfInBounds_toArray, List.set_cons_zero, List.set_cons_succ, List.getElem_toArray, List.getElem_cons_zero, List.getElem_cons_succ]
  refine GT_take (i := 4) (v := ?_) rfl (by kernel_rfl) (fun _ _ _ h => h) (Or.inl ⟨by rfl, ?_⟩) ?_
  rotate_left
  · (intro wx hFx; (try dsimp only at hFx); have hc := hFx.cells; clear hFx; obtain ⟨c0, c1, c2, c3, c4, c5, c6, c7, c8, c9⟩ := hc; go_simp) <;> (try with_reducible rfl)
  try simp only [Act.put, List.setIfInBounds_toArray, List.set_cons_zero, List.set_cons_succ, List.getElem_toArray, List.getElem_cons_zero, List.getElem_cons_succ]
  refine GT_take (i := 5) (v := ?_) rfl (by kernel_rfl) (fun _ _ _ h => h) (Or.inl ⟨by rfl, ?_⟩) ?_
  rotate_left
  · (intro wx hFx; (try dsimp only at hFx); have hc := hFx.cells; clear hFx; obtain ⟨c0, c1, c2, c3, c4, c5, c6, c7, c8, c9⟩ := hc; go_simp) <;> (try with_reducible rfl)
  try simp only [Act.put, List.setIfInBounds_toArray, List.set_cons_zero, List.set_cons_succ, List.getElem_toArray, List.getElem_cons_zero, List.getElem_cons_succ]
  refine GT_take (i := 6) (v := ?_) rfl (by kernel_rfl) (fun _ _ _ h => h) (Or.inl ⟨by rfl, ?_⟩) ?_
  rotate_left
  · (intro wx hFx; (try dsimp only at hFx); have hc := hFx.cells; clear hFx; obtain ⟨c0, c1, c2, c3, c4, c5, c6, c7, c8, c9⟩ := hc; go_simp) <;> (try with_reducible rfl)
  try simp only [Act.put, List.setIfInBounds_toArray, List.set_cons_zero, List.set_cons_succ, List.getElem_toArray, List.getElem_cons_zero, List.getElem_cons_succ]
  refine GT_take (i := 7) (v := ?_) rfl (by kernel_rfl) (fun _ _ _ h => h) (Or.inl ⟨by rfl, ?_⟩) ?_
  rotate_left
  · (intro wx hFx; (try dsimp only at hFx); have hc := hFx.cells; clear hFx; obtain ⟨c0, c1, c2, c3, c4, c5, c6, c7, c8, c9⟩ := hc; go_simp) <;> (try with_reducible rfl)
  try simp only [Act.put, List.setIfInBounds_toArray, List.set_cons_zero, List.set_cons_succ, List.getElem_toArray, List.getElem_cons_zero, List.getElem_cons_succ]
  refine GT_take (i := 8) (v := ?_) rfl (by kernel_rfl) (fun _ _ _ h => h) (Or.inl ⟨by rfl, ?_⟩) ?_
  rotate_left
  · (intro wx hFx; (try dsimp only at hFx); have hc := hFx.cells; clear hFx; obtain ⟨c0, c1, c2, c3, c4, c5, c6, c7, c8, c9⟩ := hc; go_simp) <;> (try with_reducible rfl)
  try simp only [Act.put, List.setIfInBounds_toArray, List.set_cons_zero, List.set_cons_succ, List.getElem_toArray, List.getElem_cons_zero, List.getElem_cons_succ]
  refine GT_take (i := 9) (v := ?_) rfl (by kernel_rfl) (fun _ _ _ h => h) (Or.inl ⟨by rfl, ?_⟩) ?_
  rotate_left
  · (intro wx hFx; (try dsimp only at hFx); have hc := hFx.cells; clear hFx; obtain ⟨c0, c1, c2, c3, c4, c5, c6, c7, c8, c9⟩ := hc; go_simp) <;> (try with_reducible rfl)
  try simp only [Act.put, List.setIfInBounds_toArray, List.set_cons_zero, List.set_cons_succ, List.getElem_toArray, List.getElem_cons_zero, List.getElem_cons_succ]
  refine GT_take (i := 10) (v := ?_) rfl (by kernel_rfl) (fun _ _ _ h => h) (Or.inl ⟨by rfl, ?_⟩) ?_
  rotate_left
  · (intro wx hFx; (try dsimp only at hFx); have hc := hFx.cells; clear hFx; obtain ⟨c0, c1, c2, c3, c4, c5, c6, c7, c8, c9⟩ := hc; go_simp) <;> (try with_reducible rfl)
  try simp only [Act.put, List.setIfInBounds_toArray, List.set_cons_zero, List.set_cons_succ, List.getElem_toArray, List.getElem_cons_zero, List.getElem_cons_succ]
  refine GT_take (i := 11) (v := ?_) rfl (by kernel_rfl) (fun _ _ _ h => h) (Or.inl ⟨by rfl, ?_⟩) ?_
  rotate_left
  · (intro wx hFx; (try dsimp only at hFx); have hc := hFx.cells; clear hFx; obtain ⟨c0, c1, c2, c3, c4, c5, c6, c7, c8, c9⟩ := hc; go_simp) <;> (try with_reducible rfl)
  try simp only [Act.put, List.setIfInBounds_toArray, List.set_cons_zero, List.set_cons_succ, List.getElem_toArray, List.getElem_cons_zero, List.getElem_cons_succ]
  refine GT_take (i := 12) (v := ?_) rfl (by kernel_rfl) (fun _ _ _ h => h) (Or.inl ⟨by rfl, ?_⟩) ?_
  rotate_left
  · (intro wx hFx; (try dsimp only at hFx); have hc := hFx.cells; clear hFx; obtain ⟨c0, c1, c2, c3, c4, c5, c6, c7, c8, c9⟩ := hc; go_simp) <;> (try with_reducible rfl)
  try simp only [Act.put, List.setIfInBounds_toArray, List.set_cons_zero, List.set_cons_succ, List.getElem_toArray, List.getElem_cons_zero, List.getElem_cons_succ]
  refine GT_take (i := 13) (v := ?_) rfl (by kernel_rfl) (fun _ _ _ h => h) (Or.inl ⟨by rfl, ?_⟩) ?_
  rotate_left
  · (intro wx hFx; (try dsimp only at hFx); have hc := hFx.cells; clear hFx; obtain ⟨c0, c1, c2, c3, c4, c5, c6, c7, c8, c9⟩ := hc; go_simp) <;> (try with_reducible rfl)
  try simp only [Act.put, List.setIfInBounds_toArray, List.set_cons_zero, List.set_cons_succ, List.getElem_toArray, List.getElem_cons_zero, List.getElem_cons_succ]
  refine GT_take (i := 14) (v := ?_) rfl (by kernel_rfl) (fun _ _ _ h => h) (Or.inl ⟨by rfl, ?_⟩) ?_
  rotate_left
  · (intro wx hFx; (try dsimp only at hFx); have hc := hFx.cells; clear hFx; obtain ⟨c0, c1, c2, c3, c4, c5, c6, c7, c8, c9⟩ := hc; go_simp) <;> (try with_reducible rfl)
  try simp only [Act.put, List.setIfInBounds_toArray, List.set_cons_zero, List.set_cons_succ, List.getElem_toArray, List.getElem_cons_zero, List.getElem_cons_succ]
  refine GT_take (i := 15) (v := ?_) rfl (by kernel_rfl) (fun _ _ _ h => h) (Or.inl ⟨by rfl, ?_⟩) ?_
  rotate_left
  · (intro wx hFx; (try dsimp only at hFx); have hc := hFx.cells; clear hFx; obtain ⟨c0, c1, c2, c3, c4, c5, c6, c7, c8, c9⟩ := hc; go_simp) <;> (try with_reducible rfl)
  try simp only [Act.put, List.setIfInBounds_toArray, List.set_cons_zero, List.set_cons_succ, List.getElem_toArray, List.getElem_cons_zero, List.getElem_cons_succ]
  refine GT_take (i := 16) (v := ?_) rfl (by kernel_rfl) (fun _ _ _ h => h) (Or.inl ⟨by rfl, ?_⟩) ?_
  rotate_left
  · (intro wx hFx; (try dsimp only at hFx); have hc := hFx.cells; clear hFx; obtain ⟨c0, c1, c2, c3, c4, c5, c6, c7, c8, c9⟩ := hc; go_simp) <;> (try with_reducible rfl)
  try simp only [Act.put, List.setIfInBounds_toArray, List.set_cons_zero, List.set_cons_succ, List.getElem_toArray, List.getElem_cons_zero, List.getElem_cons_succ]
  refine GT_take (i := 17) (v := ?_) rfl (by kernel_rfl) (fun _ _ _ h => h) (Or.inl ⟨by rfl, ?_⟩) ?_
  rotate_left
  · (intro wx hFx; (try dsimp only at hFx); have hc := hFx.cells; clear hFx; obtain ⟨c0, c1, c2, c3, c4, c5, c6, c7, c8, c9⟩ := hc; go_simp) <;> (try with_reducible rfl)
  try simp only [Act.put, List.setIfInBounds_toArray, List.set_cons_zero, List.set_cons_succ, List.getElem_toArray, List.getElem_cons_zero, List.getElem_cons_succ]
  refine GT_take (i := 18) (v := ?_) rfl (by kernel_rfl) (fun _ _ _ h => h) (Or.inl ⟨by rfl, ?_⟩) ?_
  rotate_left
  · (intro wx hFx; (try dsimp only at hFx); have hc := hFx.cells; clear hFx; obtain ⟨c0, c1, c2, c3, c4, c5, c6, c7, c8, c9⟩ := hc; go_simp) <;> (try with_reducible rfl)
  try simp only [Act.put, List.setIfInBounds_toArray, List.set_cons_zero, List.set_cons_succ, List.getElem_toArray, List.getElem_cons_zero, List.getElem_cons_succ]
  refine GT_take (i := 19) (v := ?_) rfl (by kernel_rfl) (fun _ _ _ h => h) (Or.inl ⟨by rfl, ?_⟩) ?_
  rotate_left
  · (intro wx hFx; (try dsimp only at hFx); have hc := hFx.cells; clear hFx; obtain ⟨c0, c1, c2, c3, c4, c5, c6, c7, c8, c9⟩ := hc; go_simp) <;> (try with_reducible rfl)
  try simp only [Act.put, List.setIfInBounds_toArray, List.set_cons_zero, List.set_cons_succ, List.getElem_toArray, List.getElem_cons_zero, List.getElem_cons_succ]
  refine GT_take (i := 22) (v := ?_) rfl (by kernel_rfl) (fun _ _ _ h => h) (Or.inl ⟨by rfl, ?_⟩) ?_
  rotate_left
  · (intro wx hFx; (try dsimp only at hFx); have hc := hFx.cells; clear hFx; obtain ⟨c0, c1, c2, c3, c4, c5, c6, c7, c8, c9⟩ := hc; go_simp) <;> (try with_reducible rfl)
  try simp only [Act.put, List.setIfInBounds_toArray, List.set_cons_zero, List.set_cons_succ, List.getElem_toArray, List.getElem_cons_zero, List.getElem_cons_succ]
  refine GT_one (i := 20) rfl (by kernel_rfl) (fun K hK => ?_)
  go_simp
  refine hK.out _ _ ?_ ?_
  · exact FrameAt.mod (w := w.drew) (S := NoB) hf ((Mod.refl _ _).alloc _) (fun x => x)
  clear hK K
  try simp only [Act.put, List.setIfInBounds_toArray, List.set_cons_zero, List.set_cons_succ, List.getElem_toArray, List.getElem_cons_zero, List.getElem_cons_succ]
  refine GT_take (i := 21) (v := ?_) rfl (by kernel_rfl) (fun _ _ _ h => h) (Or.inl ⟨by rfl, ?_⟩) ?_
  rotate_left
  · (intro wx hFx; (try dsimp only at hFx); have hc := hFx.cells; clear hFx; obtain ⟨c0, c1, c2, c3, c4, c5, c6, c7, c8, c9⟩ := hc; go_simp) <;> (try with_reducible rfl)
  try simp only [Act.put, List.setIfInBounds_toArray, List.set_cons_zero, List.set_cons_succ, List.getElem_toArray, List.getElem_cons_zero, List.getElem_cons_succ]
  refine GT_done (by kernel_rfl) ?_
  obtain ⟨X, hX⟩ : ∃ X, (w.alloc (.cells #[.int .u64 (f.off : Int), .int .u64 (f.rel : Int), .int .u64 (f.lim : Int), .int .u64 (f.id : Int), .int .u64 (f.dl : Int)] 34)).drew = X := ⟨_, rfl⟩
  have mX : Mod NoB w X := by rw [← hX]; exact ((Mod.refl _ _).alloc _).drew
  have hB : ∀ k, k < 5 → X.cell? ⟨w.heap.size, k, none⟩ = some (.int .u64 (nAt f k : Int)) := fun k hk => by
    rw [← hX]
    refine cell_of_obj (heap_alloc_new w _) ?_
    match k, hk with
    | 0, _ => rfl
    | 1, _ => rfl
    | 2, _ => rfl
    | 3, _ => rfl
    | 4, _ => rfl
  rw [hX]
  have fX := hf.mod mX (fun x => x)
  have cX := (hc.mod mX (fun x => x)).2.2
  have c1 := fX.cells.2.1
  clear hX hf hc fX hbl
  have HX := hide mX
  clear mX
  go_wp2_with fail
  go_loop [6, 29] (fun _ i => ∃ k : Nat, k ≤ 5 ∧ i = .int .i64 k ∧ Hid (∀ j, j < k → nAt f j ≤ 4611686018427387903)) (fun _ i => 5 - (intOf i).toNat)
  case atStart => exact ⟨0, by omega, rfl, hide (fun j hj => absurd hj (Nat.not_lt_zero j))⟩
  case round =>
    obtain ⟨k, hk, rfl, hn⟩ := hrel
    by_cases hlt : k < 5
    · have c := hB k hlt
      obtain ⟨n, hnk⟩ : ∃ n, nAt f k = n := ⟨_, rfl⟩
      rw [hnk] at c
      have Hn := hide hnk
      clear hB hnk
      by_cases hbig : 4611686018427387903 < n
      · have HF := hide (numsOk_false hlt (by rw [Hn.out]; exact hbig))
        have hbig' : (4611686018427387903 : Int) < n := by omega
        go_wp2_with fail
        go_ret
        exact ⟨by rw [HF.out]; rfl, HX.out⟩
      · have hbig' : ¬ (4611686018427387903 : Int) < n := by omega
        go_wp2_with fail
        go_round
        case rel => exact ⟨k + 1, by omega, by go_num, hide (fun j hj => by
          by_cases h : j < k
          · exact hn.out j h
          · have : j = k := by omega
            rw [this, Hn.out]
            omega)⟩
        case measure => simp [intOf]; omega
    · have hk5 : k = 5 := by omega
      have hok := numsOk_true (f := f) (fun j hj => hn.out j (by omega))
      have HO := hide hok
      have hcall := HG.out X HX.out hok
      clear hok hB hk5 hn
      by_cases d1 : 0 ≤ f.stream
      · by_cases d2 : f.stream < 8
        · have HS : Hid (strOk f = true) := by show _ = _; simp [strOk, d1, d2]
          have e1 : decide (0 ≤ f.stream) = true := by simpa using d1
          have e2 : decide (f.stream < 8) = true := by simpa using d2
          go_wp2_with (refine hcall.mono ?_; rintro e w' ⟨rfl, hm'⟩)
          go_ret
          exact ⟨by rw [HO.out, HS.out, Bool.true_and, Bool.true_and]; rfl, HX.out.trans hm'⟩
        · have HS : Hid (strOk f = false) := by show _ = _; simp [strOk, d2]
          have e1 : decide (0 ≤ f.stream) = true := by simpa using d1
          have e2 : decide (f.stream < 8) = false := by simpa using d2
          go_wp2_with fail
          go_ret
          exact ⟨by rw [HO.out, HS.out, Bool.true_and, Bool.false_and]; rfl, HX.out⟩
      · have HS : Hid (strOk f = false) := by show _ = _; simp [strOk, d1]
        have e1 : decide (0 ≤ f.stream) = false := by simpa using d1
        go_wp2_with fail
        go_ret
        exact ⟨by rw [HO.out, HS.out, Bool.true_and, Bool.false_and]; rfl, HX.out⟩
end Go.Proofs.YtddfdpbaiedcjabGreatDoor
/- wire.Append: a frame behind bytes, or nothing. -/
namespace Go.Proofs.YtddfdpbaiedcjabGreatDoor
open Go.RowKit

theorem App.after {w Y w' : World} {v v' : Value} {l new : List UInt8} (m : Mod NoB w Y) (h : App Y v l new v' w') : App w v l new v' w' :=
  ⟨h.own, h.old, ⟨h.grown.os.trans m.os, h.grown.tape.trans m.tape, h.grown.output.trans m.output, Nat.le_trans m.size h.grown.size, fun i hi hn => (h.grown.block i (Nat.lt_of_lt_of_le hi m.size) hn).trans (m.block i hi (fun x => x))⟩, fun i hi => (h.at_ i hi).imp id (fun q => Nat.le_trans m.size q)⟩

/-- The codec of a frame's kind, as it is used to write the frame. -/
def WCodec (f : Frm) (rv : Value) (l new : List UInt8) (sc : Bool) (w : World) (e : Ending) (w' : World) : Prop :=
  ∃ b F caps G ev, e = .returned (.pointer (some ⟨b, 0, none⟩)) ∧ CodecAt w' b (.func (.func F) #[] caps) ev (.func (.func G) #[] #[]) ∧ Goes F ∧ Goes G ∧ Mod NoB w w' ∧
    (∀ Y bf, Mod NoB w' Y → FrameAt Y bf f rv → numsOk f = true → Calls Tryz.prog G #[.pointer (some ⟨bf, 0, none⟩)] Y (Says Y sc)) ∧
    (∀ Y v bf, Mod NoB w' Y → FrameAt Y bf f rv → OB Y v l → (∀ g, v.ownBlock = some g → g < w.heap.size) → (0 < f.rngs.length → OffS (fun k => v.ownBlock = some k) rv) → (numsOk f && strOk f && sc) = true → Calls Tryz.prog F (#[v, .pointer (some ⟨bf, 0, none⟩)] ++ caps) Y (Apps Y v l new))

/-- What Append answers. -/
def Appended (w : World) (v : Value) (l : List UInt8) (ok : Bool) (new : List UInt8) (e : Ending) (w' : World) : Prop :=
  (ok = true ∧ Apps w v l new e w') ∨ (ok = false ∧ e = .returned (.slice none 0 0) ∧ Mod NoB w w')

set_option maxHeartbeats 400000 in
theorem append_gen (v : Value) (l : List UInt8) (f : Frm) (rv : Value) (new : List UInt8) (sc : Bool) (w : World) (h : OB w v l) (hoff : 0 < f.rngs.length → OffS (fun k => v.ownBlock = some k) rv)
    (hof : ∀ w1, Mod NoB w w1 → Calls Tryz.prog 149 #[.int .i64 f.kind] w1 (WCodec f rv l new sc w1)) :
    Calls Tryz.prog 115 #[v, .agg (frCells f rv)] w (Appended w v l (numsOk f && strOk f && sc) new) := by
  have m0 : Mod NoB w (w.alloc (.cells (frCells f rv) 48)) := (Mod.refl _ _).alloc _
  have hf0 : FrameAt (w.alloc (.cells (frCells f rv) 48)) w.heap.size f rv := heap_alloc_new w _
  have c0 := hf0.cells.1
  have hof' := hof _ m0
  have hlt := ob_lt h
  have hoff' := hide hoff
  obtain ⟨X, hX⟩ : ∃ X, w.alloc (.cells (frCells f rv) 48) = X := ⟨_, rfl⟩
  rw [hX] at hof' hf0 c0 m0
  have hXs : w.heap.size ≤ X.heap.size := m0.size
  have HH := hide h
  have Hf0 := hide hf0
  have Hm0 := hide m0
  have Hlt := hide hlt
  clear h hof hoff hf0 m0 hlt
  obtain ⟨ok, hok⟩ : ∃ ok, (numsOk f && strOk f && sc) = ok := ⟨_, rfl⟩
  have Hok := hide hok
  rw [hok]
  unfold frCells at hX ⊢
  cases ok
  all_goals
    clear hok
    go_enter Tryz.func115, Tryz.ntmps115
    go_wp2_with fail
    refine hof'.mono ?_
    rintro e w1 ⟨b, F, caps, G, ev, rfl, hc, hF, hG, m1, hs, hw⟩
    have f1 : FrameAt w1 w.heap.size f rv := Hf0.out.mod m1 (fun x => x)
    have hsound := sound_gen w.heap.size b f rv _ ev G sc w1 f1 hc hG (fun w' m hn => hs w' _ m (f1.mod m (fun x => x)) hn)
    rw [Hok.out] at hsound
    have Hc := hide hc
    have Hm1 := hide m1
    have Hw := hide hw
    have Hf1 := hide f1
    have hF' : ∀ args w, (callFunc F args).run Tryz.prog w = .ok (.enter F args) w := hF
    clear hc m1 hw hs f1 hG hF hof'
    go_wp2_with fail
    refine hsound.mono ?_
    rintro e w2 ⟨rfl, m2⟩
    clear hsound
  · go_wp2_with fail
    go_ret
    exact .inr ⟨rfl, rfl, (Hm0.out.trans Hm1.out).trans m2⟩
  · have hc2 := (Hc.out.mod m2 (fun x => x)).1
    have hcall := Hw.out w2 v w.heap.size m2 (Hf1.out.mod m2 (fun x => x)) (((HH.out.mod0 Hm0.out).mod0 Hm1.out).mod0 m2) (fun g hg => Nat.lt_of_lt_of_le (Hlt.out g hg) hXs) hoff'.out Hok.out
    have Hm2 := hide m2
    clear m2
    go_wp2_with fail
    refine hcall.mono ?_
    rintro e w3 ⟨v3, rfl, ha⟩
    have Ha := hide ha
    clear ha
    go_wp2_with fail
    go_ret
    exact .inl ⟨rfl, _, rfl, App.after ((Hm0.out.trans Hm1.out).trans Hm2.out) Ha.out⟩
end Go.Proofs.YtddfdpbaiedcjabGreatDoor
/- wire.Append at each kind (printed by mkappend2.py). -/
namespace Go.Proofs.YtddfdpbaiedcjabGreatDoor
open Go.RowKit

/-- What a frame of its kind must meet besides. -/
def soundC (f : Frm) : Bool :=
  if f.kind = 2 then soundRs f.rngs
  else if f.kind = 3 then decide (f.rel ≤ f.off)
  else if f.kind = 4 then decide (f.data.length + f.off ≤ 4611686018427387903)
  else decide (1 ≤ f.kind) && decide (f.kind ≤ 8)

/-- Can the frame be written? -/
def soundF (f : Frm) : Bool := numsOk f && strOk f && soundC f

/-- The frame's bytes. -/
def bytesF (f : Frm) : List UInt8 :=
  if f.kind = 1 then [1]
  else if f.kind = 2 then bwrite2 f
  else if f.kind = 3 then bwrite3 f
  else if f.kind = 4 then (if f.fin then bwrite4f f else bwrite4 f)
  else if f.kind = 5 then bnum 16 f
  else if f.kind = 6 then bwrite6 f
  else if f.kind = 7 then bwrite7 f
  else bnum 28 f

theorem bounds_of {f : Frm} {sc : Bool} (h : (numsOk f && strOk f && sc) = true) (hd : f.data.length ≤ 35184372088832) : f.Bounds := by
  simp only [Bool.and_eq_true] at h
  obtain ⟨⟨h1, h2⟩, _⟩ := h
  obtain ⟨a, b, c, d, e⟩ := numsOk_facts h1
  simp only [strOk, Bool.and_eq_true, decide_eq_true_eq] at h2
  exact ⟨h2.1, h2.2, by omega, by omega, by omega, by omega, by omega, hd⟩

theorem goes_of {F : FuncId} {fn : Func} {c : Code} (hf : Tryz.prog.funcs[F]? = some fn) (hname : (fn.name == "runtime.NumGoroutine") = false) (hb : fn.body = some c) : Goes F := fun args w => run_enter hf hname hb args w

theorem goes_170 : Goes 170 := goes_of Tryz.func170 (by kernel_rfl) rfl
theorem goes_191 : Goes 191 := goes_of Tryz.func191 (by kernel_rfl) rfl
theorem goes_168 : Goes 168 := goes_of Tryz.func168 (by kernel_rfl) rfl
theorem goes_187 : Goes 187 := goes_of Tryz.func187 (by kernel_rfl) rfl
theorem goes_174 : Goes 174 := goes_of Tryz.func174 (by kernel_rfl) rfl
theorem goes_177 : Goes 177 := goes_of Tryz.func177 (by kernel_rfl) rfl
theorem goes_178 : Goes 178 := goes_of Tryz.func178 (by kernel_rfl) rfl
theorem goes_182 : Goes 182 := goes_of Tryz.func182 (by kernel_rfl) rfl
theorem goes_185 : Goes 185 := goes_of Tryz.func185 (by kernel_rfl) rfl
theorem goes_173 : Goes 173 := goes_of Tryz.func173 (by kernel_rfl) rfl
theorem goes_171 : Goes 171 := goes_of Tryz.func171 (by kernel_rfl) rfl

theorem wcodec_1 (f : Frm) (rv : Value) (l : List UInt8) (w : World) (hk : f.kind = 1) (hr : RR w rv f.rngs) (hn : f.rngs.length ≤ 1099511627776) (hd : f.data.length ≤ 35184372088832) (hl : l.length ≤ 35184372088832) :
    Calls Tryz.prog 149 #[.int .i64 f.kind] w (WCodec f rv l ([1]) (true) w) := by
  rw [hk]
  refine (of_1 w).mono ?_
  rintro e w' ⟨b, rfl, hc, hm, hb⟩
  refine ⟨b, 168, #[], 170, _, rfl, hc, goes_168, goes_170, hm, fun Y bf m hf hq => always_any _ Y, fun Y v bf m hf ho hlt hoff hok => ?_⟩
  exact write1 v l bf Y ho hl

theorem wcodec_2 (f : Frm) (rv : Value) (l : List UInt8) (w : World) (hk : f.kind = 2) (hr : RR w rv f.rngs) (hn : f.rngs.length ≤ 1099511627776) (hd : f.data.length ≤ 35184372088832) (hl : l.length ≤ 35184372088832) :
    Calls Tryz.prog 149 #[.int .i64 f.kind] w (WCodec f rv l (bwrite2 f) (soundRs f.rngs) w) := by
  rw [hk]
  refine (of_2 w).mono ?_
  rintro e w' ⟨b, rfl, hc, hm, hb⟩
  refine ⟨b, 171, #[], 173, _, rfl, hc, goes_171, goes_173, hm, fun Y bf m hf hq => soundack_any bf f rv Y hf (hr.mod (hm.trans m) (OffS.no _)) hn, fun Y v bf m hf ho hlt hoff hok => ?_⟩
  exact write2 v l bf f rv Y hf (hr.mod (hm.trans m) (OffS.no _)) (by simp only [Bool.and_eq_true] at hok; exact hok.2) hn (hoff (by simp only [Bool.and_eq_true, soundRs, decide_eq_true_eq] at hok; exact hok.2.2)) ho hl

theorem wcodec_3 (f : Frm) (rv : Value) (l : List UInt8) (w : World) (hk : f.kind = 3) (hr : RR w rv f.rngs) (hn : f.rngs.length ≤ 1099511627776) (hd : f.data.length ≤ 35184372088832) (hl : l.length ≤ 35184372088832) :
    Calls Tryz.prog 149 #[.int .i64 f.kind] w (WCodec f rv l (bwrite3 f) (decide (f.rel ≤ f.off)) w) := by
  rw [hk]
  refine (of_3 w).mono ?_
  rintro e w' ⟨b, rfl, hc, hm, hb⟩
  refine ⟨b, 174, #[], 177, _, rfl, hc, goes_174, goes_177, hm, fun Y bf m hf hq => sound3 bf f rv Y hf, fun Y v bf m hf ho hlt hoff hok => ?_⟩
  exact write3 v l bf f rv Y hf ho hl (bounds_of hok hd)

theorem wcodec_4 (f : Frm) (rv : Value) (l : List UInt8) (w : World) (hk : f.kind = 4) (hr : RR w rv f.rngs) (hn : f.rngs.length ≤ 1099511627776) (hd : f.data.length ≤ 35184372088832) (hl : l.length ≤ 35184372088832) :
    Calls Tryz.prog 149 #[.int .i64 f.kind] w (WCodec f rv l (if f.fin then bwrite4f f else bwrite4 f) (decide (f.data.length + f.off ≤ 4611686018427387903)) w) := by
  rw [hk]
  refine (of_4 w).mono ?_
  rintro e w' ⟨b, rfl, hc, hm, hb⟩
  refine ⟨b, 178, #[], 182, _, rfl, hc, goes_178, goes_182, hm, fun Y bf m hf hq => sound4 bf f rv Y hf (numsOk_facts hq).1 (by omega), fun Y v bf m hf ho hlt hoff hok => ?_⟩
  cases hfin : f.fin
  · exact write4 v l bf f rv Y hf ho hl (bounds_of hok hd) hfin
  · exact write4f v l bf f rv Y hf ho hl (bounds_of hok hd) hfin

theorem wcodec_5 (f : Frm) (rv : Value) (l : List UInt8) (w : World) (hk : f.kind = 5) (hr : RR w rv f.rngs) (hn : f.rngs.length ≤ 1099511627776) (hd : f.data.length ≤ 35184372088832) (hl : l.length ≤ 35184372088832) :
    Calls Tryz.prog 149 #[.int .i64 f.kind] w (WCodec f rv l (bnum 16 f) (true) w) := by
  rw [hk]
  refine (of_5 w).mono ?_
  rintro e w' ⟨b, tb, ab, rfl, hc, hcap, hm, hb, htb, hab⟩
  refine ⟨b, _, _, 170, _, rfl, hc, goes_191, goes_170, hm, fun Y bf _ _ _ => always_any _ Y, fun Y v bf m hf ho hlt hoff hok => ?_⟩
  exact write_num v l bf tb ab _ f rv Y hf (hcap.mod m (fun x => x) (fun x => x)) (fun hx => by have := hlt _ hx; omega) (fun hx => by have := hlt _ hx; omega) ho hl (bounds_of hok hd)

theorem wcodec_6 (f : Frm) (rv : Value) (l : List UInt8) (w : World) (hk : f.kind = 6) (hr : RR w rv f.rngs) (hn : f.rngs.length ≤ 1099511627776) (hd : f.data.length ≤ 35184372088832) (hl : l.length ≤ 35184372088832) :
    Calls Tryz.prog 149 #[.int .i64 f.kind] w (WCodec f rv l (bwrite6 f) (true) w) := by
  rw [hk]
  refine (of_6 w).mono ?_
  rintro e w' ⟨b, rfl, hc, hm, hb⟩
  refine ⟨b, 185, #[], 170, _, rfl, hc, goes_185, goes_170, hm, fun Y bf m hf hq => always_any _ Y, fun Y v bf m hf ho hlt hoff hok => ?_⟩
  exact write6 v l bf f rv Y hf ho hl (bounds_of hok hd)

theorem wcodec_7 (f : Frm) (rv : Value) (l : List UInt8) (w : World) (hk : f.kind = 7) (hr : RR w rv f.rngs) (hn : f.rngs.length ≤ 1099511627776) (hd : f.data.length ≤ 35184372088832) (hl : l.length ≤ 35184372088832) :
    Calls Tryz.prog 149 #[.int .i64 f.kind] w (WCodec f rv l (bwrite7 f) (true) w) := by
  rw [hk]
  refine (of_7 w).mono ?_
  rintro e w' ⟨b, rfl, hc, hm, hb⟩
  refine ⟨b, 187, #[], 170, _, rfl, hc, goes_187, goes_170, hm, fun Y bf m hf hq => always_any _ Y, fun Y v bf m hf ho hlt hoff hok => ?_⟩
  exact write7 v l bf f rv Y hf ho hl (bounds_of hok hd)

theorem wcodec_8 (f : Frm) (rv : Value) (l : List UInt8) (w : World) (hk : f.kind = 8) (hr : RR w rv f.rngs) (hn : f.rngs.length ≤ 1099511627776) (hd : f.data.length ≤ 35184372088832) (hl : l.length ≤ 35184372088832) :
    Calls Tryz.prog 149 #[.int .i64 f.kind] w (WCodec f rv l (bnum 28 f) (true) w) := by
  rw [hk]
  refine (of_8 w).mono ?_
  rintro e w' ⟨b, tb, ab, rfl, hc, hcap, hm, hb, htb, hab⟩
  refine ⟨b, _, _, 170, _, rfl, hc, goes_191, goes_170, hm, fun Y bf _ _ _ => always_any _ Y, fun Y v bf m hf ho hlt hoff hok => ?_⟩
  exact write_num v l bf tb ab _ f rv Y hf (hcap.mod m (fun x => x) (fun x => x)) (fun hx => by have := hlt _ hx; omega) (fun hx => by have := hlt _ hx; omega) ho hl (bounds_of hok hd)

theorem append_no (v : Value) (l : List UInt8) (f : Frm) (rv : Value) (w : World) (hk : f.kind < 1 ∨ 8 < f.kind) (hv : ∃ a n c, v = .slice a n c) :
    Calls Tryz.prog 115 #[v, .agg (frCells f rv)] w fun e w' => e = .returned (.slice none 0 0) ∧ Mod NoB w w' := by
  have c0 : (w.alloc (.cells (frCells f rv) 48)).cell? ⟨w.heap.size, 0, none⟩ = some (.int .i64 f.kind) := cell_of_obj (heap_alloc_new w _) rfl
  have m0 : Mod NoB w (w.alloc (.cells (frCells f rv) 48)) := (Mod.refl _ _).alloc _
  have hof := of_no f.kind hk (w.alloc (.cells (frCells f rv) 48))
  obtain ⟨X, hX⟩ : ∃ X, w.alloc (.cells (frCells f rv) 48) = X := ⟨_, rfl⟩
  rw [hX] at hof m0 c0
  have Hm0 := hide m0
  clear m0 hk
  obtain ⟨a, n, c, rfl⟩ := hv
  unfold frCells at hX ⊢
  go_enter Tryz.func115, Tryz.ntmps115
  go_wp2_with fail
  refine hof.mono ?_
  rintro e w1 ⟨rfl, m1⟩
  go_wp2_with fail
  go_ret
  exact ⟨rfl, Hm0.out.trans m1⟩

theorem append_any (v : Value) (l : List UInt8) (f : Frm) (rv : Value) (w : World) (h : OB w v l) (hoff : 0 < f.rngs.length → OffS (fun k => v.ownBlock = some k) rv) (hr : RR w rv f.rngs) (hn : f.rngs.length ≤ 1099511627776) (hd : f.data.length ≤ 35184372088832) (hl : l.length ≤ 35184372088832) :
    Calls Tryz.prog 115 #[v, .agg (frCells f rv)] w (Appended w v l (soundF f) (bytesF f)) := by
  by_cases hk : f.kind < 1 ∨ 8 < f.kind
  · have hs : soundF f = false := by
      have : soundC f = false := by
        unfold soundC
        rw [if_neg (by omega), if_neg (by omega), if_neg (by omega)]
        simp
        omega
      rw [soundF, this, Bool.and_false]
    refine (append_no v l f rv w hk (by obtain ⟨a, c, rfl, _⟩ := own_form h; exact ⟨a, _, c, rfl⟩)).mono ?_
    rintro e w' ⟨rfl, hm⟩
    exact .inr ⟨hs, rfl, hm⟩
  · have hk' : f.kind = 1 ∨ f.kind = 2 ∨ f.kind = 3 ∨ f.kind = 4 ∨ f.kind = 5 ∨ f.kind = 6 ∨ f.kind = 7 ∨ f.kind = 8 := by omega
    rcases hk' with e | e | e | e | e | e | e | e
    · have e1 : bytesF f = [1] := by simp [bytesF, e]
      have e2 : soundC f = (true) := by simp [soundC, e]
      rw [soundF, e1, e2]
      exact append_gen v l f rv _ _ w h hoff (fun w1 m => wcodec_1 f rv l w1 e (hr.mod m (OffS.no _)) hn hd hl)
    · have e1 : bytesF f = bwrite2 f := by simp [bytesF, e]
      have e2 : soundC f = (soundRs f.rngs) := by simp [soundC, e]
      rw [soundF, e1, e2]
      exact append_gen v l f rv _ _ w h hoff (fun w1 m => wcodec_2 f rv l w1 e (hr.mod m (OffS.no _)) hn hd hl)
    · have e1 : bytesF f = bwrite3 f := by simp [bytesF, e]
      have e2 : soundC f = (decide (f.rel ≤ f.off)) := by simp [soundC, e]
      rw [soundF, e1, e2]
      exact append_gen v l f rv _ _ w h hoff (fun w1 m => wcodec_3 f rv l w1 e (hr.mod m (OffS.no _)) hn hd hl)
    · have e1 : bytesF f = if f.fin then bwrite4f f else bwrite4 f := by simp [bytesF, e]
      have e2 : soundC f = (decide (f.data.length + f.off ≤ 4611686018427387903)) := by simp [soundC, e]
      rw [soundF, e1, e2]
      exact append_gen v l f rv _ _ w h hoff (fun w1 m => wcodec_4 f rv l w1 e (hr.mod m (OffS.no _)) hn hd hl)
    · have e1 : bytesF f = bnum 16 f := by simp [bytesF, e]
      have e2 : soundC f = (true) := by simp [soundC, e]
      rw [soundF, e1, e2]
      exact append_gen v l f rv _ _ w h hoff (fun w1 m => wcodec_5 f rv l w1 e (hr.mod m (OffS.no _)) hn hd hl)
    · have e1 : bytesF f = bwrite6 f := by simp [bytesF, e]
      have e2 : soundC f = (true) := by simp [soundC, e]
      rw [soundF, e1, e2]
      exact append_gen v l f rv _ _ w h hoff (fun w1 m => wcodec_6 f rv l w1 e (hr.mod m (OffS.no _)) hn hd hl)
    · have e1 : bytesF f = bwrite7 f := by simp [bytesF, e]
      have e2 : soundC f = (true) := by simp [soundC, e]
      rw [soundF, e1, e2]
      exact append_gen v l f rv _ _ w h hoff (fun w1 m => wcodec_7 f rv l w1 e (hr.mod m (OffS.no _)) hn hd hl)
    · have e1 : bytesF f = bnum 28 f := by simp [bytesF, e]
      have e2 : soundC f = (true) := by simp [soundC, e]
      rw [soundF, e1, e2]
      exact append_gen v l f rv _ _ w h hoff (fun w1 m => wcodec_8 f rv l w1 e (hr.mod m (OffS.no _)) hn hd hl)
end Go.Proofs.YtddfdpbaiedcjabGreatDoor
/- wire.Encode: a packet as bytes. -/
namespace Go.Proofs.YtddfdpbaiedcjabGreatDoor
open Go.RowKit

/-- Frames that can be read there, each with the slice of its ranges. -/
def FrsAt (w : World) (v : Value) (fs : List (Frm × Value)) : Prop :=
  ∃ a cap, v = .slice a fs.length cap ∧ fs.length ≤ cap ∧ cap ≤ maxLen ∧ ∀ i fr, fs[i]? = some fr →
    (∃ g o, a = some ⟨g, o, none⟩ ∧ ∀ j x, (frCells fr.1 fr.2)[j]? = some x → w.cell? ⟨g, o + i * 10 + j, none⟩ = some x) ∧ RR w fr.2 fr.1.rngs

theorem FrsAt.mod {S : Nat → Prop} {w w' : World} {v : Value} {fs : List (Frm × Value)} (h : FrsAt w v fs) (m : Mod S w w') (hs : OffS S v) (hr : ∀ fr ∈ fs, OffS S fr.2) : FrsAt w' v fs := by
  obtain ⟨a, cap, rfl, h1, h2, h3⟩ := h
  refine ⟨a, cap, rfl, h1, h2, fun i fr hi => ?_⟩
  obtain ⟨⟨g, o, rfl, hc⟩, hrr⟩ := h3 i fr hi
  exact ⟨⟨g, o, rfl, fun j x hx => m.cell (a := ⟨g, _, none⟩) (hs g o _ _ rfl) (hc j x hx)⟩, hrr.mod m (hr fr (List.mem_of_getElem? hi))⟩

theorem FrsAt.mod0 {w w' : World} {v : Value} {fs : List (Frm × Value)} (h : FrsAt w v fs) (m : Mod NoB w w') : FrsAt w' v fs := h.mod m (OffS.no _) (fun _ _ => OffS.no _)

theorem App.mod0 {w w' : World} {v' : Value} {l new : List UInt8} (h : App w (.slice none 0 0) l new v' w') : Mod NoB w w' := h.mod.mono (fun i hi => by cases hi)

def bodyTo (fs : List (Frm × Value)) (k : Nat) : List UInt8 := (fs.take k).flatMap fun fr => bytesF fr.1

theorem bodyTo_succ (fs : List (Frm × Value)) (k : Nat) (fr : Frm × Value) (h : fs[k]? = some fr) : bodyTo fs (k + 1) = bodyTo fs k ++ bytesF fr.1 := by
  unfold bodyTo
  rw [List.take_add_one, h]
  simp

theorem bodyTo_le (fs : List (Frm × Value)) (k : Nat) : (bodyTo fs k).length ≤ (bodyTo fs fs.length).length := by
  have : fs.take fs.length = fs.take k ++ fs.drop k := by rw [List.take_length, List.take_append_drop]
  unfold bodyTo
  rw [this, List.flatMap_append, List.length_append]
  omega

def sndTo (fs : List (Frm × Value)) (k : Nat) : Bool := (fs.take k).all fun fr => soundF fr.1

theorem sndTo_succ (fs : List (Frm × Value)) (k : Nat) (fr : Frm × Value) (h : fs[k]? = some fr) : sndTo fs (k + 1) = (sndTo fs k && soundF fr.1) := by
  unfold sndTo
  rw [List.take_add_one, h]
  simp

theorem sndTo_false (fs : List (Frm × Value)) (k : Nat) (fr : Frm × Value) (h : fs[k]? = some fr) (hs : soundF fr.1 = false) : sndTo fs fs.length = false := by
  unfold sndTo
  rw [List.take_length]
  cases hq : fs.all fun fr => soundF fr.1
  · rfl
  · rw [List.all_eq_true] at hq
    have := hq fr (List.mem_of_getElem? h)
    rw [hs] at this
    cases this

/-- Can the packet be written? -/
def okP (n : Nat) (fs : List (Frm × Value)) : Bool := decide (0 < fs.length) && decide (n ≤ 4611686018427387903) && sndTo fs fs.length
/-- Its bytes, but for the sum. -/
def body (n : Nat) (fs : List (Frm × Value)) : List UInt8 := vint n ++ bodyTo fs fs.length
def sealed (l : List UInt8) : List UInt8 := l ++ sum4 (crc l)

theorem fr_cells {w : World} {g b : Nat} {f : Frm} {rv : Value} (h : ∀ j x, (frCells f rv)[j]? = some x → w.cell? ⟨g, b + j, none⟩ = some x) :
    w.cell? ⟨g, b, none⟩ = some (.int .i64 f.kind) ∧ w.cell? ⟨g, b + 1, none⟩ = some (.int .i64 f.stream) ∧ w.cell? ⟨g, b + 2, none⟩ = some (.int .u64 (f.off : Int)) ∧ w.cell? ⟨g, b + 3, none⟩ = some (.int .u64 (f.rel : Int)) ∧ w.cell? ⟨g, b + 4, none⟩ = some (.int .u64 (f.lim : Int)) ∧
    w.cell? ⟨g, b + 5, none⟩ = some (.bool f.fin) ∧ w.cell? ⟨g, b + 6, none⟩ = some (.int .u64 (f.id : Int)) ∧ w.cell? ⟨g, b + 7, none⟩ = some (.int .u64 (f.dl : Int)) ∧ w.cell? ⟨g, b + 8, none⟩ = some (.string (strOf f.data)) ∧ w.cell? ⟨g, b + 9, none⟩ = some rv :=
  ⟨h 0 _ rfl, h 1 _ rfl, h 2 _ rfl, h 3 _ rfl, h 4 _ rfl, h 5 _ rfl, h 6 _ rfl, h 7 _ rfl, h 8 _ rfl, h 9 _ rfl⟩

theorem vint_pos (n : Nat) : 0 < (vint n).length := by
  unfold vint
  split
  · simp
  · split
    · simp
    · split <;> simp

/-- What Encode answers. -/
def Encoded (w : World) (n : Nat) (fs : List (Frm × Value)) (e : Ending) (w' : World) : Prop :=
  (okP n fs = true ∧ ∃ v', e = .returned (.tuple #[v', .nilIface]) ∧ App w (.slice none 0 0) [] (sealed (body n fs)) v' w') ∨
  (okP n fs = false ∧ e = .returned (.tuple #[.slice none 0 0, .iface 41 (.int .i64 8)]) ∧ Mod NoB w w')

set_option maxRecDepth 100000 in
set_option maxHeartbeats 1000000 in
theorem wencode_any (n : Nat) (fs : List (Frm × Value)) (v : Value) (w : World) (h : FrsAt w v fs) (ht : Tab w) (hb : (body n fs).length ≤ 35184372088832) (hd : ∀ fr ∈ fs, fr.1.data.length ≤ 35184372088832 ∧ fr.1.rngs.length ≤ 1099511627776) :
    Calls Tryz.prog 105 #[.agg #[.int .u64 (n : Int), v]] w (Encoded w n fs) := by
  obtain ⟨a, cap, rfl, h1, h2, h3⟩ := id h
  unfold maxLen at h2
  clear h3
  have Hb := hide hb
  have Hd := hide hd
  have H := hide h
  have Ht := hide ht
  clear hb hd h ht
  by_cases d1 : fs.length = 0
  · have e0 : Hid (okP n fs = false) := by show _ = _; simp [okP, d1]
    have e1 : ((fs.length : Int) == 0) = true := by simp [d1]
    have e2 : (fs.length == 0) = true := by simp [d1]
    clear d1
    go_enter Tryz.func105, Tryz.ntmps105
    go_wp2_with fail
    go_ret2
    exact .inr ⟨e0.out, rfl, (Mod.refl _ _).alloc _⟩
  · have e1 : ((fs.length : Int) == 0) = false := by rw [beq_eq_false_iff_ne]; omega
    have e2 : (fs.length == 0) = false := by simpa using d1
    by_cases d2 : 4611686018427387903 < n
    · have e0 : Hid (okP n fs = false) := by
        have : decide (n ≤ 4611686018427387903) = false := by simp; omega
        show _ = _
        rw [okP, this, Bool.and_false, Bool.false_and]
      have e3 : decide ((4611686018427387903 : Int) < n) = true := by simp; omega
      clear d1 d2
      go_enter Tryz.func105, Tryz.ntmps105
      go_wp2_with fail
      go_ret2
      exact .inr ⟨e0.out, rfl, (Mod.refl _ _).alloc _⟩
    · have e3 : decide ((4611686018427387903 : Int) < n) = false := by simp; omega
      have EO : Hid (okP n fs = sndTo fs fs.length) := by
        have q1 : decide (n ≤ 4611686018427387903) = true := decide_eq_true (by omega)
        have q2 : decide (0 < fs.length) = true := decide_eq_true (by omega)
        show _ = _
        rw [okP, q1, q2, Bool.true_and, Bool.true_and]
      have hv := fun w => varint_any (.slice none 0 0) [] n w (OB.nil w) (by simp) (by omega)
      have q1 : ∀ w, (binOp .eql 44 (.slice none 0 0) (.slice none 0 0)).run Tryz.prog w = .ok (.bool true) w := fun w => _root_.Go.run_eql_slice_nil w _ _ none 0 0 Tryz.underlying44
      have q2 : ∀ a n c w, (binOp .eql 44 (.slice (some a) n c) (.slice none 0 0)).run Tryz.prog w = .ok (.bool false) w := fun a n c w => _root_.Go.run_eql_slice_nil w _ _ (some a) n c Tryz.underlying44
      have Hn := hide d2
      have Hf := hide d1
      obtain ⟨W0, hW0⟩ : ∃ W0, w.alloc (.cells #[.int .u64 (n : Int), .slice a fs.length cap] 37) = W0 := ⟨_, rfl⟩
      have m0 : Mod NoB w W0 := by rw [← hW0]; exact (Mod.refl _ _).alloc _
      have c0 : W0.cell? ⟨w.heap.size, 0, none⟩ = some (.int .u64 (n : Int)) := by rw [← hW0]; exact cell_of_obj (heap_alloc_new w _) rfl
      have c1 : W0.cell? ⟨w.heap.size, 1, none⟩ = some (.slice a fs.length cap) := by rw [← hW0]; exact cell_of_obj (heap_alloc_new w _) rfl
      have HM0 := hide m0
      have Hc1 := hide c1
      clear m0 d1 d2
      go_enter Tryz.func105, Tryz.ntmps105
      go_wp2_with (go_at_call 84; refine (hv _).mono ?_; rintro e w1 ⟨v1, rfl, ap⟩; have A1 := hide ap; have c1' := ap.mod0.cell (a := ⟨w.heap.size, 1, none⟩) (fun x => x) Hc1.out; clear ap)
      go_loopw [4, 23] (fun vb i wr => ∃ k : Nat, k ≤ fs.length ∧ i = .int .i64 k ∧ App W0 (.slice none 0 0) [] (vint n ++ bodyTo fs k) vb wr ∧ Hid (sndTo fs k = true)) (fun _ i _ => fs.length - (intOf i).toNat)
      case atStart => exact ⟨0, Nat.zero_le _, rfl, by simpa [bodyTo] using A1.out, hide rfl⟩
      case round =>
        obtain ⟨k, hk, rfl, hA, hsnd⟩ := hrel
        have HA := hide hA
        have HFS : FrsAt wr (.slice a fs.length cap) fs := (H.out.mod0 HM0.out).mod0 hA.mod0
        have hvn : 0 < ([] ++ (vint n ++ bodyTo fs k) : List UInt8).length := by
          have := vint_pos n
          simp
          omega
        obtain ⟨ab, cb, hvb, _, _, hab⟩ := own_form hA.own
        obtain ⟨gb, rfl⟩ := hab hvn
        clear hab
        by_cases hlt : k < fs.length
        · obtain ⟨fr, hfr⟩ : ∃ fr, fs[k]? = some fr := ⟨fs[k], List.getElem?_eq_getElem hlt⟩
          obtain ⟨a', cap', hv', _, _, h3⟩ := HFS
          cases hv'
          obtain ⟨f, rv⟩ := fr
          obtain ⟨⟨g, o, rfl, hc⟩, hrr⟩ := h3 k (f, rv) hfr
          simp only at hc hrr
          obtain ⟨ra, rc, rfl, _⟩ := id hrr
          have hrw : RR w (.slice ra f.rngs.length rc) f.rngs := by
            obtain ⟨_, _, _, _, _, h4⟩ := H.out
            exact (h4 k _ hfr).2
          obtain ⟨hc0, hc1, hc2, hc3, hc4, hc5, hc6, hc7, hc8, hc9⟩ := fr_cells hc
          have Hs := hide (bodyTo_succ fs k _ hfr)
          have Hsn := hide (sndTo_succ fs k _ hfr)
          have Hsf := hide (sndTo_false fs k _ hfr)
          obtain ⟨hd1, hd2⟩ := Hd.out _ (List.mem_of_getElem? hfr)
          have hle := bodyTo_le fs k
          have hbb := Hb.out
          obtain ⟨Y, hY⟩ : ∃ Y, wr.alloc (.cells (frCells f (.slice ra f.rngs.length rc)) 48) = Y := ⟨_, rfl⟩
          have mY : Mod NoB wr Y := by rw [← hY]; exact (Mod.refl _ _).alloc _
          have hfY : FrameAt Y wr.heap.size f (.slice ra f.rngs.length rc) := by rw [← hY]; exact heap_alloc_new wr _
          obtain ⟨y0, y1, y2, y3, y4, y5, y6, y7, y8, y9⟩ := hfY.cells
          have hAY : App W0 (.slice none 0 0) [] (vint n ++ bodyTo fs k) u4 Y := by rw [← hY]; exact HA.out.alloc _
          have hap := append_any u4 ([] ++ (vint n ++ bodyTo fs k)) f (.slice ra f.rngs.length rc) Y hAY.own (fun hpos g' o' n' c' hv hx => ?_) (hrr.mod mY (OffS.no _)) hd2 hd1 (by
            simp only [body, List.nil_append, List.length_append] at hbb ⊢
            omega)
          · have HmY := hide mY
            have HAY := hide hAY
            clear mY hAY hc hA hrr hfY hd1 hd2 hle hbb h3
            unfold frCells at hap hY
            obtain ⟨Ln, hLn⟩ : ∃ q, ([] ++ (vint n ++ bodyTo fs k) : List UInt8).length = q := ⟨_, rfl⟩
            rw [hLn] at hvb hvn
            have HL : Hid (0 < Ln ∧ ([] ++ (vint n ++ bodyTo fs k) : List UInt8).length = Ln) := ⟨hvn, hLn⟩
            clear hLn
            subst hvb
            cases hsf : soundF f
            · rw [hsf] at hap
              have HO : Hid (okP n fs = false) := by
                show _ = _
                rw [EO.out]
                exact Hsf.out hsf
              go_wp2_with (go_at_call 115; refine hap.mono ?_; rintro e w2 (⟨hok, _⟩ | ⟨_, rfl, m2⟩); · cases hok)
              go_ret2
              exact .inr ⟨HO.out, rfl, ((HM0.out.trans HA.out.mod0).trans HmY.out).trans m2⟩
            · rw [hsf] at hap
              have HO : Hid (sndTo fs (k + 1) = true) := by
                show _ = _
                rw [Hsn.out, hsnd.out, hsf]
                rfl
              go_wp2_with fail
              refine hap.mono ?_
              rintro e w2 (⟨_, v2, rfl, ap2⟩ | ⟨hok, _⟩)
              · have A2 := HAY.out.trans ap2
                obtain ⟨ab2, cb2, rfl, _, _, hab2⟩ := own_form A2.own
                obtain ⟨gb2, rfl⟩ := hab2 (by simp; have := HL.out; simp at this; omega)
                have HA2 := hide A2
                obtain ⟨L2, hL2⟩ : ∃ q, ([] ++ ((vint n ++ bodyTo fs k) ++ bytesF f) : List UInt8).length = q := ⟨_, rfl⟩
                rw [hL2] at HA2
                rw [hL2]
                clear A2 ap2 hap hab2 hL2
                go_wp2_with fail
                go_roundw
                case rel => exact ⟨k + 1, by omega, by go_num, by rw [Hs.out, ← List.append_assoc]; exact HA2.out, HO⟩
                case measure => simp [intOf]; omega
              · cases hok
          · cases hv
            obtain ⟨_, _, hv2, _, _, hr3⟩ := hrw
            cases hv2
            obtain ⟨_, _, e, hc0', _⟩ := hr3 0 hpos
            cases e
            have hl := lt_of_cell hc0'
            rcases HA.out.at_ _ hx with h1 | h1
            · cases h1
            · have := HM0.out.size
              omega
        · have hkn : k = fs.length := by omega
          have HO : Hid (okP n fs = true) := by
            show _ = _
            rw [EO.out, ← hkn]
            exact hsnd.out
          have hown : OB wr u4 (body n fs) := by
            have := HA.out.own
            rwa [hkn] at this
          have hA' : App W0 (.slice none 0 0) [] (body n fs) u4 wr := by
            have := HA.out
            rwa [hkn] at this
          have hseal := seal_any u4 (body n fs) wr hown (by have := Hb.out; omega) ((Ht.out.mod HM0.out (fun x => x)).mod hA'.mod0 (fun x => x))
          have HA' := hide hA'
          obtain ⟨Ln, hLn⟩ : ∃ q, ([] ++ (vint n ++ bodyTo fs k) : List UInt8).length = q := ⟨_, rfl⟩
          rw [hLn] at hvb
          clear hA' hown hA hkn HFS hvn HA c0 c1 hLn
          subst hvb
          go_wp2_with (go_at_call 87; refine hseal.mono ?_; rintro e w2 ⟨v2, rfl, ap2⟩; have HS := hide (HA'.out.trans ap2); clear ap2)
          go_ret2
          exact .inl ⟨HO.out, _, rfl, App.after HM0.out HS.out⟩
end Go.Proofs.YtddfdpbaiedcjabGreatDoor
