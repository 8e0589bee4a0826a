/- The statement Gathered, second form, its card: where what the law reads is of bulk at most 1048576, and the two listed variables read as listed, it returns true, and its argument reads behind the call as before. Part 23 of 23. -/
import Derived.Test.YtddfdpbaiedcjabGreatDoorGatheredPart22
import Derived.Test.YtddfdpbaiedcjabGreatDoorGatheredPart8
import Derived.Test.YtddfdpbaiedcjabGreatDoorGatheredPart12
import Derived.Test.YtddfdpbaiedcjabGreatDoorRows
import Derived.Test.YtddfdpbaiedcjabGreatDoorGatheredPart17
import Derived.LaidLaws
import Derived.LaidHandle
import Derived.Lib.LaidTab
import Derived.Stop.Joined
import Derived.Deep.DeepHandedRow
import Derived.WalkKit
import Derived.ProofKit
import Derived.OpenShut
import Derived.ChangeSlices
import Derived.ChangeSame
import Derived.JoinedOf
import Derived.JoinedAt
import Derived.Carry
/- plain.Down: the ranges of a set, from the last one on, as many as are asked for. -/
namespace Go.Proofs.YtddfdpbaiedcjabGreatDoor
open Go.RowKit Go.Shelf

attribute [local go_sem] Oper.semAt_some

theorem eqIn_func (d : Nat) (f : Fn) (a b : Array Value) (w : World) : (Op.equalIn (d + 1) 158 (.func f a b) .nilFunc).run Tryz.prog w = .ok false w := by
  simp [Op.equalIn, run_underlying Tryz.underlying158]

theorem func_not_nil (f : Fn) (a b : Array Value) (w : World) : (binOp .eql 158 (.func f a b) .nilFunc).run Tryz.prog w = .ok (.bool false) w := by
  have h := eqIn_func 9999 f a b w
  simp only [binOp]
  simp [Op.equal, Op.maxDepth, h]

/-- An append whose run is known: for the fenced walk. -/
theorem wpListIn_append_is {F : Fence} {n : Nat} {P : Program} {w w1 : World} {ops : Array Oper} {rest : List Oper} {o : Oper} {a : Act} {Q : Exit → Act → World → Prop} (hgd : o.guard = none) (s x : Operand) (t u : TypeId)
    (ho : o.op = .call { callee := .builtin .append, args := #[s, x], argTypes := #[t, u] }) (vs vx v' : Value) (hs : a.eval s = vs) (hx : a.eval x = vx)
    (happ : ∀ ty, (Builtin.append_ #[t, u] ty #[vs, vx]).run P w = .ok v' w1) (h : wpListIn F n P ops Q rest (a.put o.dst v') w1) : wpListIn F n P ops Q (o :: rest) a w := by
  refine wpListIn_plain hgd fun K hK => ?_
  have hrun := happ o.type
  unfold Oper.wpIn
  refine ⟨by simp [Oper.about, ho, resolve, Target.leads, Sem.run_pure], ?_⟩
  rw [Oper.semAt_plain F _ _ (by rw [ho]; intro c hc'; cases hc')]
  simp [execOp, ho, resolve, invoke, builtin, hs, hx, hrun, Result.andThen]
  exact hK _ _ h

theorem Mod.putObj {S : Nat → Prop} {w w' : World} (h : Mod S w w') {l : Nat} (hl : S l ∨ w.heap.size ≤ l) (o : Obj) : Mod S w (w'.putObj l o) :=
  ⟨h.os, h.tape, h.output, by simpa using h.size, fun i hi hn => (World.putObj_heap_other (fun e => by
    subst e
    rcases hl with x | x
    · exact hn x
    · omega)).trans (h.block i hi hn)⟩

/-- Between two rounds of the walk over a set: the ranges that have come are l's. -/
structure DownJ (w : World) (left : Nat) (rec : Loop) (pre : Rngs) (v : Value) (X : World) : Prop where
  mod : Mod NoB w X
  bl : Boxed X w.heap.size 3 (.int .i64 (left : Int))
  bx : Boxed X (w.heap.size + 2) 46 v
  own : X.ownsRow 0 110 2 v pre.length (rcells pre)
  new : ∀ g, v.ownBlock = some g → w.heap.size ≤ g
  df : X.heap[w.heap.size + 3]? = some (.deferred (some []))
  rc : X.heap[w.heap.size + 4]? = some (.loop rec)

theorem DownJ.own_from {w : World} {left : Nat} {rec : Loop} (p : Rngs → Prop) : OwnFrom (w.heap.size + 5) (fun pre X => p pre ∧ ∃ v, DownJ w left rec pre v X) := by
  rintro pre A B row ⟨hp, v, h⟩ hg hr
  refine ⟨hp, v, ?_⟩
  have hne : ∀ k, k < w.heap.size + 5 → some k ≠ row := fun k hk e => by have := (hr k e.symm).1; omega
  have hm : Mod (fun k => row = some k) A B := (Mod.refl _ _).grown hg (fun k hk => .inl hk)
  refine ⟨h.mod.then hm (fun i hi => .inr (by have := (hr i hi).1; omega)), h.bl.kept hg (hne _ (by omega)), h.bx.kept hg (hne _ (by omega)), hm.owns h.own (fun g hg' hx => ?_), h.new, ?_, ?_⟩
  · obtain ⟨_, o, ho, hnc⟩ := hr g hx
    rcases h.own.2 with ⟨e, _⟩ | ⟨g', cap, cur, e, _, hgr, _⟩
    · rw [e] at hg'
      cases hg'
    · rw [e] at hg'
      simp [Value.ownBlock] at hg'
      subst hg'
      rw [ho] at hgr
      cases hgr
      cases hnc
  · exact (hg.block _ (Array.getElem?_eq_some_iff.1 h.df).1 (hne _ (by omega))).trans h.df
  · exact (hg.block _ (Array.getElem?_eq_some_iff.1 h.rc).1 (hne _ (by omega))).trans h.rc

/-- The statement's own front: the record and the block for deferred calls are laid; what is asked of the one call. -/
theorem range_front {F : Fence} {n : Nat} {P : Program} {g : Operand} {ps : Array Tmp} {assign body : Code} {Q : Exit → Act → World → Prop} {a : Act} {w : World} (hro : F.round = none) (h1 : 1 ≤ n) {gf : Nat} {lb : Array Value} (hg : a.eval g = .func (.func gf) #[] lb)
    (hFg : F.fn gf) (eg : ∀ args w, (callFunc gf args).run P w = .ok (.enter gf args) w)
    (h : ∀ fn, F.fn fn → CallsIn F (n - 1) P gf (#[.func (.yield (w.heap.size + 1)) #[] #[]] ++ lb) ((w.alloc (.deferred (some []))).alloc (.loop { state := .ready, pending := none, fn := fn, tmps := a.tmps, params := ps, assign := assign, body := body, defers := w.heap.size }))
      (rangePost F n P (w.heap.size + 1) Q { a with defers := [{ target := .collected w.heap.size, args := #[] }] ++ a.defers })) :
    (Code.rangeFunc g ps assign body).wpIn F n P Q a w := by
  refine wpIn_rangeFunc fun fn hfn => ⟨_, _, _, { target := .fn (.func gf) lb, args := #[.func (.yield (w.heap.size + 1)) #[] #[]] }, (w.alloc (.deferred (some []))).alloc (.loop { state := .ready, pending := none, fn := fn, tmps := a.tmps, params := ps, assign := assign, body := body, defers := w.heap.size }), gf, _, _, by rw [hro]; exact run_enterLoop_outer _ _ _ _ _, ?_, ?_, ?_, fun _ => h1, h fn hfn⟩
  · simp only [resolve, hg]
    simp [go_sem]
  · intro f' hf'
    simp [Target.leads] at hf'
    subst hf'
    exact hFg
  · simp [invoke, go_sem, eg]

theorem own_ltD {w : World} {base e sz : Nat} {v : Value} {n : Nat} {xs : List Value} (h : w.ownsRow base e sz v n xs) : ∀ g, v.ownBlock = some g → g < w.heap.size := by
  intro g hg
  rcases h.2 with ⟨rfl, rfl⟩ | ⟨g', cap, cur, rfl, _, h0, h1, h2, _⟩
  · cases hg
  · simp [Value.ownBlock] at hg
    subst hg
    exact (Array.getElem?_eq_some_iff.1 h0).1

theorem backTo_map (rs : Rngs) (k : Nat) (hk : k ≤ rs.length) : (backTo rs k).map (·.2) = rs.reverse.take k := by
  apply List.ext_getElem
  · simp [backTo, hk]
  · intro i h1 h2
    have hi : i < rs.length := by simp [backTo] at h1; omega
    simp [backTo, loAt, hiAt, List.getD_eq_getElem?_getD, List.getElem_reverse, show rs.length - 1 - i < rs.length by omega]

theorem rr_of_own {X : World} {v : Value} {l rs : Rngs} (h : X.ownsRow 0 110 2 v l.length (rcells l)) (hlim : ∀ i, i < rs.length → loAt rs i < 18446744073709551616 ∧ hiAt rs i < 18446744073709551616) (hsub : ∀ x ∈ l, x ∈ rs) : RR X v l := by
  refine OwnR.rr ⟨h, fun i hi => ?_⟩
  have hx : (loAt l i, hiAt l i) ∈ l := by
    have : l[i]? = some (loAt l i, hiAt l i) := by simp [loAt, hiAt, List.getD_eq_getElem?_getD, List.getElem?_eq_getElem hi]
    exact List.mem_of_getElem? this
  obtain ⟨j, hj⟩ := List.getElem?_of_mem (hsub _ hx)
  have hjl : j < rs.length := (List.getElem?_eq_some_iff.1 hj).1
  have := hlim j hjl
  have e1 : loAt rs j = loAt l i := by unfold loAt at *; simp [List.getD_eq_getElem?_getD, hj]
  have e2 : hiAt rs j = hiAt l i := by unfold hiAt at *; simp [List.getD_eq_getElem?_getD, hj]
  omega

/-- What it answers: the last ranges, from the last one on. -/
def DownPost (rs : Rngs) (left : Nat) (w : World) (e : Ending) (W' : World) : Prop :=
  ∃ v, e = .returned (.tuple #[v, .bool true]) ∧ RR W' v (if left = 0 then rs.reverse else rs.reverse.take left) ∧ Mod NoB w W'

set_option maxRecDepth 100000 in
set_option maxHeartbeats 4000000 in
theorem pdown_in (F : Fence) (n : Nat) (hFa : ∀ f, F.fn f) (hro : F.round = none) (hn : 8 ≤ n) (rs : Rngs) (fl most b left : Nat) (v : Value) (w : World) (h : SetAt w b 0 v rs fl most) (hlim : ∀ i, i < rs.length → loAt rs i < 18446744073709551616 ∧ hiAt rs i < 18446744073709551616) :
    CallsIn F n Tryz.prog 43 #[.pointer (some ⟨b, 0, none⟩), .int .i64 (left : Int)] w (DownPost rs left w) := by
  obtain ⟨a, cap, rfl, o1, o2, o3⟩ := own_form h.own
  have hbw := lt_of_cell h.cl
  have ha0 : ∀ g o, a = some ⟨g, o, none⟩ → g < w.heap.size := fun g o e => own_ltD h.own g (by rw [e]; rfl)
  have hrr : RR w (.slice a rs.length cap) rs := OwnR.rr ⟨h.own, hlim⟩
  have hcl := h.cl
  have hlen := h.len
  clear h
  have h1 : 1 ≤ n := by omega
  have hfn := func_not_nil (.func 111) #[] #[.pointer (some ⟨w.heap.size + 1, 0, none⟩)]
  refine callsIn_of_wp_marks Tryz.func43 rfl (hFa _) ?_ hro
  simp only [Tryz.ntmps43, List.size_toArray, List.length_cons, List.length_nil, Nat.reduceAdd, Nat.reduceSub, Array.replicate_succ, Array.replicate_zero, List.push_toArray, List.append_toArray, List.nil_append, List.cons_append]
  gi_wp2_with (gi_at_call 81; refine (down_in F (n - 1) (hFa _) hro _ _).mono ?_; rintro e w' ⟨rfl, rfl⟩)
  refine range_front hro h1 (gf := 111) (lb := #[.pointer (some ⟨w.heap.size + 1, 0, none⟩)]) rfl (hFa _) (enters_of Tryz.func111 (by kernel_rfl) rfl) ?_
  intro fn hf
  generalize hrec : Loop.mk .ready none fn _ _ _ _ _ = rec
  have hs3 : (((w.alloc (.cells #[.int .i64 (left : Int)] 3)).alloc (.cells #[.pointer (some ⟨b, 0, none⟩)] 101)).alloc (.cells #[.slice none 0 0] 46)).heap.size = w.heap.size + 3 := by simp
  rw [hs3] at hrec ⊢
  have e12 : w.heap.size + 1 + 1 = w.heap.size + 2 := rfl
  obtain ⟨W1, hW1⟩ : ∃ W1, ((((w.alloc (.cells #[.int .i64 (left : Int)] 3)).alloc (.cells #[.pointer (some ⟨b, 0, none⟩)] 101)).alloc (.cells #[.slice none 0 0] 46)).alloc (.deferred (some []))).alloc (.loop rec) = W1 := ⟨_, rfl⟩
  have m1 : Mod NoB w W1 := by rw [← hW1]; exact ((((Mod.refl _ _).alloc _).alloc _).alloc _).alloc _ |>.alloc _
  have hs1 : W1.heap.size = w.heap.size + 5 := by rw [← hW1]; simp
  have bl : Boxed W1 w.heap.size 3 (.int .i64 (left : Int)) := by
    rw [← hW1]
    exact ((((Boxed.new w _ _).alloc _).alloc _).alloc _).alloc _
  have bs : Boxed W1 (w.heap.size + 1) 101 (.pointer (some ⟨b, 0, none⟩)) := by
    rw [← hW1]
    have := Boxed.new (w.alloc (.cells #[.int .i64 (left : Int)] 3)) 101 (.pointer (some ⟨b, 0, none⟩))
    rw [World.size_alloc] at this
    exact ((this.alloc _).alloc _).alloc _
  have bx : Boxed W1 (w.heap.size + 2) 46 (.slice none 0 0) := by
    rw [← hW1]
    have := Boxed.new ((w.alloc (.cells #[.int .i64 (left : Int)] 3)).alloc (.cells #[.pointer (some ⟨b, 0, none⟩)] 101)) 46 (.slice none 0 0)
    rw [World.size_alloc, World.size_alloc] at this
    exact (this.alloc _).alloc _
  have hdf : W1.heap[w.heap.size + 3]? = some (.deferred (some [])) := by
    rw [← hW1]
    have := World.alloc_heap_new (((w.alloc (.cells #[.int .i64 (left : Int)] 3)).alloc (.cells #[.pointer (some ⟨b, 0, none⟩)] 101)).alloc (.cells #[.slice none 0 0] 46)) (.deferred (some []))
    rw [hs3] at this
    exact (Below.heap_alloc _ _ _ (by simp)).trans this
  have hrc : W1.heap[w.heap.size + 4]? = some (.loop rec) := by
    rw [← hW1]
    have := World.alloc_heap_new ((((w.alloc (.cells #[.int .i64 (left : Int)] 3)).alloc (.cells #[.pointer (some ⟨b, 0, none⟩)] 101)).alloc (.cells #[.slice none 0 0] 46)).alloc (.deferred (some []))) (.loop rec)
    rw [World.size_alloc, hs3] at this
    exact this
  rw [hW1]
  have hJ0 : DownJ w left rec [] (.slice none 0 0) W1 := ⟨m1, bl, bx, World.ownsRow_nil _ 0 _ 2, (fun g hg => by cases hg), hdf, hrc⟩
  clear hW1
  have hra := congrArg Loop.assign hrec.symm
  dsimp only at hra
  have hrb := congrArg Loop.body hrec.symm
  dsimp only at hrb
  have hrt := congrArg Loop.tmps hrec.symm
  dsimp only at hrt
  have hrp : rec.params = #[14] := by rw [← hrec]
  have hrs : rec.state = .ready := by rw [← hrec]
  have hrn : rec.pending = none := by rw [← hrec]
  have HRN := hide hrn
  obtain ⟨recd, hrecd⟩ : ∃ recd : Loop, { rec with state := .done, pending := some (.exit 0) } = recd := ⟨_, rfl⟩
  have HRD := hide hrecd
  have HRA := hide hra
  have HRB := hide hrb
  have HRT := hide hrt
  have HRP := hide hrp
  have HRS := hide hrs
  clear hrec hra hrb hrt hrp hrs hrn hrecd
  refine (down1_in F (n - 1) hFa hro (by omega) (w.heap.size + 4) (w.heap.size + 1) b (w.heap.size + 2) cap a rs
    (fun pre X => (left = 0 ∨ pre.length < left) ∧ ∃ v, DownJ w left rec pre v X)
    (fun pre X => (0 < left ∧ pre.length = left) ∧ ∃ v, DownJ w left recd pre v X) W1 ?hY ?hJ ?hJx bs.cell (m1.cell (a := ⟨b, 0, none⟩) (fun x => x) hcl) (hrr.mod m1 (OffS.no _)) (by omega) (by omega) (fun g o e => by have := ha0 g o e; omega) ⟨by rcases Nat.eq_zero_or_pos left with e | e; exact .inl e; exact .inr e, _, hJ0⟩).mono ?post
  case hJ => rw [hs1]; exact DownJ.own_from _
  case hJx => rw [hs1]; exact DownJ.own_from _
  case hY =>
    rintro m pre x X ⟨hle, v, hj⟩ hlt
    have hpl : pre.length ≤ 1099511627776 := by omega
    have HX := hide hj
    have HLE := hide hle
    have hXs := (Array.getElem?_eq_some_iff.1 hj.rc).1
    refine ⟨_, _, _, _, run_yield hj.rc (by rw [HRP.out]; rfl), roundIn_of_wpIn (hFa _) ?_⟩
    rw [HRA.out, HRB.out, HRT.out, HRP.out]
    unfold encR
    clear hj hle
    gi_wp2
    have hl1 : (X.alloc (.cells #[.int .u64 (x.1 : Int), .int .u64 (x.2 : Int)] 110)).heap[w.heap.size + 4]? = some (.loop rec) := (Below.heap_alloc _ _ _ hXs).trans HX.out.rc
    refine ⟨_, run_beginRound hl1 HRS.out, ?_⟩
    obtain ⟨X2, hX2⟩ : ∃ X2, (X.alloc (.cells #[.int .u64 (x.1 : Int), .int .u64 (x.2 : Int)] 110)).putObj (w.heap.size + 4) (.loop { rec with state := .busy }) = X2 := ⟨_, rfl⟩
    have m2 : Mod (fun k => k = w.heap.size + 2 ∨ k = w.heap.size + 4 ∨ v.ownBlock = some k) X X2 := by
      rw [← hX2]
      exact ((Mod.refl (fun k => k = w.heap.size + 2 ∨ k = w.heap.size + 4 ∨ v.ownBlock = some k) _).alloc _).putObj (.inl (.inr (.inl rfl))) _
    have hl2 : X2.heap[w.heap.size + 4]? = some (.loop { rec with state := .busy }) := by
      rw [← hX2]
      exact World.putObj_heap_same (by simp; omega)
    have hr2 : X2.heap[X.heap.size]? = some (.cells #[.int .u64 (x.1 : Int), .int .u64 (x.2 : Int)] 110 (0, 0)) := by
      rw [← hX2]
      exact (World.putObj_heap_other (by omega)).trans (heap_alloc_new X _)
    have hk2 : ∀ k, k < X.heap.size → k ≠ w.heap.size + 4 → X2.heap[k]? = X.heap[k]? := fun k hk hn => by
      rw [← hX2]
      exact (World.putObj_heap_other hn).trans (Below.heap_alloc _ _ _ hk)
    have mk2 : Mod (fun k => k = w.heap.size + 4) X X2 := by
      rw [← hX2]
      exact ((Mod.refl (fun k => k = w.heap.size + 4) X).alloc _).putObj (.inl rfl) _
    rw [hX2]
    have bl2 : Boxed X2 w.heap.size 3 (.int .i64 (left : Int)) := (hk2 _ (by omega) (by omega)).trans HX.out.bl
    have bx2 : Boxed X2 (w.heap.size + 2) 46 v := (hk2 _ (by omega) (by omega)).trans HX.out.bx
    have hd2 : X2.heap[w.heap.size + 3]? = some (.deferred (some [])) := (hk2 _ (by omega) (by omega)).trans HX.out.df
    have own2 : X2.ownsRow 0 110 2 v pre.length (rcells pre) := mk2.owns HX.out.own (fun g hg e => by
      have e : g = w.heap.size + 4 := e
      subst e
      rcases HX.out.own.2 with ⟨e, _⟩ | ⟨g', cp, cur, e, _, hgr, _⟩
      · rw [e] at hg
        cases hg
      · rw [e] at hg
        simp [Value.ownBlock] at hg
        rw [hg, HX.out.rc] at hgr
        cases hgr)
    have hvn := HX.out.new
    have hownX : ∀ k, v.ownBlock = some k → RoundS (w.heap.size + 2) (w.heap.size + 4) a X k := fun k hk => by
      refine .inr (.inr ⟨fun g o e => by have := ha0 g o e; have := hvn k hk; omega, ?_⟩)
      rcases HX.out.own.2 with ⟨e, _⟩ | ⟨g', cp, cur, e, _, hgr, _⟩
      · rw [e] at hk
        cases hk
      · rw [e] at hk
        simp [Value.ownBlock] at hk
        subst hk
        exact ⟨_, _, hgr⟩
    have hs2 : X.heap.size ≤ X2.heap.size := m2.size
    obtain ⟨va, vc, rfl, _⟩ := own_form own2
    obtain ⟨v3, W3, hr3, own3, gr3, nw3⟩ := rlit_app X2 (.slice va pre.length vc) pre x.1 x.2 own2 (by omega)
    have hnb : ∀ k, k = w.heap.size ∨ k = w.heap.size + 2 ∨ k = w.heap.size + 3 ∨ k = w.heap.size + 4 → some k ≠ (Value.slice va pre.length vc).ownBlock := fun k hk e => by
      rcases own2.2 with ⟨e1, _⟩ | ⟨g', cp, cur, e1, _, hgr, _⟩
      · rw [e1] at e
        cases e
      · rw [e1] at e
        simp [Value.ownBlock] at e
        subst e
        rcases hk with rfl | rfl | rfl | rfl
        · rw [show X2.heap[w.heap.size]? = _ from bl2] at hgr
          simp at hgr
        · rw [show X2.heap[w.heap.size + 2]? = _ from bx2] at hgr
          simp at hgr
        · rw [hd2] at hgr
          cases hgr
        · rw [hl2] at hgr
          cases hgr
    have bl3 := bl2.kept gr3 (hnb _ (.inl rfl))
    have bx3 := bx2.kept gr3 (hnb _ (.inr (.inl rfl)))
    have hd3 : W3.heap[w.heap.size + 3]? = some (.deferred (some [])) := (gr3.block _ (Array.getElem?_eq_some_iff.1 hd2).1 (hnb _ (.inr (.inr (.inl rfl))))).trans hd2
    have hl3 : W3.heap[w.heap.size + 4]? = some (.loop { rec with state := .busy }) := (gr3.block _ (Array.getElem?_eq_some_iff.1 hl2).1 (hnb _ (.inr (.inr (.inr rfl))))).trans hl2
    have m3 := m2.grown gr3 (fun k hk => .inl (.inr (.inr hk)))
    have m4 := m3.setCell (p := ⟨w.heap.size + 2, 0, none⟩) (.inl (.inl rfl)) v3
    have bx4 : Boxed (W3.setCell ⟨w.heap.size + 2, 0, none⟩ v3) (w.heap.size + 2) 46 v3 := bx3.set v3
    have bl4 : Boxed (W3.setCell ⟨w.heap.size + 2, 0, none⟩ v3) w.heap.size 3 (.int .i64 (left : Int)) := bl3.other (by omega) v3
    have ms4 : Mod (fun k => k = w.heap.size + 2) W3 (W3.setCell ⟨w.heap.size + 2, 0, none⟩ v3) := (Mod.refl (fun k => k = w.heap.size + 2) W3).setCell (p := ⟨w.heap.size + 2, 0, none⟩) (.inl rfl) _
    have hl4 : (W3.setCell ⟨w.heap.size + 2, 0, none⟩ v3).heap[w.heap.size + 4]? = some (.loop { rec with state := .busy }) := (ms4.block _ (Array.getElem?_eq_some_iff.1 hl3).1 (by omega)).trans hl3
    have hd4 : (W3.setCell ⟨w.heap.size + 2, 0, none⟩ v3).heap[w.heap.size + 3]? = some (.deferred (some [])) := (ms4.block _ (Array.getElem?_eq_some_iff.1 hd3).1 (by omega)).trans hd3
    have own4 : (W3.setCell ⟨w.heap.size + 2, 0, none⟩ v3).ownsRow 0 110 2 v3 (pre ++ [x]).length (rcells (pre ++ [x])) := ms4.owns own3 (fun g hg e => by
      have e : g = w.heap.size + 2 := e
      subst e
      rcases own3.2 with ⟨e1, _⟩ | ⟨g', cp, cur, e1, _, hgr, _⟩
      · rw [e1] at hg
        cases hg
      · rw [e1] at hg
        simp [Value.ownBlock] at hg
        rw [hg, show W3.heap[w.heap.size + 2]? = _ from bx3] at hgr
        simp at hgr)
    have hnew4 : ∀ g, v3.ownBlock = some g → w.heap.size ≤ g := fun g hg => by
      rcases nw3 g hg with q | q
      · exact hvn g q
      · omega
    obtain ⟨vb, vd, rfl, _⟩ := own_form own4
    have hlen4 : (pre ++ [x]).length = pre.length + 1 := by simp
    rw [hlen4] at hr3
    have bxc := bx3.cell
    have bxf := bx3.frozen
    have bx4c := bx4.cell
    have bl4c := bl4.cell
    have bx2c := bx2.cell
    have r20 : X2.cell? ⟨X.heap.size, 0, none⟩ = some (.int .u64 (x.1 : Int)) := cell_of_obj hr2 rfl
    have r21 : X2.cell? ⟨X.heap.size, 1, none⟩ = some (.int .u64 (x.2 : Int)) := cell_of_obj hr2 rfl
    rw [hlen4] at m4 bx4 bl4 ms4 hl4 hd4 own4 hnew4 bx4c bl4c
    obtain ⟨X4, hX4⟩ : ∃ X4, W3.setCell ⟨w.heap.size + 2, 0, none⟩ (.slice vb (pre.length + 1) vd) = X4 := ⟨_, rfl⟩
    rw [hX4] at m4 bx4 bl4 hl4 hd4 own4 bx4c bl4c
    have HM4 : Hid (Mod (RoundS (w.heap.size + 2) (w.heap.size + 4) a X) X X4) := m4.mono (fun k hk => .inl (by
      rcases hk with hk | hk | hk
      · exact .inl hk
      · exact .inr (.inl hk)
      · exact hownX k hk))
    have HMW : Hid (Mod NoB w X4) := HX.out.mod.then m4 (fun k hk => .inr (by
      rcases hk with hk | hk | hk
      · omega
      · omega
      · exact hvn k hk))
    have hwX := HX.out.mod.size
    have HBX4 := hide bx4
    have HBL4 := hide bl4
    have HL4 := hide hl4
    have HD4 := hide hd4
    have HO4 := hide own4
    have HNW4 := hide hnew4
    clear m4 bx4 bl4 ms4 hl4 hd4 own4 hnew4 own3 gr3 nw3 hnb hownX hk2 mk2 m2 m3 hl2 hd2 hl3 hd3 bl2 bx2 bl3 bx3 own2 hX2 hr2 hl1
    by_cases hle : pre.length + 1 = left
    · have hq : ((pre.length : Int) + 1 == (left : Int)) = true := by rw [beq_iff_eq]; omega
      have HLe := hide hle
      clear hle
      gi_wp2_with (gi_at_builtin; refine wpListIn_append_is rfl _ _ _ _ rfl _ _ _ rfl rfl hr3 ?_; clear hr3)
      refine ⟨_, _, run_endRound (some (.exit 0)) HL4.out, HM4.out.putObj (.inl (.inr (.inl rfl))) _, .inr ⟨rfl, ⟨by have := HLe.out; omega, by have := HLe.out; omega⟩, .slice vb (pre.length + 1) vd, ?_⟩⟩
      have hsz4 := (Array.getElem?_eq_some_iff.1 HL4.out).1
      have mp : ∀ o, Mod (fun k => k = w.heap.size + 4) X4 (X4.putObj (w.heap.size + 4) o) := fun o => (Mod.refl (fun k => k = w.heap.size + 4) X4).putObj (.inl rfl) o
      have hoX : ∀ g, (Value.slice vb (pre.length + 1) vd).ownBlock = some g → ¬ g = w.heap.size + 4 := fun g hg e => by
        subst e
        rcases HO4.out.2 with ⟨e, _⟩ | ⟨g', cp, cur, e, _, hgr, _⟩
        · rw [e] at hg
          cases hg
        · rw [e] at hg
          simp [Value.ownBlock] at hg
          rw [hg, HL4.out] at hgr
          cases hgr
      refine ⟨HMW.out.putObj (.inr (by omega)) _, (World.putObj_heap_other (by omega)).trans HBL4.out, (World.putObj_heap_other (by omega)).trans HBX4.out, by rw [hlen4]; exact (mp _).owns HO4.out hoX, HNW4.out, (World.putObj_heap_other (by omega)).trans HD4.out, ?_⟩
      rw [World.putObj_heap_same hsz4, ← HRD.out]
      rfl
    · have hq : ((pre.length : Int) + 1 == (left : Int)) = false := by rw [beq_eq_false_iff_ne]; omega
      have HLe := hide hle
      clear hle
      gi_wp2_with (gi_at_builtin; refine wpListIn_append_is rfl _ _ _ _ rfl _ _ _ rfl rfl hr3 ?_; clear hr3)
      refine ⟨_, _, run_endRound none HL4.out, HM4.out.putObj (.inl (.inr (.inl rfl))) _, .inl ⟨rfl, by have := HLe.out; have := HLE.out; omega, .slice vb (pre.length + 1) vd, ?_⟩⟩
      have hsz4 := (Array.getElem?_eq_some_iff.1 HL4.out).1
      have mp : ∀ o, Mod (fun k => k = w.heap.size + 4) X4 (X4.putObj (w.heap.size + 4) o) := fun o => (Mod.refl (fun k => k = w.heap.size + 4) X4).putObj (.inl rfl) o
      have hoX : ∀ g, (Value.slice vb (pre.length + 1) vd).ownBlock = some g → ¬ g = w.heap.size + 4 := fun g hg e => by
        subst e
        rcases HO4.out.2 with ⟨e, _⟩ | ⟨g', cp, cur, e, _, hgr, _⟩
        · rw [e] at hg
          cases hg
        · rw [e] at hg
          simp [Value.ownBlock] at hg
          rw [hg, HL4.out] at hgr
          cases hgr
      refine ⟨HMW.out.putObj (.inr (by omega)) _, (World.putObj_heap_other (by omega)).trans HBL4.out, (World.putObj_heap_other (by omega)).trans HBX4.out, by rw [hlen4]; exact (mp _).owns HO4.out hoX, HNW4.out, (World.putObj_heap_other (by omega)).trans HD4.out, ?_⟩
      rw [World.putObj_heap_same hsz4]
      have hq2 := HRN.out
      have hq3 := HRS.out
      cases rec
      simp only at hq2 hq3
      subst hq2
      subst hq3
      rfl
  case post =>
    have fin : ∀ (X2 : World) (u : Value) (l : Rngs), (∀ x ∈ l, x ∈ rs) → (l = if left = 0 then rs.reverse else rs.reverse.take left) → X2.ownsRow 0 110 2 u l.length (rcells l) → Mod NoB w X2 → DownPost rs left w (.returned (.tuple #[u, .bool true])) X2 := fun X2 u l hs hl ho hm => ⟨u, rfl, by rw [← hl]; exact rr_of_own ho hlim hs, hm⟩
    have FIN := hide fin
    clear fin
    rintro e X ⟨⟨v0, rfl⟩, ⟨hle, v, hj⟩ | ⟨k, hk, ⟨hpos, hkl⟩, v, hj⟩⟩
    · have hend := run_endLoop (P := Tryz.prog) hj.rc (by rw [HRS.out]; simp)
      rw [HRN.out] at hend
      refine ⟨none, _, hend, ?_⟩
      clear hend
      obtain ⟨X2, hX2⟩ : ∃ X2, X.putObj (w.heap.size + 4) (.loop { rec with state := .exhausted, pending := none }) = X2 := ⟨_, rfl⟩
      have hm : Mod (fun k => k = w.heap.size + 4) X X2 := by rw [← hX2]; exact (Mod.refl (fun k => k = w.heap.size + 4) _).putObj (.inl rfl) _
      have hb : X2.cell? ⟨w.heap.size + 1 + 1, 0, none⟩ = some v := hm.cell (a := ⟨w.heap.size + 2, 0, none⟩) (by simp) hj.bx.cell
      have hd : X2.heap[w.heap.size + 3]? = some (.deferred (some [])) := hm.obj (by simp) hj.df
      have ho := hm.owns hj.own (fun g hg e => by
        have e : g = w.heap.size + 4 := e
        subst e
        rcases hj.own.2 with ⟨e1, _⟩ | ⟨g', cp, cur, e1, _, hgr, _⟩
        · rw [e1] at hg
          cases hg
        · rw [e1] at hg
          simp [Value.ownBlock] at hg
          rw [hg, hj.rc] at hgr
          cases hgr)
      have HX2 := hide hX2
      have HMW : Hid (Mod NoB w X2) := hide (hj.mod.then hm (fun i hi => .inr (by omega)))
      have HO := hide ho
      have HLE := hide hle
      rw [hX2]
      clear hm hj ho hX2 hle
      gi_wp2
      refine ⟨by simp, .inl ⟨_, _, rfl, run_takeDeferred hd, ?_⟩⟩
      have hb2 := backTo_map rs rs.length (Nat.le_refl _)
      have hbl : ((backTo rs rs.length).map (·.2)).length = rs.length := by rw [List.length_map, backTo_length]
      refine ⟨_, results_tmp2 (t := 4) (u := 5) rfl _ _ _, ?_⟩
      refine FIN.out _ v _ (fun x hx => ?_) ?_ ((Mod.refl (fun k => k = w.heap.size + 3) X2).putObj (.inl rfl) _ |>.owns HO.out ?_) (HMW.out.putObj (.inr (by omega)) _)
      · rw [hb2] at hx
        exact List.mem_reverse.1 (List.mem_of_mem_take hx)
      · rw [hb2]
        have hle := HLE.out
        rw [hbl] at hle
        split
        · rw [List.take_of_length_le (by simp)]
        · rw [List.take_of_length_le (by simp), List.take_of_length_le (by simp; omega)]
      · intro g hg e
        have e : g = w.heap.size + 3 := e
        subst e
        rcases HO.out.2 with ⟨e1, _⟩ | ⟨g', cp, cur, e1, _, hgr, _⟩
        · rw [e1] at hg
          cases hg
        · rw [e1] at hg
          simp [Value.ownBlock] at hg
          rw [hg, hd] at hgr
          cases hgr
    · have hend := run_endLoop (P := Tryz.prog) hj.rc (by rw [← HRD.out]; simp)
      have hpe : recd.pending = some (.exit 0) := by rw [← HRD.out]
      rw [hpe] at hend
      refine ⟨some (.exit 0), _, hend, ?_⟩
      clear hend hpe
      obtain ⟨X2, hX2⟩ : ∃ X2, X.putObj (w.heap.size + 4) (.loop { recd with state := .exhausted, pending := some (.exit 0) }) = X2 := ⟨_, rfl⟩
      have hm : Mod (fun k => k = w.heap.size + 4) X X2 := by rw [← hX2]; exact (Mod.refl (fun k => k = w.heap.size + 4) _).putObj (.inl rfl) _
      have hb : X2.cell? ⟨w.heap.size + 1 + 1, 0, none⟩ = some v := hm.cell (a := ⟨w.heap.size + 2, 0, none⟩) (by simp) hj.bx.cell
      have hd : X2.heap[w.heap.size + 3]? = some (.deferred (some [])) := hm.obj (by simp) hj.df
      have ho := hm.owns hj.own (fun g hg e => by
        have e : g = w.heap.size + 4 := e
        subst e
        rcases hj.own.2 with ⟨e1, _⟩ | ⟨g', cp, cur, e1, _, hgr, _⟩
        · rw [e1] at hg
          cases hg
        · rw [e1] at hg
          simp [Value.ownBlock] at hg
          rw [hg, hj.rc] at hgr
          cases hgr)
      have HX2 := hide hX2
      have HMW : Hid (Mod NoB w X2) := hide (hj.mod.then hm (fun i hi => .inr (by omega)))
      have HO := hide ho
      have HLE := hide (show 0 < left ∧ ((backTo rs k).map (·.2)).length = left from ⟨hpos, hkl⟩)
      rw [hX2]
      clear hm hj ho hX2 hpos hkl
      dsimp only
      gi_wp2
      refine ⟨by simp, .inl ⟨_, _, rfl, run_takeDeferred hd, ?_⟩⟩
      have hb2 := backTo_map rs k hk
      have hbl : ((backTo rs k).map (·.2)).length = k := by rw [List.length_map, backTo_length]
      refine ⟨_, results_tmp2 (t := 4) (u := 5) rfl _ _ _, ?_⟩
      refine FIN.out _ v _ (fun x hx => ?_) ?_ ((Mod.refl (fun k => k = w.heap.size + 3) X2).putObj (.inl rfl) _ |>.owns HO.out ?_) (HMW.out.putObj (.inr (by omega)) _)
      · rw [hb2] at hx
        exact List.mem_reverse.1 (List.mem_of_mem_take hx)
      · rw [hb2]
        have hle := HLE.out
        rw [hbl] at hle
        rw [if_neg (by omega), hle.2]
      · intro g hg e
        have e : g = w.heap.size + 3 := e
        subst e
        rcases HO.out.2 with ⟨e1, _⟩ | ⟨g', cp, cur, e1, _, hgr, _⟩
        · rw [e1] at hg
          cases hg
        · rw [e1] at hg
          simp [Value.ownBlock] at hg
          rw [hg, hd] at hgr
          cases hgr

theorem pdown_any (rs : Rngs) (fl most b left : Nat) (v : Value) (w : World) (h : SetAt w b 0 v rs fl most) (hlim : ∀ i, i < rs.length → loAt rs i < 18446744073709551616 ∧ hiAt rs i < 18446744073709551616) :
    Calls Tryz.prog 43 #[.pointer (some ⟨b, 0, none⟩), .int .i64 (left : Int)] w (DownPost rs left w) :=
  (callsIn_wide (n := 8)).1 (pdown_in Fence.wide 8 (fun _ => trivial) rfl (Nat.le_refl _) rs fl most b left v w h hlim)
end Go.Proofs.YtddfdpbaiedcjabGreatDoor
/- mediawirelaw.World.sets: a walk through a set; every step on sets. -/
namespace Go.Proofs.YtddfdpbaiedcjabGreatDoor
open Go.RowKit

theorem take_reverse_succ (rs : Rngs) (j p : Nat) (h : j + p + 1 = rs.length) : rs.reverse.take (j + 1) = rs.reverse.take j ++ [(loAt rs p, hiAt rs p)] := by
  rw [List.take_add_one]
  have : rs.reverse[j]? = some (loAt rs p, hiAt rs p) := by
    rw [List.getElem?_reverse (by omega), show rs.length - 1 - j = p by omega]
    exact at_get (by omega)
  rw [this]
  rfl

set_option maxRecDepth 100000 in
set_option maxHeartbeats 4000000 in
theorem sets_down (w : World) (b k : Nat) (first : Bool) (L : List Ent) (tag : Nat → Nat × Nat) (vx vm : Value) (o : Stp) (W : World) (h : SetsAt w b k first L tag vx vm W) (hL : 0 < L.length) (hk : o.kind = 21) (hw : o.Wf) (hkk : k ≤ 1048576) :
    Calls Tryz.prog 17 #[.pointer (some ⟨b, 0, none⟩), .agg (stCells o)] W (SetsPost w b (k + 1) first) := by
  obtain ⟨W2, hW2⟩ : ∃ W2, W.alloc (.cells (stCells o) 39) = W2 := ⟨_, rfl⟩
  have m2 : Mod NoB W W2 := by rw [← hW2]; exact (Mod.refl _ _).alloc _
  have oX : W2.heap[W.heap.size]? = some (.cells (stCells o) 39 (0, 0)) := by rw [← hW2]; exact heap_alloc_new W _
  have h2 := h.mod0 m2 (Nat.le_refl k)
  have hll := h2.le
  have hp := lpick_any o.a L.length
  obtain ⟨i, hi⟩ : ∃ i, pickL o.a L.length = i := ⟨_, rfl⟩
  have hil : i < L.length := by rw [← hi]; exact pickL_lt _ _ hL
  rw [hi] at hp
  have kp := fun w => hp w hw.1 hw.2.1 hL (by omega)
  have hq := lpick_any o.b 6
  obtain ⟨left, hleft⟩ : ∃ left, pickL o.b 6 = left := ⟨_, rfl⟩
  have hl6 : left < 6 := by rw [← hleft]; exact pickL_lt _ _ (by omega)
  rw [hleft] at hq
  have kq := fun w => hq w hw.2.2.1 hw.2.2.2.1 (by omega) (by omega)
  obtain ⟨e, he⟩ : ∃ e, L[i]? = some e := ⟨L[i], List.getElem?_eq_getElem hil⟩
  have hE := h2.es i e he
  have hel := hE.len
  have hlim : ∀ i, i < e.rs.length → loAt e.rs i < 18446744073709551616 ∧ hiAt e.rs i < 18446744073709551616 := fun i hi => by have := hE.wf.1 i hi; omega
  have kd := pdown_any e.rs e.fl e.most e.b left e.v W2.drew (hE.s.mod ((Mod.refl NoB _).drew) (fun x => x) (fun _ _ x => x)) hlim
  obtain ⟨gx, cx, gm, cm, rfl, rfl, x1, y1, x2, y2, hr⟩ := h2.rows hL
  obtain ⟨r1, r2⟩ := hr i e he
  have x0 : W2.cell? ⟨W.heap.size, 0, none⟩ = some (.int .i64 21) := by rw [← hk]; exact cell_of_obj oX rfl
  have xa : W2.cell? ⟨W.heap.size, 1, none⟩ = some (.int .i64 o.a) := cell_of_obj oX rfl
  have xb : W2.cell? ⟨W.heap.size, 2, none⟩ = some (.int .i64 o.b) := cell_of_obj oX rfl
  have cb3 : W2.cell? ⟨b, 3, none⟩ = some (.slice (some ⟨gx, 0, none⟩) L.length cx) := cell_of_obj h2.obj rfl
  have cb4 : W2.cell? ⟨b, 4, none⟩ = some (.slice (some ⟨gm, 0, none⟩) L.length cm) := cell_of_obj h2.obj rfl
  have H2 := hide h2
  have HRS := hide hE.r
  obtain ⟨ea, ec, hev, _, hec, hcells⟩ := id hE.r.rd
  have HC := hide hcells
  have HLIM := hide hlim
  have KD := hide kd
  unfold stCells at hW2
  unfold stCells
  rw [hk] at hW2
  rw [hk]
  have z0 := x0
  have za := xa
  have zb := cb3
  rw [← hW2] at z0 za zb
  have HW2 := hide hW2
  have d1 : (i : Int) < L.length := by omega
  have d2 : (0 : Int) < L.length := by omega
  obtain ⟨N, hN⟩ : ∃ N, e.rs.length = N := ⟨_, rfl⟩
  have HN := hide hN
  rw [hN] at hel
  have hN2 : N ≤ 1048576 := by omega
  clear h h2 m2 oX hW2 kd hr hp hi he hw hE hlim hq hleft hN hcells hel hll
  unfold maxLen at hec
  go_enter Tryz.func17, Tryz.ntmps17
  go_wp2_with fail
  rw [HW2.out]
  refine GT_start 9 (fun w' => w' = W2.drew) (by kernel_rfl) (by kernel_rfl) (rfl) ?_
  refine GT_take (i := 0) (v := ?_) rfl (by kernel_rfl) (fun _ _ _ h => h) (Or.inl ⟨by rfl, ?_⟩) ?_
  rotate_left
  · (intro wx hFx; (try dsimp only at hFx); subst hFx; go_simp) <;> (try with_reducible rfl)
  try simp only [Act.put, List.setIfInBounds_toArray, List.set_cons_zero, List.set_cons_succ, List.getElem_toArray, List.getElem_cons_zero, List.getElem_cons_succ]
  refine GT_take (i := 1) (v := ?_) rfl (by kernel_rfl) (fun _ _ _ h => h) (Or.inl ⟨by rfl, ?_⟩) ?_
  rotate_left
  · (intro wx hFx; (try dsimp only at hFx); subst hFx; go_simp) <;> (try with_reducible rfl)
  try simp only [Act.put, List.setIfInBounds_toArray, List.set_cons_zero, List.set_cons_succ, List.getElem_toArray, List.getElem_cons_zero, List.getElem_cons_succ]
  refine GT_take (i := 2) (v := ?_) rfl (by kernel_rfl) (fun _ _ _ h => h) (Or.inl ⟨by rfl, ?_⟩) ?_
  rotate_left
  · (intro wx hFx; (try dsimp only at hFx); subst hFx; go_simp) <;> (try with_reducible rfl)
  try simp only [Act.put, List.setIfInBounds_toArray, List.set_cons_zero, List.set_cons_succ, List.getElem_toArray, List.getElem_cons_zero, List.getElem_cons_succ]
  refine GT_take (i := 3) (v := ?_) rfl (by kernel_rfl) (fun _ _ _ h => h) (Or.inl ⟨by rfl, ?_⟩) ?_
  rotate_left
  · (intro wx hFx; (try dsimp only at hFx); subst hFx; go_simp) <;> (try with_reducible rfl)
  try simp only [Act.put, List.setIfInBounds_toArray, List.set_cons_zero, List.set_cons_succ, List.getElem_toArray, List.getElem_cons_zero, List.getElem_cons_succ]
  refine GT_take (i := 4) (v := ?_) rfl (by kernel_rfl) (fun _ _ _ h => h) (Or.inl ⟨by rfl, ?_⟩) ?_
  rotate_left
  · (intro wx hFx; (try dsimp only at hFx); subst hFx; go_simp) <;> (try with_reducible rfl)
  try simp only [Act.put, List.setIfInBounds_toArray, List.set_cons_zero, List.set_cons_succ, List.getElem_toArray, List.getElem_cons_zero, List.getElem_cons_succ]
  refine GT_take (i := 5) (v := ?_) rfl (by kernel_rfl) (fun _ _ _ h => h) (Or.inl ⟨by rfl, ?_⟩) ?_
  rotate_left
  · (intro wx hFx; (try dsimp only at hFx); subst hFx; go_simp) <;> (try with_reducible rfl)
  try simp only [Act.put, List.setIfInBounds_toArray, List.set_cons_zero, List.set_cons_succ, List.getElem_toArray, List.getElem_cons_zero, List.getElem_cons_succ]
  refine GT_take (i := 6) (v := ?_) rfl (by kernel_rfl) (fun _ _ _ h => h) (Or.inl ⟨by rfl, ?_⟩) ?_
  rotate_left
  · (intro wx hFx; (try dsimp only at hFx); subst hFx; go_simp) <;> (try with_reducible rfl)
  try simp only [Act.put, List.setIfInBounds_toArray, List.set_cons_zero, List.set_cons_succ, List.getElem_toArray, List.getElem_cons_zero, List.getElem_cons_succ]
  refine GT_one (i := 7) rfl (by kernel_rfl) (fun K hK => ?_)
  go_simp
  refine (kp _).mono ?_
  rintro _ _ ⟨rfl, rfl⟩
  refine hK.out _ _ rfl ?_
  clear hK K
  try simp only [Act.put, List.setIfInBounds_toArray, List.set_cons_zero, List.set_cons_succ, List.getElem_toArray, List.getElem_cons_zero, List.getElem_cons_succ]
  refine GT_take (i := 8) (v := ?_) rfl (by kernel_rfl) (fun _ _ _ h => h) (Or.inl ⟨by rfl, ?_⟩) ?_
  rotate_left
  · (intro wx hFx; (try dsimp only at hFx); subst hFx; go_simp) <;> (try with_reducible rfl)
  try simp only [Act.put, List.setIfInBounds_toArray, List.set_cons_zero, List.set_cons_succ, List.getElem_toArray, List.getElem_cons_zero, List.getElem_cons_succ]
  refine GT_done (by kernel_rfl) ?_
  clear z0 za zb
  go_wp2_with fail
  refine (kq _).mono ?_
  rintro _ _ ⟨rfl, rfl⟩
  go_wp2_with fail
  refine KD.out.mono ?_
  rintro _ W3 ⟨v, rfl, hrr, m3⟩
  have m3 := (Mod.refl NoB W2).drew.trans m3
  have HRR := hide hrr
  have M3 := hide m3
  have c0 : W3.cell? ⟨e.mb, 0, none⟩ = some (.slice ea N ec) := by
    rw [← HN.out, ← hev]
    exact cell_of_obj (m3.obj (fun x => x) HRS.out.obj) rfl
  clear hrr m3 x0 xa xb cb3 cb4 r1 r2
  go_wp2_with fail
  have hmz : W2.heap.size ≤ W3.heap.size := M3.out.size
  have d3 : (0 : Int) ≤ left := by omega
  go_loopw [16, 17] (fun wv kv wr => ∃ j q : Nat, j + q = N ∧ kv = .int .i64 ((q : Int) - 1) ∧ Hid (left = 0 ∨ j ≤ left) ∧ Hid (OwnR wr wv (e.rs.reverse.take j)) ∧ Hid (∀ g, wv.ownBlock = some g → W3.heap.size ≤ g) ∧ Mod NoB W3 wr) (fun _ kv _ => (intOf kv + 1).toNat)
  case atStart => exact ⟨0, N, Nat.zero_add N, rfl, hide (.inr (Nat.zero_le _)), hide (OwnR.nil _), hide (fun g hg => by simp [Value.ownBlock] at hg), Mod.refl _ _⟩
  case round =>
    obtain ⟨j, q, hjq, rfl, HJL, HO, HNW, m⟩ := hrel
    have M := hide m
    have hjl : (e.rs.reverse.take j).length = j := by rw [List.length_take, List.length_reverse, HN.out]; omega
    obtain ⟨wa, wc, rfl, z1, z2, _⟩ := own_form HO.out.1
    rw [hjl] at HO HNW z1
    rw [hjl]
    unfold maxLen at z2
    have HL := hide hjl
    have c0' : wr.cell? ⟨e.mb, 0, none⟩ = some (.slice ea N ec) := m.cell (a := ⟨e.mb, 0, none⟩) (fun x => x) c0
    have HKS : Hid ((if left = 0 then e.rs.reverse else e.rs.reverse.take left) = e.rs.reverse.take j → Calls Tryz.prog 44 #[v, .slice wa j wc] wr (Says wr true)) := hide (fun he => samers_any _ _ _ wr (he ▸ HRR.out.mod m (fun _ _ _ _ _ x => x)) HO.out.rr)
    clear m hjl
    cases q with
    | zero =>
      have hjN : j = N := by omega
      have hks := HKS.out (by
        have hr : e.rs.reverse.take j = e.rs.reverse := List.take_of_length_le (by rw [List.length_reverse, HN.out]; omega)
        rw [hr]
        split
        · rfl
        · rename_i hne
          have := HJL.out
          exact List.take_of_length_le (by rw [List.length_reverse, HN.out]; omega))
      have ek : ((0 : Nat) : Int) - 1 = -1 := by omega
      rw [ek]
      clear ek hjN hjq HKS
      go_wp2_with (go_at_call 44; refine hks.mono ?_; rintro _ w5 ⟨rfl, m5⟩)
      all_goals
        have M5 := hide (M3.out.trans (M.out.trans m5))
        go_ret
        exact ⟨rfl, _, _, _, _, H2.out.mod0 M5.out (Nat.le_succ k)⟩
    | succ p =>
      have ep : ((p + 1 : Nat) : Int) - 1 = (p : Int) := by omega
      rw [ep]
      clear ep
      have hpN : p < N := by omega
      have hp0 : (0 : Int) ≤ p := by omega
      by_cases hgo : left = 0 ∨ j < left
      · obtain ⟨g, off, rfl, y1, y2, b1, b2⟩ := HC.out p (by rw [HN.out]; omega)
        have y1 := M.out.cell (a := ⟨g, _, none⟩) (fun x => x) (M3.out.cell (a := ⟨g, _, none⟩) (fun x => x) y1)
        have y2 := M.out.cell (a := ⟨g, _, none⟩) (fun x => x) (M3.out.cell (a := ⟨g, _, none⟩) (fun x => x) y2)
        obtain ⟨x, hx⟩ : ∃ x, loAt e.rs p = x := ⟨_, rfl⟩
        obtain ⟨y, hy⟩ : ∃ y, hiAt e.rs p = y := ⟨_, rfl⟩
        rw [hx] at y1 b1
        rw [hy] at y2 b2
        have HX := hide hx
        have HY := hide hy
        obtain ⟨v5, W5, hr5, own5, gr5, nw5⟩ := rlit_app wr (.slice wa j wc) (e.rs.reverse.take j) x y HO.out.1 (by rw [HL.out]; omega)
        have hts := take_reverse_succ e.rs j p (by rw [HN.out]; omega)
        rw [hx, hy] at hts
        have HNEXT : Hid ((left = 0 ∨ j + 1 ≤ left) ∧ OwnR W5 v5 (e.rs.reverse.take (j + 1)) ∧ (∀ g, v5.ownBlock = some g → W3.heap.size ≤ g) ∧ Mod NoB W3 W5) := hide (by
          refine ⟨by omega, ?_, fun g hg => ?_, M.out.grown gr5 (fun g hg => .inr (HNW.out g hg))⟩
          · rw [hts]
            refine ⟨own5, fun i hi => ?_⟩
            by_cases hl : i < (e.rs.reverse.take j).length
            · obtain ⟨e1, e2⟩ := at_append_left (e.rs.reverse.take j) [(x, y)] i hl
              rw [e1, e2]
              exact HO.out.2 i hl
            · have hi2 : i = (e.rs.reverse.take j).length := by simp at hi hl ⊢; omega
              subst hi2
              obtain ⟨e1, e2⟩ := at_append_right (e.rs.reverse.take j) [(x, y)] (e.rs.reverse.take j).length (Nat.le_refl _)
              rw [e1, e2, Nat.sub_self]
              exact ⟨b1, b2⟩
          · rcases nw5 g hg with q | q
            · exact HNW.out g q
            · have := M.out.size
              omega)
        have HJQ := hide hjq
        clear hx hy own5 gr5 nw5 hts HKS hjq
        by_cases hl0 : left = 0
        · subst hl0
          go_wp2_with (at_builtin; refine wpList_append_is rfl _ _ _ _ rfl _ _ _ rfl rfl hr5 ?_; clear hr5)
          go_roundw
          case rel => exact ⟨j + 1, p, by have := HJQ.out; omega, by go_num, hide trivial, hide HNEXT.out.2.1, hide HNEXT.out.2.2.1, HNEXT.out.2.2.2⟩
          case measure => simp [intOf]; omega
        · have q1 : ((left : Int) == 0) = false := beq_eq_false_iff_ne.2 (by omega)
          have q2 : (j : Int) < left := by omega
          have q2' : decide ((j : Int) < left) = true := by simp; omega
          have HG := hide hgo
          have HL0 := hide hl0
          clear hgo hl0
          go_wp2_with (at_builtin; refine wpList_append_is rfl _ _ _ _ rfl _ _ _ rfl rfl hr5 ?_; clear hr5)
          go_roundw
          case rel => exact ⟨j + 1, p, by have := HJQ.out; omega, by go_num, hide HNEXT.out.1, hide HNEXT.out.2.1, hide HNEXT.out.2.2.1, HNEXT.out.2.2.2⟩
          case measure => simp [intOf]
      · have hjl2 := HJL.out
        have hj : j = left := by omega
        have hks := HKS.out (by rw [if_neg (by omega), hj])
        have q1 : ((left : Int) == 0) = false := beq_eq_false_iff_ne.2 (by omega)
        have q2 : ¬ (j : Int) < left := by omega
        have q2' : decide ((j : Int) < left) = false := by simp; omega
        have HG := hide hgo
        have HJ := hide hj
        clear hgo hj hjl2 HKS hjq
        go_wp2_with (go_at_call 44; refine hks.mono ?_; rintro _ w5 ⟨rfl, m5⟩)
        have M5 := hide (M3.out.trans (M.out.trans m5))
        go_ret
        exact ⟨rfl, _, _, _, _, H2.out.mod0 M5.out (Nat.le_succ k)⟩
end Go.Proofs.YtddfdpbaiedcjabGreatDoor
/- mediawirelaw.World.step: a step on sets. -/
namespace Go.Proofs.YtddfdpbaiedcjabGreatDoor
open Go.RowKit

theorem sets_any (w : World) (b k : Nat) (first : Bool) (L : List Ent) (tag : Nat → Nat × Nat) (vx vm : Value) (o : Stp) (W : World) (h : SetsAt w b k first L tag vx vm W) (hk : o.kind = 18 ∨ o.kind = 19 ∨ o.kind = 20 ∨ o.kind = 21) (hw : o.Wf) (hkk : k ≤ 1048576) :
    Calls Tryz.prog 17 #[.pointer (some ⟨b, 0, none⟩), .agg (stCells o)] W (SetsPost w b (k + 1) first) := by
  by_cases h18 : o.kind = 18
  · exact sets_set w b k first L tag vx vm o W h h18 hw hkk
  · cases L with
    | nil => exact sets_none w b k first tag vx vm o W h h18
    | cons x L =>
      rcases hk with e | e | e | e
      · exact absurd e h18
      · exact sets_add w b k first _ tag vx vm o W h (by simp) e hw hkk
      · exact sets_has w b k first _ tag vx vm o W h (by simp) e hw hkk
      · exact sets_down w b k first _ tag vx vm o W h (by simp) e hw hkk

set_option maxRecDepth 100000 in
set_option maxHeartbeats 1000000 in
theorem step_sets (w : World) (b k : Nat) (first : Bool) (L : List Ent) (tag : Nat → Nat × Nat) (vx vm : Value) (o : Stp) (W : World) (h : SetsAt w b k first L tag vx vm W) (hk : o.kind = 18 ∨ o.kind = 19 ∨ o.kind = 20 ∨ o.kind = 21) (hw : o.Wf) (hkk : k ≤ 1048576) (hf : ∃ a c, o.fv = .slice a o.fs.length c) :
    Calls Tryz.prog 9 #[.pointer (some ⟨b, 0, none⟩), .agg (stCells o)] W (SetsPost w b (k + 1) first) := by
  obtain ⟨W2, hW2⟩ : ∃ W2, W.alloc (.cells (stCells o) 39) = W2 := ⟨_, rfl⟩
  have m2 : Mod NoB W W2 := by rw [← hW2]; exact (Mod.refl _ _).alloc _
  have oX : W2.heap[W.heap.size]? = some (.cells (stCells o) 39 (0, 0)) := by rw [← hW2]; exact heap_alloc_new W _
  have ks := sets_any w b k first L tag vx vm o W2 (h.mod0 m2 (Nat.le_refl k)) hk hw hkk
  obtain ⟨fa, fc, hfv⟩ := hf
  unfold stCells at oX hW2 ks
  unfold stCells
  rw [hfv] at oX hW2 ks
  rw [hfv]
  have y1 : W2.cell? ⟨W.heap.size, 1, none⟩ = some (.int .i64 o.a) := cell_of_obj oX rfl
  have y2 : W2.cell? ⟨W.heap.size, 2, none⟩ = some (.int .i64 o.b) := cell_of_obj oX rfl
  have y3 : W2.cell? ⟨W.heap.size, 3, none⟩ = some (.int .i64 o.c) := cell_of_obj oX rfl
  have y4 : W2.cell? ⟨W.heap.size, 4, none⟩ = some (.string (strOf o.s)) := cell_of_obj oX rfl
  have y5 : W2.cell? ⟨W.heap.size, 5, none⟩ = some (.int .u64 (o.n : Int)) := cell_of_obj oX rfl
  have y6 : W2.cell? ⟨W.heap.size, 6, none⟩ = some (.slice fa o.fs.length fc) := cell_of_obj oX rfl
  have KS := hide ks
  have HW2 := hide hW2
  have y0 : W2.cell? ⟨W.heap.size, 0, none⟩ = some (.int .i64 o.kind) := cell_of_obj oX rfl
  clear h m2 oX ks hW2 hfv hw
  rcases hk with hk | hk | hk | hk
  all_goals
    rw [hk] at y0 HW2 KS
    rw [hk]
    clear hk
    go_enter Tryz.func9, Tryz.ntmps9
    go_wp2_with fail
    rw [HW2.out]
    refine KS.out.mono ?_
    rintro _ W3 ⟨rfl, L', tag', vx', vm', h3⟩
    have H3 := hide h3
    clear h3 y0 y1 y2 y3 y4 y5 y6
    go_wp2_with fail
    go_ret
    exact ⟨rfl, _, _, _, _, H3.out⟩

end Go.Proofs.YtddfdpbaiedcjabGreatDoor
/- mediawirelaw.Gathered: the law. -/
namespace Go.Proofs.YtddfdpbaiedcjabGreatDoor
open Go.RowKit

/-- The list of kinds that a law writes down. -/
theorem ks_list (w : World) (cs : Array Value) (ks : List Int) (hc : cs.toList = ks.map (Value.int .i64)) (hn : ks.length ≤ 1048576) : KsAt (w.alloc (.cells cs 3)) (.slice (some ⟨w.heap.size, 0, none⟩) ks.length ks.length) ks := by
  refine ⟨_, _, _, rfl, Nat.le_refl _, hn, fun i k hi => ?_⟩
  refine cell_of_obj (heap_alloc_new w _) ?_
  have h1 : cs.toList[i]? = some (.int .i64 k) := by rw [hc, List.getElem?_map, hi]; rfl
  rw [Nat.zero_add]
  simpa using h1

set_option maxRecDepth 100000 in
set_option maxHeartbeats 1000000 in
theorem gathered_any (l : List Stp) (v : Value) (w : World) (hscr : ScrAt w v l) (hb : bulkS l ≤ 1048576) :
    Calls Tryz.prog 3 #[v] w (Says w true) := by
  obtain ⟨a, cap, rfl, _⟩ := id hscr
  have hll : l.length ≤ 1048576 := by have := (bulkS_le l).1; omega
  have kp := fun (w0 : World) (m0 : Mod NoB w w0) kv (hk : KsAt w0 kv [18, 19, 20, 21]) => plays_any l (.slice a l.length cap) kv [18, 19, 20, 21] false w0 (fun b k W => ∃ L tag vx vm, SetsAt w0 b k false L tag vx vm W) (hscr.mod0 m0) hk hb
    (fun b w1 m hb h => ⟨_, _, _, _, SetsAt.start m hb h⟩)
    (fun b k w1 w2 ⟨L, tag, vx, vm, h⟩ m => ⟨L, tag, vx, vm, h.mod0 m (Nat.le_refl k)⟩)
    (fun b k w1 ⟨L, tag, vx, vm, h⟩ => h.mod)
    (fun b k o w1 _ _ ⟨L, tag, vx, vm, h⟩ => ⟨L, tag, vx, vm, h.mod0 (Mod.refl _ _) (Nat.le_succ k)⟩)
    (fun b k o w1 ho hp ⟨L, tag, vx, vm, h⟩ => by
      obtain ⟨_, _, _, _, _, h3⟩ := hscr
      obtain ⟨_, hf, hwf⟩ := h3 k o ho
      obtain ⟨fa, fc, hfv, _⟩ := id hf
      have hkl := (List.getElem?_eq_some_iff.1 ho).1
      have hpp : o.kind = 18 ∨ o.kind = 19 ∨ o.kind = 20 ∨ o.kind = 21 := by
        unfold playsO at hp
        simp at hp
        exact hp
      exact step_sets w0 b k false L tag vx vm o w1 h hpp hwf (by omega) ⟨fa, fc, hfv⟩)
  have KP := hide kp
  clear kp hscr hb
  go_enter Tryz.func3, Tryz.ntmps3
  go_wp2_with fail
  have m0 : Mod NoB w (w.alloc (.cells #[.int .i64 18, .int .i64 19, .int .i64 20, .int .i64 21] 3)) := (Mod.refl _ _).alloc _
  refine (KP.out _ m0 (.slice (some ⟨w.heap.size, 0, none⟩) 4 4) (ks_list w #[.int .i64 18, .int .i64 19, .int .i64 20, .int .i64 21] [18, 19, 20, 21] rfl (by decide))).mono ?_
  clear KP
  rintro e w1 ⟨rfl, m1⟩
  have M1 := hide (m0.trans m1)
  clear m0 m1
  go_wp2_with fail
  go_ret
  exact ⟨rfl, M1.out⟩
end Go.Proofs.YtddfdpbaiedcjabGreatDoor
/- What the listed package variables give a walk: errors' own variable, the table of sums; a world that holds them. -/
namespace Go.Proofs.YtddfdpbaiedcjabGreatDoor
open Go.ChangeShapes Go.WideShapes Go.ChangeAt Go.RowKit

def laid2 {H : Type} : List (String × DataW H) := [("errors.errorType", Rows.laid_errors_errorType), ("mediawire/wire.table", Rows.laid_mediawire_wire_table)]

theorem gErr : Tryz.prog.globalNamed "errors.errorType" = some 0 := by kernel_rfl
theorem gTab : Tryz.prog.globalNamed "mediawire/wire.table" = some 1 := by kernel_rfl
theorem tyTab : (Tryz.prog.globals[1]?).map (·.type) = some 255 := by kernel_rfl
theorem cells_tab : Tryz.prog.cellsOf 255 = 16 := by kernel_rfl
theorem cells_u32 : Tryz.prog.cellsOf 72 = 1 := by kernel_rfl
theorem rtype_row : (Tryz.prog.cutTypes.find? (·.1 == "internal/reflectlite.rtype")).map (·.2) = some 261 := by kernel_rfl
theorem one_error : ((List.range Tryz.prog.types.size).filter fun t => Tryz.prog.rowNamed t [101, 114, 114, 111, 114]) = [80] := by kernel_rfl
theorem err_handle : typeHandle Tryz.prog 80 = .pointer (some ⟨2, 80, none⟩) := by kernel_rfl

def ctabZ : List Int := [0, 498536548, 997073096, 651767980, 1994146192, 1802195444, 1303535960, 1342533948, 3988292384, 4027552580, 3604390888, 3412177804, 2607071920, 2262029012, 2685067896, 3183342108]

theorem tab_of {W : World} (h : laidMetH Tryz.prog laid2 W) : Tab W := by
  have h' : laidMet Tryz.prog [("mediawire/wire.table", Lib.tabData .u32 ctabZ)] W ∧ handlesMet Tryz.prog [("errors.errorType", Rows.laid_errors_errorType)] W := h
  have ht := Lib.tabIs_of_head (rest := []) gTab tyTab Tryz.underlying255 Tryz.underlying72 cells_u32 cells_tab h'.1
  intro i hi
  have := ht.cell gTab i (by simpa [ctabZ] using hi)
  rw [this]
  have e : ∀ j : Fin 16, ctabZ.getD j.val 0 = (ct j.val : Int) := by decide
  rw [e ⟨i, hi⟩]

theorem errT_of {W : World} (h : laidMetH Tryz.prog laid2 W) : ErrT W := by
  have h' : laidMet Tryz.prog [("mediawire/wire.table", Lib.tabData .u32 ctabZ)] W ∧ handlesMet Tryz.prog [("errors.errorType", Rows.laid_errors_errorType)] W := h
  obtain ⟨name, u, ty, e1, e2, e3, e4, e5⟩ := h'.2 _ (List.mem_singleton.2 rfl)
  have en : name = [101, 114, 114, 111, 114] := (Option.some.inj e1).symm
  subst en
  obtain rfl := Option.some.inj (rtype_row.symm.trans e2)
  have hm : ty ∈ (List.range Tryz.prog.types.size).filter fun t => Tryz.prog.rowNamed t [101, 114, 114, 111, 114] := List.mem_filter.2 ⟨List.mem_range.2 e3, e4⟩
  rw [one_error] at hm
  obtain rfl := List.mem_singleton.1 hm
  rw [err_handle] at e5
  unfold ErrT
  simpa using World.var?_cell gErr e5 0

/-- A world that holds them: the settled one, with the two variables' cells. -/
noncomputable def laidWorld (os : Os) : World :=
  let w0 := World.holding Tryz.prog os ⟨#[], #[], []⟩
  let w1 : World := { w0 with heap := w0.heap.modify 0 fun
      | .cells _ t frozen => .cells #[.iface 261 (.agg #[.pointer (some ⟨2, 80, none⟩)])] t frozen
      | o => o }
  { w1 with heap := w1.heap.modify 1 fun
      | .cells _ t frozen => .cells (ctabZ.map fun z => Value.int .u32 z).toArray t frozen
      | o => o }

theorem laid_met (os : Os) (args : Array Value) : laidMetH Tryz.prog laid2 ((laidWorld os).forCall (fun _ _ => 0) ⟨#[], args, []⟩).memory :=
  laidMetH_of_parts (laidMet_of_run' 8 (by kernel_rfl) (by kernel_rfl)) (by kernel_rfl)
end Go.Proofs.YtddfdpbaiedcjabGreatDoor
/- What every law's proof ends with: the arguments read behind the call as before, if no old block has turned. -/
namespace Go.Proofs.YtddfdpbaiedcjabGreatDoor
open Go.ChangeShapes Go.WideShapes Go.ChangeAt Go.RowKit

theorem all_below {H : Type} {enc : TypeId × Value → H} {P : Program} (hl : laidOutB P = true) {W W' : World} (hb : Below W.heap.size W W') :
    ∀ {ts : List TypeId} {vs : List Value} {ds : List (DataW H)} {ps : List MemPlace}, (∀ t ∈ ts, P.readableRec t = true ∧ t < P.types.size) →
      DataW.TrodAll enc P W 0 (fun _ => true) true ts vs ds ps → (∀ x ∈ ps, x.block < W.heap.size) → DataW.TrodAll enc P W' 0 (fun b => decide (b < W.heap.size)) true ts vs ds ps
  | [], [], [], _, _, h, _ => h
  | t :: _, _ :: _, _ :: _, _, hT, ⟨p, q, h1, h2, e⟩, hs =>
    ⟨p, q, Below.trod hl (hT t (List.mem_cons.2 (Or.inl rfl))).1 (hT t (List.mem_cons.2 (Or.inl rfl))).2 h1 hb (fun x hx => hs x (by rw [e]; exact List.mem_append_left _ hx)),
      all_below hl hb (fun t ht => hT t (List.mem_cons.2 (Or.inr ht))) h2 (fun x hx => hs x (by rw [e]; exact List.mem_append_right _ hx)), e⟩

/-- The end of a law's proof: it answered true, no old block has turned. -/
theorem post_true {H : Type} {enc : TypeId × Value → H} {P : Program} {f : Func} {s : ChangeSpec} {apart fresh handsOn : Bool} {W W' : World} {args : Array Value} {ds gs : List (DataW H)} {before : List MemPlace} {tb : TypeId}
    (hW : DataW.Whole enc P f.params.toList s.vars apart W args.toList ds gs before) (hl : laidOutB P = true) (hts : ∀ t ∈ f.params.toList, P.readableRec t = true ∧ t < P.types.size)
    (hv : s.vars = []) (hres : (s.fn H (ds ++ gs)).results = [.lit (.bool true)]) (hargs : (s.fn H (ds ++ gs)).args = ds) (hvs : (s.fn H (ds ++ gs)).vars = [])
    (hrt : f.resultTypes = #[tb]) (htb : P.underlying tb = some .bool) (hb : Below W.heap.size W W') :
    s.post enc P f apart fresh handsOn false W args (.bool true) W' := by
  have hlt : ∀ x ∈ before, x.block < W.heap.size := fun x hx => by simpa using hW.lt x hx
  have hW' := hW
  obtain ⟨p, q, hA, hV, rfl, hfz, hnd⟩ := hW
  rw [hv] at hV
  obtain ⟨rfl, rfl⟩ := trodVars_none hV
  refine ⟨ds, [], p ++ [], [], p, [], hW', ?_, ?_, ?_, hb.frame _, fun h => by cases h⟩
  · rw [hres, hrt]
    exact trodAll_mk1 (shut_bool htb true)
  · rw [hargs]
    exact all_below hl hb hts hA (fun x hx => hlt x (List.mem_append_left _ hx))
  · rw [hv, hvs]
    exact rfl
end Go.Proofs.YtddfdpbaiedcjabGreatDoor
