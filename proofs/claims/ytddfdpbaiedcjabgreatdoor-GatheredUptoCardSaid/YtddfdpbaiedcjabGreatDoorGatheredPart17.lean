/- The statement Gathered, second form, its card: where what the law reads is of bulk at most 1048576, and the two listed variables read as listed, it returns true, and its argument reads behind the call as before. Part 17 of 23. -/
import Derived.Test.YtddfdpbaiedcjabGreatDoorGatheredPart13
import Derived.LaidEql
import Derived.Stop.Asserts
import Derived.RowKitTokens
import Derived.Test.YtddfdpbaiedcjabGreatDoorGatheredPart16
import Derived.Test.YtddfdpbaiedcjabGreatDoorGatheredPart11
import Derived.Test.YtddfdpbaiedcjabGreatDoorGatheredPart14
/- errors.As, errors.Is at the errors of this program (printed by mkerr.py; after the worked example of errors.As). -/
namespace Go.Proofs.YtddfdpbaiedcjabGreatDoor
open Go.RowKit Go.Extern.Stop Go.Stop Go.Extern

theorem vF_valueOf (t : Addr) (w : World) : (ReflectliteValue.unpack (.iface 180 (.pointer (some t)))).run Tryz.prog w
    = .ok (.agg #[.pointer (some ⟨2, 180, none⟩), .pointer (some ⟨w.heap.size, 0, none⟩), .int .u64 150]) (w.alloc (.cells #[.pointer (some t)] 180)) := by kernel_rfl
theorem vF_type (a : Addr) (w : World) : (ReflectliteValue.methodAny (ReflectliteValue.valueError "reflectlite.Value.Type" 0) (fun t _ _ _ => ReflectliteType.toType t) #[.agg #[.pointer (some ⟨2, 180, none⟩), .pointer (some a), .int .u64 150]]).run Tryz.prog w
    = .ok (.iface 261 (.agg #[.pointer (some ⟨2, 180, none⟩)])) w := by kernel_rfl
theorem vF_kind (w : World) : ((ReflectliteType.abiMethod fun t => (fun a : Nat => Value.int IntKind.u8 (a : Int)) <$> Rtype.kind t) #[.pointer (some ⟨2, 180, none⟩)]).run Tryz.prog w = .ok (.int .u8 22) w := by kernel_rfl
theorem vF_kindE (w : World) : ((ReflectliteType.abiMethod fun t => (fun a : Nat => Value.int IntKind.u8 (a : Int)) <$> Rtype.kind t) #[.pointer (some ⟨2, 178, none⟩)]).run Tryz.prog w = .ok (.int .u8 22) w := by kernel_rfl
theorem vF_parts (a : Addr) (w : World) : (ReflectliteValue.parts (.agg #[.pointer (some ⟨2, 180, none⟩), .pointer (some a), .int .u64 150])).run Tryz.prog w = .ok (some (180, a, 150)) w := by kernel_rfl
theorem vF_elem (w : World) : (ReflectliteType.method ReflectliteType.elem #[.agg #[.pointer (some ⟨2, 180, none⟩)]]).run Tryz.prog w = .ok (.iface 261 (.agg #[.pointer (some ⟨2, 178, none⟩)])) w := by kernel_rfl
theorem vF_impl (w : World) : (ReflectliteType.relation "Implements" ReflectliteType.implements_ #[.agg #[.pointer (some ⟨2, 178, none⟩)], .iface 261 (.agg #[.pointer (some ⟨2, 80, none⟩)])]).run Tryz.prog w = .ok (.bool true) w := by kernel_rfl
theorem vF_elemOf (w : World) : (Rtype.elem? 180).run Tryz.prog w = .ok (some 178) w := by kernel_rfl
theorem vE_valueOf (t : Addr) (w : World) : (ReflectliteValue.unpack (.iface 184 (.pointer (some t)))).run Tryz.prog w
    = .ok (.agg #[.pointer (some ⟨2, 184, none⟩), .pointer (some ⟨w.heap.size, 0, none⟩), .int .u64 150]) (w.alloc (.cells #[.pointer (some t)] 184)) := by kernel_rfl
theorem vE_type (a : Addr) (w : World) : (ReflectliteValue.methodAny (ReflectliteValue.valueError "reflectlite.Value.Type" 0) (fun t _ _ _ => ReflectliteType.toType t) #[.agg #[.pointer (some ⟨2, 184, none⟩), .pointer (some a), .int .u64 150]]).run Tryz.prog w
    = .ok (.iface 261 (.agg #[.pointer (some ⟨2, 184, none⟩)])) w := by kernel_rfl
theorem vE_kind (w : World) : ((ReflectliteType.abiMethod fun t => (fun a : Nat => Value.int IntKind.u8 (a : Int)) <$> Rtype.kind t) #[.pointer (some ⟨2, 184, none⟩)]).run Tryz.prog w = .ok (.int .u8 22) w := by kernel_rfl
theorem vE_kindE (w : World) : ((ReflectliteType.abiMethod fun t => (fun a : Nat => Value.int IntKind.u8 (a : Int)) <$> Rtype.kind t) #[.pointer (some ⟨2, 41, none⟩)]).run Tryz.prog w = .ok (.int .u8 2) w := by kernel_rfl
theorem vE_parts (a : Addr) (w : World) : (ReflectliteValue.parts (.agg #[.pointer (some ⟨2, 184, none⟩), .pointer (some a), .int .u64 150])).run Tryz.prog w = .ok (some (184, a, 150)) w := by kernel_rfl
theorem vE_elem (w : World) : (ReflectliteType.method ReflectliteType.elem #[.agg #[.pointer (some ⟨2, 184, none⟩)]]).run Tryz.prog w = .ok (.iface 261 (.agg #[.pointer (some ⟨2, 41, none⟩)])) w := by kernel_rfl
theorem vE_impl (w : World) : (ReflectliteType.relation "Implements" ReflectliteType.implements_ #[.agg #[.pointer (some ⟨2, 41, none⟩)], .iface 261 (.agg #[.pointer (some ⟨2, 80, none⟩)])]).run Tryz.prog w = .ok (.bool true) w := by kernel_rfl
theorem vE_elemOf (w : World) : (Rtype.elem? 184).run Tryz.prog w = .ok (some 41) w := by kernel_rfl
theorem m_kind (h : Value) (w : World) : (Go.method 409 261 (.agg #[h]) "Kind").run Tryz.prog w = .ok (207, h) w := by kernel_rfl
theorem m_elem (h : Value) (w : World) : (Go.method 409 261 (.agg #[h]) "Elem").run Tryz.prog w = .ok (225, .agg #[h]) w := by kernel_rfl
theorem m_impl (h : Value) (w : World) : (Go.method 409 261 (.agg #[h]) "Implements").run Tryz.prog w = .ok (226, .agg #[h]) w := by kernel_rfl
theorem m_asg (h : Value) (w : World) : (Go.method 409 261 (.agg #[h]) "AssignableTo").run Tryz.prog w = .ok (223, .agg #[h]) w := by kernel_rfl
theorem m_cmp (h : Value) (w : World) : (Go.method 409 261 (.agg #[h]) "Comparable").run Tryz.prog w = .ok (224, .agg #[h]) w := by kernel_rfl
theorem typeOf_F (v : Value) (w : World) : (ReflectliteType.typeOf #[.iface 178 v]).run Tryz.prog w = .ok (.iface 261 (.agg #[.pointer (some ⟨2, 178, none⟩)])) w := by kernel_rfl
theorem typeOf_E (v : Value) (w : World) : (ReflectliteType.typeOf #[.iface 41 v]).run Tryz.prog w = .ok (.iface 261 (.agg #[.pointer (some ⟨2, 41, none⟩)])) w := by kernel_rfl
theorem asg_FF (w : World) : (ReflectliteType.relation "AssignableTo" ReflectliteType.assignableTo #[.agg #[.pointer (some ⟨2, 178, none⟩)], .iface 261 (.agg #[.pointer (some ⟨2, 178, none⟩)])]).run Tryz.prog w = .ok (.bool true) w := by kernel_rfl
theorem asg_EF (w : World) : (ReflectliteType.relation "AssignableTo" ReflectliteType.assignableTo #[.agg #[.pointer (some ⟨2, 41, none⟩)], .iface 261 (.agg #[.pointer (some ⟨2, 178, none⟩)])]).run Tryz.prog w = .ok (.bool false) w := by kernel_rfl
theorem asg_EE (w : World) : (ReflectliteType.relation "AssignableTo" ReflectliteType.assignableTo #[.agg #[.pointer (some ⟨2, 41, none⟩)], .iface 261 (.agg #[.pointer (some ⟨2, 41, none⟩)])]).run Tryz.prog w = .ok (.bool true) w := by kernel_rfl
theorem valueOf_F (e : Addr) (w : World) : (ReflectliteValue.unpack (.iface 178 (.pointer (some e)))).run Tryz.prog w
    = .ok (.agg #[.pointer (some ⟨2, 178, none⟩), .pointer (some ⟨w.heap.size, 0, none⟩), .int .u64 150]) (w.alloc (.cells #[.pointer (some e)] 178)) := by kernel_rfl
theorem valueOf_E (n : Int) (w : World) : (ReflectliteValue.unpack (.iface 41 (.int .i64 n))).run Tryz.prog w
    = .ok (.agg #[.pointer (some ⟨2, 41, none⟩), .pointer (some ⟨w.heap.size, 0, none⟩), .int .u64 130]) (w.alloc (.cells #[.int .i64 n] 41)) := by kernel_rfl
theorem cmp_E (w : World) : (ReflectliteType.method (fun t => do Rtype.noPackHeld "Comparable" t; pure (.bool (← typeInfo t).comparable)) #[.agg #[.pointer (some ⟨2, 41, none⟩)]]).run Tryz.prog w = .ok (.bool true) w := by kernel_rfl

theorem rlm (z : Sem Value) (f : TypeId → Addr → Nat → Nat → Sem Value) (v : Value) :
    ReflectliteValue.method z f #[v] = (do match ← ReflectliteValue.parts v with | none => z | some (t, a, fl) => f t a fl (fl % 32)) := rfl
theorem rls (v x : Value) : ReflectliteValue.set #[v, x] = (do
    let (some (dst, a, fl), some (src, b, _)) := (← ReflectliteValue.parts v, ← ReflectliteValue.parts x)
      | unsupported (.noEntry "extern/(internal/reflectlite.Value).Set.zeroValue")
    if fl / ReflectliteValue.flagAddr % 2 == 0 then unsupported (.noEntry "extern/(internal/reflectlite.Value).Set.unaddressable")
    let val ← loadVar src b
    if ← Rtype.directlyAssignable dst src then storeVar dst a val
    else if ← Rtype.implements dst src then
      if (← Rtype.kind src) == 20 then
        match val with
        | .nilIface => unsupported (.noEntry "extern/reflectlite: a nil value of one interface type handed on as a value of another")
        | _ => storeVar dst a val
      else storeVar dst a (.iface src val)
    else panicString ("reflectlite.Set: value of type " ++ (← Rtype.spelt src) ++ " is not assignable to type " ++ (← Rtype.spelt dst))
    pure (.tuple #[])) := rfl
theorem vF_isNil (a p : Addr) (W : World) (ha : W.cell? a = some (.pointer (some p))) :
    (ReflectliteValue.method (ReflectliteValue.valueError "reflectlite.Value.IsNil" 0) ReflectliteValue.isNil #[.agg #[.pointer (some ⟨2, 180, none⟩), .pointer (some a), .int .u64 150]]).run Tryz.prog W = .ok (.bool false) W := by
  rw [rlm]
  simp only [Sem.run_bind, vF_parts, Result.andThen]
  simp [ReflectliteValue.isNil, loadVar, isAgg, underlying, Tryz.underlying180, ha, Result.andThen]
theorem vF_mk (p : Addr) (w : World) : (ReflectliteValue.mk 178 p ReflectliteValue.flagAddr).run Tryz.prog w = .ok (.agg #[.pointer (some ⟨2, 178, none⟩), .pointer (some p), .int .u64 406]) w := by kernel_rfl
theorem vF_elemV (a p : Addr) (W : World) (ha : W.cell? a = some (.pointer (some p))) :
    (ReflectliteValue.method (ReflectliteValue.valueError "reflectlite.Value.Elem" 0) ReflectliteValue.elem #[.agg #[.pointer (some ⟨2, 180, none⟩), .pointer (some a), .int .u64 150]]).run Tryz.prog W
      = .ok (.agg #[.pointer (some ⟨2, 178, none⟩), .pointer (some p), .int .u64 406]) W := by
  rw [rlm]
  simp only [Sem.run_bind, vF_parts, Result.andThen]
  simp [ReflectliteValue.elem, loadVar, isAgg, underlying, Tryz.underlying180, ha, Result.andThen, vF_elemOf, vF_mk]
theorem vF_partsA (a : Addr) (w : World) : (ReflectliteValue.parts (.agg #[.pointer (some ⟨2, 178, none⟩), .pointer (some a), .int .u64 406])).run Tryz.prog w = .ok (some (178, a, 406)) w := by kernel_rfl
theorem vF_partsV (a : Addr) (w : World) : (ReflectliteValue.parts (.agg #[.pointer (some ⟨2, 178, none⟩), .pointer (some a), .int .u64 150])).run Tryz.prog w = .ok (some (178, a, 150)) w := by kernel_rfl
theorem vF_direct (w : World) : (Rtype.directlyAssignable 178 178).run Tryz.prog w = .ok true w := by kernel_rfl
theorem vF_set (ta b : Addr) (e : Addr) (old : Value) (W : World) (hb : W.cell? b = some (.pointer (some e))) (ht : W.cell? ta = some old) (hf : W.frozen? ta = false) :
    (ReflectliteValue.set #[.agg #[.pointer (some ⟨2, 178, none⟩), .pointer (some ta), .int .u64 406], .agg #[.pointer (some ⟨2, 178, none⟩), .pointer (some b), .int .u64 150]]).run Tryz.prog W
      = .ok (.tuple #[]) (W.setCell ta (.pointer (some e))) := by
  rw [rls]
  simp only [Sem.run_bind, vF_partsA, vF_partsV, Result.andThen]
  simp [ReflectliteValue.flagAddr, loadVar, isAgg, underlying, Tryz.underlying178, hb, Result.andThen, vF_direct, storeVar, Value.cells, storeCells, Addr.add]
  rw [run_store Tryz.prog W ta _ _ (by rfl)]
  simp [ht, hf]
theorem vE_isNil (a p : Addr) (W : World) (ha : W.cell? a = some (.pointer (some p))) :
    (ReflectliteValue.method (ReflectliteValue.valueError "reflectlite.Value.IsNil" 0) ReflectliteValue.isNil #[.agg #[.pointer (some ⟨2, 184, none⟩), .pointer (some a), .int .u64 150]]).run Tryz.prog W = .ok (.bool false) W := by
  rw [rlm]
  simp only [Sem.run_bind, vE_parts, Result.andThen]
  simp [ReflectliteValue.isNil, loadVar, isAgg, underlying, Tryz.underlying184, ha, Result.andThen]
theorem vE_mk (p : Addr) (w : World) : (ReflectliteValue.mk 41 p ReflectliteValue.flagAddr).run Tryz.prog w = .ok (.agg #[.pointer (some ⟨2, 41, none⟩), .pointer (some p), .int .u64 386]) w := by kernel_rfl
theorem vE_elemV (a p : Addr) (W : World) (ha : W.cell? a = some (.pointer (some p))) :
    (ReflectliteValue.method (ReflectliteValue.valueError "reflectlite.Value.Elem" 0) ReflectliteValue.elem #[.agg #[.pointer (some ⟨2, 184, none⟩), .pointer (some a), .int .u64 150]]).run Tryz.prog W
      = .ok (.agg #[.pointer (some ⟨2, 41, none⟩), .pointer (some p), .int .u64 386]) W := by
  rw [rlm]
  simp only [Sem.run_bind, vE_parts, Result.andThen]
  simp [ReflectliteValue.elem, loadVar, isAgg, underlying, Tryz.underlying184, ha, Result.andThen, vE_elemOf, vE_mk]
theorem vE_partsA (a : Addr) (w : World) : (ReflectliteValue.parts (.agg #[.pointer (some ⟨2, 41, none⟩), .pointer (some a), .int .u64 386])).run Tryz.prog w = .ok (some (41, a, 386)) w := by kernel_rfl
theorem vE_partsV (a : Addr) (w : World) : (ReflectliteValue.parts (.agg #[.pointer (some ⟨2, 41, none⟩), .pointer (some a), .int .u64 130])).run Tryz.prog w = .ok (some (41, a, 130)) w := by kernel_rfl
theorem vE_direct (w : World) : (Rtype.directlyAssignable 41 41).run Tryz.prog w = .ok true w := by kernel_rfl
theorem vE_set (ta b : Addr) (e : Int) (old : Value) (W : World) (hb : W.cell? b = some (.int .i64 e)) (ht : W.cell? ta = some old) (hf : W.frozen? ta = false) :
    (ReflectliteValue.set #[.agg #[.pointer (some ⟨2, 41, none⟩), .pointer (some ta), .int .u64 386], .agg #[.pointer (some ⟨2, 41, none⟩), .pointer (some b), .int .u64 130]]).run Tryz.prog W
      = .ok (.tuple #[]) (W.setCell ta (.int .i64 e)) := by
  rw [rls]
  simp only [Sem.run_bind, vE_partsA, vE_partsV, Result.andThen]
  simp [ReflectliteValue.flagAddr, loadVar, isAgg, underlying, Tryz.underlying41, hb, Result.andThen, vE_direct, storeVar, Value.cells, storeCells, Addr.add]
  rw [run_store Tryz.prog W ta _ _ (by rfl)]
  simp [ht, hf]
end Go.Proofs.YtddfdpbaiedcjabGreatDoor
/- errors.As, errors.Is: the walks (printed by mkerr2.py). -/
namespace Go.Proofs.YtddfdpbaiedcjabGreatDoor
open Go.RowKit Go.Extern.Stop Go.Stop Go.Extern

/-- errors.As's own variable holds the type error. -/
def ErrT (w : World) : Prop := w.cell? ⟨0, 0, none⟩ = some (.iface 261 (.agg #[.pointer (some ⟨2, 80, none⟩)]))

set_option maxRecDepth 100000 in
set_option maxHeartbeats 4000000 in
theorem as_FF (e : Addr) (t : Addr) (old : Value) (w : World) (hg : ErrT w) (ht0 : w.cell? t = some old) (hf0 : w.frozen? t = false) :
    Calls Tryz.prog 103 #[.iface 178 (.pointer (some e)), .iface 180 (.pointer (some t))] w fun ev w' => ev = .returned (.bool true) ∧ w' = ((((w.alloc (.cells #[.pointer (some t)] 180)).alloc (.cells #[.pointer (some ⟨2, 180, none⟩), .pointer (some ⟨w.heap.size, 0, none⟩), .int .u64 150] 214)).alloc (.cells #[.pointer (some ⟨2, 180, none⟩), .pointer (some ⟨w.heap.size, 0, none⟩), .int .u64 150] 214)).alloc (.cells #[.pointer (some e)] 178)).setCell t (.pointer (some e)) := by
  unfold ErrT at hg
  have h6 := @run_callFunc_extern Tryz.prog 138 _ (fun args => ReflectliteValue.unpack (args.getD 0 (.tuple #[]))) Tryz.func138 (by kernel_rfl) (by kernel_rfl) (by kernel_rfl) (by kernel_rfl)
  have h7 := @run_callFunc_extern Tryz.prog 139 _ (ReflectliteValue.methodAny (ReflectliteValue.valueError "reflectlite.Value.Type" 0) (fun t _ _ _ => ReflectliteType.toType t)) Tryz.func139 (by kernel_rfl) (by kernel_rfl) (by kernel_rfl) (by kernel_rfl)
  have h8 := @run_callFunc_extern Tryz.prog 140 _ (ReflectliteValue.method (ReflectliteValue.valueError "reflectlite.Value.IsNil" 0) ReflectliteValue.isNil) Tryz.func140 (by kernel_rfl) (by kernel_rfl) (by kernel_rfl) (by kernel_rfl)
  have h27 := @run_callFunc_extern Tryz.prog 207 _ (ReflectliteType.abiMethod fun t => do pure (.int .u8 (← Rtype.kind t))) Tryz.func207 (by kernel_rfl) (by kernel_rfl) (by kernel_rfl) (by kernel_rfl)
  have h37 := @run_callFunc_extern Tryz.prog 225 _ (ReflectliteType.method ReflectliteType.elem) Tryz.func225 (by kernel_rfl) (by kernel_rfl) (by kernel_rfl) (by kernel_rfl)
  have h38 := @run_callFunc_extern Tryz.prog 226 _ (ReflectliteType.relation "Implements" ReflectliteType.implements_) Tryz.func226 (by kernel_rfl) (by kernel_rfl) (by kernel_rfl) (by kernel_rfl)
  have h10 := @run_callFunc_extern Tryz.prog 142 _ ReflectliteType.typeOf Tryz.func142 (by kernel_rfl) (by kernel_rfl) (by kernel_rfl) (by kernel_rfl)
  have h35 := @run_callFunc_extern Tryz.prog 223 _ (ReflectliteType.relation "AssignableTo" ReflectliteType.assignableTo) Tryz.func223 (by kernel_rfl) (by kernel_rfl) (by kernel_rfl) (by kernel_rfl)
  have h11 := @run_callFunc_extern Tryz.prog 166 _ (ReflectliteValue.method (ReflectliteValue.valueError "reflectlite.Value.Elem" 0) ReflectliteValue.elem) Tryz.func166 (by kernel_rfl) (by kernel_rfl) (by kernel_rfl) (by kernel_rfl)
  have h12 := @run_callFunc_extern Tryz.prog 167 _ ReflectliteValue.set Tryz.func167 (by kernel_rfl) (by kernel_rfl) (by kernel_rfl) (by kernel_rfl)
  have tO := typeOf_F
  have mA := m_asg
  have a25 := asg_FF
  have v25 := valueOf_F
  have f6 := vF_valueOf
  have f7 := vF_type
  have mK := m_kind
  have mE := m_elem
  have mI := m_impl
  have k27 := vF_kind
  have k25 := vF_kindE
  have e27 := vF_elem
  have i25 := vF_impl
  have n8 := vF_isNil ⟨w.heap.size, 0, none⟩ t ((w.alloc (.cells #[.pointer (some t)] 180)).alloc (.cells #[.pointer (some ⟨2, 180, none⟩), .pointer (some ⟨w.heap.size, 0, none⟩), .int .u64 150] 214)) (by simp)
  have hlt : 0 < w.heap.size := by
    rcases Nat.eq_zero_or_pos w.heap.size with h0 | h
    · simp [World.cell?, h0] at hg
    · exact h
  have hg2 : ((w.alloc (.cells #[.pointer (some t)] 180)).alloc (.cells #[.pointer (some ⟨2, 180, none⟩), .pointer (some ⟨w.heap.size, 0, none⟩), .int .u64 150] 214)).cell? ⟨0, 0, none⟩ = some (.iface 261 (.agg #[.pointer (some ⟨2, 80, none⟩)])) := by
    rw [World.cell?_alloc_lt _ _ ⟨0, 0, none⟩ (by simp), World.cell?_alloc_lt _ _ ⟨0, 0, none⟩ hlt]; exact hg
  have htl : t.block < w.heap.size := by
    rcases Nat.lt_or_ge t.block w.heap.size with h | h
    · exact h
    · simp [World.cell?, Array.getElem?_eq_none h] at ht0
  have el := vF_elemV ⟨w.heap.size, 0, none⟩ t (((w.alloc (.cells #[.pointer (some t)] 180)).alloc (.cells #[.pointer (some ⟨2, 180, none⟩), .pointer (some ⟨w.heap.size, 0, none⟩), .int .u64 150] 214)).alloc (.cells #[.pointer (some ⟨2, 180, none⟩), .pointer (some ⟨w.heap.size, 0, none⟩), .int .u64 150] 214)) (by rw [World.cell?_alloc_lt _ _ ⟨w.heap.size, 0, none⟩ (by simp; omega)]; simp)
  have st := vF_set t ⟨w.heap.size + 1 + 1 + 1, 0, none⟩ e old ((((w.alloc (.cells #[.pointer (some t)] 180)).alloc (.cells #[.pointer (some ⟨2, 180, none⟩), .pointer (some ⟨w.heap.size, 0, none⟩), .int .u64 150] 214)).alloc (.cells #[.pointer (some ⟨2, 180, none⟩), .pointer (some ⟨w.heap.size, 0, none⟩), .int .u64 150] 214)).alloc (.cells #[.pointer (some e)] 178))
    (by rw [World.cell?_alloc_at _ _ _ _ (by simp)]; rfl)
    (by rw [World.cell?_alloc_lt _ _ t (by simp; omega), World.cell?_alloc_lt _ _ t (by simp; omega), World.cell?_alloc_lt _ _ t (by simp; omega), World.cell?_alloc_lt _ _ t htl]; exact ht0)
    (by rw [World.frozen?_alloc_old _ _ t (by simp; omega), World.frozen?_alloc_old _ _ t (by simp; omega), World.frozen?_alloc_old _ _ t (by simp; omega), World.frozen?_alloc_old _ _ t (Nat.ne_of_lt htl)]; exact hf0)
  go_enter Tryz.func103, Tryz.ntmps103
  go_wp2
  refine wp_loop_rounds 1 ?_
  rw [rounds_succ]
  go_wp2
  go_ret
  exact ⟨rfl, rfl⟩

set_option maxRecDepth 100000 in
set_option maxHeartbeats 4000000 in
theorem as_EE (e : Int) (t : Addr) (old : Value) (w : World) (hg : ErrT w) (ht0 : w.cell? t = some old) (hf0 : w.frozen? t = false) :
    Calls Tryz.prog 103 #[.iface 41 (.int .i64 e), .iface 184 (.pointer (some t))] w fun ev w' => ev = .returned (.bool true) ∧ w' = ((((w.alloc (.cells #[.pointer (some t)] 184)).alloc (.cells #[.pointer (some ⟨2, 184, none⟩), .pointer (some ⟨w.heap.size, 0, none⟩), .int .u64 150] 214)).alloc (.cells #[.pointer (some ⟨2, 184, none⟩), .pointer (some ⟨w.heap.size, 0, none⟩), .int .u64 150] 214)).alloc (.cells #[.int .i64 e] 41)).setCell t (.int .i64 e) := by
  unfold ErrT at hg
  have h6 := @run_callFunc_extern Tryz.prog 138 _ (fun args => ReflectliteValue.unpack (args.getD 0 (.tuple #[]))) Tryz.func138 (by kernel_rfl) (by kernel_rfl) (by kernel_rfl) (by kernel_rfl)
  have h7 := @run_callFunc_extern Tryz.prog 139 _ (ReflectliteValue.methodAny (ReflectliteValue.valueError "reflectlite.Value.Type" 0) (fun t _ _ _ => ReflectliteType.toType t)) Tryz.func139 (by kernel_rfl) (by kernel_rfl) (by kernel_rfl) (by kernel_rfl)
  have h8 := @run_callFunc_extern Tryz.prog 140 _ (ReflectliteValue.method (ReflectliteValue.valueError "reflectlite.Value.IsNil" 0) ReflectliteValue.isNil) Tryz.func140 (by kernel_rfl) (by kernel_rfl) (by kernel_rfl) (by kernel_rfl)
  have h27 := @run_callFunc_extern Tryz.prog 207 _ (ReflectliteType.abiMethod fun t => do pure (.int .u8 (← Rtype.kind t))) Tryz.func207 (by kernel_rfl) (by kernel_rfl) (by kernel_rfl) (by kernel_rfl)
  have h37 := @run_callFunc_extern Tryz.prog 225 _ (ReflectliteType.method ReflectliteType.elem) Tryz.func225 (by kernel_rfl) (by kernel_rfl) (by kernel_rfl) (by kernel_rfl)
  have h38 := @run_callFunc_extern Tryz.prog 226 _ (ReflectliteType.relation "Implements" ReflectliteType.implements_) Tryz.func226 (by kernel_rfl) (by kernel_rfl) (by kernel_rfl) (by kernel_rfl)
  have h10 := @run_callFunc_extern Tryz.prog 142 _ ReflectliteType.typeOf Tryz.func142 (by kernel_rfl) (by kernel_rfl) (by kernel_rfl) (by kernel_rfl)
  have h35 := @run_callFunc_extern Tryz.prog 223 _ (ReflectliteType.relation "AssignableTo" ReflectliteType.assignableTo) Tryz.func223 (by kernel_rfl) (by kernel_rfl) (by kernel_rfl) (by kernel_rfl)
  have h11 := @run_callFunc_extern Tryz.prog 166 _ (ReflectliteValue.method (ReflectliteValue.valueError "reflectlite.Value.Elem" 0) ReflectliteValue.elem) Tryz.func166 (by kernel_rfl) (by kernel_rfl) (by kernel_rfl) (by kernel_rfl)
  have h12 := @run_callFunc_extern Tryz.prog 167 _ ReflectliteValue.set Tryz.func167 (by kernel_rfl) (by kernel_rfl) (by kernel_rfl) (by kernel_rfl)
  have tO := typeOf_E
  have mA := m_asg
  have a25 := asg_EE
  have v25 := valueOf_E
  have f6 := vE_valueOf
  have f7 := vE_type
  have mK := m_kind
  have mE := m_elem
  have mI := m_impl
  have k27 := vE_kind
  have k25 := vE_kindE
  have e27 := vE_elem
  have i25 := vE_impl
  have n8 := vE_isNil ⟨w.heap.size, 0, none⟩ t ((w.alloc (.cells #[.pointer (some t)] 184)).alloc (.cells #[.pointer (some ⟨2, 184, none⟩), .pointer (some ⟨w.heap.size, 0, none⟩), .int .u64 150] 214)) (by simp)
  have hlt : 0 < w.heap.size := by
    rcases Nat.eq_zero_or_pos w.heap.size with h0 | h
    · simp [World.cell?, h0] at hg
    · exact h
  have hg2 : ((w.alloc (.cells #[.pointer (some t)] 184)).alloc (.cells #[.pointer (some ⟨2, 184, none⟩), .pointer (some ⟨w.heap.size, 0, none⟩), .int .u64 150] 214)).cell? ⟨0, 0, none⟩ = some (.iface 261 (.agg #[.pointer (some ⟨2, 80, none⟩)])) := by
    rw [World.cell?_alloc_lt _ _ ⟨0, 0, none⟩ (by simp), World.cell?_alloc_lt _ _ ⟨0, 0, none⟩ hlt]; exact hg
  have htl : t.block < w.heap.size := by
    rcases Nat.lt_or_ge t.block w.heap.size with h | h
    · exact h
    · simp [World.cell?, Array.getElem?_eq_none h] at ht0
  have el := vE_elemV ⟨w.heap.size, 0, none⟩ t (((w.alloc (.cells #[.pointer (some t)] 184)).alloc (.cells #[.pointer (some ⟨2, 184, none⟩), .pointer (some ⟨w.heap.size, 0, none⟩), .int .u64 150] 214)).alloc (.cells #[.pointer (some ⟨2, 184, none⟩), .pointer (some ⟨w.heap.size, 0, none⟩), .int .u64 150] 214)) (by rw [World.cell?_alloc_lt _ _ ⟨w.heap.size, 0, none⟩ (by simp; omega)]; simp)
  have st := vE_set t ⟨w.heap.size + 1 + 1 + 1, 0, none⟩ e old ((((w.alloc (.cells #[.pointer (some t)] 184)).alloc (.cells #[.pointer (some ⟨2, 184, none⟩), .pointer (some ⟨w.heap.size, 0, none⟩), .int .u64 150] 214)).alloc (.cells #[.pointer (some ⟨2, 184, none⟩), .pointer (some ⟨w.heap.size, 0, none⟩), .int .u64 150] 214)).alloc (.cells #[.int .i64 e] 41))
    (by rw [World.cell?_alloc_at _ _ _ _ (by simp)]; rfl)
    (by rw [World.cell?_alloc_lt _ _ t (by simp; omega), World.cell?_alloc_lt _ _ t (by simp; omega), World.cell?_alloc_lt _ _ t (by simp; omega), World.cell?_alloc_lt _ _ t htl]; exact ht0)
    (by rw [World.frozen?_alloc_old _ _ t (by simp; omega), World.frozen?_alloc_old _ _ t (by simp; omega), World.frozen?_alloc_old _ _ t (by simp; omega), World.frozen?_alloc_old _ _ t (Nat.ne_of_lt htl)]; exact hf0)
  go_enter Tryz.func103, Tryz.ntmps103
  go_wp2
  refine wp_loop_rounds 1 ?_
  rw [rounds_succ]
  go_wp2
  go_ret
  exact ⟨rfl, rfl⟩

end Go.Proofs.YtddfdpbaiedcjabGreatDoor
/- errors.As where the error is not the target's; errors.Is (printed by mkerr3.py). -/
namespace Go.Proofs.YtddfdpbaiedcjabGreatDoor
open Go.RowKit Go.Extern.Stop Go.Stop Go.Extern

theorem ta_E_As (n : Int) (w : World) : (Instr.typeAssert (.iface 41 (.int .i64 n)) 80 265 true).run Tryz.prog w = .ok (.tuple #[.nilIface, .bool false]) w := run_typeAssert_lacksB Tryz.underlying265 (by kernel_rfl) (by kernel_rfl) _ _ w
theorem ta_E_Un (n : Int) (w : World) : (Instr.typeAssert (.iface 41 (.int .i64 n)) 80 268 true).run Tryz.prog w = .ok (.tuple #[.nilIface, .bool false]) w := run_typeAssert_lacksB Tryz.underlying268 (by kernel_rfl) (by kernel_rfl) _ _ w
theorem ta_E_Us (n : Int) (w : World) : (Instr.typeAssert (.iface 41 (.int .i64 n)) 80 269 true).run Tryz.prog w = .ok (.tuple #[.nilIface, .bool false]) w := run_typeAssert_lacksB Tryz.underlying269 (by kernel_rfl) (by kernel_rfl) _ _ w
theorem ta_E_Is (n : Int) (w : World) : (Instr.typeAssert (.iface 41 (.int .i64 n)) 80 272 true).run Tryz.prog w = .ok (.tuple #[.nilIface, .bool false]) w := run_typeAssert_lacksB Tryz.underlying272 (by kernel_rfl) (by kernel_rfl) _ _ w
theorem ta_F_Is (p : Addr) (w : World) : (Instr.typeAssert (.iface 178 (.pointer (some p))) 80 272 true).run Tryz.prog w = .ok (.tuple #[.nilIface, .bool false]) w := run_typeAssert_lacksB Tryz.underlying272 (by kernel_rfl) (by kernel_rfl) _ _ w
theorem ta_F_Un (p : Addr) (w : World) : (Instr.typeAssert (.iface 178 (.pointer (some p))) 80 268 true).run Tryz.prog w = .ok (.tuple #[.iface 178 (.pointer (some p)), .bool true]) w := run_typeAssert_hasB Tryz.underlying268 (by kernel_rfl) _ _ w
theorem m_unwrap (p : Addr) (w : World) : (Go.method 409 178 (.pointer (some p)) "Unwrap").run Tryz.prog w = .ok (213, .pointer (some p)) w := by kernel_rfl
theorem eq_FE (p : Addr) (n : Int) (w : World) : (binOp .eql 80 (.iface 178 (.pointer (some p))) (.iface 41 (.int .i64 n))).run Tryz.prog w = .ok (.bool false) w := run_eql_iface_types _ _ _ _ Tryz.underlying80 (by decide) w
theorem eq_EE (n : Int) (w : World) : (binOp .eql 80 (.iface 41 (.int .i64 n)) (.iface 41 (.int .i64 n))).run Tryz.prog w = .ok (.bool true) w := by
  have hinfo : (Tryz.prog.info? 41).map (·.comparable) = some true := by kernel_rfl
  obtain ⟨i, hi, hc⟩ := Option.map_eq_some_iff.1 hinfo
  have h : ∀ d, (Op.equalIn (d + 2) 80 (.iface 41 (.int .i64 n)) (.iface 41 (.int .i64 n))).run Tryz.prog w = .ok true w := fun d => by simp [Op.equalIn, run_underlying Tryz.underlying80, run_underlying Tryz.underlying41, typeInfo, hi, hc]
  simp only [binOp]
  simp [Op.equal, Op.maxDepth, h 9998]
theorem cmp_E2 (w : World) : (ReflectliteType.method (fun t => do Rtype.noPackHeld "Comparable" t; (fun a => Value.bool a.comparable) <$> typeInfo t) #[.agg #[.pointer (some ⟨2, 41, none⟩)]]).run Tryz.prog w = .ok (.bool true) w := by kernel_rfl

set_option maxRecDepth 100000 in
set_option maxHeartbeats 4000000 in
theorem as_EF (n : Int) (t : Addr) (old : Value) (w : World) (hg : ErrT w) (ht0 : w.cell? t = some old) :
    Calls Tryz.prog 103 #[.iface 41 (.int .i64 n), .iface 180 (.pointer (some t))] w fun ev w' => ev = .returned (.bool false) ∧ w' = (((w.alloc (.cells #[.pointer (some t)] 180)).alloc (.cells #[.pointer (some ⟨2, 180, none⟩), .pointer (some ⟨w.heap.size, 0, none⟩), .int .u64 150] 214)).alloc (.cells #[.pointer (some ⟨2, 180, none⟩), .pointer (some ⟨w.heap.size, 0, none⟩), .int .u64 150] 214)) := by
  unfold ErrT at hg
  have h6 := @run_callFunc_extern Tryz.prog 138 _ (fun args => ReflectliteValue.unpack (args.getD 0 (.tuple #[]))) Tryz.func138 (by kernel_rfl) (by kernel_rfl) (by kernel_rfl) (by kernel_rfl)
  have h7 := @run_callFunc_extern Tryz.prog 139 _ (ReflectliteValue.methodAny (ReflectliteValue.valueError "reflectlite.Value.Type" 0) (fun t _ _ _ => ReflectliteType.toType t)) Tryz.func139 (by kernel_rfl) (by kernel_rfl) (by kernel_rfl) (by kernel_rfl)
  have h8 := @run_callFunc_extern Tryz.prog 140 _ (ReflectliteValue.method (ReflectliteValue.valueError "reflectlite.Value.IsNil" 0) ReflectliteValue.isNil) Tryz.func140 (by kernel_rfl) (by kernel_rfl) (by kernel_rfl) (by kernel_rfl)
  have h27 := @run_callFunc_extern Tryz.prog 207 _ (ReflectliteType.abiMethod fun t => do pure (.int .u8 (← Rtype.kind t))) Tryz.func207 (by kernel_rfl) (by kernel_rfl) (by kernel_rfl) (by kernel_rfl)
  have h37 := @run_callFunc_extern Tryz.prog 225 _ (ReflectliteType.method ReflectliteType.elem) Tryz.func225 (by kernel_rfl) (by kernel_rfl) (by kernel_rfl) (by kernel_rfl)
  have h38 := @run_callFunc_extern Tryz.prog 226 _ (ReflectliteType.relation "Implements" ReflectliteType.implements_) Tryz.func226 (by kernel_rfl) (by kernel_rfl) (by kernel_rfl) (by kernel_rfl)
  have h10 := @run_callFunc_extern Tryz.prog 142 _ ReflectliteType.typeOf Tryz.func142 (by kernel_rfl) (by kernel_rfl) (by kernel_rfl) (by kernel_rfl)
  have h35 := @run_callFunc_extern Tryz.prog 223 _ (ReflectliteType.relation "AssignableTo" ReflectliteType.assignableTo) Tryz.func223 (by kernel_rfl) (by kernel_rfl) (by kernel_rfl) (by kernel_rfl)
  have h11 := @run_callFunc_extern Tryz.prog 166 _ (ReflectliteValue.method (ReflectliteValue.valueError "reflectlite.Value.Elem" 0) ReflectliteValue.elem) Tryz.func166 (by kernel_rfl) (by kernel_rfl) (by kernel_rfl) (by kernel_rfl)
  have h12 := @run_callFunc_extern Tryz.prog 167 _ ReflectliteValue.set Tryz.func167 (by kernel_rfl) (by kernel_rfl) (by kernel_rfl) (by kernel_rfl)
  have tO := typeOf_E
  have mA := m_asg
  have a25 := asg_EF
  have f6 := vF_valueOf
  have f7 := vF_type
  have mK := m_kind
  have mE := m_elem
  have mI := m_impl
  have k27 := vF_kind
  have k25 := vF_kindE
  have e27 := vF_elem
  have i25 := vF_impl
  have x1 := ta_E_As
  have x2 := ta_E_Un
  have x3 := ta_E_Us
  have n8 := vF_isNil ⟨w.heap.size, 0, none⟩ t ((w.alloc (.cells #[.pointer (some t)] 180)).alloc (.cells #[.pointer (some ⟨2, 180, none⟩), .pointer (some ⟨w.heap.size, 0, none⟩), .int .u64 150] 214)) (by simp)
  have hlt : 0 < w.heap.size := by
    rcases Nat.eq_zero_or_pos w.heap.size with h0 | h
    · simp [World.cell?, h0] at hg
    · exact h
  have hg2 : ((w.alloc (.cells #[.pointer (some t)] 180)).alloc (.cells #[.pointer (some ⟨2, 180, none⟩), .pointer (some ⟨w.heap.size, 0, none⟩), .int .u64 150] 214)).cell? ⟨0, 0, none⟩ = some (.iface 261 (.agg #[.pointer (some ⟨2, 80, none⟩)])) := by
    rw [World.cell?_alloc_lt _ _ ⟨0, 0, none⟩ (by simp), World.cell?_alloc_lt _ _ ⟨0, 0, none⟩ hlt]; exact hg
  go_enter Tryz.func103, Tryz.ntmps103
  go_wp2
  refine wp_loop_rounds 1 ?_
  rw [rounds_succ]
  go_wp2
  go_ret
  exact ⟨rfl, rfl⟩

set_option maxRecDepth 100000 in
set_option maxHeartbeats 4000000 in
theorem is_EE (n : Int) (w : World) : Calls Tryz.prog 104 #[.iface 41 (.int .i64 n), .iface 41 (.int .i64 n)] w fun ev w' => ev = .returned (.bool true) ∧ w = w' := by
  have h10 := @run_callFunc_extern Tryz.prog 142 _ ReflectliteType.typeOf Tryz.func142 (by kernel_rfl) (by kernel_rfl) (by kernel_rfl) (by kernel_rfl)
  have h36 := @run_callFunc_extern Tryz.prog 224 _ (ReflectliteType.method (fun t => do Rtype.noPackHeld "Comparable" t; pure (.bool (← typeInfo t).comparable))) Tryz.func224 (by kernel_rfl) (by kernel_rfl) (by kernel_rfl) (by kernel_rfl)
  have tO := typeOf_E
  have mC := m_cmp
  have cE := cmp_E2
  have q1 := eq_EE
  go_enter Tryz.func104, Tryz.ntmps104
  go_wp2
  refine wp_loop_rounds 1 ?_
  rw [rounds_succ]
  go_wp2
  go_ret
  exact ⟨rfl, rfl⟩

set_option maxRecDepth 100000 in
set_option maxHeartbeats 4000000 in
theorem is_FE (p : Nat) (n : Int) (w : World) (hc : w.cell? ⟨p, 0, none⟩ = some (.int .i64 n)) : Calls Tryz.prog 104 #[.iface 178 (.pointer (some ⟨p, 0, none⟩)), .iface 41 (.int .i64 n)] w fun ev w' => ev = .returned (.bool true) ∧ w = w' := by
  have h10 := @run_callFunc_extern Tryz.prog 142 _ ReflectliteType.typeOf Tryz.func142 (by kernel_rfl) (by kernel_rfl) (by kernel_rfl) (by kernel_rfl)
  have h36 := @run_callFunc_extern Tryz.prog 224 _ (ReflectliteType.method (fun t => do Rtype.noPackHeld "Comparable" t; pure (.bool (← typeInfo t).comparable))) Tryz.func224 (by kernel_rfl) (by kernel_rfl) (by kernel_rfl) (by kernel_rfl)
  have tO := typeOf_E
  have mC := m_cmp
  have cE := cmp_E2
  have q1 := eq_EE
  have q2 := eq_FE
  have x1 := ta_F_Is
  have x2 := ta_F_Un
  have mU := m_unwrap
  go_enter Tryz.func104, Tryz.ntmps104
  go_wp2
  refine wp_loop_rounds 2 ?_
  rw [rounds_succ]
  go_wp2
  rw [rounds_succ]
  go_wp2
  go_ret
  exact ⟨rfl, rfl⟩
end Go.Proofs.YtddfdpbaiedcjabGreatDoor
/- plain.Told, plain.number: an error as a number and a place. -/
namespace Go.Proofs.YtddfdpbaiedcjabGreatDoor
open Go.RowKit

def OnlyB (b : Nat) : Nat → Prop := fun k => k = b

theorem as_ff (e : Addr) (tb : Nat) (old : Value) (w : World) (hg : ErrT w) (ht : w.cell? ⟨tb, 0, none⟩ = some old) (hf : w.frozen? ⟨tb, 0, none⟩ = false) :
    Calls Tryz.prog 103 #[.iface 178 (.pointer (some e)), .iface 180 (.pointer (some ⟨tb, 0, none⟩))] w fun ev w' => ev = .returned (.bool true) ∧ Mod (OnlyB tb) w w' ∧ w'.cell? ⟨tb, 0, none⟩ = some (.pointer (some e)) := by
  refine (as_FF e ⟨tb, 0, none⟩ old w hg ht hf).mono ?_
  rintro ev w' ⟨rfl, rfl⟩
  have hl := lt_of_cell ht
  refine ⟨rfl, (((((Mod.refl (OnlyB tb) w).alloc _).alloc _).alloc _).alloc _).setCell (p := ⟨tb, 0, none⟩) (.inl rfl) _, World.cell?_setCell_same _ _ _ ((((((Mod.refl NoB w).alloc _).alloc _).alloc _).alloc _).cell (a := ⟨tb, 0, none⟩) (fun x => x) ht)⟩

theorem as_ee (n : Int) (tb : Nat) (old : Value) (w : World) (hg : ErrT w) (ht : w.cell? ⟨tb, 0, none⟩ = some old) (hf : w.frozen? ⟨tb, 0, none⟩ = false) :
    Calls Tryz.prog 103 #[.iface 41 (.int .i64 n), .iface 184 (.pointer (some ⟨tb, 0, none⟩))] w fun ev w' => ev = .returned (.bool true) ∧ Mod (OnlyB tb) w w' ∧ w'.cell? ⟨tb, 0, none⟩ = some (.int .i64 n) := by
  refine (as_EE n ⟨tb, 0, none⟩ old w hg ht hf).mono ?_
  rintro ev w' ⟨rfl, rfl⟩
  refine ⟨rfl, (((((Mod.refl (OnlyB tb) w).alloc _).alloc _).alloc _).alloc _).setCell (p := ⟨tb, 0, none⟩) (.inl rfl) _, World.cell?_setCell_same _ _ _ ((((((Mod.refl NoB w).alloc _).alloc _).alloc _).alloc _).cell (a := ⟨tb, 0, none⟩) (fun x => x) ht)⟩

theorem as_ef (n : Int) (tb : Nat) (old : Value) (w : World) (hg : ErrT w) (ht : w.cell? ⟨tb, 0, none⟩ = some old) :
    Calls Tryz.prog 103 #[.iface 41 (.int .i64 n), .iface 180 (.pointer (some ⟨tb, 0, none⟩))] w fun ev w' => ev = .returned (.bool false) ∧ Mod NoB w w' := by
  refine (as_EF n ⟨tb, 0, none⟩ old w hg ht).mono ?_
  rintro ev w' ⟨rfl, rfl⟩
  exact ⟨rfl, (((Mod.refl NoB w).alloc _).alloc _).alloc _⟩

theorem ErrT.mod {S : Nat → Prop} {w w' : World} (h : ErrT w) (m : Mod S w w') (hs : ¬ S 0) : ErrT w' := m.cell (a := ⟨0, 0, none⟩) hs h

def IsTold (w : World) (n at_ : Int) (e : Ending) (w' : World) : Prop := e = .returned (.tuple #[.int .i64 n, .int .i64 at_]) ∧ Mod NoB w w'

theorem told_nil (w : World) : Calls Tryz.prog 70 #[.nilIface] w (IsTold w 0 (-1)) := by
  go_enter Tryz.func70, Tryz.ntmps70
  go_wp2_with fail
  go_ret2
  exact ⟨rfl, ((Mod.refl _ _).alloc _).alloc _⟩

theorem eq_nil_E (n : Int) (w : World) : (binOp .eql 80 (.iface 41 (.int .i64 n)) .nilIface).run Tryz.prog w = .ok (.bool false) w := by kernel_rfl
theorem eq_nil_F (p : Addr) (w : World) : (binOp .eql 80 (.iface 178 (.pointer (some p))) .nilIface).run Tryz.prog w = .ok (.bool false) w := by kernel_rfl

/-- Told's two variables. -/
structure ToldAt (w W : World) : Prop where
  o0 : W.heap[w.heap.size]? = some (.cells #[.pointer none] 178 (0, 0))
  o1 : W.heap[w.heap.size + 1]? = some (.cells #[.int .i64 0] 41 (0, 0))
  m : Mod NoB w W

theorem told_start (w : World) : ToldAt w ((w.alloc (.cells #[.pointer none] 178)).alloc (.cells #[.int .i64 0] 41)) := by
  have e1 : (w.alloc (.cells #[.pointer none] 178)).heap.size = w.heap.size + 1 := by simp
  refine ⟨((Mod.refl NoB _).alloc _).obj (fun x => x) (heap_alloc_new w _), ?_, ((Mod.refl NoB w).alloc _).alloc _⟩
  rw [← e1]
  exact heap_alloc_new _ _

set_option maxRecDepth 100000 in
theorem told_E (n : Int) (w : World) (hg : ErrT w) : Calls Tryz.prog 70 #[.iface 41 (.int .i64 n)] w (IsTold w n (-1)) := by
  have q0 := eq_nil_E n
  have T0 := told_start w
  obtain ⟨W, hW⟩ : ∃ W, (w.alloc (.cells #[.pointer none] 178)).alloc (.cells #[.int .i64 0] 41) = W := ⟨_, rfl⟩
  rw [hW] at T0
  have hs : W.heap.size = w.heap.size + 1 + 1 := by rw [← hW]; simp
  have h0 : 0 < w.heap.size := lt_of_cell hg
  have gW : ErrT W := hg.mod T0.m (fun x => x)
  have k1 := as_ef n w.heap.size _ W gW (cell_of_obj T0.o0 rfl)
  have HT := hide T0
  have HG := hide gW
  have HW := hide hW
  have HS := hide hs
  clear T0 gW hW hs hg
  go_enter Tryz.func70, Tryz.ntmps70
  go_wp2_with fail
  rw [HW.out]
  refine k1.mono ?_
  rintro e w1 ⟨rfl, m1⟩
  have k2 := as_ee n (w.heap.size + 1) _ w1 (HG.out.mod m1 (fun x => x)) (cell_of_obj (m1.obj (fun x => x) HT.out.o1) rfl) (frozen_of_obj (m1.obj (fun x => x) HT.out.o1))
  clear k1
  have M1 := hide m1
  clear m1
  go_wp2_with fail
  refine k2.mono ?_
  rintro e w2 ⟨rfl, m2, c2⟩
  have k3 := is_EE n w2
  have M2 := hide m2
  clear m2 k2
  go_wp2_with fail
  refine k3.mono ?_
  rintro e w3 ⟨rfl, rfl⟩
  go_wp2_with fail
  go_ret2
  exact ⟨rfl, (HT.out.m.trans M1.out).then M2.out (fun k hk => by unfold OnlyB at hk; omega)⟩

set_option maxRecDepth 100000 in
theorem told_F (p : Nat) (n at_ : Int) (w : World) (hg : ErrT w) (hp : w.cell? ⟨p, 0, none⟩ = some (.int .i64 n)) (hp1 : w.cell? ⟨p, 1, none⟩ = some (.int .i64 at_)) : Calls Tryz.prog 70 #[.iface 178 (.pointer (some ⟨p, 0, none⟩))] w (IsTold w n at_) := by
  have q0 := eq_nil_F ⟨p, 0, none⟩
  have T0 := told_start w
  obtain ⟨W, hW⟩ : ∃ W, (w.alloc (.cells #[.pointer none] 178)).alloc (.cells #[.int .i64 0] 41) = W := ⟨_, rfl⟩
  rw [hW] at T0
  have hpl := lt_of_cell hp
  have h0 : 0 < w.heap.size := lt_of_cell hg
  have gW : ErrT W := hg.mod T0.m (fun x => x)
  have k1 := as_ff ⟨p, 0, none⟩ w.heap.size _ W gW (cell_of_obj T0.o0 rfl) (frozen_of_obj T0.o0)
  have p0 : W.cell? ⟨p, 0, none⟩ = some (.int .i64 n) := T0.m.cell (a := ⟨p, 0, none⟩) (fun x => x) hp
  have p1 : W.cell? ⟨p, 1, none⟩ = some (.int .i64 at_) := T0.m.cell (a := ⟨p, 1, none⟩) (fun x => x) hp1
  have HT := hide T0
  have HW := hide hW
  clear T0 gW hW hg
  go_enter Tryz.func70, Tryz.ntmps70
  go_wp2_with fail
  rw [HW.out]
  refine k1.mono ?_
  rintro e w1 ⟨rfl, m1, c1⟩
  have hne : ¬ OnlyB w.heap.size p := by unfold OnlyB; omega
  have r0 := m1.cell (a := ⟨p, 0, none⟩) hne p0
  have r1 := m1.cell (a := ⟨p, 1, none⟩) hne p1
  have k3 := is_FE p n w1 r0
  have M1 := hide m1
  clear m1 k1 p0 p1 hp hp1
  go_wp2_with fail
  refine k3.mono ?_
  rintro e w3 ⟨rfl, rfl⟩
  clear k3
  go_wp2_with fail
  go_quiet (fail)
  go_wp2_with fail
  go_ret2
  exact ⟨rfl, (HT.out.m.then M1.out (fun k hk => by unfold OnlyB at hk; omega)).drewN _⟩

def IsNumber (w : World) (n : Int) (e : Ending) (w' : World) : Prop := e = .returned (.int .i64 n) ∧ Mod NoB w w'

theorem number_of (v : Value) (n at_ : Int) (w : World) (h : Calls Tryz.prog 70 #[v] w (IsTold w n at_)) : Calls Tryz.prog 31 #[v] w (IsNumber w n) := by
  go_enter Tryz.func31, Tryz.ntmps31
  go_wp2_with fail
  refine h.mono ?_
  rintro e w1 ⟨rfl, m1⟩
  go_wp2_with fail
  go_ret
  exact ⟨rfl, m1⟩
end Go.Proofs.YtddfdpbaiedcjabGreatDoor
/- plain.Encode, plain.Decode. -/
namespace Go.Proofs.YtddfdpbaiedcjabGreatDoor
open Go.RowKit

/-- The same of the frames alone. -/
def okF (n : Nat) (l : List Frm) : Bool := decide (0 < l.length) && decide (n ≤ 4611686018427387903) && l.all soundF
def bodyF (n : Nat) (l : List Frm) : List UInt8 := vint n ++ l.flatMap bytesF

theorem okP_okF (n : Nat) (fs : List (Frm × Value)) : okP n fs = okF n (fs.map (·.1)) := by
  unfold okP okF sndTo
  rw [List.take_length, List.length_map, List.all_map]
  rfl

theorem body_bodyF (n : Nat) (fs : List (Frm × Value)) : body n fs = bodyF n (fs.map (·.1)) := by
  unfold body bodyF bodyTo
  rw [List.take_length, List.flatMap_map]

/-- What plain.Encode answers. -/
def PEnc (w : World) (n : Nat) (l : List Frm) (e : Ending) (w' : World) : Prop :=
  Mod NoB w w' ∧ ((okF n l = true ∧ ∃ v', e = .returned (.tuple #[v', .int .i64 0]) ∧ OB w' v' (sealed (bodyF n l)) ∧ ∀ g, v'.ownBlock = some g → w.heap.size ≤ g) ∨
    (okF n l = false ∧ e = .returned (.tuple #[.slice none 0 0, .int .i64 8])))

theorem mencode_any (n : Nat) (fs : List (Frm × Value)) (v : Value) (w : World) (h : ∀ w', Mod NoB w w' → Calls Tryz.prog 105 #[.agg #[.int .u64 (n : Int), v]] w' (Encoded w' n fs)) :
    Calls Tryz.prog 72 #[.agg #[.int .u64 (n : Int), v]] w (Encoded w n fs) := by
  have m0 : Mod NoB w (w.alloc (.cells #[.int .u64 (n : Int), v] 37)) := (Mod.refl _ _).alloc _
  have h1 := h _ m0
  have M0 := hide m0
  clear h m0
  go_enter Tryz.func72, Tryz.ntmps72
  go_wp2_with fail
  refine h1.mono ?_
  rintro e w1 (⟨ho, v1, rfl, ha⟩ | ⟨ho, rfl, hm⟩)
  · have HA := hide ha
    have HO := hide ho
    clear ha ho
    go_wp2_with fail
    go_ret2
    exact .inl ⟨HO.out, _, rfl, App.after M0.out HA.out⟩
  · have HO := hide ho
    clear ho
    go_wp2_with fail
    go_ret2
    exact .inr ⟨HO.out, rfl, M0.out.trans hm⟩

set_option maxRecDepth 100000 in
set_option maxHeartbeats 1000000 in
theorem pencode_any (n : Nat) (fs : List (Frm × Value)) (v : Value) (w : World) (h : FrsAt w v fs) (ht : Tab w) (hg : ErrT w) (hl : fs.length ≤ 1099511627775) (hb : (bodyF n (fs.map (·.1))).length ≤ 35184372088832)
    (hd : ∀ fr ∈ fs, fr.1.data.length ≤ 35184372088832 ∧ fr.1.rngs.length ≤ 1099511627776) :
    Calls Tryz.prog 34 #[.agg #[.int .u64 (n : Int), v]] w (PEnc w n (fs.map (·.1))) := by
  have m0 : Mod NoB w (w.alloc (.cells #[.int .u64 (n : Int), v] 37)) := (Mod.refl _ _).alloc _
  have k1 := copied_any n fs v _ (h.mod0 m0) hl (fun fr hfr => (hd fr hfr).2)
  have HT := hide ht
  have HG := hide hg
  have HB := hide hb
  have HD := hide hd
  have M0 := hide m0
  clear h ht hg hb hd m0
  go_enter Tryz.func34, Tryz.ntmps34
  go_wp2_with fail
  refine k1.mono ?_
  rintro e w1 ⟨v1, rvs, rfl, own1, hmap, hn1, hn2, m1⟩
  have mA : Mod NoB w (w1.alloc (.cells #[.int .u64 (n : Int), v1] 37)) := (M0.out.trans m1).alloc _
  have ownA : OwnF (w1.alloc (.cells #[.int .u64 (n : Int), v1] 37)) v1 rvs := OwnF.mod own1 ((Mod.refl NoB w1).alloc _) (fun i hi => hi.elim)
  have k2 : Calls Tryz.prog 72 #[.agg #[.int .u64 (n : Int), v1]] (w1.alloc (.cells #[.int .u64 (n : Int), v1] 37)) (Encoded _ n rvs) :=
    mencode_any n rvs v1 _ (fun w' m' => wencode_any n rvs v1 w' (ownA.frs.mod0 m') ((HT.out.mod mA (fun x => x)).mod m' (fun x => x)) (by rw [body_bodyF, hmap]; exact HB.out) (fun fr hfr => by
      have hin : fr.1 ∈ fs.map (·.1) := by rw [← hmap]; exact List.mem_map_of_mem hfr
      obtain ⟨fr', h1, h2⟩ := List.mem_map.1 hin
      rw [← h2]
      exact HD.out fr' h1))
  have HMAP := hide hmap
  have HN1 := hide hn1
  have HN2 := hide hn2
  have HA := hide mA
  have HOWN := hide ownA
  have HOP := hide (heap_alloc_new w1 (.cells #[.int .u64 (n : Int), v1] 37))
  obtain ⟨va, vc, rfl, _⟩ := own_form own1.1
  have hw1 := m1.size
  have hw1 : w.heap.size ≤ w1.heap.size := (M0.out.trans m1).size
  clear k1 hmap hn1 hn2 mA ownA own1 m1
  go_wp2_with fail
  refine k2.mono ?_
  clear k2
  rintro e w2 hE
  have m2 : Mod NoB (w1.alloc (.cells #[.int .u64 (n : Int), .slice va rvs.length vc] 37)) w2 := by
    rcases hE with ⟨_, v2, _, ha⟩ | ⟨_, _, hm⟩
    · exact ha.mod0
    · exact hm
  have o2 : w2.heap[w1.heap.size]? = some (.cells #[.int .u64 (n : Int), .slice va rvs.length vc] 37 (0, 0)) := m2.obj (fun x => x) HOP.out
  have p0 : w2.cell? ⟨w1.heap.size, 0, none⟩ = some (.int .u64 (n : Int)) := cell_of_obj o2 rfl
  have p1 : w2.cell? ⟨w1.heap.size, 1, none⟩ = some (.slice va rvs.length vc) := cell_of_obj o2 rfl
  have own2 : OwnF w2 (.slice va rvs.length vc) rvs := OwnF.mod HOWN.out m2 (fun i hi => hi.elim)
  have k3 := turn_any n rvs (.slice va rvs.length vc) w2 own2
  have hSL : ∀ i, Lists (.slice va rvs.length vc) rvs i → w.heap.size ≤ i := by
    rintro i (hi | ⟨x, hx, hi⟩)
    · have := HN1.out i hi
      simp at this
      omega
    · have := HN2.out x hx i hi
      simp at this
      omega
  have HSL := hide hSL
  have HOWN2 := hide own2
  have M2 := hide m2
  clear o2 own2 m2 hSL
  rcases hE with ⟨ho, v2, rfl, ha⟩ | ⟨ho, rfl, hm⟩
  · have hob : OB w2 v2 (sealed (bodyF n (fs.map (·.1)))) := by
      have := ha.own
      rwa [List.nil_append, body_bodyF, HMAP.out] at this
    have HAP := hide ha.at_
    have HOB := hide hob
    obtain ⟨bv, hbv⟩ : ∃ bv, bv = v2 := ⟨_, rfl⟩
    obtain ⟨ba, bc, rfl, _⟩ := own_form hob
    clear hob
    have HO := hide ho
    clear ha ho
    go_wp2_with fail
    refine k3.mono ?_
    rintro e w3 ⟨rfl, m3⟩
    have M3 := hide m3
    have k4 := number_of .nilIface 0 (-1) w3 (told_nil w3)
    clear m3 k3
    go_wp2_with fail
    refine k4.mono ?_
    rintro e w4 ⟨rfl, m4⟩
    have M4 := hide m4
    clear m4 k4
    go_wp2_with fail
    go_ret2
    refine ⟨?_, .inl ⟨?_, bv, by rw [hbv]; rfl, ?_, ?_⟩⟩
    · exact ((HA.out.trans M2.out).then M3.out (fun i hi => .inr (HSL.out i hi))).trans M4.out
    · rw [← HMAP.out, ← okP_okF]
      exact HO.out
    · rw [hbv]
      refine OB.mod0 (M3.out.owns HOB.out (fun g hg hx => ?_)) M4.out
      rcases hx with hx | ⟨x, hx, hy⟩
      · exact two_types HOWN2.out.1 HOB.out (by decide) hx hg
      · exact two_types (HOWN2.out.2 x hx).1 HOB.out (by decide) hy hg
    · intro g hg
      rw [hbv] at hg
      rcases HAP.out g hg with x | x
      · cases x
      · simp at x
        omega
  · have HO := hide ho
    clear ho hm
    go_wp2_with fail
    refine k3.mono ?_
    rintro e w3 ⟨rfl, m3⟩
    have gE : ErrT w3 := ((HG.out.mod HA.out (fun x => x)).mod M2.out (fun x => x)).mod m3 (fun hx => by
      have := HSL.out 0 hx
      have := lt_of_cell HG.out
      omega)
    have M3 := hide m3
    have k4 := number_of _ 8 (-1) w3 (told_E 8 w3 gE)
    clear m3 k3 gE
    go_wp2_with fail
    refine k4.mono ?_
    rintro e w4 ⟨rfl, m4⟩
    have M4 := hide m4
    clear m4 k4
    go_wp2_with fail
    go_ret2
    refine ⟨?_, .inr ⟨?_, rfl⟩⟩
    · exact ((HA.out.trans M2.out).then M3.out (fun i hi => .inr (HSL.out i hi))).trans M4.out
    · rw [← HMAP.out, ← okP_okF]
      exact HO.out
end Go.Proofs.YtddfdpbaiedcjabGreatDoor
/- mediawireref.written: a frame of any kind; mediawireref.Encode. -/
namespace Go.Proofs.YtddfdpbaiedcjabGreatDoor
open Go.RowKit

theorem rwrite_any (v : Value) (l : List UInt8) (f : Frm) (a : Option Addr) (cap : Nat) (w : World) (hs : soundF f = true) (h : OB w v l) (hoff : 0 < f.rngs.length → OffS (fun k => v.ownBlock = some k) (.slice a f.rngs.length cap)) (hr : RR w (.slice a f.rngs.length cap) f.rngs) (hn : f.rngs.length ≤ 1099511627776) (hd : f.data.length ≤ 35184372088832) (hl : l.length ≤ 8796093022208) :
    Calls Tryz.prog 51 #[v, .agg (frCells f (.slice a f.rngs.length cap))] w (Apps w v l (bytesF f)) := by
  have hb : f.Bounds := bounds_of hs hd
  have hk : 1 ≤ f.kind ∧ f.kind ≤ 8 := by
    rcases Decidable.em (1 ≤ f.kind ∧ f.kind ≤ 8) with q | q
    · exact q
    · exfalso
      have : soundC f = false := by
        unfold soundC
        rw [if_neg (by omega), if_neg (by omega), if_neg (by omega)]
        simp
        omega
      rw [soundF, this, Bool.and_false] at hs
      cases hs
  have hk' : f.kind = 1 ∨ f.kind = 2 ∨ f.kind = 3 ∨ f.kind = 4 ∨ f.kind = 5 ∨ f.kind = 6 ∨ f.kind = 7 ∨ f.kind = 8 := by omega
  rcases hk' with e | e | e | e | e | e | e | e
  · exact rwrite_1 v l f _ w h (by omega) hb e
  · have h2 : soundRs f.rngs = true := by
      unfold soundF soundC at hs
      rw [if_pos e] at hs
      simp only [Bool.and_eq_true] at hs
      exact hs.2
    have hpos : 0 < f.rngs.length := by
      unfold soundRs at h2
      simp only [Bool.and_eq_true, decide_eq_true_eq] at h2
      omega
    exact rwrite_2 v l f a cap w e hr h2 hn (hoff hpos) h hl
  · exact rwrite_3 v l f _ w h (by omega) hb e
  · cases hfin : f.fin
    · exact rwrite_4 v l f _ w h (by omega) hb e hfin
    · exact rwrite_4f v l f _ w h (by omega) hb e hfin
  · exact rwrite_5 v l f _ w h (by omega) hb e
  · exact rwrite_6 v l f _ w h (by omega) hb e
  · exact rwrite_7 v l f _ w h (by omega) hb e
  · exact rwrite_8 v l f _ w h (by omega) hb e
end Go.Proofs.YtddfdpbaiedcjabGreatDoor
