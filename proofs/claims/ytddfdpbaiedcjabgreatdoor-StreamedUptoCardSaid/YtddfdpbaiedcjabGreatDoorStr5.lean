/- Streamed. Part 5 of 17. -/
import Derived.Stop.Asserts
import Derived.RowKitTokens
import Derived.Test.YtddfdpbaiedcjabGreatDoorStr4
set_option maxRecDepth 100000
set_option maxHeartbeats 16000000
set_option linter.all false
namespace Go.Proofs.YtddfdpbaiedcjabGreatDoor
section
open Go.RowKit Go.Proofs.Tryz Go.Extern.Stop Go.Stop Go.Extern
def UM(t:Addr)(w:rT):(ReflectliteValue.unpack (.iface 180 (.pointer (some t)))).run prog w
 =.ok (.agg #[.pointer (some ⟨2,180,none⟩),.pointer w,.int .u64 150]) (w.alloc<|.cells #[.pointer (some t)] 180):=kw
def Rv (a : Addr) (w : rT) : (ReflectliteValue.methodAny (ReflectliteValue.valueError "reflectlite.Value.Type" 0) (λt _ _ _ => ReflectliteType.toType t) #[.agg #[.pointer (some ⟨2, 180, none⟩), .pointer (some a), .int .u64 150]]).run prog w
 =.ok (.iface 261 (.agg #[.pointer (some ⟨2,180,none⟩)])) w:=kw
def Ru(w:rT):((ReflectliteType.abiMethod λt=>Functor.map (λa:Nat=>Value.int IntKind.u8 (a:Int)) (Rtype.kind t)) #[.pointer (some ⟨2,180,none⟩)]).run prog w=.ok (.int .u8 22) w:=kw
def S7(w:rT):((ReflectliteType.abiMethod λt=>Functor.map (λa:Nat=>Value.int IntKind.u8 (a:Int)) (Rtype.kind t)) #[.pointer (some ⟨2,178,none⟩)]).run prog w=.ok (.int .u8 22) w:=kw
def Sz(a:Addr)(w:rT):(ReflectliteValue.parts (.agg #[.pointer (some ⟨2,180,none⟩),.pointer (some a),.int .u64 150])).run prog w=.ok (some (180,a,150)) w:=kw
def Rt(w:rT):(ReflectliteType.method ReflectliteType.elem #[.agg #[.pointer (some ⟨2,180,none⟩)]]).run prog w=.ok (.iface 261 (.agg #[.pointer (some ⟨2,178,none⟩)])) w:=kw
def Rs (w : rT) : (ReflectliteType.relation "Implements" ReflectliteType.implements_ #[.agg #[.pointer (some ⟨2, 178, none⟩)], .iface 261 (.agg #[.pointer (some ⟨2, 80, none⟩)])]).run prog w=.ok (.bool true) w := kw
def eS(w:rT):(Rtype.elem? 180).run prog w=.ok (some 178) w:=kw
def gd(t:Addr)(w:rT):(ReflectliteValue.unpack (.iface 184 (.pointer (some t)))).run prog w
 =.ok (.agg #[.pointer (some ⟨2,184,none⟩),.pointer w,.int .u64 150]) (w.alloc<|.cells #[.pointer (some t)] 184):=kw
def Vo (a : Addr) (w : rT) : (ReflectliteValue.methodAny (ReflectliteValue.valueError "reflectlite.Value.Type" 0) (λt _ _ _ => ReflectliteType.toType t) #[.agg #[.pointer (some ⟨2, 184, none⟩), .pointer (some a), .int .u64 150]]).run prog w
 =.ok (.iface 261 (.agg #[.pointer (some ⟨2,184,none⟩)])) w:=kw
def Vn(w:rT):((ReflectliteType.abiMethod λt=>Functor.map (λa:Nat=>Value.int IntKind.u8 (a:Int)) (Rtype.kind t)) #[.pointer (some ⟨2,184,none⟩)]).run prog w=.ok (.int .u8 22) w:=kw
def YE(w:rT):((ReflectliteType.abiMethod λt=>Functor.map (λa:Nat=>Value.int IntKind.u8 (a:Int)) (Rtype.kind t)) #[.pointer (some ⟨2,41,none⟩)]).run prog w=.ok (.int .u8 2) w:=kw
def Sy(a:Addr)(w:rT):(ReflectliteValue.parts (.agg #[.pointer (some ⟨2,184,none⟩),.pointer (some a),.int .u64 150])).run prog w=.ok (some (184,a,150)) w:=kw
def Vm(w:rT):(ReflectliteType.method ReflectliteType.elem #[.agg #[.pointer (some ⟨2,184,none⟩)]]).run prog w=.ok (.iface 261 (.agg #[.pointer (some ⟨2,41,none⟩)])) w:=kw
def Vl (w : rT) : (ReflectliteType.relation "Implements" ReflectliteType.implements_ #[.agg #[.pointer (some ⟨2, 41, none⟩)], .iface 261 (.agg #[.pointer (some ⟨2, 80, none⟩)])]).run prog w=.ok (.bool true) w := kw
def eR(w:rT):(Rtype.elem? 184).run prog w=.ok (some 41) w:=kw
def Pa (h : rU) (w : rT) : (Go.method 409 261 (.agg #[h]) "Kind").run prog w=.ok (207, h) w := kw
def PZ (h : rU) (w : rT) : (Go.method 409 261 (.agg #[h]) "Elem").run prog w=.ok (225, .agg #[h]) w := kw
def PY (h : rU) (w : rT) : (Go.method 409 261 (.agg #[h]) "Implements").run prog w=.ok (226, .agg #[h]) w := kw
def O5 (h : rU) (w : rT) : (Go.method 409 261 (.agg #[h]) "AssignableTo").run prog w=.ok (223, .agg #[h]) w := kw
def JO (h : rU) (w : rT) : (Go.method 409 261 (.agg #[h]) "Comparable").run prog w=.ok (224, .agg #[h]) w := kw
def YD(v:rU)(w:rT):(ReflectliteType.typeOf #[.iface 178 v]).run prog w=.ok (.iface 261 (.agg #[.pointer (some ⟨2,178,none⟩)])) w:=kw
def OI(v:rU)(w:rT):(ReflectliteType.typeOf #[.iface 41 v]).run prog w=.ok (.iface 261 (.agg #[.pointer (some ⟨2,41,none⟩)])) w:=kw
def LD (w : rT) : (ReflectliteType.relation "AssignableTo" ReflectliteType.assignableTo #[.agg #[.pointer (some ⟨2, 178, none⟩)], .iface 261 (.agg #[.pointer (some ⟨2, 178, none⟩)])]).run prog w=.ok (.bool true) w := kw
def LE (w : rT) : (ReflectliteType.relation "AssignableTo" ReflectliteType.assignableTo #[.agg #[.pointer (some ⟨2, 41, none⟩)], .iface 261 (.agg #[.pointer (some ⟨2, 178, none⟩)])]).run prog w=.ok (.bool false) w := kw
def LF (w : rT) : (ReflectliteType.relation "AssignableTo" ReflectliteType.assignableTo #[.agg #[.pointer (some ⟨2, 41, none⟩)], .iface 261 (.agg #[.pointer (some ⟨2, 41, none⟩)])]).run prog w=.ok (.bool true) w := kw
def eQ(e:Addr)(w:rT):(ReflectliteValue.unpack (.iface 178 (.pointer (some e)))).run prog w
 =.ok (.agg #[.pointer (some ⟨2,178,none⟩),.pointer w,.int .u64 150]) (w.alloc<|.cells #[.pointer (some e)] 178):=kw
def eP(n:Int)(w:rT):(ReflectliteValue.unpack (.iface 41 (.int .i64 n))).run prog w
 =.ok (.agg #[.pointer (some ⟨2,41,none⟩),.pointer w,.int .u64 130]) (w.alloc<|.cells #[[n]] 41):=kw
def Ou(z:Sem rU)(f:TypeId->Addr->Nat->Nat->Sem rU)(v:rU):ReflectliteValue.method z f #[v]=(do match <-ReflectliteValue.parts v with|none=>z|some (t,a,fl)=>f t a fl (fl % 32)):=rfl
theorem U5(v x:rU):ReflectliteValue.set #[v,x]=(do
  let (some (dst,a,fl),some (src,b,_)):=(<-ReflectliteValue.parts v,<-ReflectliteValue.parts x)
   | unsupported (.noEntry "extern/(internal/reflectlite.Value).Set.zeroValue")
  if fl / ReflectliteValue.flagAddr % 2 == 0 then unsupported (.noEntry "extern/(internal/reflectlite.Value).Set.unaddressable")
  let val <-loadVar src b
  if <-Rtype.directlyAssignable dst src then storeVar dst a val
  else if <-Rtype.implements dst src then
   if (<-Rtype.kind src)==20 then
    match val with
    | .nilIface => unsupported (.noEntry "extern/reflectlite: a nil value of one interface type handed on as a value of another")
    | _=>storeVar dst a val
   else storeVar dst a (.iface src val)
  else panicString ("reflectlite.Set: value of type " ++ (<- Rtype.spelt src) ++ " is not assignable to type " ++ (<- Rtype.spelt dst))
  pure (.tuple #[])):=rfl
def Sx(a p:Addr)(W:rT)(e:W a=some (.pointer (some p))):(ReflectliteValue.method (ReflectliteValue.valueError "reflectlite.Value.IsNil" 0) ReflectliteValue.isNil #[.agg #[.pointer (some ⟨2, 180, none⟩), .pointer (some a), .int .u64 150]]).run prog W=.ok (.bool false) W := by
 rw[Ou];simp only[Sem.run_bind,Sz,Result.andThen];simp[ReflectliteValue.isNil,loadVar,isAgg,underlying,underlying180,e,Result.andThen]
def NA(p:Addr)(w:rT):(ReflectliteValue.mk 178 p ReflectliteValue.flagAddr).run prog w=.ok (.agg #[.pointer (some ⟨2,178,none⟩),.pointer (some p),.int .u64 406]) w:=kw
def YC(a p:Addr)(W:rT)(e:W a=some (.pointer (some p))):(ReflectliteValue.method (ReflectliteValue.valueError "reflectlite.Value.Elem" 0) ReflectliteValue.elem #[.agg #[.pointer (some ⟨2, 180, none⟩), .pointer (some a), .int .u64 150]]).run prog W
  =.ok (.agg #[.pointer (some ⟨2,178,none⟩),.pointer (some p),.int .u64 406]) W:=by
 rw[Ou];simp only[Sem.run_bind,Sz,Result.andThen];simp[ReflectliteValue.elem,loadVar,isAgg,underlying,underlying180,e,Result.andThen,eS,NA]
def eO(a:Addr)(w:rT):(ReflectliteValue.parts (.agg #[.pointer (some ⟨2,178,none⟩),.pointer (some a),.int .u64 406])).run prog w=.ok (some (178,a,406)) w:=kw
def eN(a:Addr)(w:rT):(ReflectliteValue.parts (.agg #[.pointer (some ⟨2,178,none⟩),.pointer (some a),.int .u64 150])).run prog w=.ok (some (178,a,150)) w:=kw
def eM(w:rT):(Rtype.directlyAssignable 178 178).run prog w=.ok true w:=kw
def Kh(a b:Addr)(e:Addr)(g:rU)(W:rT)(hb:W b=some (.pointer (some e)))(h:W a=some g)(m:W.frozen? a=false):(ReflectliteValue.set #[.agg #[.pointer (some ⟨2,178,none⟩),.pointer (some a),.int .u64 406],.agg #[.pointer (some ⟨2,178,none⟩),.pointer (some b),.int .u64 150]]).run prog W
  =.ok (.tuple #[]) (W.setCell a<|.pointer<|some e):=by
 rw[U5];simp only[Sem.run_bind,eO,eN,Result.andThen];simp[ReflectliteValue.flagAddr,loadVar,isAgg,underlying,underlying178,hb,Result.andThen,eM,storeVar,Value.cells,storeCells,Addr.add];rw[run_store prog W a _ _ (by rfl)];simp[h,m]
def YB(a p:Addr)(W:rT)(e:W a=some (.pointer (some p))):(ReflectliteValue.method (ReflectliteValue.valueError "reflectlite.Value.IsNil" 0) ReflectliteValue.isNil #[.agg #[.pointer (some ⟨2, 184, none⟩), .pointer (some a), .int .u64 150]]).run prog W=.ok (.bool false) W := by
 rw[Ou];simp only[Sem.run_bind,Sy,Result.andThen];simp[ReflectliteValue.isNil,loadVar,isAgg,underlying,underlying184,e,Result.andThen]
def NB(p:Addr)(w:rT):(ReflectliteValue.mk 41 p ReflectliteValue.flagAddr).run prog w=.ok (.agg #[.pointer (some ⟨2,41,none⟩),.pointer (some p),.int .u64 386]) w:=kw
def YA(a p:Addr)(W:rT)(e:W a=some (.pointer (some p))):(ReflectliteValue.method (ReflectliteValue.valueError "reflectlite.Value.Elem" 0) ReflectliteValue.elem #[.agg #[.pointer (some ⟨2, 184, none⟩), .pointer (some a), .int .u64 150]]).run prog W
  =.ok (.agg #[.pointer (some ⟨2,41,none⟩),.pointer (some p),.int .u64 386]) W:=by
 rw[Ou];simp only[Sem.run_bind,Sy,Result.andThen];simp[ReflectliteValue.elem,loadVar,isAgg,underlying,underlying184,e,Result.andThen,eR,NB]
def eL(a:Addr)(w:rT):(ReflectliteValue.parts (.agg #[.pointer (some ⟨2,41,none⟩),.pointer (some a),.int .u64 386])).run prog w=.ok (some (41,a,386)) w:=kw
def eK(a:Addr)(w:rT):(ReflectliteValue.parts (.agg #[.pointer (some ⟨2,41,none⟩),.pointer (some a),.int .u64 130])).run prog w=.ok (some (41,a,130)) w:=kw
def eJ(w:rT):(Rtype.directlyAssignable 41 41).run prog w=.ok true w:=kw
def Ki(a b:Addr)(e:Int)(g:rU)(W:rT)(hb:W b=some (.int .i64 e))(h:W a=some g)(m:W.frozen? a=false):(ReflectliteValue.set #[.agg #[.pointer (some ⟨2,41,none⟩),.pointer (some a),.int .u64 386],.agg #[.pointer (some ⟨2,41,none⟩),.pointer (some b),.int .u64 130]]).run prog W
  =.ok (.tuple #[]) (W.setCell a<|.int .i64 e):=by
 rw[U5];simp only[Sem.run_bind,eL,eK,Result.andThen];simp[ReflectliteValue.flagAddr,loadVar,isAgg,underlying,underlying41,hb,Result.andThen,eJ,storeVar,Value.cells,storeCells,Addr.add];rw[run_store prog W a _ _ (by rfl)];simp[h,m]
def Ex(w:rT):Prop:=w ⟨0,0,none⟩=some (.iface 261 (.agg #[.pointer (some ⟨2,80,none⟩)]))
def qu:=@run_callFunc_extern prog 138 _ (λh=>ReflectliteValue.unpack (h.getD 0 (.tuple #[]))) func138 kw kw kw kw
def qv:=@run_callFunc_extern prog 139 _ (ReflectliteValue.methodAny (ReflectliteValue.valueError "reflectlite.Value.Type" 0) (λt _ _ _ => ReflectliteType.toType t)) func139 kw kw kw kw
def qw:=@run_callFunc_extern prog 140 _ (ReflectliteValue.method (ReflectliteValue.valueError "reflectlite.Value.IsNil" 0) ReflectliteValue.isNil) func140 kw kw kw kw
def qx:=@run_callFunc_extern prog 207 _ (ReflectliteType.abiMethod λt=>do pure (.int .u8 (<-Rtype.kind t))) func207 kw kw kw kw
def qy:=@run_callFunc_extern prog 225 _ (ReflectliteType.method ReflectliteType.elem) func225 kw kw kw kw
def rA:=@run_callFunc_extern prog 226 _ (ReflectliteType.relation "Implements" ReflectliteType.implements_) func226 kw kw kw kw
def rB:=@run_callFunc_extern prog 142 _ ReflectliteType.typeOf func142 kw kw kw kw
def rC:=@run_callFunc_extern prog 223 _ (ReflectliteType.relation "AssignableTo" ReflectliteType.assignableTo) func223 kw kw kw kw
def rD:=@run_callFunc_extern prog 166 _ (ReflectliteValue.method (ReflectliteValue.valueError "reflectlite.Value.Elem" 0) ReflectliteValue.elem) func166 kw kw kw kw
def rE:=@run_callFunc_extern prog 167 _ ReflectliteValue.set func167 kw kw kw kw
def Nd(e:Addr)(t:Addr)(a:rU)(w:rT)(m:Ex w)(g:w t=some a)(n:w.frozen? t=false):rH 103 #[.iface 178 (.pointer (some e)),.iface 180 (.pointer (some t))] w λh w'=>h=.returned (.bool true)/\w'=((((w.alloc (.cells #[.pointer (some t)] 180)).alloc (.cells #[.pointer (some ⟨2,180,none⟩),(w.heap.size,0),.int .u64 150] 214)).alloc (.cells #[.pointer (some ⟨2,180,none⟩),(w.heap.size,0),.int .u64 150] 214)).alloc (.cells #[.pointer (some e)] 178)).setCell t (.pointer (some e)):=by
 unfold Ex at m;have h:=qu;have h:=qv;have h:=qw;have h:=qx;have h:=qy;have h:=rA;have h:=rB;have h:=rC;have h:=rD;have h:=rE;have h:=YD;have h:=O5;have h:=LD;have h:=eQ;have h:=UM;have h:=Rv;have h:=Pa;have h:=PZ;have h:=PY;have h:=Ru;have h:=S7;have h:=Rt;have h:=Rs;have h:=Sx ⟨w.heap.size,0,none⟩ t ((w.alloc<|.cells #[.pointer (some t)] 180).alloc<|.cells #[.pointer (some ⟨2,180,none⟩),(w.heap.size,0),.int .u64 150] 214) nl;have q:0<w.heap.size:=by
  rcases C8 w.heap.size with u|h
  .simp[World.cell?,u]at m
  .exact h
 have u:((w.alloc<|.cells #[.pointer (some t)] 180).alloc<|.cells #[.pointer (some ⟨2,180,none⟩),(w.heap.size,0),.int .u64 150] 214) ⟨0,0,none⟩=some (.iface 261<|.agg #[.pointer (some ⟨2,80,none⟩)]):=by
  rw[World.cell?_alloc_lt _ _ ⟨0,0,none⟩ nl,World.cell?_alloc_lt _ _ ⟨0,0,none⟩ q];exact m
 have m:t.block<w.heap.size:=by
  rcases Nat.lt_or_ge t.block w.heap.size with h|h
  .exact h
  .simp[World.cell?,CF h]at g
 have h:=YC ⟨w.heap.size,0,none⟩ t (((w.alloc<|.cells #[.pointer (some t)] 180).alloc<|.cells #[.pointer (some ⟨2,180,none⟩),(w.heap.size,0),.int .u64 150] 214).alloc<|.cells #[.pointer (some ⟨2,180,none⟩),(w.heap.size,0),.int .u64 150] 214) (by rw[World.cell?_alloc_lt _ _ ⟨w.heap.size,0,none⟩ ol];simp);have st:=Kh t ⟨w.heap.size+1+1+1,0,none⟩ e a ((((w.alloc<|.cells #[.pointer (some t)] 180).alloc<|.cells #[.pointer (some ⟨2,180,none⟩),(w.heap.size,0),.int .u64 150] 214).alloc<|.cells #[.pointer (some ⟨2,180,none⟩),(w.heap.size,0),.int .u64 150] 214).alloc<|.cells #[.pointer (some e)] 178)
  (by rw[World.cell?_alloc_at _ _ _ _ nl];rfl)
  (by rw[World.cell?_alloc_lt _ _ t ol,World.cell?_alloc_lt _ _ t ol,World.cell?_alloc_lt _ _ t ol,World.cell?_alloc_lt _ _ t m];exact g)
  (by rw[World.frozen?_alloc_old _ _ t ol,World.frozen?_alloc_old _ _ t ol,World.frozen?_alloc_old _ _ t ol,World.frozen?_alloc_old _ _ t (Nat.ne_of_lt m)];exact n)
 go_enter func103,ntmps103;go_wp2;refine wp_loop_rounds 1 ?_;rw[rounds_succ];go_wp2;go_ret;exact rM
def Ng(e:Int)(t:Addr)(a:rU)(w:rT)(m:Ex w)(g:w t=some a)(n:w.frozen? t=false):rH 103 #[.iface 41 (.int .i64 e),.iface 184 (.pointer (some t))] w λh w'=>h=.returned (.bool true)/\w'=((((w.alloc (.cells #[.pointer (some t)] 184)).alloc (.cells #[.pointer (some ⟨2,184,none⟩),(w.heap.size,0),.int .u64 150] 214)).alloc (.cells #[.pointer (some ⟨2,184,none⟩),(w.heap.size,0),.int .u64 150] 214)).alloc (.cells #[[e]] 41)).setCell t (.int .i64 e):=by
 unfold Ex at m;have h:=qu;have h:=qv;have h:=qw;have h:=qx;have h:=qy;have h:=rA;have h:=rB;have h:=rC;have h:=rD;have h:=rE;have h:=OI;have h:=O5;have h:=LF;have h:=eP;have h:=gd;have h:=Vo;have h:=Pa;have h:=PZ;have h:=PY;have h:=Vn;have h:=YE;have h:=Vm;have h:=Vl;have h:=YB ⟨w.heap.size,0,none⟩ t ((w.alloc<|.cells #[.pointer (some t)] 184).alloc<|.cells #[.pointer (some ⟨2,184,none⟩),(w.heap.size,0),.int .u64 150] 214) nl;have q:0<w.heap.size:=by
  rcases C8 w.heap.size with u|h
  .simp[World.cell?,u]at m
  .exact h
 have u:((w.alloc<|.cells #[.pointer (some t)] 184).alloc<|.cells #[.pointer (some ⟨2,184,none⟩),(w.heap.size,0),.int .u64 150] 214) ⟨0,0,none⟩=some (.iface 261<|.agg #[.pointer (some ⟨2,80,none⟩)]):=by
  rw[World.cell?_alloc_lt _ _ ⟨0,0,none⟩ nl,World.cell?_alloc_lt _ _ ⟨0,0,none⟩ q];exact m
 have m:t.block<w.heap.size:=by
  rcases Nat.lt_or_ge t.block w.heap.size with h|h
  .exact h
  .simp[World.cell?,CF h]at g
 have h:=YA ⟨w.heap.size,0,none⟩ t (((w.alloc<|.cells #[.pointer (some t)] 184).alloc<|.cells #[.pointer (some ⟨2,184,none⟩),(w.heap.size,0),.int .u64 150] 214).alloc<|.cells #[.pointer (some ⟨2,184,none⟩),(w.heap.size,0),.int .u64 150] 214) (by rw[World.cell?_alloc_lt _ _ ⟨w.heap.size,0,none⟩ ol];simp);have st:=Ki t ⟨w.heap.size+1+1+1,0,none⟩ e a ((((w.alloc<|.cells #[.pointer (some t)] 184).alloc<|.cells #[.pointer (some ⟨2,184,none⟩),(w.heap.size,0),.int .u64 150] 214).alloc<|.cells #[.pointer (some ⟨2,184,none⟩),(w.heap.size,0),.int .u64 150] 214).alloc<|.cells #[[e]] 41)
  (by rw[World.cell?_alloc_at _ _ _ _ nl];rfl)
  (by rw[World.cell?_alloc_lt _ _ t ol,World.cell?_alloc_lt _ _ t ol,World.cell?_alloc_lt _ _ t ol,World.cell?_alloc_lt _ _ t m];exact g)
  (by rw[World.frozen?_alloc_old _ _ t ol,World.frozen?_alloc_old _ _ t ol,World.frozen?_alloc_old _ _ t ol,World.frozen?_alloc_old _ _ t (Nat.ne_of_lt m)];exact n)
 go_enter func103,ntmps103;go_wp2;refine wp_loop_rounds 1 ?_;rw[rounds_succ];go_wp2;go_ret;exact rM
def Vk(n:Int)(w:rT):(Instr.typeAssert (.iface 41 (.int .i64 n)) 80 265 true).run prog w=.ok (.tuple #[.nilIface,false]) w:=run_typeAssert_lacksB underlying265 kw kw _ _ w
def Vj(n:Int)(w:rT):(Instr.typeAssert (.iface 41 (.int .i64 n)) 80 268 true).run prog w=.ok (.tuple #[.nilIface,false]) w:=run_typeAssert_lacksB underlying268 kw kw _ _ w
def Vi(n:Int)(w:rT):(Instr.typeAssert (.iface 41 (.int .i64 n)) 80 269 true).run prog w=.ok (.tuple #[.nilIface,false]) w:=run_typeAssert_lacksB underlying269 kw kw _ _ w
def Vh(p:Addr)(w:rT):(Instr.typeAssert (.iface 178 (.pointer (some p))) 80 272 true).run prog w=.ok (.tuple #[.nilIface,false]) w:=run_typeAssert_lacksB underlying272 kw kw _ _ w
def Vg(p:Addr)(w:rT):(Instr.typeAssert (.iface 178 (.pointer (some p))) 80 268 true).run prog w=.ok (.tuple #[.iface 178 (.pointer (some p)),true]) w:=run_typeAssert_hasB underlying268 kw _ _ w
def X9 (p : Addr) (w : rT) : (Go.method 409 178 (.pointer (some p)) "Unwrap").run prog w=.ok (213, .pointer (some p)) w := kw
def NY(p:Addr)(n:Int)(w:rT):(binOp .eql 80 (.iface 178 (.pointer (some p))) (.iface 41 (.int .i64 n))).run prog w=.ok (.bool false) w:=run_eql_iface_types _ _ _ _ underlying80 lc w
def JQ(n:Int)(w:rT):(binOp .eql 80 (.iface 41 (.int .i64 n)) (.iface 41 (.int .i64 n))).run prog w=.ok (.bool true) w:=by
 have a:(prog.info? 41).map (·.comparable)=some true:=kw;obtain⟨i,e,g⟩:=CC.1 a;have h:∀d,(Op.equalIn (d+2) 80 (.iface 41<|.int .i64 n)<|.iface 41<|.int .i64 n).run prog w=.ok true w:=λd=>by simp[Op.equalIn,run_underlying underlying80,run_underlying underlying41,typeInfo,e,g]
 simp only[binOp];simp[Op.equal,Op.maxDepth,h 9998]
def RP (w : rT) : (ReflectliteType.method (λt => do Rtype.noPackHeld "Comparable" t; Functor.map (λa => Value.bool a.comparable) (typeInfo t)) #[.agg #[.pointer (some ⟨2, 41, none⟩)]]).run prog w=.ok (.bool true) w := kw
def Nf(n:Int)(t:Addr)(a:rU)(w:rT)(e:Ex w)(g:w t=some a):rH 103 #[.iface 41 (.int .i64 n),.iface 180 (.pointer (some t))] w λa w'=>a=.returned (.bool false)/\w'=(((w.alloc (.cells #[.pointer (some t)] 180)).alloc (.cells #[.pointer (some ⟨2,180,none⟩),(w.heap.size,0),.int .u64 150] 214)).alloc (.cells #[.pointer (some ⟨2,180,none⟩),(w.heap.size,0),.int .u64 150] 214)):=by
 unfold Ex at e;have a:=qu;have a:=qv;have a:=qw;have a:=qx;have a:=qy;have a:=rA;have a:=rB;have a:=rC;have a:=rD;have a:=rE;have a:=OI;have a:=O5;have a:=LE;have a:=UM;have a:=Rv;have a:=Pa;have a:=PZ;have a:=PY;have a:=Ru;have a:=S7;have a:=Rt;have a:=Rs;have a:=Vk;have a:=Vj;have a:=Vi;have a:=Sx ⟨w.heap.size,0,none⟩ t ((w.alloc<|.cells #[.pointer (some t)] 180).alloc<|.cells #[.pointer (some ⟨2,180,none⟩),(w.heap.size,0),.int .u64 150] 214) nl;have a:0<w.heap.size:=by
  rcases C8 w.heap.size with g|h
  .simp[World.cell?,g]at e
  .exact h
 have g:((w.alloc<|.cells #[.pointer (some t)] 180).alloc<|.cells #[.pointer (some ⟨2,180,none⟩),(w.heap.size,0),.int .u64 150] 214) ⟨0,0,none⟩=some (.iface 261<|.agg #[.pointer (some ⟨2,80,none⟩)]):=by
  rw[World.cell?_alloc_lt _ _ ⟨0,0,none⟩ nl,World.cell?_alloc_lt _ _ ⟨0,0,none⟩ a];exact e
 go_enter func103,ntmps103;go_wp2;refine wp_loop_rounds 1 ?_;rw[rounds_succ];go_wp2;go_ret;exact rM
def rF:=@run_callFunc_extern prog 224 _ (ReflectliteType.method (λt => do Rtype.noPackHeld "Comparable" t; pure (.bool (<- typeInfo t).comparable))) func224 kw kw kw kw
def NU(n:Int)(w:rT):rH 104 #[.iface 41 (.int .i64 n),.iface 41 (.int .i64 n)] w λa w'=>a=.returned (.bool true)/\w=w':=by
 have a:=rB;have a:=rF;have a:=OI;have a:=JO;have a:=RP;have a:=JQ;go_enter func104,ntmps104;go_wp2;refine wp_loop_rounds 1 ?_;rw[rounds_succ];go_wp2;go_ret;exact rM
def NT(p:Nat)(n:Int)(w:rT)(e:w p=some (.int .i64 n)):rH 104 #[.iface 178 (.pointer p),.iface 41 (.int .i64 n)] w λa w'=>a=.returned (.bool true)/\w=w':=by
 have a:=rB;have a:=rF;have a:=OI;have a:=JO;have a:=RP;have a:=JQ;have a:=NY;have a:=Vh;have a:=Vg;have a:=X9;go_enter func104,ntmps104;go_wp2;refine wp_loop_rounds 2 ?_;rw[rounds_succ];go_wp2;rw[rounds_succ];go_wp2;go_ret;exact rM
end
section
open Go.RowKit Go.Proofs.Tryz
def Iy(b:Nat):Nat->Prop:=λk=>k=b
def Na(e:Addr)(tb:Nat)(g:rU)(w:rT)(n:Ex w)(h:w tb=some g)(q:w.frozen? ⟨tb,0,none⟩=false):rH 103 #[.iface 178 (.pointer (some e)),.iface 180 (.pointer tb)] w λm w'=>m=.returned (.bool true)/\C9 (Iy tb) w w'/\w' tb=some (.pointer (some e)):=by
 refine(Nd e ⟨tb,0,none⟩ g w n h q).mono ?_;rintro m w' ⟨rfl,rfl⟩;have e:=zo h;refine⟨rfl,(((((C9.refl (Iy tb) w).alloc _).alloc _).alloc _).alloc _).setCell (p:=tb) rO _,World.cell?_setCell_same _ _ _<|(((((C9.refl DA w).alloc _).alloc _).alloc _).alloc _).cell (a:=tb) id h⟩
def Nc(n:Int)(tb:Nat)(e:rU)(w:rT)(m:Ex w)(g:w tb=some e)(q:w.frozen? ⟨tb,0,none⟩=false):rH 103 #[.iface 41 (.int .i64 n),.iface 184 (.pointer tb)] w λh w'=>h=.returned (.bool true)/\C9 (Iy tb) w w'/\w' tb=some (.int .i64 n):=by
 refine(Ng n ⟨tb,0,none⟩ e w m g q).mono ?_;rintro h w' ⟨rfl,rfl⟩;refine⟨rfl,(((((C9.refl (Iy tb) w).alloc _).alloc _).alloc _).alloc _).setCell (p:=tb) rO _,World.cell?_setCell_same _ _ _<|(((((C9.refl DA w).alloc _).alloc _).alloc _).alloc _).cell (a:=tb) id g⟩
def Nb(n:Int)(tb:Nat)(a:rU)(w:rT)(g:Ex w)(h:w tb=some a):rH 103 #[.iface 41 (.int .i64 n),.iface 180 (.pointer tb)] w λe w'=>e=.returned (.bool false)/\C9 DA w w':=by
 refine(Nf n ⟨tb,0,none⟩ a w g h).mono ?_;rintro e w' ⟨rfl,rfl⟩;exact⟨rfl,(((C9.refl DA w).alloc _).alloc _).alloc _⟩
variable{S:Nat->Prop}{w w':rT}
def Ex.mod(h:Ex w)(m:C9 S w w')(e:¬S 0):Ex w':=m.cell (a:=⟨0,0,none⟩) e h
def MS(w:rT)(n at_:Int)(e:Ending)(w':rT):Prop:=e=.returned (.tuple #[[n],[at_]])/\C9 DA w w'
def Sb(w:rT):rH 70 #[.nilIface] w (MS w 0 (-1)):=by
 go_enter func70,ntmps70;go_wp2;go_ret2;exact⟨rfl,(rS.alloc _).alloc _⟩
def X8(n:Int)(w:rT):(binOp .eql 80 (.iface 41 (.int .i64 n)) .nilIface).run prog w=.ok (.bool false) w:=kw
def X7(p:Addr)(w:rT):(binOp .eql 80 (.iface 178 (.pointer (some p))) .nilIface).run prog w=.ok (.bool false) w:=kw
structure LH(w W:rT):Prop where
 o0:W.heap[w.heap.size]?=some (.cells #[.pointer none] 178 (0,0))
 o1:W.heap[w.heap.size+1]?=some (.cells #[.int .i64 0] 41 (0,0))
 m:C9 DA w W
def UL(w:rT):LH w ((w.alloc (.cells #[.pointer none] 178)).alloc (.cells #[.int .i64 0] 41)):=by
 have a:(w.alloc<|.cells #[.pointer none] 178).heap.size=w.heap.size+1:=nl;refine⟨((C9.refl DA _).alloc _).obj rP<|heap_alloc_new w _,?_,((C9.refl DA w).alloc _).alloc _⟩;rw[<-a];exact heap_alloc_new _ _
def RO(n:Int)(w:rT)(m:Ex w):rH 70 #[.iface 41 (.int .i64 n)] w (MS w n (-1)):=by
 have a:=X8 n;have a:=UL w;obtain⟨W,h⟩:=nm<|(w.alloc<|.cells #[.pointer none] 178).alloc<|.cells #[.int .i64 0] 41;rw[h]at a;have y:W.heap.size=w.heap.size+1+1:=by rw[<-h];simp
 have q:=zo m;have q:=m.mod a.m rP;have z:=Nb n w.heap.size _ W q<|za a.o0 rfl;have u:=zb a;have C:=zb q;have D:=zb h;have M:=zb y;clear a q h y m;go_enter func70,ntmps70;go_wp2_with fail;rw[D.z];refine z.mono ?_;rintro e E ⟨rfl,g⟩;have A:=Nc n (w.heap.size+1) _ E (C.z.mod g rP) (za (g.obj rP u.z.o1) rfl)<|zd<|g.obj rP u.z.o1;clear z;have G:=zb g;clear g;go_wp2_with fail;refine A.mono ?_;rintro e K ⟨rfl,B,c2⟩;have a:=NU n K;have L:=zb B;clear B A;go_wp2_with fail;refine a.mono ?_;rintro e a ⟨rfl,rfl⟩;go_wp2;go_ret2;exact⟨rfl,(u.z.m.trans G.z).then L.z<|λk a=>by unfold Iy at a;omega⟩
def Kl(p:Nat)(n at_:Int)(w:rT)(q:Ex w)(u:w p=some (.int .i64 n))(h:w (p,1)=some (.int .i64 at_)):rH 70 #[.iface 178 (.pointer p)] w (MS w n at_):=by
 have g:=X7 ⟨p,0,none⟩;have g:=UL w;obtain⟨W,y⟩:=nm<|(w.alloc<|.cells #[.pointer none] 178).alloc<|.cells #[.int .i64 0] 41;rw[y]at g;have z:=zo u;have z:=zo q;have z:=q.mod g.m rP;have A:=Na ⟨p,0,none⟩ w.heap.size _ W z (za g.o0 rfl)<|zd g.o0;have B:=g.m.cell (a:=p) id u;have C:=g.m.cell (a:=U p 1) id h;have E:=zb g;have G:=zb y;clear g z y q;go_enter func70,ntmps70;go_wp2_with fail;rw[G.z];refine A.mono ?_;rintro e K ⟨rfl,m,c1⟩;have g:¬Iy w.heap.size p:=by unfold Iy;omega
 have q:=m.cell (a:=p) g B;have y:=m.cell (a:=U p 1) g C;have D:=NT p n K q;have L:=zb m;clear m A B C u h;go_wp2_with fail;refine D.mono ?_;rintro e a ⟨rfl,rfl⟩;clear D;go_wp2;go_quiet (fail);go_wp2;go_ret2;exact⟨rfl,(E.z.m.then L.z<|λk a=>by unfold Iy at a;omega).drewN _⟩
def Sa(w:rT)(n:Int)(e:Ending)(w':rT):Prop:=e=.returned (.int .i64 n)/\C9 DA w w'
def TX(v:rU)(n at_:Int)(w:rT)(h:rH 70 #[v] w (MS w n at_)):rH 31 #[v] w (Sa w n):=by
 go_enter func31,ntmps31;go_wp2_with fail;refine h.mono ?_;rintro e g ⟨rfl,a⟩;go_wp2;go_ret;exact⟨rfl,a⟩
def Dw(n:Nat):rU:=if n=0 then .nilIface else .iface 41 (.int .i64 n)
def eI:Dw 0=.nilIface:=rfl
variable{n:Nat}
def Ic(h:n≠0):Dw n=.iface 41 (.int .i64 n):=by simp[Dw,h]
def Ie(n:Nat)(w:rT)(a:Ex w):rH 31 #[Dw n] w (Sa w (n:Int)):=by
 by_cases h:n=0
 .subst h;exact TX _ _ _ w<|Sb w
 rw[Ic h];exact TX _ _ _ w<|RO (n:Int) w a
def Dv(tag:qr)(i b:Nat)(W:rT)(c':CS)(W':rT):Prop :=
 ∃tag' V',zn tag' i b c' V' W'/\DK i tag tag' W W'/\C9 (λg=>(tag g).1=i) W W'
def EN(tag:qr)(i b:Nat)(W:rT)(r:rU)(c':CS)(e:Ending)(W':rT):Prop:=e=.returned r/\Dv tag i b W c' W'
structure Ib(c c':CS):Prop where
 kN:c'.kN=c.kN
 ws:∀k,k<8->(c' k).b=(c k).b/\(c' k).kH.rs=(c k).kH.rs/\(c' k).kG.rs=(c k).kG.rs
 rs:∀k,k<8->(c'.rs k).b=(c.rs k).b/\(c'.rs k).kG.rs=(c.rs k).kG.rs
 kB:c'.kB=c.kB
 waits:c'.waits=c.waits
 seen:c'.seen=c.seen
 kG:c'.kG=c.kG
def Ib.refl(c:CS):Ib c c:=⟨rfl,λ_ _=>⟨rfl,rfl,rfl⟩,λ_ _=>⟨rfl,rfl⟩,rfl,rfl,rfl,rfl⟩
variable{V:CV}{W W':rT}{b i:Nat}{c c':CS}{tag:qr}
def zn.re(h:zn tag i b c V W)(m:C9 (λg=>g=b) W W')(n:W'.heap[b]?=some (.cells (zA c' V).toArray 147 (0,0)))(s:Ib c c'):zn tag i b c' V W':=by
 have q:∀{g:Nat} {r:Nat},tag g=(i,r)->r≠1->¬g=b:=λe a x=>by
  rw[x,h.tb]at e;simp at e;exact a e.symm
 have u:∀(a k:Nat),1<a->a+k≠1:=λa k a=>I
 obtain⟨a,y,A,z,C,D,B⟩:=s;exact
  {obj:=n
   tb:=h.tb
   kN:=by rw[a];exact h.kN.mod m (q h.tg lc)<|λg e=>q (h.nW g e) lc
   tg:=h.tg
   nW:=h.nW
   wb:=λk a=>by rw[(y k a).1];exact m.owns (h.wb k a)<|λg e=>q (h.nK k a g e)<|u _ _ lc
   ws:=λk a=>by rw[(y k a).2.1];exact m.owns (h.ws k a)<|λg e=>q (h.nC k a g e)<|u _ _ lc
   wc:=λk a=>by rw[(y k a).2.2];exact m.owns (h.wc k a)<|λg e=>q (h.nJ k a g e)<|u _ _ lc
   rb:=λk a=>by rw[(A k a).1];exact m.owns (h.rb k a)<|λg e=>q (h.nV k a g e)<|u _ _ lc
   rc:=λk a=>by rw[(A k a).2];exact m.owns (h.rc k a)<|λg e=>q (h.nU k a g e)<|u _ _ lc
   nK:=h.nK
   nC:=h.nC
   nJ:=h.nJ
   nV:=h.nV
   nU:=h.nU
   ft:=by rw[z];exact m.owns h.ft<|λg e=>q (h.nF g e) lc
   fl:=by rw[z];exact h.fl
   fs:=λp a=>by rw[z]at a;exact(h.fs p a).mod m (λg e x=>q x lc e) (λg e=>e)
   nF:=h.nF
   wt:=by rw[C];exact h.wt.mod m<|λg e=>q (h.nE g e) lc
   nE:=h.nE
   sn:=by rw[D];exact h.sn.mod m<|q h.nT lc
   nT:=h.nT
   cm:=by rw[B];exact m.owns h.cm<|λg e=>q (h.nN g e) lc
   nN:=h.nN
   ou:=by rw[B];exact h.ou }
def zn.store(h:zn tag i b c V W)(j:Nat)(v:rU)(a:(zA c V).set j v=zA c' V)(s:Ib c c'):zn tag i b c' V (W.setCell (b,j) v) :=
 h.re ((C9.refl (λg=>g=b) _).setCell (p:=(b,j)) rO _) (by rw[zc h.obj,Ab,a]) s
def zn.left(h:zn tag i b c V W')(a:zL tag W)(m:C9 (λg=>(tag g).1=i) W W'):Dv tag i b W c W':=⟨tag,V,h,DK.same a m,m⟩
def zn.ni(h:zn tag i b c V W)(m:C9 (λg=>g=b) W W'):C9 (λg=>(tag g).1=i) W W':=m.mono (λg a=>.inl (by rw[a,h.tb]))
variable{k:Nat}
def zn.mN(h:zn tag i b c V W)(e:k<8)(j:Nat)(g:j<15)(v:rU)(x:WS)(m:Fl x (V.wb k) (V k) (V.wc k)=(Fl (c k) (V.wb k) (V k) (V.wc k)).set j v)(n:x.b=(c k).b)(u:x.kH.rs=(c k).kH.rs)(y:x.kG.rs=(c k).kG.rs):zn tag i b { c with ws:=zh c.ws k x } V (W.setCell (b,9+15*k+j) v):=by
 refine h.store _ _ (Gn _ _ _ _ _ e g (λq _=>?_) rfl rfl rfl) ⟨rfl,λq e=>?_,λ_ _=>⟨rfl,rfl⟩,rfl,rfl,rfl,rfl⟩
 .by_cases a:q=k
  .subst a;simp only[zf,Aq];exact m
  simp only[zl _ _ a,AH a]
 by_cases a:q=k
 .subst a;simp only[zf];exact⟨n,u,y⟩
 simp[zl _ _ a]
def zn.lZ(h:zn tag i b c V W)(e:k<8)(j:Nat)(g:j<13)(v:rU)(x:RS)(m:GH x (V.rb k) (V.rc k)=(GH (c.rs k) (V.rb k) (V.rc k)).set j v)(n:x.b=(c.rs k).b)(u:x.kG.rs=(c.rs k).kG.rs):zn tag i b { c with rs:=zh c.rs k x } V (W.setCell (b,129+13*k+j) v):=by
 refine h.store _ _ (KX _ _ _ _ _ e g (λq _=>?_) rfl rfl rfl) ⟨rfl,λ_ _=>⟨rfl,rfl,rfl⟩,λq e=>?_,rfl,rfl,rfl,rfl⟩
 .by_cases a:q=k
  .subst a;simp only[zf,Aq];exact m
  simp only[zl _ _ a,AH a]
 by_cases a:q=k
 .subst a;simp only[zf];exact⟨n,u⟩
 simp[zl _ _ a]
def CS.stream(c:CS)(k:Int):Nat:=if c.closed≠0 then 12 else if k<0\/8<=k then 2 else 0
def Ob(h:zn tag i b c V W)(k:Int):rH 131 #[(b,0),[k]] W λe W'=>e=.returned (Dw (c.stream k))/\W=W':=by
 have e:=h.hd (j:=4) rfl;unfold CS.stream Dw;clear h;by_cases a:c.closed=0
 .rw[a]at e;by_cases e:k<0
  .simp only[a,e,true_or,ne_eq,Av,BE,Aq];clear a;go_enter func131,ntmps131;go_wp2;go_ret;exact rM
  by_cases g:8<=k
  .simp only[a,g,or_true,ne_eq,Av,BE,Aq];clear a;go_enter func131,ntmps131;go_wp2;go_ret;exact rM
  simp only[a,e,g,or_self,ne_eq,Av,BE,Aq];clear a;go_enter func131,ntmps131;go_wp2;go_ret;exact rM
 have hb:((c.closed:Int)==0)=false:=AM.2 I;simp only[a,ne_eq,Ae,Aq];clear a;go_enter func131,ntmps131;go_wp2;go_ret;exact rM
def CS.err(c:CS):Nat:=c.closed
def X6(h:zn tag i b c V W):rH 98 #[(b,0)] W λe W'=>e=.returned (Dw c.closed)/\W=W':=by
 have e:=h.hd (j:=4) rfl;unfold Dw;clear h;by_cases a:c.closed=0
 .rw[a]at e;simp only[a,Aq];clear a;go_enter func98,ntmps98;go_wp2;go_ret;exact rM
 have hb:((c.closed:Int)==0)=false:=AM.2 I;simp only[a,BE];clear a;go_enter func98,ntmps98;go_wp2;go_ret;exact rM
def CS.close(c:CS):Nat×CS:=if c.closed≠0 then(12,c)else(0,{ c with closed:=12 })
def gZ(h:zn tag i b c V W)(a:zL tag W):rH 97 #[(b,0)] W (EN tag i b W (Dw c.close.1) c.close.2):=by
 have m:=h.hd (j:=4) rfl;have e:=h.fz 4;unfold CS.close Dw;have e:zn tag i b { c with closed:=12 } V (W.setCell (U b 4)<|.int .i64 12):=h.store 4 _ (IN _ _ _ _ _ lc rfl rfl rfl rfl) ⟨rfl,λ_ _=>⟨rfl,rfl,rfl⟩,λ_ _=>⟨rfl,rfl⟩,rfl,rfl,rfl,rfl⟩;have H:=zb<|e.left a<|h.ni<|(C9.refl (λg=>g=b) _).setCell (p:=U b 4) rO _;have g:=zb<|h.left a rS;clear h e a;by_cases a:c.closed=0
 .rw[a]at m;simp only[a,ne_eq,Av,BE];clear a;go_enter func97,ntmps97;go_wp2;go_ret;exact⟨rfl,H.z⟩
 have hb:((c.closed:Int)==0)=false:=AM.2 I;simp only[a,ne_eq,Ae,Aq];clear a;go_enter func97,ntmps97;go_wp2;go_ret;exact⟨rfl,g.z⟩
def CS.finish(c:CS)(k:Int):Nat×CS :=
 if c.stream k≠0 then(c.stream k,c)else if (c k.toNat).finished||(c k.toNat).cut then(4,c)else(0,{ c with ws:=zh c.ws k.toNat { c.ws k.toNat with finished:=true } })
def iw(h:zn tag i b c V W)(y:zL tag W)(k:Int):rH 94 #[(b,0),[k]] W (EN tag i b W (Dw (c.finish k).1) (c.finish k).2):=by
 have m:=Ob h k;have z:=zb<|h.left y rS;unfold CS.finish;by_cases e:c.stream k=0
 .obtain⟨a,g,u⟩:0<=k/\k<8/\c.closed=0:=by
   unfold CS.stream at e;split at e
   .cases e
   split at e
   .cases e
   rename_i a b;simp at a;omega
  obtain⟨q,rfl⟩:∃q:Nat,k=(q:Int):=⟨k.toNat,I⟩;have g:q<8:=I;rw[e]at m;simp only[e,Am,ne_eq,Av,BE];obtain⟨B,a⟩:=nm<|(c q).finished;obtain⟨C,n⟩:=nm<|(c q).cut;have A:W (b,9+q*15+8)=some (.bool B):=by rw[<-a,AN];exact h.w (j:=8) g rfl
  have A:W (b,9+q*15+10)=some (.bool C):=by rw[<-n,AN];exact h.w (j:=10) g rfl
  have A:=h.fz<|9+q*15+8;have A:=h.mN g 8 lc (.bool true) { c.ws q with finished:=true } rfl rfl rfl rfl;rw[AN]at A;have H:=zb<|A.left y<|h.ni<|(C9.refl (λg=>g=b) _).setCell (p:=(b,9+q*15+8)) rO _;obtain⟨c1,g⟩:∃c1:CS,{ c with ws:=zh c.ws q { c.ws q with finished:=true } }=c1:=⟨_,rfl⟩;rw[g]at H ⊢;rw[a,n];clear h A y a n e u g;cases B
  .cases C
   .go_enter func94,ntmps94;go_wp2_with (go_at_call 131;refine m.mono ?_;rintro _ _ ⟨rfl,rfl⟩;unfold Dw;simp only[Aq]);go_ret;exact⟨rfl,H.z⟩
   go_enter func94,ntmps94;go_wp2_with (go_at_call 131;refine m.mono ?_;rintro _ _ ⟨rfl,rfl⟩;unfold Dw;simp only[Aq]);go_ret;exact⟨rfl,z.z⟩
  go_enter func94,ntmps94;go_wp2_with (go_at_call 131;refine m.mono ?_;rintro _ _ ⟨rfl,rfl⟩;unfold Dw;simp only[Aq]);go_ret;exact⟨rfl,z.z⟩
 obtain⟨n,u⟩:=nm<|c.stream k;rw[u]at m e;simp only[u,e,ne_eq,Ae,Aq];rw[Ic e]at m ⊢;clear h y u e;go_enter func94,ntmps94;go_wp2_with (go_at_call 131;refine m.mono ?_;rintro _ _ ⟨rfl,rfl⟩);go_ret;exact⟨rfl,z.z⟩
variable{V':CV}{tag':qr}
def zn.build{R:Nat->Prop}(h:zn tag i b c V W)(m:C9 S W W')(y:∀g,S g->∃r,R r/\tag g=(i,r))(z:∀g,(tag g).1=i->tag' g=tag g)
  (D:W'.heap[b]?=some (.cells (zA c' V').toArray 147 (0,0)))
  (n:(c'.kN=c.kN/\V'.g=V.g/\V'.gv=V.gv/\¬R 2/\¬R 3)\/(Ed W' V'.g 0 V'.gv c'.kN.rs c'.kN.fl c'.kN.most/\tag' V'.g=(i,2)/\∀g,V'.gv.ownBlock=some g->tag' g=(i,3)))
  (B:∀k,k<8->((c' k).b=(c k).b/\V'.wb k=V.wb k/\¬R (10+k))\/(OB W' (V'.wb k) (c' k).b/\∀g,(V'.wb k).ownBlock=some g->tag' g=(i,10+k)))
  (K:∀k,k<8->((c' k).kH.rs=(c k).kH.rs/\V'.ws k=V.ws k/\¬R (20+k))\/(W'.ownsRow 0 110 2 (V' k) (c' k).kH.rs.length (zw (c' k).kH.rs)/\∀g,(V' k).ownBlock=some g->tag' g=(i,20+k)))
  (wc:∀k,k<8->((c' k).kG.rs=(c k).kG.rs/\V'.wc k=V.wc k/\¬R (30+k))\/(W'.ownsRow 0 110 2 (V'.wc k) (c' k).kG.rs.length (zw (c' k).kG.rs)/\∀g,(V'.wc k).ownBlock=some g->tag' g=(i,30+k)))
  (M:∀k,k<8->((c'.rs k).b=(c.rs k).b/\V'.rb k=V.rb k/\¬R (40+k))\/(OB W' (V'.rb k) (c'.rs k).b/\∀g,(V'.rb k).ownBlock=some g->tag' g=(i,40+k)))
  (O:∀k,k<8->((c'.rs k).kG.rs=(c.rs k).kG.rs/\V'.rc k=V.rc k/\¬R (50+k))\/(W'.ownsRow 0 110 2 (V'.rc k) (c'.rs k).kG.rs.length (zw (c'.rs k).kG.rs)/\∀g,(V'.rc k).ownBlock=some g->tag' g=(i,50+k)))
  (X:(c'.kB=c.kB/\V'.ft=V.ft/\V'.lh=V.lh/\¬R 4/\¬R 5)\/(W'.ownsRow 0 166 3 V'.ft c'.kB.length (zF<|c'.kB.zip V'.lh)/\V'.lh.length=c'.kB.length/\(∀p∈c'.kB.zip V'.lh,GQ tag' (i,5) W' p.2 p.1.fs)/\∀g,V'.ft.ownBlock=some g->tag' g=(i,4)))
  (Y:(c'.waits=c.waits/\V'.wt=V.wt/\¬R 6)\/(EI W' 48 10 V'.wt c'.waits.length (zs c'.waits)/\∀g,Value.kr V'.wt=some g->tag' g=(i,6)))
  (Z:(c'.seen=c.seen/\V'.sn=V.sn/\¬R 7)\/(Fk W' V'.sn c'.seen/\tag' V'.sn=(i,7)))
  (cm:(c'.kG=c.kG/\V'.cm=V.cm/\¬R 8)\/(W'.ownsRow 0 134 2 V'.cm c'.kG.length (zZ c'.kG)/\(∀g,V'.cm.ownBlock=some g->tag' g=(i,8))/\(c'.kG=[]->V'.cm=.slice none 0 0))) :
  zn tag' i b c' V' W':=by
 have q:∀{g r:Nat},tag g=(i,r)->¬R r->¬S g:=λa u x=>by
  obtain⟨C,A,e⟩:=y _ x;rw[a]at e;simp at e;rw[e]at u;exact u A
 have e:∀{g r:Nat},tag g=(i,r)->tag' g=(i,r):=λa=>(z _<|by rw[a]).trans a
 have A:Ed W' V'.g 0 V'.gv c'.kN.rs c'.kN.fl c'.kN.most/\tag' V'.g=(i,2)/\∀g,V'.gv.ownBlock=some g->tag' g=(i,3):=by
  rcases n with⟨u,y,z,C,N⟩|x
  .rw[u,y,z];exact⟨h.kN.mod m (q h.tg C)<|λg a=>q (h.nW g a) N,e h.tg,λg a=>e<|h.nW g a⟩
  exact x
 have E:∀k,k<8->OB W' (V'.wb k) (c' k).b/\∀g,(V'.wb k).ownBlock=some g->tag' g=(i,10+k):=λk n=>by
  rcases B k n with⟨u,y,z⟩|x
  .rw[u,y];exact⟨m.owns (h.wb k n)<|λg a=>q (h.nK k n g a) z,λg a=>e<|h.nK k n g a⟩
  exact x
 have G:∀k,k<8->W'.ownsRow 0 110 2 (V' k) (c' k).kH.rs.length (zw (c' k).kH.rs)/\∀g,(V' k).ownBlock=some g->tag' g=(i,20+k):=λk n=>by
  rcases K k n with⟨u,y,z⟩|x
  .rw[u,y];exact⟨m.owns (h.ws k n)<|λg a=>q (h.nC k n g a) z,λg a=>e<|h.nC k n g a⟩
  exact x
 have K:∀k,k<8->W'.ownsRow 0 110 2 (V'.wc k) (c' k).kG.rs.length (zw (c' k).kG.rs)/\∀g,(V'.wc k).ownBlock=some g->tag' g=(i,30+k):=λk n=>by
  rcases wc k n with⟨u,y,z⟩|x
  .rw[u,y];exact⟨m.owns (h.wc k n)<|λg a=>q (h.nJ k n g a) z,λg a=>e<|h.nJ k n g a⟩
  exact x
 have L:∀k,k<8->OB W' (V'.rb k) (c'.rs k).b/\∀g,(V'.rb k).ownBlock=some g->tag' g=(i,40+k):=λk n=>by
  rcases M k n with⟨u,y,z⟩|x
  .rw[u,y];exact⟨m.owns (h.rb k n)<|λg a=>q (h.nV k n g a) z,λg a=>e<|h.nV k n g a⟩
  exact x
 have M:∀k,k<8->W'.ownsRow 0 110 2 (V'.rc k) (c'.rs k).kG.rs.length (zw (c'.rs k).kG.rs)/\∀g,(V'.rc k).ownBlock=some g->tag' g=(i,50+k):=λk n=>by
  rcases O k n with⟨u,y,z⟩|x
  .rw[u,y];exact⟨m.owns (h.rc k n)<|λg a=>q (h.nU k n g a) z,λg a=>e<|h.nU k n g a⟩
  exact x
 have B:W'.ownsRow 0 166 3 V'.ft c'.kB.length (zF<|c'.kB.zip V'.lh)/\V'.lh.length=c'.kB.length/\(∀p∈c'.kB.zip V'.lh,GQ tag' (i,5) W' p.2 p.1.fs)/\∀g,V'.ft.ownBlock=some g->tag' g=(i,4):=by
  rcases X with⟨u,y,z,C,N⟩|x
  .rw[u,y,z];exact⟨m.owns h.ft<|λg a=>q (h.nF g a) C,h.fl,λp C=>(h.fs p C).mod m (λg a x=>q x N a)<|λg a=>e a,λg a=>e<|h.nF g a⟩
  exact x
 have N:EI W' 48 10 V'.wt c'.waits.length (zs c'.waits)/\∀g,Value.kr V'.wt=some g->tag' g=(i,6):=by
  rcases Y with⟨u,y,z⟩|x
  .rw[u,y];exact⟨h.wt.mod m<|λg a=>q (h.nE g a) z,λg a=>e<|h.nE g a⟩
  exact x
 have O:Fk W' V'.sn c'.seen/\tag' V'.sn=(i,7):=by
  rcases Z with⟨u,y,z⟩|x
  .rw[u,y];exact⟨h.sn.mod m<|q h.nT z,e h.nT⟩
  exact x
 have C:W'.ownsRow 0 134 2 V'.cm c'.kG.length (zZ c'.kG)/\(∀g,V'.cm.ownBlock=some g->tag' g=(i,8))/\(c'.kG=[]->V'.cm=.slice none 0 0):=by
  rcases cm with⟨u,y,z⟩|x
  .rw[u,y];exact⟨m.owns h.cm<|λg a=>q (h.nN g a) z,λg a=>e<|h.nN g a,h.ou⟩
  exact x
 exact⟨D,e h.tb,A.1,A.2.1,A.2.2,λk n=>(E k n).1,λk n=>(G k n).1,λk n=>(K k n).1,λk n=>(L k n).1,λk n=>(M k n).1,λk n=>(E k n).2,λk n=>(G k n).2,λk n=>(K k n).2,λk n=>(L k n).2,λk n=>(M k n).2,
  B.1,B.2.1,B.2.2.1,B.2.2.2,N.1,N.2,O.1,O.2,C.1,C.2.1,C.2.2⟩
variable{g r:Nat}
def zn.apart{a e:Nat}(h:tag g=(i,r))(m:tag a=(i,e))(n:r≠e):g≠a:=λe=>by
 rw[e,m]at h;simp at h;exact n h.symm
variable{base e sz:Nat}{v:rU}{xs:qt}
def zI(h:w.ownsRow base e sz v n xs):∀g,v.ownBlock=some g->g<w.heap.size:=by
 intro g a;rcases h.2 with⟨rfl,rfl⟩|⟨h,e,g,rfl,_,m,n,q,_⟩
 .simp[Value.ownBlock]at a
 simp[Value.ownBlock]at a;subst a;exact(AJ.1 m).1
def PX(w:rT)(v:rU)(l:qq)(a:Addr)(cap:Nat)(s:qq)(h:OB w v l)(hb:BR w (.slice (some a) s.length cap) s)(u:l.length+s.length<=140737488355328):∃m w',(∀u,(Builtin.append_ #[44,44] u #[v,.slice (some a) s.length cap]).run prog w=.ok m w')/\DX w v l s m w':=by
 obtain⟨i,z,A,g,n⟩:=info_parts Ny;obtain⟨u,N,e,_,_,B⟩:=hb;cases e;obtain⟨m,w',C,D,E,G,K⟩:=KZ (P:=prog) w 44 5 i (.int .u8 0) 1 1 underlying44 z A g n rfl lc v l.length (zS l) h a s.length cap (zS s) (by simp[zS]) (λj u y=>by
   simp only[zS,Ad,CC]at y;obtain⟨x,L,rfl⟩:=y;obtain⟨g,o,M,q⟩:=B j x L;cases M;rw[EU];exact q) (QY s) pi I
 exact⟨m,w',C,by rw[OB,AF,Mx];exact D,K,E,G⟩
def CS.send(c:CS)(k:Int)(s:qq):Nat×CS :=
 if c.stream k≠0 then(c.stream k,c)else if (c k.toNat).finished||(c k.toNat).cut then(4,c)else if 2048<(c k.toNat).b.length+s.length then(3,c)else(0,{ c with ws:=zh c.ws k.toNat { c.ws k.toNat with b:=(c k.toNat).b++s } })
def Mr{k:Int}(a:c.stream k=0):0<=k/\k<8/\c.closed=0:=by
 unfold CS.stream at a;split at a
 .cases a
 split at a
 .cases a
 rename_i a b;simp at a;omega
variable{W1:rT}{v':rU}
def zn.qK(h:zn tag i b c V W)(z:zL tag W)(hi:0<i)(m:k<8){s:qq}(n:DX W (V.wb k) (c k).b s v' W1):Dv tag i b W { c with ws:=zh c.ws k { c.ws k with b:=(c k).b++s } } (W1.setCell (b,9+15*k) v'):=by
 have A:=(C9.refl _ W).grown n.grown<|λg e=>.inl e;have hb:¬(V.wb k).ownBlock=some b:=λx=>zn.apart h.tb (h.nK k m b x) I rfl
 have C:=A.obj hb h.obj;have D:=Ds z h.tb hi;have u:C9 (λg=>(V.wb k).ownBlock=some g\/g=b) W (W1.setCell (b,9+15*k) v'):=(A.mono<|λg e=>.inl<|.inl e).setCell (p:=(b,9+15*k)) (.inl<|.inr rfl) _;have E:C9 (λg=>g=b) W1 (W1.setCell (b,9+15*k) v'):=(C9.refl (λg=>g=b) _).setCell (p:=(b,9+15*k)) rO _;have B:∀g,v'.ownBlock=some g->g≠b:=λg e x=>by
  subst x;rcases n.at_ g e with y|y
  .exact hb y
  omega
 have D:W1.heap.size=(W1.setCell (b,9+15*k) v').heap.size:=nl;refine⟨zT tag W W1 (i,10+k),{ V with wb:=zh V.wb k v' },?_,?_,u.mono<|λg e=>.inl ?_⟩
 .refine h.build (R:=λr=>r=1\/r=10+k) u (λg e=>?_) (λg e=>zx<|Ds z (i:=i) (r:=(tag g).2) (by rw[<-e]) hi) ?_ rL (λq u=>?_) (λq u=>.inl ⟨?_,rfl,I⟩) (λq u=>.inl ⟨?_,rfl,I⟩) (λq u=>.inl rK) (λq u=>.inl rK) rL rJ rJ rJ
  .rcases e with e|e
   .exact⟨10+k,.inr rfl,h.nK k m g e⟩
   exact⟨1,.inl rfl,by rw[e,h.tb]⟩
  .rw[zc C,Ab];rw[show 9+15*k=9+15*k+0 from rfl,Gn c { c with ws:=zh c.ws k { c.ws k with b:=(c k).b++s } } V { V with wb:=zh V.wb k v' } v' m lc (λq _=>?_) rfl rfl rfl];by_cases a:q=k
   .subst a;simp only[zf,Aq];rfl
   simp only[zl _ _ a,AH a]
  .by_cases a:q=k
   .subst a;simp only[zf];refine .inr ⟨E.owns n.own B,λg e=>?_⟩;rcases n.at_ g e with y|y
    .rw[zx (Ds z (h.nK q m g y) hi),h.nK q m g y]
    rw[FH y];have:=zI n.own g e;exact this
   exact .inl ⟨by simp only[zl _ _ a],by simp only[zl _ _ a],I⟩
  .by_cases a:q=k
   .subst a;simp only[zf]
   simp only[zl _ _ a]
  by_cases a:q=k
  .subst a;simp only[zf]
  simp only[zl _ _ a]
 .have:=Gf (i:=i) (r:=10+k) (tag:=tag) A.size;exact⟨this.lH,this.new,λg e=>this.z g<|qp e⟩
 rcases e with e|e
 .rw[h.nK k m g e]
 rw[e,h.tb]
def eH(h:zn tag i b c V W)(G:zL tag W)(hi:0<i)(k:Int)(a:Addr)(cap:Nat)(s:qq)(z:BR W (.slice (some a) s.length cap) s)(g:s.length<=1099511627776)(A:∀k,k<8->(c k).b.length<=1099511627776):rH 92 #[(b,0),.int .i64 k,.slice (some a) s.length cap] W (EN tag i b W (Dw (c.send k s).1) (c.send k s).2):=by
 have u:=Ob h k;have K:=zb<|h.left G rS;unfold CS.send;by_cases y:c.stream k=0
 .obtain⟨g,L,D⟩:=Mr y;obtain⟨q,rfl⟩:∃q:Nat,k=(q:Int):=⟨k.toNat,I⟩;have m:q<8:=I;rw[y]at u;simp only[y,Am,ne_eq,Av,BE];obtain⟨R,n⟩:=nm<|(c q).finished;obtain⟨X,B⟩:=nm<|(c q).cut;obtain⟨N,C⟩:=nm<|(c q).b.length;have g:=A q m;rw[C]at g;have g:W (b,9+q*15+8)=some (.bool R):=by rw[<-n,AN];exact h.w (j:=8) m rfl
  have g:W (b,9+q*15+10)=some (.bool X):=by rw[<-B,AN];exact h.w (j:=10) m rfl
  have w0:W (b,9+q*15)=some (V.wb q):=by rw[AN];exact h.w (j:=0) m rfl
  obtain⟨g,W1,DG,E⟩:=PX W (V.wb q) (c q).b a cap s (h.wb q m) z I;obtain⟨g,L,rfl,_⟩:=zi E.own;have L:=h.qK G hi m E;rw[AN]at L;have Y:W1 (b,9+q*15)=some (V.wb q):=by
   have M:=(C9.refl _ W).grown E.grown<|λg O=>.inl O;exact M.cell (a:=⟨b,_,none⟩) (λx=>zn.apart h.tb (h.nK q m b x) I rfl) w0
  have a:W1.frozen? ⟨b,9+q*15,none⟩=false:=by
   have M:=(C9.refl _ W).grown E.grown<|λg O=>.inl O;have a:=M.obj (λx=>zn.apart h.tb (h.nK q m b x) I rfl) h.obj;simp[World.frozen?,a]
  have H:=zb L;obtain⟨c1,g⟩:∃c1:CS,{ c with ws:=zh c.ws q { c.ws q with b:=(c q).b++s } }=c1:=⟨_,rfl⟩;rw[g]at H ⊢;rw[n,B,C];rw[AF,C]at H;rw[AF,C]at DG;obtain⟨M,wc,a,_⟩:=zi<|h.wb q m;rw[C]at a;rw[a]at w0 Y DG;clear h L G n B y D g C E z a A;cases R
  .cases X
   .by_cases e:2048<N+s.length
    .have Z:(2048:Int)-N<s.length:=I;simp only[e,Bool.or_self,BT,BE,Aq];clear e;go_enter func92,ntmps92;go_wp2_with (go_at_call 131;refine u.mono ?_;rintro _ _ ⟨rfl,rfl⟩;unfold Dw;simp only[Aq]);go_ret;exact⟨rfl,K.z⟩
    have Z:¬(2048:Int)-N<s.length:=I;simp only[e,Bool.or_self,BT,BE];clear e;go_enter func92,ntmps92;go_wp2_with (first|(go_at_call 131;refine u.mono ?_;rintro _ _ ⟨rfl,rfl⟩;unfold Dw;simp only[Aq])|(at_builtin;refine zm rfl _ _ _ _ rfl _ _ _ rfl rfl DG ?_));go_ret;exact⟨rfl,H.z⟩
   simp only[Bool.or_true,Aq];go_enter func92,ntmps92;go_wp2_with (go_at_call 131;refine u.mono ?_;rintro _ _ ⟨rfl,rfl⟩;unfold Dw;simp only[Aq]);go_ret;exact⟨rfl,K.z⟩
  simp only[Bool.true_or,Aq];go_enter func92,ntmps92;go_wp2_with (go_at_call 131;refine u.mono ?_;rintro _ _ ⟨rfl,rfl⟩;unfold Dw;simp only[Aq]);go_ret;exact⟨rfl,K.z⟩
 obtain⟨n,D⟩:=nm<|c.stream k;rw[D]at u y;simp only[D,y,ne_eq,Ae,Aq];rw[Ic y]at u ⊢;clear h G D y z A;go_enter func92,ntmps92;go_wp2_with (go_at_call 131;refine u.mono ?_;rintro _ _ ⟨rfl,rfl⟩);go_ret;exact⟨rfl,K.z⟩
structure Dn(i:Nat)(tag:qr)(W:rT):Prop where
 ok:zL tag W
 pos:0<i
 err:Ex W
 tab:Fb W
 g0:tag 0=(0,0)
 g1:tag 1=(0,0)
def Dn.mod(h:Dn i tag W)(m:C9 S W W')(a:∀g,S g->(tag g).1≠0\/W.heap.size<=g):Dn i tag W':=by
 have s0:¬S 0:=λx=>by
  rcases a 0 x with q|q
  .rw[h.g0]at q;exact q rfl
  have:=zo h.err;omega
 have e:¬S 1:=λx=>by
  rcases a 1 x with q|q
  .rw[h.g1]at q;exact q rfl
  have:=h.tab.lt;omega
 exact⟨h.ok.mod m,h.pos,h.err.mod m s0,h.tab.mod m e,h.g0,h.g1⟩
def Dn.kI(h:Dn i tag W)(m:C9 DA W W'):Dn i tag W':=h.mod m rQ
def Dn.left(h:Dn i tag W)(e:DK i tag tag' W W')(m:C9 (λg=>(tag g).1=i) W W'):Dn i tag' W':=by
 have n:=zo h.err;have q:=h.tab.lt;have a:=h.mod m<|λg g=>.inl<|qm h.pos;exact⟨e.z,h.pos,a.err,a.tab,by rw[e.lH 0 n,h.g0],by rw[e.lH 1 q,h.g1]⟩
variable{W2:rT}
def Dv.lR(h:Dv tag i b W c W1)(m:C9 DA W1 W2):Dv tag i b W c W2:=by
 obtain⟨tag',V',e,a,g⟩:=h;exact⟨tag',V',e.kI m,⟨a.lH,a.new,a.z.mod m⟩,g.trans<|m.mono rQ⟩
variable{W0:rT}
def Dv.thenS(u:zL tag W)(hi:0<i)(y:C9 DA W W0)(h:Dv tag i b W0 c W1)(m:C9 S W1 W2)(z:∀g,S g->W.heap.size<=g/\g<W0.heap.size):Dv tag i b W c W2:=by
 obtain⟨tag',V',A,n,B⟩:=h;have q:∀g,S g->tag' g=(0,0):=λg e=>by
  obtain⟨a,b⟩:=z g e;rw[n.lH g b];exact u g a
 refine⟨tag',V',A.mod m (λg e x=>?_)<|λ_ _=>rfl,⟨λg e=>n.lH g<|Au e y.size,λg e=>?_,n.z.mod m⟩,?_⟩
 .rw[q g e]at x;simp at x;omega
 .by_cases a:g<W0.heap.size
  .exact .inr (by rw[n.lH g a];exact u g e)
  exact n.new g I
 exact((y.mono rQ).then B<|λg e=>.inl e).then m (λg e=>.inr (z g e).1)
def Dv.lJ(a:zL tag W)(hi:0<i)(e:C9 DA W W0)(h:Dv tag i b W0 c W1):Dv tag i b W c W1 :=
 h.thenS (S:=DA) a hi e rS rQ
def G0(w:rT)(g n:Nat):Prop:=∃cs t fz,w.heap[g]?=some (.cells cs t fz)/\n<=cs.size/\n<=fz.1
variable{j:Nat}
def G0.cell(h:G0 w g n)(a:j<n):(∃v,w (g,j)=some v)/\w.frozen? ⟨g,j,none⟩=false:=by
 obtain⟨cs,t,fz,a,g,e⟩:=h;refine⟨⟨cs[j],za a<|by simp[(I:j<cs.size)]⟩,?_⟩;obtain⟨g,h⟩:=fz;have:n<=g:=e;simp[World.frozen?,a];omega
def G0.set(h:G0 w g n)(j:Nat)(v:rU):G0 (w.setCell (g,j) v) g n:=by
 obtain⟨cs,t,fz,a,e,g⟩:=h;exact⟨_,t,fz,zc a,qp e,g⟩
def G0.mod(h:G0 w g n)(m:C9 S w w')(a:¬S g):G0 w' g n:=by
 obtain⟨cs,t,fz,e,g,n⟩:=h;exact⟨cs,t,fz,m.obj a e,g,n⟩
def QV(w:rT)(l:qq)(e:l.length<=4611686018427387904):∃a w',(convert 9 44 (.string (zy l))).run prog w=.ok (.slice w l.length a) w'/\BR w' (.slice w l.length a) l/\C9 DA w w'/\w'.heap.size=w.heap.size+1/\G0 w' w.heap.size l.length:=by
 have h:=Lib.run_convert_string_bytes (P:=prog) w 9 44 5 (zy l) (u:=.string) underlying9 underlying44 underlying5;have a:=grownCap_ge w (zy l).size 0 5;have e:grownCap w (zy l).size 0 5<=maxLen:=grownCap_le_maxLen w _ 0 _ (by rw[zM];unfold maxLen;omega);have hb:=Lib.bytesWorld_at_new w 5<|zy l;rw[zM]at h a e;have g:l.length<=(Lib.bytesCells w 5<|zy l).size:=by
  by_cases m:l.length=0
  .omega
  have:=Lib.bytesWorld_cell w 5 (zy l) (l.length-1) (by rw[zM];omega);rw[World.cell?,hb]at this;have m:(Lib.bytesCells w 5<|zy l)[l.length-1]?=some (.int .u8 (((zy l).data.toList.getD (l.length-1) 0).toNat:Int)):=qp this;have:=(AJ.1 m).1;omega
 refine⟨_,_,h,⟨_,_,rfl,a,e,λi c a=>⟨_,_,rfl,?_⟩⟩,⟨?_,?_,?_,?_,?_⟩,Lib.bytesWorld_size _ _ _,⟨_,_,_,hb,g,g⟩⟩
 .have e:=(AO.1 a).1;have:=Lib.bytesWorld_cell w 5 (zy l) i (by rw[zM];exact e);rw[An,this];simp only[zy,List.getD,a,Option.getD_some]
 .simp[Lib.bytesWorld,World.freeze,World.alloc,World.drew,-World.alloc_eq,-World.drew_eq]
 .simp[Lib.bytesWorld,World.freeze,World.alloc,World.drew,-World.alloc_eq,-World.drew_eq]
 .simp[Lib.bytesWorld,World.freeze,World.alloc,World.drew,-World.alloc_eq,-World.drew_eq]
 .rw[Lib.bytesWorld_size];omega
 intro k a _;exact Lib.bytesWorld_at_old w _ _ k a
def iu(h:zn tag i b c V W)(E:Dn i tag W)(k:Int):rH 54 #[(b,0),[k]] W (EN tag i b W (.int .i64 ((c.finish k).1:Int)) (c.finish k).2):=by
 have e:=iw h E.ok k;have n:=zb E;clear h E;go_enter func54,ntmps54;go_wp2_with fail;refine e.mono ?_;rintro _ W1 ⟨rfl,a⟩;obtain⟨tag',V',q,g,h⟩:=id a;have u:=Ie (c.finish k).1 W1 (n.z.left g h).err;have y:=zb a;clear a q g h e;go_wp2_with fail;refine u.mono ?_;rintro _ W2 ⟨rfl,m⟩;have H:=zb<|y.z.lR m;clear m;go_wp2;go_ret;exact⟨rfl,H.z⟩
def gY(h:zn tag i b c V W)(E:Dn i tag W):rH 60 #[(b,0)] W (EN tag i b W (.int .i64 c.close.1) c.close.2):=by
 have e:=gZ h E.ok;have n:=zb E;clear h E;go_enter func60,ntmps60;go_wp2_with fail;refine e.mono ?_;rintro _ W1 ⟨rfl,a⟩;obtain⟨tag',V',q,g,h⟩:=id a;have u:=Ie c.close.1 W1 (n.z.left g h).err;have y:=zb a;clear a q g h e;go_wp2_with fail;refine u.mono ?_;rintro _ W2 ⟨rfl,m⟩;have H:=zb<|y.z.lR m;clear m;go_wp2;go_ret;exact⟨rfl,H.z⟩
def X4(h:zn tag i b c V W)(E:Dn i tag W):rH 62 #[(b,0)] W λe W'=>e=.returned (.int .i64 c.closed)/\C9 DA W W':=by
 have a:=X6 h;have m:=Ie c.closed W E.err;clear h E;go_enter func62,ntmps62;go_wp2_with fail;refine a.mono ?_;rintro _ W1 ⟨rfl,rfl⟩;clear a;go_wp2_with fail;refine m.mono ?_;rintro _ W2 ⟨rfl,g⟩;have H:=zb g;clear g;go_wp2;go_ret;exact⟨rfl,H.z⟩
def eG(h:zn tag i b c V W)(E:Dn i tag W)(k:Int)(s:qq)(D:s.length<=1099511627776)(q:∀k,k<8->(c k).b.length<=1099511627776):rH 52 #[(b,0),.int .i64 k,.string (zy s)] W (EN tag i b W (.int .i64 ((c.send k s).1:Int)) (c.send k s).2):=by
 obtain⟨a,W1,G,n,A,u,y⟩:=QV W s I;have X:=eH (h.kI A) (E.ok.mod A) E.pos k ⟨W.heap.size,0,none⟩ a s n D q;have K:s.length<=a/\a<=maxLen:=by
  obtain⟨_,_,e,L,B,_⟩:=n;cases e;exact⟨L,B⟩
 obtain⟨e,a⟩:=K;unfold maxLen at a;have z:=zb E;have Y:=zb A;have HB:=zb y;have HS:=zb u;clear h E n A q y u;go_enter func52,ntmps52;go_wp2_with fail;refine X.mono ?_;rintro _ W2 ⟨rfl,M⟩;clear X;obtain⟨tag',V',L,B,e⟩:=id M;have h:=(z.z.kI Y.z).left B e;have a:=HB.z.mod e (λx=>by
  have:=z.z.ok W.heap.size<|AI _;rw[this]at x;have:=z.z.pos;simp at x;omega)
 have Z:=Ie (c.send k s).1 W2 h.err;have HL:=zb M;have N:=zb a;clear M L B e h a G;go_wp2_with fail;refine Z.mono ?_;rintro _ W3 ⟨rfl,O⟩;have a:=zb<|N.z.mod O rP;have R:=zb<|HL.z.lR O;clear O Z;go_wp2_with fail
 go_loopw [19] (λe wr=>∃j:Nat,j<=s.length/\e=.int .i64 j/\G0 wr W.heap.size s.length/\C9 (λg=>g=W.heap.size) W3 wr) (λe _=>s.length-(intOf e).toNat)
 case atStart=>exact⟨0,AK _,rfl,a.z,C9.refl _ _⟩
 case round =>
  obtain⟨j,a,rfl,C,m⟩:=hrel;by_cases a:j<s.length
  .obtain⟨⟨e,h⟩,n⟩:=C.cell a;have a:=zb<|C.set j<|.int .u8 33;have e:=zb<|m.setCell (p:=(W.heap.size,j)) rO<|.int .u8 33;clear C m;go_wp2;go_roundw
   case rel=>exact⟨j+1,I,by go_num,a.z,e.z⟩
   simp[intOf];omega
  have H:=zb (R.z.thenS z.z.ok z.z.pos Y.z m (λg a=>by
   have a:=a;have:=HS.z;omega))
  clear C m;go_wp2;go_ret;exact⟨rfl,H.z⟩
inductive Pc where
 | no
 | kr (b:Nat) (cs:Array rU) (t:Nat)
 | row (e sz:Nat) (v:rU) (n:Nat) (xs:qt)
 | rr (v:rU) (rs:zE)
def Pc.At(t:Nat×Nat)(tag:qr)(W:rT):Pc->Prop
 | .no=>True
 | .kr b cs ty=>W.heap[b]?=some (.cells cs ty (0,0))/\tag b=t
 | .row e sz v n xs=>W.ownsRow 0 e sz v n xs/\∀g,v.ownBlock=some g->tag g=t
 | .rr v rs=>RR W v rs/\∀g,Value.kr v=some g->tag g=t
section
variable {S:Nat->Prop} {tag tag':qr} {W W':rT} {i:Nat} {p p':Nat->Pc}
theorem Pc.At.mod{t:Nat×Nat}{q:Pc}(h:q.At t tag W)(m:C9 S W W')(u:∀g,S g->tag g≠t)(y:∀g,tag g=t->tag' g=t):q.At t tag' W':=by
 cases q with
 | no=>trivial
 | kr b cs ty=>exact⟨m.obj (λx=>u b x h.2) h.1,y _ h.2⟩
 | row e sz v n xs=>exact⟨m.owns h.1<|λg a x=>u g x<|h.2 g a,λg a=>y g<|h.2 g a⟩
 | rr v rs=>exact⟨h.1.mod m<|GB λg a x=>u g x<|h.2 g a,λg a=>y g<|h.2 g a⟩
def DM(tag:qr)(i:Nat)(p:Nat->Pc)(W:rT):Prop:=∀r,(p r).At (i,r) tag W
def DM.mod(h:DM tag i p W)(m:C9 S W W')(e:∀g,S g->(tag g).1≠i)(n:∀g,(tag g).1=i->tag' g=tag g):DM tag' i p W' :=
 λr=>(h r).mod m (λg a x=>e g a<|by rw[x])<|λg a=>by rw[n g (by rw[a]),a]
def DM.kI(h:DM tag i p W)(m:C9 DA W W'):DM tag i p W':=h.mod m rQ (λ_ _=>rfl)
def DM.lq(h:DM tag i p W)(R:Nat->Prop)(m:C9 S W W')(n:∀g,S g->∃r,R r/\tag g=(i,r))(q:∀g,(tag g).1=i->tag' g=tag g)(a:∀r,R r->(p' r).At (i,r) tag' W')(u:∀r,¬R r->p' r=p r):DM tag' i p' W':=by
 intro r;by_cases c:R r
 .exact a r c
 rw[u r c];refine(h r).mod m (λg a x=>?_) (λg a=>by rw[q g (by rw[a]),a]);obtain⟨h,y,e⟩:=n g a;rw[x]at e;cases e;exact c y
variable{cs:Array rU}{t:Nat}
def DM.kr(h:DM tag i p W)(e:p r=.kr b cs t):W.heap[b]?=some (.cells cs t (0,0))/\tag b=(i,r):=by
 have:=h r;rw[e]at this;exact this
def DM.row(h:DM tag i p W)(q:p r=.row e sz v n xs):W.ownsRow 0 e sz v n xs/\∀g,v.ownBlock=some g->tag g=(i,r):=by
 have:=h r;rw[q]at this;exact this
variable{rs:zE}
def DM.rr(h:DM tag i p W)(q:p r=.rr v rs):RR W v rs/\∀g,Value.kr v=some g->tag g=(i,r):=by
 have:=h r;rw[q]at this;exact this
def DM.cell(h:DM tag i p W)(e:p r=.kr b cs t)(a:cs[j]?=some v):W (b,j)=some v:=za (h.kr e).1 a
def DM.fz(h:DM tag i p W)(e:p r=.kr b cs t)(j:Nat):W.frozen? ⟨b,j,none⟩=false:=zd (h.kr e).1
def DM.set(h:DM tag i p W)(e:p r=.kr b cs t)(v:rU)(m:p' r=.kr b (cs.setIfInBounds j v) t)(a:∀q,q≠r->p' q=p q):DM tag i p' (W.setCell (b,j) v):=by
 obtain⟨o,tb⟩:=h.kr e;refine h.lq (S:=λg=>g=b) (λq=>q=r) ((C9.refl (λg=>g=b) W).setCell (p:=(b,j)) rO v) (λg e=>⟨r,rfl,by rw[e,tb]⟩) (λ_ _=>rfl) (λq a=>?_)<|λq e=>a q e;subst a;rw[m];exact⟨zc o,tb⟩
end
section
variable {W:rT}
variable{N cap:Nat}
def SW(v:rU)(h:W.ownsRow 0 e 1 (.slice g N cap) N xs):(W.setCell (g,i) v).ownsRow 0 e 1 (.slice g N cap) N (xs.set i v):=by
 have m:=h.1;rcases h.2 with⟨e,_⟩|⟨A,a,h,e,_,n,q,u,y,z⟩
 .cases e
 cases e;refine⟨by rw[BL];exact m,.inr ⟨g,cap,_,rfl,AK _,zc n,q,u,by simp[y],?_⟩⟩;rw[<-z];simp[Cn]
def Gd(h:W.ownsRow 0 e 1 (.slice g N cap) N xs)(a:xs[i]?=some v):W (g,i)=some v/\W.frozen? ⟨g,i,none⟩=false:=by
 have g:=h.1;rcases h.2 with⟨e,_⟩|⟨q,g,h,e,_,m,u,y,z,n⟩
 .cases e
 cases e;have e:=(AO.1 a).1;refine⟨za m ?_,zd m⟩;rw[<-n,B9 I,Ba]at a;exact a
def JA(h:W.ownsRow 0 e sz v N xs)(q:0<N):∃g a,v=.slice (some ⟨g,0,none⟩) N a/\N<=a/\a<=maxLen:=by
 rcases h.2 with⟨_,e⟩|⟨g,a,e,rfl,_,_,m,n,_⟩
 .omega
 exact⟨g,a,rfl,m,n⟩
end
def Dx(tag:qr)(i:Nat)(W:rT)(P:(Nat->Pc)->Prop)(W':rT):Prop:=∃tag' p,P p/\DM tag' i p W'/\DK i tag tag' W W'/\C9 (λg=>(tag g).1=i) W W'
section
variable {tag:qr} {W W0 W1 W2:rT} {i:Nat} {P Q:(Nat->Pc)->Prop}
def Dx.lR(h:Dx tag i W P W1)(m:C9 DA W1 W2):Dx tag i W P W2:=by
 obtain⟨tag',p,e,g,a,n⟩:=h;exact⟨tag',p,e,g.kI m,⟨a.lH,a.new,a.z.mod m⟩,n.trans<|m.mono rQ⟩
def Dx.lJ(n:zL tag W)(hi:0<i)(m:C9 DA W W0)(h:Dx tag i W0 P W1):Dx tag i W P W1:=by
 obtain⟨tag',p,a,g,e,q⟩:=h;refine⟨tag',p,a,g,⟨λg a=>e.lH g<|Au a m.size,λg a=>?_,e.z⟩,(m.mono rQ).then q<|λg a=>.inl a⟩;by_cases h:g<W0.heap.size
 .exact .inr (by rw[e.lH g h];exact n g a)
 exact e.new g I
def Dx.trans(e:DK i tag tag' W W1)(m:C9 (λg=>(tag g).1=i) W W1)(h:Dx tag' i W1 P W2):Dx tag i W P W2:=by
 obtain⟨a,p,n,q,u,y⟩:=h;refine⟨a,p,n,q,e.trans u m.size,m.then y<|λg a=>?_⟩;by_cases q:g<W.heap.size
 .exact .inl (by rw[<-e.lH g q];exact a)
 exact .inr I
def Dx.mono(h:Dx tag i W P W1)(q:∀p,P p->Q p):Dx tag i W Q W1:=by
 obtain⟨tag',p,a,h⟩:=h;exact⟨tag',p,q p a,h⟩
end
structure SO where
 data:qq
 fin:Bool
 cut:Bool
 kD:Nat
 end_:Nat
structure SI where
 data:qq
 there:List Bool
 high:Nat
 end_:Nat
 ended:Bool
 reset:Bool
 kD:Nat
 read:Nat
 state:Nat
structure SS where
 kj:Nat
 kT:Nat
 total:Nat
 now:Nat
 closed:Nat
 said:Bool
 kH:Nat
 kN:DO
 lx:DO
 due:List Nat
 outs:Nat->SO
 ins:Nat->SI
 kS:Nat->Nat
 kE:Nat
 given:Nat->Nat
 all:Nat
 waits:List DF
 last:Nat
 any:Bool
 seen:List Nat
 most:Nat
 some_:Bool
 kG:List (Nat×qq)
 high:List Nat
structure SV where
 gb:Nat
 gv:rU
 eb:Nat
 ev:rU
 due:rU
 outs:rU
 ins:rU
 kS:rU
 given:rU
 waits:rU
 seen:rU
 kG:rU
 high:rU
 ob:Nat->Nat
 ib:Nat->Nat
 dv:Nat->rU
 tv:Nat->rU
def zq(b:Nat):rU:=.pointer b
def ES(l:List Nat):List rU:=l.map λn:Nat=>.int .u64 n
def Gp(l:List Bool):List rU:=l.map .bool
def zz(s:SS)(V:SV):List rU :=
 [.int .i64 s.kj,.int .i64 s.kT,.int .i64 s.total,.int .u64 s.now,.int .i64 s.closed,.bool s.said,.int .u64 s.kH,zq V.gb,zq V.eb,V.due,V.outs,V.ins,V.kS,.int .u64 s.kE,V.given,.int .u64 s.all,V.waits,.int .u64 s.last,.bool s.any,V.seen,.int .u64 s.most,.bool s.some_,V.kG,V.high]
def E5(o:SO):Array rU:=#[.string (zy o.data),.bool o.fin,.bool o.cut,.int .i64 o.kD,.int .u64 o.end_]
def Ee(x:SI)(a e:rU):Array rU:=#[a,e,.int .u64 x.high,.int .u64 x.end_,.bool x.ended,.bool x.reset,.int .u64 x.kD,.int .u64 x.read,.int .i64 x.state]
def JG(s:DO)(v:rU):Array rU:=#[v,.int .u64 s.fl,.int .i64 s.most]
def DV(b:Nat)(s:SS)(V:SV):Nat->Pc
 | 1=>.kr b (zz s V).toArray 91
 | 2=>.kr V.gb (JG s.kN V.gv) 106
 | 3=>.rr V.gv s.kN.rs
 | 4=>.kr V.eb (JG s.lx V.ev) 106
 | 5=>.rr V.ev s.lx.rs
 | 6=>.row 34 1 V.due s.due.length<|ES s.due
 | 7=>.row 92 1 V.outs 8<|(List.range 8).map λk=>zq<|V.ob k
 | 8=>.row 95 1 V.ins 8<|(List.range 8).map λk=>zq<|V.ib k
 | 9=>.row 34 1 V.kS 8<|ES<|(List.range 8).map s.kS
 | 10=>.row 34 1 V.given 8<|ES<|(List.range 8).map s.given
 | 11=>.row 48 10 V.waits s.waits.length<|zs s.waits
 | 12=>.row 34 1 V.seen s.seen.length<|ES s.seen
 | 13=>.row 134 2 V.kG s.kG.length<|zZ s.kG
 | 14=>.row 34 1 V.high s.high.length<|ES s.high
 | _=>.no
def D7(s:SS)(V:SV)(q k:Nat):Pc :=
 if q=0 then .kr (V.ob k) (E5<|s.outs k) 94
 else if q=1 then .kr (V.ib k) (Ee (s.ins k) (V.dv k)<|V.tv k) 98
 else if q=2 then .row 5 1 (V.dv k) (s.ins k).data.length (zS (s.ins k).data)
 else .row 4 1 (V.tv k) (s.ins k).there.length (Gp (s.ins k).there)
def EC(b:Nat)(s:SS)(V:SV)(r:Nat):Pc :=
 if r<16 then DV b s V r else if r<48 then D7 s V ((r-16) / 8) ((r-16) % 8)else .no
def zj(tag:qr)(i b:Nat)(s:SS)(V:SV)(W:rT):Prop:=DM tag i (EC b s V) W
def Db(tag:qr)(i b:Nat)(W:rT)(s':SS)(W':rT):Prop:=Dx tag i W (λp=>∃V',p=EC b s' V') W'
def Ez(tag:qr)(i b:Nat)(W:rT)(r:rU)(s':SS)(e:Ending)(W':rT):Prop:=e=.returned r/\Db tag i b W s' W'
variable{s:SS}
def GM{V:SV}(h:r<16):EC b s V r=DV b s V r:=AL h
variable{q:Nat}
def GL{V:SV}(a:q<4)(e:k<8):EC b s V (16+8*q+k)=D7 s V q k:=by
 unfold EC;rw[AH I,AL I,(I:(16+8*q+k-16) / 8=q),(I:(16+8*q+k-16) % 8=k)]
def Ia{s':SS}{V V':SV}{R:Nat->Prop}(u:∀r,r<16->¬R r->DV b s' V' r=DV b s V r)(y:∀q k,q<4->k<8->¬R (16+8*q+k)->D7 s' V' q k=D7 s V q k):∀r,¬R r->EC b s' V' r=EC b s V r:=by
 intro r m;by_cases h:r<16
 .rw[GM h,GM h];exact u r h m
 by_cases n:r<48
 .obtain⟨q,k,e,a,g⟩:∃q k,r=16+8*q+k/\q<4/\k<8:=⟨(r-16) / 8,(r-16) % 8,I,I,I⟩;subst e;rw[GL a g,GL a g];exact y q k a g m
 unfold EC;rw[AH h,AH n,AH h,AH n]
section
variable {tag tag':qr} {i b:Nat} {s s':SS} {V V':SV} {W W':rT}
def zj.hd(h:zj tag i b s V W)(a:(zz s V)[j]?=some v):W (b,j)=some v :=
 DM.cell (r:=1) (cs:=(zz s V).toArray) h rfl (by rw[BF];exact a)
def zj.fz(h:zj tag i b s V W)(j:Nat):W.frozen? ⟨b,j,none⟩=false:=DM.fz (r:=1) (cs:=(zz s V).toArray) h rfl j
def zj.tb(h:zj tag i b s V W):tag b=(i,1):=(DM.kr (r:=1) (cs:=(zz s V).toArray) h rfl).2
def zj.so(h:zj tag i b s V W)(a:k<8):W.heap[V.ob k]?=some (.cells (E5 (s.outs k)) 94 (0,0))/\tag (V.ob k)=(i,16+8*0+k) :=
 DM.kr (p:=EC b s V) h (by rw[GL I a];rfl)
def zj.si(h:zj tag i b s V W)(a:k<8):W.heap[V.ib k]?=some (.cells (Ee (s.ins k) (V.dv k) (V.tv k)) 98 (0,0))/\tag (V.ib k)=(i,16+8*1+k) :=
 DM.kr (p:=EC b s V) h (by rw[GL I a];rfl)
def zj.sd(h:zj tag i b s V W)(a:k<8):OB W (V.dv k) (s.ins k).data/\∀g,(V.dv k).ownBlock=some g->tag g=(i,16+8*2+k) :=
 DM.row (p:=EC b s V) h (by rw[GL I a];rfl)
def zj.st(h:zj tag i b s V W)(a:k<8):W.ownsRow 0 4 1 (V.tv k) (s.ins k).there.length (Gp (s.ins k).there)/\∀g,(V.tv k).ownBlock=some g->tag g=(i,16+8*3+k) :=
 DM.row (p:=EC b s V) h (by rw[GL I a];rfl)
def zj.left(h:zj tag i b s V W)(a:zL tag W)(m:C9 DA W W'):Db tag i b W s W':=⟨tag,_,⟨V,rfl⟩,h.kI m,DK.same a m,m.mono rQ⟩
def zj.pM(h:zj tag i b s V W)(a:zz s' V'=(zz s V).set j v)(e:∀r,r≠1->DV b s' V' r=DV b s V r)(g:∀q k,q<4->k<8->D7 s' V' q k=D7 s V q k):zj tag i b s' V' (W.setCell (b,j) v):=by
 refine DM.set (r:=1) (cs:=(zz s V).toArray) h rfl v ?_ (Ia (R:=λr=>r=1) (λr _ h=>e r h)<|λq k e h _=>g q k e h);rw[Ab,<-a];rfl
def zj.nf(h:zj tag i b s V W)(a:k<8){o:SO}(e:E5 o=(E5 (s.outs k)).setIfInBounds j v):zj tag i b { s with outs:=zh s.outs k o } V (W.setCell (V.ob k,j) v):=by
 refine DM.set (r:=16+8*0+k) (cs:=E5<|s.outs k) h (by rw[GL I a];rfl) v ?_<|Ia (R:=λr=>r=16+8*0+k) (λr _ g=>rfl)<|λq j h m g=>?_
 .rw[GL I a];simp only[D7,zf,Aq];rw[e]
 unfold D7;by_cases e:q=0
 .rw[AL e,AL e];show Pc.kr _ (E5<|zh s.outs k o j) _=_;rw[zl _ _ I]
 rw[AH e,AH e]
def zj.qB(h:zj tag i b s V W)(a:k<8){x:SI}(hd:x.data=(s.ins k).data)(e:x.there=(s.ins k).there)(g:Ee x (V.dv k) (V.tv k)=(Ee (s.ins k) (V.dv k) (V.tv k)).setIfInBounds j v):zj tag i b { s with ins:=zh s.ins k x } V (W.setCell (V.ib k,j) v):=by
 refine DM.set (r:=16+8*1+k) (cs:=Ee (s.ins k) (V.dv k)<|V.tv k) h (by rw[GL I a];rfl) v ?_<|Ia (R:=λr=>r=16+8*1+k) (λr _ h=>rfl)<|λq j m n h=>?_
 .rw[GL I a];simp only[D7,zf,Aq,Nat.one_ne_zero,BE];rw[g]
 unfold D7;by_cases c:j=k
 .subst c;simp only[zf,hd,e];by_cases e:q=1
  .omega
  rw[AH e,AH e]
 simp only[zl _ _ c]
end
def SS.of(s:SS)(k:Int):Nat:=if s.closed≠0 then 12 else if k<0\/8<=k then 2 else 0
def PE{k:Int}(a:s.of k=0):∃q:Nat,k=(q:Int)/\q<8:=by
 unfold SS.of at a;split at a
 .cases a
 split at a
 .cases a
 exact⟨k.toNat,I,I⟩
section
variable {tag:qr} {i b:Nat} {s:SS} {V:SV} {W:rT}
def N7(h:zj tag i b s V W)(k:Int):rH 93 #[zq b,[k]] W λe W'=>e=.returned (.int .i64 (s.of k:Int))/\W=W':=by
 have e:=h.hd (j:=4) rfl;unfold SS.of zq;clear h;by_cases a:s.closed=0
 .rw[a]at e;by_cases e:k<0
  .simp only[a,e,true_or,ne_eq,Av,BE,Aq];clear a;go_enter func93,ntmps93;go_wp2;go_ret;exact rM
  by_cases g:8<=k
  .simp only[a,g,or_true,ne_eq,Av,BE,Aq];clear a;go_enter func93,ntmps93;go_wp2;go_ret;exact rM
  simp only[a,e,g,or_self,ne_eq,Av,BE,Aq];clear a;go_enter func93,ntmps93;go_wp2;go_ret;exact rM
 have hb:((s.closed:Int)==0)=false:=AM.2 I;simp only[a,ne_eq,Ae,Aq];clear a;go_enter func93,ntmps93;go_wp2;go_ret;exact rM
def SU(h:zj tag i b s V W):rH 19 #[zq b] W λe W'=>e=.returned (.int .i64 s.closed)/\W=W':=by
 have a:=h.hd (j:=4) rfl;unfold zq;clear h;go_enter func19,ntmps19;go_wp2;go_ret;exact rM
def SS.close(s:SS):Nat×SS:=if s.closed≠0 then(12,s)else(0,{ s with closed:=12 })
def gX(h:zj tag i b s V W)(a:zL tag W):rH 61 #[zq b] W (Ez tag i b W (.int .i64 s.close.1) s.close.2):=by
 have m:=h.hd (j:=4) rfl;have e:=h.fz 4;have n:=zb<|h.left a rS;have e:zj tag i b { s with closed:=12 } V (W.setCell (U b 4)<|.int .i64 12):=h.pM rfl (λr g=>by unfold DV;split<;>first|rfl|exact absurd rfl g) (λ_ _ _ _=>rfl);have H:=zb (show Db tag i b W { s with closed:=12 } (W.setCell (U b 4)<|.int .i64 12)from⟨tag,_,⟨V,rfl⟩,e,DK.same a<|(C9.refl (λg=>g=b) _).setCell (p:=U b 4) rO _,rS.setCell (p:=U b 4) (.inl<|by show(tag b).1=i;rw[h.tb]) _⟩);unfold SS.close zq;clear h e a;by_cases a:s.closed=0
 .rw[a]at m;simp only[a,ne_eq,Av,BE];clear a;go_enter func61,ntmps61;go_wp2;go_ret;exact⟨rfl,H.z⟩
 have hb:((s.closed:Int)==0)=false:=AM.2 I;simp only[a,ne_eq,Ae,Aq];clear a;go_enter func61,ntmps61;go_wp2;go_ret;exact⟨rfl,n.z⟩
end
section
variable {tag:qr} {i b:Nat} {s s':SS} {V V':SV} {W W':rT}
def zj.mD(h:zj tag i b s' V' W')(a:zL tag W)(m:C9 (λg=>(tag g).1=i) W W'):Db tag i b W s' W':=⟨tag,_,⟨V',rfl⟩,h,DK.same a m,m⟩
def zj.oB(h:zj tag i b s V W)(q:DV b s V r=.row e 1 v 8 xs)(e:r<16)(m:(zz s V)[j]?=some v):∃g a,v=.slice (some ⟨g,0,none⟩) 8 a/\8<=a/\a<=maxLen/\W (b,j)=some (.slice (some ⟨g,0,none⟩) 8 a)/\tag g=(i,r)/\∀(k:Nat) (x:rU),xs[k]?=some x->W ⟨g,k,none⟩=some x/\W.frozen? ⟨g,k,none⟩=false:=by
 obtain⟨o,t⟩:=DM.row (p:=EC b s V) h (by rw[GM e];exact q);obtain⟨g,a,rfl,n,u⟩:=JA o I;exact⟨g,a,rfl,n,u,h.hd m,t g rfl,λk x a=>Gd o a⟩
def zj.oS(h:zj tag i b s V W):∃g a,8<=a/\a<=maxLen/\W (b,10)=some (.slice (some ⟨g,0,none⟩) 8 a)/\∀k,k<8->W ⟨g,k,none⟩=some (.pointer (some ⟨V.ob k,0,none⟩)):=by
 obtain⟨g,a,_,e,m,n,_,q⟩:=h.oB (r:=7) (j:=10) rfl I rfl;exact⟨g,a,e,m,n,λk a=>(q k _<|by rw[Ad,List.getElem?_range a];rfl).1⟩
def zj.qM(h:zj tag i b s V W):∃g a,8<=a/\a<=maxLen/\W (b,11)=some (.slice (some ⟨g,0,none⟩) 8 a)/\∀k,k<8->W ⟨g,k,none⟩=some (.pointer (some ⟨V.ib k,0,none⟩)):=by
 obtain⟨g,a,_,e,m,n,_,q⟩:=h.oB (r:=8) (j:=11) rfl I rfl;exact⟨g,a,e,m,n,λk a=>(q k _<|by rw[Ad,List.getElem?_range a];rfl).1⟩
def zj.oc(h:zj tag i b s V W)(a:k<8)(e:(E5 (s.outs k))[j]?=some v):W (V.ob k,j)=some v:=za (h.so a).1 e
def zj.ic(h:zj tag i b s V W)(a:k<8)(e:(Ee (s.ins k) (V.dv k) (V.tv k))[j]?=some v):W (V.ib k,j)=some v:=za (h.si a).1 e
def zj.of(h:zj tag i b s V W)(a:k<8)(j:Nat):W.frozen? ⟨V.ob k,j,none⟩=false:=zd (h.so a).1
def zj.oE(h:zj tag i b s V W)(a:k<8)(j:Nat):W.frozen? ⟨V.ib k,j,none⟩=false:=zd (h.si a).1
def zj.mo(h:zj tag i b s V W)(a:k<8)(j:Nat)(v:rU):C9 (λg=>(tag g).1=i) W (W.setCell (V.ob k,j) v):=(C9.refl _ W).setCell (p:=(V.ob k,j)) (.inl (by show(tag (V.ob k)).1=i;rw[(h.so a).2])) v
def zj.mi(h:zj tag i b s V W)(a:k<8)(j:Nat)(v:rU):C9 (λg=>(tag g).1=i) W (W.setCell (V.ib k,j) v):=(C9.refl _ W).setCell (p:=(V.ib k,j)) (.inl (by show(tag (V.ib k)).1=i;rw[(h.si a).2])) v
def zj.mh(h:zj tag i b s V W)(j:Nat)(v:rU):C9 (λg=>(tag g).1=i) W (W.setCell (b,j) v):=(C9.refl _ W).setCell (p:=(b,j)) (.inl (by show(tag b).1=i;rw[h.tb])) v
def SS.finish(s:SS)(k:Int):Nat×SS :=
 if s.of k≠0 then(s.of k,s)else if (s.outs k.toNat).fin||(s.outs k.toNat).cut then(4,s)else(0,{ s with outs:=zh s.outs k.toNat { s.outs k.toNat with fin:=true } })
def ip(h:zj tag i b s V W)(y:zL tag W)(k:Int):rH 55 #[zq b,[k]] W (Ez tag i b W (.int .i64 ((s.finish k).1:Int)) (s.finish k).2):=by
 have a:=N7 h k;have z:=zb<|h.left y rS;unfold SS.finish zq;unfold zq at a;by_cases e:s.of k=0
 .obtain⟨q,rfl,u⟩:=PE e;rw[e]at a;simp only[e,Am,ne_eq,Av,BE];obtain⟨A,m⟩:=nm<|(s.outs q).fin;obtain⟨B,n⟩:=nm<|(s.outs q).cut;obtain⟨g,D,K,E,G,C⟩:=h.oS;have G:=C q u;have c1:W (V.ob q,1)=some (.bool A):=by rw[<-m];exact h.oc u rfl
  have c2:W (V.ob q,2)=some (.bool B):=by rw[<-n];exact h.oc u rfl
  have K:=h.of u 1;have D:=h.nf (j:=1) u (v:=.bool true) (o:={ s.outs q with fin:=true }) rfl;have H:=zb<|D.mD y<|h.mo u 1 _;obtain⟨u,g⟩:∃u:SS,{ s with outs:=zh s.outs q { s.outs q with fin:=true } }=u:=⟨_,rfl⟩;rw[g]at H ⊢;rw[m,n];unfold maxLen at E;obtain⟨E,u⟩:=nm<|V.ob q;rw[u]at G c1 c2 K H;clear h D y m n e g C u;cases A
  .cases B
   .go_enter func55,ntmps55;go_wp2_with (go_at_call 93;refine a.mono ?_;rintro _ _ ⟨rfl,rfl⟩);go_ret;exact⟨rfl,H.z⟩
   go_enter func55,ntmps55;go_wp2_with (go_at_call 93;refine a.mono ?_;rintro _ _ ⟨rfl,rfl⟩);go_ret;exact⟨rfl,z.z⟩
  go_enter func55,ntmps55;go_wp2_with (go_at_call 93;refine a.mono ?_;rintro _ _ ⟨rfl,rfl⟩);go_ret;exact⟨rfl,z.z⟩
 obtain⟨n,g⟩:=nm<|s.of k;rw[g]at a e;simp only[g,e,ne_eq,Ae,Aq];have hb:((n:Int)==0)=false:=AM.2 I;clear h y g e;go_enter func55,ntmps55;go_wp2_with (go_at_call 93;refine a.mono ?_;rintro _ _ ⟨rfl,rfl⟩);go_ret;exact⟨rfl,z.z⟩
end
def R6(a b:qq):zy a++zy b=zy (a++b):=by
 apply ByteArray.ext;simp[zy]
section
variable {tag:qr} {i b:Nat} {s s':SS} {V V':SV} {W W':rT}
def SS.send(s:SS)(k:Int)(l:qq):Nat×SS :=
 if s.of k≠0 then(s.of k,s)else if (s.outs k.toNat).fin||(s.outs k.toNat).cut then(4,s)else if 2048<(s.outs k.toNat).data.length+l.length then(3,s)else(0,{ s with outs:=zh s.outs k.toNat { s.outs k.toNat with data:=(s.outs k.toNat).data++l } })
def eW(h:zj tag i b s V W)(A:zL tag W)(k:Int)(l:qq)(g:l.length<=1099511627776)(u:∀k,k<8->(s.outs k).data.length<=1099511627776):rH 53 #[zq b,.int .i64 k,.string (zy l)] W (Ez tag i b W (.int .i64 ((s.send k l).1:Int)) (s.send k l).2):=by
 have e:=N7 h k;have B:=zb<|h.left A rS;unfold SS.send zq;unfold zq at e;by_cases y:s.of k=0
 .obtain⟨q,rfl,m⟩:=PE y;rw[y]at e;simp only[y,Am,ne_eq,Av,BE];obtain⟨D,n⟩:=nm<|(s.outs q).fin;obtain⟨E,z⟩:=nm<|(s.outs q).cut;obtain⟨g,C,M,L,K,G⟩:=h.oS;have M:=G q m;have c1:W (V.ob q,1)=some (.bool D):=by rw[<-n];exact h.oc m rfl
  have c2:W (V.ob q,2)=some (.bool E):=by rw[<-z];exact h.oc m rfl
  have c0:W (V.ob q,0)=some (.string<|zy (s.outs q).data):=h.oc m rfl;have f0:=h.of m 0;have K:=h.nf (j:=0) m (v:=.string<|zy<|(s.outs q).data++l) (o:={ s.outs q with data:=(s.outs q).data++l }) rfl;have H:=zb<|K.mD A<|h.mo m 0 _;obtain⟨C,g⟩:∃C:SS,{ s with outs:=zh s.outs q { s.outs q with data:=(s.outs q).data++l } }=C:=⟨_,rfl⟩;have C:=u q m;obtain⟨d,hd⟩:=nm<|(s.outs q).data;rw[g]at H ⊢;rw[n,z,hd];rw[hd]at C H c0;unfold maxLen at L;obtain⟨C,m⟩:=nm<|V.ob q;rw[m]at M c1 c2 c0 f0 H;have q:=zM l;have q:=zM d;clear h K A n z y g G m u hd;cases D
  .cases E
   .by_cases a:2048<d.length+l.length
    .have N:(2048:Int)-d.length<l.length:=I;simp only[a,Bool.or_self,BT,BE,Aq];clear a;go_enter func53,ntmps53;go_wp2_with (go_at_call 93;refine e.mono ?_;rintro _ _ ⟨rfl,rfl⟩);go_ret;exact⟨rfl,B.z⟩
    have N:¬(2048:Int)-d.length<l.length:=I;have g:=R6 d l;simp only[a,Bool.or_self,BT,BE];clear a;go_enter func53,ntmps53;go_wp2_with (go_at_call 93;refine e.mono ?_;rintro _ _ ⟨rfl,rfl⟩);go_ret;exact⟨rfl,H.z⟩
   go_enter func53,ntmps53;go_wp2_with (go_at_call 93;refine e.mono ?_;rintro _ _ ⟨rfl,rfl⟩);go_ret;exact⟨rfl,B.z⟩
  go_enter func53,ntmps53;go_wp2_with (go_at_call 93;refine e.mono ?_;rintro _ _ ⟨rfl,rfl⟩);go_ret;exact⟨rfl,B.z⟩
 obtain⟨n,a⟩:=nm<|s.of k;rw[a]at e y;simp only[a,y,ne_eq,Ae,Aq];have hb:((n:Int)==0)=false:=AM.2 I;clear h A a y u;go_enter func53,ntmps53;go_wp2_with (go_at_call 93;refine e.mono ?_;rintro _ _ ⟨rfl,rfl⟩);go_ret;exact⟨rfl,B.z⟩
end
def OH{α : Type}(f:Nat -> α)(k:Nat)(x y : α):zh (zh f k x) k y=zh f k y:=by
 funext j;by_cases h:j=k
 .rw[h,zf,zf]
 rw[zl _ _ h,zl _ _ h,zl _ _ h]
def SO.mT(o:SO)(n h:Nat):SO :=
 {o with end_:=if o.cut then o.end_ else max n h,kD:=if !o.cut||decide (n<o.kD)then n else o.kD,cut:=true }
def SS.reset(s:SS)(k kD:Int):Nat×SS :=
 if s.of k≠0 then(s.of k,s)else(0,{ s with outs:=zh s.outs k.toNat ((s.outs k.toNat).mT (min kD.toNat (s.outs k.toNat).data.length)<|s.high.getD k.toNat 0) })
section
variable {tag:qr} {i b:Nat} {s s':SS} {V V':SV} {W W':rT}
def zj.my{o o':SO}(h:zj tag i b { s with outs:=zh s.outs k o } V W)(a:k<8)(e:E5 o'=(E5 o).setIfInBounds j v):zj tag i b { s with outs:=zh s.outs k o' } V (W.setCell (V.ob k,j) v):=by
 have:=h.nf (j:=j) a (v:=v) (o:=o') (by show _=(E5<|zh s.outs k o k).setIfInBounds j v;rw[zf];exact e);rw[show zh ({ s with outs:=zh s.outs k o }:SS).outs k o'=zh s.outs k o' from OH _ _ _ _]at this;exact this
def zj.l8{x x':SI}(h:zj tag i b { s with ins:=zh s.ins k x } V W)(a:k<8)(hd:x'.data=x.data)(g:x'.there=x.there)(m:Ee x' (V.dv k) (V.tv k)=(Ee x (V.dv k) (V.tv k)).setIfInBounds j v):zj tag i b { s with ins:=zh s.ins k x' } V (W.setCell (V.ib k,j) v):=by
 have e:({ s with ins:=zh s.ins k x }:SS).ins k=x:=zf _ _ _;have:=h.qB (j:=j) a (v:=v) (x:=x') (by rw[e];exact hd) (by rw[e];exact g) (by rw[e];exact m);rw[show zh ({ s with ins:=zh s.ins k x }:SS).ins k x'=zh s.ins k x' from OH _ _ _ _]at this;exact this
def zj.nums(h:zj tag i b s V W){l:List Nat}(q:DV b s V r=.row 34 1 v l.length (ES l))(m:r<16)(n:(zz s V)[j]?=some v):∃a e,v=.slice a l.length e/\l.length<=e/\e<=maxLen/\W (b,j)=some (.slice a l.length e)/\(0<l.length->∃g,a=some ⟨g,0,none⟩/\tag g=(i,r)/\∀(k x:Nat),l[k]?=some x->W ⟨g,k,none⟩=some (.int .u64 x)/\W.frozen? ⟨g,k,none⟩=false):=by
 obtain⟨o,t⟩:=DM.row (p:=EC b s V) h (by rw[GM m];exact q);obtain⟨a,e,rfl,u,y,z⟩:=zi o;refine⟨a,e,rfl,u,y,h.hd n,λA=>?_⟩;obtain⟨g,rfl⟩:=z A;exact⟨g,rfl,t g rfl,λk x a=>Gd o<|by unfold ES;rw[Ad,a];rfl⟩
def gW(h:zj tag i b s V W)(ht:zL tag W)(k kD:Int)(A:∀k,k<8->(s.outs k).data.length<=1099511627776):rH 57 #[zq b,.int .i64 k,[kD]] W (Ez tag i b W (.int .i64 ((s.reset k kD).1:Int)) (s.reset k kD).2):=by
 have ks:=N7 h k;have H0:=zb<|h.left ht rS;unfold SS.reset zq;unfold zq at ks;by_cases B:s.of k=0
 .obtain⟨q,rfl,a⟩:=PE B;rw[B]at ks;simp only[B,Am,ne_eq,Av,BE];obtain⟨o,y⟩:=nm<|s.outs q;have aa:=y;obtain⟨u,C⟩:=nm kD.toNat;obtain⟨n,D⟩:=nm<|min u o.data.length;have ab:=zb C;have c4:W (V.ob q,4)=some (.int .u64 o.end_):=by rw[<-aa];exact h.oc a rfl
  obtain⟨x,hx⟩:=nm<|s.high.getD q 0;obtain⟨g,E,h1,h2,ak,hp⟩:=h.oS;have E:=hp q a;have c0:W (V.ob q,0)=some (.string<|zy o.data):=by rw[<-y];exact h.oc a rfl
  have c2:W (V.ob q,2)=some (.bool o.cut):=by rw[<-y];exact h.oc a rfl
  obtain⟨Y,E⟩:=nm o.cut;have ac:=zb E;rw[E]at c2;have c3:W (V.ob q,3)=some (.int .i64 o.kD):=by rw[<-y];exact h.oc a rfl
  have f2:=h.of a 2;have f3:=h.of a 3;have f4:=h.of a 4;obtain⟨ha,aj,hv,al,ad,ae,hh⟩:=h.nums (r:=14) (j:=23) rfl I rfl;have hS:zj tag i b { s with outs:=zh s.outs q o } V W:=by
   rw[<-y,Fx];exact h
  have af:=A q a;have am:=zM o.data;have ag:=h2;unfold maxLen at h2 ad;have hM:=h.mo a;have ah:=h.tb;rw[y]at af ⊢;rw[C,D,hx];have HS:=zb hS;have HT:=zb ht;have HO:=zb D;have G:=zb hx;have an:n<=o.data.length:=I;clear h hS ht B hM ah A hh D hx ag y hv C aa E;go_enter func57,ntmps57;go_upto_if 23 with(go_at_call 93;refine ks.mono ?_;rintro _ _ ⟨rfl,rfl⟩)
  go_cut [2] (λkv Z=>kv=.int .i64 u/\Z=W)
  case first=>as_aux_lemma =>
   by_cases h0:kD<0
   .have K:(u:Int)=0:=qm ab.z;go_wp2;go_meet;exact⟨by rw[K],rfl⟩
   have K:kD=(u:Int):=qm ab.z;subst K;go_wp2;go_meet;exact rM
  case rest =>
  obtain⟨rfl,M⟩:=hcut;replace M:=M.symm;subst M;go_upto_if 30 with fail
  go_cut [2] (λkv Z=>kv=.int .i64 n/\Z=W)
  case first=>as_aux_lemma =>
   have y:=HO.z;by_cases h0:o.data.length<u
   .have d0:(o.data.length:Int)<(u:Int):=I;have e:n=o.data.length:=I;subst e;clear h0;go_wp2;go_meet;exact rM
   have d0:¬(o.data.length:Int)<(u:Int):=I;have e:n=u:=I;subst e;clear h0;go_wp2;go_meet;exact rM
  case rest =>
  obtain⟨rfl,M⟩:=hcut;replace M:=M.symm;subst M;go_upto_if 40 with fail;obtain⟨N,u⟩:=nm<|(if Y then o.end_ else max n x);have z:=zb u;clear u
  go_cut [] (λZ=>AA (zj tag i b { s with outs:=zh s.outs q { o with end_:=N } } V Z)/\AA (C9 (λg=>(tag g).1=i) W Z))
  case first=>as_aux_lemma =>
   cases Y;rotate_left
   .have e:o.end_=N:=z.z;subst e;go_wp2;go_meet;exact⟨HS,zb rS⟩
   have HM:AA (max n x=N):=z;have u:IntKind.u64.wrap (n:Int)=(n:Int):=by rw[IntKind.wrap_u64];omega
   have m:=HS.z.my (j:=4) a (v:=.int .u64 n) (o':={ o with end_:=n }) rfl;have y:=HS.z.mo a 4<|.int .u64 n;obtain⟨W1,u⟩:=nm<|W.setCell (U (V.ob q) 4)<|.int .u64 n;rw[u]at m y;have O:=zb u;have S1:=zb m;have M1:=zb y;obtain⟨K,C,_,M,Z,E,R⟩:=m.nums (r:=14) (j:=23) rfl I rfl;have C:W1 (V.ob q,4)=some (.int .u64 n):=za (m.so a).1 (by show(E5<|zh s.outs q _ q)[4]?=_;rw[zf];rfl);have C:=m.of a 4;clear m y u ae c0 c3;unfold maxLen at Z;obtain⟨L,hL⟩:=nm s.high.length;have HL:=zb hL;rw[hL]at M E;by_cases X:q<L
   .obtain⟨u,rfl,_,hc⟩:=R (by show 0<s.high.length;omega);have u:s.high[q]?=some x:=by
     have:=G.z;rw[AQ,AG I]at this;rw[AG I];simpa using this
    obtain⟨y,_⟩:=hc q x u;have d1:decide ((q:Int)<(L:Int))=true:=Ah I;clear R hc u hL;by_cases u:n<x
    .have d2:decide ((n:Int)<(x:Int))=true:=Ah I;have H2:∀u,AA (zj tag i b { s with outs:=zh s.outs q { o with end_:=x } } V<|(W1.drewN u).setCell (U (V.ob q) 4)<|.int .u64 x)/\AA (C9 (λg=>(tag g).1=i) W<|(W1.drewN u).setCell (U (V.ob q) 4)<|.int .u64 x):=λu=>by
      have s0:=S1.z.kI<|(C9.refl DA W1).drewN u;exact⟨zb<|zj.my s0 (j:=4) a (v:=.int .u64 x) (o':={ o with end_:=x }) rfl,zb<|(M1.z.drewN u).trans<|zj.mo s0 a 4<|.int .u64 x⟩
     have H2:=zb H2;go_wp2_with fail;rw[O.z];go_quiet (fail);go_wp2;go_meet;have e:x=N:=qm HM.z;subst e;exact H2.z _
    have d2:decide ((n:Int)<(x:Int))=false:=A8 I;go_wp2_with fail;rw[O.z];go_quiet (fail);go_wp2;go_meet;have e:n=N:=qm HM.z;subst e;exact⟨zb<|S1.z.kI<|(C9.refl DA W1).drewN _,zb<|M1.z.drewN _⟩
   have d1:decide ((q:Int)<(L:Int))=false:=A8 I;clear R hL;go_wp2_with fail;rw[O.z];go_quiet (fail);go_wp2;go_meet;have e:n=N:=by
    have h1:=HM.z;have h2:=G.z;rw[AQ,BJ (qm HL.z)]at h2;simp only[Option.getD_none]at h2;omega
   subst e;exact⟨zb<|S1.z.kI<|(C9.refl DA W1).drewN _,zb<|M1.z.drewN _⟩
  case rest =>
  obtain⟨y,hM⟩:=hcut;obtain⟨e,u⟩:∃e:SO,{ o with end_:=N }=e:=⟨_,rfl⟩;have M:o.kD=e.kD:=by rw[<-u]
  have C:Y=e.cut:=by rw[<-ac.z,<-u]
  have HR:AA (({ s with outs:=zh s.outs q (o.mT n x) }:SS)={ s with outs:=zh s.outs q { e with kD:=if !e.cut||decide (n<e.kD)then n else e.kD,cut:=true } }):=by
   show _=_;rw[<-u];unfold SO.mT;simp only[ac.z,z.z]
  rw[u]at y;have c2:wc (V.ob q,2)=some (.bool Y):=za (y.z.so a).1 (by show(E5<|zh s.outs q _ q)[2]?=_;rw[zf,C];rfl);have c3:wc (V.ob q,3)=some (.int .i64 e.kD):=za (y.z.so a).1 (by show(E5<|zh s.outs q _ q)[3]?=_;rw[zf];rfl);have f2:=y.z.of a 2;have f3:=y.z.of a 3;have m:=y.z.my (j:=3) a (v:=.int .i64 n) (o':={ e with kD:=n }) rfl;have E:=m.of a 2;have d2:(wc.setCell (V.ob q,3)<|.int .i64 n) (V.ob q,2)=some (.bool Y):=za (m.so a).1 (by show(E5<|zh s.outs q _ q)[2]?=_;rw[zf,C];rfl);have q:=m.my (j:=2) a (v:=.bool true) (o':={ e with kD:=n,cut:=true }) rfl;have E:=(hM.z.trans<|show C9 (λg=>(tag g).1=i) wc _ from y.z.mo a 3<|.int .i64 n).trans<|show C9 (λg=>(tag g).1=i) _ _ from m.mo a 2<|.bool true;have K:=y.z.my (j:=2) a (v:=.bool true) (o':={ e with cut:=true }) rfl;have L:=hM.z.trans<|show C9 (λg=>(tag g).1=i) wc _ from y.z.mo a 2<|.bool true;have H2:=zb<|q.mD HT.z E;have H3:=zb<|K.mD HT.z L;obtain⟨ok,a⟩:=nm e.kD;rw[a]at c3;rw[<-C,a]at HR;have ai:=zb a;clear y hM m q K E L c0 c4 f4 z G HS u M C a;cases Y
  .go_wp2;go_ret;refine⟨rfl,?_⟩;rw[HR.z];exact H2.z
  by_cases X:n<ok
  .have e:(n:Int)<(ok:Int):=I;have a:AA ((!true||decide (n<ok))=true):=by show _=_;simp[X]
   go_wp2;go_ret;refine⟨rfl,?_⟩;rw[HR.z,a.z];exact H2.z
  have e:¬(n:Int)<(ok:Int):=I;have a:AA ((!true||decide (n<ok))=false):=by show _=_;simp[X]
  go_wp2;go_ret;refine⟨rfl,?_⟩;rw[HR.z,a.z,<-ai.z];exact H3.z
 obtain⟨n,D⟩:=nm<|s.of k;rw[D]at ks B;simp only[D,B,ne_eq,Ae,Aq];have hb:((n:Int)==0)=false:=AM.2 I;clear h ht D B A;go_enter func57,ntmps57;go_wp2_with (go_at_call 93;refine ks.mono ?_;rintro _ _ ⟨rfl,rfl⟩);go_ret;exact⟨rfl,H0.z⟩
end
variable{size t:Nat}
theorem Jl{bytes:Nat}{z:rU}(h:prog.underlying t=some (.slice e))(a:(prog.info? e).map (λi=>(i.zero,i.size,i.bytes))=some (some z,size,bytes))(m:z.cells.size=size)(q:0<size)
  (own:w.ownsRow 0 e size v n xs) (cs:qt) (g:cs.length=size) (y:∀u∈cs,u.oneCell'=true) (A:n<=1099511627776) (hb:bytes<=104) :
  ∃g w',(∀A,(Builtin.append_ #[t,t] A #[v,.slice w 1 1]).run prog (w.alloc<|.cells cs.toArray e)=.ok g w')/\w'.ownsRow 0 e size g (n+1) (xs++cs)/\(w.alloc<|.cells cs.toArray e).grownBy w' v.ownBlock/\Dh (w.alloc<|.cells cs.toArray e) v g:=by
 cases hi:prog.info? e with
 | none=>simp[hi]at a
 | some i =>
  simp[hi]at a;obtain⟨g,A,B⟩:=a;have a:(n+1)*bytes<=(n+1)*104:=Bs _ hb;refine zY (P:=prog) _ t e i z size bytes h hi g A B m q v n xs (((C9.refl DA w).alloc _).owns own<|λ_ _ x=>x) ⟨w.heap.size,0,none⟩ 1 1 cs I (λj u a=>?_) y pi I;rw[EU,An];exact za (heap_alloc_new w _)<|by rw[BF];exact a
section
variable {tag:qr} {i b:Nat} {s s':SS} {V V':SV} {W W1:rT}
def zj.mz(h:zj tag i b s V W)(D:zL tag W)(hi:0<i){E:Nat}(X:2<=r)(z:r<16){n:qt}(u:∀g,v.ownBlock=some g->tag g=(i,r))(own:W1.ownsRow 0 e sz v' E n)(m1:C9 (λg=>v.ownBlock=some g) W W1)(G:Dh W v v')
  (A:DV b s' V' r=.row e sz v' E n) (L:zz s' V'=(zz s V).set j v') (M:∀q,q<16->¬(q=1\/q=r)->DV b s' V' q=DV b s V q) (N:∀q k,q<4->k<8->D7 s' V' q k=D7 s V q k) :
  Db tag i b W s' (W1.setCell (b,j) v'):=by
 have hb:¬v.ownBlock=some b:=λx=>by
  have:=u b x;rw[h.tb]at this;simp at this;omega
 have e:W.heap[b]?=some (.cells (zz s V).toArray 91 (0,0)):=(DM.kr (r:=1) (cs:=(zz s V).toArray) h rfl).1;have O:=m1.obj hb e;have B:=(AJ.1 e).1;have K:C9 (λg=>v.ownBlock=some g\/g=b) W (W1.setCell (b,j) v'):=(m1.mono<|λg a=>.inl<|.inl a).setCell (p:=(b,j)) (.inl<|.inr rfl) _;have R:C9 (λg=>g=b) W1 (W1.setCell (b,j) v'):=(C9.refl (λg=>g=b) _).setCell (p:=(b,j)) rO _;have C:∀g,v'.ownBlock=some g->g≠b:=λg a x=>by
  subst x;rcases G g a with y|y
  .exact hb y
  omega
 refine⟨zT tag W W1 (i,r),_,⟨V',rfl⟩,?_,?_,K.mono<|λg a=>.inl ?_⟩
 .refine DM.lq (p:=EC b s V) h (λq=>q=1\/q=r) K (λg a=>?_) (λg a=>zx<|Ds D (i:=i) (r:=(tag g).2) (by rw[<-a]) hi) (λq m=>?_) (Ia M<|λq k A e _=>N q k A e)
  .rcases a with a|a
   .exact⟨r,.inr rfl,u g a⟩
   exact⟨1,.inl rfl,by rw[a,h.tb]⟩
  rcases m with m|m
  .subst m;refine⟨?_,?_⟩
   .rw[zc O,Ab,<-L]
   rw[zx B,h.tb]
  subst m;rw[GM z,A];refine⟨R.owns own C,λg a=>?_⟩;rcases G g a with y|y
  .rw[zx (Ds D (u g y) hi),u g y]
  rw[FH y (zI own g a)]
 .have:=Gf (i:=i) (r:=r) (tag:=tag) m1.size;exact⟨this.lH,this.new,λg a=>this.z g<|qp a⟩
 rcases a with a|a
 .rw[u g a]
 rw[a,h.tb]
def zj.kD(h:zj tag i b s V W)(m:C9 DA W W1):zj tag i b s V W1:=DM.kI h m
def zj.rowOf(h:zj tag i b s V W)(q:DV b s V r=.row e sz v n xs)(a:r<16):W.ownsRow 0 e sz v n xs/\∀g,v.ownBlock=some g->tag g=(i,r):=DM.row (p:=EC b s V) h (by rw[GM a];exact q)
end
section
variable {tag:qr} {i b:Nat} {s s':SS} {V V':SV} {W W1:rT}
def zj.mu(h:zj tag i b s V W)(s':SS)(m:zz s' V=(zz s V).set j v)(g:(s'.kN,s'.lx,s'.due,s'.kS,s'.given,s'.waits,s'.seen,s'.kG,s'.high,s'.outs,s'.ins)=(s.kN,s.lx,s.due,s.kS,s.given,s.waits,s.seen,s.kG,s.high,s.outs,s.ins)):zj tag i b s' V (W.setCell (b,j) v):=by
 simp only[Bg]at g;obtain⟨n,u,y,z,A,B,C,D,E,a,e⟩:=g;refine h.pM m (λr g=>?_) (λq k _ _=>by unfold D7;rw[a,e]);unfold DV;rw[n,u,y,z,A,B,C,D,E];split<;>first|rfl|exact absurd rfl g
def Jk(id a:Nat)(l:qq):DF:=⟨7,0,0,0,0,false,id,a,l,[]⟩
def SS.kK(s:SS)(id a:Nat)(l:qq):Nat×SS :=
 if s.closed≠0 then(12,s)else
 if 4611686018427387903<id\/4611686018427387903<a\/(s.any=true/\id<=s.last)then(5,s)else
 if s.kj<l.length+40 then(6,s)else
 if s.waits.length=16 then(3,s)else
 (0,{ s with any:=true,last:=id,waits:=if s.now<=a then s.waits++[Jk id a l]else s.waits })
def U3(l:List DF)(f:DF):zs (l++[f])=zs l++(ze f rV).toList:=by simp[zs]
def zj.grow(h:zj tag i b s V W)(A:zL tag W)(hi:0<i){bytes:Nat}{z:rU}(C:2<=r)(g:r<16)(D:prog.underlying t=some (.slice e))(y:(prog.info? e).map (λi=>(i.zero,i.size,i.bytes))=some (some z,size,bytes))(E:z.cells.size=size)(G:0<size)(z:bytes<=104)
  (q:DV b s V r=.row e size v n xs) (cs:qt) (K:cs.length=size) (L:∀u∈cs,u.oneCell'=true) (M:n<=1099511627776) (s':SS) (V':rU->SV)
  (N:∀m,DV b s' (V' m) r=.row e size m (n+1) (xs++cs)) (O:∀m,zz s' (V' m)=(zz s V).set j m) (R:∀m q,q<16->¬(q=1\/q=r)->DV b s' (V' m) q=DV b s V q) (X:∀m q k,q<4->k<8->D7 s' (V' m) q k=D7 s V q k) (Y:j<24) :
  ∃m W1,(∀a,(Builtin.append_ #[t,t] a #[v,.slice W 1 1]).run prog (W.alloc<|.cells cs.toArray e)=.ok m W1) /\
   Db tag i b W s' (W1.setCell (b,j) m)/\W1.frozen? ⟨b,j,none⟩=false/\(∃x,W1.cell? (b,j)=some x)/\∃a c,m=.slice a (n+1) c:=by
 obtain⟨a,u⟩:=h.rowOf q g;obtain⟨m,W1,Z,q,B,n1⟩:=Jl D y E G a cs K L M z;have a:=(C9.refl DA W).alloc<|.cells cs.toArray e;have y:=h.kI a;have L:=zj.mz (s':=s') (V':=V' m) (j:=j) y (A.mod a) hi C g u q (rS.grown B<|λg n=>.inl n) n1 (N m) (O m) (R m)<|X m;have hb:W1.heap[b]?=some (.cells (zz s V).toArray 91 (0,0)):=by
  have z:(W.alloc<|.cells cs.toArray e).heap[b]?=some (.cells (zz s V).toArray 91 (0,0)):=(DM.kr (r:=1) (cs:=(zz s V).toArray) y rfl).1;refine(rS.grown B<|λg n=>.inl n).obj (S:=λg=>v.ownBlock=some g) (λx=>?_) z;have:=u b x;rw[h.tb]at this;simp at this;omega
 obtain⟨e,g,h,_⟩:=zi q;exact⟨m,W1,Z,L.lJ A hi a,zd hb,⟨_,za hb<|by rw[BF,AG (show j<(zz s V).length from Y)]⟩,e,g,h⟩
def OG:(prog.info? 48).map (λi=>(i.zero,i.size,i.bytes))=some (some (.agg #[.int .i64 0,.int .i64 0,.int .u64 0,.int .u64 0,.int .u64 0,.bool false,.int .u64 0,.int .u64 0,.string ⟨#[]⟩,.slice none 0 0]),10,104):=kw
def zj.wait(h:zj tag i b s V W)(n:zL tag W)(hi:0<i)(f:DF)(q:s.waits.length<=1099511627776):∃e W1,(∀a,(Builtin.append_ #[35,35] a #[V.waits,.slice W 1 1]).run prog (W.alloc (.cells (ze f rV) 48))=.ok e W1) /\
   Db tag i b W { s with waits:=s.waits++[f] } (W1.setCell (b,16) e)/\W1.frozen? ⟨b,16,none⟩=false/\(∃x,W1.cell? (b,16)=some x)/\∃a c,e=.slice a (s.waits.length+1) c:=by
 refine h.grow n hi (r:=11) lc lc underlying35 OG rfl lc lc rfl (ze f rV).toList rfl (λu g=>?_) q { s with waits:=s.waits++[f] } (λe=>{ V with waits:=e }) (λe=>?_) (λ_=>rfl) (λ_ q _ m=>?_) (λ_ _ _ _ _=>rfl) lc
 .simp[ze]at g;rcases g with rfl|rfl|rfl|rfl|rfl|rfl|rfl|rfl|rfl|rfl<;>rfl
 .show Pc.row _ _ _ _ _=_;rw[U3,AF];rfl
 unfold DV;split<;>first|rfl|exact absurd rO m|exact absurd (.inr rfl) m
def jn(h:zj tag i b s V W)(X:zL tag W)(hi:0<i)(id m:Nat)(l:qq)(g:l.length<=1099511627776)(hw:s.waits.length<=1099511627776)(hm:s.kj<=65536):rH 59 #[zq b,id,m,.string (zy l)] W (Ez tag i b W (.int .i64 ((s.kK id m l).1:Int)) (s.kK id m l).2):=by
 have M:=zb<|h.left X rS;have c4:=h.hd (j:=4) rfl;have c0:=h.hd (j:=0) rfl;have c3:=h.hd (j:=3) rfl;have af:=h.hd (j:=17) rfl;have ag:=h.hd (j:=18) rfl;have g:=h.fz 17;have g:=h.fz 18;obtain⟨wa,g,B,ah,ai,_⟩:=zi (h.rowOf (r:=11) rfl lc).1;have Y:=h.hd (j:=16) rfl;rw[B]at Y;have K:=h.mu { s with any:=true } (j:=18) (v:=.bool true) rfl rfl;have m1:=h.mh 18<|.bool true;obtain⟨W1,y⟩:=nm<|W.setCell (U b 18)<|.bool true;rw[y]at K m1;have g:=K.hd (j:=17) rfl;have g:=K.fz 17;have N:=K.mu { s with any:=true,last:=id } (j:=17) (v:=.int .u64 id) rfl rfl;have O:=m1.trans<|show C9 (λg=>(tag g).1=i) W1 _ from K.mh 17<|.int .u64 id;obtain⟨W2,z⟩:=nm<|W1.setCell (U b 17)<|.int .u64 id;rw[z]at N O;have k3:=N.hd (j:=3) rfl;have Z:=N.hd (j:=16) rfl;have HL:=zb<|N.mD X O;obtain⟨_,g,a,L3,f3,⟨x3,y3⟩,va,vc,rfl⟩:=N.wait (X.mod O) hi (Jk id m l) hw;have H3:=zb<|Dx.trans (DK.same X O) O L3;rw[B]at Z a;have aa:=zb y;have ab:=zb z;have g:=zM l;obtain⟨r,hr⟩:=nm<|s.kK id m l;have HR:=zb hr;unfold zq;rw[hr];unfold maxLen at ai;obtain⟨n,hn⟩:=nm s.waits.length;have HN:=zb hn;simp only[hn]at Y Z a ah;obtain⟨Z,g⟩:=nm<|W2.alloc<|.cells (ze (Jk id m l)<|.slice none 0 0) 48;rw[g]at a;have C:=zb g;have Y:W2.heap.size=W.heap.size:=by rw[<-z,<-y];simp
 rw[Y]at a;have ac:=zb a;clear h X K N m1 O y z hr L3 hn g hw B a Y;have C:AA (W2.alloc (.cells #[.int .i64 7,.int .i64 0,.int .u64 0,.int .u64 0,.int .u64 0,false,id,m,.string<|zy l,.slice none 0 0] 48)=Z):=C;by_cases D:s.closed=0
 .rw[D]at c4;have bad:(4611686018427387903<id\/4611686018427387903<m\/(s.any=true/\id<=s.last))->AA (r=(5,s)):=λx=>by
   show _=_;rw[<-HR.z];unfold SS.kK;rw[AH I,AL x]
  by_cases R:4611686018427387903<id
  .have e:r=(5,s):=bad<|.inl R;subst e;have g:(4611686018427387903:Int)<id:=I;clear R bad D;go_enter func59,ntmps59;go_wp2;go_ret;exact⟨rfl,M.z⟩
  have g:¬(4611686018427387903:Int)<id:=I;by_cases hB:4611686018427387903<m
  .have e:r=(5,s):=bad<|.inr<|.inl hB;subst e;have g:(4611686018427387903:Int)<m:=I;clear R hB bad D;go_enter func59,ntmps59;go_wp2;go_ret;exact⟨rfl,M.z⟩
  have g:¬(4611686018427387903:Int)<m:=I;obtain⟨an,q⟩:=nm s.any;obtain⟨la,u⟩:=nm s.last;rw[q,u]at bad;rw[q]at ag;rw[u]at af;by_cases E:an=true/\id<=la
  .have e:r=(5,s):=bad<|.inr<|.inr E;subst e;obtain⟨rfl,E⟩:=E;have dC:(id:Int)<=la:=I;clear R hB E bad D q u;go_enter func59,ntmps59;go_wp2;go_ret;exact⟨rfl,M.z⟩
  have G:AA (r=if s.kj<l.length+40 then(6,s)else if s.waits.length=16 then(3,s)else(0,{ s with any:=true,last:=id,waits:=if s.now<=m then s.waits++[Jk id m l]else s.waits })):=by
   show _=_;rw[<-HR.z];unfold SS.kK;rw[AH I,AH (by rw[q,u];exact λx=>x.elim R<|λy=>y.elim hB E)]
  rw[HN.z]at G;have z:∀(K:Act->rT->Prop),True:=λ_=>trivial
  obtain⟨mt,h⟩:=nm s.kj;obtain⟨nw,g⟩:=nm s.now;have ad:=zb h;have ae:=zb g;rw[h]at c0 G hm;rw[g]at G;simp only[g]at c3 k3;have dC:∀x:an=true,¬(id:Int)<=la:=λx=>by have:¬id<=la:=λy=>E ⟨x,y⟩;omega
  go_enter func59,ntmps59;clear R hB E bad D q u z h g HR;have DC:AA (∀x:an=true,¬(id:Int)<=la):=dC;clear dC;cases an;rotate_left;have dC:=DC.z rfl;all_goals
   by_cases A:mt<l.length+40
   .have e:r=(6,s):=by rw[G.z,AL A]
    subst e;have g:(mt:Int)-40<l.length:=I;clear A;go_wp2;go_ret;exact⟨rfl,M.z⟩
   have g:¬(mt:Int)-40<l.length:=I;by_cases L:n=16
   .have e:r=(3,s):=by rw[G.z,AH A,AL L]
    subst e;have g:((n:Int)==16)=true:=by rw[L];rfl
    clear A L;go_wp2;go_ret;exact⟨rfl,M.z⟩
   have g:((n:Int)==16)=false:=AM.2 I;by_cases hD:nw<=m
   .have e:r=(0,{ s with any:=true,last:=id,waits:=s.waits++[Jk id m l] }):=by rw[G.z,AH A,AH L,AL hD,<-ad.z,<-ae.z]
    subst e;have dD:(nw:Int)<=m:=I;have a:=ac.z;clear A L hD;go_wp2_with (rw[aa.z,ab.z,C.z];at_builtin;refine zm rfl _ _ _ _ rfl _ _ _ rfl rfl a ?_;clear a);go_ret;have:=H3.z;rw[HN.z]at this;exact⟨rfl,this⟩
   have e:r=(0,{ s with any:=true,last:=id }):=by rw[G.z,AH A,AH L,AH hD,<-ad.z,<-ae.z]
   subst e;have dD:¬(nw:Int)<=m:=I;clear A L hD;go_wp2;go_ret;rw[aa.z,ab.z];exact⟨rfl,HL.z⟩
 have e:r=(12,s):=by
  rw[<-HR.z];unfold SS.kK;rw[AL D]
 subst e;have hb:((s.closed:Int)==0)=false:=AM.2 I;clear D;go_enter func59,ntmps59;go_wp2;go_ret;exact⟨rfl,M.z⟩
end
variable{N cap:Nat}
def I9(h:W.ownsRow 0 e sz (.slice g N cap) N xs)(a:xs[i]?=some v):W (g,i)=some v/\W.frozen? ⟨g,i,none⟩=false:=by
 have g:=h.1;rcases h.2 with⟨e,_⟩|⟨q,g,h,e,_,m,u,y,z,n⟩
 .cases e
 cases e;have e:=(AO.1 a).1;refine⟨za m ?_,zd m⟩;rw[<-n,B9 I,Ba]at a;exact a
theorem eV{α : Type}{f : α -> List rU}(a:∀x,(f x).length=n):∀(l:List α) (j k:Nat) (x : α),l[j]?=some x->k<n->(l.flatMap f)[j*n+k]?=(f x)[k]?:=by
 intro l
 induction l with
 | nil=>intro j k x h;simp at h
 | cons y l ih =>
  intro j k x h e;rw[CQ];cases j with
  | zero =>
   simp at h;subst h;rw[Ag (by rw[a];omega),B6,An]
  | succ j =>
   rw[Ac (by rw[a,Nat.succ_mul];omega),a,show(j+1)*n+k-n=j*n+k by rw[Nat.succ_mul];omega];exact ih j k x (qp h) e
section
variable {tag:qr} {i b:Nat} {s s':SS} {V V':SV} {W W1:rT}
def zj.nu(h:zj tag i b s V W):∃a e,V.waits=.slice a s.waits.length e/\s.waits.length<=e/\e<=maxLen/\W (b,16)=some (.slice a s.waits.length e) /\
  (0<s.waits.length->∃g,a=some ⟨g,0,none⟩/\tag g=(i,11)/\∀(j:Nat) (f:DF),s.waits[j]?=some f->∀(k:Nat) (x:rU),(ze f rV)[k]?=some x->W ⟨g,j*10+k,none⟩=some x):=by
 obtain⟨o,t⟩:=h.rowOf (r:=11) rfl lc;have m:=h.hd (j:=16) rfl;obtain⟨a,e,h,q,u,y⟩:=zi o;rw[h]at m o t;refine⟨a,e,h,q,u,m,λz=>?_⟩;obtain⟨g,rfl⟩:=y z;refine⟨g,rfl,t g rfl,λj f e k x a=>(I9 o ?_).1⟩;have g:k<10:=(AJ.1 a).1;unfold zs;rw[eV (n:=10) (λ_=>rfl) s.waits j k f e g,Ba];exact a
def SI.used(x:SI):Nat:=if x.state=2 then x.end_ else x.read
def TW(h:zj tag i b s V W)(a:k<8):rH 126 #[zq b,[k]] W λe W'=>e=.returned (.int .u64 ((s.ins k).used:Int))/\W=W':=by
 obtain⟨g,m,u,n,q,e⟩:=h.qM;have g:=e k a;have g:W (V.ib k,3)=some (.int .u64 ((s.ins k).end_:Int)):=h.ic a rfl;have g:W (V.ib k,7)=some (.int .u64 ((s.ins k).read:Int)):=h.ic a rfl;have g:W (V.ib k,8)=some (.int .i64 ((s.ins k).state:Int)):=h.ic a rfl;unfold maxLen at n;unfold SI.used zq;clear h e;by_cases a:(s.ins k).state=2
 .rw[a]at g;rw[AL a];clear a;go_enter func126,ntmps126;go_wp2;go_ret;exact rM
 rw[AH a];have hb:(((s.ins k).state:Int)==2)=false:=AM.2 I;clear a;go_enter func126,ntmps126;go_wp2;go_ret;exact rM
def fQ(h:zj tag i b s V W)(y:zL tag W):rH 68 #[zq b] W λe W'=>e=.returned V.kG/\Db tag i b W { s with kG:=[] } W'/\W'.ownsRow 0 134 2 V.kG s.kG.length (zZ s.kG)/\∀g,V.kG.ownBlock=some g->tag g=(i,13):=by
 obtain⟨o,t⟩:=h.rowOf (r:=13) rfl lc;have u:=h.hd (j:=22) rfl;have e:=h.fz 22;have m:=h.mh 22 rV;have z:Db tag i b W { s with kG:=[] } (W.setCell (U b 22)<|.slice none 0 0):=by
  refine zj.mD (V':={ V with kG:=.slice none 0 0 }) ?_ y m;refine DM.lq (p:=EC b s V) h (λq=>q=1\/q=13) ((C9.refl (λg=>g=b) W).setCell (p:=U b 22) rO _) (λg n=>⟨1,.inl rfl,by rw[n,h.tb]⟩) (λ_ _=>rfl) (λq a=>?_) (Ia (λq _ a=>by unfold DV;split<;>first|rfl|exact absurd rO a|exact absurd (.inr rfl) a)<|λ_ _ _ _ _=>rfl);rcases a with a|a
  .subst a;refine⟨?_,h.tb⟩;rw[zc (DM.kr (r:=1) (cs:=(zz s V).toArray) h rfl).1,Ab];rfl
  subst a;exact⟨World.ownsRow_nil _ 0 _ 2,λg n=>by cases n⟩
 have hb:∀g,V.kG.ownBlock=some g->g≠b:=λg n x=>by
  have:=t g n;rw[x,h.tb]at this;cases this
 have a:=((C9.refl (λg=>g=b) W).setCell (p:=U b 22) rO rV).owns o hb;have H:=zb<|And.intro z<|And.intro a t;obtain⟨g,n,e,_⟩:=zi o;unfold zq;rw[e]at u;clear h y m z o t a hb;go_enter func68,ntmps68;go_wp2;go_ret;exact⟨by rw[e];rfl,H.z⟩
end
def SS.tick(s:SS):SS:={ s with now:=s.now+1,waits:=s.waits.filter (λf=>decide (s.now+1<=f.dl)) }
def Ql{α : Type}(p : α -> Bool)(l:List α)(j:Nat)(x : α)(h:l[j]?=some x):(l.take (j+1)).filter p=if p x then(l.take j).filter p++[x]else(l.take j).filter p:=by
 rw[Ai,h,B3];by_cases c:p x=true
 .rw[AL c];simp[c]
 rw[AH c];simp[c]
section
variable {tag:qr} {i b:Nat} {s s':SS} {V V':SV} {W W1:rT}
def eU(h:zj tag i b s V W)(ht:zL tag W)(hi:0<i)(hw:s.waits.length<=1099511627776)(hn:s.now<=1099511627776):rH 64 #[zq b] W (Ez tag i b W (.tuple #[]) s.tick):=by
 have c3:=h.hd (j:=3) rfl;have u:=h.fz 3;have wn:IntKind.u64.wrap ((s.now:Int)+1)=((s.now+1:Nat):Int):=by rw[IntKind.wrap_u64];omega
 have s1:=h.mu { s with now:=s.now+1 } (j:=3) (v:=.int .u64 ((s.now+1:Nat):Int)) rfl rfl;have m1:=h.mh 3<|.int .u64 ((s.now+1:Nat):Int);obtain⟨W1,u⟩:=nm<|W.setCell (U b 3)<|.int .u64 ((s.now+1:Nat):Int);rw[u]at s1 m1;have S1:=zb s1;have M1:=zb m1;have HT:=zb ht;have L:=zb u;obtain⟨M,C⟩:=nm<|s.now+1;have N:=zb C;rw[C]at wn L;unfold zq;clear h ht s1 m1 u C hn;go_enter func64,ntmps64;go_wp2_with fail;rw[L.z];obtain⟨n,h⟩:=nm s.waits;have y:=zb h;rw[h]at hw;clear h;obtain⟨p,h⟩:∃p:DF->Bool,(λf=>decide<|M<=f.dl)=p:=⟨_,rfl⟩;have HP:=zb h;clear h
 go_loopw [2,3] (λu h wr=>∃(j:Nat) (D:qs) (oc:Nat) (R:List DF),j<=n.length/\h=.int .i64 j/\u=.slice D R.length oc/\AA (R=(n.take j).filter p)/\AA (wr.ownsRow 0 48 10 (.slice D R.length oc) R.length<|zs R)/\AA (∀g,(Value.slice D R.length oc).ownBlock=some g->W1.heap.size<=g)/\AA (C9 DA W1 wr)) (λ_ h _=>n.length-(intOf h).toNat)
 case atStart=>exact⟨0,none,0,[],AK _,rfl,rfl,zb rfl,zb<|World.ownsRow_nil _ 0 _ 10,zb (λg hg=>by cases hg),zb rS⟩
 case round =>
  obtain⟨j,D,oc,R,h,rfl,rfl,Y,HO,Z,O⟩:=hrel;have E:=S1.z.kD O.z;have c3:wr (b,3)=some (.int .u64 M):=by rw[<-N.z];exact E.hd (j:=3) rfl
  obtain⟨L,wc,_,h,C,u,hh⟩:=E.nu;have ab:n.length<=wc:=by rw[<-y.z];exact h
  have X:wr (b,16)=some (.slice L n.length wc):=by rw[<-y.z];exact u
  clear u h;unfold maxLen at C;by_cases h:j<n.length
  .obtain⟨f,hf⟩:∃f,n[j]?=some f:=⟨n[j],AG h⟩;obtain⟨g,rfl,_,hc⟩:=hh (by show 0<s.waits.length;rw[y.z];omega);have h:=hc j f (by show s.waits[j]?=some f;rw[y.z];exact hf);have d7:wr (g,j*10+7)=some (.int .u64 f.dl):=h 7 _ rfl;have HF:=zb hf;have u:=zb h;have C:=zb E;clear hh hc h hf E;by_cases hd:M<=f.dl
   .have d1:decide ((M:Int)<=(f.dl:Int))=true:=Ah I;have z:p f=true:=by rw[<-HP.z];simpa using hd
    have A:=zb<|Ql p n j f HF.z;rw[z,AL rfl,<-Y.z]at A;clear z;go_wp2;go_quiet (fail);obtain⟨WB,B⟩:=nm<|wr.drewN nq;rw[B];have G:C9 DA wr WB:=by rw[<-B];exact rS.drewN _
    have m:=λk x h=>G.cell (a:=⟨g,_,none⟩) rP<|u.z k x h
    have h:WB (g,j*10)=some (.int .i64 f.kind):=m 0 _ rfl;have h:WB (g,j*10+1)=some (.int .i64 f.stream):=m 1 _ rfl;have h:WB (g,j*10+2)=some (.int .u64 f.off):=m 2 _ rfl;have h:WB (g,j*10+3)=some (.int .u64 f.rel):=m 3 _ rfl;have h:WB (g,j*10+4)=some (.int .u64 f.lF):=m 4 _ rfl;have h:WB (g,j*10+5)=some (.bool f.fin):=m 5 _ rfl;have h:WB (g,j*10+6)=some (.int .u64 f.id):=m 6 _ rfl;have h:WB (g,j*10+7)=some (.int .u64 f.dl):=m 7 _ rfl;have h:WB (g,j*10+8)=some (.string<|zy f.data):=m 8 _ rfl;have h:WB (g,j*10+9)=some (.slice none 0 0):=m 9 _ rfl;have h:=G.cell (a:=U b 16) rP X;have aa:R.length<=1099511627776:=by
     have:=Bf p<|n.take j;rw[<-Y.z,AU]at this;omega
    obtain⟨a,W3,hr,o1,g1,n1⟩:=Jl (t:=35) underlying35 OG rfl lc (G.owns HO.z<|λ_ _ x=>x) (ze f rV).toList rfl (λu hu=>by
     simp[ze]at hu;rcases hu with rfl|rfl|rfl|rfl|rfl|rfl|rfl|rfl|rfl|rfl<;>rfl) aa lc
    obtain⟨va,vc,hv,_⟩:=zi o1;subst hv;have h:=zb<|(((O.z.trans G).alloc _).grown g1<|λq K=>.inr<|Z.z q K);have u:AA (∀q,(Value.slice va (R.length+1) vc).ownBlock=some q->W1.heap.size<=q):=λq K=>by
     rcases n1 q K with x|x
     .exact Z.z q x
     have:=(O.z.trans G).size;simp at x;omega
    obtain⟨W2,a⟩:=nm<|WB.alloc<|.cells (ze f rV) 48;have hr:∀C,(Builtin.append_ #[35,35] C #[.slice D R.length oc,.slice WB 1 1]).run prog W2=.ok (.slice va (R.length+1) vc) W3:=by rw[<-a];exact hr
    have C:AA (WB.alloc (.cells #[[f.kind],[f.stream],f.off,f.rel,f.lF,f.fin,f.id,f.dl,.string<|zy f.data,.slice none 0 0] 48)=W2):=a;have L:=zb o1;have ac:=zb n1;have ad:=zb B;clear m B a G o1 n1 g1 X d7;go_wp2_with (rw[C.z];at_builtin;refine zm rfl _ _ _ _ rfl _ _ _ rfl rfl hr ?_;clear hr);go_roundw
    case rel=>exact⟨j+1,va,vc,R++[f],I,by go_num,by rw[AF];rfl,zb A.z.symm,by rw[U3,AF];exact L,by rw[AF];exact u,h⟩
    simp[intOf];omega
   have d1:decide ((M:Int)<=(f.dl:Int))=false:=A8 I;have z:p f=false:=by rw[<-HP.z];simpa using hd
   have A:=zb<|Ql p n j f HF.z;rw[z,<-Y.z]at A;clear z;go_wp2;go_quiet (fail);go_wp2;go_roundw
   case rel=>exact⟨j+1,D,oc,R,I,by go_num,rfl,zb A.z.symm,zb<|((C9.refl DA wr).drewN _).owns HO.z<|λ_ _ x=>x,Z,zb<|O.z.drewN _⟩
   simp[intOf];omega
  have e:j=n.length:=I;subst e;obtain⟨_,e⟩:=S1.z.rowOf (r:=11) rfl lc;have a:R=s.tick.waits:=by
   rw[Y.z,List.take_length,<-HP.z,<-y.z,<-N.z];rfl
  have L:=zj.mz (s':=s.tick) (V':={ V with waits:=.slice D R.length oc }) (j:=16) (W1:=wr) S1.z (HT.z.mod M1.z) hi (r:=11) lc lc e HO.z (O.z.mono rQ) (λg hg=>.inr<|Z.z g hg) (by show Pc.row _ _ _ s.tick.waits.length (zs s.tick.waits)=_;rw[<-a]) rfl (λq _ K=>by unfold DV;split<;>first|rfl|exact absurd rO K|exact absurd (.inr rfl) K) (λ_ _ _ _=>rfl);have H:=zb<|Dx.trans (DK.same HT.z M1.z) M1.z L;have g:=E.fz 16;clear hh L e a E;go_wp2_with fail;exact bodyPost_end (results_none rfl _ _ _) rfl ⟨rfl,H.z⟩
end
def SI.bad(x:SI)(f:DF):Bool:=(x.ended&&x.end_ != f.off)||decide (f.off<x.high)
def SI.lL(x:SI)(f:DF):SI:={ x with ended:=true,end_:=f.off,kD:=if !x.reset||decide (f.rel<x.kD)then f.rel else x.kD,reset:=true }
def SS.lL(s:SS)(f:DF):Nat×SS :=
 if (s.ins f.stream.toNat).bad f then(10,s)else(0,{ s with ins:=zh s.ins f.stream.toNat ((s.ins f.stream.toNat).lL f) })
section
variable {tag:qr} {i b:Nat} {s s':SS} {V V':SV} {W W1:rT}
def Pb(a b:Nat):((a:Int) != (b:Int))=(a != b):=by
 by_cases h:a=b
 .subst h;simp
 have e:¬(a:Int)=b:=I;rw[bne_iff_ne.2 h,bne_iff_ne.2 e]
variable{W:rT}{f:DF}{rv:rU}
def Ge(h:W.heap[q]?=some (.cells (ze f rv) 48 (0,0))):W q=some (.int .i64 f.kind)/\W (q,1)=some (.int .i64 f.stream)/\W (q,2)=some (.int .u64 f.off)/\W (q,3)=some (.int .u64 f.rel)/\W (q,4)=some (.int .u64 f.lF)/\W (q,5)=some (.bool f.fin)/\W (q,6)=some (.int .u64 f.id)/\W (q,7)=some (.int .u64 f.dl)/\W (q,8)=some (.string (zy f.data))/\W (q,9)=some rv :=
 ⟨za h rfl,za h rfl,za h rfl,za h rfl,za h rfl,za h rfl,za h rfl,za h rfl,za h rfl,za h rfl⟩
def zj.nI{x:SI}(h:zj tag i b { s with ins:=zh s.ins k x } V W)(a:k<8)(e:(Ee x (V.dv k) (V.tv k))[j]?=some v):W (V.ib k,j)=some v :=
 h.ic a (by show(Ee (zh s.ins k x k) _ _)[j]?=_;rw[zf];exact e)
def jK(h:zj tag i b s V W)(ht:zL tag W)(hi:0<i)(f:DF)(A:rU)(q:k<8)(X:f.stream=(k:Int)):rH 128 #[zq b,.agg (ze f A)] W (Ez tag i b W (.int .i64 ((s.lL f).1:Int)) (s.lL f).2):=by
 have m0:=(C9.refl DA W).alloc<|.cells (ze f A) 48;have D:=zb ht;have E:=zb m0;have G:(W.alloc<|.cells (ze f A) 48).heap.size=W.heap.size+1:=nl;obtain⟨W0,m⟩:=nm<|W.alloc<|.cells (ze f A) 48;have oF:=AD m;rw[m]at m0 E G;have M:=h.kD m0;have H0:=zb M;obtain⟨x,N⟩:=nm<|s.ins k;have HX:=zb N;obtain⟨g,G,h1,h2,ab,hp⟩:=M.qM;have cp:=hp k q;obtain⟨F0,F1,F2,F3,F4,F5,F6,F7,F8,F9⟩:=Ge oF;have c2:W0 (V.ib k,2)=some (.int .u64 x.high):=by rw[<-N];exact M.ic q rfl
 have R:W0 (V.ib k,3)=some (.int .u64 x.end_):=by rw[<-N];exact M.ic q rfl
 have O:W0 (V.ib k,4)=some (.bool x.ended):=by rw[<-N];exact M.ic q rfl
 have ac:=zb m;have OF:=zb oF;obtain⟨r,hr⟩:=nm<|s.lL f;rw[hr];have HR:AA (r=if x.bad f then(10,s)else(0,{ s with ins:=zh s.ins k (x.lL f) })):=by
  show _=_;rw[<-hr];unfold SS.lL;rw[X,Am,N]
 rw[X]at F1;unfold maxLen at h2;unfold zq;obtain⟨u,G⟩:=nm<|V.ib k;rw[G]at cp c2 R O;have z:=zb G;obtain⟨bd,X⟩:=nm<|x.bad f;have K:=zb X;clear h ht m0 M N hp oF hr G m F0 F3 F4 F5 F6 F7 F8 F9 X;go_enter func128,ntmps128;go_upto_region 1 with fail;rw[show ze f A=ze f A from rfl,ac.z];go_quiet (fail);obtain⟨A,h⟩:=nm<|W0.drewN nq;have m:C9 DA W0 A:=by rw[<-h];exact rS.drewN _
 rw[h];have MA:=zb m;have F1:=m.cell (a:=U W.heap.size 1) id F1;have F2:=m.cell (a:=U W.heap.size 2) id F2;have c2:=m.cell (a:=U u 2) id c2;have R:=m.cell (a:=U u 3) id R;have O:=m.cell (a:=U u 4) id O;clear h m ab cp;go_upto_if 35 with fail
 go_cut [35] (λh m=>h=.bool bd/\AA (C9 DA A m))
 case first=>as_aux_lemma =>
  obtain⟨en,h⟩:=nm x.ended;obtain⟨ne,n⟩:=nm<|(x.end_ != f.off);obtain⟨lt,B⟩:=nm<|decide<|f.off<x.high;have HB:AA (bd=((en&&ne)||lt)):=by
   show _=_;rw[<-K.z,<-h,<-n,<-B];rfl
  have m:((x.end_:Int) != (f.off:Int))=ne:=by rw[Pb,n]
  have m:decide ((f.off:Int)<(x.high:Int))=lt:=by rw[<-B];simp
  rw[h]at O;have Y:=zb n;have Z:=zb B;clear h n B;cases en<;>cases ne<;>cases lt;all_goals
   go_quiet (fail);go_wp2;go_meet;exact⟨by rw[HB.z];first|rfl|(rw[Z.z];rfl)|(rw[Y.z];rfl)|(rw[Z.z,Y.z];rfl),zb<|rS.drewN _⟩
 case rest =>
 obtain⟨rfl,L⟩:=hcut;obtain⟨WB,ad⟩:=nn wc;subst ad;cases bd;rotate_left
 .have HL:=zb<|(H0.z.left (D.z.mod E.z)<|MA.z.trans L.z).lJ D.z hi E.z;have e:r=(10,s):=by
   rw[HR.z,K.z];rfl
  subst e;go_wp2;go_ret;exact⟨rfl,HL.z⟩
 have M:=H0.z.kD<|MA.z.trans L.z;have N:zj tag i b { s with ins:=zh s.ins k x } V WB:=by rw[<-HX.z,Fx];exact M
 have Z:AA (r=(0,{ s with ins:=zh s.ins k (x.lL f) })):=by
  show _=_;rw[HR.z,K.z];rfl
 have F2:=L.z.cell (a:=U W.heap.size 2) id F2;have R:=L.z.cell (a:=U u 3) id R;have O:=L.z.cell (a:=U u 4) id O;have h:=M.oE q 3;have m:=M.oE q 4;rw[z.z]at h m;have G:=N.l8 (j:=4) q (v:=.bool true) (x':={ x with ended:=true }) rfl rfl rfl;have n1:=(MA.z.trans L.z).mono (S':=λg=>(tag g).1=i) rQ |>.trans (show C9 (λg=>(tag g).1=i) WB _ from M.mi q 4<|.bool true);have A:=G.l8 (j:=3) q (v:=.int .u64 f.off) (x':={ x with ended:=true,end_:=f.off }) rfl rfl rfl;have n2:=n1.trans<|show C9 (λg=>(tag g).1=i) _ _ from G.mi q 3<|.int .u64 f.off;have m:=A.oE q 5;have X:=A.oE q 6;have O:=zj.nI A q (j:=5) (v:=.bool x.reset) rfl;have R:=zj.nI A q (j:=6) (v:=.int .u64 x.kD) rfl;have h:=zj.nI G q (j:=3) (v:=.int .u64 x.end_) rfl;have K:=G.oE q 3;rw[z.z]at G A n1 n2 m X O R K h;obtain⟨K,h⟩:=nm<|(WB.setCell (U u 4)<|.bool true).setCell (U u 3)<|.int .u64 f.off;rw[h]at A n2 m X O R;have m:K (W,3)=some (.int .u64 f.rel):=by
  have n:W.heap.size≠u:=λe=>by
   have a:=(H0.z.si q).2;rw[z.z,<-e,D.z _ (AI _)]at a;simp at a;omega
  have a:=(MA.z.trans L.z).obj rP OF.z;have m:C9 (λg=>g=u) WB K:=by
   rw[<-h];exact((C9.refl (λg=>g=u) WB).setCell (p:=U u 4) rO _).setCell (p:=U u 3) rO _
  exact za (m.obj (λe=>n e) a) rfl
 have L:=zb h;have X:=zb A;have Y:=zb n2;clear N M G A n1 n2 h HR F1;go_upto_region 6 with fail;rw[L.z];obtain⟨y,h⟩:∃y:SI,{ x with ended:=true,end_:=f.off }=y:=⟨_,rfl⟩;rw[h]at X;have G:x.reset=y.reset:=by rw[<-h]
 have M:x.kD=y.kD:=by rw[<-h]
 rw[G]at O;rw[M]at R;have C:AA (r=(0,{ s with ins:=zh s.ins k { y with kD:=if !y.reset||decide (f.rel<y.kD)then f.rel else y.kD,reset:=true } })):=by
  show _=_;rw[Z.z,<-h];rfl
 have A:=λn=>X.z.kD<|(C9.refl DA K).drewN n
 have A1:AA (∀n,Db tag i b W { s with ins:=zh s.ins k { y with reset:=true } }<|(K.drewN n).setCell (U u 5)<|.bool true):=λn=>by
  have:=(A n).l8 (j:=5) q (v:=.bool true) (x':={ y with reset:=true }) rfl rfl rfl;rw[z.z]at this;exact(this.mD (W:=W0) (D.z.mod E.z)<|(Y.z.drewN n).trans<|by rw[<-z.z];exact(A n).mi q 5 (.bool true)).lJ D.z hi E.z
 have A2:AA (∀n,Db tag i b W { s with ins:=zh s.ins k { y with kD:=f.rel,reset:=true } }<|((K.drewN n).setCell (U u 6)<|.int .u64 f.rel).setCell (U u 5)<|.bool true):=λn=>by
  have a:=(A n).l8 (j:=6) q (v:=.int .u64 f.rel) (x':={ y with kD:=f.rel }) rfl rfl rfl;have e:=a.l8 (j:=5) q (v:=.bool true) (x':={ y with kD:=f.rel,reset:=true }) rfl rfl rfl;have m:=((Y.z.drewN n).trans<|show C9 (λg=>(tag g).1=i) (K.drewN n) _ from(A n).mi q 6 (.int .u64 f.rel)).trans<|show C9 (λg=>(tag g).1=i) _ _ from a.mi q 5<|.bool true;rw[z.z]at e m;exact(e.mD (W:=W0) (D.z.mod E.z) m).lJ D.z hi E.z
 obtain⟨lk,a⟩:=nm<|decide<|f.rel<y.kD;have aa:=zb a;have e:decide ((f.rel:Int)<(y.kD:Int))=lk:=by rw[<-a];simp
 obtain⟨rs,e⟩:=nm y.reset;rw[e]at O;rw[e,a]at C;clear A a e Z L X Y h G M;cases rs
 .go_quiet (fail);go_wp2;go_ret;rw[C.z,show(!false||lk)=true from rfl];exact⟨rfl,A2.z _⟩
 cases lk
 .have B:¬f.rel<y.kD:=qp aa.z;go_quiet (fail);go_wp2;go_ret;rw[C.z,show(!true||false)=false from rfl];exact⟨rfl,A1.z _⟩
 have B:f.rel<y.kD:=qp aa.z;go_quiet (fail);go_wp2;go_ret;rw[C.z,show(!true||true)=true from rfl];exact⟨rfl,A2.z _⟩
end
theorem io(l:List Nat)(j:Nat):(l.take j).sum<=l.sum:=by
 induction l generalizing j with
 | nil=>simp
 | cons x l ih =>
  cases j with
  | zero=>simp
  | succ j =>
   have:=ih j;simp only[Bt,List.sum_cons];omega
def Ux(l:List Nat)(j x:Nat)(h:l[j]?=some x):(l.take (j+1)).sum=(l.take j).sum+x:=by
 rw[Ai,h,List.sum_append];simp
section
variable {tag:qr} {i b:Nat} {s s':SS} {V V':SV} {W W1:rT}
def fP(h:zj tag i b s V W)(hb:s.high.sum<18446744073709551616):rH 160 #[zq b] W λe W'=>e=.returned (.int .u64 s.high.sum)/\W=W':=by
 obtain⟨a,q,_,u,y,g,m⟩:=h.nums (r:=14) (j:=23) rfl lc rfl;obtain⟨l,a⟩:=nm s.high;rw[a]at u hb g m ⊢;unfold maxLen at y;have z:=zb m;unfold zq;clear h m a;go_enter func160,ntmps160;go_wp2_with fail
 go_loopw [3,4] (λg a wr=>∃j:Nat,j<=l.length/\a=.int .i64 j/\g=.int .u64 ((l.take j).sum:Nat)/\wr=W) (λ_ a _=>l.length-(intOf a).toNat)
 case atStart=>exact⟨0,AK _,rfl,rfl,rfl⟩
 case round =>
  obtain⟨j,a,rfl,rfl,rfl⟩:=hrel;by_cases a:j<l.length
  .obtain⟨x,n⟩:∃x,l[j]?=some x:=⟨l[j],AG a⟩;obtain⟨g,rfl,_,m⟩:=z.z I;have a:=(m j x n).1;have a:=Ux l j x n;have g:=io l<|j+1;have h:=zb a;obtain⟨z,q⟩:=nm<|(l.take j).sum;rw[q]at a h ⊢;have u:IntKind.u64.wrap ((z:Int)+x)=((z+x:Nat):Int):=by rw[IntKind.wrap_u64];omega
   clear m n a q g;go_wp2;go_roundw
   case rel=>exact⟨j+1,I,by go_num,by rw[h.z];push_cast;rfl,trivial⟩
   simp[intOf];omega
  have e:j=l.length:=I;subst e;rw[List.take_length];go_wp2;go_ret;exact rM
def I6(e:DK i tag tag' W W1)(m:C9 (λg=>(tag g).1=i) W W1)(a:C9 (λg=>(tag' g).1=i) W1 W2):C9 (λg=>(tag g).1=i) W W2 :=
 m.then a (λg a=>by
  by_cases q:g<W.heap.size
  .exact .inl (by rw[<-e.lH g q];exact a)
  exact .inr I)
def SS.mC(s:SS)(k e:Nat):SS:={ s with high:=(s.high++List.replicate (k+1-s.high.length) 0).set k (max e (s.high.getD k 0)) }
def Ol(l:List Nat)(x:Nat):ES (l++[x])=ES l++[.int .u64 x]:=by simp[ES]
def zj.qN(h:zj tag i b s V W)(n:zL tag W)(hi:0<i)(x:Nat)(q:s.high.length<=1099511627776):∃e W1,(∀a,(Builtin.append_ #[86,86] a #[V.high,.slice W 1 1]).run prog (W.alloc (.cells #[x] 34))=.ok e W1) /\
   Db tag i b W { s with high:=s.high++[x] } (W1.setCell (b,23) e)/\W1.frozen? ⟨b,23,none⟩=false/\(∃x,W1.cell? (b,23)=some x)/\∃a c,e=.slice a (s.high.length+1) c:=by
 refine h.grow n hi (r:=14) (z:=.int .u64 0) (size:=1) (bytes:=8) lc lc underlying86 kw rfl lc lc rfl [.int .u64 x] rfl (λu g=>?_) q { s with high:=s.high++[x] } (λe=>{ V with high:=e }) (λe=>?_) (λ_=>rfl) (λ_ q _ m=>?_) (λ_ _ _ _ _=>rfl) lc
 .simp at g;subst g;rfl
 .show Pc.row _ _ _ _ _=_;rw[Ol,AF];rfl
 unfold DV;split<;>first|rfl|exact absurd rO m|exact absurd (.inr rfl) m
def zj.ng(h:zj tag i b s V W){x:Nat}{l:List Nat}(a:2<=r)(e:r<16)(q:DV b s V r=.row 34 1 (.slice g n cap) n (ES l))(m:DV b s' V r=.row 34 1 (.slice g n cap) n (ES (l.set k x)))
  (a:∀q,q<16->q≠r->DV b s' V q=DV b s V q) (u:∀q k,q<4->k<8->D7 s' V q k=D7 s V q k):zj tag i b s' V (W.setCell ⟨g,k,none⟩<|.int .u64 x)/\C9 (λg=>(tag g).1=i) W (W.setCell ⟨g,k,none⟩<|.int .u64 x):=by
 obtain⟨o,t⟩:=h.rowOf q e;have n:=t g rfl;refine⟨DM.lq (S:=λq=>q=g) (p:=EC b s V) h (λq=>q=r) ((C9.refl (λq=>q=g) W).setCell (p:=(g,k)) rO _) (λq m=>⟨r,rfl,by rw[m,n]⟩) (λ_ _=>rfl) (λp y=>?_)<|Ia a<|λq k a b _=>u q k a b,(C9.refl _ W).setCell (p:=⟨g,k,none⟩) (.inl<|by show(tag g).1=i;rw[n]) _⟩;subst y;rw[GM e,m];refine⟨?_,t⟩;have:=SW (i:=k) (.int .u64 x) o;unfold ES at this ⊢;rw[List.map_set];exact this
def fO(h:zj tag i b s V W)(y:zL tag W)(hi:0<i)(k e:Nat)(M:k<8)(hl:s.high.length<=8):rH 159 #[zq b,[k],e] W (Ez tag i b W (.tuple #[]) (s.mC k e)):=by
 have M:=zb h;have HT:=zb y;obtain⟨r,C⟩:=nm<|s.mC k e;have HR:=zb C;unfold zq;rw[C];clear h y C;go_enter func159,ntmps159;go_wp2_with fail
 go_loopw [] (λwr=>∃(n:Nat) (tag':qr) (V':SV),n<=k+1-s.high.length/\AA (zj tag' i b { s with high:=s.high++List.replicate n 0 } V' wr)/\AA (DK i tag tag' W wr)/\AA (C9 (λg=>(tag g).1=i) W wr)) (λwr=>9-(match wr (U b 23)with|some (.slice _ n _)=>n|_=>0))
 case atStart=>exact⟨0,tag,V,AK _,zb<|qp M.z,zb<|DK.same HT.z<|C9.refl DA W,zb rS⟩
 case round =>
  obtain⟨n,K,V1,hn,HS,D,HM⟩:=hrel;obtain⟨a,cap,E,M,h2,h,G⟩:=HS.z.nums (r:=14) (j:=23) rfl lc rfl;have y:(s.high++List.replicate n 0).length=s.high.length+n:=nl;obtain⟨l,z⟩:=nm<|s.high++List.replicate n 0;have N:wr (b,23)=some (.slice a (s.high.length+n) cap):=by rw[<-y];exact h
  have h1:s.high.length+n<=cap:=by rw[<-y];exact M
  clear h M;unfold maxLen at h2;have HC:=zb G;obtain⟨L,h⟩:=nm s.high.length;have A:=zb h;rw[h]at N h1 hn hl;have HV:=zb E;clear G E h y z;by_cases h:L+n<=k
  .have d1:(L:Int)+n<=k:=I;obtain⟨_,W1,m,L1,h,⟨y,hy⟩,va,vc,rfl⟩:=HS.z.qN D.z.z hi 0 (by show(s.high++List.replicate n 0).length<=_;rw[AF,Ay,A.z];omega);obtain⟨O,h,⟨V2,rfl⟩,q1,q2,q3⟩:=L1;have u:(s.high++List.replicate n 0).length=L+n:=by rw[AF,Ay,A.z]
   rw[HV.z]at m;simp only[u]at m q1 q2 q3;obtain⟨W2,h⟩:=nm<|wr.alloc<|.cells #[.int .u64 0] 34;have m:∀y,(Builtin.append_ #[86,86] y #[.slice a (L+n) cap,.slice wr 1 1]).run prog W2=.ok (.slice va (L+n+1) vc) W1:=by rw[<-h];exact m
   have y:=zb q1;have M:=zb<|D.z.trans q2 HM.z.size;have Q3:=zb<|I6 D.z HM.z q3;have a:=zb h;clear q1 q2 q3 h u;go_wp2_with (rw[a.z];at_builtin;refine zm rfl _ _ _ _ rfl _ _ _ rfl rfl m ?_;clear m);go_roundw
   case rel=>exact⟨n+1,O,V2,qm A.z,by rw[Ca,<-List.append_assoc];exact y,M,Q3⟩
   case measure =>
    rw[World.cell?_setCell_same _ _ _ hy,N];show 9-(L+n+1)<9-(L+n);omega
  have d1:¬(L:Int)+n<=k:=I;have u:(s.high++List.replicate n 0).length=L+n:=by rw[AF,Ay,A.z]
  obtain⟨g,rfl,a,G⟩:=HC.z (by rw[u];omega);have R:n=k+1-s.high.length:=qm A.z;obtain⟨l,z⟩:=nm<|s.high++List.replicate n 0;have X:k<l.length:=by rw[<-z,u];omega
  obtain⟨x,B⟩:∃x,l[k]?=some x:=⟨l[k],AG X⟩;rw[z]at G;obtain⟨a,h⟩:=G k x B;have Y:x=s.high.getD k 0:=by
   rw[<-z]at B;rw[AQ];by_cases q:k<s.high.length
   .rw[Ag q]at B;rw[B];rfl
   rw[Ac I,List.getElem?_replicate]at B;split at B
   .cases B;rw[BJ I];rfl
   cases B
  have C:r={ s with high:=l.set k (max e x) }:=by
   rw[<-HR.z,<-z,Y,R];rfl
  have a:=HS.z;rw[z]at a;have E:V1.high=.slice g l.length cap:=by rw[HV.z,z]
  obtain⟨h,m⟩:=zj.ng (s':={ s with high:=l.set k e }) a (r:=14) (g:=g) (n:=l.length) (cap:=cap) (k:=k) (x:=e) (l:=l) lc lc (by show Pc.row _ _ V1.high _ _=_;rw[E]) (by show Pc.row _ _ V1.high _ _=_;rw[E];simp) (λq _ g=>by unfold DV;split<;>first|rfl|exact absurd rfl g)<|λ_ _ _ _=>rfl;have S1:=zb<|Dx.trans D.z HM.z<|h.mD D.z.z m;have S0:=zb<|show Db tag i b W { s with high:=l } wr from⟨K,_,⟨V1,rfl⟩,a,D.z,HM.z⟩;have Z:=zb C;have HX:=zb B;clear a E h m C Y B z G R X u;by_cases aa:x<e
  .have d2:(x:Int)<e:=I;have he:r={ s with high:=l.set k e }:=by rw[Z.z,Nat.max_eq_left I]
   subst he;clear aa;go_wp2_with fail;exact bodyPost_end (results_none rfl _ _ _) rfl ⟨rfl,S1.z⟩
  have d2:¬(x:Int)<e:=I;have he:r={ s with high:=l }:=by
   rw[Z.z,Nat.max_eq_right I];have:l.set k x=l:=by
    apply List.ext_getElem?;intro j;rw[List.getElem?_set];split
    .rename_i q;subst q;split
     .exact HX.z.symm
     have:=(AO.1 HX.z).1;omega
    rfl
   rw[this]
  subst he;clear aa;go_wp2_with fail;exact bodyPost_end (results_none rfl _ _ _) rfl ⟨rfl,S0.z⟩
end
section
variable {tag:qr} {i b:Nat} {s s':SS} {V V':SV} {W W1:rT}
def Gj(tag:qr)(i b:Nat)(W:rT)(V:SV)(s':SS)(W':rT):Prop :=
 ∃tag' V',V'.ib=V.ib/\V'.ob=V.ob/\zj tag' i b s' V' W'/\DK i tag tag' W W'/\C9 (λg=>(tag g).1=i) W W'
def Gj.left(h:Gj tag i b W V s' W1):Db tag i b W s' W1:=by
 obtain⟨tag',V',_,_,a,e,g⟩:=h;exact⟨tag',_,⟨V',rfl⟩,a,e,g⟩
def Gj.lJ(n:zL tag W)(hi:0<i)(m:C9 DA W W0)(h:Gj tag i b W0 V s' W1):Gj tag i b W V s' W1:=by
 obtain⟨tag',V',a,g,q,e,u⟩:=h;refine⟨tag',V',a,g,q,⟨λg a=>e.lH g<|Au a m.size,λg a=>?_,e.z⟩,(m.mono rQ).then u<|λg a=>.inl a⟩;by_cases h:g<W0.heap.size
 .exact .inr (by rw[e.lH g h];exact n g a)
 exact e.new g I
def Gj.trans(n:V'.ib=V.ib)(q:V'.ob=V.ob)(e:DK i tag tag' W W1)(m:C9 (λg=>(tag g).1=i) W W1)(h:Gj tag' i b W1 V' s' W2):Gj tag i b W V s' W2:=by
 obtain⟨a,g,u,y,z,A,B⟩:=h;exact⟨a,g,u.trans n,y.trans q,z,e.trans A m.size,I6 e m B⟩
def zj.nH(h:zj tag i b s V W)(E:zL tag W)(hi:0<i)(B:k<8)(q2:2<=q)(L:q<4){m:qt}(u:∀g,v.ownBlock=some g->tag g=(i,16+8*q+k))(own:W1.ownsRow 0 e 1 v' n m)(m1:C9 (λg=>v.ownBlock=some g) W W1)(G:Dh W v v')
  (hb:D7 s' V' 1 k=.kr (V.ib k) ((Ee (s.ins k) (V.dv k)<|V.tv k).setIfInBounds j v') 98) (M:D7 s' V' q k=.row e 1 v' n m) (N:∀r,r<16->DV b s' V' r=DV b s V r)
  (O:∀p c,p<4->c<8->¬(16+8*p+c=16+8*1+k\/16+8*p+c=16+8*q+k)->D7 s' V' p c=D7 s V p c) (R:V'.ib=V.ib) (X:V'.ob=V.ob):Gj tag i b W V s' (W1.setCell (V.ib k,j) v'):=by
 obtain⟨e,tb⟩:=h.si B;have z:¬v.ownBlock=some (V.ib k):=λx=>by
  have:=u _ x;rw[tb]at this;simp at this;omega
 have Y:=m1.obj z e;have C:=(AJ.1 e).1;have K:C9 (λg=>v.ownBlock=some g\/g=V.ib k) W (W1.setCell (V.ib k,j) v'):=(m1.mono<|λg a=>.inl<|.inl a).setCell (p:=(V.ib k,j)) (.inl<|.inr rfl) _;have Z:C9 (λg=>g=V.ib k) W1 (W1.setCell (V.ib k,j) v'):=(C9.refl (λg=>g=V.ib k) _).setCell (p:=(V.ib k,j)) rO _;have D:∀g,v'.ownBlock=some g->g≠V.ib k:=λg a x=>by
  subst x;rcases G _ a with y|y
  .exact z y
  omega
 refine⟨zT tag W W1 (i,16+8*q+k),V',R,X,?_,?_,K.mono<|λg a=>.inl ?_⟩
 .refine DM.lq (p:=EC b s V) h (λp=>p=16+8*1+k\/p=16+8*q+k) K (λg a=>?_) (λg a=>zx<|Ds E (i:=i) (r:=(tag g).2) (by rw[<-a]) hi) (λp A=>?_) (Ia (λr e _=>N r e) O)
  .rcases a with a|a
   .exact⟨16+8*q+k,.inr rfl,u g a⟩
   exact⟨16+8*1+k,.inl rfl,by rw[a,tb]⟩
  rcases A with A|A
  .subst A;rw[GL I B,hb];exact⟨zc Y,by rw[zx C,tb]⟩
  subst A;rw[GL L B,M];refine⟨Z.owns own D,λg a=>?_⟩;rcases G g a with y|y
  .rw[zx (Ds E (u g y) hi),u g y]
  rw[FH y (zI own g a)]
 .have:=Gf (i:=i) (r:=16+8*q+k) (tag:=tag) m1.size;exact⟨this.lH,this.new,λg a=>this.z g<|qp a⟩
 rcases a with a|a
 .rw[u g a]
 rw[a,tb]
def zj.pC(h:zj tag i b s V W)(a:k<8){x:SI}(n:zL tag W)(hi:0<i)(own:OB W1 v' x.data)(m1:C9 (λg=>(V.dv k).ownBlock=some g) W W1)(g:Dh W (V.dv k) v')(m:x.there=(s.ins k).there)(u:Ee x v' (V.tv k)=(Ee (s.ins k) (V.dv k) (V.tv k)).setIfInBounds 0 v'):Gj tag i b W V { s with ins:=zh s.ins k x } (W1.setCell (V.ib k,0) v'):=by
 refine h.nH (V':={ V with dv:=zh V.dv k v' }) (q:=2) n hi a lc lc (h.sd a).2 own m1 g ?_ ?_ (λr a=>?_) (λp c g a h=>?_) rfl rfl
 .show Pc.kr (V.ib k) (Ee (zh s.ins k x k) (zh V.dv k v' k)<|V.tv k) _=_;rw[zf,zf,u]
 .show Pc.row _ _ (zh V.dv k v' k) (zh s.ins k x k).data.length (zS (zh s.ins k x k).data)=_;rw[zf,zf]
 .unfold DV;rfl
 unfold D7;by_cases e:c=k
 .subst e;by_cases a:p=0
  .rw[AL a,AL a]
  by_cases g:p=1
  .omega
  by_cases h:p=2
  .omega
  rw[AH a,AH g,AH h,AH a,AH g,AH h];simp only[zf,m]
 simp only[zl _ _ e]
def zj.oK(h:zj tag i b s V W)(a:k<8){x:SI}(n:zL tag W)(hi:0<i)(own:W1.ownsRow 0 4 1 v' x.there.length (Gp x.there))(m1:C9 (λg=>(V.tv k).ownBlock=some g) W W1)(g:Dh W (V.tv k) v')(m:x.data=(s.ins k).data)(u:Ee x (V.dv k) v'=(Ee (s.ins k) (V.dv k) (V.tv k)).setIfInBounds 1 v'):Gj tag i b W V { s with ins:=zh s.ins k x } (W1.setCell (V.ib k,1) v'):=by
 refine h.nH (V':={ V with tv:=zh V.tv k v' }) (q:=3) n hi a lc lc (h.st a).2 own m1 g ?_ ?_ (λr a=>?_) (λp c g a h=>?_) rfl rfl
 .show Pc.kr (V.ib k) (Ee (zh s.ins k x k) (V.dv k)<|zh V.tv k v' k) _=_;rw[zf,zf,u]
 .show Pc.row _ _ (zh V.tv k v' k) (zh s.ins k x k).there.length (Gp (zh s.ins k x k).there)=_;rw[zf,zf]
 .unfold DV;rfl
 unfold D7;by_cases e:c=k
 .subst e;by_cases a:p=0
  .rw[AL a,AL a]
  by_cases g:p=1
  .omega
  by_cases h:p=2
  .rw[AH a,AH g,AL h,AH a,AH g,AL h];simp only[zf,m]
  omega
 simp only[zl _ _ e]
end
def fN(l:qq)(j:Nat)(c:UInt8):zS (l.set j c)=(zS l).set j (.int .u8 (c.toNat:Int)):=by
 unfold zS;rw[List.map_set]
def im(l:qq)(c:UInt8):zS (l++[c])=zS l++[.int .u8 (c.toNat:Int)]:=by simp[zS]
def jz(l:List Bool)(c:Bool):Gp (l++[c])=Gp l++[.bool c]:=by simp[Gp]
section
variable {tag:qr} {i b:Nat} {s s':SS} {V V':SV} {W W1:rT}
def zj.setRow(h:zj tag i b s V W)(z:k<8)(B:2<=q)(A:q<4){u:rU}(a:D7 s V q k=.row e 1 (.slice g n cap) n xs)(m:D7 s' V q k=.row e 1 (.slice g n cap) n (xs.set j u))(n:∀r,r<16->DV b s' V r=DV b s V r)
  (B:∀p c,p<4->c<8->¬(16+8*p+c=16+8*q+k)->D7 s' V p c=D7 s V p c):zj tag i b s' V (W.setCell (g,j) u)/\C9 (λg=>(tag g).1=i) W (W.setCell ⟨g,j,none⟩ u):=by
 obtain⟨o,t⟩:=DM.row (p:=EC b s V) h (by rw[GL A z];exact a);have e:=t g rfl;refine⟨DM.lq (S:=λq=>q=g) (p:=EC b s V) h (λp=>p=16+8*q+k) ((C9.refl (λq=>q=g) W).setCell (p:=(g,j)) rO _) (λp y=>⟨16+8*q+k,rfl,by rw[y,e]⟩) (λ_ _=>rfl) (λp y=>?_)<|Ia (λr a _=>n r a) B,(C9.refl _ W).setCell (p:=(g,j)) (.inl<|by show(tag g).1=i;rw[e]) _⟩;subst y;rw[GL A z,m];exact⟨SW (i:=j) u o,t⟩
def zj.pA{x:SI}{k g cap j:Nat}(h:zj tag i b { s with ins:=zh s.ins k x } V W)(m:k<8)(a:V.dv k=.slice g x.data.length cap)(c:UInt8):zj tag i b { s with ins:=zh s.ins k { x with data:=x.data.set j c } } V (W.setCell (g,j) (.int .u8 (c.toNat:Int)))/\C9 (λg=>(tag g).1=i) W (W.setCell ⟨g,j,none⟩ (.int .u8 (c.toNat:Int))):=by
 refine h.setRow (q:=2) (e:=5) (n:=x.data.length) (cap:=cap) (xs:=zS x.data) m lc lc ?_ ?_ (λr g=>by unfold DV;rfl)<|λp d g hd h=>?_
 .show Pc.row _ _ (V.dv k) (zh s.ins k x k).data.length (zS (zh s.ins k x k).data)=_;rw[zf,a]
 .show Pc.row _ _ (V.dv k) (zh s.ins k { x with data:=x.data.set j c } k).data.length (zS (zh s.ins k { x with data:=x.data.set j c } k).data)=_;rw[zf,a,<-fN];simp
 unfold D7;by_cases e:d=k
 .subst e;by_cases a:p=0
  .rw[AL a,AL a]
  by_cases g:p=1
  .rw[AH a,AL g,AH a,AL g];simp only[zf];rfl
  rw[AH a,AH g,AH I,AH a,AH g,AH I];simp only[zf]
 simp only[zl _ _ e]
def zj.oI{x:SI}{k g cap j:Nat}(h:zj tag i b { s with ins:=zh s.ins k x } V W)(m:k<8)(a:V.tv k=.slice g x.there.length cap):zj tag i b { s with ins:=zh s.ins k { x with there:=x.there.set j true } } V (W.setCell (g,j) (.bool true))/\C9 (λg=>(tag g).1=i) W (W.setCell ⟨g,j,none⟩ (.bool true)):=by
 refine h.setRow (q:=3) (e:=4) (n:=x.there.length) (cap:=cap) (xs:=Gp x.there) m lc lc ?_ ?_ (λr g=>by unfold DV;rfl)<|λp d g hd h=>?_
 .show Pc.row _ _ (V.tv k) (zh s.ins k x k).there.length (Gp (zh s.ins k x k).there)=_;rw[zf,a]
 .show Pc.row _ _ (V.tv k) (zh s.ins k { x with there:=x.there.set j true } k).there.length (Gp (zh s.ins k { x with there:=x.there.set j true } k).there)=_;rw[zf,a,show Gp (x.there.set j true)=(Gp x.there).set j (.bool true)from List.map_set];simp
 unfold D7;by_cases e:d=k
 .subst e;by_cases a:p=0
  .rw[AL a,AL a]
  by_cases g:p=1
  .rw[AH a,AL g,AH a,AL g];simp only[zf];rfl
  by_cases h:p=2
  .rw[AH a,AH g,AL h,AH a,AH g,AL h];simp only[zf]
  omega
 simp only[zl _ _ e]
def Xz:(prog.info? 5).map (λi=>(i.zero,i.size,i.bytes))=some (some (.int .u8 0),1,1):=kw
def fM:(prog.info? 4).map (λi=>(i.zero,i.size,i.bytes))=some (some (.bool false),1,1):=kw
def zj.pE{x:SI}(h:zj tag i b { s with ins:=zh s.ins k x } V W)(q:zL tag W)(hi:0<i)(m:k<8)(n:x.data.length<=1099511627776):∃v' W1,(∀u,(Builtin.append_ #[44,44] u #[V.dv k,.slice W 1 1]).run prog (W.alloc (.cells #[.int .u8 0] 5))=.ok v' W1) /\
   Gj tag i b W V { s with ins:=zh s.ins k { x with data:=x.data++[0] } } (W1.setCell (V.ib k,0) v')/\W1.frozen? ⟨V.ib k,0,none⟩=false/\(∃y,W1.cell? (V.ib k,0)=some y)/\∃a c,v'=.slice a (x.data.length+1) c:=by
 have e:({ s with ins:=zh s.ins k x }:SS).ins k=x:=zf _ _ _;obtain⟨od,B⟩:=h.sd m;rw[e]at od;obtain⟨v',W1,C,z,D,n1⟩:=Jl (t:=44) underlying44 Xz rfl lc od [.int .u8 0] rfl (λu g=>by simp at g;subst g;rfl) n lc;have n:=(C9.refl DA W).alloc<|.cells #[.int .u8 0] 5;have u:=h.kD n;have A:C9 (λg=>(V.dv k).ownBlock=some g) (W.alloc<|.cells #[.int .u8 0] 5) W1:=rS.grown D<|λg g=>.inl g;have L:=zj.pC (x:={ x with data:=x.data++[0] }) (v':=v') u m (q.mod n) hi (by unfold OB;rw[im,AF];exact z) A n1 (by rw[e]) (by rw[e];rfl);have hb:=A.obj (λy=>by
  have a:=B _ y;rw[(h.si m).2]at a;simp at a) (u.si m).1
 obtain⟨a,e,g,_⟩:=zi z;refine⟨v',W1,C,?_,zd hb,⟨_,za hb rfl⟩,a,e,g⟩;rw[show zh ({ s with ins:=zh s.ins k x }:SS).ins k { x with data:=x.data++[0] }=zh s.ins k { x with data:=x.data++[0] }from OH _ _ _ _]at L;exact L.lJ q hi n
def zj.oR{x:SI}(h:zj tag i b { s with ins:=zh s.ins k x } V W)(q:zL tag W)(hi:0<i)(m:k<8)(n:x.there.length<=1099511627776):∃v' W1,(∀u,(Builtin.append_ #[96,96] u #[V.tv k,.slice W 1 1]).run prog (W.alloc (.cells #[false] 4))=.ok v' W1) /\
   Gj tag i b W V { s with ins:=zh s.ins k { x with there:=x.there++[false] } } (W1.setCell (V.ib k,1) v')/\W1.frozen? ⟨V.ib k,1,none⟩=false/\(∃y,W1.cell? (V.ib k,1)=some y)/\∃a c,v'=.slice a (x.there.length+1) c:=by
 have e:({ s with ins:=zh s.ins k x }:SS).ins k=x:=zf _ _ _;obtain⟨od,B⟩:=h.st m;rw[e]at od;obtain⟨v',W1,C,z,D,n1⟩:=Jl (t:=96) underlying96 fM rfl lc od [.bool false] rfl (λu g=>by simp at g;subst g;rfl) n lc;have n:=(C9.refl DA W).alloc<|.cells #[false] 4;have u:=h.kD n;have A:C9 (λg=>(V.tv k).ownBlock=some g) (W.alloc<|.cells #[false] 4) W1:=rS.grown D<|λg g=>.inl g;have L:=zj.oK (x:={ x with there:=x.there++[false] }) (v':=v') u m (q.mod n) hi (by rw[jz,AF];exact z) A n1 (by rw[e]) (by rw[e];rfl);have hb:=A.obj (λy=>by
  have a:=B _ y;rw[(h.si m).2]at a;simp at a) (u.si m).1
 obtain⟨a,e,g,_⟩:=zi z;refine⟨v',W1,C,?_,zd hb,⟨_,za hb rfl⟩,a,e,g⟩;rw[show zh ({ s with ins:=zh s.ins k x }:SS).ins k { x with there:=x.there++[false] }=zh s.ins k { x with there:=x.there++[false] }from OH _ _ _ _]at L;exact L.lJ q hi n
end
end
end Go.Proofs.YtddfdpbaiedcjabGreatDoor
