/- A part of Urgent's proof. Conditions: none. Part 2 of 32. -/
import Derived.StillTail
import Derived.Deep.RegionHeld
import Derived.Test.YtddfdpbaiedcjaaGreatDoorUrg1
import Derived.RangeFuncNested
import Derived.Shelf.Abstract
import Derived.OwnWalkIn
import Derived.TacticsInMore
import Derived.LoopNIn
import Derived.LoopIn
set_option maxRecDepth 100000
set_option maxHeartbeats 16000000
set_option linter.all false
namespace Go.Proofs.YtddfdpbaiedcjaaGreatDoor
open Go
section
variable {P:Program} {ops:Array Oper} {Q:Exit→Act→World→Prop} {md:Region.Mode} {F:World→Prop} {k:Nat}
def ST(k:Nat)(F:World→Prop)(L:Array Bool)(w:World):Prop:=L.getD k false=true∨F w
def zgJ(P:Program)(md:Region.Mode)(ops:Array Oper)(Q:Exit→Act→World→Prop)(k:Nat)(F:World→Prop):Nat→Array Bool→Act→World→Prop
 | 0,L,a,w=>Region.ready md ops L=[]∧Q .normal a w
 | fuel+1,L,a,w =>
  (Region.ready md ops L=[]→Q .normal a w) ∧
  ∀i∈Region.ready md ops L,wpOp P ops Q i (fun a' w'=>ST k F (L.setIfInBounds i true) w'∧zgJ P md ops Q k F fuel (L.setIfInBounds i true) a' w') a w
theorem zdP:∀(b:Nat) (L:Array Bool) (a:Act) (w:World),zgJ P md ops Q k F b L a w→wpAny P md ops Q b L a w
 | 0,_,_,_,h=>h
 | b+1,_,_,_,h=>⟨h.1,fun i hi=>wpOp_mono (fun a' w' h'=>zdP b _ a' w' h'.2) (h.2 i hi)⟩
structure zeB(md:Region.Mode)(ops:Array Oper)(L:Array Bool):Prop where
 nosel:Region.noSelect ops=true
 size:L.size=ops.size
 deps:∀j oj,ops[j]?=some oj→L.getD j false=true→∀e∈oj.after,Region.binds md e=true→L.getD e.on false=true
theorem zfj{L:Array Bool}{i:Nat}(h:L.getD i true=false):L.getD i false=false:=by
 rcases Nat.lt_or_ge i L.size with a|a
 ·simp[a]at h ⊢;exact h
 ·simp[Array.getElem?_eq_none a]at h
theorem zeB.set{L:Array Bool}(c:zeB md ops L){i:Nat}(hi:i∈Region.ready md ops L):zeB md ops (L.setIfInBounds i true):=by
 obtain⟨_,oi,d,a⟩:=mem_ready.1 hi;refine⟨c.nosel,by simp[c.size],fun j f g h e k hb=>?_⟩;by_cases b:i=j
 ·subst b;have:f=oi:=Option.some.inj (g.symm.trans d);subst this;exact getD_set_true (a e k hb)
 ·rw[getD_set_ne false b]at h;exact getD_set_true (c.deps j f g h e k hb)
def zfy(md:Region.Mode)(ops:Array Oper)(i:Nat):Nat→Nat→Bool
 | 0,k=>k==i
 | f+1,k=>k==i||match ops[k]? with
  | some o=>o.after.any fun e=>Region.binds md e&&zfy md ops i f e.on
  | none=>true
theorem zd5{L:Array Bool}(c:zeB md ops L){i:Nat}:∀(f k:Nat),zfy md ops i f k=true→L.getD k false=true→L.getD i false=true
 | 0,k,h,hk=>by
  simp[zfy]at h;exact h ▸ hk
 | f+1,k,h,hk=>by
  simp only[zfy,Bool.or_eq_true,beq_iff_eq]at h;rcases h with h|h
  ·exact h ▸ hk
  ·cases ho:ops[k]? with
   | none =>
    have a:¬k<L.size:=by
     rw[c.size];intro a;simp[a]at ho
    simp[Array.getElem?_eq_none (Nat.le_of_not_lt a)]at hk
   | some o =>
    rw[ho]at h;obtain⟨e,he,hb⟩:=Array.any_eq_true'.1 h;simp only[Bool.and_eq_true]at hb;exact zd5 c f e.on hb.2 (c.deps k o ho hk e he hb.1)
theorem zgK{i:Nat}{s:Oper}{v:Value}{f0:Nat}(hi:ops[i]?=some s)(q:∀(j:Nat) (o:Oper) cs b,ops[j]?=some o→o.op≠.select cs b)
  (hQ:∀c a w,Q (.panic c) (a.put s.dst v) w→Q (.panic c) a w) (hk:zfy md ops i f0 k=true) (E:i≠k) :
  ∀(f:Nat) (L:Array Bool) (a:Act) (w:World),zeB md ops L →
   (∀j oj,ops[j]?=some oj→j≠i→L.getD j true=false→(∀e∈oj.after,Region.binds md e=true→e.on≠i)→s.apart ops oj=true) →
   i∈Region.ready md ops L→YieldsIf P ops F s v a→ST k F L w →
   zgJ P md ops Q k F f (L.setIfInBounds i true) (a.put s.dst v) w→zgJ P md ops Q k F (f+1) L a w:=by
 have u:∀L:Array Bool,i∈Region.ready md ops L→L.getD i false=false:=fun L h=>zfj (mem_ready.1 h).1
 have n:∀(L:Array Bool) (w:World),zeB md ops L→i∈Region.ready md ops L→ST k F L w→F w:=fun L w c g l=>by
  rcases l with l|l
  ·have:=zd5 c f0 k hk l;rw[u L g]at this;cases this
  ·exact l
 intro f
 induction f with
 | zero =>
  intro L a w c _ g D l H;refine⟨fun h=>(by rw[h]at g;cases g),fun j x=>?_⟩;by_cases d:j=i
  ·subst d;exact D.wpOp hi (n L w c g l) ⟨.inr (n L w c g l),H⟩
  ·have:=ready_mono x d;rw[H.1]at this;cases this
 | succ f ih =>
  intro L a w c m g D l H;refine⟨fun h=>(by rw[h]at g;cases g),fun j x=>?_⟩;by_cases d:j=i
  ·subst d;exact D.wpOp hi (n L w c g l) ⟨.inr (n L w c g l),H⟩
  ·have h1:=H.2 j (ready_mono x d);obtain⟨r,oj,t,y⟩:=mem_ready.1 x;have z:∀e∈oj.after,Region.binds md e=true→e.on≠i:=fun e he hb G=>by
    have h1:=y e he hb;rw[G,u L g]at h1;cases h1
   have h2:=wpOp_putIf t (m j oj t d r z) (fun cs b=>q i s cs b hi) (fun cs b=>q j oj cs b t) hQ D h1;have p:∀k ok,ops[k]?=some ok→k≠i→(L.setIfInBounds j true).getD k true=false →
     (∀e∈ok.after,Region.binds md e=true→e.on≠i)→s.apart ops ok=true:=fun k ok hk I A J=>by
    refine m k ok hk I ?_ J;by_cases B:j=k
    ·subst B;exact r
    ·rw[getD_set_ne true B]at A;exact A
   have K:i∈Region.ready md ops (L.setIfInBounds j true):=ready_mono g (Ne.symm d);have C:∀w',ST k F ((L.setIfInBounds i true).setIfInBounds j true) w'→ST k F (L.setIfInBounds j true) w':=fun w' M=>by
    rcases M with h|h
    ·refine .inl ?_;rw[Array.setIfInBounds_comm _ _ (Ne.symm d),getD_set_ne false E]at h;exact h
    ·exact .inr h
   refine wpOp_mono (fun a' w' h3=>⟨C w' h3.2.1,ih (L.setIfInBounds j true) a' w' (c.set x) p K h3.1 (C w' h3.2.1) ?_⟩) h2;rw[Array.setIfInBounds_comm _ _ d];exact h3.2.2
def GT(P:Program)(md:Region.Mode)(ops:Array Oper)(Q:Exit→Act→World→Prop)(k:Nat)(F:World→Prop)(b:Nat)(L:Array Bool)(a:Act)(w:World):Prop :=
 zeB md ops L→ST k F L w→zgJ P md ops Q k F b L a w
def znC(md:Region.Mode)(ops:Array Oper)(k:Nat)(L:Array Bool)(i:Nat):Bool :=
 Region.free md ops L i&&(Region.ready md ops L).contains i&&zfy md ops i ops.size k && !(i==k)
theorem zby{i:Nat}{g:Oper}{v:Value}{b:Nat}{L:Array Bool}{a:Act}{w:World}(hi:ops[i]?=some g)(hb:znC md ops k L i=true)
  (hQ:∀c a w,Q (.panic c) (a.put g.dst v) w→Q (.panic c) a w) (hy:YieldsIf P ops F g v a)
  (h:GT P md ops Q k F b (L.setIfInBounds i true) (a.put g.dst v) w):GT P md ops Q k F (b+1) L a w:=fun c d=>by
 simp only[znC,Bool.and_eq_true,Bool.not_eq_true']at hb;obtain⟨⟨⟨hf,hr⟩,hk⟩,j⟩:=hb;have e:i≠k:=by simpa using j
 have f:i∈Region.ready md ops L:=by simpa using hr
 refine zgK hi (Region.noSelect_spec c.nosel) hQ hk e b L a w c (Region.free_spec hi hf) f hy d (h (c.set f) ?_);rcases d with d|d
 ·exact .inl (getD_set_true d)
 ·exact .inr d
theorem zx(i:Nat){o:Oper}{b:Nat}{L:Array Bool}{a:Act}{w:World}(ho:ops[i]?=some o)
  (h:∀K':Act→World→Prop,Shut (∀a w,F w→GT P md ops Q k F b (L.setIfInBounds i true) a w→K' a w)→if Region.wanted o (yielded ops a.tmps)=true then Oper.wp P o a w K' Q else K' (a.put o.dst undef) w) (e:Region.ready md ops L=[i]:=by kernel_rfl) :
  GT P md ops Q k F (b+1) L a w:=fun c _=>by
 refine⟨fun h0=>(by rw[e]at h0;cases h0),fun j d=>?_⟩;have hc:=c.set d;rw[e,List.mem_singleton]at d;subst d;exact wpOp_step ho (fun K' hK=>h K' (fun a w f hG=>hK a w ⟨.inr f,hG hc (.inr f)⟩))
theorem zQ{o:Oper}{b:Nat}{L:Array Bool}{a:Act}{w:World}(f:ops[k]?=some o)
  (h:∀K':Act→World→Prop,Shut (∀a w,GT P md ops Q k F b (L.setIfInBounds k true) a w→K' a w)→if Region.wanted o (yielded ops a.tmps)=true then Oper.wp P o a w K' Q else K' (a.put o.dst undef) w) (g:Region.ready md ops L=[k]:=by kernel_rfl) :
  GT P md ops Q k F (b+1) L a w:=fun c _=>by
 refine⟨fun h0=>(by rw[g]at h0;cases h0),fun j d=>?_⟩;have hc:=c.set d;rw[g,List.mem_singleton]at d;subst d;have e:j<L.size:=by
  rw[c.size];exact(Array.getElem?_eq_some_iff.1 f).1
 have i:(L.setIfInBounds j true).getD j false=true:=by simp[e]
 exact wpOp_step f (fun K' hK=>h K' (fun a w hG=>hK a w ⟨.inl i,hG hc (.inl i)⟩))
theorem zo{b:Nat}{L:Array Bool}{a:Act}{w:World}(h:Q .normal a w)(c:Region.ready md ops L=[]:=by kernel_rfl):GT P md ops Q k F b L a w:=fun _ _=>by
 cases b with
 | zero=>exact⟨c,h⟩
 | succ n=>exact⟨fun _=>h,by rw[c];simp⟩
theorem zl{id:Nat}{a:Act}{w:World}(k:Nat)(F:World→Prop)(hF:F w.drew)
  (h:GT P .any ops Q k F ops.size (Array.replicate ops.size false) a w.drew) (hm:P.follows .mixedOrders=true:=by kernel_rfl) (hs:Region.noSelect ops=true:=by kernel_rfl):(Code.region id ops true).wp P Q a w:=by
 refine wp_region_any hm (zdP _ _ _ _ (h ⟨hs,by simp,fun j oj _ b=>?_⟩ (.inr hF)));have:(Array.replicate ops.size false).getD j false=false:=getD_replicate_false ops.size j;rw[this]at b;cases b
theorem PS:(∀(a:Act) (i:Tmp) (v:Value),a.put (some i) v={ a with tmps:=a.tmps.setIfInBounds i v })∧(∀(a:Act) (v:Value),a.put none v=a)∧(∀{α : Type} (l:List α) (i:Nat) (x : α),l.toArray.setIfInBounds i x=(l.set i x).toArray)∧(∀{α : Type} (x y : α) (l:List α),(x::l).set 0 y=y::l)∧(∀{α : Type} (x y : α) (n:Nat) (l:List α),(x::l).set (n+1) y=x::l.set n y)∧(∀{α : Type} (l:List α) (i:Nat) (h:i<l.toArray.size),l.toArray[i]=l[i]'h)∧(∀{α : Type} (x : α) (l:List α) (h:0<(x::l).length),(x::l)[0]'h=x)∧(∀{α : Type} (x : α) (l:List α) (i:Nat) (h:i+1<(x::l).length),(x::l)[i+1]'h=l[i]'(Nat.lt_of_succ_lt_succ h)) :=
 ⟨fun _ _ _=>rfl,fun _ _=>rfl,fun _ _ _=>List.setIfInBounds_toArray ..,fun _ _ _=>rfl,fun _ _ _ _=>rfl,fun _ _ _=>rfl,fun _ _ _=>rfl,fun _ _ _ _=>rfl⟩
def GN(_:Nat)(P:Program)(md:Region.Mode)(ops:Array Oper)(Q:Exit→Act→World→Prop)(k:Nat)(F:World→Prop)(b:Nat)(L:Array Bool)(a:Act)(w:World):Prop:=GT P md ops Q k F b L a w
theorem GI(n:Nat){b:Nat}{L:Array Bool}{a:Act}{w:World}(h:GN n P md ops Q k F b L a w):GT P md ops Q k F b L a w:=h
theorem GS{n:Nat}{d:Oper}{b:Nat}{L:Array Bool}{a:Act}{w:World}(hi:ops[n]?=some d)(v:Value)
  (hy:∀w,F w→(execOp a.eval d).run P w = .ok (.value v) w)
  (h:GN (n+1) P md ops Q k F b (L.setIfInBounds n true) (a.put d.dst v) w) (hQ:∀c a w,Q (.panic c) (a.put d.dst v) w→Q (.panic c) a w:=by first|exact fun _ _ _ h=>h|exact fun _ _ _ h=>nomatch h.1) (hb:znC md ops k L n=true:=by kernel_rfl) (hw:Region.wanted d (yielded ops a.tmps)=true:=by rfl):GN n P md ops Q k F (b+1) L a w:=zby hi hb hQ (.inl ⟨hw,hy⟩) h
theorem GU{n:Nat}{d:Oper}{b:Nat}{L:Array Bool}{a:Act}{w:World}(hi:ops[n]?=some d)
  (hQ:∀c a w,Q (.panic c) (a.put d.dst undef) w→Q (.panic c) a w)
  (h:GN (n+1) P md ops Q k F b (L.setIfInBounds n true) (a.put d.dst undef) w) (hb:znC md ops k L n=true:=by kernel_rfl) (hw:Region.wanted d (yielded ops a.tmps)=false:=by rfl):GN n P md ops Q k F (b+1) L a w:=zby hi hb hQ (.inr ⟨hw,rfl⟩) h
end
end Go.Proofs.YtddfdpbaiedcjaaGreatDoor
namespace Go.Proofs.YtddfdpbaiedcjaaGreatDoor
open Go.RowKit
structure Frm where
 kind:Int
 stream:Int
 off:Nat
 rel:Nat
 lim:Nat
 fin:Bool
 id:Nat
 dl:Nat
 data:List UInt8
 rngs:zD
def zh(f:Frm)(rv:Value):Array Value :=
 #[.int .i64 f.kind,.int .i64 f.stream,.int .u64 (f.off:Int),.int .u64 (f.rel:Int),.int .u64 (f.lim:Int),.bool f.fin,.int .u64 (f.id:Int),.int .u64 (f.dl:Int),.string (zq f.data),rv]
def zi(w:World)(b:Nat)(f:Frm)(rv:Value):Prop:=w.heap[b]?=some (.cells (zh f rv) 65 (0,0))
theorem zi.cell{w:World}{b:Nat}{f:Frm}{a:Value}(h:zi w b f a){i:Nat}{v:Value}(hv:(zh f a)[i]?=some v):w.cell? ⟨b,i,none⟩=some v:=za h hv
theorem zi.mod{S:Nat→Prop}{w w':World}{b:Nat}{f:Frm}{a:Value}(h:zi w b f a)(m:Mod S w w')(hs:¬S b):zi w' b f a:=m.obj hs h
theorem App.mod{w w':World}{v v':Value}{l new:List UInt8}(h:App w v l new v' w'):Mod (fun k=>v.ownBlock=some k) w w':=(Mod.refl _ w).grown h.grown (fun k hk=>.inl hk)
theorem OB.apart{w:World}{v:Value}{l:List UInt8}{b:Nat}{f:Frm}{rv:Value}(h:OB w v l)(a:zi w b f rv):¬v.ownBlock=some b:=by
 intro hb;rcases h.2 with⟨rfl,_⟩|⟨g,cap,cur,rfl,_,hg,_⟩
 ·cases hb
 ·simp[Value.ownBlock]at hb;subst hb;unfold zi at a;rw[hg]at a;simp at a
theorem zi.app{w w':World}{v v':Value}{l new:List UInt8}{b:Nat}{f:Frm}{a:Value}(c:zi w b f a)(h:OB w v l)(ha:App w v l new v' w'):zi w' b f a :=
 c.mod ha.mod (h.apart c)
theorem zbW(w:World)(v:Value)(l:List UInt8)(t:UInt8)(z:Int)(h:OB w v l)(hz:z=(t.toNat:Int))(hl:l.length≤70368744177664) :
  ∃v' w',(∀ty,(Builtin.append_ #[60,60] ty #[v,.slice (some ⟨w.heap.size,0,none⟩) 1 1]).run Tryz.prog (w.alloc (.cells #[.int .u8 z] 5)) = .ok v' w')∧App w v l [t] v' w' :=
 zdO w v l [t] #[.int .u8 z] 1 h (by simp[zO,hz]) rfl (by omega)
theorem zi.cells{w:World}{b:Nat}{f:Frm}{a:Value}(h:zi w b f a) :
  w.cell? ⟨b,0,none⟩=some (.int .i64 f.kind)∧w.cell? ⟨b,1,none⟩=some (.int .i64 f.stream)∧w.cell? ⟨b,2,none⟩=some (.int .u64 (f.off:Int))∧w.cell? ⟨b,3,none⟩=some (.int .u64 (f.rel:Int))∧w.cell? ⟨b,4,none⟩=some (.int .u64 (f.lim:Int)) ∧
  w.cell? ⟨b,5,none⟩=some (.bool f.fin)∧w.cell? ⟨b,6,none⟩=some (.int .u64 (f.id:Int))∧w.cell? ⟨b,7,none⟩=some (.int .u64 (f.dl:Int))∧w.cell? ⟨b,8,none⟩=some (.string (zq f.data))∧w.cell? ⟨b,9,none⟩=some a :=
 ⟨h.cell rfl,h.cell rfl,h.cell rfl,h.cell rfl,h.cell rfl,h.cell rfl,h.cell rfl,h.cell rfl,h.cell rfl,h.cell rfl⟩
theorem App.drew{w w':World}{v v':Value}{l new:List UInt8}(h:App w.drew v l new v' w'):App w v l new v' w' :=
 ⟨h.own,h.old,⟨h.grown.os,h.grown.tape,h.grown.output,h.grown.size,h.grown.block⟩,h.at_⟩
theorem zcM(v:Value)(l:List UInt8)(z:Int)(w:World)(h:OB w v l)(hl:l.length≤70368744177664)(h0:0≤z)(hn:z<4611686018427387904) :
  Calls Tryz.prog 83 #[v,.int .u64 z] w fun e w'=>∃v',e = .returned v'∧App w v l (zL z.toNat) v' w':=by
 have:=zY v l z.toNat w h hl (by omega)
 rwa [Int.toNat_of_nonneg h0]at this
structure Frm.Bounds(f:Frm):Prop where
 s0:0≤f.stream
 s8:f.stream<8
 bo:f.off<4611686018427387904
 br:f.rel<4611686018427387904
 bl:f.lim<4611686018427387904
 bi:f.id<4611686018427387904
 bd:f.dl<4611686018427387904
 bt:f.data.length≤35184372088832
def zc3(w:World)(tb ab:Nat)(t:UInt8):Prop:=w.cell? ⟨tb,0,none⟩=some (.int .u8 (t.toNat:Int))∧w.cell? ⟨ab,0,none⟩=some (.func (.func 186) #[] #[])
theorem zc3.mod{S:Nat→Prop}{w w':World}{tb b:Nat}{t:UInt8}(h:zc3 w tb b t)(m:Mod S w w')(h1:¬S tb)(h2:¬S b):zc3 w' tb b t:=⟨m.cell (a:=⟨tb,0,none⟩) h1 h.1,m.cell (a:=⟨b,0,none⟩) h2 h.2⟩
theorem zc3.app{w w':World}{v v':Value}{l new:List UInt8}{tb b:Nat}{t:UInt8}(h:zc3 w tb b t)(h1:¬v.ownBlock=some tb)(h2:¬v.ownBlock=some b)(a:App w v l new v' w'):zc3 w' tb b t:=h.mod a.mod h1 h2
theorem zeC(b:Nat)(w:World):Calls Tryz.prog 186 #[.pointer (some ⟨b,0,none⟩)] w fun e w'=>e = .returned (.pointer (some ⟨b,4,none⟩))∧w=w':=by
 go_enter Tryz.func186,Tryz.ntmps186;go_wp2_with fail;go_ret;exact⟨rfl,rfl⟩
def znt(w:World)(v:Value)(l new:List UInt8)(e:Ending)(w':World):Prop:=∃v',e = .returned v'∧App w v l new v' w'
def zcx(f:Frm):List UInt8:=[17]++zL f.stream.toNat++zL f.lim
theorem write6(v:Value)(l:List UInt8)(b:Nat)(f:Frm)(s:Value)(w:World)(i:zi w b f s)(h:OB w v l)(hl:l.length≤35184372088832)(hb:f.Bounds) :
  Calls Tryz.prog 187 #[v,.pointer (some ⟨b,0,none⟩)] w (znt w v l (zcx f)):=by
 obtain⟨s0,s8,bo,br,bl,bi,bd,bt⟩:=hb;have hwr:IntKind.u64.wrap f.stream=f.stream:=by rw[IntKind.wrap_u64];omega
 obtain⟨v1,w1,j,g⟩:=zbW w.drew v l 17 17 h rfl (by omega);have t:=zi.app (w:=w.drew) i h g;have L1:(l++[(17:UInt8)]).length≤35184372088832+1:=by simp;omega
 go_enter Tryz.func187,Tryz.ntmps187;go_wp2_with fail;refine zl 15 (fun w'=>zi w' b f s) (i) ?_;refine GI 0 ?_;refine GS rfl ?_ ?_ ?_;rotate_left
 ·(intro k a;(try dsimp only at a);have hc:=a.cells;clear a;obtain⟨c0,c1,c2,c3,c4,m,n,o,p,q⟩:=hc;go_simp)<;>(try with_reducible rfl)
 try simp only[PS]
 refine GI 3 ?_;iterate 5
  refine GS rfl ?_ ?_ ?_;rotate_left
  ·(intro k a;(try dsimp only at a);have hc:=a.cells;clear a;obtain⟨c0,c1,c2,c3,c4,m,n,o,p,q⟩:=hc;go_simp)<;>(try with_reducible rfl)
  try simp only[PS]
 refine GI 9 ?_;iterate 4
  refine GS rfl ?_ ?_ ?_;rotate_left
  ·(intro k a;(try dsimp only at a);have hc:=a.cells;clear a;obtain⟨c0,c1,c2,c3,c4,m,n,o,p,q⟩:=hc;go_simp)<;>(try with_reducible rfl)
  try simp only[PS]
 refine zx 1 rfl (fun K c=>?_);go_simp;refine c.out _ _ ?_ ?_
 ·exact zi.mod (w:=w.drew) (S:=NoB) i ((Mod.refl _ _).alloc _) (fun x=>x)
 clear c K;try simp only[PS]
 refine zx 2 rfl (fun K c=>?_);refine zF rfl _ _ _ _ rfl _ _ _ rfl rfl j ?_;refine c.out _ _ t ?_;clear c K;try simp only[PS]
 refine zx 8 rfl (fun K c=>?_);go_simp;refine(zcM v1 (l++([17])) (f.stream) w1 g.own (by omega) (by omega) (by omega)).mono ?_;rintro e w2 ⟨v2,rfl,d⟩;have u:=t.app g.own d;have r:=g.trans d;have L2:(l++([17]++zL f.stream.toNat)).length≤35184372088832+9:=by have:=zs (f.stream.toNat);simp at this L1 ⊢;omega
 refine c.out _ _ u ?_;clear d;clear c K;try simp only[PS]
 refine zx 13 rfl (fun K c=>?_);go_simp;refine(zY v2 (l++([17]++zL f.stream.toNat)) (f.lim) w2 r.own (by omega) (by omega)).mono ?_;rintro e w3 ⟨v3,rfl,d⟩;have F3:=u.app r.own d;have A3:=r.trans d;have L3:(l++([17]++zL f.stream.toNat++zL f.lim)).length≤35184372088832+17:=by have:=zs (f.lim);simp at this L2 ⊢;omega
 refine c.out _ _ F3 ?_;clear d;clear c K;try simp only[PS]
 refine GI 14 ?_;refine GS rfl ?_ ?_ ?_;rotate_left
 ·(intro k a;(try dsimp only at a);have hc:=a.cells;clear a;obtain⟨c0,c1,c2,c3,c4,m,n,o,p,q⟩:=hc;go_simp)<;>(try with_reducible rfl)
 try simp only[PS]
 refine zo ?_;go_wp2_with fail;go_ret;exact⟨_,rfl,A3.drew⟩
def zcy(f:Frm):List UInt8:=[36]++zL f.stream.toNat++zL f.off++zL f.rel
theorem write3(v:Value)(l:List UInt8)(b:Nat)(f:Frm)(t:Value)(w:World)(p:zi w b f t)(h:OB w v l)(hl:l.length≤35184372088832)(hb:f.Bounds) :
  Calls Tryz.prog 176 #[v,.pointer (some ⟨b,0,none⟩)] w (znt w v l (zcy f)):=by
 obtain⟨s0,s8,bo,br,bl,bi,bd,bt⟩:=hb;have hwr:IntKind.u64.wrap f.stream=f.stream:=by rw[IntKind.wrap_u64];omega
 obtain⟨v1,w1,q,g⟩:=zbW w.drew v l 36 36 h rfl (by omega);have u:=zi.app (w:=w.drew) p h g;have L1:(l++[(36:UInt8)]).length≤35184372088832+1:=by simp;omega
 go_enter Tryz.func176,Tryz.ntmps176;go_wp2_with fail;refine zl 20 (fun w'=>zi w' b f t) (p) ?_;refine GI 0 ?_;refine GS rfl ?_ ?_ ?_;rotate_left
 ·(intro i a;(try dsimp only at a);have hc:=a.cells;clear a;obtain⟨c0,c1,c2,c3,c4,j,k,m,n,o⟩:=hc;go_simp)<;>(try with_reducible rfl)
 try simp only[PS]
 refine GI 3 ?_;iterate 5
  refine GS rfl ?_ ?_ ?_;rotate_left
  ·(intro i a;(try dsimp only at a);have hc:=a.cells;clear a;obtain⟨c0,c1,c2,c3,c4,j,k,m,n,o⟩:=hc;go_simp)<;>(try with_reducible rfl)
  try simp only[PS]
 refine GI 9 ?_;iterate 4
  refine GS rfl ?_ ?_ ?_;rotate_left
  ·(intro i a;(try dsimp only at a);have hc:=a.cells;clear a;obtain⟨c0,c1,c2,c3,c4,j,k,m,n,o⟩:=hc;go_simp)<;>(try with_reducible rfl)
  try simp only[PS]
 refine GI 14 ?_;iterate 4
  refine GS rfl ?_ ?_ ?_;rotate_left
  ·(intro i a;(try dsimp only at a);have hc:=a.cells;clear a;obtain⟨c0,c1,c2,c3,c4,j,k,m,n,o⟩:=hc;go_simp)<;>(try with_reducible rfl)
  try simp only[PS]
 refine zx 1 rfl (fun K c=>?_);go_simp;refine c.out _ _ ?_ ?_
 ·exact zi.mod (w:=w.drew) (S:=NoB) p ((Mod.refl _ _).alloc _) (fun x=>x)
 clear c K;try simp only[PS]
 refine zx 2 rfl (fun K c=>?_);refine zF rfl _ _ _ _ rfl _ _ _ rfl rfl q ?_;refine c.out _ _ u ?_;clear c K;try simp only[PS]
 refine zx 8 rfl (fun K c=>?_);go_simp;refine(zcM v1 (l++([36])) (f.stream) w1 g.own (by omega) (by omega) (by omega)).mono ?_;rintro e w2 ⟨v2,rfl,d⟩;have y:=u.app g.own d;have r:=g.trans d;have L2:(l++([36]++zL f.stream.toNat)).length≤35184372088832+9:=by have:=zs (f.stream.toNat);simp at this L1 ⊢;omega
 refine c.out _ _ y ?_;clear d;clear c K;try simp only[PS]
 refine zx 13 rfl (fun K c=>?_);go_simp;refine(zY v2 (l++([36]++zL f.stream.toNat)) (f.off) w2 r.own (by omega) (by omega)).mono ?_;rintro e w3 ⟨v3,rfl,d⟩;have z:=y.app r.own d;have s:=r.trans d;have L3:(l++([36]++zL f.stream.toNat++zL f.off)).length≤35184372088832+17:=by have:=zs (f.off);simp at this L2 ⊢;omega
 refine c.out _ _ z ?_;clear d;clear c K;try simp only[PS]
 refine zx 18 rfl (fun K c=>?_);go_simp;refine(zY v3 (l++([36]++zL f.stream.toNat++zL f.off)) (f.rel) w3 s.own (by omega) (by omega)).mono ?_;rintro e w4 ⟨v4,rfl,d⟩;have F4:=z.app s.own d;have A4:=s.trans d;have L4:(l++([36]++zL f.stream.toNat++zL f.off++zL f.rel)).length≤35184372088832+25:=by have:=zs (f.rel);simp at this L3 ⊢;omega
 refine c.out _ _ F4 ?_;clear d;clear c K;try simp only[PS]
 refine GI 19 ?_;refine GS rfl ?_ ?_ ?_;rotate_left
 ·(intro i a;(try dsimp only at a);have hc:=a.cells;clear a;obtain⟨c0,c1,c2,c3,c4,j,k,m,n,o⟩:=hc;go_simp)<;>(try with_reducible rfl)
 try simp only[PS]
 refine zo ?_;go_wp2_with fail;go_ret;exact⟨_,rfl,A4.drew⟩
def zcz(f:Frm):List UInt8:=[48]++zL f.id++zL f.dl++(zL f.data.length++f.data)
theorem write7(v:Value)(l:List UInt8)(b:Nat)(f:Frm)(t:Value)(w:World)(p:zi w b f t)(h:OB w v l)(hl:l.length≤35184372088832)(hb:f.Bounds) :
  Calls Tryz.prog 189 #[v,.pointer (some ⟨b,0,none⟩)] w (znt w v l (zcz f)):=by
 obtain⟨s0,s8,bo,br,bl,bi,bd,bt⟩:=hb;have hwr:IntKind.u64.wrap f.stream=f.stream:=by rw[IntKind.wrap_u64];omega
 obtain⟨v1,w1,q,g⟩:=zbW w.drew v l 48 48 h rfl (by omega);have u:=zi.app (w:=w.drew) p h g;have L1:(l++[(48:UInt8)]).length≤35184372088832+1:=by simp;omega
 go_enter Tryz.func189,Tryz.ntmps189;go_wp2_with fail;refine zl 19 (fun w'=>zi w' b f t) (p) ?_;refine GI 0 ?_;refine GS rfl ?_ ?_ ?_;rotate_left
 ·(intro i a;(try dsimp only at a);have hc:=a.cells;clear a;obtain⟨c0,c1,c2,c3,c4,j,k,m,n,o⟩:=hc;go_simp)<;>(try with_reducible rfl)
 try simp only[PS]
 refine GI 3 ?_;iterate 4
  refine GS rfl ?_ ?_ ?_;rotate_left
  ·(intro i a;(try dsimp only at a);have hc:=a.cells;clear a;obtain⟨c0,c1,c2,c3,c4,j,k,m,n,o⟩:=hc;go_simp)<;>(try with_reducible rfl)
  try simp only[PS]
 refine GI 8 ?_;iterate 4
  refine GS rfl ?_ ?_ ?_;rotate_left
  ·(intro i a;(try dsimp only at a);have hc:=a.cells;clear a;obtain⟨c0,c1,c2,c3,c4,j,k,m,n,o⟩:=hc;go_simp)<;>(try with_reducible rfl)
  try simp only[PS]
 refine GI 13 ?_;iterate 4
  refine GS rfl ?_ ?_ ?_;rotate_left
  ·(intro i a;(try dsimp only at a);have hc:=a.cells;clear a;obtain⟨c0,c1,c2,c3,c4,j,k,m,n,o⟩:=hc;go_simp)<;>(try with_reducible rfl)
  try simp only[PS]
 refine zx 1 rfl (fun K c=>?_);go_simp;refine c.out _ _ ?_ ?_
 ·exact zi.mod (w:=w.drew) (S:=NoB) p ((Mod.refl _ _).alloc _) (fun x=>x)
 clear c K;try simp only[PS]
 refine zx 2 rfl (fun K c=>?_);refine zF rfl _ _ _ _ rfl _ _ _ rfl rfl q ?_;refine c.out _ _ u ?_;clear c K;try simp only[PS]
 refine zx 7 rfl (fun K c=>?_);go_simp;refine(zY v1 (l++([48])) (f.id) w1 g.own (by omega) (by omega)).mono ?_;rintro e w2 ⟨v2,rfl,d⟩;have y:=u.app g.own d;have r:=g.trans d;have L2:(l++([48]++zL f.id)).length≤35184372088832+9:=by have:=zs (f.id);simp at this L1 ⊢;omega
 refine c.out _ _ y ?_;clear d;clear c K;try simp only[PS]
 refine zx 12 rfl (fun K c=>?_);go_simp;refine(zY v2 (l++([48]++zL f.id)) (f.dl) w2 r.own (by omega) (by omega)).mono ?_;rintro e w3 ⟨v3,rfl,d⟩;have z:=y.app r.own d;have s:=r.trans d;have L3:(l++([48]++zL f.id++zL f.dl)).length≤35184372088832+17:=by have:=zs (f.dl);simp at this L2 ⊢;omega
 refine c.out _ _ z ?_;clear d;clear c K;try simp only[PS]
 refine zx 17 rfl (fun K c=>?_);go_simp;refine(zf2 v3 (l++([48]++zL f.id++zL f.dl)) f.data w3 s.own (by omega) bt).mono ?_;rintro e w4 ⟨v4,rfl,d⟩;have F4:=z.app s.own d;have A4:=s.trans d;refine c.out _ _ F4 ?_;clear d;clear c K;try simp only[PS]
 refine GI 18 ?_;refine GS rfl ?_ ?_ ?_;rotate_left
 ·(intro i a;(try dsimp only at a);have hc:=a.cells;clear a;obtain⟨c0,c1,c2,c3,c4,j,k,m,n,o⟩:=hc;go_simp)<;>(try with_reducible rfl)
 try simp only[PS]
 refine zo ?_;go_wp2_with fail;go_ret;exact⟨_,rfl,A4.drew⟩
def zcA(f:Frm):List UInt8:=[8]++zL f.stream.toNat++zL f.off++(zL f.data.length++f.data)
theorem write4(v:Value)(l:List UInt8)(b:Nat)(f:Frm)(u:Value)(w:World)(i:zi w b f u)(h:OB w v l)(hl:l.length≤35184372088832)(hb:f.Bounds)(g:f.fin=false) :
  Calls Tryz.prog 180 #[v,.pointer (some ⟨b,0,none⟩)] w (znt w v l (zcA f)):=by
 obtain⟨s0,s8,bo,br,bl,bi,bd,bt⟩:=hb;have hwr:IntKind.u64.wrap f.stream=f.stream:=by rw[IntKind.wrap_u64];omega
 obtain⟨v1,w1,r,j⟩:=zbW w.drew v l 8 8 h rfl (by omega);have y:=zi.app (w:=w.drew) i h j;have L1:(l++[(8:UInt8)]).length≤35184372088832+1:=by simp;omega
 have d5:w.cell? ⟨b,5,none⟩=some (.bool false):=by rw[←g];exact i.cell rfl
 go_enter Tryz.func180,Tryz.ntmps180;go_wp2_with fail;refine zl 21 (fun w'=>zi w' b f u) (i) ?_;refine GI 0 ?_;iterate 2
  refine GS rfl ?_ ?_ ?_;rotate_left
  ·(intro k a;(try dsimp only at a);have hc:=a.cells;clear a;obtain⟨c0,c1,c2,c3,c4,m,n,o,p,q⟩:=hc;go_simp)<;>(try with_reducible rfl)
  try simp only[PS]
 refine GI 4 ?_;iterate 5
  refine GS rfl ?_ ?_ ?_;rotate_left
  ·(intro k a;(try dsimp only at a);have hc:=a.cells;clear a;obtain⟨c0,c1,c2,c3,c4,m,n,o,p,q⟩:=hc;go_simp)<;>(try with_reducible rfl)
  try simp only[PS]
 refine GI 10 ?_;iterate 4
  refine GS rfl ?_ ?_ ?_;rotate_left
  ·(intro k a;(try dsimp only at a);have hc:=a.cells;clear a;obtain⟨c0,c1,c2,c3,c4,m,n,o,p,q⟩:=hc;go_simp)<;>(try with_reducible rfl)
  try simp only[PS]
 refine GI 15 ?_;iterate 4
  refine GS rfl ?_ ?_ ?_;rotate_left
  ·(intro k a;(try dsimp only at a);have hc:=a.cells;clear a;obtain⟨c0,c1,c2,c3,c4,m,n,o,p,q⟩:=hc;go_simp)<;>(try with_reducible rfl)
  try simp only[PS]
 refine zx 2 rfl (fun K c=>?_);go_simp;refine c.out _ _ ?_ ?_
 ·exact zi.mod (w:=w.drew) (S:=NoB) i ((Mod.refl _ _).alloc _) (fun x=>x)
 clear c K;try simp only[PS]
 refine zx 3 rfl (fun K c=>?_);refine zF rfl _ _ _ _ rfl _ _ _ rfl rfl r ?_;refine c.out _ _ y ?_;clear c K;try simp only[PS]
 refine zx 9 rfl (fun K c=>?_);go_simp;refine(zcM v1 (l++([8])) (f.stream) w1 j.own (by omega) (by omega) (by omega)).mono ?_;rintro e w2 ⟨v2,rfl,d⟩;have z:=y.app j.own d;have s:=j.trans d;have L2:(l++([8]++zL f.stream.toNat)).length≤35184372088832+9:=by have:=zs (f.stream.toNat);simp at this L1 ⊢;omega
 refine c.out _ _ z ?_;clear d;clear c K;try simp only[PS]
 refine zx 14 rfl (fun K c=>?_);go_simp;refine(zY v2 (l++([8]++zL f.stream.toNat)) (f.off) w2 s.own (by omega) (by omega)).mono ?_;rintro e w3 ⟨v3,rfl,d⟩;have A:=z.app s.own d;have t:=s.trans d;have L3:(l++([8]++zL f.stream.toNat++zL f.off)).length≤35184372088832+17:=by have:=zs (f.off);simp at this L2 ⊢;omega
 refine c.out _ _ A ?_;clear d;clear c K;try simp only[PS]
 refine zx 19 rfl (fun K c=>?_);go_simp;refine(zf2 v3 (l++([8]++zL f.stream.toNat++zL f.off)) f.data w3 t.own (by omega) bt).mono ?_;rintro e w4 ⟨v4,rfl,d⟩;have F4:=A.app t.own d;have A4:=t.trans d;refine c.out _ _ F4 ?_;clear d;clear c K;try simp only[PS]
 refine GI 20 ?_;refine GS rfl ?_ ?_ ?_;rotate_left
 ·(intro k a;(try dsimp only at a);have hc:=a.cells;clear a;obtain⟨c0,c1,c2,c3,c4,m,n,o,p,q⟩:=hc;go_simp)<;>(try with_reducible rfl)
 try simp only[PS]
 refine zo ?_;go_wp2_with fail;go_ret;exact⟨_,rfl,A4.drew⟩
def zbX(f:Frm):List UInt8:=[9]++zL f.stream.toNat++zL f.off++(zL f.data.length++f.data)
theorem zpC(v:Value)(l:List UInt8)(b:Nat)(f:Frm)(u:Value)(w:World)(i:zi w b f u)(h:OB w v l)(hl:l.length≤35184372088832)(hb:f.Bounds)(g:f.fin=true) :
  Calls Tryz.prog 180 #[v,.pointer (some ⟨b,0,none⟩)] w (znt w v l (zbX f)):=by
 obtain⟨s0,s8,bo,br,bl,bi,bd,bt⟩:=hb;have hwr:IntKind.u64.wrap f.stream=f.stream:=by rw[IntKind.wrap_u64];omega
 obtain⟨v1,w1,r,j⟩:=zbW w.drew v l 9 9 h rfl (by omega);have y:=zi.app (w:=w.drew) i h j;have L1:(l++[(9:UInt8)]).length≤35184372088832+1:=by simp;omega
 have d5:w.cell? ⟨b,5,none⟩=some (.bool true):=by rw[←g];exact i.cell rfl
 go_enter Tryz.func180,Tryz.ntmps180;go_wp2_with fail;refine zl 21 (fun w'=>zi w' b f u) (i) ?_;refine GI 0 ?_;iterate 2
  refine GS rfl ?_ ?_ ?_;rotate_left
  ·(intro k a;(try dsimp only at a);have hc:=a.cells;clear a;obtain⟨c0,c1,c2,c3,c4,m,n,o,p,q⟩:=hc;go_simp)<;>(try with_reducible rfl)
  try simp only[PS]
 refine GI 4 ?_;iterate 5
  refine GS rfl ?_ ?_ ?_;rotate_left
  ·(intro k a;(try dsimp only at a);have hc:=a.cells;clear a;obtain⟨c0,c1,c2,c3,c4,m,n,o,p,q⟩:=hc;go_simp)<;>(try with_reducible rfl)
  try simp only[PS]
 refine GI 10 ?_;iterate 4
  refine GS rfl ?_ ?_ ?_;rotate_left
  ·(intro k a;(try dsimp only at a);have hc:=a.cells;clear a;obtain⟨c0,c1,c2,c3,c4,m,n,o,p,q⟩:=hc;go_simp)<;>(try with_reducible rfl)
  try simp only[PS]
 refine GI 15 ?_;iterate 4
  refine GS rfl ?_ ?_ ?_;rotate_left
  ·(intro k a;(try dsimp only at a);have hc:=a.cells;clear a;obtain⟨c0,c1,c2,c3,c4,m,n,o,p,q⟩:=hc;go_simp)<;>(try with_reducible rfl)
  try simp only[PS]
 refine zx 2 rfl (fun K c=>?_);go_simp;refine c.out _ _ ?_ ?_
 ·exact zi.mod (w:=w.drew) (S:=NoB) i ((Mod.refl _ _).alloc _) (fun x=>x)
 clear c K;try simp only[PS]
 refine zx 3 rfl (fun K c=>?_);refine zF rfl _ _ _ _ rfl _ _ _ rfl rfl r ?_;refine c.out _ _ y ?_;clear c K;try simp only[PS]
 refine zx 9 rfl (fun K c=>?_);go_simp;refine(zcM v1 (l++([9])) (f.stream) w1 j.own (by omega) (by omega) (by omega)).mono ?_;rintro e w2 ⟨v2,rfl,d⟩;have z:=y.app j.own d;have s:=j.trans d;have L2:(l++([9]++zL f.stream.toNat)).length≤35184372088832+9:=by have:=zs (f.stream.toNat);simp at this L1 ⊢;omega
 refine c.out _ _ z ?_;clear d;clear c K;try simp only[PS]
 refine zx 14 rfl (fun K c=>?_);go_simp;refine(zY v2 (l++([9]++zL f.stream.toNat)) (f.off) w2 s.own (by omega) (by omega)).mono ?_;rintro e w3 ⟨v3,rfl,d⟩;have A:=z.app s.own d;have t:=s.trans d;have L3:(l++([9]++zL f.stream.toNat++zL f.off)).length≤35184372088832+17:=by have:=zs (f.off);simp at this L2 ⊢;omega
 refine c.out _ _ A ?_;clear d;clear c K;try simp only[PS]
 refine zx 19 rfl (fun K c=>?_);go_simp;refine(zf2 v3 (l++([9]++zL f.stream.toNat++zL f.off)) f.data w3 t.own (by omega) bt).mono ?_;rintro e w4 ⟨v4,rfl,d⟩;have F4:=A.app t.own d;have A4:=t.trans d;refine c.out _ _ F4 ?_;clear d;clear c K;try simp only[PS]
 refine GI 20 ?_;refine GS rfl ?_ ?_ ?_;rotate_left
 ·(intro k a;(try dsimp only at a);have hc:=a.cells;clear a;obtain⟨c0,c1,c2,c3,c4,m,n,o,p,q⟩:=hc;go_simp)<;>(try with_reducible rfl)
 try simp only[PS]
 refine zo ?_;go_wp2_with fail;go_ret;exact⟨_,rfl,A4.drew⟩
def zlb(t:UInt8)(f:Frm):List UInt8:=[t]++zL f.lim
theorem zgL(v:Value)(l:List UInt8)(b tb d:Nat)(t:UInt8)(f:Frm)(j:Value)(w:World)(k:zi w b f j)(hc:zc3 w tb d t)(g:¬v.ownBlock=some tb)(i:¬v.ownBlock=some d)(h:OB w v l)(hl:l.length≤35184372088832)(hb:f.Bounds) :
  Calls Tryz.prog 213 #[v,.pointer (some ⟨b,0,none⟩),.pointer (some ⟨tb,0,none⟩),.pointer (some ⟨d,0,none⟩)] w (znt w v l (zlb t f)):=by
 obtain⟨s0,s8,bo,br,bl,bi,bd,bt⟩:=hb;obtain⟨v1,m,o,n⟩:=zbW w.drew v l t (t.toNat:Int) h rfl (by omega);have B:zi m b f j∧zc3 m tb d t:=⟨zi.app (w:=w.drew) k h n,zc3.app (w:=w.drew) hc g i n⟩;have L1:(l++[t]).length≤35184372088832+1:=by simp;omega
 go_enter Tryz.func213,Tryz.ntmps213;go_wp2_with fail;refine zl 11 (fun w'=>zi w' b f j∧zc3 w' tb d t) (⟨k,hc⟩) ?_;refine GI 0 ?_;iterate 2
  refine GS rfl ?_ ?_ ?_;rotate_left
  ·(intro p a;(try dsimp only at a);have hc:=a.1.cells;obtain⟨q,cb⟩:=a.2;clear a;obtain⟨c0,c1,c2,c3,c4,r,s,u,y,z⟩:=hc;go_simp)<;>(try with_reducible rfl)
  try simp only[PS]
 refine GI 4 ?_;iterate 2
  refine GS rfl ?_ ?_ ?_;rotate_left
  ·(intro p a;(try dsimp only at a);have hc:=a.1.cells;obtain⟨q,cb⟩:=a.2;clear a;obtain⟨c0,c1,c2,c3,c4,r,s,u,y,z⟩:=hc;go_simp)<;>(try with_reducible rfl)
  try simp only[PS]
 refine zx 2 rfl (fun K c=>?_);go_simp;refine c.out _ _ ?_ ?_
 ·exact⟨zi.mod (w:=w.drew) (S:=NoB) k ((Mod.refl _ _).alloc _) (fun x=>x),zc3.mod (w:=w.drew) (S:=NoB) hc ((Mod.refl _ _).alloc _) (fun x=>x) (fun x=>x)⟩
 clear c K;try simp only[PS]
 refine zx 3 rfl (fun K c=>?_);refine zF rfl _ _ _ _ rfl _ _ _ rfl rfl o ?_;refine c.out _ _ B ?_;clear c K;try simp only[PS]
 refine zx 6 rfl (fun K c=>?_);go_simp;refine(zeC b m).mono ?_;rintro e w' ⟨rfl,rfl⟩;refine c.out _ _ B ?_;clear c K;try simp only[PS]
 refine GI 7 ?_;iterate 2
  refine GS rfl ?_ ?_ ?_;rotate_left
  ·(intro p a;(try dsimp only at a);have hc:=a.1.cells;obtain⟨q,cb⟩:=a.2;clear a;obtain⟨c0,c1,c2,c3,c4,r,s,u,y,z⟩:=hc;go_simp)<;>(try with_reducible rfl)
  try simp only[PS]
 refine zx 9 rfl (fun K c=>?_);go_simp;refine(zY v1 (l++[t]) f.lim m n.own (by omega) bl).mono ?_;rintro e C ⟨v2,rfl,D⟩;have A:=n.trans D;have F2:zi C b f j∧zc3 C tb d t:=⟨zi.app (w:=w.drew) k h A,zc3.app (w:=w.drew) hc g i A⟩;refine c.out _ _ F2 ?_;clear D;clear c K;try simp only[PS]
 refine GI 10 ?_;refine GS rfl ?_ ?_ ?_;rotate_left
 ·(intro p a;(try dsimp only at a);have hc:=a.1.cells;obtain⟨q,cb⟩:=a.2;clear a;obtain⟨c0,c1,c2,c3,c4,r,s,u,y,z⟩:=hc;go_simp)<;>(try with_reducible rfl)
 try simp only[PS]
 refine zo ?_;go_wp2_with fail;go_ret;exact⟨_,rfl,A.drew⟩
theorem write1(v:Value)(l:List UInt8)(b:Nat)(w:World)(h:OB w v l)(hl:l.length≤35184372088832) :
  Calls Tryz.prog 170 #[v,.pointer (some ⟨b,0,none⟩)] w (znt w v l [1]):=by
 obtain⟨v1,w1,c,d⟩:=zbW w v l 1 1 h rfl (by omega);obtain⟨a,cap,rfl,_⟩:=zj h;have H:=zb d;clear d;go_enter Tryz.func170,Tryz.ntmps170;go_wp2_with (at_builtin;refine zm rfl _ _ _ _ rfl _ _ _ rfl rfl c ?_);go_ret;exact⟨_,rfl,H.out⟩
def RR(w:World)(v:Value)(rs:zD):Prop :=
 ∃a cap,v = .slice a rs.length cap∧rs.length≤cap∧cap≤maxLen∧∀i,i<rs.length→∃g o,a=some ⟨g,o,none⟩∧w.cell? ⟨g,o+i*2,none⟩=some (.int .u64 (loAt rs i:Int))∧w.cell? ⟨g,o+i*2+1,none⟩=some (.int .u64 (hiAt rs i:Int))∧loAt rs i<18446744073709551616∧hiAt rs i<18446744073709551616
def zaX(S:Nat→Prop)(v:Value):Prop:=∀g o n c,v = .slice (some ⟨g,o,none⟩) n c→¬S g
theorem RR.mod{S:Nat→Prop}{w w':World}{v:Value}{rs:zD}(h:RR w v rs)(m:Mod S w w')(hs:zaX S v):RR w' v rs:=by
 obtain⟨a,cap,rfl,h1,h2,h3⟩:=h;refine⟨a,cap,rfl,h1,h2,fun i hi=>?_⟩;obtain⟨g,o,rfl,c1,c2,c3⟩:=h3 i hi;exact⟨g,o,rfl,m.cell (a:=⟨g,_,none⟩) (hs g o _ _ rfl) c1,m.cell (a:=⟨g,_,none⟩) (hs g o _ _ rfl) c2,c3⟩
theorem zaX.no(v:Value):zaX NoB v:=fun _ _ _ _ _ x=>x
def znu(rs:zD)(i:Nat):Bool :=
 decide (loAt rs i≤hiAt rs i)&&decide (hiAt rs i≤4611686018427387903)&&(decide (i=0)||(decide (2≤loAt rs (i-1))&&decide (hiAt rs i+2≤loAt rs (i-1))))
def znv(rs:zD)(k:Nat):Bool:=(List.range k).all (znu rs)
theorem zlk(rs:zD)(k:Nat):znv rs (k+1)=(znv rs k&&znu rs k):=by simp[znv,List.range_succ]
def zav(rs:zD):Bool:=znv rs rs.length&&decide (0<rs.length)
theorem zj8{rs:zD}{k:Nat}(hk:k<rs.length)(h:znu rs k=false):zav rs=false:=by
 unfold zav;have:znv rs rs.length=false:=by
  cases hq:znv rs rs.length
  ·rfl
  ·unfold znv at hq;rw[List.all_eq_true]at hq;have:=hq k (List.mem_range.2 hk);rw[h]at this;cases this
 rw[this];rfl
def Says(w:World)(x:Bool)(e:Ending)(w':World):Prop:=e = .returned (.bool x)∧Mod NoB w w'
theorem zd6(b:Nat)(f:Frm)(D:Value)(w:World)(t:zi w b f D)(v:RR w D f.rngs)(hb:f.rngs.length≤1099511627776) :
  Calls Tryz.prog 175 #[.pointer (some ⟨b,0,none⟩)] w (Says w (zav f.rngs)):=by
 have c9:=t.cells.2.2.2.2.2.2.2.2.2;obtain⟨a,cap,rfl,h1,h2,h3⟩:=id v;unfold maxLen at h2;clear h3;go_enter Tryz.func175,Tryz.ntmps175;go_wp2_with fail
 go_loopw [10] (fun i wr=>∃k:Nat,k≤f.rngs.length∧i = .int .i64 k∧znv f.rngs k=true∧Mod NoB w wr) (fun i _=>f.rngs.length-(intOf i).toNat)
 case atStart=>exact⟨0,Nat.zero_le _,rfl,rfl,Mod.refl _ _⟩
 case round =>
  obtain⟨k,hk,rfl,p,c⟩:=hrel;have d:=zb p;clear p;by_cases q:k<f.rngs.length
  ·obtain⟨a',E,hv,_,_,h3⟩:=v.mod c (zaX.no _);cases hv;obtain⟨g,o,rfl,F,e2,b1,b2⟩:=h3 k q;have n:0<k→wr.cell? ⟨g,o+(k-1)*2,none⟩=some (.int .u64 (loAt f.rngs (k-1):Int))∧loAt f.rngs (k-1)<18446744073709551616:=fun h0=>by
    obtain⟨g',o',hg,n,_,b3,_⟩:=h3 (k-1) (by omega);cases hg;exact⟨n,b3⟩
   have r:=(t.mod c (fun x=>x)).cells.2.2.2.2.2.2.2.2.2;have hbl:=zk r;have hgl:=zk F;have G:=zb (zlk f.rngs k);have u:=zb (fun h=>zj8 (rs:=f.rngs) q h);have e:Hid (znu f.rngs k=(decide (loAt f.rngs k≤hiAt f.rngs k)&&decide (hiAt f.rngs k≤4611686018427387903)&&(decide (k=0)||(decide (2≤loAt f.rngs (k-1))&&decide (hiAt f.rngs k+2≤loAt f.rngs (k-1)))))):=rfl;obtain⟨lo,j⟩:=nm (loAt f.rngs k);obtain⟨hi,l⟩:=nm (hiAt f.rngs k);obtain⟨pl,m⟩:=nm (loAt f.rngs (k-1));rw[j,l,m]at e;rw[j]at F b1;rw[l]at e2 b2;rw[m]at n;clear j l m h3 v;clear t c9;by_cases H:hi<lo
   ·have y:decide (hi<lo)=true:=by simpa using H
    go_wp2_with fail;go_quiet (fail);go_wp2_with fail;go_ret;exact⟨by rw[u.out (by rw[e.out];simp;omega)];rfl,(c.alloc _).drewN _⟩
   ·have y:decide (hi<lo)=false:=by simpa using H
    by_cases I:(4611686018427387903:Int)<hi
    ·have z:decide ((4611686018427387903:Int)<hi)=true:=by simpa using I
     go_wp2_with fail;go_quiet (fail);go_wp2_with fail;go_ret;exact⟨by rw[u.out (by rw[e.out];simp;omega)];rfl,(c.alloc _).drewN _⟩
    ·have z:decide ((4611686018427387903:Int)<hi)=false:=by simpa using I
     by_cases J:0<k
     ·have A:decide (0<k)=true:=by simpa using J
      obtain⟨e4,b4⟩:=n (by omega);have s1:IntKind.i64.wrap ((k:Int)-1)=(k:Int)-1:=IntWalk.i64_in _ (by omega);have s2:((k:Int)-1).toNat=k-1:=by omega
      have s3:0≤(k:Int)-1:=by omega
      have s4:(k:Int)-1<f.rngs.length:=by omega
      clear n;by_cases K:(pl:Int)<2
      ·have B:decide ((pl:Int)<2)=true:=by simpa using K
       go_wp2_with fail;go_quiet (fail);go_wp2_with fail;go_ret;exact⟨by rw[u.out (by rw[e.out];simp;omega)];rfl,(c.alloc _).drewN _⟩
      ·have B:decide ((pl:Int)<2)=false:=by simpa using K
       have s5:IntKind.u64.wrap ((pl:Int)-2)=(pl:Int)-2:=by rw[IntKind.wrap_u64];omega
       by_cases L:(pl:Int)-2<hi
       ·have C:decide ((pl:Int)-2<hi)=true:=by simpa using L
        go_wp2_with fail;go_quiet (fail);go_wp2_with fail;go_ret;exact⟨by rw[u.out (by rw[e.out];simp;omega)];rfl,(c.alloc _).drewN _⟩
       ·have C:decide ((pl:Int)-2<hi)=false:=by simpa using L
        go_wp2_with fail;go_quiet (fail);go_wp2_with fail;go_roundw
        case rel=>exact⟨k+1,by omega,by go_num,by rw[G.out,d.out,e.out];simp;omega,(c.alloc _).drewN _⟩
        case measure=>simp[intOf];omega
     ·have A:decide (0<k)=false:=by simpa using J
      clear n;go_wp2_with fail;go_quiet (fail);go_wp2_with fail;go_roundw
      case rel=>exact⟨k+1,by omega,by go_num,by rw[G.out,d.out,e.out];simp;omega,(c.alloc _).drewN _⟩
      case measure=>simp[intOf];omega
  ·have s:k=f.rngs.length:=by omega
   have HE:Hid (zav f.rngs=decide (0<f.rngs.length)):=by
    show _=_;unfold zav;have:=d.out;rw[s]at this;rw[this];simp
   have r:=(t.mod c (fun x=>x)).cells.2.2.2.2.2.2.2.2.2;clear s;go_wp2_with fail;go_ret;exact⟨by rw[HE.out];rfl,c⟩
end Go.Proofs.YtddfdpbaiedcjaaGreatDoor
namespace Go.Proofs.YtddfdpbaiedcjaaGreatDoor
open Go.RowKit Go.Shelf
attribute [local go_sem] Oper.semAt_some
def za0(rs:zD)(k:Nat):List (Nat×(Nat×Nat)):=(List.range k).map fun j=>(rs.length-1-j,(loAt rs (rs.length-1-j),hiAt rs (rs.length-1-j)))
theorem zid(rs:zD)(k:Nat):za0 rs (k+1)=za0 rs k++[(rs.length-1-k,(loAt rs (rs.length-1-k),hiAt rs (rs.length-1-k)))]:=by simp[za0,List.range_succ]
theorem zf3(rs:zD)(k:Nat):(za0 rs k).length=k:=by simp[za0]
def zpd(x:Nat×(Nat×Nat)):Array Value:=#[.int .i64 (x.1:Int),.agg #[.int .u64 (x.2.1:Int),.int .u64 (x.2.2:Int)]]
def zb6(b:Nat)(a:Option Addr)(W W':World):Prop:=W'.heap[b]?=W.heap[b]?∧∀g o,a=some ⟨g,o,none⟩→W'.heap[g]?=W.heap[g]?
theorem zb6.refl(Bs:Nat)(a:Option Addr)(W:World):zb6 Bs a W W:=⟨rfl,fun _ _ _=>rfl⟩
theorem zb6.trans{b:Nat}{a:Option Addr}{A B C:World}(h:zb6 b a A B)(k:zb6 b a B C):zb6 b a A C:=⟨k.1.trans h.1,fun g o e=>(k.2 g o e).trans (h.2 g o e)⟩
theorem zb6.box{b:Nat}{a:Option Addr}{A B:World}{v:Value}(h:zb6 b a A B)(hc:A.cell? ⟨b,0,none⟩=some v):B.cell? ⟨b,0,none⟩=some v:=(World.cell?_of_block h.1).trans hc
theorem zb6.row{Bs g o x:Nat}{A B:World}{v:Value}(h:zb6 Bs (some ⟨g,o,none⟩) A B)(hc:A.cell? ⟨g,x,none⟩=some v):B.cell? ⟨g,x,none⟩=some v:=(World.cell?_of_block (h.2 g o rfl)).trans hc
theorem znD(F:Fence)(n:Nat)(hF:F.fn 215)(z:F.round=none)(hn:1≤n)(l w cap:Nat)(a:Option Addr)(rs:zD)(J y:List (Nat×(Nat×Nat))→World→Prop)
  (A:∀pre x W,J pre W→pre.length<rs.length→YieldAt F (n-1) Tryz.prog l (zpd x) W fun e W' =>
   (e = .returned (.bool true)∧J (pre++[x]) W'∧zb6 w a W W')∨(e = .returned (.bool false)∧y (pre++[x]) W'))
  (W:World) (h:W.cell? ⟨w,0,none⟩=some (.slice a rs.length cap)) (hr:RR W (.slice a rs.length cap) rs) (h0:J [] W) :
  CallsIn F n Tryz.prog 215 #[.func (.yield l) #[] #[],.pointer (some ⟨w,0,none⟩)] W fun e W'=>(∃v,e = .returned v) ∧
   ((∃ys,ys=za0 rs rs.length∧J ys W')∨(∃pre,(∃k,k≤rs.length∧pre=za0 rs k)∧y pre W')):=by
 obtain⟨_,_,e,r1,r2,B⟩:=hr;cases e;unfold maxLen at r2;have H:(rs.length:Int)≤9223372036854775807:=by omega
 refine callsIn_of_wp Tryz.func215 rfl hF ?_ z;simp only[Tryz.ntmps215,List.size_toArray,List.length_cons,List.length_nil,Nat.reduceAdd,Nat.reduceSub,Array.replicate_succ,Array.replicate_zero,List.push_toArray,List.append_toArray,List.nil_append,List.cons_append];gi_wp2
 gi_loopw [3] (fun i wr=>∃k:Nat,k≤rs.length∧i = .int .i64 ((rs.length:Int)-1-k)∧J (za0 rs k) wr∧zb6 w a W wr) (fun i _=>(intOf i+1).toNat)
 case atStart=>exact⟨0,Nat.zero_le _,by simp,h0,zb6.refl _ _ _⟩
 case round =>
  obtain⟨k,hk,rfl,c,b⟩:=hrel;by_cases C:k<rs.length
  ·obtain⟨q,I⟩:=nm (rs.length-1-k);have j:(rs.length:Int)-1-k=(q:Int):=by omega
   have D:q<rs.length:=by omega
   obtain⟨g,o,rfl,c1,c2,_,_⟩:=B q D;have d:=b.box h;have p:=b.row c1;have r:=b.row c2;obtain⟨fn,tmps,assign,body,K,L⟩:=A _ (q,(loAt rs q,hiAt rs q)) wr c (by rw[zf3];exact C);have HB:=zb (zid rs k);have M:=zb I;have N:=zb c;have E:=zb j;unfold zpd at K;dsimp only at K;rw[j];clear I c B c1 c2 j;gi_wp2;refine L.mono ?_;clear L A;rintro e O (⟨rfl,s,t⟩|⟨rfl,f⟩)
   ·have m:Hid (J (za0 rs (k+1)) O):=by
     show J _ _;rw[HB.out,M.out];exact s
    have G:=zb (b.trans t);clear s t b d p r h;gi_wp2;go_roundw
    case rel=>exact⟨k+1,by omega,by rw[←E.out];congr 1;omega,m.out,G.out⟩
    case measure=>simp[intOf]
   ·have m:Hid (y (za0 rs (k+1)) O):=by
     show y _ _;rw[HB.out,M.out];exact f
    clear f b d p r h;gi_wp2;refine bodyPost_ret (results_none rfl _ _ _) rfl ?_;exact⟨⟨_,rfl⟩,.inr ⟨_,⟨k+1,by omega,rfl⟩,m.out⟩⟩
  ·have u:k=rs.length:=by omega
   have N:=zb c;have HK:=zb u;have P:¬(0:Int)≤(rs.length:Int)-1-k:=by omega
   clear c u B A;gi_wp2
   go_end0
   exact⟨⟨_,rfl⟩,.inl (by rw[←HK.out];exact N.out)⟩
theorem zll(F:Fence)(n:Nat)(hF:F.fn 194)(b:F.round=none)(a:Option Addr)(len cap:Nat)(w:World) :
  CallsIn F n Tryz.prog 194 #[.slice a len cap] w fun e w'=>e = .returned (.func (.func 215) #[] #[.pointer (some ⟨w.heap.size,0,none⟩)])∧w'=w.alloc (.cells #[.slice a len cap] 63):=by
 refine callsIn_of_wp Tryz.func194 rfl hF ?_ b;simp only[Tryz.ntmps194,List.size_toArray,List.length_cons,List.length_nil,Nat.reduceAdd,Nat.reduceSub,Array.replicate_succ,Array.replicate_zero,List.push_toArray,List.append_toArray,List.nil_append,List.cons_append];gi_wp2;go_ret;exact⟨rfl,rfl⟩
theorem zj9(F:Fence)(n:Nat)(hF:F.fn 215)(d:F.round=none)(hn:1≤n)(b cap:Nat)(a:Option Addr)(rs:zD)(w:World)(c:w.cell? ⟨b,0,none⟩=some (.slice a rs.length cap))(hr:RR w (.slice a rs.length cap) rs) :
  SeqStopsK F n Tryz.prog 215 #[.pointer (some ⟨b,0,none⟩)] zpd (zb6 b a) (fun ys=>ys=za0 rs rs.length) (fun pre=>∃k,k≤rs.length∧pre=za0 rs k) rs.length w:=fun l J Jx W f _ _ hY h0=>by
 have h:=zk c;refine znD F n hF d hn l b cap a rs J Jx hY W ((f.cell (p:=⟨b,0,none⟩) h).trans c) ?_ h0;obtain⟨_,_,e,h1,h2,h3⟩:=hr;cases e;refine⟨_,_,rfl,h1,h2,fun i hi=>?_⟩;obtain⟨g,o,e,j,q2,q3,q4⟩:=h3 i hi;have m:=zk j;exact⟨g,o,e,(f.cell (p:=⟨g,_,none⟩) m).trans j,(f.cell (p:=⟨g,_,none⟩) m).trans q2,q3,q4⟩
end Go.Proofs.YtddfdpbaiedcjaaGreatDoor
namespace Go.Proofs.YtddfdpbaiedcjaaGreatDoor
open Go.RowKit Go.Shelf
attribute [local go_sem] Oper.semAt_some
theorem zpF(F:Fence)(n:Nat)(hF:F.fn 141)(a:F.round=none)(b:Nat)(w:World) :
  CallsIn F n Tryz.prog 141 #[.pointer (some ⟨b,0,none⟩)] w fun e w'=>e = .returned (.func (.func 193) #[] #[.pointer (some ⟨w.heap.size,0,none⟩)])∧w'=w.alloc (.cells #[.pointer (some ⟨b,0,none⟩)] 114):=by
 refine callsIn_of_wp Tryz.func141 rfl hF ?_ a;simp only[Tryz.ntmps141,List.size_toArray,List.length_cons,List.length_nil,Nat.reduceAdd,Nat.reduceSub,Array.replicate_succ,Array.replicate_zero,List.push_toArray,List.append_toArray,List.nil_append,List.cons_append];gi_wp2;go_ret;exact⟨rfl,rfl⟩
def zd7(lb lr:Nat)(a:Option Addr)(W:World)(k:Nat):Prop:=k=lb∨k=lr∨((∀g o,a=some ⟨g,o,none⟩→k≠g)∧∃cs fz,W.heap[k]?=some (.cells cs 214 fz))
def zqL(x:Nat×Nat):Array Value:=#[.agg #[.int .u64 (x.1:Int),.int .u64 (x.2:Int)]]
theorem znG(F:Fence)(n:Nat)(p:∀f,F.fn f)(q:F.round=none)(hn:4≤n)(l M b lb cap:Nat)(a:Option Addr)(rs:zD)(J Z:List (Nat×Nat)→World→Prop)(W:World)
  (hY:∀m pre x W1,J pre W1→pre.length<rs.length→YieldAt F m Tryz.prog l (zqL x) W1 fun e W' =>
   Mod (zd7 lb l a W1) W1 W'∧((e = .returned (.bool true)∧J (pre++[x]) W')∨(e = .returned (.bool false)∧Z (pre++[x]) W')))
  (hJ:OwnFrom W.heap.size J) (N:OwnFrom W.heap.size Z) (hs:W.cell? ⟨M,0,none⟩=some (.pointer (some ⟨b,0,none⟩))) (hb:W.cell? ⟨b,0,none⟩=some (.slice a rs.length cap)) (j:RR W (.slice a rs.length cap) rs) (hlb:lb<W.heap.size) (hl:l<W.heap.size) (O:∀g o,a=some ⟨g,o,none⟩→g<W.heap.size∧g≠lb∧g≠l) (h0:J [] W) :
  CallsIn F n Tryz.prog 193 #[.func (.yield l) #[] #[],.pointer (some ⟨M,0,none⟩)] W fun e W'=>(∃v,e = .returned v) ∧
   (J ((za0 rs rs.length).map (·.2)) W'∨∃k,k≤rs.length∧Z ((za0 rs k).map (·.2)) W'):=by
 have P:=zb hJ;have Q:=zb N;have HY:=zb hY;have HR:=zb j;have H0:=zb h0;have aa:(W.alloc (.cells #[.func (.yield l) #[] #[]] 300)).cell? ⟨M,0,none⟩=some (.pointer (some ⟨b,0,none⟩)):=((Mod.refl NoB W).alloc _).cell (a:=⟨M,0,none⟩) (fun x=>x) hs;have ab:(W.alloc (.cells #[.func (.yield l) #[] #[]] 300)).cell? ⟨b,0,none⟩=some (.slice a rs.length cap):=((Mod.refl NoB W).alloc _).cell (a:=⟨b,0,none⟩) (fun x=>x) hb;have h1:1≤n:=by omega
 clear hJ N hY j h0;refine callsIn_of_wp_marks Tryz.func193 rfl (p _) ?_ q;simp only[Tryz.ntmps193,List.size_toArray,List.length_cons,List.length_nil,Nat.reduceAdd,Nat.reduceSub,Array.replicate_succ,Array.replicate_zero,List.push_toArray,List.append_toArray,List.nil_append,List.cons_append]
 gi_wp2_with (gi_at_call 194;refine(zll F (n-1) (p _) q _ _ _ _).mono ?_;rintro e w' ⟨rfl,rfl⟩)
 obtain⟨d,w⟩:=nm W.heap.size;have bY:Boxed ((W.alloc (.cells #[.func (.yield l) #[] #[]] 300)).alloc (.cells #[.slice a rs.length cap] 63)) d 300 (.func (.yield l) #[] #[]):=by
  rw[←w];exact(Boxed.new W _ _).alloc _
 have bS:Boxed ((W.alloc (.cells #[.func (.yield l) #[] #[]] 300)).alloc (.cells #[.slice a rs.length cap] 63)) (d+1) 63 (.slice a rs.length cap):=by
  have:=Boxed.new (W.alloc (.cells #[.func (.yield l) #[] #[]] 300)) 63 (.slice a rs.length cap);rw[World.size_alloc,w]at this;exact this
 have m0:Mod NoB W ((W.alloc (.cells #[.func (.yield l) #[] #[]] 300)).alloc (.cells #[.slice a rs.length cap] 63)):=((Mod.refl _ _).alloc _).alloc _;obtain⟨w1,t⟩:=nm (((W.alloc (.cells #[.func (.yield l) #[] #[]] 300)).alloc (.cells #[.slice a rs.length cap] 63)));have hs1:w1.heap.size=d+2:=by rw[←t];simp;omega
 have ac:J [] w1:=by rw[←t];exact P.out.alloc _ (P.out.alloc _ H0.out)
 rw[t]at bY bS m0 ⊢;rw[w];have ad:=HR.out.mod m0 (zaX.no _);clear t aa ab;refine wpIn_rangeFunc_ownH q h1 (gf:=215) (lb:=#[.pointer (some ⟨d+1,0,none⟩)]) rfl (p _) (enters_of Tryz.func215 (by kernel_rfl) rfl)
  (zj9 F (n-1) (p _) q (by omega) (d+1) cap a rs w1 bS.cell ad) (fun h k=>h.trans k) ?hKb (Below.refl _ _) (fun _=>rfl)
  (fun pre X=>(J (pre.map (·.2)) X∧Boxed X d 300 (.func (.yield l) #[] #[]))∧Boxed X (d+1) 63 (.slice a rs.length cap))
  (fun c pre X=>c = .ret∧Z (pre.map (·.2)) X) ?hI ?hIx ⟨⟨ac,bY⟩,bS⟩
  (fun x a' X=>∃rb,a'={ tmps:=#[.func (.yield l) #[] #[],.pointer (some ⟨M,0,none⟩),.pointer (some ⟨d,0,none⟩),undef,.pointer (some ⟨rb,0,none⟩),.pointer (some ⟨b,0,none⟩),.pointer (some ⟨b,0,none⟩),.pointer (some ⟨b,0,none⟩),.slice a rs.length cap,.func (.func 215) #[] #[.pointer (some ⟨d+1,0,none⟩)],.int .i64 (x.1:Int),.agg #[.int .u64 (x.2.1:Int),.int .u64 (x.2.2:Int)],undef,undef,undef,undef],defers:=[] } ∧
   X.heap[rb]?=some (.cells #[.int .u64 (x.2.1:Int),.int .u64 (x.2.2:Int)] 214 (0,0))) ?hAx ?assign ?body ?done ?stop
 case hKb =>
  intro X l2 o o' hl2 _ _ _;exact⟨World.putObj_heap_other (by omega),fun g o e=>World.putObj_heap_other (by have:=(O g o e).1;omega)⟩
 case hI =>
  exact OwnFrom.and (OwnFrom.and (fun s A B row hs hg j=>P.out _ A B row hs hg (fun r e=>⟨by have:=(j r e).1;omega,(j r e).2⟩)) (Own.from (boxed_own d _ (fun _=>_)) _)) (Own.from (boxed_own (d+1) _ (fun _=>_)) _)
 case hIx =>
  intro c s A B row hs hg j;exact⟨hs.1,Q.out _ A B row hs.2 hg (fun r e=>⟨by have:=(j r e).1;omega,(j r e).2⟩)⟩
 case hAx =>
  intro x a' s A B row hs hg j;obtain⟨rb,e,y⟩:=hs;refine⟨rb,e,(hg.block rb (Array.getElem?_eq_some_iff.1 y).1 (fun e2=>?_)).trans y⟩;obtain⟨_,o,R,z⟩:=j rb e2.symm;rw[y]at R;cases R;cases z
 case assign =>
  intro l' pre x X K hI C;unfold zpd;gi_wp2;refine C _ _ ((KeepsOthers.alloc X _).from _) ⟨Below.heap_alloc _ _ _ hI.2.lt,fun g o e=>Below.heap_alloc _ _ _ ?_⟩ ⟨⟨?_,hI.1.2.alloc _⟩,hI.2.alloc _⟩ ⟨X.heap.size,rfl,heap_alloc_new X _⟩
  ·have q1:=(O g o e).1;have q2:=hI.2.lt;omega
  ·exact P.out.alloc _ hI.1.1
 case body =>
  rintro l' pre x a' X hl' S ⟨⟨E,hy⟩,G⟩ ⟨rb,rfl,T⟩ ae;have yc:=hy.cell;have r0:X.cell? ⟨rb,0,none⟩=some (.int .u64 (x.2.1:Int)):=za T rfl;have r1:X.cell? ⟨rb,1,none⟩=some (.int .u64 (x.2.2:Int)):=za T rfl;obtain⟨fn,tmps,assign,body,H,hR⟩:=HY.out (n-1-1-1) (pre.map (·.2)) x.2 X E (by simpa using ae);unfold zqL at H;have hn1:1≤n-1-1:=by omega
  have HJP:=zb E;clear E S;have af:=zb hR;clear hR;gi_wp2;refine RoundIn.mono (F:=F.inRound l') (show RoundIn (F.inRound l') _ _ _ _ _ _ _ _ _ from af.out) ?_;rintro e X3 ⟨I,U⟩;have V:=hy.lt;have i:=G.lt;have nY:¬zd7 lb l a X d:=by
   rintro(h|h|⟨_,cs,fz,h⟩)
   ·omega
   ·omega
   ·rw[show X.heap[d]?=_ from hy]at h;simp at h
  have nS:¬zd7 lb l a X (d+1):=by
   rintro(h|h|⟨_,cs,fz,h⟩)
   ·omega
   ·omega
   ·rw[show X.heap[d+1]?=_ from G]at h;simp at h
  have Y:Hid (KeepsFrom w1.heap.size X X3):=⟨I.size,fun k o hk y z=>by
   refine(I.block k (Array.getElem?_eq_some_iff.1 y).1 ?_).trans y;rintro(h|h|⟨_,cs,fz,h⟩)
   ·omega
   ·omega
   ·rw[y]at h;cases h;cases z⟩
  have ah:Hid (zb6 (d+1) a X X3):=⟨I.block _ i nS,fun g o e=>I.block _ (by have:=(O g o e).1;omega) (by
   rintro(h|h|⟨h,_⟩)
   ·exact(O g o e).2.1 h
   ·exact(O g o e).2.2 h
   ·exact h g o e rfl)⟩
  have ai:Hid (Boxed X3 d 300 (.func (.yield l) #[] #[])):=(I.block _ V nY).trans hy;have aj:Hid (Boxed X3 (d+1) 63 (.slice a rs.length cap)):=(I.block _ i nS).trans G;clear nY nS I V i;rcases U with⟨rfl,u⟩|⟨rfl,u⟩
  ·have L:=zb u;clear u yc H;gi_wp2;exact⟨Y.out,ah.out,⟨by rw[List.map_append];exact L.out,ai.out⟩,aj.out⟩
  ·have L:=zb u;clear u yc H;gi_wp2;exact⟨Y.out,rfl,by rw[List.map_append];exact L.out⟩
 case done =>
  rintro D ys X hD rfl ⟨⟨u,_⟩,_⟩ C;gi_wp2;refine⟨by simp,.inl ⟨_,_,rfl,run_takeDeferred C,?_⟩⟩;exact⟨_,results_none rfl _ _ _,⟨_,rfl⟩,.inl (P.out.putObj _ u (by omega) C rfl)⟩
 case stop =>
  rintro D c pre X hD ⟨k,hk,rfl⟩ ⟨rfl,u⟩ C;gi_wp2;refine⟨by simp,.inl ⟨_,_,rfl,run_takeDeferred C,?_⟩⟩;exact⟨_,results_none rfl _ _ _,⟨_,rfl⟩,.inr ⟨k,hk,Q.out.putObj _ u (by omega) C rfl⟩⟩
end Go.Proofs.YtddfdpbaiedcjaaGreatDoor
