/- A part of Carried's proof. Conditions: none. Part 1 of 13. -/
import Derived.StillTail
import Derived.Deep.RegionHeld
import Derived.Laws.Bits64
set_option maxRecDepth 100000
set_option maxHeartbeats 16000000
set_option linter.all false
namespace Go.Proofs.YtddfdpbaiedcjaaGreatDoor
open Go
theorem nm {α : Sort _} (e : α) : ∃ x, e = x := ⟨e, rfl⟩
theorem nn {α : Sort _} (e : α) : ∃ x, x = e := ⟨e, rfl⟩
theorem wi (x : Int) (h : -9223372036854775808 ≤ x ∧ x ≤ 9223372036854775807) : IntKind.i64.wrap x = x := by rw [IntKind.wrap_i64]; omega
theorem wu (x : Int) (h : 0 ≤ x ∧ x ≤ 18446744073709551615) : IntKind.u64.wrap x = x := by rw [IntKind.wrap_u64]; omega
section
variable {P:Program} {ops:Array Oper} {Q:Exit→Act→World→Prop} {md:Region.Mode} {F:World→Prop} {k:Nat}
def ST(k:Nat)(F:World→Prop)(L:Array Bool)(w:World):Prop:=L.getD k false=true∨F w
def zg4(P:Program)(md:Region.Mode)(ops:Array Oper)(Q:Exit→Act→World→Prop)(k:Nat)(F:World→Prop):Nat→Array Bool→Act→World→Prop
 | 0,L,a,w=>Region.ready md ops L=[]∧Q .normal a w
 | fuel+1,L,a,w =>
  (Region.ready md ops L=[]→Q .normal a w) ∧
  ∀i∈Region.ready md ops L,wpOp P ops Q i (fun a' w'=>ST k F (L.setIfInBounds i true) w'∧zg4 P md ops Q k F fuel (L.setIfInBounds i true) a' w') a w
theorem zdY:∀(fuel:Nat) (L:Array Bool) (a:Act) (w:World),zg4 P md ops Q k F fuel L a w→wpAny P md ops Q fuel L a w
 | 0,_,_,_,h=>h
 | fuel+1,_,_,_,h=>⟨h.1,fun i hi=>wpOp_mono (fun a' w' h'=>zdY fuel _ a' w' h'.2) (h.2 i hi)⟩
structure zeJ(md:Region.Mode)(ops:Array Oper)(L:Array Bool):Prop where
 nosel:Region.noSelect ops=true
 size:L.size=ops.size
 deps:∀j oj,ops[j]?=some oj→L.getD j false=true→∀e∈oj.after,Region.binds md e=true→L.getD e.on false=true
variable{L:Array Bool}{i:Nat}
theorem zfz(h:L.getD i true=false):L.getD i false=false:=by
 rcases Nat.lt_or_ge i L.size with a|a
 ·simp[a]at h ⊢;exact h
 ·simp[Array.getElem?_eq_none a]at h
variable{L:Array Bool}{i:Nat}
theorem zeJ.set(c:zeJ md ops L)(hi:i∈Region.ready md ops L):zeJ md ops (L.setIfInBounds i true):=by
 obtain⟨_,oi,d,a⟩:=mem_ready.1 hi;refine⟨c.nosel,by simp[c.size],fun j f g hl e h hb=>?_⟩;by_cases b:i=j
 ·subst b;have:f=oi:=Option.some.inj (g.symm.trans d);subst this;exact getD_set_true (a e h hb)
 ·rw[getD_set_ne false b]at hl;exact getD_set_true (c.deps j f g hl e h hb)
def zfP(md:Region.Mode)(ops:Array Oper)(i:Nat):Nat→Nat→Bool
 | 0,k=>k==i
 | f+1,k=>k==i||match ops[k]? with
  | some o=>o.after.any fun e=>Region.binds md e&&zfP md ops i f e.on
  | none=>true
variable{L:Array Bool}{i:Nat}
theorem zee(c:zeJ md ops L):∀(f k:Nat),zfP md ops i f k=true→L.getD k false=true→L.getD i false=true
 | 0,k,h,hk=>by
  simp[zfP]at h;exact h ▸ hk
 | f+1,k,h,hk=>by
  simp only[zfP,Bool.or_eq_true,beq_iff_eq]at h;rcases h with h|h
  ·exact h ▸ hk
  ·cases ho:ops[k]? with
   | none =>
    have a:¬k<L.size:=by
     rw[c.size];intro a;simp[a]at ho
    simp[Array.getElem?_eq_none (Nat.le_of_not_lt a)]at hk
   | some o =>
    rw[ho]at h;obtain⟨e,he,hb⟩:=Array.any_eq_true'.1 h;simp only[Bool.and_eq_true]at hb;exact zee c f e.on hb.2 (c.deps k o ho hk e he hb.1)
variable{i:Nat}{v:Value}
theorem zg5{r:Oper}{f0:Nat}(hi:ops[i]?=some r)(p:∀(j:Nat) (o:Oper) cs b,ops[j]?=some o→o.op≠.select cs b)
  (hQ:∀c a w,Q (.panic c) (a.put r.dst v) w→Q (.panic c) a w) (hk:zfP md ops i f0 k=true) (D:i≠k) :
  ∀(fuel:Nat) (L:Array Bool) (a:Act) (w:World),zeJ md ops L →
   (∀j oj,ops[j]?=some oj→j≠i→L.getD j true=false→(∀e∈oj.after,Region.binds md e=true→e.on≠i)→r.apart ops oj=true) →
   i∈Region.ready md ops L→YieldsIf P ops F r v a→ST k F L w →
   zg4 P md ops Q k F fuel (L.setIfInBounds i true) (a.put r.dst v) w→zg4 P md ops Q k F (fuel+1) L a w:=by
 have t:∀L:Array Bool,i∈Region.ready md ops L→L.getD i false=false:=fun L h=>zfz (mem_ready.1 h).1
 have m:∀(L:Array Bool) (w:World),zeJ md ops L→i∈Region.ready md ops L→ST k F L w→F w:=fun L w c f g=>by
  rcases g with g|g
  ·have:=zee c f0 k hk g;rw[t L f]at this;cases this
  ·exact g
 intro fuel
 induction fuel with
 | zero =>
  intro L a w c _ f C g H;refine⟨fun h=>(by rw[h]at f;cases f),fun j u=>?_⟩;by_cases d:j=i
  ·subst d;exact C.wpOp hi (m L w c f g) ⟨.inr (m L w c f g),H⟩
  ·have:=ready_mono u d;rw[H.1]at this;cases this
 | succ fuel ih =>
  intro L a w c l f C g H;refine⟨fun h=>(by rw[h]at f;cases f),fun j u=>?_⟩;by_cases d:j=i
  ·subst d;exact C.wpOp hi (m L w c f g) ⟨.inr (m L w c f g),H⟩
  ·have h1:=H.2 j (ready_mono u d);obtain⟨q,oj,s,x⟩:=mem_ready.1 u;have y:∀e∈oj.after,Region.binds md e=true→e.on≠i:=fun e he hb E=>by
    have h1:=x e he hb;rw[E,t L f]at h1;cases h1
   have h2:=wpOp_putIf s (l j oj s d q y) (fun cs b=>p i r cs b hi) (fun cs b=>p j oj cs b s) hQ C h1;have n:∀k ok,ops[k]?=some ok→k≠i→(L.setIfInBounds j true).getD k true=false →
     (∀e∈ok.after,Region.binds md e=true→e.on≠i)→r.apart ops ok=true:=fun k ok hk G z I=>by
    refine l k ok hk G ?_ I;by_cases A:j=k
    ·subst A;exact q
    ·rw[getD_set_ne true A]at z;exact z
   have J:i∈Region.ready md ops (L.setIfInBounds j true):=ready_mono f (Ne.symm d);have B:∀w',ST k F ((L.setIfInBounds i true).setIfInBounds j true) w'→ST k F (L.setIfInBounds j true) w':=fun w' K=>by
    rcases K with h|h
    ·refine .inl ?_;rw[Array.setIfInBounds_comm _ _ (Ne.symm d),getD_set_ne false D]at h;exact h
    ·exact .inr h
   refine wpOp_mono (fun a' w' h3=>⟨B w' h3.2.1,ih (L.setIfInBounds j true) a' w' (c.set u) n J h3.1 (B w' h3.2.1) ?_⟩) h2;rw[Array.setIfInBounds_comm _ _ d];exact h3.2.2
def GT(P:Program)(md:Region.Mode)(ops:Array Oper)(Q:Exit→Act→World→Prop)(k:Nat)(F:World→Prop)(fuel:Nat)(L:Array Bool)(a:Act)(w:World):Prop :=
 zeJ md ops L→ST k F L w→zg4 P md ops Q k F fuel L a w
def zoj(md:Region.Mode)(ops:Array Oper)(k:Nat)(L:Array Bool)(i:Nat):Bool :=
 Region.free md ops L i&&(Region.ready md ops L).contains i&&zfP md ops i ops.size k && !(i==k)
variable{L:Array Bool}{fuel i:Nat}{v:Value}{w:World}
theorem zcG{f:Oper}{a:Act}(hi:ops[i]?=some f)(hb:zoj md ops k L i=true)
  (hQ:∀c a w,Q (.panic c) (a.put f.dst v) w→Q (.panic c) a w) (hy:YieldsIf P ops F f v a)
  (h:GT P md ops Q k F fuel (L.setIfInBounds i true) (a.put f.dst v) w):GT P md ops Q k F (fuel+1) L a w:=fun c b=>by
 simp only[zoj,Bool.and_eq_true,Bool.not_eq_true']at hb;obtain⟨⟨⟨hf,hr⟩,hk⟩,g⟩:=hb;have d:i≠k:=by simpa using g
 have e:i∈Region.ready md ops L:=by simpa using hr
 refine zg5 hi (Region.noSelect_spec c.nosel) hQ hk d fuel L a w c (Region.free_spec hi hf) e hy b (h (c.set e) ?_);rcases b with b|b
 ·exact .inl (getD_set_true b)
 ·exact .inr b
variable{L:Array Bool}{fuel:Nat}{w:World}
theorem zz(i:Nat){o:Oper}{a:Act}(ho:ops[i]?=some o)
  (h:∀K':Act→World→Prop,Shut (∀a w,F w→GT P md ops Q k F fuel (L.setIfInBounds i true) a w→K' a w)→if Region.wanted o (yielded ops a.tmps)=true then Oper.wp P o a w K' Q else K' (a.put o.dst undef) w) (d:Region.ready md ops L=[i]:=by kernel_rfl) :
  GT P md ops Q k F (fuel+1) L a w:=fun c _=>by
 refine⟨fun h0=>(by rw[d]at h0;cases h0),fun j b=>?_⟩;have hc:=c.set b;rw[d,List.mem_singleton]at b;subst b;exact wpOp_step ho (fun K' hK=>h K' (fun a w e hG=>hK a w ⟨.inr e,hG hc (.inr e)⟩))
variable{L:Array Bool}{fuel:Nat}{w:World}
theorem zW{o:Oper}{a:Act}(e:ops[k]?=some o)
  (h:∀K':Act→World→Prop,Shut (∀a w,GT P md ops Q k F fuel (L.setIfInBounds k true) a w→K' a w)→if Region.wanted o (yielded ops a.tmps)=true then Oper.wp P o a w K' Q else K' (a.put o.dst undef) w) (f:Region.ready md ops L=[k]:=by kernel_rfl) :
  GT P md ops Q k F (fuel+1) L a w:=fun c _=>by
 refine⟨fun h0=>(by rw[f]at h0;cases h0),fun j b=>?_⟩;have hc:=c.set b;rw[f,List.mem_singleton]at b;subst b;have d:j<L.size:=by
  rw[c.size];exact(Array.getElem?_eq_some_iff.1 e).1
 have hl:(L.setIfInBounds j true).getD j false=true:=by simp[d]
 exact wpOp_step e (fun K' hK=>h K' (fun a w hG=>hK a w ⟨.inl hl,hG hc (.inl hl)⟩))
variable{L:Array Bool}{fuel:Nat}{w:World}
theorem zo{a:Act}(h:Q .normal a w)(b:Region.ready md ops L=[]:=by kernel_rfl):GT P md ops Q k F fuel L a w:=fun _ _=>by
 cases fuel with
 | zero=>exact⟨b,h⟩
 | succ n=>exact⟨fun _=>h,by rw[b];simp⟩
variable{w:World}
theorem zm{id:Nat}{a:Act}(k:Nat)(F:World→Prop)(hF:F w.drew)
  (h:GT P .any ops Q k F ops.size (Array.replicate ops.size false) a w.drew) (hm:P.follows .mixedOrders=true:=by kernel_rfl) (hs:Region.noSelect ops=true:=by kernel_rfl):(Code.region id ops true).wp P Q a w:=by
 refine wp_region_any hm (zdY _ _ _ _ (h ⟨hs,by simp,fun j oj _ hl=>?_⟩ (.inr hF)));have:(Array.replicate ops.size false).getD j false=false:=getD_replicate_false ops.size j;rw[this]at hl;cases hl
theorem PS:(∀(a:Act) (i:Tmp) (v:Value),a.put (some i) v={ a with tmps:=a.tmps.setIfInBounds i v })∧(∀(a:Act) (v:Value),a.put none v=a)∧(∀{α : Type} (l:List α) (i:Nat) (x : α),l.toArray.setIfInBounds i x=(l.set i x).toArray)∧(∀{α : Type} (x y : α) (l:List α),(x::l).set 0 y=y::l)∧(∀{α : Type} (x y : α) (n:Nat) (l:List α),(x::l).set (n+1) y=x::l.set n y)∧(∀{α : Type} (l:List α) (i:Nat) (h:i<l.toArray.size),l.toArray[i]=l[i]'h)∧(∀{α : Type} (x : α) (l:List α) (h:0<(x::l).length),(x::l)[0]'h=x)∧(∀{α : Type} (x : α) (l:List α) (i:Nat) (h:i+1<(x::l).length),(x::l)[i+1]'h=l[i]'(Nat.lt_of_succ_lt_succ h)) :=
 ⟨fun _ _ _=>rfl,fun _ _=>rfl,fun _ _ _=>List.setIfInBounds_toArray ..,fun _ _ _=>rfl,fun _ _ _ _=>rfl,fun _ _ _=>rfl,fun _ _ _=>rfl,fun _ _ _ _=>rfl⟩
def GN(_:Nat)(P:Program)(md:Region.Mode)(ops:Array Oper)(Q:Exit→Act→World→Prop)(k:Nat)(F:World→Prop)(fuel:Nat)(L:Array Bool)(a:Act)(w:World):Prop:=GT P md ops Q k F fuel L a w
variable{L:Array Bool}{fuel:Nat}{w:World}
theorem GI(n:Nat){a:Act}(h:GN n P md ops Q k F fuel L a w):GT P md ops Q k F fuel L a w:=h
variable{L:Array Bool}{fuel n:Nat}{w:World}
theorem GS{b:Oper}{a:Act}(hi:ops[n]?=some b)(v:Value)
  (hy:∀w,F w→(execOp a.eval b).run P w = .ok (.value v) w)
  (h:GN (n+1) P md ops Q k F fuel (L.setIfInBounds n true) (a.put b.dst v) w) (hQ:∀c a w,Q (.panic c) (a.put b.dst v) w→Q (.panic c) a w:=by first|exact fun _ _ _ h=>h|exact fun _ _ _ h=>nomatch h.1) (hb:zoj md ops k L n=true:=by kernel_rfl) (hw:Region.wanted b (yielded ops a.tmps)=true:=by rfl):GN n P md ops Q k F (fuel+1) L a w:=zcG hi hb hQ (.inl ⟨hw,hy⟩) h
variable{L:Array Bool}{fuel n:Nat}{w:World}
theorem GU{b:Oper}{a:Act}(hi:ops[n]?=some b)
  (hQ:∀c a w,Q (.panic c) (a.put b.dst undef) w→Q (.panic c) a w)
  (h:GN (n+1) P md ops Q k F fuel (L.setIfInBounds n true) (a.put b.dst undef) w) (hb:zoj md ops k L n=true:=by kernel_rfl) (hw:Region.wanted b (yielded ops a.tmps)=false:=by rfl):GN n P md ops Q k F (fuel+1) L a w:=zcG hi hb hQ (.inr ⟨hw,rfl⟩) h
end
end Go.Proofs.YtddfdpbaiedcjaaGreatDoor
