/- A part of Once's proof. Conditions: none. Part 1 of 15. -/
import Derived.StillTail
import Derived.Deep.RegionHeld
import Derived.Laws.Bits64
set_option maxRecDepth 100000
set_option maxHeartbeats 16000000
set_option linter.all false
namespace Go.Proofs.YtddfdpbaiedcjaaGreatDoor
section
open Go
def AA(p:Prop):Prop:=p
def AA.z{p:Prop}(h:AA p):p:=h
def AE(p:Prop):Prop:=p
def AE.z{p:Prop}(h:AE p):p:=h
def AF:=@List.length_append
def AG:=@Nat.le_refl
def AH:=@if_neg
def AI:=@Array.getElem?_eq_some_iff
def AJ:=@List.getElem?_eq_getElem
def AK:=@Nat.mul_comm
def AL:=@Nat.zero_le
def AM:=@List.getElem?_eq_some_iff
def AN:=@if_pos
def AO:=@Nat.le_trans
def AQ:=@List.length_cons
def AR:=@beq_eq_false_iff_ne
def AS:=@List.length_take
def AU:=@Option.bind_some
def AV:=@List.getElem?_append_right
def AW:=@List.take_of_length_le
def AX:=@List.length_nil
def AZ:=@Bool.and_eq_true
def Aa:=@List.length_singleton
def Ab:=@List.mem_singleton
def Ac:=@List.mem_of_getElem?
def Ad:=@List.length_drop
def Ae:=@List.mem_cons_self
def Af:=@decide_eq_true_eq
def Ag:=@List.getElem?_append_left
def Ah:=@List.eq_nil_of_length_eq_zero
def Ai:=@List.getD_eq_getElem?_getD
def Aj:=@List.mem_cons_of_mem
def Ak:=@decide_eq_false_iff_not
def Al:=@List.size_toArray
def Am:=@List.nil_append
def An:=@List.mem_append
def Ao:=@Int.toNat_natCast
def Ap:=@List.setIfInBounds_toArray
def Aq:=@decide_eq_true
def Ar:=@Option.bind_eq_some_iff
def As:=@not_false_eq_true
def Au:=@Nat.zero_add
def Av:=@List.append_assoc
def Aw:=@Nat.lt_of_lt_of_le
def Ax:=@Option.some.injEq
def Ay:=@Option.map_some
def Az:=@decide_eq_false
def A0:=@congrArg
def A5:=@if_true
def A6:=@List.getElem?_drop
def A7:=@Array.replicate_zero
def A8:=@Array.replicate_succ
def A9:=@List.length_map
def BA:=@Nat.not_lt_zero
def BB:=@List.append_toArray
def BC:=@List.take_append_of_le_length
def BD:=@List.take_add_one
def BE:=@List.getElem?_take_of_lt
def BF:=@Prod.mk.injEq
def BG:=@List.push_toArray
def BH:=@List.take_left
def BI:=@List.cons_append
def BJ:=@Option.bind_none
def BK:=@Array.getElem?_setIfInBounds
def BM:=@Nat.min_eq_left
def BO:=@List.map_append
def BP:=@List.mem_cons
def BQ:=@Bool.false_eq_true
def BS:=@List.getElem?_toArray
def BT:=@List.mem_map
def BU:=@List.length_pos_iff
def BV:=@List.mem_filter
def BW:=@List.getElem?_map
def BX:=@Nat.le_of_eq
def BY:=@if_false
def BZ:=@List.take_take
def Ba:=@List.length_set
def Bb:=@List.set_append_right
def Bc:=@List.length_replicate
def Bd:=@Array.getElem?_toList
def Be:=@List.mem_of_mem_take
def Bf:=@List.range_succ
def Bg:=@List.mem_range
def Bh:=@List.append_nil
def Bi:=@BitVec.ofInt_natCast
def Bj:=@Bool.true_and
def Bk:=@Option.some.inj
def Bl:=@Nat.le_max_left
def Bm:=@Bool.or_eq_true
def Bn:=@List.take_append_drop
def Bo:=@List.getElem?_eq_none
def Bp:=@UInt8.toNat_ofNat'
def Bq:=@BitVec.toNat_ofNat
def Br:=@Nat.add_zero
def Bt:=@List.map_cons
def Bu:=@Nat.mul_le_mul_right
def Bv:=@List.drop_zero
def Bw:=@Nat.min_le_left
def Bx:=@Array.length_toList
def By:=@List.drop_eq_nil_of_le
def Bz:=@Nat.le_succ
def B6:=@Nat.mod_eq_of_lt
def B7:=@List.any_eq_true
def B8:=@List.getElem?_take
def B9:=@Bool.and_eq_false_iff
def CA:=@Array.getElem?_modify
def CB:=@List.drop_eq_getElem_cons
def CC:=@not_true_eq_false
def CD:=@Nat.lt_trichotomy
def CE:=@List.mem_of_mem_drop
def CF:=@List.length_range
def CH:=@Bool.or_eq_false_iff
def CI:=@List.flatMap_append
def CJ:=@List.drop_length
def CK:=@bne_iff_ne
def CM:=@Option.map_eq_some_iff
def CN:=@Nat.add_sub_cancel
def CO:=@List.set_cons_succ
def CP:=@List.filter_append
def CQ:=@Array.getElem?_eq_none
def CR:=@List.take_zero
def CT:=@List.set_append_left
def CU:=@List.mem_append_left
def CW:=@List.drop_drop
def CX:=@Nat.min_self
def CY:=@List.map_map
def CZ:=@Bool.not_eq_true
def Ca:=@List.take_succ_cons
def Cb:=@List.map_congr_left
def Cc:=@List.filter_sublist
def Cd:=@beq_iff_eq
def Ce:=@Array.ext_getElem?
def Cf:=@Nat.add_sub_cancel_left
def Cg:=@List.mem_singleton_self
def Ch:=@Nat.sub_self
def Ci:=@List.foldl_append
def Cj:=@List.append_eq_nil_iff
def Ck:=@List.any_eq_false
def Cl:=@Bool.not_eq_true'
def Cm:=@Array.getElem?_setIfInBounds_ne
def Cn:=@List.length_filter_le
def Co:=@List.prefix_refl
def Cp:=@List.not_mem_nil
def Cq:=@List.drop_append
def Cr:=@List.all_eq_true
def Cs:=@List.replicate_succ'
def Ct:=@List.mem_iff_getElem
def Cu:=@List.getElem?_of_mem
def Cv:=@UInt8.toNat_inj
def Cw:=@List.length_zip
def Cx:=@Nat.mul_le_mul_left
def Cy:=@Array.toList_append
def Cz:=@Nat.zero_mul
def C2:=@Nat.xor_lt_two_pow
def C3:=@Nat.eq_zero_or_pos
def C4:=@List.drop_take
def C6:=@Array.getElem?_eq_getElem
def C8:=@List.nodup_append
def C9:=@List.flatMap_cons
def DA:=@Array.size_append
def DB:=@Array.size_setIfInBounds
def DC:=@decide_eq_decide
def DD:=@Nat.le_of_not_lt
def DE:=@Nat.le_max_right
def DF:=@Nat.le_add_right
def DG:=@List.map_fst_zip
def DH:=@List.getElem_mem
def DI:=@List.getElem?_cons_succ
def DJ:=@List.map_nil
def DK:=@Bool.eq_iff_iff
def DM:=@Array.getElem?_setIfInBounds_self_of_lt
def DN:=@Nat.mul_one
def DO:=@Nat.add_mul
def DP:=@List.nodup_nil
def DQ:=@List.toList_toArray
def DR:=@List.filter_eq_self
def DU:=@List.take_set
def DV:=@Bool.false_or
def nm {α : Sort _} (e : α) : ∃ x, e = x := ⟨e, rfl⟩
def nn {α : Sort _} (e : α) : ∃ x, x = e := ⟨e, rfl⟩
def wi (x : Int) (h : -9223372036854775808 <= x /\ x <= 9223372036854775807) : IntKind.i64.wrap x = x := by rw [IntKind.wrap_i64]; omega
def wu (x : Int) (h : 0 <= x /\ x <= 18446744073709551615) : IntKind.u64.wrap x = x := by rw [IntKind.wrap_u64]; omega
section
variable {P:Program} {ops:Array Oper} {Q:Exit->Act->World->Prop} {md:Region.Mode} {F:World->Prop} {k:Nat}
def ST(k:Nat)(F:World->Prop)(L:Array Bool)(w:World):Prop:=L.getD k false=true\/F w
def Lo(P:Program)(md:Region.Mode)(ops:Array Oper)(Q:Exit->Act->World->Prop)(k:Nat)(F:World->Prop):Nat->Array Bool->Act->World->Prop
 | 0,L,a,w=>Region.ready md ops L=[]/\Q .normal a w
 | fuel+1,L,a,w =>
  (Region.ready md ops L=[]->Q .normal a w) /\
  ∀i∈Region.ready md ops L,wpOp P ops Q i (λa' w'=>ST k F (L.setIfInBounds i true) w'/\Lo P md ops Q k F fuel (L.setIfInBounds i true) a' w') a w
theorem QH:∀(fuel:Nat) (L:Array Bool) (a:Act) (w:World),Lo P md ops Q k F fuel L a w->wpAny P md ops Q fuel L a w
 | 0,_,_,_,h=>h
 | fuel+1,_,_,_,h=>⟨h.1,λi hi=>wpOp_mono (λa' w' h'=>QH fuel _ a' w' h'.2) (h.2 i hi)⟩
structure Jj(md:Region.Mode)(ops:Array Oper)(L:Array Bool):Prop where
 nosel:Region.noSelect ops=true
 size:L.size=ops.size
 deps:∀j oj,ops[j]?=some oj->L.getD j false=true->∀e∈oj.after,Region.binds md e=true->L.getD e.on false=true
variable{L:Array Bool}{i:Nat}
def jB(h:L.getD i true=false):L.getD i false=false:=by
 rcases Nat.lt_or_ge i L.size with a|a
 ·simp[a]at h ⊢;exact h
 ·simp[CQ a]at h
def Jj.set(c:Jj md ops L)(hi:i∈Region.ready md ops L):Jj md ops (L.setIfInBounds i true):=by
 obtain⟨_,oi,d,a⟩:=mem_ready.1 hi;refine⟨c.nosel,by simp[c.size],λj oj f hl e g hb=>?_⟩;by_cases b:i=j
 ·subst b;have:=Bk (f.symm.trans d);subst this;exact getD_set_true (a e g hb)
 ·rw[getD_set_ne false b]at hl;exact getD_set_true (c.deps j oj f hl e g hb)
def LM(md:Region.Mode)(ops:Array Oper)(i:Nat):Nat->Nat->Bool
 | 0,k=>k==i
 | f+1,k=>k==i||match ops[k]? with
  | some o=>o.after.any λe=>Region.binds md e&&LM md ops i f e.on
  | none=>true
theorem T9(c:Jj md ops L):∀(f k:Nat),LM md ops i f k=true->L.getD k false=true->L.getD i false=true
 | 0,k,h,hk=>by
  simp[LM]at h;exact h ▸ hk
 | f+1,k,h,hk=>by
  simp only[LM,Bm,Cd]at h;rcases h with h|h
  ·exact h ▸ hk
  ·cases ho:ops[k]? with
   | none =>
    have a:¬k<L.size:=by
     rw[c.size];intro a;simp[a]at ho
    simp[CQ (DD a)]at hk
   | some o =>
    rw[ho]at h;obtain⟨e,he,hb⟩:=Array.any_eq_true'.1 h;simp only[AZ]at hb;exact T9 c f e.on hb.2 (c.deps k o ho hk e he hb.1)
variable{v:Value}
theorem iQ{oi:Oper}{f0:Nat}(hi:ops[i]?=some oi)(p:∀(j:Nat) (o:Oper) cs b,ops[j]?=some o->o.op≠.select cs b)
  (hQ:∀c a w,Q (.panic c) (a.put oi.dst v) w->Q (.panic c) a w) (hk:LM md ops i f0 k=true) (C:i≠k) :
  ∀(fuel:Nat) (L:Array Bool) (a:Act) (w:World),Jj md ops L ->
   (∀j oj,ops[j]?=some oj->j≠i->L.getD j true=false->(∀e∈oj.after,Region.binds md e=true->e.on≠i)->oi.apart ops oj=true) ->
   i∈Region.ready md ops L->YieldsIf P ops F oi v a->ST k F L w ->
   Lo P md ops Q k F fuel (L.setIfInBounds i true) (a.put oi.dst v) w->Lo P md ops Q k F (fuel+1) L a w:=by
 have s:∀L:Array Bool,i∈Region.ready md ops L->L.getD i false=false:=λL h=>jB (mem_ready.1 h).1
 have m:∀(L:Array Bool) (w:World),Jj md ops L->i∈Region.ready md ops L->ST k F L w->F w:=λL w c f g=>by
  rcases g with g|g
  ·have:=T9 c f0 k hk g;rw[s L f]at this;cases this
  ·exact g
 intro fuel
 induction fuel with
 | zero =>
  intro L a w c _ f B g H;refine⟨λh=>(by rw[h]at f;cases f),λj t=>?_⟩;by_cases d:j=i
  ·subst d;exact B.wpOp hi (m L w c f g) ⟨.inr (m L w c f g),H⟩
  ·have:=ready_mono t d;rw[H.1]at this;cases this
 | succ fuel ih =>
  intro L a w c l f B g H;refine⟨λh=>(by rw[h]at f;cases f),λj t=>?_⟩;by_cases d:j=i
  ·subst d;exact B.wpOp hi (m L w c f g) ⟨.inr (m L w c f g),H⟩
  ·have h1:=H.2 j (ready_mono t d);obtain⟨q,oj,r,u⟩:=mem_ready.1 t;have x:∀e∈oj.after,Region.binds md e=true->e.on≠i:=λe he hb D=>by
    have h1:=u e he hb;rw[D,s L f]at h1;cases h1
   have h2:=wpOp_putIf r (l j oj r d q x) (λcs b=>p i oi cs b hi) (λcs b=>p j oj cs b r) hQ B h1;have n:∀k ok,ops[k]?=some ok->k≠i->(L.setIfInBounds j true).getD k true=false ->
     (∀e∈ok.after,Region.binds md e=true->e.on≠i)->oi.apart ops ok=true:=λk ok hk E y G=>by
    refine l k ok hk E ?_ G;by_cases z:j=k
    ·subst z;exact q
    ·rw[getD_set_ne true z]at y;exact y
   have I:=ready_mono f (Ne.symm d);have A:∀w',ST k F ((L.setIfInBounds i true).setIfInBounds j true) w'->ST k F (L.setIfInBounds j true) w':=λw' J=>by
    rcases J with h|h
    ·refine .inl ?_;rw[Array.setIfInBounds_comm _ _ (Ne.symm d),getD_set_ne false C]at h;exact h
    ·exact .inr h
   refine wpOp_mono (λa' w' h3=>⟨A w' h3.2.1,ih (L.setIfInBounds j true) a' w' (c.set t) n I h3.1 (A w' h3.2.1) ?_⟩) h2;rw[Array.setIfInBounds_comm _ _ d];exact h3.2.2
def GT(P:Program)(md:Region.Mode)(ops:Array Oper)(Q:Exit->Act->World->Prop)(k:Nat)(F:World->Prop)(fuel:Nat)(L:Array Bool)(a:Act)(w:World):Prop :=
 Jj md ops L->ST k F L w->Lo P md ops Q k F fuel L a w
def Lj(md:Region.Mode)(ops:Array Oper)(k:Nat)(L:Array Bool)(i:Nat):Bool :=
 Region.free md ops L i&&(Region.ready md ops L).contains i&&LM md ops i ops.size k && !(i==k)
variable{fuel:Nat}{w:World}
def Gn{oi:Oper}{a:Act}(hi:ops[i]?=some oi)(hb:Lj md ops k L i=true)
  (hQ:∀c a w,Q (.panic c) (a.put oi.dst v) w->Q (.panic c) a w) (hy:YieldsIf P ops F oi v a)
  (h:GT P md ops Q k F fuel (L.setIfInBounds i true) (a.put oi.dst v) w):GT P md ops Q k F (fuel+1) L a w:=λc b=>by
 simp only[Lj,AZ,Cl]at hb;obtain⟨⟨⟨hf,hr⟩,hk⟩,f⟩:=hb;have d:i≠k:=by simpa using f
 have e:i∈Region.ready md ops L:=by simpa using hr
 refine iQ hi (Region.noSelect_spec c.nosel) hQ hk d fuel L a w c (Region.free_spec hi hf) e hy b (h (c.set e) ?_);rcases b with b|b
 ·exact .inl (getD_set_true b)
 ·exact .inr b
def zw(i:Nat){o:Oper}{a:Act}(ho:ops[i]?=some o)
  (h:∀K':Act->World->Prop,AE (∀a w,F w->GT P md ops Q k F fuel (L.setIfInBounds i true) a w->K' a w)->if Region.wanted o (yielded ops a.tmps)=true then Oper.wp P o a w K' Q else K' (a.put o.dst undef) w) (d:Region.ready md ops L=[i]:=by kernel_rfl) :
  GT P md ops Q k F (fuel+1) L a w:=λc _=>by
 refine⟨λh0=>(by rw[d]at h0;cases h0),λj b=>?_⟩;have hc:=c.set b;rw[d,Ab]at b;subst b;exact wpOp_step ho (λK' hK=>h K' (λa w e hG=>hK a w ⟨.inr e,hG hc (.inr e)⟩))
def zU{o:Oper}{a:Act}(e:ops[k]?=some o)
  (h:∀K':Act->World->Prop,AE (∀a w,GT P md ops Q k F fuel (L.setIfInBounds k true) a w->K' a w)->if Region.wanted o (yielded ops a.tmps)=true then Oper.wp P o a w K' Q else K' (a.put o.dst undef) w) (f:Region.ready md ops L=[k]:=by kernel_rfl) :
  GT P md ops Q k F (fuel+1) L a w:=λc _=>by
 refine⟨λh0=>(by rw[f]at h0;cases h0),λj b=>?_⟩;have hc:=c.set b;rw[f,Ab]at b;subst b;have d:j<L.size:=by
  rw[c.size];exact(AI.1 e).1
 have hl:(L.setIfInBounds j true).getD j false=true:=by simp[d]
 exact wpOp_step e (λK' hK=>h K' (λa w hG=>hK a w ⟨.inl hl,hG hc (.inl hl)⟩))
theorem zn{a:Act}(h:Q .normal a w)(b:Region.ready md ops L=[]:=by kernel_rfl):GT P md ops Q k F fuel L a w:=λ_ _=>by
 cases fuel with
 | zero=>exact⟨b,h⟩
 | succ n=>exact⟨λ_=>h,by rw[b];simp⟩
def zl{id:Nat}{a:Act}(k:Nat)(F:World->Prop)(hF:F w.drew)
  (h:GT P .any ops Q k F ops.size (Array.replicate ops.size false) a w.drew) (hm:P.follows .mixedOrders=true:=by kernel_rfl) (hs:Region.noSelect ops=true:=by kernel_rfl):(Code.region id ops true).wp P Q a w:=by
 refine wp_region_any hm (QH _ _ _ _ (h ⟨hs,by simp,λj oj _ hl=>?_⟩ (.inr hF)));have:=getD_replicate_false ops.size j;rw[this]at hl;cases hl
def PS:(∀(a:Act) (i:Tmp) (v:Value),a.put (some i) v={ a with tmps:=a.tmps.setIfInBounds i v })/\(∀(a:Act) (v:Value),a.put none v=a)/\(∀{α : Type} (l:List α) (i:Nat) (x : α),l.toArray.setIfInBounds i x=(l.set i x).toArray)/\(∀{α : Type} (x y : α) (l:List α),(x::l).set 0 y=y::l)/\(∀{α : Type} (x y : α) (n:Nat) (l:List α),(x::l).set (n+1) y=x::l.set n y)/\(∀{α : Type} (l:List α) (i:Nat) (h:i<l.toArray.size),l.toArray[i]=l[i]'h)/\(∀{α : Type} (x : α) (l:List α) (h:0<(x::l).length),(x::l)[0]'h=x)/\(∀{α : Type} (x : α) (l:List α) (i:Nat) (h:i+1<(x::l).length),(x::l)[i+1]'h=l[i]'(Nat.lt_of_succ_lt_succ h)) :=
 ⟨λ_ _ _=>rfl,λ_ _=>rfl,λ_ _ _=>Ap ..,λ_ _ _=>rfl,λ_ _ _ _=>rfl,λ_ _ _=>rfl,λ_ _ _=>rfl,λ_ _ _ _=>rfl⟩
def GN(_:Nat)(P:Program)(md:Region.Mode)(ops:Array Oper)(Q:Exit->Act->World->Prop)(k:Nat)(F:World->Prop)(fuel:Nat)(L:Array Bool)(a:Act)(w:World):Prop:=GT P md ops Q k F fuel L a w
def GI(n:Nat){a:Act}(h:GN n P md ops Q k F fuel L a w):GT P md ops Q k F fuel L a w:=h
def GS{n:Nat}{oi:Oper}{a:Act}(hi:ops[n]?=some oi)(v:Value)
  (b:∀w,F w->(execOp a.eval oi).run P w = .ok (.value v) w)
  (h:GN (n+1) P md ops Q k F fuel (L.setIfInBounds n true) (a.put oi.dst v) w) (d:∀c a w,Q (.panic c) (a.put oi.dst v) w->Q (.panic c) a w:=by first|exact λ_ _ _ h=>h|exact λ_ _ _ h=>nomatch h.1) (hb:Lj md ops k L n=true:=by kernel_rfl) (e:Region.wanted oi (yielded ops a.tmps)=true:=by rfl):GN n P md ops Q k F (fuel+1) L a w:=Gn hi hb d (.inl ⟨e,b⟩) h
def GV{n:Nat}{oi:Oper}{fuel:Nat}{L:Array Bool}{a:Act}{w:World}{v:Value}(hi:ops[n]?=some oi)
  (h:GN (n+1) P md ops Q k F fuel (L.setIfInBounds n true) (a.put oi.dst v) w) (b:∀w,F w->(execOp a.eval oi).run P w = .ok (.value v) w:=by
  intro w L;(try dsimp only at L);(try have L:=L.cells);(try have M:=L.1.cells);(try subst L);(repeat cases ‹_/\_›);go_simp;try with_reducible rfl) (d:∀c a w,Q (.panic c) (a.put oi.dst v) w->Q (.panic c) a w:=by first|exact λ_ _ _ h=>h|exact λ_ _ _ h=>nomatch h.1) (hb:Lj md ops k L n=true:=by kernel_rfl) (e:Region.wanted oi (yielded ops a.tmps)=true:=by rfl):GN n P md ops Q k F (fuel+1) L a w:=GS hi v b h d hb e
def GU{n:Nat}{oi:Oper}{a:Act}(hi:ops[n]?=some oi)
  (hQ:∀c a w,Q (.panic c) (a.put oi.dst undef) w->Q (.panic c) a w)
  (h:GN (n+1) P md ops Q k F fuel (L.setIfInBounds n true) (a.put oi.dst undef) w) (hb:Lj md ops k L n=true:=by kernel_rfl) (hw:Region.wanted oi (yielded ops a.tmps)=false:=by rfl):GN n P md ops Q k F (fuel+1) L a w:=Gn hi hb hQ (.inr ⟨hw,rfl⟩) h
end
end
end Go.Proofs.YtddfdpbaiedcjaaGreatDoor
