/- A part of Given's proof. Conditions: none. Part 1 of 15. -/
import Derived.StillTail
import Derived.Deep.RegionHeld
import Derived.Laws.Bits64
set_option maxRecDepth 100000
set_option maxHeartbeats 16000000
set_option linter.all false
namespace Go.Proofs.YtddfdpbaiedcjaaGreatDoor
section
open Go
abbrev rt:=_root_.Go.Value
abbrev rq:=_root_.Go.World
def AA(p:Prop):Prop:=p
def AA.z{p:Prop}(h:AA p):p:=h
def AE(p:Prop):Prop:=p
def AE.z{p:Prop}(h:AE p):p:=h
def AF:=@Nat.le_refl
def AG:=@List.length_append
def AH:=@if_neg
def AI:=@Array.getElem?_eq_some_iff
def AJ:=@List.getElem?_eq_getElem
def AK:=@Nat.le_trans
def AL:=@Nat.mul_comm
def AM:=@if_pos
def AN:=@Nat.zero_le
def AO:=@List.getElem?_eq_some_iff
def AQ:=@List.mem_cons_self
def AR:=@beq_eq_false_iff_ne
def AS:=@List.length_cons
def AU:=@List.length_take
def AV:=@List.mem_cons_of_mem
def AW:=@List.mem_of_getElem?
def AX:=@Option.bind_some
def AZ:=@Bool.and_eq_true
def Aa:=@List.getElem?_append_right
def Ab:=@List.take_of_length_le
def Ac:=@List.length_singleton
def Ad:=@Int.toNat_natCast
def Ae:=@List.length_nil
def Af:=@List.mem_singleton
def Ag:=@List.length_drop
def Ah:=@decide_eq_true_eq
def Ai:=@List.eq_nil_of_length_eq_zero
def Aj:=@decide_eq_false_iff_not
def Ak:=@List.mem_append
def Al:=@List.getElem?_append_left
def Am:=@List.getD_eq_getElem?_getD
def An:=@List.size_toArray
def Ao:=@List.setIfInBounds_toArray
def Ap:=@List.append_assoc
def Aq:=@List.nil_append
def Ar:=@Option.bind_eq_some_iff
def As:=@decide_eq_false
def Au:=@decide_eq_true
def Av:=@not_false_eq_true
def Aw:=@Nat.zero_add
def Ax:=@Option.some.injEq
def Ay:=@List.mem_cons
def Az:=@Nat.le_of_eq
def A5:=@Option.map_some
def A6:=@Nat.not_lt_zero
def A7:=@Nat.lt_of_lt_of_le
def A8:=@congrArg
def A9:=@if_true
def BA:=@List.getElem?_drop
def BB:=@Array.replicate_zero
def BC:=@Array.replicate_succ
def BD:=@List.length_map
def BE:=@List.append_toArray
def BF:=@List.take_append_of_le_length
def BG:=@List.take_add_one
def BH:=@List.getElem?_take_of_lt
def BI:=@List.mem_filter
def BJ:=@Prod.mk.injEq
def BK:=@List.push_toArray
def BL:=@List.mem_map
def BM:=@List.length_pos_iff
def BO:=@Nat.le_max_left
def BP:=@List.mem_of_mem_take
def BQ:=@List.take_left
def BS:=@List.cons_append
def BT:=@Bool.false_eq_true
def BU:=@Option.bind_none
def BV:=@Array.getElem?_setIfInBounds
def BW:=@Bool.or_eq_false_iff
def BX:=@List.map_append
def BY:=@Nat.min_eq_left
def BZ:=@if_false
def Ba:=@List.getElem?_toArray
def Bb:=@Bool.or_eq_true
def Bc:=@List.getElem?_map
def Be:=@List.take_take
def Bf:=@List.length_set
def Bg:=@List.any_eq_true
def Bh:=@Bool.true_and
def Bi:=@List.set_append_right
def Bj:=@List.length_replicate
def Bk:=@Array.getElem?_toList
def Bl:=@Bool.not_eq_true'
def Bm:=@Nat.mul_le_mul_right
def Bn:=@List.mem_range
def Bo:=@List.mem_of_mem_drop
def Bp:=@List.range_succ
def Bq:=@List.map_cons
def Br:=@List.mem_append_left
def Bs:=@BitVec.ofInt_natCast
def Bt:=@Option.some.inj
def Bu:=@Nat.min_le_left
def Bv:=@Nat.le_succ
def Bw:=@List.append_nil
def Bx:=@List.take_append_drop
def By:=@List.getElem?_eq_none
def Bz:=@UInt8.toNat_ofNat'
def B3:=@List.filter_append
def B4:=@BitVec.toNat_ofNat
def B5:=@Nat.add_zero
def B6:=@List.drop_zero
def B7:=@Array.length_toList
def B8:=@Option.map_eq_some_iff
def B9:=@List.drop_eq_nil_of_le
def CA:=@Nat.mod_eq_of_lt
def CB:=@List.drop_length
def CC:=@Nat.add_sub_cancel
def CD:=@List.getElem?_take
def CE:=@Bool.and_eq_false_iff
def CF:=@Array.getElem?_modify
def CH:=@List.drop_eq_getElem_cons
def CI:=@not_true_eq_false
def CJ:=@Nat.lt_trichotomy
def CK:=@List.length_range
def CM:=@List.flatMap_append
def CN:=@List.filter_eq_self
def CO:=@Bool.not_eq_true
def CP:=@Nat.zero_mul
def CQ:=@List.set_cons_succ
def CR:=@Array.getElem?_eq_none
def CT:=@List.any_eq_false
def CU:=@List.take_zero
def CW:=@List.set_append_left
def CX:=@List.drop_drop
def CY:=@Nat.min_self
def CZ:=@List.not_mem_nil
def Ca:=@List.map_map
def Cb:=@List.take_succ_cons
def Cc:=@Bool.false_or
def Cd:=@bne_iff_ne
def Ce:=@beq_iff_eq
def Cf:=@Array.ext_getElem?
def Cg:=@Nat.add_sub_cancel_left
def Ch:=@Nat.sub_self
def Ci:=@List.foldl_append
def Cj:=@Array.getElem?_setIfInBounds_ne
def Ck:=@List.length_filter_le
def Cm:=@Nat.le_max_right
def Cn:=@List.prefix_refl
def Co:=@List.drop_append
def Cp:=@List.all_eq_true
def Cq:=@List.replicate_succ'
def Cs:=@List.mem_iff_getElem
def Ct:=@List.getElem?_of_mem
def Cu:=@UInt8.toNat_inj
def Cv:=@List.length_zip
def Cw:=@Bool.eq_iff_iff
def Cx:=@Nat.mul_le_mul_left
def Cy:=@List.map_congr_left
def Cz:=@Array.toList_append
def C1:=@List.map_nil
def C2:=@Nat.xor_lt_two_pow
def C3:=@Nat.eq_zero_or_pos
def C4:=@List.drop_take
def C6:=@Array.getElem?_eq_getElem
def C7:=@List.nodup_append
def C8:=@Array.size_append
def C9:=@Array.size_setIfInBounds
def DA:=@decide_eq_decide
def DB:=@Nat.le_of_not_lt
def DC:=@List.map_fst_zip
def DD:=@List.getElem_mem
def DE:=@List.getElem?_cons_succ
def DF:=@Array.getElem?_setIfInBounds_self_of_lt
def DG:=@Nat.mul_one
def DH:=@Nat.add_mul
def DI:=@List.nodup_nil
def DJ:=@List.toList_toArray
def DK:=@List.take_set
def DM:=@List.flatMap_cons
def DN:=@Nat.le_add_right
def U(b o:Nat):=(b,o)
instance(b o:Nat):CoeDep (Nat×Nat) (U b o) Addr:=⟨⟨b,o,none⟩⟩
instance(b o:Nat):CoeDep (Nat×Nat) (U b o) (Option Addr):=⟨some ⟨b,o,none⟩⟩
instance:Coe Nat Addr:=⟨λb=>⟨b,0,none⟩⟩
instance(b o:Nat):CoeDep (Nat×Nat) (b,o) Addr:=⟨⟨b,o,none⟩⟩
instance(b o:Nat):CoeDep (Nat×Nat) (b,o) (Option Addr):=⟨some ⟨b,o,none⟩⟩
def I{p:Prop}(h:p:=by omega):p:=h
def kw{p:Prop}(h:p:=by kernel_rfl):p:=h
def lc{p:Prop}(h:p:=by decide):p:=h
def lm{p:Prop}(h:p:=by simp):p:=h
def ls{p:Prop}(h:p:=by simp;omega):p:=h
def lw{p:Prop}(h:p:=by unfold maxLen;omega):p:=h
def ol{p:Prop}(h:p:=by trivial):p:=h
def pi{p:Prop}(h:p:=by decide +kernel):p:=h
def pm{p:Prop}(h:p:=by intro x;cases x):p:=h
def pp{p q:Prop}(h:p)(e:p->q:=by omega):q:=e h
def pu{p r q:Prop}(h:p)(i:r)(e:p->r->q:=by omega):q:=e h i
def qr{p r s q:Prop}(h:p)(i:r)(j:s)(e:p->r->s->q:=by omega):q:=e h i j
def rB{p q:Prop}(h:p)(e:p->q:=by intro h;simpa using h):q:=e h
instance:Coe Nat rt:=⟨λn=>.int .u64 n⟩
instance:Coe Int rt:=⟨λn=>.int .u64 n⟩
instance:Coe Bool rt:=⟨λn=>.bool n⟩
instance(n:Nat):CoeDep (List Nat) [n] rt:=⟨.int .i64 n⟩
instance(n:Int):CoeDep (List Int) [n] rt:=⟨.int .i64 n⟩
instance(b o:Nat):CoeDep (Nat×Nat) (b,o) rt:=⟨.pointer (some ⟨b,o,none⟩)⟩
abbrev rC:=List UInt8
abbrev rD:=Nat->Nat×Nat
abbrev rE:=Option Addr
abbrev rF:=List rt
def rR{p:Prop}(h:p:=by simp[intOf];omega):p:=h
instance:CoeFun rq (λ_=>Addr->Option rt):=⟨World.cell?⟩
def rV{α β:Sort _}{x:α}{y:β}{p q:Prop}(h:p:=by omega):(x=x/\y=y/\p)\/q:=.inl ⟨rfl,rfl,h⟩
def rW{α β:Sort _}{x:α}{y:β}{p:Prop}(h:p:=by omega):x=x/\y=y/\p:=⟨rfl,rfl,h⟩
def rY{α β γ:Sort _}{x:α}{y:β}{z:γ}{p q r:Prop}(h:p:=by omega)(i:q:=by omega):(x=x/\y=y/\z=z/\p/\q)\/r:=.inl ⟨rfl,rfl,rfl,h,i⟩
def rZ{α β:Sort _}{x:α}{y:β}:x=x/\y=y:=⟨rfl,rfl⟩
def ri{α β γ:Sort _}{x:α}{y:β}{z:γ}:x=x/\y=y/\z=z:=⟨rfl,rfl,rfl⟩
def rj{α:Sort _}{x:α}{p:Prop}:x=x\/p:=.inl rfl
def rk{p:Prop}(h:p):p:=h
def rm{α:Sort _}{p:α->Prop}(x:α)(h:False):p x:=h.elim
def ro{n:Nat}:n<=n:=n.le_refl
instance(w:World)(o:Nat):CoeDep (World×Nat) (w,o) Addr:=⟨⟨w.heap.size,o,none⟩⟩
instance:Coe World Nat:=⟨λw=>w.heap.size⟩
inductive rx|a
abbrev ru:=rx.a
instance:Coe rx Value:=⟨λ_=>.slice none 0 0⟩
def nm {α : Sort _} (e : α) : ∃ x, e = x := ⟨e, rfl⟩
def nn {α : Sort _} (e : α) : ∃ x, x = e := ⟨e, rfl⟩
def wi (x : Int) (h : -9223372036854775808 <= x /\ x <= 9223372036854775807) : IntKind.i64.wrap x = x := by rw [IntKind.wrap_i64]; omega
def wu (x : Int) (h : 0 <= x /\ x <= 18446744073709551615) : IntKind.u64.wrap x = x := by rw [IntKind.wrap_u64]; omega
section
variable {P:Program} {ops:Array Oper} {Q:Exit->Act->rq->Prop} {md:Region.Mode} {F:rq->Prop} {k:Nat}
def ST(k:Nat)(F:rq->Prop)(L:Array Bool)(w:rq):Prop:=L.getD k false=true\/F w
def Mw(P:Program)(md:Region.Mode)(ops:Array Oper)(Q:Exit->Act->rq->Prop)(k:Nat)(F:rq->Prop):Nat->Array Bool->Act->rq->Prop
 | 0,L,a,w=>Region.ready md ops L=[]/\Q .normal a w
 | fuel+1,L,a,w =>
  (Region.ready md ops L=[]->Q .normal a w) /\
  ∀i∈Region.ready md ops L,wpOp P ops Q i (λc w'=>ST k F (L.setIfInBounds i true) w'/\Mw P md ops Q k F fuel (L.setIfInBounds i true) c w') a w
theorem RM:∀(fuel:Nat) (L:Array Bool) (a:Act) (w:rq),Mw P md ops Q k F fuel L a w->wpAny P md ops Q fuel L a w
 | 0,_,_,_,h=>h
 | fuel+1,_,_,_,h=>⟨h.1,λi a=>wpOp_mono (λc w' d=>RM fuel _ c w' d.2)<|h.2 i a⟩
structure Ki(md:Region.Mode)(ops:Array Oper)(L:Array Bool):Prop where
 pW:Region.noSelect ops=true
 size:L.size=ops.size
 qW:∀j oj,ops[j]?=some oj->L.getD j false=true->∀e∈oj.after,Region.binds md e=true->L.getD e.on false=true
variable{L:Array Bool}{i:Nat}
def kQ(h:L.getD i true=false):L.getD i false=false:=by
 rcases Nat.lt_or_ge i L.size with a|a
 .simp[a]at h ⊢;exact h
 simp[CR a]at h
def Ki.set(c:Ki md ops L)(hi:i∈Region.ready md ops L):Ki md ops (L.setIfInBounds i true):=by
 obtain⟨_,q,f,a⟩:=mem_ready.1 hi;refine⟨c.pW,by simp[c.size],λj p h l e o hb=>?_⟩;by_cases d:i=j
 .subst d;have:=Bt<|h.symm.trans f;subst this;exact getD_set_true<|a e o hb
 rw[getD_set_ne false d]at l;exact getD_set_true<|c.qW j p h l e o hb
def MM(md:Region.Mode)(ops:Array Oper)(i:Nat):Nat->Nat->Bool
 | 0,k=>k==i
 | f+1,k=>k==i||match ops[k]? with
  | some o=>o.after.any λe=>Region.binds md e&&MM md ops i f e.on
  | none=>true
theorem Vu(c:Ki md ops L):∀(f k:Nat),MM md ops i f k=true->L.getD k false=true->L.getD i false=true
 | 0,k,h,hk=>by
  simp[MM]at h;exact h ▸ hk
 | f+1,k,h,hk=>by
  simp only[MM,Bb,Ce]at h;rcases h with h|h
  .exact h ▸ hk
  cases ho:ops[k]? with
  | none =>
   have a:¬k<L.size:=by
    rw[c.size];intro a;simp[a]at ho
   simp[CR (DB a)]at hk
  | some o =>
   rw[ho]at h;obtain⟨e,a,hb⟩:=Array.any_eq_true'.1 h;simp only[AZ]at hb;exact Vu c f e.on hb.2<|c.qW k o ho hk e a hb.1
variable{v:rt}
theorem j7{z:Oper}{f0:Nat}(hi:ops[i]?=some z)(t:∀(j:Nat) (o:Oper) cs b,ops[j]?=some o->o.op≠.select cs b)
  (hQ:∀c a w,Q (.panic c) (a.put z.dst v) w->Q (.panic c) a w) (Z:MM md ops i f0 k=true) (aa:i≠k) :
  ∀(fuel:Nat) (L:Array Bool) (a:Act) (w:rq),Ki md ops L ->
   (∀j A,ops[j]?=some A->j≠i->L.getD j true=false->(∀e∈A.after,Region.binds md e=true->e.on≠i)->z.apart ops A=true) ->
   i∈Region.ready md ops L->YieldsIf P ops F z v a->ST k F L w ->
   Mw P md ops Q k F fuel (L.setIfInBounds i true) (a.put z.dst v) w->Mw P md ops Q k F (fuel+1) L a w:=by
 have E:∀L:Array Bool,i∈Region.ready md ops L->L.getD i false=false:=λL h=>kQ (mem_ready.1 h).1
 have q:∀(L:Array Bool) (w:rq),Ki md ops L->i∈Region.ready md ops L->ST k F L w->F w:=λL w c f l=>by
  rcases l with l|l
  .have:=Vu c f0 k Z l;rw[E L f]at this;cases this
  exact l
 intro fuel
 induction fuel with
 | zero =>
  intro L a w c _ f X l H;refine⟨λh=>(by rw[h]at f;cases f),λj K=>?_⟩;by_cases d:j=i
  .subst d;exact X.wpOp hi (q L w c f l) ⟨.inr<|q L w c f l,H⟩
  have:=ready_mono K d;rw[H.1]at this;cases this
 | succ fuel ih =>
  intro L a w c p f X l H;refine⟨λh=>(by rw[h]at f;cases f),λj K=>?_⟩;by_cases d:j=i
  .subst d;exact X.wpOp hi (q L w c f l) ⟨.inr<|q L w c f l,H⟩
  have Y:=H.2 j<|ready_mono K d;obtain⟨u,A,B,a⟩:=mem_ready.1 K;have N:∀e∈A.after,Region.binds md e=true->e.on≠i:=λe o hb l=>by
   have Y:=a e o hb;rw[l,E L f]at Y;cases Y
  have h2:=wpOp_putIf B (p j A B d u N) (λcs b=>t i z cs b hi) (λcs b=>t j A cs b B) hQ X Y;have s:∀k ok,ops[k]?=some ok->k≠i->(L.setIfInBounds j true).getD k true=false ->
    (∀e∈ok.after,Region.binds md e=true->e.on≠i)->z.apart ops ok=true:=λk ok Z a O e=>by
   refine p k ok Z a ?_ e;by_cases T:j=k
   .subst T;exact u
   rw[getD_set_ne true T]at O;exact O
  have l:=ready_mono f<|Ne.symm d;have a:∀w',ST k F ((L.setIfInBounds i true).setIfInBounds j true) w'->ST k F (L.setIfInBounds j true) w':=λw' e=>by
   rcases e with h|h
   .refine .inl ?_;rw[Array.setIfInBounds_comm _ _ (Ne.symm d),getD_set_ne false aa]at h;exact h
   exact .inr h
  refine wpOp_mono (λf w' e=>⟨a w' e.2.1,ih (L.setIfInBounds j true) f w' (c.set K) s l e.1 (a w' e.2.1) ?_⟩) h2;rw[Array.setIfInBounds_comm _ _ d];exact e.2.2
def GT(P:Program)(md:Region.Mode)(ops:Array Oper)(Q:Exit->Act->rq->Prop)(k:Nat)(F:rq->Prop)(fuel:Nat)(L:Array Bool)(a:Act)(w:rq):Prop :=
 Ki md ops L->ST k F L w->Mw P md ops Q k F fuel L a w
def Mn(md:Region.Mode)(ops:Array Oper)(k:Nat)(L:Array Bool)(i:Nat):Bool :=
 Region.free md ops L i&&(Region.ready md ops L).contains i&&MM md ops i ops.size k && !(i==k)
variable{fuel:Nat}{w:rq}
def H9{d:Oper}{a:Act}(hi:ops[i]?=some d)(hb:Mn md ops k L i=true)
  (l:∀c a w,Q (.panic c) (a.put d.dst v) w->Q (.panic c) a w) (o:YieldsIf P ops F d v a)
  (h:GT P md ops Q k F fuel (L.setIfInBounds i true) (a.put d.dst v) w):GT P md ops Q k F (fuel+1) L a w:=λc d=>by
 simp only[Mn,AZ,Bl]at hb;obtain⟨⟨⟨p,q⟩,s⟩,f⟩:=hb;have e:i≠k:=rB f;have f:i∈Region.ready md ops L:=rB q;refine j7 hi (Region.noSelect_spec c.pW) l s e fuel L a w c (Region.free_spec hi p) f o d<|h (c.set f) ?_;rcases d with d|d
 .exact .inl (getD_set_true d)
 exact .inr d
def zz(i:Nat){o:Oper}{a:Act}(l:ops[i]?=some o)
  (h:∀K':Act->rq->Prop,AE (∀a w,F w->GT P md ops Q k F fuel (L.setIfInBounds i true) a w->K' a w)->if Region.wanted o (yielded ops a.tmps)=true then Oper.wp P o a w K' Q else K' (a.put o.dst undef) w) (e:Region.ready md ops L=[i]:=by kernel_rfl) :
  GT P md ops Q k F (fuel+1) L a w:=λc _=>by
 refine⟨λf=>(by rw[e]at f;cases f),λj d=>?_⟩;have p:=c.set d;rw[e,Af]at d;subst d;exact wpOp_step l<|λK' d=>h K'<|λa w c e=>d a w ⟨.inr c,e p<|.inr c⟩
def zY{o:Oper}{a:Act}(e:ops[k]?=some o)
  (h:∀K':Act->rq->Prop,AE (∀a w,GT P md ops Q k F fuel (L.setIfInBounds k true) a w->K' a w)->if Region.wanted o (yielded ops a.tmps)=true then Oper.wp P o a w K' Q else K' (a.put o.dst undef) w) (f:Region.ready md ops L=[k]:=by kernel_rfl) :
  GT P md ops Q k F (fuel+1) L a w:=λc _=>by
 refine⟨λl=>(by rw[f]at l;cases l),λj d=>?_⟩;have p:=c.set d;rw[f,Af]at d;subst d;have d:j<L.size:=by
  rw[c.size];exact(AI.1 e).1
 have c:(L.setIfInBounds j true).getD j false=true:=by simp[d]
 exact wpOp_step e<|λK' d=>h K'<|λa w e=>d a w ⟨.inl c,e p<|.inl c⟩
theorem zq{a:Act}(h:Q .normal a w)(c:Region.ready md ops L=[]:=by kernel_rfl):GT P md ops Q k F fuel L a w:=λ_ _=>by
 cases fuel with
 | zero=>exact⟨c,h⟩
 | succ n=>exact⟨λ_=>h,by rw[c];simp⟩
def zn{id:Nat}{a:Act}(k:Nat)(F:rq->Prop)(d:F w.drew)
  (h:GT P .any ops Q k F ops.size (Array.replicate ops.size false) a w.drew) (e:P.follows .mixedOrders=true:=by kernel_rfl) (f:Region.noSelect ops=true:=by kernel_rfl):(Code.region id ops true).wp P Q a w:=by
 refine wp_region_any e<|RM _ _ _ _<|h ⟨f,lm,λj a _ c=>?_⟩<|.inr d;have:=getD_replicate_false ops.size j;rw[this]at c;cases c
def PS:(∀(a:Act) (i:Tmp) (v:rt),a.put (some i) v={ a with tmps:=a.tmps.setIfInBounds i v })/\(∀(a:Act) (v:rt),a.put none v=a)/\(∀{α : Type} (l:List α) (i:Nat) (x : α),l.toArray.setIfInBounds i x=(l.set i x).toArray)/\(∀{α : Type} (x y : α) (l:List α),(x::l).set 0 y=y::l)/\(∀{α : Type} (x y : α) (n:Nat) (l:List α),(x::l).set (n+1) y=x::l.set n y)/\(∀{α : Type} (l:List α) (i:Nat) (h:i<l.toArray.size),l.toArray[i]=l[i]'h)/\(∀{α : Type} (x : α) (l:List α) (h:0<(x::l).length),(x::l)[0]'h=x)/\(∀{α : Type} (x : α) (l:List α) (i:Nat) (h:i+1<(x::l).length),(x::l)[i+1]'h=l[i]'(Nat.lt_of_succ_lt_succ h)) :=
 ⟨λ_ _ _=>rfl,λ_ _=>rfl,λ_ _ _=>Ao ..,λ_ _ _=>rfl,λ_ _ _ _=>rfl,λ_ _ _=>rfl,λ_ _ _=>rfl,λ_ _ _ _=>rfl⟩
def GN(_:Nat)(P:Program)(md:Region.Mode)(ops:Array Oper)(Q:Exit->Act->rq->Prop)(k:Nat)(F:rq->Prop)(fuel:Nat)(L:Array Bool)(a:Act)(w:rq):Prop:=GT P md ops Q k F fuel L a w
def GI(n:Nat){a:Act}(h:GN n P md ops Q k F fuel L a w):GT P md ops Q k F fuel L a w:=h
def GS{n:Nat}{d:Oper}{a:Act}(hi:ops[n]?=some d)(v:rt)
  (e:∀w,F w->(execOp a.eval d).run P w=.ok (.value v) w)
  (h:GN (n+1) P md ops Q k F fuel (L.setIfInBounds n true) (a.put d.dst v) w) (f:∀c a w,Q (.panic c) (a.put d.dst v) w->Q (.panic c) a w:=by first|exact λ_ _ _ h=>h|exact λ_ _ _ h=>nomatch h.1) (hb:Mn md ops k L n=true:=by kernel_rfl) (l:Region.wanted d (yielded ops a.tmps)=true:=by rfl):GN n P md ops Q k F (fuel+1) L a w:=H9 hi hb f (.inl ⟨l,e⟩) h
def GV{n:Nat}{d:Oper}{fuel:Nat}{L:Array Bool}{a:Act}{w:rq}{v:rt}(hi:ops[n]?=some d)
  (h:GN (n+1) P md ops Q k F fuel (L.setIfInBounds n true) (a.put d.dst v) w) (e:∀w,F w->(execOp a.eval d).run P w=.ok (.value v) w:=by
  intro w L;(try dsimp only at L);(try have L:=L.cells);(try have M:=L.1.cells);(try subst L);(repeat cases ‹_/\_›);go_simp;try with_reducible rfl) (f:∀c a w,Q (.panic c) (a.put d.dst v) w->Q (.panic c) a w:=by first|exact λ_ _ _ h=>h|exact λ_ _ _ h=>nomatch h.1) (hb:Mn md ops k L n=true:=by kernel_rfl) (l:Region.wanted d (yielded ops a.tmps)=true:=by rfl):GN n P md ops Q k F (fuel+1) L a w:=GS hi v e h f hb l
def GU{n:Nat}{d:Oper}{a:Act}(hi:ops[n]?=some d)
  (e:∀c a w,Q (.panic c) (a.put d.dst undef) w->Q (.panic c) a w)
  (h:GN (n+1) P md ops Q k F fuel (L.setIfInBounds n true) (a.put d.dst undef) w) (hb:Mn md ops k L n=true:=by kernel_rfl) (c:Region.wanted d (yielded ops a.tmps)=false:=by rfl):GN n P md ops Q k F (fuel+1) L a w:=H9 hi hb e (.inr ⟨c,rfl⟩) h
end
end
end Go.Proofs.YtddfdpbaiedcjaaGreatDoor
