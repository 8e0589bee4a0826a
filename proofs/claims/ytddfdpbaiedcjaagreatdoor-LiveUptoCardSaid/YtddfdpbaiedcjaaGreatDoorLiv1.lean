/- A part of Live's proof. Conditions: none. Part 1 of 15. -/
import Derived.StillTail
import Derived.Deep.RegionHeld
import Derived.Laws.Bits64
set_option maxRecDepth 100000
set_option maxHeartbeats 16000000
set_option linter.all false
namespace Go.Proofs.YtddfdpbaiedcjaaGreatDoor
section
open Go
def AA(p:Prop):Prop:=p
def AA.z{p:Prop}(h:AA p):p:=h
def AE(p:Prop):Prop:=p
def AE.z{p:Prop}(h:AE p):p:=h
def AF:=@Nat.le_refl
def AG:=@List.length_append
def AH:=@Array.getElem?_eq_some_iff
def AI:=@if_neg
def AJ:=@Nat.le_trans
def AK:=@List.getElem?_eq_getElem
def AL:=@Nat.mul_comm
def AM:=@Nat.zero_le
def AN:=@List.getElem?_eq_some_iff
def AO:=@List.mem_cons_self
def AQ:=@if_pos
def AR:=@List.length_cons
def AS:=@beq_eq_false_iff_ne
def AU:=@List.length_take
def AV:=@List.mem_of_getElem?
def AW:=@List.mem_cons_of_mem
def AX:=@Option.bind_some
def AZ:=@Bool.and_eq_true
def Aa:=@List.take_of_length_le
def Ab:=@List.getElem?_append_right
def Ac:=@List.length_drop
def Ad:=@List.length_nil
def Ae:=@Int.toNat_natCast
def Af:=@List.length_singleton
def Ag:=@List.mem_singleton
def Ah:=@decide_eq_true_eq
def Ai:=@decide_eq_false_iff_not
def Aj:=@List.eq_nil_of_length_eq_zero
def Ak:=@List.getD_eq_getElem?_getD
def Al:=@List.mem_append
def Am:=@List.size_toArray
def An:=@List.nil_append
def Ao:=@List.getElem?_append_left
def Ap:=@List.append_assoc
def Aq:=@List.setIfInBounds_toArray
def Ar:=@Option.bind_eq_some_iff
def As:=@not_false_eq_true
def Au:=@Option.some.injEq
def Av:=@List.mem_cons
def Aw:=@decide_eq_false
def Ax:=@decide_eq_true
def Ay:=@Nat.le_of_eq
def Az:=@Option.map_some
def A5:=@Nat.not_lt_zero
def A6:=@Nat.zero_add
def A7:=@Nat.lt_of_lt_of_le
def A8:=@congrArg
def A9:=@Array.replicate_zero
def BA:=@Array.replicate_succ
def BB:=@List.length_map
def BC:=@if_true
def BD:=@List.getElem?_drop
def BE:=@List.append_toArray
def BF:=@List.take_append_of_le_length
def BG:=@List.take_add_one
def BH:=@List.getElem?_take_of_lt
def BI:=@List.mem_filter
def BJ:=@Prod.mk.injEq
def BK:=@List.push_toArray
def BM:=@List.length_pos_iff
def BO:=@Nat.le_max_left
def BP:=@List.mem_of_mem_take
def BQ:=@List.mem_map
def BS:=@List.cons_append
def BT:=@List.take_left
def BU:=@Bool.or_eq_false_iff
def BV:=@Option.bind_none
def BW:=@Array.getElem?_setIfInBounds
def BX:=@Bool.false_eq_true
def BY:=@List.getElem?_toArray
def BZ:=@Nat.min_eq_left
def Ba:=@List.map_append
def Bb:=@Bool.or_eq_true
def Bc:=@List.getElem?_map
def Be:=@if_false
def Bf:=@List.take_take
def Bg:=@List.length_set
def Bh:=@List.any_eq_true
def Bi:=@Bool.true_and
def Bj:=@List.set_append_right
def Bk:=@List.length_replicate
def Bl:=@Array.getElem?_toList
def Bm:=@Bool.not_eq_true'
def Bn:=@List.mem_range
def Bo:=@List.mem_of_mem_drop
def Bp:=@List.range_succ
def Bq:=@List.map_cons
def Br:=@BitVec.ofInt_natCast
def Bt:=@Option.some.inj
def Bu:=@Nat.min_le_left
def Bv:=@Nat.le_succ
def Bw:=@List.append_nil
def Bx:=@List.take_append_drop
def By:=@UInt8.toNat_ofNat'
def Bz:=@List.filter_append
def B6:=@BitVec.toNat_ofNat
def B7:=@Nat.add_zero
def B8:=@Nat.mul_le_mul_right
def CA:=@Array.length_toList
def CB:=@Option.map_eq_some_iff
def CC:=@List.drop_eq_nil_of_le
def CD:=@Nat.mod_eq_of_lt
def CE:=@List.drop_length
def CF:=@Nat.add_sub_cancel
def CH:=@List.drop_zero
def CI:=@Bool.and_eq_false_iff
def CJ:=@Array.getElem?_modify
def CK:=@List.drop_eq_getElem_cons
def CM:=@Nat.lt_trichotomy
def CN:=@List.mem_append_left
def CO:=@List.length_range
def CP:=@List.flatMap_append
def CQ:=@List.filter_eq_self
def CR:=@Bool.not_eq_true
def CT:=@List.set_cons_succ
def CU:=@List.getElem?_take
def CW:=@Array.getElem?_eq_none
def CX:=@List.getElem?_eq_none
def CY:=@not_true_eq_false
def CZ:=@List.any_eq_false
def Ca:=@List.take_zero
def Cb:=@List.set_append_left
def Cc:=@List.drop_drop
def Cd:=@Nat.zero_mul
def Ce:=@Nat.min_self
def Cf:=@List.not_mem_nil
def Cg:=@List.map_map
def Ch:=@List.take_succ_cons
def Ci:=@beq_iff_eq
def Cj:=@Array.ext_getElem?
def Ck:=@Nat.add_sub_cancel_left
def Cm:=@List.foldl_append
def Cn:=@Array.getElem?_setIfInBounds_ne
def Co:=@List.length_filter_le
def Cp:=@bne_iff_ne
def Cq:=@Nat.le_max_right
def Cs:=@List.drop_append
def Ct:=@List.all_eq_true
def Cu:=@List.replicate_succ'
def Cv:=@List.mem_iff_getElem
def Cw:=@List.getElem?_of_mem
def Cx:=@UInt8.toNat_inj
def Cy:=@List.length_zip
def Cz:=@Bool.eq_iff_iff
def C2:=@Nat.mul_le_mul_left
def C3:=@List.map_congr_left
def C4:=@List.map_nil
def C6:=@Nat.xor_lt_two_pow
def C8:=@Nat.eq_zero_or_pos
def C9:=@List.drop_take
def DA:=@Bool.false_or
def DB:=@Array.size_setIfInBounds
def DC:=@Nat.le_of_not_lt
def DD:=@List.prefix_refl
def DE:=@List.map_fst_zip
def DF:=@List.getElem_mem
def DG:=@List.getElem?_cons_succ
def DH:=@Nat.sub_self
def DI:=@Array.getElem?_setIfInBounds_self_of_lt
def DJ:=@Nat.mul_one
def DK:=@List.nodup_nil
def DM:=@List.toList_toArray
def DN:=@Array.toList_append
def DO:=@List.take_set
def DP:=@List.nodup_append
def DQ:=@List.flatMap_cons
def DR:=@Array.size_append
def DU:=@Nat.le_add_right
def DV:=@Nat.add_mul
def U(b o:Nat):=(b,o)
instance(b o:Nat):CoeDep (Nat×Nat) (U b o) Addr:=⟨⟨b,o,none⟩⟩
instance(b o:Nat):CoeDep (Nat×Nat) (U b o) (Option Addr):=⟨some ⟨b,o,none⟩⟩
instance:Coe Nat Addr:=⟨λb=>⟨b,0,none⟩⟩
instance(b o:Nat):CoeDep (Nat×Nat) (b,o) Addr:=⟨⟨b,o,none⟩⟩
instance(b o:Nat):CoeDep (Nat×Nat) (b,o) (Option Addr):=⟨some ⟨b,o,none⟩⟩
def I{p:Prop}(h:p:=by omega):p:=h
def mr{p:Prop}(h:p:=by kernel_rfl):p:=h
def mu{p:Prop}(h:p:=by decide):p:=h
def mv{p:Prop}(h:p:=by simp):p:=h
def my{p:Prop}(h:p:=by simp;omega):p:=h
def mz{p:Prop}(h:p:=by unfold maxLen;omega):p:=h
def m9{p:Prop}(h:p:=by trivial):p:=h
def nA{p:Prop}(h:p:=by decide +kernel):p:=h
def nB{p:Prop}(h:p:=by intro x;cases x):p:=h
def nC{p q:Prop}(h:p)(e:p->q:=by omega):q:=e h
def nD{p r q:Prop}(h:p)(i:r)(e:p->r->q:=by omega):q:=e h i
def nE{p r s q:Prop}(h:p)(i:r)(j:s)(e:p->r->s->q:=by omega):q:=e h i j
def nF{p q:Prop}(h:p)(e:p->q:=by intro h;simpa using h):q:=e h
instance:Coe Nat Value:=⟨λn=>.int .u64 n⟩
instance:Coe Int Value:=⟨λn=>.int .u64 n⟩
instance:Coe Bool Value:=⟨λn=>.bool n⟩
instance(n:Nat):CoeDep (List Nat) [n] Value:=⟨.int .i64 n⟩
instance(n:Int):CoeDep (List Int) [n] Value:=⟨.int .i64 n⟩
instance(b o:Nat):CoeDep (Nat×Nat) (b,o) Value:=⟨.pointer (some ⟨b,o,none⟩)⟩
abbrev nG:=List UInt8
abbrev nH:=Nat->Nat×Nat
abbrev nI:=Option Addr
abbrev nJ:=List Value
def nm {α : Sort _} (e : α) : ∃ x, e = x := ⟨e, rfl⟩
def nn {α : Sort _} (e : α) : ∃ x, x = e := ⟨e, rfl⟩
def wi (x : Int) (h : -9223372036854775808 <= x /\ x <= 9223372036854775807) : IntKind.i64.wrap x = x := by rw [IntKind.wrap_i64]; omega
def wu (x : Int) (h : 0 <= x /\ x <= 18446744073709551615) : IntKind.u64.wrap x = x := by rw [IntKind.wrap_u64]; omega
section
variable {P:Program} {ops:Array Oper} {Q:Exit->Act->World->Prop} {md:Region.Mode} {F:World->Prop} {k:Nat}
def ST(k:Nat)(F:World->Prop)(L:Array Bool)(w:World):Prop:=L.getD k false=true\/F w
def My(P:Program)(md:Region.Mode)(ops:Array Oper)(Q:Exit->Act->World->Prop)(k:Nat)(F:World->Prop):Nat->Array Bool->Act->World->Prop
 | 0,L,a,w=>Region.ready md ops L=[]/\Q .normal a w
 | fuel+1,L,a,w =>
  (Region.ready md ops L=[]->Q .normal a w) /\
  ∀i∈Region.ready md ops L,wpOp P ops Q i (λa' w'=>ST k F (L.setIfInBounds i true) w'/\My P md ops Q k F fuel (L.setIfInBounds i true) a' w') a w
theorem Rh:∀(fuel:Nat) (L:Array Bool) (a:Act) (w:World),My P md ops Q k F fuel L a w->wpAny P md ops Q fuel L a w
 | 0,_,_,_,h=>h
 | fuel+1,_,_,_,h=>⟨h.1,λi hi=>wpOp_mono (λa' w' h'=>Rh fuel _ a' w' h'.2) (h.2 i hi)⟩
structure Kk(md:Region.Mode)(ops:Array Oper)(L:Array Bool):Prop where
 nosel:Region.noSelect ops=true
 size:L.size=ops.size
 deps:∀j oj,ops[j]?=some oj->L.getD j false=true->∀e∈oj.after,Region.binds md e=true->L.getD e.on false=true
variable{L:Array Bool}{i:Nat}
def mV(h:L.getD i true=false):L.getD i false=false:=by
 rcases Nat.lt_or_ge i L.size with a|a
 .simp[a]at h ⊢;exact h
 simp[CW a]at h
def Kk.set(c:Kk md ops L)(hi:i∈Region.ready md ops L):Kk md ops (L.setIfInBounds i true):=by
 obtain⟨_,oi,d,a⟩:=mem_ready.1 hi;refine⟨c.nosel,by simp[c.size],λj oj f hl e g hb=>?_⟩;by_cases b:i=j
 .subst b;have:=Bt (f.symm.trans d);subst this;exact getD_set_true (a e g hb)
 rw[getD_set_ne false b]at hl;exact getD_set_true (c.deps j oj f hl e g hb)
def MO(md:Region.Mode)(ops:Array Oper)(i:Nat):Nat->Nat->Bool
 | 0,k=>k==i
 | f+1,k=>k==i||match ops[k]? with
  | some o=>o.after.any λe=>Region.binds md e&&MO md ops i f e.on
  | none=>true
theorem Wg(c:Kk md ops L):∀(f k:Nat),MO md ops i f k=true->L.getD k false=true->L.getD i false=true
 | 0,k,h,hk=>by
  simp[MO]at h;exact h ▸ hk
 | f+1,k,h,hk=>by
  simp only[MO,Bb,Ci]at h;rcases h with h|h
  .exact h ▸ hk
  cases ho:ops[k]? with
  | none =>
   have a:¬k<L.size:=by
    rw[c.size];intro a;simp[a]at ho
   simp[CW (DC a)]at hk
  | some o =>
   rw[ho]at h;obtain⟨e,he,hb⟩:=Array.any_eq_true'.1 h;simp only[AZ]at hb;exact Wg c f e.on hb.2 (c.deps k o ho hk e he hb.1)
variable{v:Value}
theorem lS{r:Oper}{f0:Nat}(hi:ops[i]?=some r)(p:∀(j:Nat) (o:Oper) cs b,ops[j]?=some o->o.op≠.select cs b)
  (hQ:∀c a w,Q (.panic c) (a.put r.dst v) w->Q (.panic c) a w) (hk:MO md ops i f0 k=true) (D:i≠k) :
  ∀(fuel:Nat) (L:Array Bool) (a:Act) (w:World),Kk md ops L ->
   (∀j oj,ops[j]?=some oj->j≠i->L.getD j true=false->(∀e∈oj.after,Region.binds md e=true->e.on≠i)->r.apart ops oj=true) ->
   i∈Region.ready md ops L->YieldsIf P ops F r v a->ST k F L w ->
   My P md ops Q k F fuel (L.setIfInBounds i true) (a.put r.dst v) w->My P md ops Q k F (fuel+1) L a w:=by
 have t:∀L:Array Bool,i∈Region.ready md ops L->L.getD i false=false:=λL h=>mV (mem_ready.1 h).1
 have m:∀(L:Array Bool) (w:World),Kk md ops L->i∈Region.ready md ops L->ST k F L w->F w:=λL w c f g=>by
  rcases g with g|g
  .have:=Wg c f0 k hk g;rw[t L f]at this;cases this
  exact g
 intro fuel
 induction fuel with
 | zero =>
  intro L a w c _ f C g H;refine⟨λh=>(by rw[h]at f;cases f),λj u=>?_⟩;by_cases d:j=i
  .subst d;exact C.wpOp hi (m L w c f g) ⟨.inr (m L w c f g),H⟩
  have:=ready_mono u d;rw[H.1]at this;cases this
 | succ fuel ih =>
  intro L a w c l f C g H;refine⟨λh=>(by rw[h]at f;cases f),λj u=>?_⟩;by_cases d:j=i
  .subst d;exact C.wpOp hi (m L w c f g) ⟨.inr (m L w c f g),H⟩
  have h1:=H.2 j (ready_mono u d);obtain⟨q,oj,s,x⟩:=mem_ready.1 u;have y:∀e∈oj.after,Region.binds md e=true->e.on≠i:=λe he hb E=>by
   have h1:=x e he hb;rw[E,t L f]at h1;cases h1
  have h2:=wpOp_putIf s (l j oj s d q y) (λcs b=>p i r cs b hi) (λcs b=>p j oj cs b s) hQ C h1;have n:∀k ok,ops[k]?=some ok->k≠i->(L.setIfInBounds j true).getD k true=false ->
    (∀e∈ok.after,Region.binds md e=true->e.on≠i)->r.apart ops ok=true:=λk ok hk G z J=>by
   refine l k ok hk G ?_ J;by_cases A:j=k
   .subst A;exact q
   rw[getD_set_ne true A]at z;exact z
  have K:=ready_mono f (Ne.symm d);have B:∀w',ST k F ((L.setIfInBounds i true).setIfInBounds j true) w'->ST k F (L.setIfInBounds j true) w':=λw' M=>by
   rcases M with h|h
   .refine .inl ?_;rw[Array.setIfInBounds_comm _ _ (Ne.symm d),getD_set_ne false D]at h;exact h
   exact .inr h
  refine wpOp_mono (λa' w' h3=>⟨B w' h3.2.1,ih (L.setIfInBounds j true) a' w' (c.set u) n K h3.1 (B w' h3.2.1) ?_⟩) h2;rw[Array.setIfInBounds_comm _ _ d];exact h3.2.2
def GT(P:Program)(md:Region.Mode)(ops:Array Oper)(Q:Exit->Act->World->Prop)(k:Nat)(F:World->Prop)(fuel:Nat)(L:Array Bool)(a:Act)(w:World):Prop :=
 Kk md ops L->ST k F L w->My P md ops Q k F fuel L a w
def Mu(md:Region.Mode)(ops:Array Oper)(k:Nat)(L:Array Bool)(i:Nat):Bool :=
 Region.free md ops L i&&(Region.ready md ops L).contains i&&MO md ops i ops.size k && !(i==k)
variable{fuel:Nat}{w:World}
def Jn{f:Oper}{a:Act}(hi:ops[i]?=some f)(hb:Mu md ops k L i=true)
  (hQ:∀c a w,Q (.panic c) (a.put f.dst v) w->Q (.panic c) a w) (hy:YieldsIf P ops F f v a)
  (h:GT P md ops Q k F fuel (L.setIfInBounds i true) (a.put f.dst v) w):GT P md ops Q k F (fuel+1) L a w:=λc b=>by
 simp only[Mu,AZ,Bm]at hb;obtain⟨⟨⟨hf,hr⟩,hk⟩,g⟩:=hb;have d:i≠k:=nF g;have e:i∈Region.ready md ops L:=nF hr;refine lS hi (Region.noSelect_spec c.nosel) hQ hk d fuel L a w c (Region.free_spec hi hf) e hy b (h (c.set e) ?_);rcases b with b|b
 .exact .inl (getD_set_true b)
 exact .inr b
def zE(i:Nat){o:Oper}{a:Act}(ho:ops[i]?=some o)
  (h:∀K':Act->World->Prop,AE (∀a w,F w->GT P md ops Q k F fuel (L.setIfInBounds i true) a w->K' a w)->if Region.wanted o (yielded ops a.tmps)=true then Oper.wp P o a w K' Q else K' (a.put o.dst undef) w) (d:Region.ready md ops L=[i]:=by kernel_rfl) :
  GT P md ops Q k F (fuel+1) L a w:=λc _=>by
 refine⟨λh0=>(by rw[d]at h0;cases h0),λj b=>?_⟩;have hc:=c.set b;rw[d,Ag]at b;subst b;exact wpOp_step ho (λK' hK=>h K' (λa w e hG=>hK a w ⟨.inr e,hG hc (.inr e)⟩))
def EX{o:Oper}{a:Act}(e:ops[k]?=some o)
  (h:∀K':Act->World->Prop,AE (∀a w,GT P md ops Q k F fuel (L.setIfInBounds k true) a w->K' a w)->if Region.wanted o (yielded ops a.tmps)=true then Oper.wp P o a w K' Q else K' (a.put o.dst undef) w) (f:Region.ready md ops L=[k]:=by kernel_rfl) :
  GT P md ops Q k F (fuel+1) L a w:=λc _=>by
 refine⟨λh0=>(by rw[f]at h0;cases h0),λj b=>?_⟩;have hc:=c.set b;rw[f,Ag]at b;subst b;have d:j<L.size:=by
  rw[c.size];exact(AH.1 e).1
 have hl:(L.setIfInBounds j true).getD j false=true:=by simp[d]
 exact wpOp_step e (λK' hK=>h K' (λa w hG=>hK a w ⟨.inl hl,hG hc (.inl hl)⟩))
theorem zr{a:Act}(h:Q .normal a w)(b:Region.ready md ops L=[]:=by kernel_rfl):GT P md ops Q k F fuel L a w:=λ_ _=>by
 cases fuel with
 | zero=>exact⟨b,h⟩
 | succ n=>exact⟨λ_=>h,by rw[b];simp⟩
def zo{id:Nat}{a:Act}(k:Nat)(F:World->Prop)(hF:F w.drew)
  (h:GT P .any ops Q k F ops.size (Array.replicate ops.size false) a w.drew) (hm:P.follows .mixedOrders=true:=by kernel_rfl) (hs:Region.noSelect ops=true:=by kernel_rfl):(Code.region id ops true).wp P Q a w:=by
 refine wp_region_any hm (Rh _ _ _ _ (h ⟨hs,mv,λj oj _ hl=>?_⟩ (.inr hF)));have:=getD_replicate_false ops.size j;rw[this]at hl;cases hl
def PS:(∀(a:Act) (i:Tmp) (v:Value),a.put (some i) v={ a with tmps:=a.tmps.setIfInBounds i v })/\(∀(a:Act) (v:Value),a.put none v=a)/\(∀{α : Type} (l:List α) (i:Nat) (x : α),l.toArray.setIfInBounds i x=(l.set i x).toArray)/\(∀{α : Type} (x y : α) (l:List α),(x::l).set 0 y=y::l)/\(∀{α : Type} (x y : α) (n:Nat) (l:List α),(x::l).set (n+1) y=x::l.set n y)/\(∀{α : Type} (l:List α) (i:Nat) (h:i<l.toArray.size),l.toArray[i]=l[i]'h)/\(∀{α : Type} (x : α) (l:List α) (h:0<(x::l).length),(x::l)[0]'h=x)/\(∀{α : Type} (x : α) (l:List α) (i:Nat) (h:i+1<(x::l).length),(x::l)[i+1]'h=l[i]'(Nat.lt_of_succ_lt_succ h)) :=
 ⟨λ_ _ _=>rfl,λ_ _=>rfl,λ_ _ _=>Aq ..,λ_ _ _=>rfl,λ_ _ _ _=>rfl,λ_ _ _=>rfl,λ_ _ _=>rfl,λ_ _ _ _=>rfl⟩
def GN(_:Nat)(P:Program)(md:Region.Mode)(ops:Array Oper)(Q:Exit->Act->World->Prop)(k:Nat)(F:World->Prop)(fuel:Nat)(L:Array Bool)(a:Act)(w:World):Prop:=GT P md ops Q k F fuel L a w
def GI(n:Nat){a:Act}(h:GN n P md ops Q k F fuel L a w):GT P md ops Q k F fuel L a w:=h
def GS{n:Nat}{b:Oper}{a:Act}(hi:ops[n]?=some b)(v:Value)
  (d:∀w,F w->(execOp a.eval b).run P w=.ok (.value v) w)
  (h:GN (n+1) P md ops Q k F fuel (L.setIfInBounds n true) (a.put b.dst v) w) (e:∀c a w,Q (.panic c) (a.put b.dst v) w->Q (.panic c) a w:=by first|exact λ_ _ _ h=>h|exact λ_ _ _ h=>nomatch h.1) (hb:Mu md ops k L n=true:=by kernel_rfl) (f:Region.wanted b (yielded ops a.tmps)=true:=by rfl):GN n P md ops Q k F (fuel+1) L a w:=Jn hi hb e (.inl ⟨f,d⟩) h
def GV{n:Nat}{b:Oper}{fuel:Nat}{L:Array Bool}{a:Act}{w:World}{v:Value}(hi:ops[n]?=some b)
  (h:GN (n+1) P md ops Q k F fuel (L.setIfInBounds n true) (a.put b.dst v) w) (d:∀w,F w->(execOp a.eval b).run P w=.ok (.value v) w:=by
  intro w L;(try dsimp only at L);(try have L:=L.cells);(try have M:=L.1.cells);(try subst L);(repeat cases ‹_/\_›);go_simp;try with_reducible rfl) (e:∀c a w,Q (.panic c) (a.put b.dst v) w->Q (.panic c) a w:=by first|exact λ_ _ _ h=>h|exact λ_ _ _ h=>nomatch h.1) (hb:Mu md ops k L n=true:=by kernel_rfl) (f:Region.wanted b (yielded ops a.tmps)=true:=by rfl):GN n P md ops Q k F (fuel+1) L a w:=GS hi v d h e hb f
def GU{n:Nat}{b:Oper}{a:Act}(hi:ops[n]?=some b)
  (hQ:∀c a w,Q (.panic c) (a.put b.dst undef) w->Q (.panic c) a w)
  (h:GN (n+1) P md ops Q k F fuel (L.setIfInBounds n true) (a.put b.dst undef) w) (hb:Mu md ops k L n=true:=by kernel_rfl) (hw:Region.wanted b (yielded ops a.tmps)=false:=by rfl):GN n P md ops Q k F (fuel+1) L a w:=Jn hi hb hQ (.inr ⟨hw,rfl⟩) h
end
end
end Go.Proofs.YtddfdpbaiedcjaaGreatDoor
