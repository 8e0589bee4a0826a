/- Streamed. Part 1 of 17. -/
import Derived.StillTail
import Derived.Deep.RegionHeld
import Derived.Laws.Bits64
set_option maxRecDepth 100000
set_option maxHeartbeats 16000000
set_option linter.all false
namespace Go.Proofs.YtddfdpbaiedcjabGreatDoor
section
open Go
abbrev rU:=_root_.Go.Value
abbrev rT:=_root_.Go.World
def AA(p:Prop):Prop:=p
def AA.z{p:Prop}(h:AA p):p:=h
def AE(p:Prop):Prop:=p
def AE.z{p:Prop}(h:AE p):p:=h
def AF:=@List.length_append
def AG:=@List.getElem?_eq_getElem
def AH:=@if_neg
def AI:=@Nat.le_refl
def AJ:=@Array.getElem?_eq_some_iff
def AK:=@Nat.zero_le
def AL:=@if_pos
def AM:=@beq_eq_false_iff_ne
def AN:=@Nat.mul_comm
def AO:=@List.getElem?_eq_some_iff
def AQ:=@List.getD_eq_getElem?_getD
def AR:=@Nat.le_trans
def AS:=@List.take_of_length_le
def AU:=@List.length_take
def AV:=@Bool.and_eq_true
def AW:=@decide_eq_true_eq
def AX:=@Option.bind_some
def AZ:=@List.mem_of_getElem?
def Aa:=@List.length_cons
def Ab:=@List.setIfInBounds_toArray
def Ac:=@List.getElem?_append_right
def Ad:=@List.getElem?_map
def Ae:=@not_false_eq_true
def Af:=@List.length_drop
def Ag:=@List.getElem?_append_left
def Ah:=@decide_eq_true
def Ai:=@List.take_add_one
def Aj:=@List.eq_nil_of_length_eq_zero
def Ak:=@List.length_singleton
def Al:=@Nat.not_lt_zero
def Am:=@Int.toNat_natCast
def An:=@Nat.zero_add
def Ao:=@Option.bind_eq_some_iff
def Ap:=@List.mem_append
def Aq:=@if_true
def Ar:=@Nat.le_succ
def As:=@List.mem_singleton
def Au:=@Nat.lt_of_lt_of_le
def Av:=@not_true_eq_false
def Aw:=@List.length_nil
def Ax:=@congrArg
def Ay:=@List.length_replicate
def Az:=@List.length_map
def A8:=@decide_eq_false
def A9:=@List.map_append
def BA:=@List.mem_cons_of_mem
def BB:=@List.mem_cons_self
def BC:=@List.append_assoc
def BE:=@if_false
def BF:=@List.getElem?_toArray
def BG:=@List.take_append_of_le_length
def BH:=@UInt8.toNat_ofNat'
def BI:=@List.take_left
def BJ:=@List.getElem?_eq_none
def BK:=@List.range_succ
def BL:=@List.length_set
def BM:=@List.getElem?_drop
def BN:=@Array.getElem?_setIfInBounds
def BO:=@List.map_cons
def BP:=@Option.map_some
def BQ:=@Option.some.injEq
def BS:=@List.size_toArray
def BT:=@Bool.false_eq_true
def BU:=@Nat.min_eq_left
def BV:=@List.nil_append
def BW:=@decide_eq_false_iff_not
def BX:=@List.drop_eq_nil_of_le
def BY:=@List.take_take
def BZ:=@List.take_append_drop
def Ba:=@Array.getElem?_toList
def Bb:=@Nat.add_zero
def Bc:=@Option.some.inj
def Be:=@List.mem_cons
def Bf:=@List.length_filter_le
def Bg:=@Prod.mk.injEq
def Bh:=@List.mem_filter
def Bi:=@List.any_eq_true
def Bj:=@BitVec.ofInt_natCast
def Bk:=@List.set_append_right
def Bl:=@Nat.le_of_not_lt
def Bm:=@BitVec.toNat_ofNat
def Bn:=@List.mem_of_mem_take
def Bo:=@Nat.lt_trichotomy
def Bp:=@List.length_range
def Bq:=@Nat.min_le_left
def Br:=@Bool.or_eq_true
def Bs:=@Nat.mul_le_mul_left
def Bt:=@List.take_succ_cons
def Bu:=@List.length_pos_iff
def Bv:=@List.flatMap_append
def Bw:=@Array.length_toList
def Bx:=@Nat.mod_eq_of_lt
def By:=@List.all_eq_true
def Bz:=@Nat.add_sub_cancel
def B0:=@List.take_zero
def B2:=@List.getElem?_take
def B3:=@List.filter_append
def B4:=@Array.getElem?_modify
def B5:=@List.drop_eq_getElem_cons
def B6:=@Nat.zero_mul
def B7:=@Nat.mul_le_mul_right
def B8:=@List.map_nil
def B9:=@List.getElem?_take_of_lt
def CA:=@Nat.le_add_right
def CB:=@Nat.add_sub_cancel_left
def CC:=@Option.map_eq_some_iff
def CD:=@Nat.le_of_eq
def CE:=@List.set_cons_succ
def CF:=@Array.getElem?_eq_none
def CH:=@Bool.true_and
def CI:=@of_decide_eq_true
def CJ:=@List.mem_range
def CK:=@List.drop_drop
def CM:=@Nat.min_self
def CN:=@Array.getElem?_eq_getElem
def CO:=@Nat.xor_lt_two_pow
def CP:=@Array.ext_getElem?
def CQ:=@List.flatMap_cons
def CR:=@List.drop_zero
def CT:=@Array.getElem?_setIfInBounds_ne
def CU:=@Option.bind_none
def CW:=@List.not_mem_nil
def CY:=@List.drop_append
def CZ:=@List.set_append_left
def Ca:=@List.replicate_succ'
def Cb:=@List.mem_of_mem_drop
def Cc:=@List.mem_iff_getElem
def Cd:=@UInt8.toNat_inj
def Ce:=@Nat.le_max_left
def Cf:=@List.length_zip
def Cg:=@Array.toList_append
def Ch:=@beq_iff_eq
def Ci:=@List.drop_take
def Cj:=@List.foldl_append
def Ck:=@List.any_eq_false
def Cl:=@Bool.not_eq_true'
def Cm:=@Array.size_append
def Cn:=@List.take_set
def Co:=@Array.size_setIfInBounds
def Cp:=@List.map_fst_zip
def Cq:=@List.getElem_mem
def Cr:=@List.getElem?_cons_succ
def Cs:=@Nat.sub_self
def Ct:=@List.mem_map
def Cu:=@List.map_map
def Cv:=@Bool.eq_iff_iff
def Cw:=@Array.getElem?_setIfInBounds_self_of_lt
def Cx:=@Nat.mul_one
def Cy:=@Nat.add_mul
def Cz:=@List.getElem?_of_mem
def C4:=@Bool.or_eq_false_iff
def C6:=@List.toList_toArray
def C7:=@List.filter_eq_self
def C8:=@Nat.eq_zero_or_pos
def U(b o:Nat):=(b,o)
instance(b o:Nat):CoeDep (Nat×Nat) (U b o) Addr:=⟨⟨b,o,none⟩⟩
instance(b o:Nat):CoeDep (Nat×Nat) (U b o) (Option Addr):=⟨some ⟨b,o,none⟩⟩
instance:Coe Nat Addr:=⟨λb=>⟨b,0,none⟩⟩
instance(b o:Nat):CoeDep (Nat×Nat) (b,o) Addr:=⟨⟨b,o,none⟩⟩
instance(b o:Nat):CoeDep (Nat×Nat) (b,o) (Option Addr):=⟨some ⟨b,o,none⟩⟩
def I{p:Prop}(h:p:=by omega):p:=h
def kw{p:Prop}(h:p:=by kernel_rfl):p:=h
def lc{p:Prop}(h:p:=by decide):p:=h
def nl{p:Prop}(h:p:=by simp):p:=h
def ol{p:Prop}(h:p:=by simp;omega):p:=h
def pi{p:Prop}(h:p:=by unfold maxLen;omega):p:=h
def pm{p:Prop}(h:p:=by trivial):p:=h
def pp{p:Prop}(h:p:=by decide +kernel):p:=h
def pu{p:Prop}(h:p:=by intro x;cases x):p:=h
def qm{p q:Prop}(h:p)(e:p->q:=by omega):q:=e h
def qn{p r q:Prop}(h:p)(i:r)(e:p->r->q:=by omega):q:=e h i
def qo{p r s q:Prop}(h:p)(i:r)(j:s)(e:p->r->s->q:=by omega):q:=e h i j
def qp{p q:Prop}(h:p)(e:p->q:=by intro h;simpa using h):q:=e h
instance:Coe Nat rU:=⟨λn=>.int .u64 n⟩
instance:Coe Int rU:=⟨λn=>.int .u64 n⟩
instance:Coe Bool rU:=⟨λn=>.bool n⟩
instance(n:Nat):CoeDep (List Nat) [n] rU:=⟨.int .i64 n⟩
instance(n:Int):CoeDep (List Int) [n] rU:=⟨.int .i64 n⟩
instance(b o:Nat):CoeDep (Nat×Nat) (b,o) rU:=⟨.pointer (some ⟨b,o,none⟩)⟩
abbrev qq:=List UInt8
abbrev qr:=Nat->Nat×Nat
abbrev qs:=Option Addr
abbrev qt:=List rU
def rG{p:Prop}(h:p:=by simp[intOf];omega):p:=h
instance:CoeFun rT (λ_=>Addr->Option rU):=⟨World.cell?⟩
def rJ{α β:Sort _}{x:α}{y:β}{p q:Prop}(h:p:=by omega):(x=x/\y=y/\p)\/q:=.inl ⟨rfl,rfl,h⟩
def rK{α β:Sort _}{x:α}{y:β}{p:Prop}(h:p:=by omega):x=x/\y=y/\p:=⟨rfl,rfl,h⟩
def rL{α β γ:Sort _}{x:α}{y:β}{z:γ}{p q r:Prop}(h:p:=by omega)(i:q:=by omega):(x=x/\y=y/\z=z/\p/\q)\/r:=.inl ⟨rfl,rfl,rfl,h,i⟩
def rM{α β:Sort _}{x:α}{y:β}:x=x/\y=y:=⟨rfl,rfl⟩
def rN{α β γ:Sort _}{x:α}{y:β}{z:γ}:x=x/\y=y/\z=z:=⟨rfl,rfl,rfl⟩
def rO{α:Sort _}{x:α}{p:Prop}:x=x\/p:=.inl rfl
def rP{p:Prop}(h:p):p:=h
def rQ{α:Sort _}{p:α->Prop}(x:α)(h:False):p x:=h.elim
def rR{n:Nat}:n<=n:=n.le_refl
instance(w:World)(o:Nat):CoeDep (World×Nat) (w,o) Addr:=⟨⟨w.heap.size,o,none⟩⟩
instance:Coe World Nat:=⟨λw=>w.heap.size⟩
inductive rW|a
abbrev rV:=rW.a
instance:Coe rW Value:=⟨λ_=>.slice none 0 0⟩
def nm {α : Sort _} (e : α) : ∃ x, e = x := ⟨e, rfl⟩
def nn {α : Sort _} (e : α) : ∃ x, x = e := ⟨e, rfl⟩
def wi (x : Int) (h : -9223372036854775808 <= x /\ x <= 9223372036854775807) : IntKind.i64.wrap x = x := by rw [IntKind.wrap_i64]; omega
def wu (x : Int) (h : 0 <= x /\ x <= 18446744073709551615) : IntKind.u64.wrap x = x := by rw [IntKind.wrap_u64]; omega
section
variable {P:Program} {ops:Array Oper} {Q:Exit->Act->rT->Prop} {md:Region.Mode} {F:rT->Prop} {k:Nat}
def ST(k:Nat)(F:rT->Prop)(L:Array Bool)(w:rT):Prop:=L.getD k false=true\/F w
def Md(P:Program)(md:Region.Mode)(ops:Array Oper)(Q:Exit->Act->rT->Prop)(k:Nat)(F:rT->Prop):Nat->Array Bool->Act->rT->Prop
 | 0,L,a,w=>Region.ready md ops L=[]/\Q .normal a w
 | fuel+1,L,a,w =>
  (Region.ready md ops L=[]->Q .normal a w) /\
  ∀i∈Region.ready md ops L,wpOp P ops Q i (λe w'=>ST k F (L.setIfInBounds i true) w'/\Md P md ops Q k F fuel (L.setIfInBounds i true) e w') a w
theorem QZ:∀(fuel:Nat) (L:Array Bool) (a:Act) (w:rT),Md P md ops Q k F fuel L a w->wpAny P md ops Q fuel L a w
 | 0,_,_,_,h=>h
 | fuel+1,_,_,_,h=>⟨h.1,λi a=>wpOp_mono (λe w' g=>QZ fuel _ e w' g.2)<|h.2 i a⟩
structure Jp(md:Region.Mode)(ops:Array Oper)(L:Array Bool):Prop where
 pP:Region.noSelect ops=true
 size:L.size=ops.size
 qP:∀j oj,ops[j]?=some oj->L.getD j false=true->∀e∈oj.after,Region.binds md e=true->L.getD e.on false=true
variable{L:Array Bool}{i:Nat}
def jr(h:L.getD i true=false):L.getD i false=false:=by
 rcases Nat.lt_or_ge i L.size with a|a
 .simp[a]at h ⊢;exact h
 simp[CF a]at h
def Jp.set(c:Jp md ops L)(hi:i∈Region.ready md ops L):Jp md ops (L.setIfInBounds i true):=by
 obtain⟨_,y,h,a⟩:=mem_ready.1 hi;refine⟨c.pP,by simp[c.size],λj u m n e q hb=>?_⟩;by_cases g:i=j
 .subst g;have:=Bc<|m.symm.trans h;subst this;exact getD_set_true<|a e q hb
 rw[getD_set_ne false g]at n;exact getD_set_true<|c.qP j u m n e q hb
def Lg(md:Region.Mode)(ops:Array Oper)(i:Nat):Nat->Nat->Bool
 | 0,k=>k==i
 | f+1,k=>k==i||match ops[k]? with
  | some o=>o.after.any λe=>Region.binds md e&&Lg md ops i f e.on
  | none=>true
theorem Un(c:Jp md ops L):∀(f k:Nat),Lg md ops i f k=true->L.getD k false=true->L.getD i false=true
 | 0,k,h,hk=>by
  simp[Lg]at h;exact h ▸ hk
 | f+1,k,h,hk=>by
  simp only[Lg,Br,Ch]at h;rcases h with h|h
  .exact h ▸ hk
  cases ho:ops[k]? with
  | none =>
   have a:¬k<L.size:=by
    rw[c.size];intro a;simp[a]at ho
   simp[CF (Bl a)]at hk
  | some o =>
   rw[ho]at h;obtain⟨e,a,hb⟩:=Array.any_eq_true'.1 h;simp only[AV]at hb;exact Un c f e.on hb.2<|c.qP k o ho hk e a hb.1
variable{v:rU}
theorem jP{B:Oper}{f0:Nat}(hi:ops[i]?=some B)(z:∀(j:Nat) (o:Oper) cs b,ops[j]?=some o->o.op≠.select cs b)
  (Z:∀c a w,Q (.panic c) (a.put B.dst v) w->Q (.panic c) a w) (X:Lg md ops i f0 k=true) (Y:i≠k) :
  ∀(fuel:Nat) (L:Array Bool) (a:Act) (w:rT),Jp md ops L ->
   (∀j C,ops[j]?=some C->j≠i->L.getD j true=false->(∀e∈C.after,Region.binds md e=true->e.on≠i)->B.apart ops C=true) ->
   i∈Region.ready md ops L->YieldsIf P ops F B v a->ST k F L w ->
   Md P md ops Q k F fuel (L.setIfInBounds i true) (a.put B.dst v) w->Md P md ops Q k F (fuel+1) L a w:=by
 have E:∀L:Array Bool,i∈Region.ready md ops L->L.getD i false=false:=λL h=>jr (mem_ready.1 h).1
 have u:∀(L:Array Bool) (w:rT),Jp md ops L->i∈Region.ready md ops L->ST k F L w->F w:=λL w c m n=>by
  rcases n with n|n
  .have:=Un c f0 k X n;rw[E L m]at this;cases this
  exact n
 intro fuel
 induction fuel with
 | zero =>
  intro L a w c _ m O n H;refine⟨λh=>(by rw[h]at m;cases m),λj G=>?_⟩;by_cases g:j=i
  .subst g;exact O.wpOp hi (u L w c m n) ⟨.inr<|u L w c m n,H⟩
  have:=ready_mono G g;rw[H.1]at this;cases this
 | succ fuel ih =>
  intro L a w c q m O n H;refine⟨λh=>(by rw[h]at m;cases m),λj G=>?_⟩;by_cases g:j=i
  .subst g;exact O.wpOp hi (u L w c m n) ⟨.inr<|u L w c m n,H⟩
  have R:=H.2 j<|ready_mono G g;obtain⟨A,C,D,a⟩:=mem_ready.1 G;have K:∀e∈C.after,Region.binds md e=true->e.on≠i:=λe u hb n=>by
   have R:=a e u hb;rw[n,E L m]at R;cases R
  have h2:=wpOp_putIf D (q j C D g A K) (λcs b=>z i B cs b hi) (λcs b=>z j C cs b D) Z O R;have y:∀k ok,ops[k]?=some ok->k≠i->(L.setIfInBounds j true).getD k true=false ->
    (∀e∈ok.after,Region.binds md e=true->e.on≠i)->B.apart ops ok=true:=λk ok X a M e=>by
   refine q k ok X a ?_ e;by_cases N:j=k
   .subst N;exact A
   rw[getD_set_ne true N]at M;exact M
  have n:=ready_mono m<|Ne.symm g;have a:∀w',ST k F ((L.setIfInBounds i true).setIfInBounds j true) w'->ST k F (L.setIfInBounds j true) w':=λw' e=>by
   rcases e with h|h
   .refine .inl ?_;rw[Array.setIfInBounds_comm _ _ (Ne.symm g),getD_set_ne false Y]at h;exact h
   exact .inr h
  refine wpOp_mono (λh w' e=>⟨a w' e.2.1,ih (L.setIfInBounds j true) h w' (c.set G) y n e.1 (a w' e.2.1) ?_⟩) h2;rw[Array.setIfInBounds_comm _ _ g];exact e.2.2
def GT(P:Program)(md:Region.Mode)(ops:Array Oper)(Q:Exit->Act->rT->Prop)(k:Nat)(F:rT->Prop)(fuel:Nat)(L:Array Bool)(a:Act)(w:rT):Prop :=
 Jp md ops L->ST k F L w->Md P md ops Q k F fuel L a w
def MP(md:Region.Mode)(ops:Array Oper)(k:Nat)(L:Array Bool)(i:Nat):Bool :=
 Region.free md ops L i&&(Region.ready md ops L).contains i&&Lg md ops i ops.size k && !(i==k)
variable{fuel:Nat}{w:rT}
def Gl{e:Oper}{a:Act}(hi:ops[i]?=some e)(hb:MP md ops k L i=true)
  (n:∀c a w,Q (.panic c) (a.put e.dst v) w->Q (.panic c) a w) (q:YieldsIf P ops F e v a)
  (h:GT P md ops Q k F fuel (L.setIfInBounds i true) (a.put e.dst v) w):GT P md ops Q k F (fuel+1) L a w:=λc e=>by
 simp only[MP,AV,Cl]at hb;obtain⟨⟨⟨u,y⟩,z⟩,m⟩:=hb;have g:i≠k:=qp m;have m:i∈Region.ready md ops L:=qp y;refine jP hi (Region.noSelect_spec c.pP) n z g fuel L a w c (Region.free_spec hi u) m q e<|h (c.set m) ?_;rcases e with e|e
 .exact .inl (getD_set_true e)
 exact .inr e
def zD(i:Nat){o:Oper}{a:Act}(n:ops[i]?=some o)
  (h:∀K':Act->rT->Prop,AE (∀a w,F w->GT P md ops Q k F fuel (L.setIfInBounds i true) a w->K' a w)->if Region.wanted o (yielded ops a.tmps)=true then Oper.wp P o a w K' Q else K' (a.put o.dst undef) w) (g:Region.ready md ops L=[i]:=by kernel_rfl) :
  GT P md ops Q k F (fuel+1) L a w:=λc _=>by
 refine⟨λm=>(by rw[g]at m;cases m),λj e=>?_⟩;have q:=c.set e;rw[g,As]at e;subst e;exact wpOp_step n<|λK' g=>h K'<|λa w e h=>g a w ⟨.inr e,h q<|.inr e⟩
def Dt{o:Oper}{a:Act}(g:ops[k]?=some o)
  (h:∀K':Act->rT->Prop,AE (∀a w,GT P md ops Q k F fuel (L.setIfInBounds k true) a w->K' a w)->if Region.wanted o (yielded ops a.tmps)=true then Oper.wp P o a w K' Q else K' (a.put o.dst undef) w) (m:Region.ready md ops L=[k]:=by kernel_rfl) :
  GT P md ops Q k F (fuel+1) L a w:=λc _=>by
 refine⟨λn=>(by rw[m]at n;cases n),λj e=>?_⟩;have q:=c.set e;rw[m,As]at e;subst e;have e:j<L.size:=by
  rw[c.size];exact(AJ.1 g).1
 have m:(L.setIfInBounds j true).getD j false=true:=by simp[e]
 exact wpOp_step g<|λK' e=>h K'<|λa w g=>e a w ⟨.inl m,g q<|.inl m⟩
theorem zt{a:Act}(h:Q .normal a w)(e:Region.ready md ops L=[]:=by kernel_rfl):GT P md ops Q k F fuel L a w:=λ_ _=>by
 cases fuel with
 | zero=>exact⟨e,h⟩
 | succ n=>exact⟨λ_=>h,by rw[e];simp⟩
def zr{id:Nat}{a:Act}(k:Nat)(F:rT->Prop)(g:F w.drew)
  (h:GT P .any ops Q k F ops.size (Array.replicate ops.size false) a w.drew) (m:P.follows .mixedOrders=true:=by kernel_rfl) (n:Region.noSelect ops=true:=by kernel_rfl):(Code.region id ops true).wp P Q a w:=by
 refine wp_region_any m<|QZ _ _ _ _<|h ⟨n,nl,λj a _ e=>?_⟩<|.inr g;have:=getD_replicate_false ops.size j;rw[this]at e;cases e
def PS:(∀(a:Act) (i:Tmp) (v:rU),a.put (some i) v={ a with tmps:=a.tmps.setIfInBounds i v })/\(∀(a:Act) (v:rU),a.put none v=a)/\(∀{α : Type} (l:List α) (i:Nat) (x : α),l.toArray.setIfInBounds i x=(l.set i x).toArray)/\(∀{α : Type} (x y : α) (l:List α),(x::l).set 0 y=y::l)/\(∀{α : Type} (x y : α) (n:Nat) (l:List α),(x::l).set (n+1) y=x::l.set n y)/\(∀{α : Type} (l:List α) (i:Nat) (h:i<l.toArray.size),l.toArray[i]=l[i]'h)/\(∀{α : Type} (x : α) (l:List α) (h:0<(x::l).length),(x::l)[0]'h=x)/\(∀{α : Type} (x : α) (l:List α) (i:Nat) (h:i+1<(x::l).length),(x::l)[i+1]'h=l[i]'(Nat.lt_of_succ_lt_succ h)) :=
 ⟨λ_ _ _=>rfl,λ_ _=>rfl,λ_ _ _=>Ab ..,λ_ _ _=>rfl,λ_ _ _ _=>rfl,λ_ _ _=>rfl,λ_ _ _=>rfl,λ_ _ _ _=>rfl⟩
def GN(_:Nat)(P:Program)(md:Region.Mode)(ops:Array Oper)(Q:Exit->Act->rT->Prop)(k:Nat)(F:rT->Prop)(fuel:Nat)(L:Array Bool)(a:Act)(w:rT):Prop:=GT P md ops Q k F fuel L a w
def GI(n:Nat){a:Act}(h:GN n P md ops Q k F fuel L a w):GT P md ops Q k F fuel L a w:=h
variable{n:Nat}
def GS{e:Oper}{a:Act}(hi:ops[n]?=some e)(v:rU)
  (g:∀w,F w->(execOp a.eval e).run P w=.ok (.value v) w)
  (h:GN (n+1) P md ops Q k F fuel (L.setIfInBounds n true) (a.put e.dst v) w) (m:∀c a w,Q (.panic c) (a.put e.dst v) w->Q (.panic c) a w:=by first|exact λ_ _ _ h=>h|exact λ_ _ _ h=>(by cases h.1)) (hb:MP md ops k L n=true:=by kernel_rfl) (q:Region.wanted e (yielded ops a.tmps)=true:=by rfl):GN n P md ops Q k F (fuel+1) L a w:=Gl hi hb m (.inl ⟨q,g⟩) h
def GV{n:Nat}{e:Oper}{fuel:Nat}{L:Array Bool}{a:Act}{w:rT}{v:rU}(hi:ops[n]?=some e)
  (h:GN (n+1) P md ops Q k F fuel (L.setIfInBounds n true) (a.put e.dst v) w) (g:∀w,F w->(execOp a.eval e).run P w=.ok (.value v) w:=by
  intro w L;(try dsimp only at L);(try have L:=L.cells);(try have M:=L.1.cells);(try subst L);(repeat cases ‹_/\_›);go_simp;try with_reducible rfl) (m:∀c a w,Q (.panic c) (a.put e.dst v) w->Q (.panic c) a w:=by first|exact λ_ _ _ h=>h|exact λ_ _ _ h=>(by cases h.1)) (hb:MP md ops k L n=true:=by kernel_rfl) (q:Region.wanted e (yielded ops a.tmps)=true:=by rfl):GN n P md ops Q k F (fuel+1) L a w:=GS hi v g h m hb q
def GU{e:Oper}{a:Act}(hi:ops[n]?=some e)
  (g:∀c a w,Q (.panic c) (a.put e.dst undef) w->Q (.panic c) a w)
  (h:GN (n+1) P md ops Q k F fuel (L.setIfInBounds n true) (a.put e.dst undef) w) (hb:MP md ops k L n=true:=by kernel_rfl) (m:Region.wanted e (yielded ops a.tmps)=false:=by rfl):GN n P md ops Q k F (fuel+1) L a w:=Gl hi hb g (.inr ⟨m,rfl⟩) h
end
end
end Go.Proofs.YtddfdpbaiedcjabGreatDoor
