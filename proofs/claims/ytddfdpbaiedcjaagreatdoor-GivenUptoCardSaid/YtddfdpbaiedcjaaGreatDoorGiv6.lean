/- A part of Given's proof. Conditions: none. Part 6 of 15. -/
import Derived.Test.YtddfdpbaiedcjaaGreatDoorGiv5
import Derived.Lib.LaidTab
import Derived.Deep.DeepHandedRow
import Derived.SevenTiedAt
set_option maxRecDepth 100000
set_option maxHeartbeats 16000000
set_option linter.all false
namespace Go.Proofs.YtddfdpbaiedcjaaGreatDoor
section
open Go.RowKit Go.Proofs.Tryz
def DR(c:Int)(n:Nat):Nat:=((if c<0 then -(c+1)else c) % (n:Int)).toNat
def zU(c:Int)(n:Nat)(h:0<n):DR c n<n:=by
 unfold DR;have a:=Int.emod_lt_of_pos (if c<0 then -(c+1)else c) (I:(0:Int)<n);have a:=Int.emod_nonneg (if c<0 then -(c+1)else c) (I:(n:Int)≠0);omega
def H4(c:Int)(n:Nat)(w:rq)(d : -9223372036854775808<=c)(e:c<=9223372036854775807)(f:0<n)(a:n<=9223372036854775807):rT 24 #[[c],[n]] w λe w'=>e=.returned (.int .i64 (DR c n:Int))/\w=w':=by
 have a:∀x:Int,(if c<0 then -(c+1)else c)=x->0<=x->x % (n:Int)=(DR c n:Int):=by
  intro x d _;unfold DR;rw[d];have:=Int.emod_nonneg x (I:(n:Int)≠0);omega
 have d:(1:Int)<=n:=I;by_cases d:c<0
 .have H:=zb (a (-(c+1)) (by rw[AM d]) I);have E:AA (-((c+1).tmod (n:Int))=(-(c+1)) % (n:Int)):=by
   show _=_;rw[<-Int.neg_tmod,Int.tmod_eq_emod_of_nonneg I]
  clear a;go_enter func24,ntmps24;go_wp2_with fail;go_ret;exact⟨by rw[<-H.z,<-E.z];rfl,rfl⟩
 have H:=zb (a c (by rw[AH d]) I);clear a;go_enter func24,ntmps24;go_wp2_with fail;go_ret;exact⟨by rw[<-H.z];rfl,rfl⟩
def O4(n lo hi:Int)(w:rq):rT 123 #[[n],[lo],[hi]] w λe w'=>e=.returned (.bool (decide (lo<=n)&&decide (n<=hi)))/\w=w':=by
 by_cases a:lo<=n
 .by_cases c:n<=hi
  .have d:decide (lo<=n)=true:=by simp[a]
   have e:decide (n<=hi)=true:=by simp[c]
   go_enter func123,ntmps123;go_wp2_with fail;go_ret;exact⟨by simp[a,c],rfl⟩
  have d:decide (lo<=n)=true:=by simp[a]
  have e:decide (n<=hi)=false:=ls;go_enter func123,ntmps123;go_wp2_with fail;go_ret;exact⟨by simp[a,c],rfl⟩
 have d:decide (lo<=n)=false:=ls;go_enter func123,ntmps123;go_wp2_with fail;go_ret;exact⟨by simp[a],rfl⟩
section
variable {P:Program} {ops:Array Oper} {Q:Exit->Act->rq->Prop} {md:Region.Mode} {F:rq->Prop} {k:Nat}
variable{L:Array Bool}{fuel i j:Nat}{w:rq}
def Lr{o f:Oper}{a:Act}(v:ops[i]?=some o)(l:ops[j]?=some f)(t:Region.ready md ops L=[i,j])
  (h:∀K':Act->rq->Prop,AE (∀a w,F w->GT P md ops Q k F fuel (L.setIfInBounds i true) a w->K' a w)->if Region.wanted o (yielded ops a.tmps)=true then Oper.wp P o a w K' Q else K' (a.put o.dst undef) w)
  (z:∀K':Act->rq->Prop,AE (∀a w,F w->GT P md ops Q k F fuel (L.setIfInBounds j true) a w->K' a w)->if Region.wanted f (yielded ops a.tmps)=true then Oper.wp P f a w K' Q else K' (a.put f.dst undef) w) :
  GT P md ops Q k F (fuel+1) L a w:=λc _=>by
 refine⟨λq=>(by rw[t]at q;cases q),λq d=>?_⟩;have u:=c.set d;rw[t]at d;simp only[Ay,CZ,or_false]at d;rcases d with d|d
 .subst d;exact wpOp_step v<|λK' p=>h K'<|λa w e s=>p a w ⟨.inr e,s u<|.inr e⟩
 subst d;exact wpOp_step l<|λK' p=>z K'<|λa w e s=>p a w ⟨.inr e,s u<|.inr e⟩
end
def WG(W:rq)(o:Obj):(W.alloc o).heap[W.heap.size]?=some o:=by
 show(W.heap.push o)[W.heap.size]?=some o;simp
structure M9(W1:rq)(g m:Nat)(W3:rq):Prop where
 ne:g≠m
 g1:W1.heap.size<=g
 m1:W1.heap.size<=m
 sz:W3.heap.size=W1.heap.size+2
 set:W3.heap[g]?=some (.cells #[ru,.int .u64 0,.int .i64 8] 116 (0,0))
 map:W3.heap[m]?=some (.map #[] 0)
 mod:DO DQ W1 W3
def Rz(W1:rq):M9 W1 W1.heap.size (W1.heap.size+1) ((W1.drew.alloc (.cells #[ru,.int .u64 0,.int .i64 (max 8 1)] 116)).alloc (.map #[] 0)):=by
 have e:(W1.drew.alloc<|.cells #[ru,.int .u64 0,.int .i64 (max 8 1)] 116).heap.size=W1.heap.size+1:=lm;refine⟨I,AF _,Bv _,lm,?_,?_,((DO.refl DQ W1).drew.alloc _).alloc _⟩
 .exact((DO.refl DQ _).alloc _).obj rk (heap_alloc_new W1.drew _)
 rw[<-e];exact WG _ _
def Ry(W1:rq):M9 W1 (W1.heap.size+1) W1.heap.size ((W1.drew.alloc (.map #[] 0)).alloc (.cells #[ru,.int .u64 0,.int .i64 (max 8 1)] 116)):=by
 have e:(W1.drew.alloc<|.map #[] 0).heap.size=W1.heap.size+1:=lm;refine⟨I,Bv _,AF _,lm,?_,?_,((DO.refl DQ W1).drew.alloc _).alloc _⟩
 .rw[<-e];exact heap_alloc_new _ _
 exact((DO.refl DQ _).alloc _).obj rk (WG W1.drew _)
def WS.zero:WS:=⟨[],⟨[],0,0⟩,⟨[],0,0⟩,0,false,false,false,0,0,false,0⟩
def RS.zero:RS:=⟨[],⟨[],0,0⟩,0,0,false,false,0,0,0,0,false⟩
def WS.new(a:Nat):WS:=⟨[],⟨[],0,2048⟩,⟨[],0,2048⟩,0,false,false,false,0,0,false,a⟩
def RS.new(a:Nat):RS:=⟨[],⟨[],0,4097⟩,0,0,false,false,0,0,0,a,false⟩
def CS.laid(lZ lD total k:Nat):CS :=
 {lZ:=lZ,lD:=lD,total:=total,now:=0,closed:=0,said:=false,next:=0,lQ:=⟨[],0,8⟩,answer:=false,ws:=λj=>if j<k then WS.new lD else WS.zero,rs:=λj=>if j<k then RS.new lD else RS.zero,lA:=total,kz:=total,lU:=false,kx:=[],lI:=0,waits:=[],l8:=0,mI:=false,seen:=[],most:=0,lC:=[] }
def CS.new(d a c:Nat):CS:={ CS.laid d a c 0 with ws:=λ_=>WS.new a,rs:=λ_=>RS.new a }
def CV.new(g m:Nat):CV:=⟨g,.slice none 0 0,λ_=>.slice none 0 0,λ_=>.slice none 0 0,λ_=>.slice none 0 0,λ_=>.slice none 0 0,λ_=>.slice none 0 0,.slice none 0 0,[],.slice none 0 0,m,.slice none 0 0⟩
def fL(d a c k g m:Nat)(f:k<8):((((((zx (CS.laid d a c k) (CV.new g m)).set (9+15*k+14) (.int .u64 a)).set (9+15*k+3) (.int .i64 2048)).set (9+15*k+6) (.int .i64 2048)).set (129+13*k+11) (.int .u64 a)).set (129+13*k+3) (.int .i64 4097))=zx (CS.laid d a c (k+1)) (CV.new g m):=by
 have l:=Hl (CS.laid d a c k) { CS.laid d a c k with ws:=ze (CS.laid d a c k).ws k { WS.zero with lA:=a } } (CV.new g m) (CV.new g m) (k:=k) (j:=14) (.int .u64 a) f lc (λq _=>by
  by_cases e:q=k
  .subst e;simp[ze,CS.laid];rfl
  simp[ze,CS.laid,e]) rfl rfl rfl
 rw[l];have o:=Hl { CS.laid d a c k with ws:=ze (CS.laid d a c k).ws k { WS.zero with lA:=a } } { CS.laid d a c k with ws:=ze (CS.laid d a c k).ws k { WS.zero with lA:=a,lJ:=⟨[],0,2048⟩ } } (CV.new g m) (CV.new g m) (k:=k) (j:=3) (.int .i64 2048) f lc (λq _=>by
  by_cases e:q=k
  .subst e;simp[ze];rfl
  simp[ze,e]) rfl rfl rfl
 rw[o];have p:=Hl { CS.laid d a c k with ws:=ze (CS.laid d a c k).ws k { WS.zero with lA:=a,lJ:=⟨[],0,2048⟩ } } { CS.laid d a c k with ws:=ze (CS.laid d a c k).ws k (WS.new a) } (CV.new g m) (CV.new g m) (k:=k) (j:=6) (.int .i64 2048) f lc (λq _=>by
  by_cases e:q=k
  .subst e;simp[ze];rfl
  simp[ze,e]) rfl rfl rfl
 rw[p];have s:=Kx { CS.laid d a c k with ws:=ze (CS.laid d a c k).ws k (WS.new a) } { CS.laid d a c k with ws:=ze (CS.laid d a c k).ws k<|WS.new a,rs:=ze (CS.laid d a c k).rs k { RS.zero with kz:=a } } (CV.new g m) (CV.new g m) (k:=k) (j:=11) (.int .u64 a) f lc (λq _=>by
  by_cases e:q=k
  .subst e;simp[ze,CS.laid];rfl
  simp[ze,CS.laid,e]) rfl rfl rfl
 rw[s];have t:=Kx { CS.laid d a c k with ws:=ze (CS.laid d a c k).ws k<|WS.new a,rs:=ze (CS.laid d a c k).rs k { RS.zero with kz:=a } } (CS.laid d a c<|k+1) (CV.new g m) (CV.new g m) (k:=k) (j:=3) (.int .i64 4097) f lc (λq _=>by
  by_cases e:q=k
  .subst e;simp[ze,CS.laid];rfl
  .by_cases h:q<k
   .simp[ze,CS.laid,e,h,(I:q<k+1)]
   simp[ze,CS.laid,e,h,(I:¬q<k+1)]) rfl (by
  unfold IG;congr 1;funext q;by_cases e:q=k
  .subst e;simp[ze,CS.laid]
  by_cases h:q<k
  .simp[ze,CS.laid,e,h,(I:q<k+1)]
  simp[ze,CS.laid,e,h,(I:¬q<k+1)]) rfl
 rw[t]
def iE(d a c g m:Nat):zx (CS.laid d a c 8) (CV.new g m)=zx (CS.new d a c) (CV.new g m):=rfl
def fK(d c a g m:Nat):(((((((zeroCells127.setIfInBounds 0 (.int .i64 d)).setIfInBounds 1 (.int .i64 c)).setIfInBounds 2 (.int .i64 a)).setIfInBounds 7 (.pointer g)).setIfInBounds 233 (.int .u64 a)).setIfInBounds 234 (.int .u64 a)).setIfInBounds 241 (.map (some m)))=(zx (CS.laid d c a 0) (CV.new g m)).toArray:=by rfl
def KJ(tag:rD)(i d a c:Nat)(w:rq)(e:Ending)(W':rq):Prop :=
 ∃b ky V,e=.returned (.tuple #[.pointer (some ⟨b,0,none⟩),.nilIface])/\zi ky i b (CS.new d a c) V W'/\Di i tag ky w W'/\DO DQ w W'/\w.heap.size<=b
variable{w:rq}
def LM(tag:rD)(i:Nat)(s:Dm tag w)(hi:0<i)(e a c:Nat)(W1 f h wr:rq)(g m b:Nat)(m1:DO DQ w W1)(p:W1.heap.size=w.heap.size+1)(d:M9 W1 g m f)(hb:f.heap.size=b)(l:DO DQ f h)(o:DO (λq=>q=b) h wr)
  (p:wr.heap[b]?=some (.cells (zx (CS.laid e a c 8)<|CV.new g m).toArray 127 (0,0))) :
  KJ tag i e a c w (.returned<|.tuple #[(b,0),.nilIface]) wr:=by
 have a:g<b:=by
  rw[<-hb];exact(AI.1 d.set).1
 have c:m<b:=by
  rw[<-hb];exact(AI.1 d.map).1
 have c:=d.g1;have c:=d.m1;have c:=d.ne;have c:=o.obj (I:¬g=b)<|l.obj rk d.set;have h:=o.obj (I:¬m=b)<|l.obj rk d.map;have e:=(AI.1 p).1;have e:∀g,(Value.slice none 0 0).ownBlock=some g->False:=λg a=>by simp[Value.ownBlock]at a
 have nb:∀g,Value.mu (Value.slice none 0 0)=some g->False:=λg a=>by simp[Value.mu]at a
 have s:∀q,q<w.heap.size->∀t:Nat×Nat,(if q<w.heap.size then tag q else t)=tag q:=λq f t=>AM f
 refine⟨b,λq=>if q<w.heap.size then tag q else if q=b then(i,1)else if q=g then(i,2)else if q=m then(i,7)else(0,0),CV.new g m,rfl,?_,⟨λq f=>s q f _,λq f=>?_,λq f=>?_⟩,(m1.trans<|d.mod.trans l).then o<|λq f=>.inr I,I⟩
 .exact
   {obj:=by rw[p,iE]
    tb:=by simp only[(I:¬b<w.heap.size),AH,Av,A9]
    lQ:=⟨za c rfl,za c rfl,za c rfl,World.ownsRow_nil wr 0 _ 2,by simp[CS.new,CS.laid],λj=>zg c⟩
    tg:=by simp only[CV.new,(I:¬g<w.heap.size),(I:¬g=b),AH,Av,A9]
    oN:=λ_ a=>(e _ a).elim
    wb:=λ_ _=>OB.nil wr
    ws:=λ_ _=>World.ownsRow_nil wr 0 _ 2
    wc:=λ_ _=>World.ownsRow_nil wr 0 _ 2
    rb:=λ_ _=>OB.nil wr
    rc:=λ_ _=>World.ownsRow_nil wr 0 _ 2
    oC:=λ_ _ _ a=>(e _ a).elim
    ng:=λ_ _ _ a=>(e _ a).elim
    oB:=λ_ _ _ a=>(e _ a).elim
    oM:=λ_ _ _ a=>(e _ a).elim
    oK:=λ_ _ _ a=>(e _ a).elim
    ft:=World.ownsRow_nil wr 0 _ 3
    fl:=rfl
    fs:=λp c=>by simp[CS.new,CS.laid]at c
    nj:=λ_ a=>(e _ a).elim
    wt:=EK.nil wr _ _
    ni:=λ_ a=>(nb _ a).elim
    sn:=⟨.map [],⟨#[],0,h,⟨lm,Go.MapKept.stamped_empty 0,lm⟩,AF _,rfl⟩,rfl,λ_ _=>rfl⟩
    oJ:=by simp only[CV.new,(I:¬m<w.heap.size),(I:¬m=b),(I:¬m=g),AH,Av,A9]
    cm:=World.ownsRow_nil wr 0 _ 2
    oE:=λ_ a=>(e _ a).elim }
 .simp only[(I:¬q<w.heap.size),AH,Av];split
  .exact .inl rfl
  split
  .exact .inl rfl
  split
  .exact .inl rfl
  exact .inr rfl
 simp only[(pp m1.size:¬q<w.heap.size),(I:¬q=b),(I:¬q=g),(I:¬q=m),AH,Av]
def LL(tag:rD)(i:Nat)(d a c:Nat)(w:rq)(ht:Dm tag w)(hi:0<i)(h1:64<=d/\d<=400)(h2:16<=a/\a<=4096)(h3:16<=c/\c<=4096):rT 68 #[.agg #[.int .i64 d,.int .i64 a,.int .i64 c]] w (KJ tag i d a c w):=by
 have a1:(decide ((64:Int)<=d)&&decide ((d:Int)<=400))=true:=ls;have a2:(decide ((16:Int)<=a)&&decide ((a:Int)<=4096))=true:=ls;have a3:(decide ((16:Int)<=c)&&decide ((c:Int)<=4096))=true:=ls;obtain⟨W1,p⟩:=nm<|w.alloc<|.cells #[[d],[a],[c]] 45;have m1:=AB p;have t:=AD p;have A:=AC p;have HF:AA (W1.drew w=some (.int .i64 d)/\W1.drew (w,1)=some (.int .i64 a)/\W1.drew (w,2)=some (.int .i64 c)):=⟨za t rfl,za t rfl,za t rfl⟩;have l:AA (∀X,DO DQ W1 X->X.cell? w=some (.int .i64 d)/\X.cell? (w.heap.size,1)=some (.int .i64 a)/\X.cell? (w.heap.size,2)=some (.int .i64 c)):=zb<|λX m=>⟨za (m.obj rk t) rfl,za (m.obj rk t) rfl,za (m.obj rk t) rfl⟩;have O:=zb p;have M1:=zb m1;have X:=zb t;have B:=zb A;clear p m1 t A;go_enter func68,ntmps68;go_wp2_with (go_at_call 123;refine(O4 _ _ _ _).mono ?_;(first|rw[a1]|rw[a2]|rw[a3]);rintro _ _ ⟨rfl,rfl⟩);rw[O.z];refine zn 12 (λw'=>w' w=some (.int .i64 d)/\w' (U w 1)=some (.int .i64 a)/\w' (U w 2)=some (.int .i64 c)) (HF.z) ?_;refine GI 0 ?_;refine GV rfl ?_;try simp only[PS]
 refine GI 2 ?_;iterate 6
  refine GV rfl ?_;try simp only[PS]
 refine Lr (i:=1) (j:=8) rfl rfl kw (λK h=>?_) (λK h=>?_);go_simp;refine(Vz 8 _ I I).mono ?_;rintro _ _ ⟨rfl,rfl⟩;refine h.z _ _ (l.z _<|(DO.refl DQ W1).drew.alloc<|.cells #[ru,.int .u64 0,.int .i64 (max 8 1)] 116) ?_;clear h K;try simp only[PS]
 refine zz 8 rfl (λK h=>?_);go_simp;refine h.z _ _ (l.z _<|((DO.refl DQ W1).drew.alloc<|.cells #[ru,.int .u64 0,.int .i64 (max 8 1)] 116).alloc<|.map #[] 0) ?_;clear h K;try simp only[PS]
 change GT _ _ _ _ _ _ _ _ _ ((W1.drew.alloc<|.cells #[ru,.int .u64 0,.int .i64 (max 8 1)] 116).alloc<|.map #[] 0);obtain⟨s,f⟩:=nm<|(W1.drew.alloc<|.cells #[ru,.int .u64 0,.int .i64 (max 8 1)] 116).alloc<|.map #[] 0;rw[f];have o:M9 W1 (W1.heap.size) (W1.heap.size+1) s:=by rw[<-f];exact Rz W1
 clear f;try simp only[World.size_drew,World.size_alloc]
 try simp only[World.size_drew,World.size_alloc]at o
 generalize W1.heap.size+1=m at o ⊢;generalize W1.heap.size=g at o ⊢;rotate_left;go_simp;refine h.z _ _ (l.z _<|(DO.refl DQ W1).drew.alloc<|.map #[] 0) ?_;clear h K;try simp only[PS]
 change GT _ _ _ _ _ _ _ _ _ (W1.drew.alloc<|.map #[] 0);refine zz 1 rfl (λK h=>?_);go_simp;refine(Vz 8 _ I I).mono ?_;rintro _ _ ⟨rfl,rfl⟩;refine h.z _ _ (l.z _<|((DO.refl DQ W1).drew.alloc<|.map #[] 0).alloc<|.cells #[ru,.int .u64 0,.int .i64 (max 8 1)] 116) ?_;clear h K;try simp only[PS]
 change GT _ _ _ _ _ _ _ _ _ ((W1.drew.alloc<|.map #[] 0).alloc<|.cells #[ru,.int .u64 0,.int .i64 (max 8 1)] 116);obtain⟨s,f⟩:=nm<|(W1.drew.alloc<|.map #[] 0).alloc<|.cells #[ru,.int .u64 0,.int .i64 (max 8 1)] 116;rw[f];have o:M9 W1 (W1.heap.size+1) (W1.heap.size) s:=by rw[<-f];exact Ry W1
 clear f;try simp only[World.size_drew,World.size_alloc]
 try simp only[World.size_drew,World.size_alloc]at o
 generalize W1.heap.size+1=g at o ⊢;generalize W1.heap.size=m at o ⊢;all_goals
  refine GI 9 ?_;refine GV rfl ?_;try simp only[PS]
  refine zz 10 rfl (λK h=>?_);go_simp;refine h.z _ _ (l.z _<|o.mod.alloc _) ?_;clear h K;try simp only[PS]
  refine GI 11 ?_;refine GV rfl ?_;try simp only[PS]
  refine zq ?_;have h:IntKind.u64.wrap (c:Int)=(c:Int):=by rw[IntKind.wrap_u64];omega
  rw[h,fK];obtain⟨E,e⟩:=nm<|s.alloc<|.cells (zx (CS.laid d a c 0)<|CV.new g m).toArray 127;rw[e];have p:=AD e;have t:=AB e;have hb:=o.sz.symm;have u:w.heap.size<s.heap.size:=pp B.z;obtain⟨b,f⟩:=nm s.heap.size;rw[f]at p u hb ⊢;have u:=zb p;have M4:=zb<|o.mod.trans t;have Y:=zb t;have Z:=zb o;have HB:=zb hb;have aa:=zb f;have v:IntKind.u64.wrap (a:Int)=(a:Int):=by rw[IntKind.wrap_u64];omega
  clear p t hb e o HF f h;go_wp2_with fail
  go_loopw [38] (λe wr=>∃k:Nat,k<=8/\e=.int .i64 k/\AA (wr.heap[b]?=some (.cells (zx (CS.laid d a c k)<|CV.new g m).toArray 127 (0,0)))/\DO (λq=>q=b) E wr) (λe _=>8-(intOf e).toNat)
  case atStart=>exact⟨0,I,rfl,u,DO.refl _ _⟩
  case round =>
   obtain⟨k,e,rfl,N,hm⟩:=hrel;have HM:=zb hm;obtain⟨x0,x1,x2⟩:=l.z wr<|M4.z.then hm<|λq e=>.inr<|pp HB.z;clear hm;by_cases f:k<8
   .have e:∀p,p<244->∃v,wr ⟨b,p,none⟩=some v:=λp h=>by
     have h:(zx (CS.laid d a c k)<|CV.new g m).length=244:=by
      simp only[zx,AG,IL,Kv];rfl
     exact⟨_,za N.z<|by rw[Ba];exact AJ I⟩
    obtain⟨h,c1⟩:=e (9+k*15+14) I;obtain⟨h,c2⟩:=e (9+k*15+3) I;obtain⟨h,c3⟩:=e (9+k*15+6) I;obtain⟨h,c4⟩:=e (129+k*13+11) I;obtain⟨h,l⟩:=e (129+k*13+3) I;have h:∀p,wr.frozen? ⟨b,p,none⟩=false:=λp=>zg N.z
    have h:¬w.heap.size=b:=I;have h:¬b=w.heap.size:=I;clear e;clear a1 a2 a3 h1 h2 h3;go_wp2_with fail
    go_region
    go_wp2_with fail
    go_region
    go_wp2_with fail
    go_region
    go_wp2_with fail;go_roundw
    case rel =>
     refine⟨k+1,I,by go_num,?_,?_⟩
     .show(((((wr.setCell (b,9+k*15+14)<|.int .u64 a).setCell (b,9+k*15+3)<|.int .i64 2048).setCell (b,9+k*15+6)<|.int .i64 2048).setCell (b,129+k*13+11)<|.int .u64 a).setCell (b,129+k*13+3)<|.int .i64 4097).heap[b]?=_;rw[zc (zc<|zc<|zc<|zc N.z),<-fL d a c k g m f];simp only[Ao,AL 15 k,AL 13 k]
     exact(((((HM.z.setCell (p:=(b,9+k*15+14)) rj _).setCell (p:=(b,9+k*15+3)) rj _).setCell (p:=(b,9+k*15+6)) rj _).setCell (p:=(b,129+k*13+11)) rj _).setCell (p:=(b,129+k*13+3)) rj _).drew.drew.drew
    simp[intOf];omega
   have ab:k=8:=I;subst ab;have e:=zb<|LM tag i ht hi d a c W1 s E wr g m b M1.z B.z Z.z aa.z Y.z HM.z N.z;clear x0 x1 x2 ht;go_wp2_with fail;go_ret2;exact e.z
def JS(d a c:Int):Bool:=(decide (64<=d)&&decide (d<=400))&&(decide (16<=a)&&decide (a<=4096))&&(decide (16<=c)&&decide (c<=4096))
def WZ(d a c:Int)(w:rq)(h:JS d a c=false):rT 68 #[.agg #[.int .i64 d,.int .i64 a,.int .i64 c]] w λe w'=>e=.returned (.tuple #[.pointer none,.iface 57 (.int .i64 1)])/\DO DQ w w':=by
 obtain⟨p1,l⟩:=nm<|(decide (64<=d)&&decide (d<=400));obtain⟨p2,o⟩:=nm<|(decide (16<=a)&&decide (a<=4096));obtain⟨p3,p⟩:=nm<|(decide (16<=c)&&decide (c<=4096));unfold JS at h;rw[l,o,p]at h;obtain⟨W1,e⟩:=nm<|w.alloc<|.cells #[[d],[a],[c]] 45;have q:AA (DO DQ w W1):=by rw[<-e];exact(DO.refl DQ _).alloc _
 have f:=zb e;clear e;cases p1
 .clear h;go_enter func68,ntmps68;go_wp2_with (go_at_call 123;refine(O4 _ _ _ _).mono ?_;(first|rw[l]|rw[o]|rw[p]);rintro _ _ ⟨rfl,rfl⟩);rw[f.z];go_ret2;exact⟨rfl,q.z⟩
 cases p2
 .clear h;go_enter func68,ntmps68;go_wp2_with (go_at_call 123;refine(O4 _ _ _ _).mono ?_;(first|rw[l]|rw[o]|rw[p]);rintro _ _ ⟨rfl,rfl⟩);rw[f.z];go_ret2;exact⟨rfl,q.z⟩
 cases p3
 .clear h;go_enter func68,ntmps68;go_wp2_with (go_at_call 123;refine(O4 _ _ _ _).mono ?_;(first|rw[l]|rw[o]|rw[p]);rintro _ _ ⟨rfl,rfl⟩);rw[f.z];go_ret2;exact⟨rfl,q.z⟩
 simp at h
variable{W W' W0:rq}{i:Nat}{tag ky:rD}
def Di.mG(c:Dm tag W)(m:DO DQ W W0)(h:Di i tag ky W0 W'):Di i tag ky W W':=by
 refine⟨λg a=>h.mL g<|A7 a m.size,λg a=>?_,h.z⟩;by_cases q:g<W0.heap.size
 .exact .inr (by rw[h.mL g q];exact c g a)
 exact h.new g I
def SC(tag:rD)(i:Nat)(d a c:Int)(w:rq)(e:Ending)(W':rq):Prop :=
 (JS d a c=false/\e=.returned (.tuple #[.pointer none,.int .i64 1])/\DO DQ w W') \/
 ∃b ky V,JS d a c=true/\e=.returned (.tuple #[.pointer (some ⟨b,0,none⟩),.int .i64 0])/\zi ky i b (CS.new d.toNat a.toNat c.toNat) V W'/\Di i tag ky w W'/\DO DQ w W'/\w.heap.size<=b
def X6(tag:rD)(i:Nat)(f d e:Int)(w:rq)(E:D0 i tag w):rT 36 #[.agg #[.int .i64 f,.int .i64 d,.int .i64 e]] w (SC tag i f d e w):=by
 cases hc:JS f d e
 .obtain⟨s,h⟩:=nm<|w.alloc<|.cells #[[f],[d],[e]] 45;have q:DO DQ w s:=by rw[<-h];exact(DO.refl DQ _).alloc _
  have t:=WZ f d e s hc;have B:=zb E;have O:=zb hc;have o:=zb q;have p:=zb h;clear E hc q h;go_enter func36,ntmps36;go_wp2_with fail;rw[p.z];refine t.mono ?_;rintro _ W1 ⟨rfl,T⟩;have u:=Kw 1 W1 ((B.z.lK o.z).lK T).err;have Y:=zb<|o.z.trans T;clear T t;rw[JD lc]at u;go_wp2_with fail;refine u.mono ?_;rintro _ Z ⟨rfl,v⟩;have z:=zb<|Y.z.trans v;clear v;go_wp2_with fail;go_ret2;exact .inl ⟨O.z,rfl,z.z⟩
 have X:=hc;unfold JS at X;simp at X;obtain⟨a,rfl⟩:∃a:Nat,f=(a:Int):=⟨f.toNat,I⟩;obtain⟨b,rfl⟩:∃b:Nat,d=(b:Int):=⟨d.toNat,I⟩;obtain⟨c,rfl⟩:∃c:Nat,e=(c:Int):=⟨e.toNat,I⟩;obtain⟨s,h⟩:=nm<|w.alloc<|.cells #[[a],[b],[c]] 45;have q:DO DQ w s:=by rw[<-h];exact(DO.refl DQ _).alloc _
 have t:=LL tag i a b c s (E.ok.mod q) E.pos I I I;have B:=zb E;have O:=zb hc;have o:=zb q;have p:=zb h;clear E hc X q h;go_enter func36,ntmps36;go_wp2_with fail;rw[p.z];refine t.mono ?_;rintro _ W1 ⟨bb,ky,V,rfl,K,l,A,N⟩;have u:=Kw 0 W1 ((B.z.lK o.z).lK A).err;have H:=zb<|And.intro K<|And.intro l<|And.intro A N;clear K l A N t;rw[fF]at u;go_wp2_with fail;refine u.mono ?_;rintro _ Z ⟨rfl,v⟩;have z:=zb v;clear v;go_wp2_with fail;go_ret2;obtain⟨K,l,A,N⟩:=H.z;have l:=l.mG B.z.ok o.z;exact .inr ⟨bb,ky,V,O.z,rfl,K.lK z.z,⟨l.mL,l.new,l.z.mod z.z⟩,o.z.trans<|A.trans z.z,AK o.z.size N⟩
end
section
open Go.RowKit Go.Proofs.Tryz Go.Shelf
attribute [local go_sem] Oper.semAt_some
def X4(F:Fence)(n:Nat)(c:F.fn 141)(a:F.round=none)(b o:Nat)(w:rq):CallsIn F n prog 141 #[.pointer (b,o)] w λe w'=>e=.returned (.func (.func 193) #[] #[.pointer w])/\w'=w.alloc (.cells #[(b,o)] 114):=by
 refine callsIn_of_wp func141 rfl c ?_ a;simp only[ntmps141,An,AS,Ae,Nat.reduceAdd,Nat.reduceSub,BC,BB,BK,BE,Aq,BS];gi_wp2;go_ret;exact rZ
end
section
open Go.RowKit Go.Proofs.Tryz Go.Shelf
attribute [local go_sem] Oper.semAt_some
abbrev WU(p:Nat×Nat->Prop):={r:Nat×Nat // p r}
abbrev Hn(p:Nat×Nat->Prop):={x:Nat×(Nat×Nat) // p x.2}
def Hn.rr{p:Nat×Nat->Prop}(x:Hn p):WU p:=⟨x.1.2,x.2⟩
def Ff(p:Nat×Nat->Prop)(rs:zE)(a:∀i,p (DU rs i,DP rs i))(k:Nat):List (Hn p):=(List.range k).map λj=>⟨(rs.length-1-j,(DU rs (rs.length-1-j),DP rs (rs.length-1-j))),a _⟩
def jk(p:Nat×Nat->Prop)(rs:zE)(a:∀i,p (DU rs i,DP rs i))(k:Nat):Ff p rs a (k+1)=Ff p rs a k++[⟨(rs.length-1-k,(DU rs (rs.length-1-k),DP rs (rs.length-1-k))),a _⟩]:=by unfold Ff;rw[Bp,BX];rfl
def kM(p:Nat×Nat->Prop)(rs:zE)(a:∀i,p (DU rs i,DP rs i))(k:Nat):(Ff p rs a k).length=k:=by unfold Ff;rw[BD,CK]
def jJ(p:Nat×Nat->Prop)(rs:zE)(a:∀i,p (DU rs i,DP rs i))(k:Nat):(Ff p rs a k).map (·.1)=FG rs k:=by unfold Ff FG;rw[Ca];rfl
def fJ(F:Fence)(n:Nat)(hF:F.fn 215)(N:F.round=none)(v:1<=n)(l o cap:Nat)(a:rE)(p:Nat×Nat->Prop)(rs:zE)(s:∀i,p (DU rs i,DP rs i))(J K:List (Hn p)->rq->Prop)
  (O:∀pre x W,J pre W->pre.length<rs.length->YieldAt F (n-1) prog l (JO x.1) W λe W' =>
   (e=.returned (.bool true)/\J (pre++[x]) W'/\FO o a W W')\/(e=.returned (.bool false)/\K (pre++[x]) W'))
  (W:rq) (t:W.cell? o=some (.slice a rs.length cap)) (hr:RR W (.slice a rs.length cap) rs) (h0:J [] W) :
  CallsIn F n prog 215 #[.func (.yield l) #[] #[],.pointer o] W λe W'=>(∃v,e=.returned v) /\
   ((∃l,l=Ff p rs s rs.length/\J l W')\/(∃pre,(∃k,k<=rs.length/\pre=Ff p rs s k)/\K pre W')):=by
 obtain⟨_,_,e,l,r2,T⟩:=hr;cases e;unfold maxLen at r2;have l:(rs.length:Int)<=9223372036854775807:=I;refine callsIn_of_wp func215 rfl hF ?_ N;simp only[ntmps215,An,AS,Ae,Nat.reduceAdd,Nat.reduceSub,BC,BB,BK,BE,Aq,BS];gi_wp2
 gi_loopw [3] (λi wr=>∃k:Nat,k<=rs.length/\i=.int .i64 ((rs.length:Int)-1-k)/\J (Ff p rs s k) wr/\FO o a W wr) (λi _=>(intOf i+1).toNat)
 case atStart=>exact⟨0,AN _,lm,h0,FO.refl _ _ _⟩
 case round =>
  obtain⟨k,a,rfl,d,c⟩:=hrel;by_cases X:k<rs.length
  .obtain⟨q,hq⟩:=nm<|rs.length-1-k;have u:(rs.length:Int)-1-k=(q:Int):=I;have Y:q<rs.length:=I;obtain⟨g,o,rfl,c1,c2,_,_⟩:=T q Y;have f:=c.box t;have z:=c.row c1;have A:=c.row c2;obtain⟨Y,l,a,o,v,N⟩:=O _ ⟨(q,(DU rs q,DP rs q)),s q⟩ wr d (by rw[kM];exact X);have HB:=zb<|jk p rs s k;have HQ:=zb hq;have HJ:=zb d;have Z:=zb u;unfold JO at v;dsimp only at v;rw[u];clear hq d T c1 c2 u;gi_wp2;refine N.mono ?_;clear N O;rintro e W3 (⟨rfl,B,E⟩|⟨rfl,h⟩)
   .have a:AA (J (Ff p rs s<|k+1) W3):=by
     show J _ _;rw[HB.z,HQ.z];exact B
    have e:=zb<|c.trans E;clear B E c f z A t;gi_wp2;go_roundw
    case rel=>exact⟨k+1,I,by rw[<-Z.z];congr 1;omega,a.z,e.z⟩
    simp[intOf]
   have a:AA (K (Ff p rs s<|k+1) W3):=by
    show K _ _;rw[HB.z,HQ.z];exact h
   clear h c f z A t;gi_wp2;refine bodyPost_ret (results_none rfl _ _ _) rfl ?_;exact⟨⟨_,rfl⟩,.inr ⟨_,⟨k+1,I,rfl⟩,a.z⟩⟩
  have a:k=rs.length:=I;have HJ:=zb d;have e:=zb a;have c:¬(0:Int)<=(rs.length:Int)-1-k:=I;clear d a T O;gi_wp2
  go_end0
  exact⟨⟨_,rfl⟩,.inl<|by rw[<-e.z];exact HJ.z⟩
def jI(F:Fence)(n:Nat)(s:F.fn 215)(f:F.round=none)(t:1<=n)(c cap:Nat)(a:rE)(p:Nat×Nat->Prop)(rs:zE)(h:∀i,p (DU rs i,DP rs i))(w:rq)(d:w c=some (.slice a rs.length cap))(u:RR w (.slice a rs.length cap) rs):SeqStopsK F n prog 215 #[.pointer c] (λx:Hn p=>JO x.1) (FO c a) (λl=>l=Ff p rs h rs.length) (λpre=>∃k,k<=rs.length/\pre=Ff p rs h k) rs.length w:=λl J v W q _ _ z A=>by
 have o:=zm d;refine fJ F n s f t l c cap a p rs h J v z W ((q.cell (p:=c) o).trans d) ?_ A;obtain⟨_,_,e,B,E,K⟩:=u;cases e;refine⟨_,_,rfl,B,E,λi c=>?_⟩;obtain⟨g,o,e,a,d,f,h⟩:=K i c;have c:=zm a;exact⟨g,o,e,(q.cell (p:=⟨g,_,none⟩) c).trans a,(q.cell (p:=⟨g,_,none⟩) c).trans d,f,h⟩
def fI(F:Fence)(n:Nat)(s:∀f,F.fn f)(u:F.round=none)(v:4<=n)(l A b of lb cap:Nat)(a:rE)(p:Nat×Nat->Prop)(rs:zE)(hp:∀i,p (DU rs i,DP rs i))(J B:List (WU p)->rq->Prop)(W:rq)
  (hY:∀pre x W1,J pre W1->pre.length<rs.length->YieldAt F (n-1-1-1) prog l (L8 x.1) W1 λe W' =>
   DO (Ja lb l a W1) W1 W'/\((e=.returned (.bool true)/\J (pre++[x]) W')\/(e=.returned (.bool false)/\B (pre++[x]) W')))
  (hJ:OwnFrom W.heap.size J) (f:OwnFrom W.heap.size B) (K:W A=some (.pointer (b,of))) (hb:W (b,of)=some (.slice a rs.length cap)) (t:RR W (.slice a rs.length cap) rs) (v:lb<W.heap.size) (hl:l<W.heap.size) (ha:∀g o,a=some ⟨g,o,none⟩->g<W.heap.size/\g≠lb/\g≠l) (h0:J [] W) :
  CallsIn F n prog 193 #[.func (.yield l) #[] #[],.pointer A] W λe W'=>(∃v,e=.returned v) /\
   (J ((Ff p rs hp rs.length).map Hn.rr) W'\/∃k,k<=rs.length/\B ((Ff p rs hp k).map Hn.rr) W'):=by
 have HJ:=zb hJ;have ab:=zb f;have HY:=zb hY;have HR:=zb t;have H0:=zb h0;have ai:(W.alloc<|.cells #[.func (.yield l) #[] #[]] 300) A=some (.pointer (b,of)):=((DO.refl DQ W).alloc _).cell (a:=A) id K;have aj:(W.alloc<|.cells #[.func (.yield l) #[] #[]] 300) (b,of)=some (.slice a rs.length cap):=((DO.refl DQ W).alloc _).cell (a:=(b,of)) id hb;have h1:1<=n:=I;clear hJ f hY t h0;refine callsIn_of_wp_marks func193 rfl (s _) ?_ u;simp only[ntmps193,An,AS,Ae,Nat.reduceAdd,Nat.reduceSub,BC,BB,BK,BE,Aq,BS]
 gi_wp2_with (gi_at_call 194;refine(TK F (n-1) (s _) u _ _ _ _).mono ?_;rintro e w' ⟨rfl,rfl⟩)
 obtain⟨d,v⟩:=nm W.heap.size;have bY:Boxed ((W.alloc<|.cells #[.func (.yield l) #[] #[]] 300).alloc<|.cells #[.slice a rs.length cap] 63) d 300 (.func (.yield l) #[] #[]):=by
  rw[<-v];exact(Boxed.new W _ _).alloc _
 have bS:Boxed ((W.alloc<|.cells #[.func (.yield l) #[] #[]] 300).alloc<|.cells #[.slice a rs.length cap] 63) (d+1) 63 (.slice a rs.length cap):=by
  have:=Boxed.new (W.alloc<|.cells #[.func (.yield l) #[] #[]] 300) 63<|.slice a rs.length cap;rw[World.size_alloc,v]at this;exact this
 have m0:DO DQ W ((W.alloc<|.cells #[.func (.yield l) #[] #[]] 300).alloc<|.cells #[.slice a rs.length cap] 63):=(rp.alloc _).alloc _;obtain⟨w1,f⟩:=nm<|((W.alloc<|.cells #[.func (.yield l) #[] #[]] 300).alloc<|.cells #[.slice a rs.length cap] 63);have ao:w1.heap.size=d+2:=by rw[<-f];simp;omega
 have ak:J [] w1:=by rw[<-f];exact HJ.z.alloc _<|HJ.z.alloc _ H0.z
 rw[f]at bY bS m0 ⊢;rw[v];have v:=HR.z.mod m0<|Dj.no _;clear f ai aj;refine wpIn_rangeFunc_ownH u h1 (gf:=215) (lb:=#[.pointer (U (d+1) 0)]) rfl (s _) (enters_of func215 kw rfl)
  (jI F (n-1) (s _) u I (d+1) cap a p rs hp w1 bS.cell v) (λh k=>h.trans k) ?hKb (Below.refl _ _) (λ_=>rfl)
  (λpre X=>(J (pre.map Hn.rr) X/\Boxed X d 300 (.func (.yield l) #[] #[]))/\Boxed X (d+1) 63 (.slice a rs.length cap))
  (λc pre X=>c=.ret/\B (pre.map Hn.rr) X) ?hI ?hIx ⟨⟨ak,bY⟩,bS⟩
  (λx a' X=>∃z,a'={ tmps:=#[.func (.yield l) #[] #[],.pointer A,.pointer d,undef,.pointer<|some ⟨z,0,none⟩,.pointer (b,of),.pointer (b,of),.pointer (b,of),.slice a rs.length cap,.func (.func 215) #[] #[.pointer (U (d+1) 0)],.int .i64 x.1.1,.agg #[.int .u64 x.1.2.1,.int .u64 x.1.2.2],undef,undef,undef,undef],defers:=[] } /\
   X.heap[z]?=some (.cells #[x.1.2.1,x.1.2.2] 214 (0,0))) ?hAx ?assign ?body ?done ?stop
 case hKb =>
  intro X p o s f _ _ _;exact⟨World.putObj_heap_other I,λg o e=>World.putObj_heap_other<|pp<|(ha g o e).1⟩
 case hI =>
  exact OwnFrom.and (OwnFrom.and (λs A B row K f t=>HJ.z _ A B row K f<|λr e=>⟨pp<|(t r e).1,(t r e).2⟩)<|Own.from (boxed_own d _<|λ_=>_) _)<|Own.from (boxed_own (d+1) _<|λ_=>_) _
 case hIx =>
  intro c s A B row K f t;exact⟨K.1,ab.z _ A B row K.2 f<|λr e=>⟨pp<|(t r e).1,(t r e).2⟩⟩
 case hAx =>
  intro x a' s A B row K f t;obtain⟨z,e,O⟩:=K;refine⟨z,e,(f.block z (AI.1 O).1<|λf=>?_).trans O⟩;obtain⟨_,o,ac,T⟩:=t z f.symm;rw[O]at ac;cases ac;cases T
 case assign =>
  intro l' pre x X K hI Y;unfold JO;gi_wp2;refine Y _ _ ((KeepsOthers.alloc X _).from _) ⟨Below.heap_alloc _ _ _ hI.2.lt,λg o e=>Below.heap_alloc _ _ _ ?_⟩ ⟨⟨?_,hI.1.2.alloc _⟩,hI.2.alloc _⟩ ⟨X.heap.size,rfl,heap_alloc_new X _⟩
  .have f:=(ha g o e).1;have f:=hI.2.lt;omega
  exact HJ.z.alloc _ hI.1.1
 case body =>
  rintro l' pre x a' X p ad ⟨⟨Z,hy⟩,aa⟩ ⟨z,rfl,ae⟩ f;have yc:=hy.cell;have p:X z=some (.int .u64 x.1.2.1):=za ae rfl;have p:X (z,1)=some (.int .u64 x.1.2.2):=za ae rfl;obtain⟨s,tmps,assign,body,E,p⟩:=HY.z (pre.map Hn.rr) x.rr X Z<|rB f;unfold L8 Hn.rr at E;dsimp only at E;have f:1<=n-1-1:=I;have f:=zb Z;clear Z ad;have f:=zb p;clear p;gi_wp2;refine RoundIn.mono (F:=F.inRound l') (show RoundIn (F.inRound l') _ _ _ _ _ _ _ _ _ from f.z) ?_;rintro e X3 ⟨m3,af⟩;have ag:=hy.lt;have q:=aa.lt;have nY:¬Ja lb l a X d:=by
   rintro(h|h|⟨_,cs,fz,h⟩)
   .omega
   .omega
   rw[show X.heap[d]?=_ from hy]at h;simp at h
  have nS:¬Ja lb l a X (d+1):=by
   rintro(h|h|⟨_,cs,fz,h⟩)
   .omega
   .omega
   rw[show X.heap[d+1]?=_ from aa]at h;simp at h
  have ah:AA (KeepsFrom w1.heap.size X X3):=⟨m3.size,λk o hk O T=>by
   refine(m3.block k (AI.1 O).1 ?_).trans O;rintro(h|h|⟨_,cs,fz,h⟩)
   .omega
   .omega
   rw[O]at h;cases h;cases T⟩
  have al:AA (FO (d+1) a X X3):=⟨m3.block _ q nS,λg o e=>m3.block _ (pp<|(ha g o e).1) (by
   rintro(h|h|⟨h,_⟩)
   .exact(ha g o e).2.1 h
   .exact(ha g o e).2.2 h
   exact h g o e rfl)⟩
  have am:AA (Boxed X3 d 300<|.func (.yield l) #[] #[]):=(m3.block _ ag nY).trans hy;have an:AA (Boxed X3 (d+1) 63<|.slice a rs.length cap):=(m3.block _ q nS).trans aa;clear nY nS m3 ag q;rcases af with⟨rfl,N⟩|⟨rfl,N⟩
  .have a:=zb N;clear N yc E;gi_wp2;exact⟨ah.z,al.z,⟨by rw[BX];exact a.z,am.z⟩,an.z⟩
  have a:=zb N;clear N yc E;gi_wp2;exact⟨ah.z,rfl,by rw[BX];exact a.z⟩
 case done =>
  rintro D a X hD rfl ⟨⟨N,_⟩,_⟩ Y;gi_wp2;refine⟨lm,.inl ⟨_,_,rfl,run_takeDeferred Y,?_⟩⟩;exact⟨_,results_none rfl _ _ _,⟨_,rfl⟩,.inl<|HJ.z.putObj _ N I Y rfl⟩
 case stop =>
  rintro D c pre X hD ⟨k,hk,rfl⟩ ⟨rfl,N⟩ Y;gi_wp2;refine⟨lm,.inl ⟨_,_,rfl,run_takeDeferred Y,?_⟩⟩;exact⟨_,results_none rfl _ _ _,⟨_,rfl⟩,.inr ⟨k,hk,ab.z.putObj _ N I Y rfl⟩⟩
end
section
open Go
open Go.Proofs.Tryz
variable{P:Program}{Q:Exit->Act->rq->Prop}
def iB{o:Oper}{a:Act}{K:Act->rq->Prop}{r:Result Next}(l n:Nat)(h:o.upon P a K Q r):o.uponIn (Fence.wide.inRound l) n P a K Q r:=by
 unfold Oper.upon at h;unfold Oper.uponIn;split at h<;>simp only[]at h ⊢
 .exact h
 .exact h
 .exact h
 .exact⟨λx=>by simp[Fence.wide]at x,callsIn_wide.2 h⟩
 .refine⟨λx=>by simp[Fence.wide]at x,λc cs _=>?_⟩;obtain⟨v,w',a,s⟩:=h c cs;exact⟨v,w',a,stepsIn_wide.2 s⟩
 exact h
variable{ops:Array Oper}
theorem VX{md:Region.Mode}(l n:Nat)(hd:∀(i:Nat) o,ops[i]?=some o->∀c,o.op≠.defer c)(e:¬LetsOut Q):∀(fuel:Nat) (L:Array Bool) (a:Act) (w:rq),wpAny P md ops Q fuel L a w->wpAnyIn (Fence.wide.inRound l) n P md ops Q fuel L a w
 | 0,_,_,_,h=>h
 | fuel+1,L,a,w,h=>by
  refine⟨h.1,λi c=>?_⟩;have d:=h.2 i c;have c:∀a w,wpAny P md ops Q fuel (L.setIfInBounds i true) a w->wpAnyIn (Fence.wide.inRound l) n P md ops Q fuel (L.setIfInBounds i true) a w:=λa w x=>VX l n hd e fuel _ a w x
  refine wpOpIn_mono c ?_;unfold wpOp at d;unfold wpOpIn;cases ho:ops[i]? with
  | none =>
   rw[ho]at d;exact d
  | some o =>
   rw[ho]at d;simp only[]at d ⊢;by_cases c:Region.wanted o (yielded ops a.tmps)=true
   .simp only[c,A9]at d ⊢;rcases d with d|⟨_,d⟩
    .refine⟨λ_ _=>trivial,?_⟩;rw[show(Fence.wide.inRound l).round=some l from rfl,Oper.semAt_some l _ _ (hd i o ho)];exact iB l n d
    exact absurd d e
   simp only[c,BT,BZ]at d ⊢;exact⟨λ_ _=>trivial,d⟩
def Qc(ops:Array Oper):Bool:=ops.all λo=>match o.op with|.defer _=>false|_=>true
def jj(h:Qc ops=true)(i:Nat)(o:Oper)(a:ops[i]?=some o):∀c,o.op≠.defer c:=by
 intro c e;have:=(Array.all_eq_true.1 h) i (AI.1 a).1;rw[(AI.1 a).2,e]at this;cases this
variable{w:rq}
def ji{id:Nat}{a:Act}{l n:Nat}(c:P.follows .mixedOrders=true)(hd:Qc ops=true)(d:¬LetsOut Q)
  (h:wpAny P .any ops Q ops.size (Array.replicate ops.size false) a w.drew):(Code.region id ops true).wpIn (Fence.wide.inRound l) n P Q a w :=
 wpIn_region_any c (VX l n (jj hd) d _ _ _ _ h)
def Yq{id:Nat}{a:Act}{l n:Nat}(k:Nat)(F:rq->Prop)(d:P.follows .mixedOrders=true)(hd:Qc ops=true)(f:Region.noSelect ops=true)(o:F w.drew)
  (h:GT P .any ops (λe a w=>e=.normal/\Q .normal a w) k F ops.size (Array.replicate ops.size false) a w.drew):(Code.region id ops true).wpIn (Fence.wide.inRound l) n P Q a w:=by
 have p:(Code.region id ops true).wpIn (Fence.wide.inRound l) n P (λe a w=>e=.normal/\Q .normal a w) a w:=by
  refine ji d hd ?_<|RM _ _ _ _<|h ⟨f,lm,λj d _ c=>?_⟩<|.inr o
  .rintro⟨_,_,x,_⟩;cases x
  have:=getD_replicate_false ops.size j;rw[this]at c;cases c
 exact Go.wpIn_mono p<|λe a w k=>by rw[k.1];exact k.2
end
section
open Go.RowKit Go.Proofs.Tryz
theorem XK(w:rq)(v:rt)(l:rC)(h:BR w v l)(hl:l.length<=70368744177664):∃d w',(∀T,(Builtin.append_ #[60,60] T #[.slice none 0 0,v]).run prog w=.ok d w')/\OB w' d l/\DO DQ w w'/\(∀g,d.ownBlock=some g->w.heap.size<=g):=by
 obtain⟨i,f,X,q,s⟩:=info_parts Oh;obtain⟨a,t,rfl,v,h2,Y⟩:=id h;by_cases h:l.length=0
 .have B:=Ai h;subst B;cases a with
  | none =>
   refine⟨.slice none 0 0,w,λT=>?_,OB.nil w,DO.refl _ _,λg z=>by cases z⟩;simp[Builtin.append_,run_underlying underlying60,sizeOf,typeInfo,f,Builtin.lenOf,Builtin.firstCells,loadCells,loadCellsFrom]
  | some a =>
   obtain⟨d,w',E,A,K,N⟩:=zN (P:=prog) w 60 5 i (.int .u8 0) 1 1 underlying60 f X q s rfl lc ru 0 [] (World.ownsRow_nil w 0 _ 1)
    a 0 t [] rfl (by intro j u p;cases p) (by intro u p;cases p) lw I
   exact⟨d,w',E,A,(DO.refl _ w).grown K (λk O=>by cases O),λg z=>(N g z).elim (λx=>by cases x) id⟩
 obtain⟨g,o,rfl,_⟩:=Y 0 l[0]<|AJ I;obtain⟨d,w',E,A,K,N⟩:=zN (P:=prog) w 60 5 i (.int .u8 0) 1 1 underlying60 f X q s rfl lc ru 0 [] (World.ownsRow_nil w 0 _ 1)
  ⟨g,o,none⟩ l.length t (zW l) (by rw[JF,DG]) (by
   intro j u p;simp only[zW,Bc,B8]at p;obtain⟨c,Z,rfl⟩:=p;obtain⟨a,f,e,hh⟩:=Y j c Z;cases e;rw[zX];exact hh) (RO l) lw I
 refine⟨d,w',E,?_,(DO.refl _ w).grown K (λk O=>by cases O),λg z=>(N g z).elim (λx=>by cases x) id⟩;rw[Aw,Aq]at A;exact A
def GY.nil(w:rq):GY w ru []:=⟨World.ownsRow_nil w 0 _ 10,λx a=>by cases a⟩
def Ia(S:Nat->Prop)(w wr:rq):Prop :=
 DO S w wr/\∀k,S k->∀cs t,w.heap[k]?=some (.cells cs t (0,0))->∃a,wr.heap[k]?=some (.cells a t (0,0))/\a.size=cs.size
def Ia.refl(S:Nat->Prop)(w:rq):Ia S w w:=⟨DO.refl _ _,λ_ _ cs _ h=>⟨cs,h,rfl⟩⟩
variable{S:Nat->Prop}{b:Nat}{w:rq}
def Ia.set{wr:rq}(h:Ia S w wr)(hb:S b)(i:Nat)(v:rt):Ia S w (wr.setCell (b,i) v):=by
 refine⟨h.1.setCell (p:=(b,i)) (.inl hb) v,λk f cs t l=>?_⟩;obtain⟨a,c,d⟩:=h.2 k f cs t l;by_cases e:k=b
 .subst e;exact⟨_,zc c,rB d⟩
 exact⟨a,((DO.refl (λx=>x=b) wr).setCell (p:=(b,i)) rj v).obj e c,d⟩
variable{cs:Array rt}{i t:Nat}
def Ia.cell{wr:rq}(h:Ia S w wr)(hb:S b)(d:w.heap[b]?=some (.cells cs t (0,0)))(hi:i<cs.size):(∃v,wr (b,i)=some v)/\wr.frozen? ⟨b,i,none⟩=false:=by
 obtain⟨a,c,e⟩:=h.2 b hb cs t d;exact⟨⟨a[i],za c<|C6 I⟩,zg c⟩
def KE(v:rt)(a:List (DV×rt)):Nat->Prop:=λk=>v.ownBlock=some k\/∃x∈a,x.2.ownBlock=some k
def Py(W:rq)(g:Nat)(v:rt)(a:List (DV×rt))(k:Nat)(wr:rq):Prop :=
 Ia (KE v a) W wr/\∀j x,k<=j->a[j]?=some x->wr ⟨g,j*10+9,none⟩=some x.2
variable{W:rq}{g k:Nat}{v:rt}
def Py.set{wr:rq}{a:List (DV×rt)}(h:Py W g v a (k+1) wr)(c:KE v a g)(hi:i<k*10+10)(u:rt):Py W g v a (k+1) (wr.setCell (g,i) u):=by
 refine⟨h.1.set c i u,λj x a c=>?_⟩;rw[World.cell?_setCell_other _ _ _ _ (by simp<;>omega)];exact h.2 j x a c
variable{cap e sz:Nat}{xs:rF}
def XF{n:Nat}(h:w.ownsRow 0 e sz (.slice g n cap) n xs):∃a,w.heap[g]?=some (.cells a e (0,0))/\a.size=cap*sz/\n<=cap:=by
 rcases h.2 with⟨c,_⟩|⟨e,d,a,c,_,f,l,_,o,_⟩
 .cases c
 cases c;exact⟨a,f,o,l⟩
end
section
open Go.ChangeShapes Go.WideShapes Go.ChangeAt Go.RowKit
open Go.Proofs.Tryz
def Pi {H : Type} : List (String × DataW H) := [("errors.errorType", Rows.laid_errors_errorType), ("mediawire/wire.table", Rows.laid_mediawire_wire_table)]
def R6 : prog.globalNamed "errors.errorType" = some 0 := kw
def Nu : prog.globalNamed "mediawire/wire.table" = some 1 := kw
def Nb:(prog.globals[1]?).map (·.type)=some 281:=kw
def cA:prog.cellsOf 281=16:=kw
def Y9:prog.cellsOf 189=1:=kw
def Y8 : (prog.cutTypes.find? (·.1 == "internal/reflectlite.rtype")).map (·.2) = some 286 := kw
def Y7:((List.range prog.types.size).filter λt=>prog.rowNamed t [101,114,114,111,114])=[98]:=kw
def gB:typeHandle prog 98=.pointer (some ⟨2,98,none⟩):=kw
def Mi:List Int:=[0,498536548,997073096,651767980,1994146192,1802195444,1303535960,1342533948,3988292384,4027552580,3604390888,3412177804,2607071920,2262029012,2685067896,3183342108]
variable{W:rq}
def tab_of(h:laidMetH prog Pi W):Fw W:=by
 have a : laidMet prog [("mediawire/wire.table", Lib.tabData .u32 Mi)] W /\ handlesMet prog [("errors.errorType", Rows.laid_errors_errorType)] W := h;have c:=Lib.tabIs_of_head (rest:=[]) Nu Nb underlying281 underlying189 Y9 cA a.1;intro i a;have:=c.cell Nu i (by simpa [Mi]using a);rw[this];have e:∀j:Fin 16,Mi.getD j.val 0=(ct j.val:Int):=lc
 rw[e ⟨i,a⟩]
theorem errT_of(h:laidMetH prog Pi W):E7 W:=by
 have e : laidMet prog [("mediawire/wire.table", Lib.tabData .u32 Mi)] W /\ handlesMet prog [("errors.errorType", Rows.laid_errors_errorType)] W := h;obtain⟨a,u,f,h,l,o,p,c⟩:=e.2 _ (Af.2 rfl);have q:a=[101,114,114,111,114]:=(Bt h).symm;subst q;obtain rfl:=Bt (Y8.symm.trans l);have d:f∈(List.range prog.types.size).filter λt=>prog.rowNamed t [101,114,114,111,114]:=BI.2 ⟨Bn.2 o,p⟩
 rw[Y7]at d;obtain rfl:=Af.1 d;rw[gB]at c;unfold E7;simpa using World.var?_cell R6 c 0
noncomputable def laidWorld(os:Os):rq :=
 let w0:=World.holding prog os ⟨#[],#[],[]⟩
 let w1:rq:={ w0 with heap:=w0.heap.modify 0 fun
   | .cells _ t frozen=>.cells #[.iface 286 (.agg #[.pointer (some ⟨2,98,none⟩)])] t frozen
   | o=>o }
 {w1 with heap:=w1.heap.modify 1 fun
   | .cells _ t frozen=>.cells (Mi.map λz=>Value.int .u32 z).toArray t frozen
   | o=>o }
def laid_met(a:Os)(args:Array rt):laidMetH prog Pi ((laidWorld a).forCall (λ_ _=>0) ⟨#[],args,[]⟩).memory :=
 laidMetH_of_parts (laidMet_of_run' 8 kw kw) kw
end
section
open Go.Proofs.Tryz
variable{P:Program}
def kU(m:Machine)(w:rq)(t:Trace)(h:aloneAtReturn P m w t):leavingAtReturn P m w t:=by
 obtain⟨a,c,d⟩:=h;refine⟨c,⟨λg e=>⟨0,?_⟩,a.2⟩,d⟩;have c:(m.gs.toList.drop 1).all (λg=>g.status == .finished)=true:=a.1;rw[Cp]at c;have:=c g e;simpa [Goroutine.LeavesIn]using this
def holds_leaving{p:Pinned}{s:OpenSpec}{c:OpenClaim}(d:c.start=.entering)(a:c.stops=[])(e:c.wf s=true)(h:({ c with leaving:=false }:OpenClaim).holds p s)(hl:c.leaving=true):c.holds p s:=by
 obtain⟨h1,h2,h3,h4,h5,h6,h7,h8,f,fn,h9,l,o,q,s,t,u,v,z,A,B,E,K,N,O,T,X,Y,Z,k1,k2,L,aa,ab⟩:=h;refine⟨e,h2,h3,h4,h5,h6,h7,h8,f,fn,h9,l,o,q,s,t,u,v,z,A,B,E,K,N,O,T,X,Y,Z,k1,k2,L,aa,λl o q H enc e=>?_⟩;have f:=ab l o q H enc e;unfold OpenClaim.form at f ⊢;have e:({ c with leaving:=false }:OpenClaim).start=.entering:=d;have l:({ c with leaving:=false }:OpenClaim).stops=[]:=a;rw[e,l]at f;rw[d,a];intro F;have a:=f F;have d:c.atReturn p.checked.prog=leavingAtReturn p.checked.prog:=by unfold OpenClaim.atReturn;rw[hl]
 rw[d];exact ReturnsInOpen.mono (atReturn:=aloneAtReturn p.checked.prog) (λm w t h=>kU m w t h) (λm h=>h) a
def card_going(o:Looks){p:Pinned}{s:OpenSpec}{c:OpenClaim}(kinds:List LaidKind)(a:Bool)(d:Bool×String)(l:Bool)
  (z:c.holds p s) (A:c.wfByText s=true) (e:c.laidByTextAt o p kinds a)
  (q:c.start=.entering) (u:c.noBlocks=false/\c.again=false) (B:p.checked.prog.mainIs=some (d.1,d.2.toList)) (E:(!d.1&&d.2.isEmpty && !l)=false)
  (K:∀f v,p.checked.prog.funcNamed c.func=some f->p.checked.prog.funcs[f]?=some v->l=p.checked.prog.looks []/\∀(j:Nat) t,v.params[j]?=some t->p.checked.prog.wantsStandIn t=false)
  (N:true=c.goesBy p.checked.prog) :
  Claim7.holds p (.plain s) { stood:={ row:=c,standIns:=[],harness:=d,looks:=l },kinds:=[],alts:=[],laidByText:=true,laidKinds:=kinds,laidTests:=a,laidLooks:=o,goes:=true } :=
 ⟨Claim7.tied_new_at o kinds a (Claim7.new_of_sixth z d l q u B (by simpa [Claim7.isSixth]using E) K) A,(λD O=>by cases O),e,(λh=>by cases h),N⟩
end
end Go.Proofs.YtddfdpbaiedcjaaGreatDoor
