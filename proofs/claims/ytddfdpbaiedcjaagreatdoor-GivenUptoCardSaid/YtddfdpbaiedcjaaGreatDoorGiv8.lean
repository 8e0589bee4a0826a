/- A part of Given's proof. Conditions: none. Part 8 of 15. -/
import Derived.Test.YtddfdpbaiedcjaaGreatDoorGiv7
import Derived.Shelf.RegionOpen
set_option maxRecDepth 100000
set_option maxHeartbeats 16000000
set_option linter.all false
namespace Go.Proofs.YtddfdpbaiedcjaaGreatDoor
section
open Go.RowKit Go.Proofs.Tryz Go.Shelf
attribute [local go_sem] Oper.semAt_some
def OE(Q:Exit->Act->rq->Prop):Exit->Act->rq->Prop:=λe a w=>e=.normal/\Q .normal a w
variable{P:Program}{Q:Exit->Act->rq->Prop}{w:rq}
def zH{c:Code}{a:Act}(h:c.wp P (OE Q) a w):c.wp P Q a w :=
 wp_mono h (λe a w k=>by rw[k.1];exact k.2)
def Mq(s:Df)(b o:Nat)(v:rt)(w w':rq)(v':rt):Prop :=
 w'.ownsRow 0 214 2 v' s.rs.length (zr s.rs)/\w'.heap[b]?=((w.setCell (b,o) v').setCell (b,o+1)<|.int .u64 s.fl).heap[b]?/\DO (λk=>k=b\/v.ownBlock=some k) w w'/\D4 w v v'
structure Lz(s:Df)(b o e0:Nat)(cs0:Array rt)(v:rt)(w:rq)(db rb:Nat)(rec:Loop)(pre:zE)(v':rt)(X:rq):Prop where
 own:X.ownsRow 0 214 2 v' (s.me pre).rs.length (zr (s.me pre).rs)
 ob:X.heap[b]?=some (.cells ((cs0.setIfInBounds o v').setIfInBounds (o+1)<|.int .u64 ((s.me pre).fl:Int)) e0 (0,0))
 m:DO (λk=>k=b\/v.ownBlock=some k) w X
 nw:D4 w v v'
 ok:(s.me pre).Ok
 mo:(s.me pre).most=s.most
 df:X.heap[db]?=some (.deferred<|some [])
 rc:X.heap[rb]?=some (.loop rec)
variable{base e g sz:Nat}{v:rt}{xs:rF}
def JH{n:Nat}(h:w.ownsRow base e sz v n xs)(d:v.ownBlock=some g):∃a,w.heap[g]?=some (.cells a e (0,0)):=by
 rcases h.2 with⟨rfl,_⟩|⟨e,c,a,rfl,_,f,_⟩
 .simp[Value.ownBlock]at d
 simp[Value.ownBlock]at d;subst d;exact⟨a,f⟩
variable{B b db o rb:Nat}{s:Df}
def Lz.nt{p:Nat}{a:Array rt}{e:Loop}(f:w.heap.size<=B)(hb:b<B)(hd:db<B)(t:rb<B):OwnFrom B (λpre X=>∃f,Lz s b o p a v w db rb e pre f X):=by
 rintro pre A C row ⟨f,h⟩ d a;have c:∀k,k<B->some k≠row:=λk o e=>pp<|(a k e.symm).1
 have p:=rp.grown d<|λk o=>.inl o;refine⟨f,p.owns h.own<|λg e f=>?_,(d.block _ (AI.1 h.ob).1<|c _ hb).trans h.ob,h.m.then p<|λi o=>.inr<|pp<|(a i o).1,h.nw,h.ok,h.mo,?_,?_⟩
 .obtain⟨o,q⟩:=JH h.own e;obtain⟨_,o,e,l⟩:=a g f;rw[e]at q;cases q;cases l
 .exact(d.block _ (AI.1 h.df).1<|c _ hd).trans h.df
 exact(d.block _ (AI.1 h.rc).1<|c _ t).trans h.rc
def fH(cs:Array rt)(o:Nat)(a x b y:rt):(((cs.setIfInBounds o a).setIfInBounds (o+1) x).setIfInBounds o b).setIfInBounds (o+1) y=(cs.setIfInBounds o b).setIfInBounds (o+1) y:=by
 apply Cf;intro i;simp only[BV,C9];by_cases a:o+1=i
 .simp[a]
 by_cases c:o=i
 .simp[a,c]
 simp[a,c]
variable{X:rq}{v':rt}
def Lz.set{d:Nat}{a:Array rt}{c:Loop}{pre:zE}(h:Lz s b o d a v w db rb c pre v' X)(f:o+2<a.size)(e:a[o+2]?=some (.int .i64 s.most)):Eh X b o v' (s.me pre).rs (s.me pre).fl (s.me pre).most:=by
 refine⟨za h.ob ?_,za h.ob ?_,za h.ob ?_,h.own,pu h.ok.rl h.ok.most.2,λj=>zg h.ob⟩
 .simp[BV];omega
 .simp[BV];omega
 simp[BV,h.mo];have:=e;simpa using this
theorem WE:∀(l:zE) (a c:Nat) (t:Df),(Hi l a c t).most=t.most
 | [],_,_,_=>rfl
 | r::l,a,c,t=>by
  unfold Hi;rw[WE l a c];split
  .split
   .rw[IK,IK]
   rw[IK]
  split
  .rw[IK]
  rfl
theorem Qw:∀(l:zE) (t:Df),(t.me l).most=t.most
 | [],_=>rfl
 | r::l,t=>by
  have:t.me (r::l)=(t.add r.1 r.2).me l:=rfl;rw[this,Qw l,IK]
def Qv(t:Df)(l:zE)(r:Nat×Nat):t.me (l++[r])=(t.me l).add r.1 r.2:=by
 simp[Df.me]
structure zA(tag:rD)(i b:Nat)(W0:rq)(V0:CV)(c:CS)(ky:rD)(V':CV)(W':rq):Prop where
 c:zi ky i b c V' W'
 e:Di i tag ky W0 W'
 m:DO (Dr i tag) W0 W'
 p:0<i
 ft:V'.ft=V0.ft/\V'.mr=V0.mr
variable{V' V0:CV}{W' W'' W0:rq}{c:CS}{i k:Nat}{tag ky:rD}
def zA.lJ(h:zA tag i b W0 V0 c ky V' W')(o:k<8)(t:Mq s b (9+15*k+1) (V' k) W' W'' v')(A:s.most=(c k).lJ.most):∃tag2 e,zA tag i b W0 V0 { c with ws:=ze c.ws k { c.ws k with lJ:=s } } tag2 e W''/\∀g,g<W'.heap.size->tag2 g=ky g:=by
 obtain⟨f,l,e,u⟩:=t;have v:=h.p;have p:∀{g r:Nat},ky g=(i,r)->g<W'.heap.size:=λd=>EZ h.e.z d v
 have t:∀g,(ky g).1=i->zQ ky W' W'' (i,20+k) g=ky g:=λg d=>zD<|p (r:=(ky g).2)<|by rw[<-d]
 have z:∀g,(g=b\/(V' k).ownBlock=some g)->∃r,(r=1\/r=20+k)/\ky g=(i,r):=λg d=>by
  rcases d with d|d
  .exact⟨1,.inl rfl,by rw[d,h.c.tb]⟩
  exact⟨20+k,.inr rfl,h.c.ng k o g d⟩
 refine⟨zQ ky W' W'' (i,20+k),{ V' with ws:=ze V'.ws k v' },⟨?_,h.e.trans (JA e.size) h.m.size,Er h.e h.m<|e.mono<|λg d=>.inl ?_,v,h.ft⟩,λg d=>zD d⟩
 .refine h.c.build (R:=λr=>r=1\/r=20+k) e z t ?_ rY (λq e=>.inl ⟨?_,rfl,I⟩) (λq e=>?_) (λq e=>.inl ⟨?_,rfl,I⟩) (λq e=>.inl rW) (λq e=>.inl rW) rY rV rV rV
  .rw[l,zc (zc h.c.obj)];simp only[Ao];have B:=Hl c c V' { V' with ws:=ze V'.ws k v' } (k:=k) (j:=1) v' o lc (λq _=>by
    by_cases a:q=k
    .subst a;simp only[zf,A9];rfl
    simp only[zd _ _ a,AH a]) rfl rfl rfl
   rw[B];have E:=Hl c { c with ws:=ze c.ws k { c.ws k with lJ:=s } } { V' with ws:=ze V'.ws k v' } { V' with ws:=ze V'.ws k v' } (k:=k) (j:=2) (.int .u64 s.fl) o lc (λq _=>by
    by_cases a:q=k
    .subst a;simp only[zf,A9,Ft,A];rfl
    simp only[zd _ _ a,AH a]) rfl rfl rfl
   rw[show 9+15*k+1+1=9+15*k+2 from rfl,E]
  .by_cases a:q=k
   .subst a;simp only[zf]
   simp only[zd _ _ a]
  .by_cases a:q=k
   .subst a;simp only[zf];refine .inr ⟨f,λg d=>?_⟩;rcases u g d with y|y
    .rw[zD (p<|h.c.ng q o g y),h.c.ng q o g y]
    exact GM y<|zK f g d
   exact .inl ⟨by simp only[zd _ _ a],by simp only[zd _ _ a],I⟩
  by_cases a:q=k
  .subst a;simp only[zf]
  simp only[zd _ _ a]
 obtain⟨r,a,e⟩:=z g d;exact EU e I
def zA.lK(h:zA tag i b W0 V0 c ky V' W')(m:DO DQ W' W''):zA tag i b W0 V0 c ky V' W'' :=
 ⟨h.c.lK m,⟨h.e.mL,h.e.new,h.e.z.mod m⟩,h.m.trans<|m.mono rm,h.p,h.ft⟩
variable{S:Nat->Prop}
def zA.free(h:zA tag i b W0 V0 c ky V' W')(m:DO S W' W'')(d:∀g,S g->ky g=(0,0)/\W0.heap.size<=g):zA tag i b W0 V0 c ky V' W'':=by
 have a:=h.p;exact⟨h.c.mod m (λg a=>by rw[(d g a).1];simp;omega)<|λ_ _=>rfl,⟨h.e.mL,h.e.new,h.e.z.mod m⟩,h.m.then m<|λg a=>.inr (d g a).2,h.p,h.ft⟩
variable{c':CS}
def zA.store(h:zA tag i b W0 V0 c ky V' W')(j:Nat)(v:rt)(d:(zx c V').set j v=zx c' V')(s:JC c c'):zA tag i b W0 V0 c' ky V' (W'.setCell (b,j) v):=by
 have a:DO (λq=>q=b) W' (W'.setCell (b,j) v):=(DO.refl (λq=>q=b) _).setCell (p:=(b,j)) rj _;exact⟨h.c.store j v d s,⟨h.e.mL,h.e.new,h.e.z.mod a⟩,Er h.e h.m<|a.mono<|λq a=>.inl<|EU (r:=1) (by rw[show q=b from a];exact h.c.tb) lc,h.p,h.ft⟩
variable{y:WS}
def zA.nL(h:zA tag i b W0 V0 { c with ws:=ze c.ws k y } ky V' W')(d:k<8)(j:Nat)(e:j<15)(v:rt)(x:WS)(f:Ft x (V'.wb k) (V' k) (V'.wc k)=(Ft y (V'.wb k) (V' k) (V'.wc k)).set j v)(l:x.b=y.b)(o:x.lJ.rs=y.lJ.rs)(s:x.lC.rs=y.lC.rs):zA tag i b W0 V0 { c with ws:=ze c.ws k x } ky V' (W'.setCell (b,9+15*k+j) v):=by
 have a:DO (λq=>q=b) W' (W'.setCell (b,9+15*k+j) v):=(DO.refl (λq=>q=b) _).setCell (p:=⟨b,_,none⟩) rj _;exact⟨h.c.nD d j e v x f l o s,⟨h.e.mL,h.e.new,h.e.z.mod a⟩,Er h.e h.m<|a.mono<|λq a=>.inl<|EU (r:=1) (by rw[show q=b from a];exact h.c.tb) lc,h.p,h.ft⟩
variable{j:Nat}
def kL{D:Nat}{o:Obj}(h:b≠D):(w.setCell (b,j) v).putObj D o=(w.putObj D o).setCell (b,j) v:=by
 simp only[World.setCell,World.putObj];congr 1;apply Cf;intro q;simp only[CF,BV,Array.size_modify];by_cases a:D=q
 .subst a;simp[h]
 by_cases c:b=q
 .subst c;simp[a]
 simp[a,c]
def I7(tag:rD)(i b:Nat)(a:rq)(d:CV)(c:CS)(e:Ending)(W':rq):Prop:=e=.returned (.tuple #[])/\∃ky e,zA tag i b a d c ky e W'
structure Ly(c:CS)(f:DV)(k:Nat):Prop where
 lt:k<8
 st:f.stream=(k:Int)
 lJ:(c k).lJ.Ok
 lC:(c k).lC.Ok
 end_:f.off+f.data.length<=zF
 dl:f.data.length<=1099511627776
variable{V:CV}{W:rq}
def zi.py(h:zi tag i b c V W)(a:k<8)(d:(c k).lC.rs.length<=1099511627776):Eh W b (9+15*k+4) (V.wc k) (c k).lC.rs (c k).lC.fl (c k).lC.most :=
 ⟨h.w (j:=4) a rfl,h.w (j:=5) a rfl,h.w (j:=6) a rfl,h.wc k a,d,λj=>h.fz j⟩
variable{mU:rD}
theorem iA(h:zA tag i b W0 V0 c mU V W)(f:DV)(rv:rt)(k:Nat)(ok:Ly c f k)(bN:f.kind=4)(u:∃a n bO,rv=.slice a n bO):rT 80 #[(b,0),.agg (zj f rv)] W (I7 tag i b W0 V0 { c with ws:=ze c.ws k ((c k).again f) }):=by
 have hk:=ok.lt;have a8:=ok.st;obtain⟨ra,rn,aP,rfl⟩:=u;obtain⟨x,hx⟩:=nm<|c k;rw[hx];have HX:=zb hx;obtain⟨u,bP⟩:=nm<|Value.slice ra rn aP;have bQ:=ok;have ag:=zb ok;have HH:=zb h;obtain⟨l,u⟩:=nm f.off;obtain⟨DL,aG⟩:=nm f.data.length;have b1:=ok.end_;have b2:=ok.dl;rw[u,aG]at b1;rw[aG]at b2;unfold zF at b1;have bR:=zb u;have a9:=zb aG;have d0:(0:Int)<=k:=I;have d8:(k:Int)<8:=I;obtain⟨W1,au⟩:=nm<|W.alloc<|.cells (zj f<|.slice ra rn aP) 65;have m1:=AB au;have aH:zl W1 W.heap.size f (.slice ra rn aP):=by rw[<-au];exact heap_alloc_new W _
 have ah:=AC au;obtain⟨d,ba⟩:=nm W.heap.size;rw[ba]at aH ah;have cf:=zb aH;have bS:=zb au;have av:=zb ba;have M1:=zb m1;have bb:=zb ah;obtain⟨y0,y1,y2,y3,y4,y5,y6,y7,y8,y9⟩:=aH.cells;rw[bN]at y0;rw[a8]at y1;rw[u]at y2;clear h ok hx bP u aG m1 aH ah au bQ a8;refine(callsIn_wide (n:=8)).1 ?_;refine callsIn_of_wp_marks func80 rfl trivial ?_ rfl;simp only[ntmps80,An,AS,Ae,Nat.reduceAdd,Nat.reduceSub,BC,BB,BK,BE,Aq,BS];refine wpIn_wide.2 ?_;go_upto_region 1 with fail;rw[bS.z];have ah:=bb.z;obtain⟨Z,aI⟩:=nm<|(W1.alloc<|.cells #[(b,9+k*15)] 225).drew;have h:=zb aI;go_upto_region 3 with fail
 go_cut [4]from 12 to 112 (λh wx=>h=.pointer (U (d+1) 0)/\wx=Z)
 case first =>
  refine zH ?_;refine zn 7 (λw'=>w' (U d 1)=some (.int .i64 k)) (y1) ?_;refine GI 0 ?_;iterate 6
   refine GV rfl ?_;try simp only[PS]
  refine zz 6 rfl (λK hK=>?_);go_simp;have h:=λo=>((DO.refl DQ W1.drew).alloc o).cell (a:=U d 1) id y1
  refine hK.z _ _ (h _) ?_;clear hK K;try simp only[PS]
  refine zY rfl (λK hK=>?_);have h:∀u,((W1.drew.alloc<|.cells #[.pointer none] 225) (d+1,0)=some (.pointer none))/\(W1.drew.alloc<|.cells #[.pointer none] 225).frozen? ⟨d+1,0,none⟩=u->True:=λ_ _=>trivial
  have h:(W1.drew.alloc<|.cells #[.pointer none] 225).heap[d+1]?=some (.cells #[.pointer none] 225 (0,0)):=by
   rw[<-ah];exact heap_alloc_new W1.drew _
  have u:=za (o:=0) h rfl;have z2:∀p,(W1.drew.alloc<|.cells #[.pointer none] 225).frozen? ⟨d+1,p,none⟩=false:=λp=>zg h
  go_simp;refine hK.z _ _ ?_;clear hK K;try simp only[PS]
  refine zq ?_;refine⟨rfl,?_⟩;go_wp2_with fail;go_meet;exact rZ
 case rest =>
 obtain⟨rfl,hw⟩:=hcut;have hw:=hw.symm;subst hw;have h:DO DQ W1 Z:=by rw[<-aI];exact(rp.alloc _).drew
 have bc:Z.heap.size=d+2:=by rw[<-aI];simp[World.drew,bb.z]
 have be:Z (d+1,0)=some (.pointer (b,9+k*15)):=by
  rw[<-aI];have:=heap_alloc_new W1<|.cells #[(b,9+k*15)] 225;rw[ah]at this;exact za (o:=0) this rfl
 have z2:=h.cell (a:=U d 2) id y2;have z5:=h.cell (a:=U d 5) id y5;have z8:=h.cell (a:=U d 8) id y8;have ad:=zb<|HH.z.lK<|M1.z.trans h;have u:=zb<|M1.z.trans h;have bT:(zu f.data).size=DL:=by rw[zG];exact a9.z
 have u:=jG x.lJ b (9+15*k+1) l (l+DL) (V k) Z.drew (by
  rw[<-HX.z];exact(ad.z.lK (DO.refl DQ Z).drew).c.oA hk (pu ag.z.lJ.rl ag.z.lJ.most.2)) (by rw[<-HX.z];exact ag.z.lJ) (by unfold zF;omega) (by unfold zF;omega)
 rw[AL 15 k]at u;have bf:((l+DL:Nat):Int)=(l:Int)+DL:=I;rw[bf]at u;have bU:=zb u;have w1:Z (b,9+k*15+1)=some (V k):=by rw[AL k 15];exact ad.z.c.w (j:=1) hk rfl
 have w2:Z (b,9+k*15+2)=some (.int .u64 ((c k).lJ.fl:Int)):=by rw[AL k 15];exact ad.z.c.w (j:=2) hk rfl
 have w3:Z (b,9+k*15+3)=some (.int .i64 ((c k).lJ.most:Int)):=by rw[AL k 15];exact ad.z.c.w (j:=3) hk rfl
 have bV:IntKind.u64.wrap (DL:Int)=(DL:Int):=by rw[IntKind.wrap_u64];omega
 have bW:=wu ((l:Int)+DL) I;have aQ:=zb be;have aR:=zb bc;have bg:=zb<|And.intro w1<|And.intro w2 w3;clear h y1 y2 y3 y4 y5 y6 y7 y8 y9 u bc ah bf w1 w2 w3;go_upto_region 4 with fail
 go_cut []from 12 to 112 (λwx=>∃(ac:rD) (V5:CV),AA (zA tag i b W0 V0 { c with ws:=ze c.ws k { c.ws k with lJ:=x.lJ.mN l (l+DL) } } ac V5 wx)/\AA ((∀g,g<Z.heap.size->ac g=mU g)/\DO (λg=>g=b) Z wx/\(x.lJ.mN l<|l+DL).Ok/\(x.lJ.mN l<|l+DL).most=(c k).lJ.most))
 case first =>
  refine zH ?_;refine zn 16 (λw'=>w' (U (d+1) 0)=some (.pointer (b,9+k*15))/\w' (U d 2)=some (.int .u64 l)/\w' (U d 8)=some (.string<|zu f.data)) (⟨be,z2,z8⟩) ?_;refine GI 0 ?_;iterate 13
   refine GV rfl ?_;try simp only[PS]
  refine zz 13 rfl (λK hK=>?_);go_simp;refine bU.z.mono ?_;rintro e W4 ⟨h,rfl,aS,aT,m4⟩;obtain⟨aU,aV,bX,_⟩:=zk aS;have M4:=zb m4;have mm:=(DO.refl DQ Z).drew.trans m4;refine hK.z _ _ ⟨mm.cell (a:=U (d+1) 0) id aQ.z,mm.cell (a:=U d 2) id z2,mm.cell (a:=U d 8) id z8⟩ ?_;clear hK K;try simp only[PS]
  refine GI 14 ?_;iterate 2
   refine GV rfl ?_;try simp only[PS]
  refine zY rfl (λK hK=>?_);have mm:=(DO.refl DQ Z).drew.trans M4.z;obtain⟨w1,w2,w3⟩:=bg.z;have q1:=mm.cell (a:=⟨b,_,none⟩) id w1;have q2:=mm.cell (a:=⟨b,_,none⟩) id w2;have h:=mm.cell (a:=⟨b,_,none⟩) id w3;have h:∀p,W4.frozen? ⟨b,p,none⟩=false:=λp=>zg<|mm.obj rk ad.z.c.obj
  have u:∀p v h,(W4.setCell ⟨b,p,none⟩ v).frozen? ⟨b,h,none⟩=false:=λp v h=>zg<|zc<|mm.obj rk ad.z.c.obj
  have cg:∀p v p2 u h,((W4.setCell ⟨b,p,none⟩ v).setCell ⟨b,p2,none⟩ u).frozen? ⟨b,h,none⟩=false:=λp v p2 u h=>zg<|zc<|zc<|mm.obj rk ad.z.c.obj
  subst bX;clear w1 w2 w3 mm;go_simp;refine hK.z _ _ ?_;clear hK K;try simp only[PS]
  refine zq ?_;have h:=zm bg.z.1;have an:(x.lJ.mN l<|l+DL).most=(c k).lJ.most:=by rw[HX.z];exact WE _ _ _ _
  obtain⟨t,A⟩:=nm<|x.lJ.mN l<|l+DL;rw[A]at aS aT an ⊢;have aw:=zb A;have aW:t.Ok:=by
   rw[<-A];exact Rq _ _ _ _ (λr hr=>by
    obtain⟨j,E⟩:=Ct hr;have aX:=(AO.1 E).1;have e:=Gh aX;rw[E]at e;cases e;rw[<-HX.z]at aX ⊢;exact ag.z.lJ.hi j aX) (In _<|by rw[<-HX.z];exact ag.z.lJ.most)
  obtain⟨W5,ax⟩:=nm<|(((W4.setCell (b,9+k*15+1)<|.slice aU t.rs.length aV).setCell (b,9+k*15+1+1)<|.int .u64 t.fl).setCell (b,9+k*15+1+2)<|.int .i64 t.most);have h:DO (λg=>g=b) W4 W5:=by
   rw[<-ax];exact(((DO.refl (λg=>g=b) W4).setCell (p:=⟨b,_,none⟩) rj _).setCell (p:=⟨b,_,none⟩) rj _).setCell (p:=⟨b,_,none⟩) rj _
  have u:=M4.z;have ae:Mq t b (9+15*k+1) (V k) Z.drew W5 (.slice aU t.rs.length aV):=by
   refine⟨h.owns aS<|λg hg x=>?_,?_,(u.mono rm).trans<|h.mono<|λg hg=>.inl<|.inl hg,λg hg=>.inr<|aT g hg⟩
   .have:=aT g hg;have x:=x;have e:Z.drew.heap.size=Z.heap.size:=rfl;omega
   have o3:Z.drew.heap[b]?=some (.cells (zx c V).toArray 127 (0,0)):=ad.z.c.obj;have o4:=u.obj rk o3;have ep:9+k*15+1=9+15*k+1:=I;rw[<-ax,ep];have bY:((W4.setCell (b,9+15*k+1)<|.slice aU t.rs.length aV).setCell (b,9+15*k+1+1)<|.int .u64 t.fl) (b,9+15*k+1+2)=some (.int .i64 t.most):=by
    refine za (zc<|zc o4) ?_;have h3:(zx c V)[9+15*k+3]?=some (.int .i64 ((c k).lJ.most:Int)):=MJ c V hk rfl;rw[Cj I,Cj I,Ba,h3,an]
   rw[NY bY,zc<|zc o4,zc (zc o3)]
  obtain⟨ac,V5,R5,bZ⟩:=(ad.z.lK (DO.refl DQ Z).drew).lJ hk ae an;have e:AA ((∀g,g<Z.heap.size->ac g=mU g)/\DO (λg=>g=b) Z W5/\t.Ok/\t.most=(c k).lJ.most):=zb ⟨bZ,(((DO.refl DQ Z).drew.trans u).mono rm).trans h,aW,an⟩;have aj:=zb R5;clear R5;rw[ax];refine⟨rfl,?_⟩;go_wp2_with fail;go_meet;rw[aw.z];exact⟨ac,V5,aj,e⟩
 case rest =>
 obtain⟨ac,V5,aj,ak⟩:=hcut;obtain⟨W5,ax⟩:=nn wc;subst ax;obtain⟨t,A⟩:=nm<|x.lJ.mN l<|l+DL;rw[A]at aj ak;have aw:=zb A;have h:=zm<|HH.z.c.hd (j:=0) rfl;have h:W5 (d+1,0)=some (.pointer (b,9+k*15))/\W5 (d,5)=some (.bool f.fin):=by
  have e:=av.z;exact⟨ak.z.2.1.cell (a:=U (d+1) 0) (λx=>by have x:d+1=b:=x;omega) aQ.z,ak.z.2.1.cell (a:=U d 5) (λx=>by have x:d=b:=x;omega) z5⟩
 have l:d+2<=W5.heap.size:=by
  have:=aR.z;have h1:=ak.z.2.1.size;omega
 clear A z2 z5 z8 y0 bV bW bT aQ;have l:=zm<|aj.z.c.hd (j:=0) rfl;obtain⟨bh,b0⟩:=h;go_upto_region 5 with fail;go_wp2_with (go_at_call 141;refine((callsIn_wide (n:=8)).1<|X4 Fence.wide 8 trivial rfl b (9+k*15+4) W5).mono ?_;rintro e h ⟨rfl,rfl⟩);obtain⟨sB,h⟩:=nm W5.heap.size;have l:b<sB:=I;obtain⟨W6,ap⟩:=nm<|W5.alloc<|.cells #[(b,9+k*15+4)] 114;have bi:=ap;have m6:=AB ap;have ay:W6.heap.size=sB+1:=by rw[<-ap];simp[h]
 have b3:W6 sB=some (.pointer (b,9+k*15+4)):=by
  rw[<-ap,<-h];exact za (heap_alloc_new W5 _) rfl
 try rw[ap]
 try rw[h]
 refine(wpIn_wide (n:=8)).1 ?_;refine WD rfl lc (gf:=193) (lb:=#[.pointer sB]) rfl trivial (enters_of func193 kw rfl) ?_;intro fn h;generalize hrec:Loop.mk .ready none fn _ _ _ _ _=rec;rw[ay]at hrec ⊢;obtain⟨D,h⟩:=nm<|sB+1;rw[h]at hrec ay ⊢;obtain⟨W7,aq⟩:=nm<|(W6.alloc<|.deferred<|some []).alloc<|.loop rec;have bj:DO DQ W6 W7:=by rw[<-aq];exact(rp.alloc _).alloc _
 have h:W7.heap.size=D+2:=by rw[<-aq];simp[ay]
 have h:W7.heap[D]?=some (.deferred<|some []):=by
  rw[<-aq,<-ay];exact(Below.heap_alloc _ _ _ lm).trans (World.alloc_heap_new W6 _)
 have l:W7.heap[D+1]?=some (.loop rec):=by
  rw[<-aq];have:=World.alloc_heap_new (W6.alloc<|.deferred<|some [])<|.loop rec;rw[World.size_alloc,ay]at this;exact this
 rw[aq];have al:=m6.trans bj;have C5:=aj.z.c;obtain⟨c5,aY⟩:∃c5:CS,{ c with ws:=ze c.ws k { c.ws k with lJ:=t } }=c5:=⟨_,rfl⟩;rw[aY]at aj C5;have az:c5.ws k={ x with lJ:=t }:=by rw[<-aY,<-HX.z];simp[zf]
 obtain⟨rs,ar⟩:=nm x.lC.rs;have z:=C5.wc k hk;rw[az]at z;have z:W5.ownsRow 0 214 2 (V5.wc k) rs.length (zr rs):=by rw[<-ar];exact z
 obtain⟨a5,aA,aJ,_⟩:=zk z;rw[aJ]at z;have aB:∀j,(λr:Nat×Nat=>r.1<=zF/\r.2<=zF) (DU rs j,DP rs j):=λj=>by
  by_cases E:j<rs.length
  .have h1:=ag.z.lC.hi j (by rw[HX.z,ar];exact E);have h2:=ag.z.lC.wf.1 j (by rw[HX.z,ar];exact E);rw[HX.z,ar]at h1 h2;exact⟨by show DU rs j<=zF;omega,h1⟩
  have:DU rs j=0/\DP rs j=0:=by
   unfold DU DP;rw[Am,By I];exact rZ
  rw[this.1,this.2];exact⟨AN _,AN _⟩
 have bk:∀j,j<rs.length->DU rs j<18446744073709551616/\DP rs j<18446744073709551616:=λj _=>by
  have:=aB j;unfold zF at this;omega
 have aa:∃aa,aa=(zx c5 V5).toArray:=⟨_,rfl⟩;obtain⟨aa,af⟩:=aa;have bl:W5.heap[b]?=some (.cells aa 127 (0,0)):=by rw[af];exact C5.obj
 have g0:aa[9+k*15+1]?=some (V5 k):=by rw[af,Ba,AL k 15];exact MJ c5 V5 (j:=1) hk rfl
 have g1:aa[9+k*15+1+1]?=some (.int .u64 t.fl):=by rw[af,Ba,AL k 15];have:=MJ c5 V5 (k:=k) (j:=2) (v:=.int .u64 ((c5 k).lJ.fl:Int)) hk rfl;rw[az]at this;exact this
 have g2:aa[9+k*15+1+2]?=some (.int .i64 t.most):=by rw[af,Ba,AL k 15];have:=MJ c5 V5 (k:=k) (j:=3) (v:=.int .i64 ((c5 k).lJ.most:Int)) hk rfl;rw[az]at this;exact this
 have hz:=(AI.1 g2).1;have owns:W5.ownsRow 0 214 2 (V5 k) t.rs.length (zr t.rs):=by
  have:=C5.ws k hk;rw[az]at this;exact this
 have j0:Lz t b (9+k*15+1) 127 aa (V5 k) W5 D (D+1) rec [] (V5 k) W7:=by
  refine⟨al.owns owns<|λ_ _ x=>x,?_,al.mono rm,λg hg=>.inl hg,ak.z.2.2.1,rfl,h,l⟩;rw[al.obj rk bl];congr 2;apply Cf;intro j;simp only[BV,C9];by_cases q1:9+k*15+1+1=j
  .subst q1;rw[AM rfl,AM I,g1];rfl
  rw[AH q1];by_cases q2:9+k*15+1=j
  .subst q2;rw[AM rfl,AM I,g0]
  rw[AH q2]
 have l:=A8 Loop.assign hrec.symm;dsimp only at l;have u:=A8 Loop.body hrec.symm;dsimp only at u;have A:=A8 Loop.tmps hrec.symm;dsimp only at A;have bm:rec.params=#[38]:=by rw[<-hrec]
 have h:rec.state=.ready:=by rw[<-hrec]
 have bn:rec.pending=none:=by rw[<-hrec]
 have bo:=zb bn;have b4:=zb l;have b5:=zb u;have b6:=zb A;have bp:=zb bm;have aZ:=zb h;have b7:=bj.cell (a:=sB) id b3;have b8:W7 (b,9+k*15+4)=some (.slice a5 rs.length aA):=by
  have h1:W5 (b,9+k*15+4)=some (V5.wc k):=by rw[AL k 15];exact C5.w (j:=4) hk rfl
  rw[aJ]at h1;have:=al.cell (a:=⟨b,_,none⟩) id h1;have e:x.lC.rs.length=rs.length:=by rw[ar]
  simpa [e]using this
 have b9:RR W7 (.slice a5 rs.length aA) rs:=by
  have:=Fb.rr (rs:=rs) ⟨z,bk⟩;exact this.mod al<|Dj.no _
 have ca:∀g o,a5=some ⟨g,o,none⟩->g<W7.heap.size/\g≠b/\g≠D+1:=λg o e=>by
  have Z:(V5.wc k).ownBlock=some g:=by rw[aJ,e];rfl
  have h1:=C5.oB k hk g Z;have h2:=zK z g (by rw[e];rfl);refine⟨pp al.size,λx=>?_,I⟩;rw[x,C5.tb]at h1;simp at h1;omega
 have bq:∀g o,a5=some ⟨g,o,none⟩->g<W5.heap.size:=λg o e=>zK z g<|by rw[e];rfl
 have bt:∀g o,a5=some ⟨g,o,none⟩->(V5 k).ownBlock≠some g:=λg o e x=>by
  have Z:(V5.wc k).ownBlock=some g:=by rw[aJ,e];rfl
  have h1:=C5.oB k hk g Z;have h2:=C5.ng k hk g x;rw[h1]at h2;simp at h2
 clear hrec l u A bm h bn ap bi aq af;refine(fI Fence.wide 7 (λ_=>trivial) rfl lc (D+1) sB b (9+k*15+4) b aA a5 (λr=>r.1<=zF/\r.2<=zF) rs aB
  (λpre X=>∃h,Lz t b (9+k*15+1) 127 aa (V5 k) W5 D (D+1) rec (pre.map (·.1)) h X) (λ_ _=>False) W7 ?hY ?hJ ?hJx b7 b8 b9 I I ca ⟨_,j0⟩).mono ?post
 case hJ =>
  intro pre A Y row h hg hr;exact Lz.nt (B:=W7.heap.size) (pp al.size) I I I (pre.map (·.1)) A Y row h hg hr
 case hJx=>intro _ _ _ _ x;exact x.elim
 case hY =>
  rintro pre y X ⟨v,E⟩ h;have s:=zb E;have h:=(AI.1 E.rc).1;refine⟨_,_,_,_,run_yield E.rc<|by rw[bp.z];rfl,roundIn_of_wpIn trivial ?_⟩;rw[b4.z,b5.z,b6.z,bp.z];unfold L8;clear E;gi_wp2;have a0:(X.alloc<|.cells #[y.1.1,y.1.2] 214).heap[D+1]?=some (.loop rec):=(Below.heap_alloc _ _ _ h).trans s.z.rc;refine⟨_,run_beginRound a0 aZ.z,?_⟩;obtain⟨p0,a1⟩:=nm y.1.1;obtain⟨p1,a2⟩:=nm y.1.2;have aK:=y.2;simp only at aK;rw[a1,a2]at aK;rw[a1,a2]at a0 ⊢;obtain⟨O,ab⟩:∃O,(X.alloc<|.cells #[p0,p1] 214).putObj (D+1) (.loop { rec with state:=.busy })=O:=⟨_,rfl⟩;have aC:DO (λq=>q=D+1) X O:=by
   rw[<-ab];exact((DO.refl (λq=>q=D+1) X).alloc _).putObj rj _
  have bu:O.heap[D+1]?=some (.loop { rec with state:=.busy }):=by
   rw[<-ab];exact World.putObj_heap_same ls
  have a3:O.heap[X.heap.size]?=some (.cells #[p0,p1] 214 (0,0)):=by
   rw[<-ab];exact(World.putObj_heap_other I).trans (heap_alloc_new X _)
  have bv:O.heap[D]?=some (.deferred<|some []):=by
   rw[<-ab];exact(World.putObj_heap_other I).trans ((Below.heap_alloc _ _ _ I).trans s.z.df)
  have bw:v.ownBlock≠some b:=λe=>by
   obtain⟨am,T⟩:=JH s.z.own e;rw[s.z.ob]at T;simp at T
  have ao:v.ownBlock≠some (D+1):=λe=>by
   obtain⟨am,T⟩:=JH s.z.own e;rw[s.z.rc]at T;cases T
  have aD:v.ownBlock≠some D:=λe=>by
   obtain⟨am,T⟩:=JH s.z.own e;rw[s.z.df]at T;cases T
  have h:=(s.z.set hz g2).mod aC I (λg hg e=>ao (by rw[hg,show g=D+1 from e]));have u:=aC.obj (k:=b) I s.z.ob;rw[ab];have l:=s.z.ok;have z:=l.most;unfold zF at aK;have A:=Ks (t.me<|pre.map (·.1)) b (9+k*15+1) p0 p1 v O.drew (h.mod (DO.refl DQ O).drew rk<|λ_ _ x=>x) l.wf I I (Nat.lt_of_le_of_lt l.fl<|by unfold zF;decide) bw z.1<|AK z.2 lc;have z:=zb A;have B:O X=some (.int .u64 p0):=za a3 rfl;have Z:O (X,1)=some (.int .u64 p1):=za a3 rfl;have l:O (d+1,0)=some (.pointer (b,9+k*15)):=by
   have h1:=s.z.m.cell (a:=U (d+1) 0) (λq=>by
    rcases q with q|q
    .have q:d+1=b:=q;have:=av.z;omega
    have h3:=C5.ng k hk (d+1) q;have h4:=ak.z.1 (d+1) (by rw[aR.z];omega);rw[h4,HH.z.e.z (d+1) (by rw[av.z];omega)]at h3;have h5:=A8 Prod.snd h3;simp only at h5;omega) bh
   exact aC.cell (a:=U (d+1) 0) (by show ¬d+1=D+1;omega) h1
  have bx:=zb u;have bz:=zb bu;have cb:=zb bv;have bA:=zb aC;have ch:(prog).follows Departure.mixedOrders=true:=kw;have aE:Fence.wide.fn 88:=trivial;clear h u a0 a3 ab A bu bv aC;gi_wp2;refine Yq 7 (λw'=>w' X=some (.int .u64 p0)/\w' (U X 1)=some (.int .u64 p1)/\w' (U (d+1) 0)=some (.pointer (b,9+k*15))) kw kw kw (⟨B,Z,l⟩) ?_;refine GI 0 ?_;iterate 7
   refine GV rfl ?_;try simp only[PS]
  refine zY rfl (λK hK=>?_);go_simp
  with_reducible refine(z.z).mono ?_
  rintro e X3 ⟨v3,rfl,bB,bC,bD,bE⟩;have bF:=zb bB;have cc:=zb bC;have a4:=zb bD;have cd:=zb bE;clear bB bC bD bE;go_simp;refine hK.z _ _ ?_;clear hK K;try simp only[PS]
  refine zq ?_;refine⟨rfl,?_⟩;gi_wp2;have h:=(AI.1 bz.z).1;have bG:∀q,q=D\/q=D+1->¬(q=b\/v.ownBlock=some q):=λq N x=>by
   rcases N with rfl|rfl
   .rcases x with x|x
    .omega
    exact aD x
   rcases x with x|x
   .omega
   exact ao x
  have a6:=a4.z.obj (bG _<|.inr rfl) bz.z;have ce:=a4.z.obj (bG _ rj) cb.z;have bH:=(AI.1 a6).1;have h:DO (λq=>q=D+1\/q=b\/v.ownBlock=some q) X X3:=by
   refine(bA.z.mono<|λq N=>.inl<|.inl N).trans ((DO.refl _ O).drew.trans<|a4.z.mono<|λq N=>.inl<|.inr N)
  have bI:=λr=>h.putObj (.inl rj) r
  have a7:∀q,v.ownBlock=some q->(V5 k).ownBlock=some q\/W5.heap.size<=q:=s.z.nw;refine⟨_,_,run_endRound none a6,(bI _).mono<|λq N=>.inl ?_,rfl,v3,?_⟩
  .rcases N with N|N|N
   .exact .inr (.inl N)
   .exact .inl N
   refine .inr<|.inr ⟨λg o e y=>?_,?_⟩
   .subst y;rcases a7 _ N with y|y
    .exact bt _ _ e y
    have:=bq _ _ e;omega
   obtain⟨am,T⟩:=JH s.z.own N;exact⟨_,_,T⟩
  have aL:pre.map (·.1)++[y.1]=pre.map (·.1)++[(p0,p1)]:=by
   rw[<-a1,<-a2]
  have bJ:v3.ownBlock≠some (D+1):=λe=>by
   obtain⟨am,T⟩:=JH bF.z e;rw[a6]at T;cases T
  have l:=λr=>(DO.refl (λq=>q=D+1) X3).putObj rj r
  have h:=s.z.m.size;refine⟨?_,?_,?_,?_,?_,?_,?_,?_⟩
  .rw[aL,Qv];exact(l _).owns bF.z (λg hg e=>bJ<|by rw[hg,show g=D+1 from e])
  .rw[aL,Qv,World.putObj_heap_other I,cc.z,zc<|zc<|show O.drew.heap[b]?=_ from bx.z,fH]
  .refine s.z.m.then (bI _) (λq N=>?_);rcases N with N|N|N
   .exact .inr I
   .exact .inl (.inl N)
   rcases a7 q N with z|z
   .exact .inl (.inr z)
   exact .inr z
  .intro g hg;rcases cd.z g hg with z|z
   .exact a7 g z
   refine .inr ?_;have h1:=bA.z.size;have h2:O.drew.heap.size=O.heap.size:=rfl;omega
  .rw[aL,Qv];exact s.z.ok.add _ aK.2
  .rw[aL,Qw]
  .exact(World.putObj_heap_other I).trans ce
  rw[World.putObj_heap_same bH];have bK:=bo.z;have bL:=aZ.z;cases rec;simp only at bK bL;subst bK;subst bL;rfl
 case post =>
  rintro e X ⟨⟨h,rfl⟩,⟨v,E⟩|⟨q,N,hx⟩⟩;rotate_left
  .exact hx.elim
  have h:=run_endLoop (P:=prog) E.rc (by rw[aZ.z];simp);rw[bo.z]at h;refine⟨none,_,h,?_⟩;clear h;have aF:((Ff (λr:Nat×Nat=>r.1<=zF/\r.2<=zF) rs aB rs.length).map Hn.rr).map (·.1)=rs.reverse:=by
   have h1:((Ff (λr:Nat×Nat=>r.1<=zF/\r.2<=zF) rs aB rs.length).map Hn.rr).map (·.1)=((Ff (λr:Nat×Nat=>r.1<=zF/\r.2<=zF) rs aB rs.length).map (·.1)).map (·.2):=by
    rw[Ca,Ca];rfl
   rw[h1,jJ,Vd rs rs.length ro,Ab lm]
  rw[aF]at E;obtain⟨O,ab⟩:∃O,X.putObj (D+1) (.loop { rec with state:=.exhausted,pending:=none })=O:=⟨_,rfl⟩;have hm:DO (λq=>q=D+1) X O:=by rw[<-ab];exact(DO.refl (λq=>q=D+1) _).putObj rj _
  have hd:=hm.obj lm E.df;have bw:v.ownBlock≠some b:=λe=>by
   obtain⟨am,T⟩:=JH E.own e;rw[E.ob]at T;simp at T
  have ao:v.ownBlock≠some (D+1):=λe=>by
   obtain⟨am,T⟩:=JH E.own e;rw[E.rc]at T;cases T
  have aD:v.ownBlock≠some D:=λe=>by
   obtain⟨am,T⟩:=JH E.own e;rw[E.df]at T;cases T
  obtain⟨Y,hY⟩:=nm<|O.putObj D<|.deferred none;have s:DO (λq=>q=D\/q=D+1) X Y:=by
   rw[<-hY];exact(hm.mono<|λq N=>.inl<|.inr N).putObj (.inl rj) _
  have ae:Mq (t.me rs.reverse) b (9+15*k+1) (V5 k) W5 Y v:=by
   have ep:9+k*15+1=9+15*k+1:=I;rw[<-ep];refine⟨s.owns E.own<|λg hg e=>?_,?_,E.m.then s<|λq N=>.inr I,E.nw⟩
   .rcases e with e|e
    .exact aD (by rw[hg,e])
    exact ao<|by rw[hg,e]
   exact(s.block b (AI.1 E.ob).1 I).trans (E.ob.trans (zc<|zc bl).symm)
  obtain⟨aO,V6,u,e⟩:=aj.z.lJ hk ae (by rw[Qw,az]);have l:({ c5 with ws:=ze c5.ws k { c5.ws k with lJ:=t.me rs.reverse } }:CS)={ c with ws:=ze c.ws k { x with lJ:=t.me rs.reverse } }:=by
   rw[<-aY];simp only[zf];rw[Kn,HX.z]
  rw[l]at u;have e:(x.lJ.mN f.off<|f.off+f.data.length).me x.lC.rs.reverse=t.me rs.reverse:=by
   rw[ar,bR.z,a9.z,aw.z]
  have h:O.heap[b]?=some (.cells (zx { c with ws:=ze c.ws k { x with lJ:=t.me rs.reverse } } V6).toArray 127 (0,0)):=by
   rw[<-u.c.obj,<-hY,World.putObj_heap_other I]
  have z:=za (o:=9+k*15+9) h (by
   rw[Ba,AL k 15];exact MJ { c with ws:=ze c.ws k { x with lJ:=t.me rs.reverse } } V6 (k:=k) (j:=9) (v:=.bool x.ending) hk<|by simp[zf,Ft])
  have fz:∀j,O.frozen? ⟨b,j,none⟩=false:=λj=>zg h
  have c:∀q,q=d\/q=d+1->¬(q=b\/(V5 k).ownBlock=some q):=λq N x=>by
   have o:=av.z;rcases x with x|x
   .omega
   have h3:=C5.ng k hk q x;have h4:=ak.z.1 q (by rw[aR.z];omega);rw[h4,HH.z.e.z q (by rw[av.z];omega)]at h3;have h5:=A8 Prod.snd h3;simp only at h5;omega
  have o:=hm.cell (a:=U (d+1) 0) (by show ¬d+1=D+1;omega)<|E.m.cell (a:=U (d+1) 0) (c _<|.inr rfl) bh;have x5:=hm.cell (a:=U d 5) (by show ¬d=D+1;omega)<|E.m.cell (a:=U d 5) (c _ rj) b0;have aM:=zb u;have aN:=zb e;have bM:=zb hY;have a:=(AI.1 hd).1;rw[ab];clear u e h c hm E ae s hY ab l aF;cases aE:f.fin with
  | false =>
   rw[aE]at x5;have d:x.again f={ x with lJ:=t.me rs.reverse }:=by
    unfold WS.again;rw[aN.z,aE];simp
   have a:=zb d;have c:=aM;clear aM d aN;go_wp2_with fail;refine⟨lm,.inl ⟨_,_,rfl,run_takeDeferred hd,?_⟩⟩;refine⟨_,results_none rfl _ _ _,rfl,aO,V6,?_⟩;rw[bM.z,a.z];exact c.z
  | true =>
   rw[aE]at x5;have d:x.again f={ x with lJ:=t.me rs.reverse,ending:=false }:=by
    unfold WS.again;rw[aN.z,aE];simp
   have a:=zb d;have c:=zb<|aM.z.nL hk 9 lc (.bool false) { x with lJ:=t.me rs.reverse,ending:=false } rfl rfl rfl rfl;clear aM d aN;go_wp2_with fail;have d:(O.setCell (b,9+k*15+9)<|.bool false).heap[D]?=some (.deferred<|some []):=((DO.refl (λq=>q=b) O).setCell (p:=⟨b,_,none⟩) rj _).obj I hd;refine⟨lm,.inl ⟨_,_,rfl,run_takeDeferred d,?_⟩⟩;refine⟨_,results_none rfl _ _ _,rfl,aO,V6,?_⟩;rw[kL I,bM.z,AL k 15,a.z];exact c.z
end
section
open Go.RowKit Go.Proofs.Tryz
variable{V' V0:CV}{W' W0:rq}{b i k:Nat}{c:CS}{tag ky:rD}
def zA.mq{y:RS}(h:zA tag i b W0 V0 { c with rs:=ze c.rs k y } ky V' W')(d:k<8)(j:Nat)(e:j<13)(v:rt)(x:RS)(f:Gi x (V'.rb k) (V'.rc k)=(Gi y (V'.rb k) (V'.rc k)).set j v)(l:x.b=y.b)(o:x.lC.rs=y.lC.rs):zA tag i b W0 V0 { c with rs:=ze c.rs k x } ky V' (W'.setCell (b,129+13*k+j) v):=by
 have a:DO (λq=>q=b) W' (W'.setCell (b,129+13*k+j) v):=(DO.refl (λq=>q=b) _).setCell (p:=⟨b,_,none⟩) rj _;exact⟨h.c.n8 d j e v x f l o,⟨h.e.mL,h.e.new,h.e.z.mod a⟩,Er h.e h.m<|a.mono<|λq a=>.inl<|EU (r:=1) (by rw[show q=b from a];exact h.c.tb) lc,h.p,h.ft⟩
def MS(a b:Nat):((a:Int)==(b:Int))=(a==b):=by
 rw[Cw];simp;try omega
variable{c':CS}
def zA.same(h:zA tag i b W0 V0 c ky V' W')(e:c=c'):zA tag i b W0 V0 c' ky V' W':=e ▸ h
variable{V:CV}{W:rq}{mU:rD}
def jF(h:zA tag i b W0 V0 c mU V W)(f:DV)(e:rt)(o:f.kind=5)(v:c.lU=true):rT 80 #[(b,0),.agg (zj f e)] W (I7 tag i b W0 V0 { c with lU:=true }):=by
 have a:=zb h;obtain⟨W1,a⟩:=nm<|W.alloc<|.cells (zj f e) 65;have s:=AB a;have d:zl W1 W.heap.size f e:=by rw[<-a];exact heap_alloc_new W _
 obtain⟨z,e⟩:=nm W.heap.size;rw[e]at d;have p:=zb a;have q:=zb e;have l:=zb<|h.lK s;obtain⟨u,T,A,X,t,B,E,K,N,O⟩:=d.cells;rw[o]at u;obtain⟨T,o⟩:=nm f.mF;obtain⟨u,f⟩:=nm c.kz;rw[o]at t;have o:W1 (b,234)=some (.int .u64 u):=by rw[<-f];exact l.z.c.tl (j:=1) rfl
 have f:W1 (b,235)=some (.bool true):=by rw[<-v];exact l.z.c.tl (j:=2) rfl
 have fz:=λj=>l.z.c.fz j
 clear h s d a e B E K N O A;refine(callsIn_wide (n:=8)).1 ?_;refine callsIn_of_wp_marks func80 rfl trivial ?_ rfl;simp only[ntmps80,An,AS,Ae,Nat.reduceAdd,Nat.reduceSub,BC,BB,BK,BE,Aq,BS];refine wpIn_wide.2 ?_;go_upto_region 1 with fail;rw[q.z,p.z];go_upto_region 15 with fail;refine zH ?_;refine zn 16 (λw'=>w' (U z 4)=some (.int .u64 T)/\w' (U b 234)=some (.int .u64 u)/\w' (U b 235)=some (.bool true)) (⟨t,o,f⟩) ?_;refine GI 0 ?_;iterate 6
  refine GV rfl ?_;try simp only[PS]
 refine GI 6 ?_;iterate 7
  refine GU rfl (λ_ _ _ h=>nomatch h.1) ?_;try simp only[PS]
 refine GI 13 ?_;iterate 3
  refine GV rfl ?_;try simp only[PS]
 refine zY rfl (λK a=>?_);go_simp;refine a.z _ _ ?_;clear a K;try simp only[PS]
 refine zq ?_;refine⟨rfl,?_⟩;go_wp2_with fail;refine⟨_,results_none rfl _ _ _,rfl,mU,V,?_⟩;exact(l.z.store (233+2) (.bool true) (GA c { c with lU:=true } V V _ rfl rfl rfl rfl) ⟨rfl,λ_ _=>⟨rfl,rfl,rfl⟩,λ_ _=>⟨rfl,rfl⟩,rfl,rfl,rfl,rfl⟩).lK (DO.refl DQ _).drew
def jE(h:zA tag i b W0 V0 c mU V W)(f:DV)(e:rt)(l:f.kind=5)(A:c.lU=false):rT 80 #[(b,0),.agg (zj f e)] W (I7 tag i b W0 V0 { c with lU:=f.mF==c.kz }):=by
 have a:=zb h;obtain⟨W1,a⟩:=nm<|W.alloc<|.cells (zj f e) 65;have v:=AB a;have d:zl W1 W.heap.size f e:=by rw[<-a];exact heap_alloc_new W _
 obtain⟨B,e⟩:=nm W.heap.size;rw[e]at d;have s:=zb a;have t:=zb e;have p:=zb<|h.lK v;obtain⟨o,q,E,u,z,K,N,O,T,X⟩:=d.cells;rw[l]at o;obtain⟨u,l⟩:=nm f.mF;obtain⟨q,o⟩:=nm c.kz;rw[l]at z;have Y:W1 (b,234)=some (.int .u64 q):=by rw[<-o];exact p.z.c.tl (j:=1) rfl
 have Z:W1 (b,235)=some (.bool false):=by rw[<-A];exact p.z.c.tl (j:=2) rfl
 have fz:=λj=>p.z.c.fz j
 clear h v d a e K N O T X E;refine(callsIn_wide (n:=8)).1 ?_;refine callsIn_of_wp_marks func80 rfl trivial ?_ rfl;simp only[ntmps80,An,AS,Ae,Nat.reduceAdd,Nat.reduceSub,BC,BB,BK,BE,Aq,BS];refine wpIn_wide.2 ?_;go_upto_region 1 with fail;rw[t.z,s.z];go_upto_region 15 with fail;refine zH ?_;refine zn 16 (λw'=>w' (U B 4)=some (.int .u64 u)/\w' (U b 234)=some (.int .u64 q)/\w' (U b 235)=some (.bool false)) (⟨z,Y,Z⟩) ?_;refine GI 0 ?_;iterate 16
  refine GV rfl ?_;try simp only[PS]
 refine zY rfl (λK a=>?_);go_simp;refine a.z _ _ ?_;clear a K;try simp only[PS]
 refine zq ?_;refine⟨rfl,?_⟩;go_wp2_with fail;refine⟨_,results_none rfl _ _ _,rfl,mU,V,?_⟩;rw[show(f.mF==c.kz)=((u:Int)==(q:Int))by rw[l,o,MS]];exact(p.z.store (233+2) (.bool _) (GA c { c with lU:=((u:Int)==(q:Int)) } V V _ rfl rfl rfl rfl) ⟨rfl,λ_ _=>⟨rfl,rfl,rfl⟩,λ_ _=>⟨rfl,rfl⟩,rfl,rfl,rfl,rfl⟩).lK (DO.refl DQ _).drew
def jD(h:zA tag i b W0 V0 c mU V W)(f:DV)(e:rt)(k:Nat)(q:k<8)(o:f.stream=(k:Int))(l:f.kind=6)(s:(c.rs k).lU=true):rT 80 #[(b,0),.agg (zj f e)] W (I7 tag i b W0 V0 { c with rs:=ze c.rs k { c.rs k with lU:=true } }):=by
 have a:=zb h;obtain⟨W1,a⟩:=nm<|W.alloc<|.cells (zj f e) 65;have v:=AB a;have d:zl W1 W.heap.size f e:=by rw[<-a];exact heap_alloc_new W _
 obtain⟨z,e⟩:=nm W.heap.size;rw[e]at d;have t:=zb a;have u:=zb e;have p:=zb<|h.lK v;obtain⟨E,A,K,Z,B,N,O,T,X,Y⟩:=d.cells;rw[l]at E;obtain⟨Z,l⟩:=nm f.mF;obtain⟨E,f⟩:=nm<|(c.rs k).kz;rw[l]at B;have q1:W1 (b,129+k*13+11)=some (.int .u64 E):=by rw[<-f,AL k 13];exact p.z.c.r (j:=11) q rfl
 have q2:W1 (b,129+k*13+12)=some (.bool true):=by rw[<-s,AL k 13];exact p.z.c.r (j:=12) q rfl
 have fz:=λj=>p.z.c.fz j
 have HA:=zb s;have aa:=zb l;have ab:=zb f;rw[o]at A;have d0:(0:Int)<=k:=I;have d8:(k:Int)<8:=I;clear s l f o;clear h v d a e N O T X Y K;refine(callsIn_wide (n:=8)).1 ?_;refine callsIn_of_wp_marks func80 rfl trivial ?_ rfl;simp only[ntmps80,An,AS,Ae,Nat.reduceAdd,Nat.reduceSub,BC,BB,BK,BE,Aq,BS];refine wpIn_wide.2 ?_;go_upto_region 1 with fail;rw[u.z,t.z];go_upto_region 17 with fail;refine zH ?_;refine zn 7 (λw'=>w' (U z 1)=some (.int .i64 k)) (A) ?_;refine GI 0 ?_;iterate 7
  refine GV rfl ?_;try simp only[PS]
 refine zq ?_;refine⟨rfl,?_⟩;go_upto_region 18 with fail;refine zH ?_;refine zn 16 (λw'=>w' (U z 4)=some (.int .u64 Z)/\w' (b,129+k*13+11)=some (.int .u64 E)/\w' (b,129+k*13+12)=some (.bool true)) (⟨B,q1,q2⟩) ?_;refine GI 0 ?_;iterate 6
  refine GV rfl ?_;try simp only[PS]
 refine GI 6 ?_;iterate 7
  refine GU rfl (λ_ _ _ h=>nomatch h.1) ?_;try simp only[PS]
 refine GI 13 ?_;iterate 3
  refine GV rfl ?_;try simp only[PS]
 refine zY rfl (λK a=>?_);go_simp;refine a.z _ _ ?_;clear a K;try simp only[PS]
 refine zq ?_;refine⟨rfl,?_⟩;go_wp2_with fail;refine⟨_,results_none rfl _ _ _,rfl,mU,V,?_⟩;have a:zA tag i b W0 V0 { c with rs:=ze c.rs k (c.rs k) } mU V W1:=p.z.same (by rw[Fd]);have d:=a.mq q 12 lc (.bool true) { c.rs k with lU:=true } rfl rfl rfl;rw[AL k 13];exact d.lK<|((DO.refl DQ _).drew).drew
def jC(h:zA tag i b W0 V0 c mU V W)(f:DV)(e:rt)(k:Nat)(u:k<8)(p:f.stream=(k:Int))(l:f.kind=6)(v:(c.rs k).lU=false):rT 80 #[(b,0),.agg (zj f e)] W (I7 tag i b W0 V0 { c with rs:=ze c.rs k { c.rs k with lU:=f.mF==(c.rs k).kz } }):=by
 have a:=zb h;obtain⟨W1,a⟩:=nm<|W.alloc<|.cells (zj f e) 65;have K:=AB a;have d:zl W1 W.heap.size f e:=by rw[<-a];exact heap_alloc_new W _
 obtain⟨N,e⟩:=nm W.heap.size;rw[e]at d;have z:=zb a;have A:=zb e;have s:=zb<|h.lK K;obtain⟨o,O,X,q,T,Y,Z,y7,y8,y9⟩:=d.cells;rw[l]at o;obtain⟨t,l⟩:=nm f.mF;obtain⟨q,o⟩:=nm<|(c.rs k).kz;rw[l]at T;have q1:W1 (b,129+k*13+11)=some (.int .u64 q):=by rw[<-o,AL k 13];exact s.z.c.r (j:=11) u rfl
 have q2:W1 (b,129+k*13+12)=some (.bool false):=by rw[<-v,AL k 13];exact s.z.c.r (j:=12) u rfl
 have fz:=λj=>s.z.c.fz j
 have B:=zb v;have B:=zb l;have E:=zb o;rw[p]at O;have d0:(0:Int)<=k:=I;have d8:(k:Int)<8:=I;clear v l o p;clear h K d a e Y Z y7 y8 y9 X;refine(callsIn_wide (n:=8)).1 ?_;refine callsIn_of_wp_marks func80 rfl trivial ?_ rfl;simp only[ntmps80,An,AS,Ae,Nat.reduceAdd,Nat.reduceSub,BC,BB,BK,BE,Aq,BS];refine wpIn_wide.2 ?_;go_upto_region 1 with fail;rw[A.z,z.z];go_upto_region 17 with fail;refine zH ?_;refine zn 7 (λw'=>w' (U N 1)=some (.int .i64 k)) (O) ?_;refine GI 0 ?_;iterate 7
  refine GV rfl ?_;try simp only[PS]
 refine zq ?_;refine⟨rfl,?_⟩;go_upto_region 18 with fail;refine zH ?_;refine zn 16 (λw'=>w' (U N 4)=some (.int .u64 t)/\w' (b,129+k*13+11)=some (.int .u64 q)/\w' (b,129+k*13+12)=some (.bool false)) (⟨T,q1,q2⟩) ?_;refine GI 0 ?_;iterate 16
  refine GV rfl ?_;try simp only[PS]
 refine zY rfl (λK a=>?_);go_simp;refine a.z _ _ ?_;clear a K;try simp only[PS]
 refine zq ?_;refine⟨rfl,?_⟩;go_wp2_with fail;refine⟨_,results_none rfl _ _ _,rfl,mU,V,?_⟩;rw[show(f.mF==(c.rs k).kz)=((t:Int)==(q:Int))by rw[B.z,E.z,MS]];have a:zA tag i b W0 V0 { c with rs:=ze c.rs k (c.rs k) } mU V W1:=s.z.same (by rw[Fd]);have d:=a.mq u 12 lc (.bool<|(t:Int)==(q:Int)) { c.rs k with lU:=((t:Int)==(q:Int)) } rfl rfl rfl;rw[AL k 13];exact d.lK<|((DO.refl DQ _).drew).drew
def jB(h:zA tag i b W0 V0 c mU V W)(f:DV)(e:rt)(k:Nat)(t:k<8)(p:f.stream=(k:Int))(l:f.kind=3)(q:f.rel=(c k).lG):rT 80 #[(b,0),.agg (zj f e)] W (I7 tag i b W0 V0 { c with ws:=ze c.ws k { c.ws k with lN:=false } }):=by
 have a:=zb h;obtain⟨W1,a⟩:=nm<|W.alloc<|.cells (zj f e) 65;have A:=AB a;have d:zl W1 W.heap.size f e:=by rw[<-a];exact heap_alloc_new W _
 obtain⟨B,e⟩:=nm W.heap.size;rw[e]at d;have u:=zb a;have v:=zb e;have s:=zb<|h.lK A;obtain⟨o,E,O,K,z,T,X,Y,Z,y9⟩:=d.cells;rw[l]at o;obtain⟨z,l⟩:=nm<|(c k).lG;obtain⟨N,o⟩:=nm f.rel;rw[o]at K;rw[l,o]at q;have f:W1 (b,9+k*15+11)=some (.int .u64 z):=by rw[<-l,AL k 15];exact s.z.c.w (j:=11) t rfl
 have q2:W1 (b,9+k*15+13)=some (.bool (c k).lN):=by rw[AL k 15];exact s.z.c.w (j:=13) t rfl
 have fz:=λj=>s.z.c.fz j
 have hb:((N:Int)==(z:Int))=true:=by rw[MS];simp[q]
 have HR:=zb q;rw[p]at E;have d0:(0:Int)<=k:=I;have d8:(k:Int)<8:=I;clear l o p q;clear h A d a e T X Y Z y9 O;refine(callsIn_wide (n:=8)).1 ?_;refine callsIn_of_wp_marks func80 rfl trivial ?_ rfl;simp only[ntmps80,An,AS,Ae,Nat.reduceAdd,Nat.reduceSub,BC,BB,BK,BE,Aq,BS];refine wpIn_wide.2 ?_;go_upto_region 1 with fail;rw[v.z,u.z];go_upto_region 11 with fail;refine zH ?_;refine zn 7 (λw'=>w' (U B 1)=some (.int .i64 k)) (E) ?_;refine GI 0 ?_;iterate 7
  refine GV rfl ?_;try simp only[PS]
 refine zq ?_;refine⟨rfl,?_⟩;go_upto_region 12 with fail;refine zH ?_;refine zn 7 (λw'=>w' (U B 3)=some (.int .u64 N)/\w' (b,9+k*15+11)=some (.int .u64 z)) (⟨K,f⟩) ?_;refine GI 0 ?_;iterate 7
  refine GV rfl ?_;try simp only[PS]
 refine zq ?_;refine⟨rfl,?_⟩;go_wp2_with fail;refine⟨_,results_none rfl _ _ _,rfl,mU,V,?_⟩;have a:zA tag i b W0 V0 { c with ws:=ze c.ws k (c k) } mU V W1:=s.z.same (by rw[Fd]);have d:=a.nL t 13 lc (.bool false) { c.ws k with lN:=false } rfl rfl rfl rfl;rw[AL k 15];exact d.lK<|((DO.refl DQ _).drew).drew
def jA(h:zA tag i b W0 V0 c mU V W)(f:DV)(e:rt)(k:Nat)(A:k<8)(p:f.stream=(k:Int))(l:f.kind=3)(q:¬f.rel=(c k).lG):rT 80 #[(b,0),.agg (zj f e)] W (I7 tag i b W0 V0 { c with ws:=ze c.ws k (c k) }):=by
 have a:=zb h;obtain⟨W1,a⟩:=nm<|W.alloc<|.cells (zj f e) 65;have B:=AB a;have d:zl W1 W.heap.size f e:=by rw[<-a];exact heap_alloc_new W _
 obtain⟨E,e⟩:=nm W.heap.size;rw[e]at d;have u:=zb a;have v:=zb e;have s:=zb<|h.lK B;obtain⟨o,K,O,N,t,T,X,Y,Z,y9⟩:=d.cells;rw[l]at o;obtain⟨t,l⟩:=nm<|(c k).lG;obtain⟨z,o⟩:=nm f.rel;rw[o]at N;rw[l,o]at q;have f:W1 (b,9+k*15+11)=some (.int .u64 t):=by rw[<-l,AL k 15];exact s.z.c.w (j:=11) A rfl
 have q2:W1 (b,9+k*15+13)=some (.bool (c k).lN):=by rw[AL k 15];exact s.z.c.w (j:=13) A rfl
 have fz:=λj=>s.z.c.fz j
 have hb:((z:Int)==(t:Int))=false:=by rw[MS];simp[q]
 have A:¬(z:Int)=(t:Int):=I;have A:=zb q;rw[p]at K;have A:(0:Int)<=k:=I;have A:(k:Int)<8:=I;clear l o p q;clear h B d a e T X Y Z y9 O;refine(callsIn_wide (n:=8)).1 ?_;refine callsIn_of_wp_marks func80 rfl trivial ?_ rfl;simp only[ntmps80,An,AS,Ae,Nat.reduceAdd,Nat.reduceSub,BC,BB,BK,BE,Aq,BS];refine wpIn_wide.2 ?_;go_upto_region 1 with fail;rw[v.z,u.z];go_upto_region 11 with fail;refine zH ?_;refine zn 7 (λw'=>w' (U E 1)=some (.int .i64 k)) (K) ?_;refine GI 0 ?_;iterate 7
  refine GV rfl ?_;try simp only[PS]
 refine zq ?_;refine⟨rfl,?_⟩;go_upto_region 12 with fail;refine zH ?_;refine zn 7 (λw'=>w' (U E 3)=some (.int .u64 z)/\w' (b,9+k*15+11)=some (.int .u64 t)) (⟨N,f⟩) ?_;refine GI 0 ?_;iterate 7
  refine GV rfl ?_;try simp only[PS]
 refine zq ?_;refine⟨rfl,?_⟩;go_wp2_with fail;refine⟨_,results_none rfl _ _ _,rfl,mU,V,?_⟩;have a:zA tag i b W0 V0 { c with ws:=ze c.ws k (c k) } mU V W1:=s.z.same (by rw[Fd]);exact a.lK<|((DO.refl DQ _).drew).drew
def gA(h:zA tag i b W0 V0 c mU V W)(f:DV)(d:rt)(a:¬f.kind=3)(e:¬f.kind=4)(l:¬f.kind=5)(o:¬f.kind=6):rT 80 #[(b,0),.agg (zj f d)] W (I7 tag i b W0 V0 c):=by
 have a:=zb h;obtain⟨W1,a⟩:=nm<|W.alloc<|.cells (zj f d) 65;have o:=AB a;have c:zl W1 W.heap.size f d:=by rw[<-a];exact heap_alloc_new W _
 obtain⟨e,d⟩:=nm W.heap.size;rw[d]at c;have e:=zb a;have l:=zb d;have p:=zb<|h.lK o;obtain⟨A,B,q,E,K,s,t,u,v,z⟩:=c.cells;have A:¬(f.kind:Int)=3:=I;have A:¬(f.kind:Int)=4:=I;have A:¬(f.kind:Int)=5:=I;have A:¬(f.kind:Int)=6:=I;clear h o c a d s t u v z q;refine(callsIn_wide (n:=8)).1 ?_;refine callsIn_of_wp_marks func80 rfl trivial ?_ rfl;simp only[ntmps80,An,AS,Ae,Nat.reduceAdd,Nat.reduceSub,BC,BB,BK,BE,Aq,BS];refine wpIn_wide.2 ?_;go_upto_region 1 with fail;rw[l.z,e.z];go_wp2_with fail;refine⟨_,results_none rfl _ _ _,rfl,mU,V,?_⟩;exact p.z
structure JR(c:CS)(f:DV):Prop where
 k4:f.kind=4->Ly c f f.stream.toNat
 k3:f.kind=3->0<=f.stream/\f.stream<8
 k6:f.kind=6->0<=f.stream/\f.stream<8
theorem UM(h:zA tag i b W0 V0 c mU V W)(f:DV)(d:rt)(ok:JR c f)(e:∃a n u,d=.slice a n u):rT 80 #[(b,0),.agg (zj f d)] W (I7 tag i b W0 V0 (c.again f)):=by
 unfold CS.again;by_cases s:f.kind=4
 .rw[AM s];exact iA h f d _ (ok.k4 s) s e
 rw[AH s];by_cases p:f.kind=3
 .rw[AM p];obtain⟨v,z⟩:=ok.k3 p;have l:f.stream.toNat<8:=I;have o:f.stream=(f.stream.toNat:Int):=I;generalize f.stream.toNat=k at l o;by_cases a:f.rel=(c k).lG
  .have e:{ c.ws k with lN:=(c k).lN && !(f.rel==(c k).lG) }={ c.ws k with lN:=false }:=by simp[a]
   rw[e];exact jB h f d k l o p a
  have e:{ c.ws k with lN:=(c k).lN && !(f.rel==(c k).lG) }=c.ws k:=by
   have u:(f.rel==(c k).lG)=false:=by simp[a]
   rw[u];simp
  rw[e];exact jA h f d k l o p a
 rw[AH p];by_cases t:f.kind=5
 .rw[AM t];cases ha:c.lU with
  | true =>
   have:=jF h f d t ha;simpa using this
  | false =>
   have:=jE h f d t ha;simpa using this
 rw[AH t];by_cases q:f.kind=6
 .rw[AM q];obtain⟨v,z⟩:=ok.k6 q;have l:f.stream.toNat<8:=I;have o:f.stream=(f.stream.toNat:Int):=I;generalize f.stream.toNat=k at l o;cases ha:(c.rs k).lU with
  | true =>
   have:=jD h f d k l o q ha;simpa using this
  | false =>
   have:=jC h f d k l o q ha;simpa using this
 rw[AH q];exact gA h f d p s t q
def jh(c:CS)(f:DV):(c.again f).kx=c.kx:=by
 unfold CS.again;split
 .rfl
 split
 .rfl
 split
 .rfl
 split<;>rfl
theorem Ru:∀(a:List DV) (c:CS),(c.ly a).kx=c.kx
 | [],_=>rfl
 | f::a,c=>by
  show((c.again f).ly a).kx=_;rw[Ru a,jh]
variable{f:DV}{fs:List DV}
def VW(h:fs[k]?=some f):c.ly (fs.take (k+1))=(c.ly (fs.take k)).again f:=by
 unfold CS.ly;rw[BG,h,Ci];rfl
def Kr(tag:rD)(i b:Nat)(a:rq)(d:CV)(c:CS)(p:DW)(e:Ending)(W':rq):Prop :=
 e=.returned (.bool<|c.late p)/\∃ky e,zA tag i b a d (if c.late p then c.ly p.fs else c) ky e W'
def fw(h:zA tag i b W0 V0 c mU V W)(q:Nat)(s:W0 q=some (.pointer b))(A:¬Dr i tag q)
  (p:DW) (v:rt) (hp:(p,v)∈c.kx.zip V0.mr) (B:p.n<=zF) (E:p.at_<=zF) (h1:¬p.at_+6<=c.now) (h2:¬p.n+3<=c.lI) :
  rT 79 #[.agg #[.int .u64 p.n,.int .u64 p.at_,v],(q,0)] W (Kr tag i b W0 V0 c p):=by
 have f:c.late p=false:=by
  unfold CS.late;simp[h1,h2]
 unfold Kr;rw[f];simp only[BT,BZ];have HH:=zb h;have K:=zm s;have aa:AA (∀{c':CS} {ky:rD} {V':CV} {W':rq},zA tag i b W0 V0 c' ky V' W'->W' q=some (.pointer b)):=zb<|λr=>r.m.cell (a:=q) A s;have HP:=zb hp;obtain⟨N,d⟩:=nm p.n;obtain⟨O,e⟩:=nm p.at_;obtain⟨Y,T⟩:=nm p.fs;obtain⟨nw,t⟩:=nm c.now;obtain⟨lg,u⟩:=nm c.lI;rw[e,t]at h1;rw[d]at B;rw[e]at E;unfold zF at B E;rw[d,u]at h2;rw[d,e];have c:=h.c.fs (p,v) (by rw[h.ft.2];exact hp);obtain⟨l,Z,X,-,-⟩:=c;simp only at Z X;rw[T]at Z;obtain⟨a,z,rfl,q1,q2,-⟩:=X;have p:l.length=Y.length:=by rw[<-Z,BD]
 rw[p]at HP q1 ⊢;have c3:W (b,3)=some (.int .u64 nw):=by rw[<-t];exact h.c.hd (j:=3) rfl
 have v:W (b,237)=some (.int .u64 lg):=by rw[<-u];exact h.c.tl (j:=4) rfl
 have B:=aa.z h;obtain⟨W1,c⟩:=nm<|W.alloc<|.cells #[N,O,.slice a Y.length z] 173;have E:=AB c;have R1:=zb<|h.lK E;have X:=AD c;obtain⟨pb,l⟩:=nm W.heap.size;rw[l]at X;have z0:=za (o:=0) X rfl;have z1:=za (o:=1) X rfl;have z2:W1 (pb,2)=some (.slice a Y.length z):=za (o:=2) X rfl;have x3:=E.cell (a:=⟨b,_,none⟩) id c3;have o:=E.cell (a:=⟨b,_,none⟩) id v;have z:=E.cell (a:=⟨q,_,none⟩) id B;have a:=zb c;have Y:=zb l;have ab:=zb p;have d1:¬(O:Int)+6<=nw:=I;have y1:=wu ((O:Int)+6) I;have y2:=wu ((N:Int)+3) I;have d2:¬(N:Int)+3<=lg:=I;clear h hp d e T t u h1 f E X c3 v B c l Z p q1 q2 s A K h2;go_enter func79,ntmps79;go_upto_region 1 with fail;rw[a.z,Y.z];refine zH ?_;refine zn 19 (λw'=>w' pb=some (.int .u64 N)/\w' (U pb 1)=some (.int .u64 O)/\w' q=some (.pointer b)/\w' (U b 3)=some (.int .u64 nw)/\w' (U b 237)=some (.int .u64 lg)) (⟨z0,z1,z,x3,o⟩) ?_;refine GI 0 ?_;iterate 19
  refine GV rfl ?_;try simp only[PS]
 refine zq ?_;refine⟨rfl,?_⟩;go_wp2_with fail;go_ret;exact⟨rfl,mU,V,R1.z.lK (DO.refl DQ _).drew⟩
def fp(h:zA tag i b W0 V0 c mU V W)(A:Nat)(B:W0 A=some (.pointer b))(Y:¬Dr i tag A)
  (p:DW) (v:rt) (hp:(p,v)∈c.kx.zip V0.mr) (N:p.n<=zF) (aa:p.at_<=zF) (E:∀k f,p.fs[k]?=some f->JR (c.ly<|p.fs.take k) f) (al:p.fs.length<=1099511627776) (h1:p.at_+6<=c.now) :
  rT 79 #[.agg #[.int .u64 p.n,.int .u64 p.at_,v],(A,0)] W (Kr tag i b W0 V0 c p):=by
 have e:c.late p=true:=by
  unfold CS.late;simp[h1]
 unfold Kr;rw[e];simp only[A9];have HH:=zb h;have ab:=zm B;have ac:AA (∀{c':CS} {ky:rD} {V':CV} {W':rq},zA tag i b W0 V0 c' ky V' W'->W' A=some (.pointer b)):=zb<|λr=>r.m.cell (a:=A) Y B;have HP:=zb hp;obtain⟨pn,s⟩:=nm p.n;obtain⟨pa,d⟩:=nm p.at_;obtain⟨q,t⟩:=nm p.fs;obtain⟨nw,K⟩:=nm c.now;obtain⟨lg,ad⟩:=nm c.lI;rw[d,K]at h1;rw[s]at N;rw[d]at aa;unfold zF at N aa;rw[t]at E al;rw[s,d,t];have N:=h.c.fs (p,v) (by rw[h.ft.2];exact hp);obtain⟨l,hl,ae,-,-⟩:=N;simp only at hl ae;rw[t]at hl;obtain⟨a,z,rfl,q1,q2,-⟩:=ae;have v:l.length=q.length:=by rw[<-hl,BD]
 rw[v]at HP q1 ⊢;have c3:W (b,3)=some (.int .u64 nw):=by rw[<-K];exact h.c.hd (j:=3) rfl
 have af:W (b,237)=some (.int .u64 lg):=by rw[<-ad];exact h.c.tl (j:=4) rfl
 have ag:=ac.z h;obtain⟨W1,l⟩:=nm<|W.alloc<|.cells #[pn,pa,.slice a q.length z] 173;have m1:=AB l;have R1:=zb<|h.lK m1;have o1:=AD l;obtain⟨pb,N⟩:=nm W.heap.size;rw[N]at o1;have z0:=za (o:=0) o1 rfl;have z1:=za (o:=1) o1 rfl;have z2:W1 (pb,2)=some (.slice a q.length z):=za (o:=2) o1 rfl;have x3:=m1.cell (a:=⟨b,_,none⟩) id c3;have ah:=m1.cell (a:=⟨b,_,none⟩) id af;have O:=m1.cell (a:=⟨A,_,none⟩) id ag;have am:=zb l;have an:=zb N;have aq:=zb v;have ao:=zb E;have ap:=zb t;have d1:(pa:Int)+6<=nw:=I;have y1:=wu ((pa:Int)+6) I;have y2:=wu ((pn:Int)+3) I;clear h hp s d t K ad h1 e m1 o1 c3 af ag l N hl v q1 q2 B Y ab E;go_enter func79,ntmps79;go_upto_region 1 with fail;rw[am.z,an.z];refine zH ?_;refine zn 19 (λw'=>w' pb=some (.int .u64 pn)/\w' (U pb 1)=some (.int .u64 pa)/\w' A=some (.pointer b)/\w' (U b 3)=some (.int .u64 nw)/\w' (U b 237)=some (.int .u64 lg)) (⟨z0,z1,O,x3,ah⟩) ?_;refine GI 0 ?_;iterate 9
  refine GV rfl ?_;try simp only[PS]
 refine GI 9 ?_;iterate 8
  refine GU rfl (λ_ _ _ h=>nomatch h.1) ?_;try simp only[PS]
 refine GI 17 ?_;iterate 2
  refine GV rfl ?_;try simp only[PS]
 refine zq ?_;refine⟨rfl,?_⟩;go_wp2_with fail
 go_loopw [29] (λd wr=>∃(k:Nat) (ky:rD) (V':CV),k<=q.length/\d=.int .i64 k/\AA (zA tag i b W0 V0 (c.ly<|q.take k) ky V' wr)) (λd _=>q.length-(intOf d).toNat)
 case atStart=>exact⟨0,mU,V,AN _,rfl,zb<|R1.z.lK (DO.refl DQ _).drew⟩
 case round =>
  clear z0 z1 z2 x3 ah O R1;obtain⟨k,ai,V1,d,rfl,HR⟩:=hrel;by_cases d:k<q.length
  .obtain⟨l1,u,d,-,-⟩:=HR.z.c.fs (p,.slice a q.length z) (by rw[Ru,HR.z.ft.2];exact HP.z);simp only at u d;rw[ap.z]at u;obtain⟨e,a,aj,_,_,h3⟩:=d;have a:l1.length=q.length:=by rw[<-u,BD]
   rw[a]at aj;cases aj;obtain⟨⟨f,rv⟩,T⟩:∃a,l1[k]?=some a:=⟨l1[k],AJ I⟩;have X:q[k]?=some f:=by rw[<-u,Bc,T];rfl
   obtain⟨⟨g,o,rfl,hc⟩,Z⟩:=h3 k (f,rv) T;simp only at hc Z;obtain⟨ra,rc,rfl,_⟩:=id Z;obtain⟨a,d,e,l,o,p,s,t,v,h⟩:=Ji hc;obtain⟨Y,a⟩:=nm<|wr.alloc<|.cells (zj f<|.slice ra f.lF.length rc) 65;have l:=AB a;have d:zl Y wr.heap.size f (.slice ra f.lF.length rc):=by rw[<-a];exact heap_alloc_new wr _
   obtain⟨e,y1,y2,p,s,t,v,z,A,o⟩:=d.cells;have e:=UM (HR.z.lK l) f (.slice ra f.lF.length rc) (ao.z k f X) ⟨_,_,_,rfl⟩;have p:=zb<|VW (c:=c) X;rw[<-p.z]at e;have O:=ac.z<|HR.z.lK l;obtain⟨RL,c⟩:=nm f.lF.length;rw[c]at h a o e;unfold zj at a e;have f:=zb e;clear h3 T hc Z l d e X u c;go_upto_region 6 with fail;try rw[a]
   clear a;go_wp2_with fail;refine(f.z).mono ?_;rintro e a ⟨rfl,ak,V6,r6⟩;have a:=zb r6;clear r6;go_wp2_with fail;go_roundw
   case rel=>exact⟨k+1,ak,V6,I,by go_num,a⟩
   simp[intOf];omega
  have a:q.length=k:=I;have a:=zb (by have:=HR.z;rwa [Ab I]at this);go_wp2_with fail;go_ret;exact⟨rfl,ai,V1,a.z⟩
def fo(h:zA tag i b W0 V0 c mU V W)(A:Nat)(B:W0 A=some (.pointer b))(Y:¬Dr i tag A)
  (p:DW) (v:rt) (hp:(p,v)∈c.kx.zip V0.mr) (O:p.n<=zF) (ab:p.at_<=zF) (E:∀k f,p.fs[k]?=some f->JR (c.ly<|p.fs.take k) f) (al:p.fs.length<=1099511627776) (h1:¬p.at_+6<=c.now) (h2:p.n+3<=c.lI) :
  rT 79 #[.agg #[.int .u64 p.n,.int .u64 p.at_,v],(A,0)] W (Kr tag i b W0 V0 c p):=by
 have s:c.late p=true:=by
  unfold CS.late;simp[h1,h2]
 unfold Kr;rw[s];simp only[A9];have HH:=zb h;have ac:=zm B;have ad:AA (∀{c':CS} {ky:rD} {V':CV} {W':rq},zA tag i b W0 V0 c' ky V' W'->W' A=some (.pointer b)):=zb<|λr=>r.m.cell (a:=A) Y B;have HP:=zb hp;obtain⟨pn,d⟩:=nm p.n;obtain⟨pa,e⟩:=nm p.at_;obtain⟨q,t⟩:=nm p.fs;obtain⟨nw,K⟩:=nm c.now;obtain⟨lg,N⟩:=nm c.lI;rw[e,K]at h1;rw[d]at O;rw[e]at ab;unfold zF at O ab;rw[d,N]at h2;rw[t]at E al;rw[d,e,t];have O:=h.c.fs (p,v) (by rw[h.ft.2];exact hp);obtain⟨l,hl,ae,-,-⟩:=O;simp only at hl ae;rw[t]at hl;obtain⟨a,z,rfl,q1,q2,-⟩:=ae;have v:l.length=q.length:=by rw[<-hl,BD]
 rw[v]at HP q1 ⊢;have c3:W (b,3)=some (.int .u64 nw):=by rw[<-K];exact h.c.hd (j:=3) rfl
 have af:W (b,237)=some (.int .u64 lg):=by rw[<-N];exact h.c.tl (j:=4) rfl
 have ag:=ad.z h;obtain⟨W1,l⟩:=nm<|W.alloc<|.cells #[pn,pa,.slice a q.length z] 173;have m1:=AB l;have R1:=zb<|h.lK m1;have o1:=AD l;obtain⟨pb,O⟩:=nm W.heap.size;rw[O]at o1;have z0:=za (o:=0) o1 rfl;have z1:=za (o:=1) o1 rfl;have z2:W1 (pb,2)=some (.slice a q.length z):=za (o:=2) o1 rfl;have x3:=m1.cell (a:=⟨b,_,none⟩) id c3;have ah:=m1.cell (a:=⟨b,_,none⟩) id af;have T:=m1.cell (a:=⟨A,_,none⟩) id ag;have am:=zb l;have an:=zb O;have aq:=zb v;have ao:=zb E;have ap:=zb t;have d1:¬(pa:Int)+6<=nw:=I;have y1:=wu ((pa:Int)+6) I;have y2:=wu ((pn:Int)+3) I;have d2:(pn:Int)+3<=lg:=I;clear h hp d e t K N h1 s m1 o1 c3 af ag l O hl v q1 q2 B Y ac h2 E;go_enter func79,ntmps79;go_upto_region 1 with fail;rw[am.z,an.z];refine zH ?_;refine zn 19 (λw'=>w' pb=some (.int .u64 pn)/\w' (U pb 1)=some (.int .u64 pa)/\w' A=some (.pointer b)/\w' (U b 3)=some (.int .u64 nw)/\w' (U b 237)=some (.int .u64 lg)) (⟨z0,z1,T,x3,ah⟩) ?_;refine GI 0 ?_;iterate 19
  refine GV rfl ?_;try simp only[PS]
 refine zq ?_;refine⟨rfl,?_⟩;go_wp2_with fail
 go_loopw [29] (λd wr=>∃(k:Nat) (ky:rD) (V':CV),k<=q.length/\d=.int .i64 k/\AA (zA tag i b W0 V0 (c.ly<|q.take k) ky V' wr)) (λd _=>q.length-(intOf d).toNat)
 case atStart=>exact⟨0,mU,V,AN _,rfl,zb<|R1.z.lK (DO.refl DQ _).drew⟩
 case round =>
  clear z0 z1 z2 x3 ah T R1;obtain⟨k,ai,V1,d,rfl,HR⟩:=hrel;by_cases d:k<q.length
  .obtain⟨l1,u,d,-,-⟩:=HR.z.c.fs (p,.slice a q.length z) (by rw[Ru,HR.z.ft.2];exact HP.z);simp only at u d;rw[ap.z]at u;obtain⟨e,a,aj,_,_,h3⟩:=d;have a:l1.length=q.length:=by rw[<-u,BD]
   rw[a]at aj;cases aj;obtain⟨⟨f,rv⟩,X⟩:∃a,l1[k]?=some a:=⟨l1[k],AJ I⟩;have Z:q[k]?=some f:=by rw[<-u,Bc,X];rfl
   obtain⟨⟨g,o,rfl,hc⟩,aa⟩:=h3 k (f,rv) X;simp only at hc aa;obtain⟨ra,rc,rfl,_⟩:=id aa;obtain⟨a,d,e,l,o,p,s,t,v,h⟩:=Ji hc;obtain⟨Y,a⟩:=nm<|wr.alloc<|.cells (zj f<|.slice ra f.lF.length rc) 65;have l:=AB a;have d:zl Y wr.heap.size f (.slice ra f.lF.length rc):=by rw[<-a];exact heap_alloc_new wr _
   obtain⟨e,y1,y2,p,s,t,v,z,A,o⟩:=d.cells;have e:=UM (HR.z.lK l) f (.slice ra f.lF.length rc) (ao.z k f Z) ⟨_,_,_,rfl⟩;have p:=zb<|VW (c:=c) Z;rw[<-p.z]at e;have T:=ad.z<|HR.z.lK l;obtain⟨RL,c⟩:=nm f.lF.length;rw[c]at h a o e;unfold zj at a e;have f:=zb e;clear h3 X hc aa l d e Z u c;go_upto_region 6 with fail;try rw[a]
   clear a;go_wp2_with fail;refine(f.z).mono ?_;rintro e a ⟨rfl,ak,V6,r6⟩;have a:=zb r6;clear r6;go_wp2_with fail;go_roundw
   case rel=>exact⟨k+1,ak,V6,I,by go_num,a⟩
   simp[intOf];omega
  have a:q.length=k:=I;have a:=zb (by have:=HR.z;rwa [Ab I]at this);go_wp2_with fail;go_ret;exact⟨rfl,ai,V1,a.z⟩
def fG(h:zA tag i b W0 V0 c mU V W)(o:Nat)(a:W0 o=some (.pointer b))(d:¬Dr i tag o)
  (p:DW) (v:rt) (t:(p,v)∈c.kx.zip V0.mr) (e:p.n<=zF) (l:p.at_<=zF) (q:c.late p=true->∀k f,p.fs[k]?=some f->JR (c.ly<|p.fs.take k) f) (s:p.fs.length<=1099511627776) :
  rT 79 #[.agg #[.int .u64 p.n,.int .u64 p.at_,v],(o,0)] W (Kr tag i b W0 V0 c p):=by
 by_cases f:p.at_+6<=c.now
 .exact fp h o a d p v t e l (q<|by simp[CS.late,f]) s f
 by_cases u:p.n+3<=c.lI
 .exact fo h o a d p v t e l (q<|by simp[CS.late,u]) s f u
 exact fw h o a d p v t e l f u
structure L6(J:Nat->List (DW×rt)->rq->Prop)(N g:Nat):Prop where
 box:∀k R w w',J k R w->DO DQ w w'->J k R w'
 len:∀k R w,J k R w->R.length=N
 rd:∀k R w,J k R w->∀(j:Nat) (x:DW×rt),R[j]?=some x->w.cell? (g,j*3)=some (.int .u64 x.1.n)/\w.cell? (g,j*3+1)=some (.int .u64 x.1.at_)/\w.cell? (g,j*3+2)=some x.2
def Sb(J:Nat->List (DW×rt)->rq->Prop)(del:DW->Bool)(L:List (DW×rt))(e:Ending)(w':rq):Prop :=
 (∃k:Nat,e=.returned (.int .i64 k)/\k<L.length/\(∀x∈L.take k,del x.1=false)/\(∀x,L[k]?=some x->del x.1=true)/\J (k+1) L w') \/
 (e=.returned (.int .i64 (-1))/\(∀x∈L,del x.1=false)/\J L.length L w')
theorem fm(J:Nat->List (DW×rt)->rq->Prop)(del:DW->Bool)(L:List (DW×rt))(N g cap s:Nat)(a:rE)(u:L.length=N)(d:N<=1099511627776)(v:0<N->a=some ⟨g,0,none⟩)(z:L6 J N g)
  (d:∀k w x,J k L w->L[k]?=some x->rT 79 #[.agg #[.int .u64 x.1.n,.int .u64 x.1.at_,x.2],(s,0)] w (λe w'=>e=.returned (.bool<|del x.1)/\J (k+1) L w'))
  (w:rq) (A:J 0 L w) :
  rT 139 #[.slice a N cap,.func (.func 79) #[] #[.pointer s]] w (Sb J del L):=by
 have K:=zb z;have O:=zb d;have s:=zb A;have T:=zb v;have l:=zb u;clear z d A v u;go_enter func139,ntmps139;go_wp2_with fail
 go_loopw [8] (λa wr=>∃k:Nat,k<=N/\a=.int .i64 k/\AA (J k L wr/\∀x∈L.take k,del x.1=false)) (λa _=>N-(intOf a).toNat)
 case atStart=>exact⟨0,AN _,rfl,zb ⟨s.z,λx c=>by simp at c⟩⟩
 case round =>
  obtain⟨k,a,rfl,h⟩:=hrel;by_cases f:k<N
  .obtain⟨x,c⟩:∃x,L[k]?=some x:=⟨L[k]'(by rw[l.z];exact f),AJ<|by rw[l.z];exact f⟩;obtain⟨X,Y,Z⟩:=K.z.rd k L wr h.z.1 k x c;have q:=T.z I;subst q;have d:=O.z k wr x h.z.1 c;have B:=zb c;obtain⟨⟨u,q,s⟩,v⟩:=x;simp only at X Y Z d;obtain⟨dv,a⟩:=nm<|del ⟨u,q,s⟩;rw[a]at d;have o:=zb a;have E:=zb d;clear d c a;cases dv with
   | true =>
    go_wp2_with (go_at_call 79;with_reducible refine(E.z).mono ?_;rintro e w6 ⟨rfl,p⟩;have t:=zb p;clear p);go_ret;exact .inl ⟨k,rfl,by rw[l.z];exact f,h.z.2,λx c=>by rw[B.z]at c;cases c;exact o.z,t.z⟩
   | false =>
    go_wp2_with (go_at_call 79;with_reducible refine(E.z).mono ?_;rintro e w6 ⟨rfl,p⟩;have t:=zb p;clear p);go_roundw
    case rel =>
     refine⟨k+1,I,by go_num,zb ⟨t.z,λx c=>?_⟩⟩;rw[BG,B.z]at c;rcases Ak.1 c with c|c
     .exact h.z.2 x c
     simp at c;subst c;exact o.z
    simp[intOf];omega
  have a:k=N:=I;go_wp2_with fail;go_ret;exact .inr ⟨rfl,λx c=>h.z.2 x<|by rwa [Ab (by rw[l.z];omega)],by rw[l.z,<-a];exact h.z.1⟩
theorem i7(J:Nat->List (DW×rt)->rq->Prop)(del:DW->Bool)(L:List (DW×rt))(N g cap lb s:Nat)(a:rE)(u:L.length=N)(d:N<=1099511627776)(v:0<N->a=some ⟨g,0,none⟩)(z:L6 J N g)
  (d:∀k w x,J k L w->L[k]?=some x->rT 205 #[.agg #[.int .u64 x.1.n,.int .u64 x.1.at_,x.2],(lb,0),(s,0)] w (λe w'=>e=.returned (.bool<|del x.1)/\J (k+1) L w'))
  (w:rq) (A:J 0 L w) :
  rT 139 #[.slice a N cap,.func (.func 205) #[] #[.pointer lb,.pointer s]] w (Sb J del L):=by
 have K:=zb z;have O:=zb d;have s:=zb A;have T:=zb v;have l:=zb u;clear z d A v u;go_enter func139,ntmps139;go_wp2_with fail
 go_loopw [8] (λa wr=>∃k:Nat,k<=N/\a=.int .i64 k/\AA (J k L wr/\∀x∈L.take k,del x.1=false)) (λa _=>N-(intOf a).toNat)
 case atStart=>exact⟨0,AN _,rfl,zb ⟨s.z,λx c=>by simp at c⟩⟩
 case round =>
  obtain⟨k,a,rfl,h⟩:=hrel;by_cases f:k<N
  .obtain⟨x,c⟩:∃x,L[k]?=some x:=⟨L[k]'(by rw[l.z];exact f),AJ<|by rw[l.z];exact f⟩;obtain⟨X,Y,Z⟩:=K.z.rd k L wr h.z.1 k x c;have q:=T.z I;subst q;have d:=O.z k wr x h.z.1 c;have B:=zb c;obtain⟨⟨u,q,s⟩,v⟩:=x;simp only at X Y Z d;obtain⟨dv,a⟩:=nm<|del ⟨u,q,s⟩;rw[a]at d;have o:=zb a;have E:=zb d;clear d c a;cases dv with
   | true =>
    go_wp2_with (go_at_call 205;with_reducible refine(E.z).mono ?_;rintro e w6 ⟨rfl,p⟩;have t:=zb p;clear p);go_ret;exact .inl ⟨k,rfl,by rw[l.z];exact f,h.z.2,λx c=>by rw[B.z]at c;cases c;exact o.z,t.z⟩
   | false =>
    go_wp2_with (go_at_call 205;with_reducible refine(E.z).mono ?_;rintro e w6 ⟨rfl,p⟩;have t:=zb p;clear p);go_roundw
    case rel =>
     refine⟨k+1,I,by go_num,zb ⟨t.z,λx c=>?_⟩⟩;rw[BG,B.z]at c;rcases Ak.1 c with c|c
     .exact h.z.2 x c
     simp at c;subst c;exact o.z
    simp[intOf];omega
  have a:k=N:=I;go_wp2_with fail;go_ret;exact .inr ⟨rfl,λx c=>h.z.2 x<|by rwa [Ab (by rw[l.z];omega)],by rw[l.z,<-a];exact h.z.1⟩
structure JL(J:Nat->List (DW×rt)->rq->Prop)(N g cap:Nat):Prop where
 obj:∀k R w,0<N->J k R w->∃cur,w.heap[g]?=some (.cells cur 173 (0,0))
 sl:∀k R w (x:DW×rt),J k R w->x∈R->∃a n c,x.2=.slice a n c
 st:∀k R w (i:Nat) (x:DW×rt),J k R w->i<N->x∈R->J k (R.set i x) (((w.setCell (g,i*3)<|.int .u64 x.1.n).setCell (g,i*3+1)<|.int .u64 x.1.at_).setCell (g,i*3+2) x.2)
 cl:∀k R w (i:Nat),J k R w->i<N->∃w2 R2,(∀ty,(Builtin.clear_ #[123] ty #[.slice (g,i*3) (N-i) (cap-i)]).run prog w=.ok (.tuple #[]) w2)/\J k R2 w2/\R2.take i=R.take i
def OX(J:Nat->List (DW×rt)->rq->Prop)(del:DW->Bool)(L:List (DW×rt))(a:rE)(cap:Nat)(e:Ending)(w':rq):Prop :=
 ∃(i:Nat) (R:List (DW×rt)),e=.returned (.slice a i cap)/\i<=L.length/\J L.length R w'/\R.take i=L.filter (λx => !del x.1)
def PV{del:DW->Bool}{l:List (DW×rt)}(h:∀x∈l,del x.1=false):l.filter (λx => !del x.1)=l :=
 CN.2 (λx a=>by rw[h x a];rfl)
def Rp{α : Type}{l:List α}{x : α}(h:i<l.length):(l.set i x).take (i+1)=l.take i++[x]:=by
 rw[BG,List.take_set_of_le I,List.getElem?_set_self h];rfl
variable{j:Nat}
def Ro{α : Type}{l:List α}{x : α}(h:i<j):(l.set i x).drop j=l.drop j:=by
 rw[List.drop_set,AM h]
theorem iz(J:Nat->List (DW×rt)->rq->Prop)(del:DW->Bool)(L:List (DW×rt))(N g cap Y:Nat)(a:rE)(hN:L.length=N)(ac:N<=1099511627776)(c:N<=cap)(ad:cap<=maxLen)(ha:0<N->a=some ⟨g,0,none⟩)(hJ:L6 J N g)(hK:JL J N g cap)
  (d:∀k w x,J k L w->L[k]?=some x->rT 79 #[.agg #[.int .u64 x.1.n,.int .u64 x.1.at_,x.2],(Y,0)] w (λe w'=>e=.returned (.bool<|del x.1)/\J (k+1) L w'))
  (c:∀k R w o x,J k R w->R[k]?=some x->L[k]?=some x->rT 79 #[.agg #[.int .u64 x.1.n,.int .u64 x.1.at_,x.2],(Y,0)] (w.alloc o) (λe w'=>e=.returned (.bool<|del x.1)/\J (k+1) R w'/\w'.heap[w.heap.size]?=(w.alloc o).heap[w.heap.size]?))
  (w:rq) (o:J 0 L w) :
  rT 78 #[.slice a N cap,.func (.func 79) #[] #[.pointer Y]] w (OX J del L a cap):=by
 have ki:=fm J del L N g cap Y a hN ac ha hJ d w o;unfold maxLen at ad;have HJ:=zb hJ;have X:=zb hK;have HC:=zb c;have HA:=zb ha;have HN:=zb hN;have a:=zb ki;clear hJ hK d c o ha hN ki;go_enter func78,ntmps78;go_wp2_with fail;refine(a.z).mono ?_;clear a;rintro e a (⟨k,rfl,l,f,h,v⟩|⟨rfl,f,h⟩)
 .have ae:k<N:=by rw[<-HN.z];exact l
  have af:=HA.z I;subst af;have t:=zb v;have a:AA (L.take k=(L.take<|k+1).filter (λx => !del x.1)):=zb (by
   obtain⟨x,p⟩:∃x,L[k]?=some x:=⟨L[k],AJ l⟩;rw[BG,p,B3,PV f];simp[h x p])
  have d1:((k:Int) == -1)=false:=by rw[AR];omega
  clear l f h v;go_wp2_with fail
  go_loopw [5,6] (λd c wr=>∃(i j:Nat) (R:List (DW×rt)),d=.int .i64 i/\c=.int .i64 j/\i<j/\j<=N/\AA (J j R wr/\R.take i=(L.take j).filter (λx => !del x.1)/\R.drop j=L.drop j)) (λ_ c _=>N-(intOf c).toNat)
  case atStart=>exact⟨k,k+1,L,rfl,by go_num,I,I,zb ⟨t.z,a.z,rfl⟩⟩
  case round =>
   clear t a d1 ae;obtain⟨i,j,R,rfl,rfl,ag,a,s⟩:=hrel;have Z:=HJ.z.len j R wr s.z.1;by_cases a:j<N
   .obtain⟨x,p⟩:∃x,R[j]?=some x:=⟨R[j]' I,AJ I⟩;have B:L[j]?=some x:=by
     have h1:=A8 (λl=>l[0]?) s.z.2.2;simp only[BA,B5]at h1;rw[<-h1];exact p
    obtain⟨x0,x1,x2⟩:=HJ.z.rd j R wr s.z.1 j x p;obtain⟨Y,hY⟩:=nm<|wr.alloc<|.cells #[x.1.n,x.1.at_,x.2] 173;have K:=HC.z j R wr (.cells #[x.1.n,x.1.at_,x.2] 173) x s.z.1 p B;have O:(wr.alloc<|.cells #[x.1.n,x.1.at_,x.2] 173).heap[wr.heap.size]?=some (.cells #[x.1.n,x.1.at_,x.2] 173 (0,0)):=heap_alloc_new wr _;rw[O]at K;rw[hY]at K O;have y0:Y wr=some (.int .u64 x.1.n):=za O rfl;have y1:Y (wr,1)=some (.int .u64 x.1.at_):=za O rfl;have y2:Y (wr,2)=some x.2:=za O rfl;have HX:=zb<|And.intro p B;obtain⟨va,vn,vc,hv⟩:=X.z.sl _ _ _ x s.z.1<|AW p;obtain⟨⟨fn,q,u⟩,v⟩:=x;simp only at hv;subst hv;simp only at x0 x1 x2 K y0 y1 y2 hY;obtain⟨dv,a⟩:=nm<|del ⟨fn,q,u⟩;rw[a]at K;have ah:=zb a;have KC:=zb K;have E:=zb Z;obtain⟨yb,c⟩:=nm wr.heap.size;rw[c]at y0 y1 y2 KC;clear K p B a O Z;go_upto_region 8 with fail;try rw[hY]
    try rw[c]
    clear hY c;go_wp2_with fail;refine(KC.z).mono ?_;rintro e A ⟨rfl,T,o6⟩;have a:A yb=some (.int .u64 fn):=za o6 rfl;have a:A (yb,1)=some (.int .u64 q):=za o6 rfl;have a:A (yb,2)=some (.slice va vn vc):=za o6 rfl;have J6:=zb T;have z:i<N:=I;have aa:AA ((L.take<|j+1).filter (λx => !del x.1)=(L.take j).filter (λx => !del x.1)++(if dv then []else [(⟨fn,q,u⟩,.slice va vn vc)])):=zb (by
     rw[BG,HX.z.2,B3];congr 1;have:=ah.z;cases dv<;>simp[this])
    have ab:=zb (by
     have h1:=A8 (List.drop 1) s.z.2.2;simpa [CX]using h1)
    clear KC y0 y1 y2 x0 x1 x2 o6;cases dv with
    | true =>
     clear T;go_wp2_with fail;go_roundw
     case rel=>exact⟨i,j+1,R,rfl,by go_num,I,I,zb ⟨J6.z,by rw[aa.z,s.z.2.1];simp,ab.z⟩⟩
     simp[intOf];omega
    | false =>
     obtain⟨c,a⟩:=X.z.obj _ _ _ I T;obtain⟨d,c⟩:∃d,R[i]?=some d:=⟨R[i]'(by rw[E.z];exact z),AJ<|by rw[E.z];exact z⟩;obtain⟨o,e,l⟩:=HJ.z.rd _ R A T i d c;have d:∀p,A.frozen? ⟨g,p,none⟩=false:=λp=>zg a
     have e:∀p1 d p,(A.setCell ⟨g,p1,none⟩ d).frozen? ⟨g,p,none⟩=false:=λp1 d p=>zg<|zc a
     have l:∀p1 d p2 e p,((A.setCell ⟨g,p1,none⟩ d).setCell ⟨g,p2,none⟩ e).frozen? ⟨g,p,none⟩=false:=λp1 d p2 e p=>zg<|zc<|zc a
     have d:=zb<|X.z.st _ R A i (⟨fn,q,u⟩,.slice va vn vc) T z<|AW HX.z.1;clear T a c;go_wp2_with fail;go_roundw
     case rel =>
      refine⟨i+1,j+1,R.set i (⟨fn,q,u⟩,.slice va vn vc),by go_num,by go_num,I,I,zb ⟨d.z,?_,?_⟩⟩
      .rw[Rp (by rw[E.z];exact z),aa.z,s.z.2.1];rfl
      rw[Ro I,ab.z]
     simp[intOf];omega
   have ai:j=N:=I;subst ai;obtain⟨d,l,c,a,e⟩:=X.z.cl j R wr i s.z.1 ag;have d:=zb a;have c:=zb e;have o:¬cap=i:=I;have d1:i<=cap:=I;clear a e;have o:=HN.z;have a:l.take i=L.filter (λx => !del x.1):=by
    rw[c.z,s.z.2.1,Ab I]
   have e:=zb a;have c:=zb o;clear o a;go_wp2_with fail;go_ret;exact⟨i,l,rfl,by rw[c.z];omega,by rw[c.z];exact d.z,e.z⟩
 clear HC HJ X;have t:=zb h;have a:=zb<|PV f;clear f h;go_wp2_with fail;go_ret;exact⟨N,L,rfl,by rw[HN.z];exact AF _,t.z,by rw[a.z,<-HN.z,Ab ro]⟩
theorem jg(J:Nat->List (DW×rt)->rq->Prop)(del:DW->Bool)(L:List (DW×rt))(N g cap lb Y:Nat)(a:rE)(hN:L.length=N)(ac:N<=1099511627776)(c:N<=cap)(ad:cap<=maxLen)(ha:0<N->a=some ⟨g,0,none⟩)(hJ:L6 J N g)(hK:JL J N g cap)
  (d:∀k w x,J k L w->L[k]?=some x->rT 205 #[.agg #[.int .u64 x.1.n,.int .u64 x.1.at_,x.2],(lb,0),(Y,0)] w (λe w'=>e=.returned (.bool<|del x.1)/\J (k+1) L w'))
  (c:∀k R w o x,J k R w->R[k]?=some x->L[k]?=some x->rT 205 #[.agg #[.int .u64 x.1.n,.int .u64 x.1.at_,x.2],(lb,0),(Y,0)] (w.alloc o) (λe w'=>e=.returned (.bool<|del x.1)/\J (k+1) R w'/\w'.heap[w.heap.size]?=(w.alloc o).heap[w.heap.size]?))
  (w:rq) (o:J 0 L w) :
  rT 78 #[.slice a N cap,.func (.func 205) #[] #[.pointer lb,.pointer Y]] w (OX J del L a cap):=by
 have ki:=i7 J del L N g cap lb Y a hN ac ha hJ d w o;unfold maxLen at ad;have HJ:=zb hJ;have X:=zb hK;have HC:=zb c;have HA:=zb ha;have HN:=zb hN;have a:=zb ki;clear hJ hK d c o ha hN ki;go_enter func78,ntmps78;go_wp2_with fail;refine(a.z).mono ?_;clear a;rintro e a (⟨k,rfl,l,f,h,v⟩|⟨rfl,f,h⟩)
 .have ae:k<N:=by rw[<-HN.z];exact l
  have af:=HA.z I;subst af;have t:=zb v;have a:AA (L.take k=(L.take<|k+1).filter (λx => !del x.1)):=zb (by
   obtain⟨x,p⟩:∃x,L[k]?=some x:=⟨L[k],AJ l⟩;rw[BG,p,B3,PV f];simp[h x p])
  have d1:((k:Int) == -1)=false:=by rw[AR];omega
  clear l f h v;go_wp2_with fail
  go_loopw [5,6] (λd c wr=>∃(i j:Nat) (R:List (DW×rt)),d=.int .i64 i/\c=.int .i64 j/\i<j/\j<=N/\AA (J j R wr/\R.take i=(L.take j).filter (λx => !del x.1)/\R.drop j=L.drop j)) (λ_ c _=>N-(intOf c).toNat)
  case atStart=>exact⟨k,k+1,L,rfl,by go_num,I,I,zb ⟨t.z,a.z,rfl⟩⟩
  case round =>
   clear t a d1 ae;obtain⟨i,j,R,rfl,rfl,ag,a,s⟩:=hrel;have Z:=HJ.z.len j R wr s.z.1;by_cases a:j<N
   .obtain⟨x,p⟩:∃x,R[j]?=some x:=⟨R[j]' I,AJ I⟩;have B:L[j]?=some x:=by
     have h1:=A8 (λl=>l[0]?) s.z.2.2;simp only[BA,B5]at h1;rw[<-h1];exact p
    obtain⟨x0,x1,x2⟩:=HJ.z.rd j R wr s.z.1 j x p;obtain⟨Y,hY⟩:=nm<|wr.alloc<|.cells #[x.1.n,x.1.at_,x.2] 173;have K:=HC.z j R wr (.cells #[x.1.n,x.1.at_,x.2] 173) x s.z.1 p B;have O:(wr.alloc<|.cells #[x.1.n,x.1.at_,x.2] 173).heap[wr.heap.size]?=some (.cells #[x.1.n,x.1.at_,x.2] 173 (0,0)):=heap_alloc_new wr _;rw[O]at K;rw[hY]at K O;have y0:Y wr=some (.int .u64 x.1.n):=za O rfl;have y1:Y (wr,1)=some (.int .u64 x.1.at_):=za O rfl;have y2:Y (wr,2)=some x.2:=za O rfl;have HX:=zb<|And.intro p B;obtain⟨va,vn,vc,hv⟩:=X.z.sl _ _ _ x s.z.1<|AW p;obtain⟨⟨fn,q,u⟩,v⟩:=x;simp only at hv;subst hv;simp only at x0 x1 x2 K y0 y1 y2 hY;obtain⟨dv,a⟩:=nm<|del ⟨fn,q,u⟩;rw[a]at K;have ah:=zb a;have KC:=zb K;have E:=zb Z;obtain⟨yb,c⟩:=nm wr.heap.size;rw[c]at y0 y1 y2 KC;clear K p B a O Z;go_upto_region 8 with fail;try rw[hY]
    try rw[c]
    clear hY c;go_wp2_with fail;refine(KC.z).mono ?_;rintro e A ⟨rfl,T,o6⟩;have a:A yb=some (.int .u64 fn):=za o6 rfl;have a:A (yb,1)=some (.int .u64 q):=za o6 rfl;have a:A (yb,2)=some (.slice va vn vc):=za o6 rfl;have J6:=zb T;have z:i<N:=I;have aa:AA ((L.take<|j+1).filter (λx => !del x.1)=(L.take j).filter (λx => !del x.1)++(if dv then []else [(⟨fn,q,u⟩,.slice va vn vc)])):=zb (by
     rw[BG,HX.z.2,B3];congr 1;have:=ah.z;cases dv<;>simp[this])
    have ab:=zb (by
     have h1:=A8 (List.drop 1) s.z.2.2;simpa [CX]using h1)
    clear KC y0 y1 y2 x0 x1 x2 o6;cases dv with
    | true =>
     clear T;go_wp2_with fail;go_roundw
     case rel=>exact⟨i,j+1,R,rfl,by go_num,I,I,zb ⟨J6.z,by rw[aa.z,s.z.2.1];simp,ab.z⟩⟩
     simp[intOf];omega
    | false =>
     obtain⟨c,a⟩:=X.z.obj _ _ _ I T;obtain⟨d,c⟩:∃d,R[i]?=some d:=⟨R[i]'(by rw[E.z];exact z),AJ<|by rw[E.z];exact z⟩;obtain⟨o,e,l⟩:=HJ.z.rd _ R A T i d c;have d:∀p,A.frozen? ⟨g,p,none⟩=false:=λp=>zg a
     have e:∀p1 d p,(A.setCell ⟨g,p1,none⟩ d).frozen? ⟨g,p,none⟩=false:=λp1 d p=>zg<|zc a
     have l:∀p1 d p2 e p,((A.setCell ⟨g,p1,none⟩ d).setCell ⟨g,p2,none⟩ e).frozen? ⟨g,p,none⟩=false:=λp1 d p2 e p=>zg<|zc<|zc a
     have d:=zb<|X.z.st _ R A i (⟨fn,q,u⟩,.slice va vn vc) T z<|AW HX.z.1;clear T a c;go_wp2_with fail;go_roundw
     case rel =>
      refine⟨i+1,j+1,R.set i (⟨fn,q,u⟩,.slice va vn vc),by go_num,by go_num,I,I,zb ⟨d.z,?_,?_⟩⟩
      .rw[Rp (by rw[E.z];exact z),aa.z,s.z.2.1];rfl
      rw[Ro I,ab.z]
     simp[intOf];omega
   have ai:j=N:=I;subst ai;obtain⟨d,l,c,a,e⟩:=X.z.cl j R wr i s.z.1 ag;have d:=zb a;have c:=zb e;have o:¬cap=i:=I;have d1:i<=cap:=I;clear a e;have o:=HN.z;have a:l.take i=L.filter (λx => !del x.1):=by
    rw[c.z,s.z.2.1,Ab I]
   have e:=zb a;have c:=zb o;clear o a;go_wp2_with fail;go_ret;exact⟨i,l,rfl,by rw[c.z];omega,by rw[c.z];exact d.z,e.z⟩
 clear HC HJ X;have t:=zb h;have a:=zb<|PV f;clear f h;go_wp2_with fail;go_ret;exact⟨N,L,rfl,by rw[HN.z];exact AF _,t.z,by rw[a.z,<-HN.z,Ab ro]⟩
def zA.refl(h:zA tag i b W0 V0 c ky V' W'):zA ky i b W' V' c ky V' W' :=
 ⟨h.c,Di.same h.e.z<|DO.refl DQ W',DO.refl _ _,h.p,⟨rfl,rfl⟩⟩
variable{W2:rq}{c2:CS}
def zA.trans{d:CV}{tag2:rD}{a:CV}(h:zA tag i b W0 V0 c ky V' W')(k:zA ky i b W' d c2 tag2 a W2):zA tag i b W0 a c2 tag2 a W2 :=
 ⟨k.c,h.e.trans k.e h.m.size,Er h.e h.m k.m,h.p,⟨rfl,rfl⟩⟩
theorem GB{α β : Type}:∀(l:List (α × β)),(l.map (·.1)).zip (l.map (·.2))=l
 | []=>rfl
 | x::l=>by simp[GB l]
def Ky(x:DW×rt)(l:List (DW×rt)):zB (x::l)=(.int .u64 x.1.n)::(.int .u64 x.1.at_)::x.2::zB l:=rfl
theorem TI:∀(R:List (DW×rt)) (i:Nat) (x:DW×rt),i<R.length->zB (R.set i x)=(((zB R).set (i*3) (.int .u64 x.1.n)).set (i*3+1) (.int .u64 x.1.at_)).set (i*3+2) x.2
 | [],_,_,h=>by simp at h
 | y::R,0,x,_=>by simp[Ky]
 | y::R,i+1,x,h=>by
  have a:=TI R i x<|rB h;rw[CQ,Ky,Ky,a,(I:(i+1)*3=i*3+3)];simp[CQ]
theorem Sk:∀(R:List (DW×rt)) (j:Nat) (x:DW×rt),R[j]?=some x->(zB R)[j*3]?=some (.int .u64 x.1.n)/\(zB R)[j*3+1]?=some (.int .u64 x.1.at_)/\(zB R)[j*3+2]?=some x.2
 | [],j,x,h=>by simp at h
 | y::R,0,x,h=>by
  simp at h;subst h;simp[Ky]
 | y::R,j+1,x,h=>by
  have a:=Sk R j x<|rB h;rw[Ky,(I:(j+1)*3=j*3+3)];simpa using a
theorem JG(R:List (DW×rt)):(zB R).length=R.length*3:=by
 induction R with
 | nil=>rfl
 | cons x R ih =>
  rw[Ky];simp only[AS,ih];omega
def Rr(A B:List (DW×rt)):zB (A++B)=zB A++zB B:=by simp[zB]
variable{N cap g:Nat}{w:rq}{xs:rF}
def I2(h:w.ownsRow 0 173 3 (.slice g N cap) N xs):∃a,w.heap[g]?=some (.cells a 173 (0,0))/\N<=cap/\cap<=maxLen/\a.size=cap*3/\a.toList.take (N*3)=xs:=by
 rcases h.2 with⟨e,_⟩|⟨h,c,a,e,_,d,f,l,o,p⟩
 .cases e
 cases e;exact⟨a,d,f,l,o,p⟩
def UB{R:List (DW×rt)}(x:DW×rt)(h:w.ownsRow 0 173 3 (.slice g N cap) N (zB R))(a:R.length=N)(hi:i<N):(((w.setCell (g,i*3) (.int .u64 x.1.n)).setCell (g,i*3+1) (.int .u64 x.1.at_)).setCell (g,i*3+2) x.2).ownsRow 0 173 3 (.slice g N cap) N (zB (R.set i x)):=by
 obtain⟨c,d,e,f,l,o⟩:=I2 h;refine⟨by rw[JG,Bf,a],.inr ⟨g,cap,_,rfl,AN _,zc<|zc<|zc d,e,f,by simp[l],?_⟩⟩;rw[TI R i x I,<-o];simp[DK]
def VG{R:List (DW×rt)}(h:w.ownsRow 0 173 3 (.slice g N cap) N (zB R))(a:R.length=N)(j:Nat)(x:DW×rt)(f:R[j]?=some x):w (g,j*3)=some (.int .u64 x.1.n)/\w (g,j*3+1)=some (.int .u64 x.1.at_)/\w (g,j*3+2)=some x.2:=by
 obtain⟨d,e,a,c,o,l⟩:=I2 h;have a:j<N:=by
  have:=(AO.1 f).1;omega
 obtain⟨a,b,c⟩:=Sk R j x f;have f:∀q v,q<N*3->(zB R)[q]?=some v->d[q]?=some v:=λq v h d=>by
  rw[<-l,BH h,Bk]at d;exact d
 exact⟨za e<|f _ _ I a,za e<|f _ _ I b,za e<|f _ _ I c⟩
def Qu{n:Nat}{R:List (DW×rt)}(h:w.ownsRow 0 173 3 (.slice g N cap) N (zB R))(c:R.length=N)(d:n<=N):w.ownsRow 0 173 3 (.slice g n cap) n (zB (R.take n)):=by
 obtain⟨a,e,p,f,l,o⟩:=I2 h;refine⟨by rw[JG,AU,c,BY d],.inr ⟨g,cap,a,rfl,AN _,e,I,f,l,?_⟩⟩;have e:zB R=zB (R.take n)++zB (R.drop n):=by rw[<-Rr,Bx]
 have f:(zB<|R.take n).length=n*3:=by rw[JG,AU,c,BY d]
 have c:a.toList.take (n*3)=(a.toList.take<|N*3).take (n*3):=by rw[Be,BY I]
 rw[c,o,e,BF I,Ab I]
def zi.mC{R':List (DW×rt)}(h:zi tag i b c V W)(m:DO (λq=>q=g) W W')(e:V.ft.ownBlock=some g)(d:W'.ownsRow 0 173 3 V.ft R'.length (zB R'))(f:∀p∈R',Gu tag (i,5) W p.2 p.1.fs):zi tag i b { c with kx:=R'.map (·.1) } { V with mr:=R'.map (·.2) } W':=by
 have a:=h.nj g e;have l:b≠g:=λe=>by
  rw[<-e,h.tb]at a;simp at a
 refine h.build (R:=λr=>r=4) m (λq o=>⟨4,rfl,by rw[show q=g from o];exact a⟩) (λ_ _=>rfl) ?_ rY (λk c=>.inl rW) (λk c=>.inl rW) (λk c=>.inl rW) (λk c=>.inl rW) (λk c=>.inl rW) (.inr ⟨?_,?_,?_,?_⟩) rV rV rV
 .exact(m.obj l h.obj)
 .simp only[BD,GB];exact d
 .simp
 .simp only[GB];intro p c;exact(f p c).mod m (λq o e=>by rw[show q=g from o,a]at e;simp at e) (λ_ e=>e)
 exact h.nj
def CS.mC(c:CS)(l:List DW):CS:={ c with kx:=l }
def dk(c:CS)(l:List DW)(f:DV):(c.mC l).again f=(c.again f).mC l:=by
 unfold CS.again CS.mC;split
 .rfl
 split
 .rfl
 split
 .rfl
 split<;>rfl
theorem Rb:∀(a:List DV) (c:CS) (l:List DW),(c.mC l).ly a=(c.ly a).mC l
 | [],_,_=>rfl
 | f::a,c,l=>by
  show((c.mC l).again f).ly a=((c.again f).ly a).mC l;rw[dk,Rb a]
def fk(c:CS)(f:DV)(p:DW):(c.again f).late p=c.late p:=by
 unfold CS.again CS.late;split
 .rfl
 split
 .rfl
 split
 .rfl
 split<;>rfl
theorem Rn:∀(a:List DV) (c:CS) (p:DW),(c.ly a).late p=c.late p
 | [],_,_=>rfl
 | f::a,c,p=>by
  show((c.again f).ly a).late p=_;rw[Rn a,fk]
def CS.ma(c:CS)(p:DW):CS:=if c.late p then c.ly p.fs else c
def CS.mO(c:CS)(l:List DW):CS:=l.foldl CS.ma c
def VF(c:CS)(p q:DW):(c.ma p).late q=c.late q:=by
 unfold CS.ma;split
 .exact Rn _ _ _
 rfl
theorem VE:∀(l:List DW) (c:CS) (q:DW),(c.mO l).late q=c.late q
 | [],_,_=>rfl
 | p::l,c,q=>by
  show((c.ma p).mO l).late q=_;rw[VE l,VF]
def dj(c:CS)(l:List DW)(p:DW):(c.mC l).ma p=(c.ma p).mC l:=by
 unfold CS.ma;rw[show(c.mC l).late p=c.late p from rfl];split
 .exact Rb _ _ _
 rfl
def fj(c:CS)(l:List DW)(k:Nat)(p:DW)(h:l[k]?=some p):c.mO (l.take (k+1))=(c.mO (l.take k)).ma p:=by
 unfold CS.mO;rw[BG,h,Ci];rfl
theorem Hj(c:CS):c.nF=(c.mO c.kx).mC (c.kx.filter λp => !c.late p):=by
 have h:∀(l:List DW) (d:CS),(∀q,d.late q=c.late q)->l.foldl (λc p=>if c.late p then c.ly p.fs else c) d=d.mO l:=by
  intro l
  induction l with
  | nil=>intro d _;rfl
  | cons p l ih =>
   intro d hd;show l.foldl _ (if d.late p then d.ly p.fs else d)=(d.ma p).mO l;exact ih _ (λq=>by
    split
    .rw[Rn,hd]
    exact hd q)
 unfold CS.nF;rw[h c.kx c (λ_=>rfl)];rfl
def JR.mC(h:JR c f)(l:List DW):JR (c.mC l) f :=
 ⟨λe=>⟨(h.k4 e).lt,(h.k4 e).st,(h.k4 e).lJ,(h.k4 e).lC,(h.k4 e).end_,(h.k4 e).dl⟩,h.k3,h.k6⟩
def Yp(c:CS)(l:List DW)(f:DV):(c.mC l).lY f=(c.lY f).mC l:=by
 unfold CS.lY CS.mC;split<;>rfl
theorem Qt:∀(a:List DV) (c:CS) (l:List DW),a.foldl CS.lY (c.mC l)=(a.foldl CS.lY c).mC l
 | [],_,_=>rfl
 | f::a,c,l=>by
  show a.foldl CS.lY ((c.mC l).lY f)=(a.foldl CS.lY<|c.lY f).mC l;rw[Yp,Qt a]
def Yo(c:CS)(rs:zE)(l:List DW)(p:DW):(c.mC l).nE rs p=(c.nE rs p).mC l:=by
 unfold CS.nE;split
 .exact Qt _ _ _
 rfl
def CS.mT(c:CS)(rs:zE)(l:List DW):CS:=l.foldl (λc p=>c.nE rs p) c
def dh(c:CS)(rs:zE)(l:List DW)(k:Nat)(p:DW)(h:l[k]?=some p):c.mT rs (l.take (k+1))=(c.mT rs (l.take k)).nE rs p:=by
 unfold CS.mT;rw[BG,h,Ci];rfl
def jZ(c:CS)(f:DV):(c.lY f).kx=c.kx:=by
 unfold CS.lY;split<;>rfl
theorem Vo:∀(a:List DV) (c:CS),(a.foldl CS.lY c).kx=c.kx
 | [],_=>rfl
 | f::a,c=>by
  show(a.foldl CS.lY<|c.lY f).kx=_;rw[Vo a,jZ]
def fh(h:fs[k]?=some f):(fs.take (k+1)).foldl CS.lY c=((fs.take k).foldl CS.lY c).lY f:=by
 rw[BG,h,Ci];rfl
def Ov(c:CS)(rs:zE)(h:¬c.next<=DP rs 0):c.ln rs=(0,(((({ c with lI:=max c.lI (DP rs 0) }:CS).mT rs c.kx).mC (c.kx.filter λp => !Dw rs p)).nF)):=by
 unfold CS.ln;rw[AH h];rfl
variable{W'':rq}{s:Df}{v':rt}
def zA.lC(h:zA tag i b W0 V0 c ky V' W')(o:k<8)(t:Mq s b (9+15*k+4) (V'.wc k) W' W'' v')(A:s.most=(c k).lC.most):∃tag2 e,zA tag i b W0 V0 { c with ws:=ze c.ws k { c.ws k with lC:=s } } tag2 e W''/\∀g,g<W'.heap.size->tag2 g=ky g:=by
 obtain⟨f,l,e,u⟩:=t;have v:=h.p;have p:∀{g r:Nat},ky g=(i,r)->g<W'.heap.size:=λd=>EZ h.e.z d v
 have t:∀g,(ky g).1=i->zQ ky W' W'' (i,30+k) g=ky g:=λg d=>zD<|p (r:=(ky g).2)<|by rw[<-d]
 have z:∀g,(g=b\/(V'.wc k).ownBlock=some g)->∃r,(r=1\/r=30+k)/\ky g=(i,r):=λg d=>by
  rcases d with d|d
  .exact⟨1,.inl rfl,by rw[d,h.c.tb]⟩
  exact⟨30+k,.inr rfl,h.c.oB k o g d⟩
 refine⟨zQ ky W' W'' (i,30+k),{ V' with wc:=ze V'.wc k v' },⟨?_,h.e.trans (JA e.size) h.m.size,Er h.e h.m<|e.mono<|λg d=>.inl ?_,v,h.ft⟩,λg d=>zD d⟩
 .refine h.c.build (R:=λr=>r=1\/r=30+k) e z t ?_ rY (λq e=>.inl ⟨?_,rfl,I⟩) (λq e=>.inl ⟨?_,rfl,I⟩) (λq e=>?_) (λq e=>.inl rW) (λq e=>.inl rW) rY rV rV rV
  .rw[l,zc (zc h.c.obj)];simp only[Ao];have B:=Hl c c V' { V' with wc:=ze V'.wc k v' } (k:=k) (j:=4) v' o lc (λq _=>by
    by_cases a:q=k
    .subst a;simp only[zf,A9];rfl
    simp only[zd _ _ a,AH a]) rfl rfl rfl
   rw[B];have E:=Hl c { c with ws:=ze c.ws k { c.ws k with lC:=s } } { V' with wc:=ze V'.wc k v' } { V' with wc:=ze V'.wc k v' } (k:=k) (j:=5) (.int .u64 s.fl) o lc (λq _=>by
    by_cases a:q=k
    .subst a;simp only[zf,A9,Ft,A];rfl
    simp only[zd _ _ a,AH a]) rfl rfl rfl
   rw[show 9+15*k+4+1=9+15*k+5 from rfl,E]
  .by_cases a:q=k
   .subst a;simp only[zf]
   simp only[zd _ _ a]
  .by_cases a:q=k
   .subst a;simp only[zf]
   simp only[zd _ _ a]
  by_cases a:q=k
  .subst a;simp only[zf];refine .inr ⟨f,λg d=>?_⟩;rcases u g d with y|y
   .rw[zD (p<|h.c.oB q o g y),h.c.oB q o g y]
   exact GM y<|zK f g d
  exact .inl ⟨by simp only[zd _ _ a],by simp only[zd _ _ a],I⟩
 obtain⟨r,a,e⟩:=z g d;exact EU e I
structure Mp(c:CS)(f:DV):Prop where
 st:∃k:Nat,k<8/\f.stream=(k:Int)
 a:f.kind=4->f.data≠[]->∃k,Ly c f k
variable{l:rC}
theorem Yn(h:l≠[]):(zu l).toList.isEmpty=false:=by
 rw[ByteArray.toList_eq,Ip];cases l with
 | nil=>exact absurd rfl h
 | cons a l=>rfl
def Ym:(zu []).toList.isEmpty=true:=by
 rw[ByteArray.toList_eq,Ip];rfl
variable{q:Nat}{rs:zE}
def fg{p:DW}(d:q<rs.length)(a:DU rs q<=p.n)(c:p.n<=DP rs q):Dw rs p=true:=by
 unfold Dw;rw[Bg];refine⟨rs[q],DD d,?_⟩;have e:rs.getD q (0,0)=rs[q]:=by simp[List.getD,d]
 unfold DU at a;unfold DP at c;rw[e]at a c;simp[a,c]
def jX{p:DW}(h:∀j,j<rs.length->¬(DU rs j<=p.n/\p.n<=DP rs j)):Dw rs p=false:=by
 unfold Dw;rw[CT];intro r a;obtain⟨j,c,rfl⟩:=Cs.1 a;have a:=h j c;have e:rs.getD j (0,0)=rs[j]:=by simp[List.getD,c]
 unfold DU DP at a;rw[e]at a;simpa using a
def WY(tag:rD)(i b:Nat)(a:rq)(d:CV)(c:CS)(rs:zE)(p:DW)(e:Ending)(W':rq):Prop :=
 e=.returned (.bool<|Dw rs p)/\∃ky e,zA tag i b a d (c.nE rs p) ky e W'
def Qb{α : Type}(f:Nat -> α)(k:Nat)(x y : α):ze (ze f k x) k y=ze f k y:=by
 funext j;by_cases h:j=k
 .rw[h,zf,zf]
 rw[zd _ _ h,zd _ _ h,zd _ _ h]
def Pw(tag:rD)(i b:Nat)(a:rq)(c:CV)(c2:CS)(ky:rD)(W':rq)(e:Ending)(W'':rq):Prop :=
 e=.returned (.tuple #[])/\(∃tag2 d,zA tag i b a c c2 tag2 d W''/\∀g,g<W'.heap.size->tag2 g=ky g)/\∀g,g<W'.heap.size->ky g=(0,0)->W''.heap[g]?=W'.heap[g]?
def zA.pS(h:zA tag i b W0 V0 c ky V' W')(d:k<8)(a:(c k).lC.Ok)(lo hi:Nat)(l:lo<=zF)(o:hi<=zF):rT 88 #[(b,9+15*k+4),lo,hi] W' (Pw tag i b W0 V0 { c with ws:=ze c.ws k { c.ws k with lC:=(c k).lC.add lo hi } } ky W'):=by
 have s:=a.most;have p:=a.rl;have p:=a.fl;have v:=h.p;unfold zF at l o p;have l:(V'.wc k).ownBlock≠some b:=λe=>by
  have f:=h.c.oB k d b e;rw[h.c.tb]at f;have:=A8 Prod.snd f;simp only at this;omega
 refine(Ks (c k).lC b (9+15*k+4) lo hi (V'.wc k) W' (h.c.py d I) a.wf I I I l s.1 I).mono ?_;rintro e a ⟨c,rfl,f,t,q,u⟩;refine⟨rfl,?_,λg a c=>q.block g a<|λx=>?_⟩
 .obtain⟨tag2,a,r,c⟩:=h.lC d ⟨f,t,q,u⟩<|IK _ _ _;exact⟨tag2,a,r,c⟩
 rcases x with x|x
 .have a:=h.c.tb;rw[<-x,c]at a;have:=A8 Prod.snd a;simp at this
 have a:=h.c.oB k d g x;rw[c]at a;have:=A8 Prod.snd a;simp at this;omega
def zA.pR(h:zA tag i b W0 V0 c ky V' W')(d:k<8)(a:(c k).lJ.Ok)(lo hi:Nat)(l:lo<=zF)(o:hi<=zF):rT 88 #[(b,9+15*k+1),lo,hi] W' (Pw tag i b W0 V0 { c with ws:=ze c.ws k { c.ws k with lJ:=(c k).lJ.add lo hi } } ky W'):=by
 have s:=a.most;have p:=a.rl;have p:=a.fl;have v:=h.p;unfold zF at l o p;have l:(V' k).ownBlock≠some b:=λe=>by
  have f:=h.c.ng k d b e;rw[h.c.tb]at f;have:=A8 Prod.snd f;simp only at this;omega
 refine(Ks (c k).lJ b (9+15*k+1) lo hi (V' k) W' (h.c.oA d I) a.wf I I I l s.1 I).mono ?_;rintro e a ⟨c,rfl,f,t,q,u⟩;refine⟨rfl,?_,λg a c=>q.block g a<|λx=>?_⟩
 .obtain⟨tag2,a,r,c⟩:=h.lJ d ⟨f,t,q,u⟩<|IK _ _ _;exact⟨tag2,a,r,c⟩
 rcases x with x|x
 .have a:=h.c.tb;rw[<-x,c]at a;have:=A8 Prod.snd a;simp at this
 have a:=h.c.ng k d g x;rw[c]at a;have:=A8 Prod.snd a;simp at this;omega
def WX(c:CS)(f:DV)(k:Nat)(a:f.stream=(k:Int))(d:f.kind=4)(hd:f.data≠[]){c3:CS}(e:c2={ c with ws:=ze c.ws k { c.ws k with lC:=(c k).lC.add f.off (f.off+f.data.length-1) } })(h:c3={ c2 with ws:=ze c2.ws k { c2.ws k with lJ:=(c2 k).lJ.add f.off (f.off+f.data.length-1) } }):c3=c.lY f:=by
 subst h e;unfold CS.lY WS.ln;rw[AM ⟨d,hd⟩,a];simp only[Ad,zf];rw[Qb]
def UL(c:CS)(f:DV)(h:¬(f.kind=4/\f.data≠[])):c.lY f=c:=by
 unfold CS.lY;rw[AH h]
def ff(h:zA tag i b W0 V0 c mU V W)(cb lb:Nat)(rs:zE)(la:rE)(s:Nat)
  (aH:W0 cb=some (.pointer b)) (aI:¬Dr i tag cb) (aJ:W0 lb=some (.slice la rs.length s)) (ab:¬Dr i tag lb)
  (aq:RR W0 (.slice la rs.length s) rs) (X:Dj (Dr i tag) (.slice la rs.length s)) (a1:rs.length<=1099511627776)
  (p:DW) (v:rt) (hp:(p,v)∈c.kx.zip V0.mr) (aK:Dw rs p=true->∀k f,p.fs[k]?=some f->Mp ((p.fs.take k).foldl CS.lY c) f) (a2:p.fs.length<=1099511627776) :
  rT 205 #[.agg #[.int .u64 p.n,.int .u64 p.at_,v],(lb,0),(cb,0)] W (WY tag i b W0 V0 c rs p):=by
 have aL:AA (∀{c':CS} {ky:rD} {V':CV} {W':rq},zA tag i b W0 V0 c' ky V' W'->W' cb=some (.pointer b)):=zb<|λr=>r.m.cell (a:=cb) aI aH;have aM:AA (∀{c':CS} {ky:rD} {V':CV} {W':rq},zA tag i b W0 V0 c' ky V' W'->W' lb=some (.slice la rs.length s)):=zb<|λr=>r.m.cell (a:=lb) ab aJ;have aN:AA (∀{c':CS} {ky:rD} {V':CV} {W':rq},zA tag i b W0 V0 c' ky V' W'->RR W' (.slice la rs.length s) rs):=zb<|λr=>aq.mod r.m X;have a3:rs.length<=s/\s<=maxLen:=by
  obtain⟨_,_,e,q1,q2,_⟩:=aq;cases e;exact⟨q1,q2⟩
 obtain⟨aO,aP⟩:=a3;unfold maxLen at aP;have HP:=zb hp;have aQ:=zb aK;obtain⟨pn,ac⟩:=nm p.n;obtain⟨pa,ai⟩:=nm p.at_;obtain⟨O,ah⟩:=nm p.fs;rw[ah]at aQ a2;rw[ac,ai];have ar:=zb ac;have FT:=h.c.fs (p,v) (by rw[h.ft.2];exact hp);obtain⟨l,hl,aR,-,-⟩:=FT;simp only at hl aR;rw[ah]at hl;obtain⟨a,ad,rfl,q1,q2,-⟩:=aR;have v:l.length=O.length:=by rw[<-hl,BD]
 rw[v]at HP q1 ⊢;have aS:=zb ah;have a4:=aL.z h;have aT:=aM.z h;obtain⟨W1,l⟩:=nm<|W.alloc<|.cells #[pn,pa,.slice a O.length ad] 173;have m1:=AB l;have R1:=zb<|h.lK m1;have o1:=AD l;obtain⟨pb,au⟩:=nm W.heap.size;rw[au]at o1;have aU:=zb o1;have z0:=za (o:=0) o1 rfl;have z2:W1 (pb,2)=some (.slice a O.length ad):=za (o:=2) o1 rfl;have aV:=m1.cell (a:=⟨lb,_,none⟩) id aT;have a5:=zb l;have a6:=zb au;obtain⟨RN,av⟩:=nm rs.length;have aw:=zb av;rw[av]at aV a1 aO aM aN;clear h hp ac ai ah m1 o1 a4 aT l au hl v q1 q2 aH aI aJ ab aq X aK av;go_enter func205,ntmps205;go_upto_region 1 with fail;rw[a5.z,a6.z];go_wp2_with fail
 go_loopw [12] (λiv wr=>∃q:Nat,q<=RN/\iv=.int .i64 q/\AA ((∀j,j<q->¬(DU rs j<=pn/\pn<=DP rs j))/\zA tag i b W0 V0 c mU V wr/\DO DQ W1 wr)) (λiv _=>RN-(intOf iv).toNat)
 case atStart=>exact⟨0,AN _,rfl,zb ⟨λj hj=>absurd hj<|A6 j,R1.z,DO.refl _ _⟩⟩
 case round =>
  clear z0 z2 aV R1;obtain⟨q,h,rfl,u⟩:=hrel;by_cases ab:q<RN
  .obtain⟨a',aj,ae,_,_,h3⟩:=aN.z u.z.2.1;have a7:aj=s/\a'=la:=by cases ae;exact rZ
   obtain⟨rfl,rfl⟩:=a7;obtain⟨g,o,a8,e1,e2,b1,b2⟩:=h3 q (by rw[aw.z];exact ab);subst a8;have z0:=za (o:=0) (u.z.2.2.obj rk aU.z) rfl;have z2:wr (pb,2)=some (.slice a O.length ad):=za (o:=2) (u.z.2.2.obj rk aU.z) rfl;have HQ:AA (q<rs.length):=zb (by rw[aw.z];exact ab);obtain⟨v,X⟩:=nm<|DU rs q;obtain⟨hi,h⟩:=nm<|DP rs q;rw[X]at e1 b1;rw[h]at e2 b2;have ax:=zb X;have ay:=zb h;have s:=zm z0;have a9:=zm e1;obtain⟨Y,hY⟩:=nm<|wr.alloc<|.cells #[v,hi] 214;have mY:=AB hY;have oY:=AD hY;have MY:=zb mY;have u0:=za (o:=0) oY rfl;have u1:=za (o:=1) oY rfl;have o:=mY.cell (a:=pb) id z0;have v2:=mY.cell (a:=U pb 2) id z2;obtain⟨yb,l⟩:=nm wr.heap.size;rw[l]at u0 u1;have HY:=zb hY;have A:=zb l;clear h3 ae X h oY mY hY l;by_cases h:(v:Int)<=pn
   .by_cases h:(pn:Int)<=hi
    .have az:=zb (fg HQ.z (by rw[ax.z,ar.z];omega) (by rw[ay.z,ar.z];omega));have RY:=zb<|u.z.2.1.lK MY.z;have h:=zb<|u.z.2.2.trans MY.z;clear u;go_upto_region 4 with fail;rw[HY.z,A.z];go_wp2_with fail
     go_loopw [31] (λiv wr=>∃(k:Nat) (ky:rD) (V':CV),k<=O.length/\iv=.int .i64 k/\AA (zA tag i b W0 V0 ((O.take k).foldl CS.lY c) ky V' wr)) (λiv _=>O.length-(intOf iv).toNat)
     case atStart=>exact⟨0,mU,V,AN _,rfl,RY⟩
     case round =>
      clear z0 z2 e1 e2 u0 u1 o v2 RY s a9 MY HY A h;obtain⟨k,T,V1,h,rfl,u⟩:=hrel;by_cases h:k<O.length
      .obtain⟨l1,af,h,-,-⟩:=u.z.c.fs (p,.slice a O.length ad) (by rw[Vo,u.z.ft.2];exact HP.z);simp only at af h;rw[aS.z]at af;obtain⟨a',aj,ae,_,_,h3⟩:=h;have ak:l1.length=O.length:=by rw[<-af,BD]
       rw[ak]at ae;cases ae;obtain⟨⟨f,rv⟩,aA⟩:∃a,l1[k]?=some a:=⟨l1[k],AJ I⟩;have aB:O[k]?=some f:=by rw[<-af,Bc,aA];rfl
       obtain⟨⟨a,h,rfl,hc⟩,aC⟩:=h3 k (f,rv) aA;simp only at hc aC;obtain⟨ra,rc,rfl,_⟩:=id aC;obtain⟨a,h,o,s,v,X,bk,bl,bm,l⟩:=Ji hc;obtain⟨Y,hY⟩:=nm<|wr.alloc<|.cells (zj f<|.slice ra f.lF.length rc) 65;have mY:=AB hY;have s:=AC hY;have X:zl Y wr.heap.size f (.slice ra f.lF.length rc):=by rw[<-hY];exact heap_alloc_new wr _
       obtain⟨y0,y1,y2,y3,y4,y5,y6,y7,y8,y9⟩:=X.cells;have ok:=aQ.z az.z k f aB;have HT:=zb<|fh (c:=c) aB;obtain⟨c1,h⟩:=nm<|(O.take k).foldl CS.lY c;rw[h]at ok HT u;have a:=u.z.e.z _ ro;have RY:=zb<|u.z.lK mY;have aD:=aL.z RY.z;obtain⟨m,aW,Z⟩:=ok.st;rw[Z]at y1;obtain⟨fb,v⟩:=nm wr.heap.size;rw[v]at a y0 y1 y2 y8 s;have ba:=zb a;have bb:=zb s;have o:(0:Int)<=m:=I;have o:(m:Int)<8:=I;obtain⟨RL,aX⟩:=nm f.lF.length;rw[aX]at l hY;have HY:=zb hY;have A:=zb v;obtain⟨t,l⟩:=nm f.off;obtain⟨d,o⟩:=nm f.data;rw[l]at y2;rw[o]at y8;have al:=zb l;have B:=zb o;have bn:=zb h;unfold zj at HY;clear h3 aA hc aC mY X aB af aX u hY v h a s y3 y4 y5 y6 y7 y9 l o ak;by_cases E:f.kind=4
       .by_cases N:f.data=[]
        .have bc:d=[]:=by rw[<-B.z];exact N
         subst bc;have HE:=zb (UL c1 f (by simp[N]));rw[E]at y0;have a:=zb N;have be:=Ym;clear E Z N ok;go_upto_region 8 with fail;rw[HY.z,A.z];refine zH ?_;refine zn 7 (λw'=>w' cb=some (.pointer b)/\w' (U fb 1)=some (.int .i64 m)) (⟨aD,y1⟩) ?_;refine GI 0 ?_;iterate 7
          refine GV rfl ?_;try simp only[PS]
         refine zq ?_;refine⟨rfl,?_⟩;go_wp2_with fail;go_roundw
         case rel=>exact⟨k+1,T,V1,I,by go_num,zb<|by rw[HT.z,HE.z];exact RY.z.lK (DO.refl DQ Y).drew⟩
         simp[intOf];omega
        obtain⟨a,aa⟩:=ok.a E N;have bf:m=a:=by
         have a:=aa.st;rw[Z]at a;omega
        subst bf;have b1:=aa.end_;have b2:=aa.dl;have a:d≠[]:=by rw[<-B.z];exact N
        have h:=BM.2 a;rw[al.z,B.z]at b1;rw[B.z]at b2;have ag:=RY.z.lK<|(DO.refl DQ Y).drew.drew;have h:=ag.pS aW aa.lC t (t+d.length-1) I I;have hz:((t+d.length-1:Nat):Int)=(t:Int)+d.length-1:=I;rw[hz,AL 15 m]at h;have l:=zb h;have aY:=zb aa;have bg:=zb N;have bh:=zb Z;have bi:=zb E;rw[E]at y0;unfold zF at b1;have o:=zG d;have o:IntKind.u64.wrap (d.length:Int)=(d.length:Int):=by rw[IntKind.wrap_u64];omega
        have o:=wu ((t:Int)+d.length) I;have o:=wu ((t:Int)+d.length-1) I;have be:=Yn a;clear h ag ok aa Z E N hz;go_upto_region 8 with fail;rw[HY.z,A.z];refine zH ?_;refine zn 7 (λw'=>w' cb=some (.pointer b)/\w' (U fb 1)=some (.int .i64 m)) (⟨aD,y1⟩) ?_;refine GI 0 ?_;iterate 7
         refine GV rfl ?_;try simp only[PS]
        refine zq ?_;refine⟨rfl,?_⟩;go_upto_region 10 with fail;refine zH ?_;refine zn 13 (λw'=>w' (U fb 2)=some (.int .u64 t)/\w' (U fb 8)=some (.string<|zu d)) (⟨y2,y8⟩) ?_;refine GI 0 ?_;iterate 13
         refine GV rfl ?_;try simp only[PS]
        refine zY rfl (λK hK=>?_);go_simp
        with_reducible refine(l.z).mono ?_
        rintro e aZ ⟨rfl,⟨a,h,ag,am⟩,an⟩;have h:=zb ag;have a:=zb am;have a:=zb an;clear ag am an;go_simp;refine hK.z _ _ ?_;clear hK K;try simp only[PS]
        refine zq ?_;refine⟨rfl,?_⟩;have l:aZ.heap[fb]?=Y.heap[fb]?:=a.z fb (by show fb<Y.heap.size;rw[bb.z];omega) ba.z;have o:=(World.cell?_of_block l).trans y2;have s:=(World.cell?_of_block l).trans y8;have a:=(h.z.lK (DO.refl DQ aZ).drew).pR aW (by simp only[zf];exact aY.z.lJ) t (t+d.length-1) (by unfold zF;omega) (by unfold zF;omega);have hz:((t+d.length-1:Nat):Int)=(t:Int)+d.length-1:=I;rw[hz,AL 15 m]at a;have h:=zb a;clear a l hz;go_upto_region 11 with fail;refine zH ?_;refine zn 13 (λw'=>w' (U fb 2)=some (.int .u64 t)/\w' (U fb 8)=some (.string<|zu d)) (⟨o,s⟩) ?_;refine GI 0 ?_;iterate 13
         refine GV rfl ?_;try simp only[PS]
        refine zY rfl (λK hK=>?_);go_simp
        with_reducible refine(h.z).mono ?_
        rintro e a ⟨rfl,⟨aE,bj,a0,ao⟩,ap⟩;have a:=zb a0;have d:=zb ao;have d:=zb ap;clear a0 ao ap;go_simp;refine hK.z _ _ ?_;clear hK K;try simp only[PS]
        refine zq ?_;refine⟨rfl,?_⟩;go_wp2_with fail;go_roundw
        case rel =>
         refine⟨k+1,aE,bj,I,by go_num,zb ?_⟩;rw[HT.z,<-WX c1 f m bh.z bi.z bg.z rfl rfl,al.z,B.z];exact a.z
        simp[intOf];omega
       have HE:=zb (UL c1 f (by simp[E]));have a:(f.kind==4)=false:=rB E;clear Z ok;go_upto_region 8 with fail;rw[HY.z,A.z];refine zH ?_;refine zn 7 (λw'=>w' cb=some (.pointer b)/\w' (U fb 1)=some (.int .i64 m)) (⟨aD,y1⟩) ?_;refine GI 0 ?_;iterate 7
        refine GV rfl ?_;try simp only[PS]
       refine zq ?_;refine⟨rfl,?_⟩;go_wp2_with fail;go_roundw
       case rel=>exact⟨k+1,T,V1,I,by go_num,zb<|by rw[HT.z,HE.z];exact RY.z.lK (DO.refl DQ Y).drew⟩
       simp[intOf];omega
      have a:O.length=k:=I;have aF:AA (zA tag i b W0 V0 (c.nE rs p) T V1 wr):=zb (by
       have:=u.z;rw[Ab I]at this;unfold CS.nE;rw[AM az.z,aS.z];exact this)
      go_wp2_with fail;go_ret;exact⟨by rw[az.z];rfl,T,V1,aF.z⟩
    go_upto_region 4 with fail;rw[HY.z,A.z];go_wp2_with fail;go_roundw
    case rel =>
     refine⟨q+1,I,by go_num,zb ⟨λj hj x=>?_,u.z.2.1.lK MY.z,u.z.2.2.trans MY.z⟩⟩;by_cases aG:j=q
     .subst aG;rw[ax.z,ay.z]at x;omega
     exact u.z.1 j I x
    simp[intOf];omega
   go_upto_region 4 with fail;rw[HY.z,A.z];go_wp2_with fail;go_roundw
   case rel =>
    refine⟨q+1,I,by go_num,zb ⟨λj hj x=>?_,u.z.2.1.lK MY.z,u.z.2.2.trans MY.z⟩⟩;by_cases aG:j=q
    .subst aG;rw[ax.z,ay.z]at x;omega
    exact u.z.1 j I x
   simp[intOf];omega
  have a:q=RN:=I;have d:=zb (jX (λj hj=>by
   rw[ar.z];exact u.z.1 j<|by rw[aw.z]at hj;omega))
  have aF:AA (zA tag i b W0 V0 (c.nE rs p) mU V wr):=zb (by
   unfold CS.nE;rw[AH (by rw[d.z];simp)];exact u.z.2.1)
  clear a;go_wp2_with fail;go_ret;exact⟨by rw[d.z];rfl,mU,V,aF.z⟩
structure Kg(c:CS):Prop where
 sz:∀p∈c.kx,p.n<=zF/\p.at_<=zF/\p.fs.length<=1099511627776
 ag:∀(k:Nat) p,c.kx[k]?=some p->c.late p=true->∀(j:Nat) f,p.fs[j]?=some f->JR ((c.mO<|c.kx.take k).ly<|p.fs.take j) f
def E0(tag:rD)(i b:Nat)(e:rq)(c:CS)(a:rE)(N cap:Nat)(k:Nat)(R:List (DW×rt))(w:rq):Prop :=
 R.length=N/\∃ky d,zA tag i b e d ((c.mO<|c.kx.take k).mC<|R.map (·.1)) ky d w/\d.ft=.slice a N cap/\d.mr=R.map (·.2)
variable{a:rE}
def E0.row{R:List (DW×rt)}(h:E0 tag i b W0 c a N cap k R w):w.ownsRow 0 173 3 (.slice a N cap) N (zB R):=by
 obtain⟨a,ky,e,r,c,d⟩:=h;have:=r.c.ft;rw[c,d]at this;simp only[CS.mC,BD,GB,a]at this;exact this
variable{w':rq}
def E0.lK{R:List (DW×rt)}(h:E0 tag i b W0 c a N cap k R w)(m:DO DQ w w'):E0 tag i b W0 c a N cap k R w':=by
 obtain⟨a,ky,c,r,d,e⟩:=h;exact⟨a,ky,c,r.lK m,d,e⟩
def E0.del(d:0<N->a=some ⟨g,0,none⟩):L6 (E0 tag i b W0 c a N cap) N g:=by
 refine⟨λk R w w' h m=>h.lK m,λk R w h=>h.1,λk R w h j x a=>?_⟩;have e:0<N:=by
  have:=(AO.1 a).1;have:=h.1;omega
 have c:=h.row;rw[d e]at c;exact VG c h.1 j x a
variable{cb:Nat}{w1:rq}
def E0.ask{R:List (DW×rt)}(h:E0 tag i b W0 c a N cap k R w)(ok:Kg c)(f:W0 cb=some (.pointer b))(d:¬Dr i tag cb)(m:DO DQ w w1)(x:DW×rt)(v:R[k]?=some x)(p:c.kx[k]?=some x.1):rT 79 #[.agg #[.int .u64 x.1.n,.int .u64 x.1.at_,x.2],(cb,0)] w1 (λe w'=>e=.returned (.bool (c.late x.1))/\E0 tag i b W0 c a N cap (k+1) R w'/\∀q,w.heap.size<=q->q<w1.heap.size->w'.heap[q]?=w1.heap[q]?):=by
 obtain⟨z,ky,t,r,A,u⟩:=h;have s:=r.lK m;have t:=zm f;have h:=s.m.cell (a:=cb) d f;have a:¬Dr i ky cb:=by unfold Dr at d ⊢;rw[r.e.mL cb t];exact d
 have d:=AW p;obtain⟨f,t,B⟩:=ok.sz _ d;have l:∀q,((c.mO<|c.kx.take k).mC<|R.map (·.1)).late q=c.late q:=λq=>VE (c.kx.take k) c q
 have d:=fG s.refl cb h a x.1 x.2 (by rw[u];simp only[CS.mC,GB];exact AW v) f t (λe j f a=>by
  rw[l]at e;rw[Rb];exact(ok.ag k x.1 p e j f a).mC _) B
 refine d.mono ?_;rintro e w' ⟨rfl,tag2,E,o⟩;rw[l]at o ⊢;have a:(if c.late x.1=true then((c.mO<|c.kx.take k).mC<|R.map (·.1)).ly x.1.fs else(c.mO<|c.kx.take k).mC (R.map (·.1)))=(c.mO<|c.kx.take<|k+1).mC (R.map (·.1)):=by
  rw[fj c c.kx k x.1 p,<-dj];unfold CS.ma;rw[l]
 rw[a]at o;refine⟨rfl,⟨z,tag2,E,s.trans o,o.ft.1.trans A,o.ft.2.trans u⟩,λq c a=>?_⟩;refine o.m.block q a<|λa=>?_;have:=a.1;rw[r.e.z q c]at this;have p:=r.p;simp at this;omega
def UA(w:rq):(zeroValue 173).run prog w=.ok (.agg #[.int .u64 0,.int .u64 0,.slice none 0 0]) w:=kw
def Ke:DW×rt:=(⟨0,0,[]⟩,.slice none 0 0)
def Gu.none(tag:rD)(t:Nat×Nat)(w:rq):Gu tag t w ru [] :=
 ⟨[],rfl,⟨Option.none,0,rfl,AF _,lw,λi a h=>by simp at h⟩,λg h=>by simp[Value.mu]at h,λa h=>by simp at h⟩
theorem VD(n:Nat):(Builtin.zeroCells (Value.agg #[.int .u64 0,.int .u64 0,.slice none 0 0]).cells n).toList=zB (List.replicate n Ke):=by
 have h:∀n,(Builtin.zeroCells (Value.agg #[.int .u64 0,.int .u64 0,.slice none 0 0]).cells n).toList=(List.range<|n*3).map (λi=>(#[Value.int .u64 0,Value.int .u64 0,Value.slice none 0 0]:Array rt)[i % 3]!):=λn=>by
  simp[Builtin.zeroCells,Value.cells]
 rw[h];clear h
 induction n with
 | zero=>rfl
 | succ n ih =>
  rw[List.replicate_succ,Ky,<-ih,(I:(n+1)*3=3+n*3),List.range_add,BX,Ca];have e:((λi=>(#[Value.int .u64 0,Value.int .u64 0,Value.slice none 0 0]:Array rt)[i % 3]!) ∘ λx=>3+x)=λi=>(#[Value.int .u64 0,Value.int .u64 0,Value.slice none 0 0]:Array rt)[i % 3]!:=by
   funext q;simp only[Function.comp,Nat.add_mod_left]
  rw[e];rfl
def PL(w:rq)(g:Nat)(cs:Array rt):DO (λq=>q=g) w (w.setRow g cs):=by
 refine⟨rfl,rfl,rfl,by simp[World.setRow],λq c a=>?_⟩;have a:¬g=q:=λe=>a e.symm
 simp[World.setRow,CF,a]
def E0.mz{R R':List (DW×rt)}(h:E0 tag i b W0 c (some ⟨g,0,none⟩) N cap k R w)(m:DO (λq=>q=g) w w')(l:R'.length=N)(a:w'.ownsRow 0 173 3 (.slice g N cap) N (zB R'))(t:∀p∈R',p∈R\/p=Ke):E0 tag i b W0 c (some ⟨g,0,none⟩) N cap k R' w':=by
 obtain⟨c,ky,o,r,d,u⟩:=h;have s:o.ft.ownBlock=some g:=by rw[d];rfl
 have e:=r.c.nj g s;have f:∀p∈R',Gu ky (i,5) w p.2 p.1.fs:=λp c=>by
  rcases t p c with x|x
  .exact r.c.fs p (by rw[u];simp only[CS.mC,GB];exact x)
  subst x;exact Gu.none _ _ _
 have c1:=r.c.mC m s (R':=R') (by rw[d,l];exact a) f;exact⟨l,ky,{ o with mr:=R'.map (·.2) },⟨c1,⟨r.e.mL,r.e.new,r.e.z.mod m⟩,Er r.e r.m<|m.mono<|λq a=>.inl<|EU (r:=4) (by rw[show q=g from a];exact e) lc,r.p,⟨rfl,rfl⟩⟩,d,rfl⟩
def E0.pw(v:0<N->a=some ⟨g,0,none⟩)(e:N<=cap):JL (E0 tag i b W0 c a N cap) N g cap:=by
 refine⟨λk R w u h=>?_,λk R w x h z=>?_,λk R w j x h q z=>?_,λk R w j h q=>?_⟩
 .have a:=h.row;rw[v u]at a;obtain⟨d,t,_⟩:=I2 a;exact⟨d,t⟩
 .obtain⟨a,ky,c,r,t,A⟩:=h;obtain⟨l,_,⟨c,a,e,_⟩,_,_⟩:=r.c.fs x (by rw[A];simp only[CS.mC,GB];exact z);exact⟨_,_,_,e⟩
 .have u:0<N:=I;have f:=v u;subst f;have a:=UB x h.row h.1 q;refine h.mz ?_ (by rw[Bf];exact h.1) a (λp B=>?_)
  .exact(((DO.refl (λq=>q=g) w).setCell (p:=⟨g,_,none⟩) rj _).setCell (p:=⟨g,_,none⟩) rj _).setCell (p:=⟨g,_,none⟩) rj _
  rcases List.mem_or_eq_of_mem_set B with y|y
  .exact .inl y
  exact .inl<|y ▸ z
 have u:0<N:=I;have f:=v u;subst f;obtain⟨d,t,A,e,f,a⟩:=I2 h.row;have c:w.heap[g]?=some (.cells d.toList.toArray 173 (0,0)):=rB t;have a:d.toList.length=cap*3:=rB f;have o:(zB<|List.replicate (N-j) Ke).length=(N-j)*3:=by rw[JG,Bj]
 refine⟨_,R.take j++List.replicate (N-j) Ke,λf=>Mf (P:=prog) w 123 f 173 (.agg #[.int .u64 0,.int .u64 0,.slice none 0 0]) 3 underlying123 UA rfl (by simp[Value.cells,Value.oneCell']) g (j*3) (N-j) _ d.toList _ c (by rw[a];omega),?_,?_⟩
 .rw[VD];have s:(R.take j).length=j:=by rw[AU,h.1];omega
  refine h.mz ?_ (by rw[AG,s,Bj];omega) ?_<|λp B=>?_
  .exact PL w g _
  .refine⟨by rw[JG,AG,s,Bj];omega,.inr ⟨g,cap,_,rfl,AN _,setRow_heap w g _ _ _ _ t,A,e,?_,?_⟩⟩
   .rw[An,length_splice _ _ _<|by rw[o,a];omega,a]
   have K:d.toList.take (j*3)=zB (R.take j):=by
    have:=(Qu h.row h.1 (n:=j) I);obtain⟨a,E,_,_,_,O⟩:=I2 this;rw[t]at E;cases E;exact O
   unfold splice;rw[K,Rr];have a:(zB<|R.take j).length=j*3:=by rw[JG,s]
   rw[<-List.append_assoc];simp only[DJ];rw[BF (by rw[AG,a,o];omega),Ab (by rw[AG,a,o];omega)]
  rcases Ak.1 B with y|y
  .exact .inl (BP y)
  exact .inr<|List.eq_of_mem_replicate y
 rw[BF (by rw[AU,h.1];omega),Be,CY]
def Sj{n:Nat}{R:List (DW×rt)}(h:w.ownsRow 0 173 3 (.slice a N cap) N (zB R))(c:R.length=N)(d:n<=N):w.ownsRow 0 173 3 (.slice a n cap) n (zB (R.take n)):=by
 by_cases a:N=0
 .have a:n=N:=I;rw[a,Ab I];exact h
 obtain⟨l,a,e,_,_,f⟩:=zk h;cases e;obtain⟨g,rfl⟩:=f I;exact Qu h c d
def E0.done{n:Nat}{R:List (DW×rt)}(h:E0 tag i b W0 c a N cap N R w)(t:c.kx.length=N)(e:n<=N)(s:(R.take n).map (·.1)=c.kx.filter λp => !c.late p):∃ky f,zA tag i b W0 f c.nF ky f (w.setCell (b,236) (.slice a n cap)):=by
 have l:=Sj h.row h.1 e;obtain⟨u,ky,f,r,e,v⟩:=h;rw[Ab I]at r;have m:DO (λq=>q=b) w (w.setCell (U b 236)<|.slice a n cap):=(DO.refl (λq=>q=b) w).setCell (p:=⟨b,_,none⟩) rj _;have d:∀g,(Value.slice a n cap).ownBlock=some g->ky g=(i,4):=λg o=>r.c.nj g<|by rw[e];cases a<;>exact o
 have t:∀g,(Value.slice a n cap).ownBlock=some g->¬g=b:=λg o e=>by
  have h:=d g o;rw[e,r.c.tb]at h;simp at h
 have h:(R.take n).length=n:=by rw[AU,u];omega
 rw[Hj,<-s];refine⟨ky,{ f with ft:=.slice a n cap,mr:=(R.take n).map (·.2) },⟨?_,⟨r.e.mL,r.e.new,r.e.z.mod m⟩,Er r.e r.m<|m.mono<|λq o=>.inl<|EU (r:=1) (by rw[show q=b from o];exact r.c.tb) lc,r.p,⟨rfl,rfl⟩⟩⟩;refine r.c.build (R:=λr=>r=1) m (λq o=>⟨1,rfl,by rw[show q=b from o];exact r.c.tb⟩) (λ_ _=>rfl) ?_ rY (λk s=>.inl rW) (λk s=>.inl rW) (λk s=>.inl rW) (λk s=>.inl rW) (λk s=>.inl rW) (.inr ⟨?_,?_,?_,?_⟩) rV rV rV
 .rw[zc r.c.obj];simp only[Ao];rw[show(236:Nat)=233+3 from rfl,GA (j:=3) ((c.mO c.kx).mC<|R.map (·.1)) ((c.mO c.kx).mC<|(R.take n).map (·.1)) f { f with ft:=.slice a n cap,mr:=(R.take n).map (·.2) } (.slice a n cap) rfl rfl rfl rfl]
 .simp only[CS.mC,BD,GB,h];exact m.owns l t
 .simp[CS.mC]
 .simp only[CS.mC,GB];intro p a;refine(r.c.fs p<|by rw[v];simp only[CS.mC,GB];exact BP a).mod m (λq o e=>?_) (λ_ e=>e);rw[show q=b from o,r.c.tb]at e;simp at e
 exact d
variable{W1:rq}
def Yl(h:zi tag i b c V W)(z:Dm tag W)(hi:0<i)(ok:Kg c)(hb:c.kx.length<=1099511627776)(f:W cb=some (.pointer b))(q:¬Dr i tag cb)(m:DO DQ W W1)(t:V.ft=.slice a N cap)(l:c.kx.length=N):rT 78 #[.slice a N cap,.func (.func 79) #[] #[.pointer cb]] W1 (OX (E0 tag i b W c a N cap) c.late (c.kx.zip V.mr) a cap):=by
 have o:(c.kx.zip V.mr).length=N:=by rw[Cv,h.fl,CY,l]
 have p:(c.kx.zip V.mr).map (·.1)=c.kx:=DC<|Az h.fl.symm;have s:(c.kx.zip V.mr).map (·.2)=V.mr:=List.map_snd_zip<|Az h.fl;have d:=h.ft;rw[t,l]at d;obtain⟨v,l,e,u,A,B⟩:=zk d;cases e;have v:∀(k:Nat) (x:DW×rt),(c.kx.zip V.mr)[k]?=some x->c.kx[k]?=some x.1:=λk x d=>by
  have:=A8 (λl=>l[k]?) p;simp only[Bc,d]at this;exact this.symm
 have l:zA tag i b W V c tag V W:=⟨h,Di.same z<|DO.refl DQ W,DO.refl _ _,hi,⟨rfl,rfl⟩⟩;have z:E0 tag i b W c a N cap 0 (c.kx.zip V.mr) W:=⟨o,tag,V,by rw[p];exact l,t,s.symm⟩;obtain⟨g,h⟩:∃g,0<N->a=some ⟨g,0,none⟩:=by
  by_cases l:0<N
  .obtain⟨g,h⟩:=B l;exact⟨g,λ_=>h⟩
  exact⟨0,λx=>absurd x l⟩
 refine iz (E0 tag i b W c a N cap) c.late (c.kx.zip V.mr) N g cap cb a o I u A h (E0.del h) (E0.pw h u) (λk w x a d=>?_) (λk R w o x a d c=>?_) W1<|z.lK m
 .exact(a.ask ok f q (DO.refl DQ w) x d<|v k x d).mono (λe w' p=>⟨p.1,p.2.1⟩)
 exact(a.ask ok f q ((DO.refl DQ w).alloc o) x d<|v k x c).mono (λe w' p=>⟨p.1,p.2.1,p.2.2 _ ro lm⟩)
def IJ(c:Dm tag W)(m:DO DQ W W0)(h:Di i tag ky W0 W'):Di i tag ky W W':=by
 refine⟨λg a=>h.mL g<|A7 a m.size,λg a=>?_,h.z⟩;by_cases q:g<W0.heap.size
 .exact .inr (by rw[h.mL g q];exact c g a)
 exact h.new g I
def T9(h:zi tag i b c V W)(B:Dm tag W)(hi:0<i)(ok:Kg c)(hb:c.kx.length<=1099511627776):rT 49 #[(b,0)] W (EI tag i b W (.tuple #[]) c.nF):=by
 obtain⟨a,p,X,_⟩:=zk h.ft;obtain⟨N,u⟩:=nm c.kx.length;rw[u]at X;obtain⟨W1,e⟩:=nm<|W.alloc<|.cells #[(b,0)] 69;have E:=AB e;have l:W1 W=some (.pointer b):=by rw[<-e];exact za (heap_alloc_new W _) rfl
 have o:¬Dr i tag W.heap.size:=λx=>by
  have f:=x.1;rw[B _ ro]at f;simp at f;omega
 have f:=h.lK E;have v:=B.mod E;have O:=Yl f v hi ok hb l o (DO.refl DQ W1).drew X u;have q:(c.kx.zip V.mr).length=N:=by rw[Cv,h.fl,CY,u]
 have s:(c.kx.zip V.mr).map (·.1)=c.kx:=DC<|Az h.fl.symm;obtain⟨L,hL⟩:=nm<|c.kx.zip V.mr;rw[hL]at O q s;obtain⟨Y,d⟩:=nm W.heap.size;rw[d]at O l o;have Z:W1 (b,236)=some (.slice a N p):=by rw[<-X];exact f.tl (j:=3) rfl
 have fz:=f.fz 236;have KD:=zb O;have HT:=zb B;have X:=zb hi;have z:=zb E;have aa:=zb o;have ab:=zb l;have HZ:=zb<|And.intro q s;have HN:=zb u;have X:=zb e;have ac:=zb d;clear O B hi E o q s u h f v ok hb hL e d;go_enter func49,ntmps49;go_upto_region 1 with fail;try rw[X.z]
 try rw[ac.z]
 refine zH ?_;refine zn 9 (λw'=>w' Y=some (.pointer b)/\w' (U b 236)=some (.slice a N p)/\w'.frozen? ⟨b,236,none⟩=false) (⟨l,Z,fz⟩) ?_;refine GI 0 ?_;iterate 6
  refine GV rfl ?_;try simp only[PS]
 refine zz 6 rfl (λK A=>?_);go_simp
 with_reducible refine(KD.z).mono ?_
 rintro e w6 ⟨n,R,rfl,hn,hj,T⟩;have h:=zb<|And.intro hn<|And.intro hj T;have d:w6 Y=some (.pointer b)/\w6 (b,236)=some (.slice a N p)/\w6.frozen? ⟨b,236,none⟩=false:=by
  obtain⟨o,ky,e,r,l,p⟩:=hj;exact⟨r.m.cell (a:=Y) aa.z ab.z,by rw[<-l];exact r.c.tl (j:=3) rfl,r.c.fz 236⟩
 clear hj hn T;go_simp;refine A.z _ _ d ?_;obtain⟨p0,p1,p2⟩:=d;clear A K;try simp only[PS]
 refine GI 7 ?_;iterate 2
  refine GV rfl ?_;try simp only[PS]
 refine zY rfl (λK A=>?_);go_simp;refine A.z _ _ ?_;clear A K;try simp only[PS]
 refine zq ?_;refine⟨rfl,?_⟩;go_wp2_with fail
 go_end0
 refine⟨rfl,?_⟩;obtain⟨f,a,d⟩:=h.z;rw[HZ.z.1]at f a;have T:(R.take n).map (·.1)=c.kx.filter λp => !c.late p:=by
  rw[d,<-HZ.z.2,List.filter_map];rfl
 obtain⟨ky,e,r⟩:=a.done HN.z f T;exact⟨ky,e,r.c,IJ HT.z z.z r.e,(z.z.mono rm).then r.m.oL<|λg a=>.inl a⟩
def E8(tag:rD)(i b:Nat)(d:rq)(G:Nat->CS)(a:rE)(N cap:Nat)(k:Nat)(R:List (DW×rt))(w:rq):Prop :=
 R.length=N/\∃ky c,zA tag i b d c ((G k).mC<|R.map (·.1)) ky c w/\c.ft=.slice a N cap/\c.mr=R.map (·.2)
def E8.row{G:Nat->CS}{R:List (DW×rt)}(h:E8 tag i b W0 G a N cap k R w):w.ownsRow 0 173 3 (.slice a N cap) N (zB R):=by
 obtain⟨a,ky,e,r,c,d⟩:=h;have:=r.c.ft;rw[c,d]at this;simp only[CS.mC,BD,GB,a]at this;exact this
def E8.lK{G:Nat->CS}{R:List (DW×rt)}(h:E8 tag i b W0 G a N cap k R w)(m:DO DQ w w'):E8 tag i b W0 G a N cap k R w':=by
 obtain⟨a,ky,c,r,d,e⟩:=h;exact⟨a,ky,c,r.lK m,d,e⟩
def E8.del{G:Nat->CS}(d:0<N->a=some ⟨g,0,none⟩):L6 (E8 tag i b W0 G a N cap) N g:=by
 refine⟨λk R w w' h m=>h.lK m,λk R w h=>h.1,λk R w h j x a=>?_⟩;have e:0<N:=by
  have:=(AO.1 a).1;have:=h.1;omega
 have c:=h.row;rw[d e]at c;exact VG c h.1 j x a
def E8.mz{G:Nat->CS}{R R':List (DW×rt)}(h:E8 tag i b W0 G (some ⟨g,0,none⟩) N cap k R w)(m:DO (λq=>q=g) w w')(f:R'.length=N)(a:w'.ownsRow 0 173 3 (.slice g N cap) N (zB R'))(s:∀p∈R',p∈R\/p=Ke):E8 tag i b W0 G (some ⟨g,0,none⟩) N cap k R' w':=by
 obtain⟨t,ky,l,r,c,u⟩:=h;have o:l.ft.ownBlock=some g:=by rw[c];rfl
 have d:=r.c.nj g o;have e:∀p∈R',Gu ky (i,5) w p.2 p.1.fs:=λp h=>by
  rcases s p h with x|x
  .exact r.c.fs p (by rw[u];simp only[CS.mC,GB];exact x)
  subst x;exact Gu.none _ _ _
 have c1:=r.c.mC m o (R':=R') (by rw[c,f];exact a) e;exact⟨f,ky,{ l with mr:=R'.map (·.2) },⟨c1,⟨r.e.mL,r.e.new,r.e.z.mod m⟩,Er r.e r.m<|m.mono<|λq a=>.inl<|EU (r:=4) (by rw[show q=g from a];exact d) lc,r.p,⟨rfl,rfl⟩⟩,c,rfl⟩
def E8.pw{G:Nat->CS}(u:0<N->a=some ⟨g,0,none⟩)(e:N<=cap):JL (E8 tag i b W0 G a N cap) N g cap:=by
 refine⟨λk R w t h=>?_,λk R w x h v=>?_,λk R w j x h q v=>?_,λk R w j h q=>?_⟩
 .have a:=h.row;rw[u t]at a;obtain⟨c,s,_⟩:=I2 a;exact⟨c,s⟩
 .obtain⟨a,ky,e,r,s,z⟩:=h;obtain⟨l,_,⟨O,a,e,_⟩,_,_⟩:=r.c.fs x (by rw[z];simp only[CS.mC,GB];exact v);exact⟨_,_,_,e⟩
 .have t:0<N:=I;have d:=u t;subst d;have a:=UB x h.row h.1 q;refine h.mz ?_ (by rw[Bf];exact h.1) a (λp A=>?_)
  .exact(((DO.refl (λq=>q=g) w).setCell (p:=⟨g,_,none⟩) rj _).setCell (p:=⟨g,_,none⟩) rj _).setCell (p:=⟨g,_,none⟩) rj _
  rcases List.mem_or_eq_of_mem_set A with y|y
  .exact .inl y
  exact .inl<|y ▸ v
 have t:0<N:=I;have d:=u t;subst d;obtain⟨c,s,z,e,l,a⟩:=I2 h.row;have d:w.heap[g]?=some (.cells c.toList.toArray 173 (0,0)):=rB s;have a:c.toList.length=cap*3:=rB l;have f:(zB<|List.replicate (N-j) Ke).length=(N-j)*3:=by rw[JG,Bj]
 refine⟨_,R.take j++List.replicate (N-j) Ke,λl=>Mf (P:=prog) w 123 l 173 (.agg #[.int .u64 0,.int .u64 0,.slice none 0 0]) 3 underlying123 UA rfl (by simp[Value.cells,Value.oneCell']) g (j*3) (N-j) _ c.toList _ d (by rw[a];omega),?_,?_⟩
 .rw[VD];have o:(R.take j).length=j:=by rw[AU,h.1];omega
  refine h.mz ?_ (by rw[AG,o,Bj];omega) ?_<|λp A=>?_
  .exact PL w g _
  .refine⟨by rw[JG,AG,o,Bj];omega,.inr ⟨g,cap,_,rfl,AN _,setRow_heap w g _ _ _ _ s,z,e,?_,?_⟩⟩
   .rw[An,length_splice _ _ _<|by rw[f,a];omega,a]
   have E:c.toList.take (j*3)=zB (R.take j):=by
    have:=(Qu h.row h.1 (n:=j) I);obtain⟨a,B,_,_,_,K⟩:=I2 this;rw[s]at B;cases B;exact K
   unfold splice;rw[E,Rr];have a:(zB<|R.take j).length=j*3:=by rw[JG,o]
   rw[<-List.append_assoc];simp only[DJ];rw[BF (by rw[AG,a,f];omega),Ab (by rw[AG,a,f];omega)]
  rcases Ak.1 A with y|y
  .exact .inl (BP y)
  exact .inr<|List.eq_of_mem_replicate y
 rw[BF (by rw[AU,h.1];omega),Be,CY]
def E8.done{G:Nat->CS}{n:Nat}{R:List (DW×rt)}(h:E8 tag i b W0 G a N cap N R w)(e:n<=N):∃ky d,zA tag i b W0 d ((G N).mC ((R.take n).map (·.1))) ky d (w.setCell (b,236) (.slice a n cap)):=by
 have f:=Sj h.row h.1 e;obtain⟨o,ky,d,r,e,t⟩:=h;have m:DO (λq=>q=b) w (w.setCell (U b 236)<|.slice a n cap):=(DO.refl (λq=>q=b) w).setCell (p:=⟨b,_,none⟩) rj _;have c:∀g,(Value.slice a n cap).ownBlock=some g->ky g=(i,4):=λg l=>r.c.nj g<|by rw[e];cases a<;>exact l
 have s:∀g,(Value.slice a n cap).ownBlock=some g->¬g=b:=λg l e=>by
  have h:=c g l;rw[e,r.c.tb]at h;simp at h
 have h:(R.take n).length=n:=by rw[AU,o];omega
 refine⟨ky,{ d with ft:=.slice a n cap,mr:=(R.take n).map (·.2) },⟨?_,⟨r.e.mL,r.e.new,r.e.z.mod m⟩,Er r.e r.m<|m.mono<|λq l=>.inl<|EU (r:=1) (by rw[show q=b from l];exact r.c.tb) lc,r.p,⟨rfl,rfl⟩⟩⟩;refine r.c.build (R:=λr=>r=1) m (λq l=>⟨1,rfl,by rw[show q=b from l];exact r.c.tb⟩) (λ_ _=>rfl) ?_ rY (λk o=>.inl rW) (λk o=>.inl rW) (λk o=>.inl rW) (λk o=>.inl rW) (λk o=>.inl rW) (.inr ⟨?_,?_,?_,?_⟩) rV rV rV
 .rw[zc r.c.obj];simp only[Ao];rw[show(236:Nat)=233+3 from rfl,GA (j:=3) ((G N).mC<|R.map (·.1)) ((G N).mC<|(R.take n).map (·.1)) d { d with ft:=.slice a n cap,mr:=(R.take n).map (·.2) } (.slice a n cap) rfl rfl rfl rfl]
 .simp only[CS.mC,BD,GB,h];exact m.owns f s
 .simp[CS.mC]
 .simp only[CS.mC,GB];intro p a;refine(r.c.fs p<|by rw[t];simp only[CS.mC,GB];exact BP a).mod m (λq l e=>?_) (λ_ e=>e);rw[show q=b from l,r.c.tb]at e;simp at e
 exact c
structure Mz(c:CS)(rs:zE):Prop where
 sz:∀p∈c.kx,p.fs.length<=1099511627776
 ag:∀(k:Nat) p,c.kx[k]?=some p->Dw rs p=true->∀(j:Nat) f,p.fs[j]?=some f->Mp ((p.fs.take j).foldl CS.lY<|c.mT rs<|c.kx.take k) f
def Mp.mC(h:Mp c f)(l:List DW):Mp (c.mC l) f :=
 ⟨h.st,λa hd=>by
  obtain⟨k,o⟩:=h.a a hd;exact⟨k,⟨o.lt,o.st,o.lJ,o.lC,o.end_,o.dl⟩⟩⟩
def Iw(c:CS)(rs:zE)(k:Nat):CS:=c.mT rs (c.kx.take k)
def Si{lb:Nat}{p:rE}{d:Nat}{R:List (DW×rt)}(h:E8 tag i b W0 (Iw c rs) a N cap k R w)(ok:Mz c rs)(s:W0 cb=some (.pointer b))(f:¬Dr i tag cb)(t:W0 lb=some (.slice p rs.length d))(l:¬Dr i tag lb)
  (E:RR W0 (.slice p rs.length d) rs) (u:Dj (Dr i tag) (.slice p rs.length d)) (K:∀g o n A,Value.slice p rs.length d=.slice (some ⟨g,o,none⟩) n A->g<W0.heap.size) (O:rs.length<=1099511627776) (m:DO DQ w w1) (x:DW×rt) (Y:R[k]?=some x) (B:c.kx[k]?=some x.1) :
  rT 205 #[.agg #[.int .u64 x.1.n,.int .u64 x.1.at_,x.2],(lb,0),(cb,0)] w1 (λe w'=>e=.returned (.bool<|Dw rs x.1)/\E8 tag i b W0 (Iw c rs) a N cap (k+1) R w'/\∀q,w.heap.size<=q->q<w1.heap.size->w'.heap[q]?=w1.heap[q]?):=by
 obtain⟨Z,ky,N,r,h1,X⟩:=h;have v:=r.lK m;have N:=zm s;have T:=zm t;have h:=v.m.cell (a:=cb) f s;have s:=v.m.cell (a:=lb) l t;have a:¬Dr i ky cb:=by unfold Dr at f ⊢;rw[r.e.mL cb N];exact f
 have f:¬Dr i ky lb:=by unfold Dr at l ⊢;rw[r.e.mL lb T];exact l
 have l:Dj (Dr i ky) (.slice p rs.length d):=by
  intro g o n A e x;unfold Dr at x;rw[r.e.mL g (K g o n A e)]at x;exact u g o n A e x
 have o:=AW B;have t:=ok.sz _ o;have o:=ff v.refl cb lb rs p d h a s f (E.mod v.m u) l O x.1 x.2 (by rw[X];simp only[CS.mC,GB];exact AW Y) (λe j f a=>by
  rw[Qt];exact(ok.ag k x.1 B e j f a).mC _) t
 refine o.mono ?_;rintro e w' ⟨rfl,tag2,V2,z⟩;have a:((Iw c rs k).mC<|R.map (·.1)).nE rs x.1=(Iw c rs<|k+1).mC (R.map (·.1)):=by
  unfold Iw;rw[dh c rs c.kx k x.1 B,Yo]
 rw[a]at z;refine⟨rfl,⟨Z,tag2,V2,v.trans z,z.ft.1.trans h1,z.ft.2.trans X⟩,λq c a=>?_⟩;refine z.m.block q a<|λa=>?_;have:=a.1;rw[r.e.z q c]at this;have B:=r.p;simp at this;omega
def de{lb:Nat}{l:rE}{d:Nat}(h:zi tag i b c V W)(X:Dm tag W)(hi:0<i)(ok:Mz c rs)(hb:c.kx.length<=1099511627776)(f:W cb=some (.pointer b))(q:¬Dr i tag cb)(s:W lb=some (.slice l rs.length d))(t:¬Dr i tag lb)
  (u:RR W (.slice l rs.length d) rs) (v:Dj (Dr i tag) (.slice l rs.length d)) (z:∀g o n T,Value.slice l rs.length d=.slice (some ⟨g,o,none⟩) n T->g<W.heap.size) (A:rs.length<=1099511627776) (m:DO DQ W W1) (K:V.ft=.slice a N cap) (l:c.kx.length=N) :
  rT 78 #[.slice a N cap,.func (.func 205) #[] #[.pointer lb,.pointer cb]] W1 (OX (E8 tag i b W (Iw c rs) a N cap) (Dw rs) (c.kx.zip V.mr) a cap):=by
 have p:(c.kx.zip V.mr).length=N:=by rw[Cv,h.fl,CY,l]
 have B:(c.kx.zip V.mr).map (·.1)=c.kx:=DC<|Az h.fl.symm;have E:(c.kx.zip V.mr).map (·.2)=V.mr:=List.map_snd_zip<|Az h.fl;have d:=h.ft;rw[K,l]at d;obtain⟨T,l,e,O,Y,Z⟩:=zk d;cases e;have T:∀(k:Nat) (x:DW×rt),(c.kx.zip V.mr)[k]?=some x->c.kx[k]?=some x.1:=λk x d=>by
  have:=A8 (λl=>l[k]?) B;simp only[Bc,d]at this;exact this.symm
 have l:zA tag i b W V c tag V W:=⟨h,Di.same X<|DO.refl DQ W,DO.refl _ _,hi,⟨rfl,rfl⟩⟩;have X:E8 tag i b W (Iw c rs) a N cap 0 (c.kx.zip V.mr) W:=⟨p,tag,V,by rw[B];exact l,K,E.symm⟩;obtain⟨g,h⟩:∃g,0<N->a=some ⟨g,0,none⟩:=by
  by_cases l:0<N
  .obtain⟨g,h⟩:=Z l;exact⟨g,λ_=>h⟩
  exact⟨0,λx=>absurd x l⟩
 refine jg (E8 tag i b W (Iw c rs) a N cap) (Dw rs) (c.kx.zip V.mr) N g cap lb cb a p I O Y h (E8.del h) (E8.pw h O) (λk w x a d=>?_) (λk R w o x a d c=>?_) W1<|X.lK m
 .exact(Si a ok f q s t u v z A (DO.refl DQ w) x d<|T k x d).mono (λe w' p=>⟨p.1,p.2.1⟩)
 exact(Si a ok f q s t u v z A ((DO.refl DQ w).alloc o) x d<|T k x c).mono (λe w' p=>⟨p.1,p.2.1,p.2.2 _ ro lm⟩)
def UI(f:DV)(h:rt)(b o now:Nat)(W:rq)(l:W o=some (.pointer b))(d:W (b,3)=some (.int .u64 now)):rT 48 #[.agg (zj f h),(o,0)] W (λe w'=>e=.returned (.bool (decide (f.dl<now)))/\w'=(W.alloc (.cells (zj f h) 65)).drew):=by
 obtain⟨W1,c⟩:=nm<|W.alloc<|.cells (zj f h) 65;have p:=AB c;have e:zl W1 W.heap.size f h:=by rw[<-c];exact heap_alloc_new W _
 obtain⟨u,h⟩:=nm W.heap.size;rw[h]at e;obtain⟨v,z,A,B,E,K,N,t,O,T⟩:=e.cells;have c1:=p.cell (a:=o) id l;have c3:=p.cell (a:=U b 3) id d;obtain⟨q,a⟩:=nm f.dl;rw[a]at t ⊢;have hd:decide ((q:Int)<(now:Int))=decide (q<now):=lm;have f:=zb c;have s:=zb h;have X:=zb hd;rw[c];clear l d p e v z A B E K N O T a c h hd;go_enter func48,ntmps48;go_upto_region 1 with fail;rw[f.z,s.z];refine zH ?_;refine zn 8 (λw'=>w' (U u 7)=some (.int .u64 q)/\w' o=some (.pointer b)/\w' (U b 3)=some (.int .u64 now)) (⟨t,c1,c3⟩) ?_;refine GI 0 ?_;iterate 8
  refine GV rfl ?_;try simp only[PS]
 refine zq ?_;refine⟨rfl,?_⟩;go_wp2_with fail;go_ret;exact⟨by rw[<-X.z];rfl,rfl⟩
structure Lt(J:List DV->rq->Prop)(N g o b cb now:Nat):Prop where
 box:∀R w w',J R w->DO DQ w w'->J R w'
 len:∀R w,J R w->R.length=N
 cb:∀R w,J R w->w.cell? cb=some (.pointer b)
 now:∀R w,J R w->w.cell? (b,3)=some (.int .u64 now)
 rd:∀R w,J R w->∀(j:Nat) (f:DV),R[j]?=some f->∀q x,(zj f ru)[q]?=some x->w.cell? ⟨g,o+j*10+q,none⟩=some x
def Lq(J:List DV->rq->Prop)(now:Nat)(L:List DV)(e:Ending)(w':rq):Prop :=
 (∃k:Nat,e=.returned (.int .i64 k)/\k<L.length/\(∀x∈L.take k,decide (x.dl<now)=false)/\(∀x,L[k]?=some x->decide (x.dl<now)=true)/\J L w') \/
 (e=.returned (.int .i64 (-1))/\(∀x∈L,decide (x.dl<now)=false)/\J L w')
theorem fZ(J:List DV->rq->Prop)(L:List DV)(N g o cap b s now:Nat)(a:rE)(t:L.length=N)(E:N<=1099511627776)(u:0<N->a=some ⟨g,o,none⟩)(v:Lt J N g o b s now)
  (w:rq) (o:J L w) :
  rT 77 #[.slice a N cap,.func (.func 48) #[] #[.pointer s]] w (Lq J now L):=by
 have p:=zb v;have E:=zb o;have K:=zb u;have q:=zb t;clear v o u t;go_enter func77,ntmps77;go_wp2_with fail
 go_loopw [8] (λa wr=>∃k:Nat,k<=N/\a=.int .i64 k/\AA (J L wr/\∀x∈L.take k,decide (x.dl<now)=false)) (λa _=>N-(intOf a).toNat)
 case atStart=>exact⟨0,AN _,rfl,zb ⟨E.z,λx c=>by simp at c⟩⟩
 case round =>
  obtain⟨k,a,rfl,d⟩:=hrel;by_cases f:k<N
  .obtain⟨x,c⟩:∃x,L[k]?=some x:=⟨L[k]'(by rw[q.z];exact f),AJ<|by rw[q.z];exact f⟩;obtain⟨a,o,t,u,v,E,O,T,X,Y⟩:=Ji<|p.z.rd L wr d.z.1 k x c;have e:=K.z I;subst e;have e:=UI x ru b s now wr (p.z.cb L wr d.z.1)<|p.z.now L wr d.z.1;unfold zj at e;have z:=zb c;obtain⟨Z,a⟩:=nm<|decide<|x.dl<now;rw[a]at e;have h:=zb a;have A:=zb e;clear e c a;go_wp2_with fail;refine(A.z).mono ?_;rintro e w6 ⟨rfl,l⟩;have B:AA (J L w6):=zb (by rw[l];exact p.z.box _ _ _ d.z.1<|((DO.refl DQ wr).alloc _).drew);clear l A;cases Z with
   | true =>
    go_wp2_with fail;go_ret;exact .inl ⟨k,rfl,by rw[q.z];exact f,d.z.2,λx c=>by rw[z.z]at c;cases c;exact h.z,B.z⟩
   | false =>
    go_wp2_with fail;go_roundw
    case rel =>
     refine⟨k+1,I,by go_num,zb ⟨B.z,λx c=>?_⟩⟩;rw[BG,z.z]at c;rcases Ak.1 c with c|c
     .exact d.z.2 x c
     simp at c;subst c;exact h.z
    simp[intOf];omega
  have a:k=N:=I;go_wp2_with fail;go_ret;exact .inr ⟨rfl,λx c=>d.z.2 x<|by rwa [Ab (by rw[q.z];omega)],d.z.1⟩
end
end Go.Proofs.YtddfdpbaiedcjaaGreatDoor
