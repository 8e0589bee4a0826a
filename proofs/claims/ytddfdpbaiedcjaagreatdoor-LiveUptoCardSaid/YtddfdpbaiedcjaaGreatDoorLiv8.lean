/- A part of Live's proof. Conditions: none. Part 8 of 15. -/
import Derived.Test.YtddfdpbaiedcjaaGreatDoorLiv7
import Derived.Shelf.RegionOpen
set_option maxRecDepth 100000
set_option maxHeartbeats 16000000
set_option linter.all false
namespace Go.Proofs.YtddfdpbaiedcjaaGreatDoor
section
open Go.RowKit Go.Proofs.Tryz Go.Shelf
attribute [local go_sem] Oper.semAt_some
def OS(Q:Exit->Act->World->Prop):Exit->Act->World->Prop:=λe a w=>e=.normal/\Q .normal a w
variable{P:Program}{Q:Exit->Act->World->Prop}{w:World}
def zG{c:Code}{a:Act}(h:c.wp P (OS Q) a w):c.wp P Q a w :=
 wp_mono h (λe a w k=>by rw[k.1];exact k.2)
def NC(s:Dl)(b o:Nat)(v:Value)(w w':World)(v':Value):Prop :=
 w'.ownsRow 0 214 2 v' s.rs.length (zq s.rs)/\w'.heap[b]?=((w.setCell (b,o) v').setCell (b,o+1) (.int .u64 s.fl)).heap[b]?/\DW (λk=>k=b\/v.ownBlock=some k) w w'/\EA w v v'
structure MC(s:Dl)(b o e0:Nat)(cs0:Array Value)(v:Value)(w:World)(db rb:Nat)(rec:Loop)(pre:zC)(v':Value)(X:World):Prop where
 own:X.ownsRow 0 214 2 v' (s.adds pre).rs.length (zq (s.adds pre).rs)
 ob:X.heap[b]?=some (.cells ((cs0.setIfInBounds o v').setIfInBounds (o+1) (.int .u64 ((s.adds pre).fl:Int))) e0 (0,0))
 m:DW (λk=>k=b\/v.ownBlock=some k) w X
 nw:EA w v v'
 ok:(s.adds pre).Ok
 mo:(s.adds pre).most=s.most
 df:X.heap[db]?=some (.deferred (some []))
 rc:X.heap[rb]?=some (.loop rec)
variable{base e g sz:Nat}{v:Value}{xs:nJ}
def JJ{n:Nat}(h:w.ownsRow base e sz v n xs)(hg:v.ownBlock=some g):∃cur,w.heap[g]?=some (.cells cur e (0,0)):=by
 rcases h.2 with⟨rfl,_⟩|⟨g',c,cur,rfl,_,h1,_⟩
 .simp[Value.ownBlock]at hg
 simp[Value.ownBlock]at hg;subst hg;exact⟨cur,h1⟩
variable{B b db o rb:Nat}{s:Dl}
def MC.own_from{e0:Nat}{d:Array Value}{f:Loop}(hB:w.heap.size<=B)(hb:b<B)(hd:db<B)(hr:rb<B):OwnFrom B (λpre X=>∃v',MC s b o e0 d v w db rb f pre v' X):=by
 rintro pre A C row ⟨v',h⟩ hg a;have c:∀k,k<B->some k≠row:=λk hk e=>nC ((a k e.symm).1)
 have n:=(DW.refl _ _).grown hg (λk hk=>.inl hk);refine⟨v',n.owns h.own (λg j hx=>?_),(hg.block _ (AH.1 h.ob).1 (c _ hb)).trans h.ob,h.m.then n (λi hi=>.inr (nC ((a i hi).1))),h.nw,h.ok,h.mo,?_,?_⟩
 .obtain⟨cur,hc⟩:=JJ h.own j;obtain⟨_,ob,ho,l⟩:=a g hx;rw[ho]at hc;cases hc;cases l
 .exact(hg.block _ (AH.1 h.df).1 (c _ hd)).trans h.df
 exact(hg.block _ (AH.1 h.rc).1 (c _ hr)).trans h.rc
def gN(cs:Array Value)(o:Nat)(a x b y:Value):(((cs.setIfInBounds o a).setIfInBounds (o+1) x).setIfInBounds o b).setIfInBounds (o+1) y=(cs.setIfInBounds o b).setIfInBounds (o+1) y:=by
 apply Cj;intro i;simp only[BW,DB];by_cases h1:o+1=i
 .simp[h1]
 by_cases h2:o=i
 .simp[h1,h2]
 simp[h1,h2]
variable{X:World}{v':Value}
def MC.set{e0:Nat}{a:Array Value}{c:Loop}{pre:zC}(h:MC s b o e0 a v w db rb c pre v' X)(hz:o+2<a.size)(h2:a[o+2]?=some (.int .i64 s.most)):El X b o v' (s.adds pre).rs (s.adds pre).fl (s.adds pre).most:=by
 refine⟨za h.ob ?_,za h.ob ?_,za h.ob ?_,h.own,nD h.ok.rl h.ok.most.2,λj=>zg h.ob⟩
 .simp[BW];omega
 .simp[BW];omega
 simp[BW,h.mo];have:=h2;simpa using this
theorem WY:∀(l:zC) (lo hi:Nat) (t:Dl),(Ho l lo hi t).most=t.most
 | [],_,_,_=>rfl
 | r::l,lo,hi,t=>by
  unfold Ho;rw[WY l lo hi];split
  .split
   .rw[IN,IN]
   rw[IN]
  split
  .rw[IN]
  rfl
theorem RT:∀(l:zC) (t:Dl),(t.adds l).most=t.most
 | [],_=>rfl
 | r::l,t=>by
  have:t.adds (r::l)=(t.add r.1 r.2).adds l:=rfl;rw[this,RT l,IN]
def RP(t:Dl)(l:zC)(r:Nat×Nat):t.adds (l++[r])=(t.adds l).add r.1 r.2:=by
 simp[Dl.adds]
structure zz(tag:nH)(i b:Nat)(W0:World)(V0:CV)(c:CS)(tag':nH)(V':CV)(W':World):Prop where
 c:zi tag' i b c V' W'
 e:Dn i tag tag' W0 W'
 m:DW (Dx i tag) W0 W'
 p:0<i
 ft:V'.ft=V0.ft/\V'.fts=V0.fts
variable{V' V0:CV}{W' W'' W0:World}{c:CS}{i k:Nat}{tag tag':nH}
def zz.sent(h:zz tag i b W0 V0 c tag' V' W')(hk:k<8)(ha:NC s b (9+15*k+1) (V'.ws k) W' W'' v')(hm:s.most=(c.ws k).sent.most):∃tag2 V2,zz tag i b W0 V0 { c with ws:=zf c.ws k { c.ws k with sent:=s } } tag2 V2 W''/\∀g,g<W'.heap.size->tag2 g=tag' g:=by
 obtain⟨f,l,d,u⟩:=ha;have v:=h.p;have n:∀{g r:Nat},tag' g=(i,r)->g<W'.heap.size:=λhg=>Ei h.e.z hg v
 have o:∀g,(tag' g).1=i->zQ tag' W' W'' (i,20+k) g=tag' g:=λg hg=>zD (n (r:=(tag' g).2) (by rw[<-hg]))
 have w:∀g,(g=b\/(V'.ws k).ownBlock=some g)->∃r,(r=1\/r=20+k)/\tag' g=(i,r):=λg hg=>by
  rcases hg with hg|hg
  .exact⟨1,.inl rfl,by rw[hg,h.c.tb]⟩
  exact⟨20+k,.inr rfl,h.c.tws k hk g hg⟩
 refine⟨zQ tag' W' W'' (i,20+k),{ V' with ws:=zf V'.ws k v' },⟨?_,h.e.trans (Jt d.size) h.m.size,Ew h.e h.m (d.mono (λg hg=>.inl ?_)),v,h.ft⟩,λg hg=>zD hg⟩
 .refine h.c.build (R:=λr=>r=1\/r=20+k) d w o ?_ (.inl ⟨rfl,rfl,rfl,I,I⟩) (λq t=>.inl ⟨?_,rfl,I⟩) (λq t=>?_) (λq t=>.inl ⟨?_,rfl,I⟩) (λq t=>.inl ⟨rfl,rfl,I⟩) (λq t=>.inl ⟨rfl,rfl,I⟩) (.inl ⟨rfl,rfl,rfl,I,I⟩) (.inl ⟨rfl,rfl,I⟩) (.inl ⟨rfl,rfl,I⟩) (.inl ⟨rfl,rfl,I⟩)
  .rw[l,zc (zc h.c.obj)];simp only[Aq];have e1:=Ht c c V' { V' with ws:=zf V'.ws k v' } (k:=k) (j:=1) v' hk mu (λq _=>by
    by_cases a:q=k
    .subst a;simp only[ze,BC];rfl
    simp only[zd _ _ a,AI a]) rfl rfl rfl
   rw[e1];have e2:=Ht c { c with ws:=zf c.ws k { c.ws k with sent:=s } } { V' with ws:=zf V'.ws k v' } { V' with ws:=zf V'.ws k v' } (k:=k) (j:=2) (.int .u64 s.fl) hk mu (λq _=>by
    by_cases a:q=k
    .subst a;simp only[ze,BC,Fx,hm];rfl
    simp only[zd _ _ a,AI a]) rfl rfl rfl
   rw[show 9+15*k+1+1=9+15*k+2 from rfl,e2]
  .by_cases a:q=k
   .subst a;simp only[ze]
   simp only[zd _ _ a]
  .by_cases a:q=k
   .subst a;simp only[ze];refine .inr ⟨f,λg hg=>?_⟩;rcases u g hg with y|y
    .rw[zD (n (h.c.tws q hk g y)),h.c.tws q hk g y]
    exact Gs y (zK f g hg)
   exact .inl ⟨by simp only[zd _ _ a],by simp only[zd _ _ a],I⟩
  by_cases a:q=k
  .subst a;simp only[ze]
  simp only[zd _ _ a]
 obtain⟨r,hr,e⟩:=w g hg;exact EW e I
def zz.mod0(h:zz tag i b W0 V0 c tag' V' W')(m:DW DY W' W''):zz tag i b W0 V0 c tag' V' W'' :=
 ⟨h.c.mod0 m,⟨h.e.old,h.e.new,h.e.z.mod m⟩,h.m.trans (m.mono (λ_ x=>x.elim)),h.p,h.ft⟩
variable{c':CS}
def zz.store(h:zz tag i b W0 V0 c tag' V' W')(j:Nat)(v:Value)(hc:(zw c V').set j v=zw c' V')(s:Kv c c'):zz tag i b W0 V0 c' tag' V' (W'.setCell (b,j) v):=by
 have a:DW (λq=>q=b) W' (W'.setCell (b,j) v):=(DW.refl (λq=>q=b) _).setCell (p:=(b,j)) (.inl rfl) _;exact⟨h.c.store j v hc s,⟨h.e.old,h.e.new,h.e.z.mod a⟩,Ew h.e h.m (a.mono (λq hq=>.inl (EW (r:=1) (by rw[show q=b from hq];exact h.c.tb) mu))),h.p,h.ft⟩
variable{y:WS}
def zz.storeW(h:zz tag i b W0 V0 { c with ws:=zf c.ws k y } tag' V' W')(hk:k<8)(j:Nat)(hj:j<15)(v:Value)(x:WS)(hx:Fx x (V'.wb k) (V'.ws k) (V'.wc k)=(Fx y (V'.wb k) (V'.ws k) (V'.wc k)).set j v)(h1:x.b=y.b)(h2:x.sent.rs=y.sent.rs)(h3:x.came.rs=y.came.rs):zz tag i b W0 V0 { c with ws:=zf c.ws k x } tag' V' (W'.setCell (b,9+15*k+j) v):=by
 have a:DW (λq=>q=b) W' (W'.setCell (b,9+15*k+j) v):=(DW.refl (λq=>q=b) _).setCell (p:=⟨b,_,none⟩) (.inl rfl) _;exact⟨h.c.storeW2 hk j hj v x hx h1 h2 h3,⟨h.e.old,h.e.new,h.e.z.mod a⟩,Ew h.e h.m (a.mono (λq hq=>.inl (EW (r:=1) (by rw[show q=b from hq];exact h.c.tb) mu))),h.p,h.ft⟩
variable{j:Nat}
def mP{D:Nat}{o:Obj}(h:b≠D):(w.setCell (b,j) v).putObj D o=(w.putObj D o).setCell (b,j) v:=by
 simp only[World.setCell,World.putObj];congr 1;apply Cj;intro q;simp only[CJ,BW,Array.size_modify];by_cases h1:D=q
 .subst h1;simp[h]
 by_cases h2:b=q
 .subst h2;simp[h1]
 simp[h1,h2]
def JC(tag:nH)(i b:Nat)(W0:World)(V0:CV)(c:CS)(e:Ending)(W':World):Prop:=e=.returned (.tuple #[])/\∃tag' V',zz tag i b W0 V0 c tag' V' W'
structure MB(c:CS)(f:Da)(k:Nat):Prop where
 lt:k<8
 st:f.stream=(k:Int)
 sent:(c.ws k).sent.Ok
 came:(c.ws k).came.Ok
 end_:f.off+f.data.length<=zF
 dl:f.data.length<=1099511627776
variable{V:CV}{W:World}
def zi.cameAt(h:zi tag i b c V W)(hk:k<8)(hl:(c.ws k).came.rs.length<=1099511627776):El W b (9+15*k+4) (V.wc k) (c.ws k).came.rs (c.ws k).came.fl (c.ws k).came.most :=
 ⟨h.w (j:=4) hk rfl,h.w (j:=5) hk rfl,h.w (j:=6) hk rfl,h.wc k hk,hl,λj=>h.fz j⟩
variable{tag0:nH}
theorem jL(h:zz tag i b W0 V0 c tag0 V W)(f:Da)(rv:Value)(k:Nat)(ok:MB c f k)(b7:f.kind=4)(b8:∃a n cap,rv=.slice a n cap):Calls prog 80 #[(b,0),.agg (zl f rv)] W (JC tag i b W0 V0 { c with ws:=zf c.ws k ((c.ws k).again f) }):=by
 have hk:=ok.lt;have bk:=ok.st;obtain⟨ra,rn,aN,rfl⟩:=b8;obtain⟨x,hx⟩:=nm (c.ws k);rw[hx];have HX:=zb hx;obtain⟨fr,b9⟩:=nm (Value.slice ra rn aN);have ca:=ok;have R:=zb ok;have HH:=zb h;obtain⟨off,ad⟩:=nm f.off;obtain⟨DL,aB⟩:=nm f.data.length;have b1:=ok.end_;have b2:=ok.dl;rw[ad,aB]at b1;rw[aB]at b2;unfold zF at b1;have cc:=zb ad;have bm:=zb aB;have d0:(0:Int)<=k:=I;have d8:(k:Int)<8:=I;obtain⟨W1,al⟩:=nm (W.alloc (.cells (zl f (.slice ra rn aN)) 65));have m1:=AB al;have aC:zj W1 W.heap.size f (.slice ra rn aN):=by rw[<-al];exact heap_alloc_new W _
 have S:=AC al;obtain⟨fb,bn⟩:=nm W.heap.size;rw[bn]at aC S;have HF1:=zb aC;have cd:=zb al;have am:=zb bn;have M1:=zb m1;have bo:=zb S;obtain⟨y0,y1,y2,y3,y4,y5,y6,y7,y8,y9⟩:=aC.cells;rw[b7]at y0;rw[bk]at y1;rw[ad]at y2;clear h ok hx b9 ad aB m1 aC S al ca bk;refine(callsIn_wide (n:=8)).1 ?_;refine callsIn_of_wp_marks func80 rfl trivial ?_ rfl;simp only[ntmps80,Am,AR,Ad,Nat.reduceAdd,Nat.reduceSub,BA,A9,BK,BE,An,BS];refine wpIn_wide.2 ?_;go_upto_region 1 with fail;rw[cd.z];have S:=bo.z;obtain⟨F,aD⟩:=nm ((W1.alloc (.cells #[(b,9+k*15)] 225)).drew);have HW3:=zb aD;go_upto_region 3 with fail
 go_cut [4]from 12 to 112 (λpv wx=>pv=.pointer (U (fb+1) 0)/\wx=F)
 case first =>
  refine zG ?_;refine zo 7 (λw'=>w'.cell? (U fb 1)=some (.int .i64 k)) (y1) ?_;refine GI 0 ?_;iterate 6
   refine GV rfl ?_;try simp only[PS]
  refine zE 6 rfl (λK hK=>?_);go_simp;have ce:=λo=>((DW.refl DY W1.drew).alloc o).cell (a:=U fb 1) id y1
  refine hK.z _ _ (ce _) ?_;clear hK K;try simp only[PS]
  refine EX rfl (λK hK=>?_);have hnb:∀u,((W1.drew.alloc (.cells #[.pointer none] 225)).cell? (fb+1,0)=some (.pointer none))/\(W1.drew.alloc (.cells #[.pointer none] 225)).frozen? ⟨fb+1,0,none⟩=u->True:=λ_ _=>trivial
  have bp:(W1.drew.alloc (.cells #[.pointer none] 225)).heap[fb+1]?=some (.cells #[.pointer none] 225 (0,0)):=by
   rw[<-S];exact heap_alloc_new W1.drew _
  have z1:=za (o:=0) bp rfl;have z2:∀p,(W1.drew.alloc (.cells #[.pointer none] 225)).frozen? ⟨fb+1,p,none⟩=false:=λp=>zg bp
  go_simp;refine hK.z _ _ ?_;clear hK K;try simp only[PS]
  refine zr ?_;refine⟨rfl,?_⟩;go_wp2_with fail;go_meet;exact⟨rfl,rfl⟩
 case rest =>
 obtain⟨rfl,hw⟩:=hcut;have hw:=hw.symm;subst hw;have ah:DW DY W1 F:=by rw[<-aD];exact((DW.refl _ _).alloc _).drew
 have bq:F.heap.size=fb+2:=by rw[<-aD];simp[World.drew,bo.z]
 have bt:F.cell? (fb+1,0)=some (.pointer (b,9+k*15)):=by
  rw[<-aD];have:=heap_alloc_new W1 (.cells #[(b,9+k*15)] 225);rw[S]at this;exact za (o:=0) this rfl
 have z2:=ah.cell (a:=U fb 2) id y2;have z5:=ah.cell (a:=U fb 5) id y5;have z8:=ah.cell (a:=U fb 8) id y8;have N:=zb (HH.z.mod0 (M1.z.trans ah));have M3:=zb (M1.z.trans ah);have ci:(zu f.data).size=DL:=by rw[zJ];exact bm.z
 have aE:=kY x.sent b (9+15*k+1) off (off+DL) (V.ws k) F.drew (by
  rw[<-HX.z];exact(N.z.mod0 (DW.refl DY F).drew).c.sentAt hk (nD R.z.sent.rl R.z.sent.most.2)) (by rw[<-HX.z];exact R.z.sent) (by unfold zF;omega) (by unfold zF;omega)
 rw[AL 15 k]at aE;have bu:((off+DL:Nat):Int)=(off:Int)+DL:=I;rw[bu]at aE;have cj:=zb aE;have w1:F.cell? (b,9+k*15+1)=some (V.ws k):=by rw[AL k 15];exact N.z.c.w (j:=1) hk rfl
 have w2:F.cell? (b,9+k*15+2)=some (.int .u64 ((c.ws k).sent.fl:Int)):=by rw[AL k 15];exact N.z.c.w (j:=2) hk rfl
 have w3:F.cell? (b,9+k*15+3)=some (.int .i64 ((c.ws k).sent.most:Int)):=by rw[AL k 15];exact N.z.c.w (j:=3) hk rfl
 have ck:IntKind.u64.wrap (DL:Int)=(DL:Int):=by rw[IntKind.wrap_u64];omega
 have co:=wu ((off:Int)+DL) I;have aO:=zb bt;have aP:=zb bq;have bv:=zb (And.intro w1 (And.intro w2 w3));clear ah y1 y2 y3 y4 y5 y6 y7 y8 y9 aE bq S bu w1 w2 w3;go_upto_region 4 with fail
 go_cut []from 12 to 112 (λwx=>∃(M:nH) (G:CV),AA (zz tag i b W0 V0 { c with ws:=zf c.ws k { c.ws k with sent:=x.sent.without off (off+DL) } } M G wx)/\AA ((∀g,g<F.heap.size->M g=tag0 g)/\DW (λg=>g=b) F wx/\(x.sent.without off (off+DL)).Ok/\(x.sent.without off (off+DL)).most=(c.ws k).sent.most))
 case first =>
  refine zG ?_;refine zo 16 (λw'=>w'.cell? (U (fb+1) 0)=some (.pointer (b,9+k*15))/\w'.cell? (U fb 2)=some (.int .u64 off)/\w'.cell? (U fb 8)=some (.string (zu f.data))) (⟨bt,z2,z8⟩) ?_;refine GI 0 ?_;iterate 13
   refine GV rfl ?_;try simp only[PS]
  refine zE 13 rfl (λK hK=>?_);go_simp;refine cj.z.mono ?_;rintro e W4 ⟨v4,rfl,aQ,aR,m4⟩;obtain⟨aS,aT,cp,_⟩:=zk aQ;have M4:=zb m4;have mm:=(DW.refl DY F).drew.trans m4;refine hK.z _ _ ⟨mm.cell (a:=U (fb+1) 0) id aO.z,mm.cell (a:=U fb 2) id z2,mm.cell (a:=U fb 8) id z8⟩ ?_;clear hK K;try simp only[PS]
  refine GI 14 ?_;iterate 2
   refine GV rfl ?_;try simp only[PS]
  refine EX rfl (λK hK=>?_);have mm:=(DW.refl DY F).drew.trans M4.z;obtain⟨w1,w2,w3⟩:=bv.z;have q1:=mm.cell (a:=⟨b,_,none⟩) id w1;have q2:=mm.cell (a:=⟨b,_,none⟩) id w2;have q3:=mm.cell (a:=⟨b,_,none⟩) id w3;have qf:∀p,W4.frozen? ⟨b,p,none⟩=false:=λp=>zg (mm.obj (λx=>x) N.z.c.obj)
  have qf2:∀p v p',(W4.setCell ⟨b,p,none⟩ v).frozen? ⟨b,p',none⟩=false:=λp v p'=>zg (zc (mm.obj (λx=>x) N.z.c.obj))
  have qf3:∀p v p2 v2 p',((W4.setCell ⟨b,p,none⟩ v).setCell ⟨b,p2,none⟩ v2).frozen? ⟨b,p',none⟩=false:=λp v p2 v2 p'=>zg (zc (zc (mm.obj (λx=>x) N.z.c.obj)))
  subst cp;clear w1 w2 w3 mm;go_simp;refine hK.z _ _ ?_;clear hK K;try simp only[PS]
  refine zr ?_;have hb3:=zm bv.z.1;have ae:(x.sent.without off (off+DL)).most=(c.ws k).sent.most:=by rw[HX.z];exact WY _ _ _ _
  obtain⟨s1,E⟩:=nm (x.sent.without off (off+DL));rw[E]at aQ aR ae ⊢;have an:=zb E;have aU:s1.Ok:=by
   rw[<-E];exact Ru _ _ _ _ (λr hr=>by
    obtain⟨j,l⟩:=Cw hr;have aV:=(AN.1 l).1;have e:=Gn aV;rw[l]at e;cases e;rw[<-HX.z]at aV ⊢;exact R.z.sent.hi j aV) (It _ (by rw[<-HX.z];exact R.z.sent.most))
  obtain⟨H,ao⟩:=nm ((((W4.setCell (b,9+k*15+1) (.slice aS s1.rs.length aT)).setCell (b,9+k*15+1+1) (.int .u64 s1.fl)).setCell (b,9+k*15+1+2) (.int .i64 s1.most)));have aW:DW (λg=>g=b) W4 H:=by
   rw[<-ao];exact(((DW.refl (λg=>g=b) W4).setCell (p:=⟨b,_,none⟩) (.inl rfl) _).setCell (p:=⟨b,_,none⟩) (.inl rfl) _).setCell (p:=⟨b,_,none⟩) (.inl rfl) _
  have aX:=M4.z;have O:NC s1 b (9+15*k+1) (V.ws k) F.drew H (.slice aS s1.rs.length aT):=by
   refine⟨aW.owns aQ (λg hg x=>?_),?_,(aX.mono (λ_ x=>x.elim)).trans (aW.mono (λg hg=>.inl (.inl hg))),λg hg=>.inr (aR g hg)⟩
   .have:=aR g hg;have x:=x;have e:F.drew.heap.size=F.heap.size:=rfl;omega
   have o3:F.drew.heap[b]?=some (.cells (zw c V).toArray 127 (0,0)):=N.z.c.obj;have o4:=aX.obj (λx=>x) o3;have ep:9+k*15+1=9+15*k+1:=I;rw[<-ao,ep];have cq:((W4.setCell (b,9+15*k+1) (.slice aS s1.rs.length aT)).setCell (b,9+15*k+1+1) (.int .u64 s1.fl)).cell? (b,9+15*k+1+2)=some (.int .i64 s1.most):=by
    refine za (zc (zc o4)) ?_;have h3:(zw c V)[9+15*k+3]?=some (.int .i64 ((c.ws k).sent.most:Int)):=MR c V hk rfl;rw[Cn I,Cn I,BY,h3,ae]
   rw[Nk cq,zc (zc o4),zc (zc o3)]
  obtain⟨M,G,R5,cv⟩:=(N.z.mod0 (DW.refl DY F).drew).sent hk O ae;have e:AA ((∀g,g<F.heap.size->M g=tag0 g)/\DW (λg=>g=b) F H/\s1.Ok/\s1.most=(c.ws k).sent.most):=zb ⟨cv,(((DW.refl DY F).drew.trans aX).mono (λ_ x=>x.elim)).trans aW,aU,ae⟩;have Z:=zb R5;clear R5;rw[ao];refine⟨rfl,?_⟩;go_wp2_with fail;go_meet;rw[an.z];exact⟨M,G,Z,e⟩
 case rest =>
 obtain⟨M,G,Z,aa⟩:=hcut;obtain⟨H,ao⟩:=nn wc;subst ao;obtain⟨s1,E⟩:=nm (x.sent.without off (off+DL));rw[E]at Z aa;have an:=zb E;have hbf:=zm (HH.z.c.hd (j:=0) rfl);have cw:H.cell? (fb+1,0)=some (.pointer (b,9+k*15))/\H.cell? (fb,5)=some (.bool f.fin):=by
  have e:=am.z;exact⟨aa.z.2.1.cell (a:=U (fb+1) 0) (λx=>by have x:fb+1=b:=x;omega) aO.z,aa.z.2.1.cell (a:=U fb 5) (λx=>by have x:fb=b:=x;omega) z5⟩
 have cO:fb+2<=H.heap.size:=by
  have:=aP.z;have h1:=aa.z.2.1.size;omega
 clear E z2 z5 z8 y0 ck co ci aO;have hbw:=zm (Z.z.c.hd (j:=0) rfl);obtain⟨bw,cx⟩:=cw;go_upto_region 5 with fail;go_wp2_with (go_at_call 141;refine((callsIn_wide (n:=8)).1 (YR Fence.wide 8 trivial rfl b (9+k*15+4) H)).mono ?_;rintro e w6 ⟨rfl,rfl⟩);obtain⟨sB,aY⟩:=nm H.heap.size;have hbs:b<sB:=I;obtain⟨W6,ai⟩:=nm (H.alloc (.cells #[(b,9+k*15+4)] 114));have bz:=ai;have m6:=AB ai;have ap:W6.heap.size=sB+1:=by rw[<-ai];simp[aY]
 have cy:W6.cell? sB=some (.pointer (b,9+k*15+4)):=by
  rw[<-ai,<-aY];exact za (heap_alloc_new H _) rfl
 try rw[ai]
 try rw[aY]
 refine(wpIn_wide (n:=8)).1 ?_;refine WP rfl mu (gf:=193) (lb:=#[.pointer sB]) rfl trivial (enters_of func193 mr rfl) ?_;intro fn hf;generalize hrec:Loop.mk .ready none fn _ _ _ _ _=rec;rw[ap]at hrec ⊢;obtain⟨D,hD⟩:=nm (sB+1);rw[hD]at hrec ap ⊢;obtain⟨W7,aj⟩:=nm ((W6.alloc (.deferred (some []))).alloc (.loop rec));have bA:DW DY W6 W7:=by rw[<-aj];exact((DW.refl _ _).alloc _).alloc _
 have hs7:W7.heap.size=D+2:=by rw[<-aj];simp[ap]
 have cz:W7.heap[D]?=some (.deferred (some [])):=by
  rw[<-aj,<-ap];exact(Below.heap_alloc _ _ _ mv).trans (World.alloc_heap_new W6 _)
 have cA:W7.heap[D+1]?=some (.loop rec):=by
  rw[<-aj];have:=World.alloc_heap_new (W6.alloc (.deferred (some []))) (.loop rec);rw[World.size_alloc,ap]at this;exact this
 rw[aj];have ab:=m6.trans bA;have C5:=Z.z.c;obtain⟨c5,aZ⟩:∃c5:CS,{ c with ws:=zf c.ws k { c.ws k with sent:=s1 } }=c5:=⟨_,rfl⟩;rw[aZ]at Z C5;have aq:c5.ws k={ x with sent:=s1 }:=by rw[<-aZ,<-HX.z];simp[ze]
 obtain⟨rs,ak⟩:=nm x.came.rs;have s:=C5.wc k hk;rw[aq]at s;have s:H.ownsRow 0 214 2 (G.wc k) rs.length (zq rs):=by rw[<-ak];exact s
 obtain⟨a5,ar,aF,_⟩:=zk s;rw[aF]at s;have au:∀j,(λr:Nat×Nat=>r.1<=zF/\r.2<=zF) (DZ rs j,DX rs j):=λj=>by
  by_cases l:j<rs.length
  .have h1:=R.z.came.hi j (by rw[HX.z,ak];exact l);have h2:=R.z.came.wf.1 j (by rw[HX.z,ak];exact l);rw[HX.z,ak]at h1 h2;exact⟨by show DZ rs j<=zF;omega,h1⟩
  have:DZ rs j=0/\DX rs j=0:=by
   unfold DZ DX;rw[Ak,CX I];exact⟨rfl,rfl⟩
  rw[this.1,this.2];exact⟨AM _,AM _⟩
 have bB:∀j,j<rs.length->DZ rs j<18446744073709551616/\DX rs j<18446744073709551616:=λj _=>by
  have:=au j;unfold zF at this;omega
 have J:∃J,J=(zw c5 G).toArray:=⟨_,rfl⟩;obtain⟨J,Q⟩:=J;have bC:H.heap[b]?=some (.cells J 127 (0,0)):=by rw[Q];exact C5.obj
 have g0:J[9+k*15+1]?=some (G.ws k):=by rw[Q,BY,AL k 15];exact MR c5 G (j:=1) hk rfl
 have g1:J[9+k*15+1+1]?=some (.int .u64 s1.fl):=by rw[Q,BY,AL k 15];have:=MR c5 G (k:=k) (j:=2) (v:=.int .u64 ((c5.ws k).sent.fl:Int)) hk rfl;rw[aq]at this;exact this
 have g2:J[9+k*15+1+2]?=some (.int .i64 s1.most):=by rw[Q,BY,AL k 15];have:=MR c5 G (k:=k) (j:=3) (v:=.int .i64 ((c5.ws k).sent.most:Int)) hk rfl;rw[aq]at this;exact this
 have hz:=(AH.1 g2).1;have owns:H.ownsRow 0 214 2 (G.ws k) s1.rs.length (zq s1.rs):=by
  have:=C5.ws k hk;rw[aq]at this;exact this
 have j0:MC s1 b (9+k*15+1) 127 J (G.ws k) H D (D+1) rec [] (G.ws k) W7:=by
  refine⟨ab.owns owns (λ_ _ x=>x),?_,ab.mono (λ_ x=>x.elim),λg hg=>.inl hg,aa.z.2.2.1,rfl,cz,cA⟩;rw[ab.obj (λx=>x) bC];congr 2;apply Cj;intro j;simp only[BW,DB];by_cases q1:9+k*15+1+1=j
  .subst q1;rw[AQ rfl,AQ I,g1];rfl
  rw[AI q1];by_cases q2:9+k*15+1=j
  .subst q2;rw[AQ rfl,AQ I,g0]
  rw[AI q2]
 have a0:=A8 Loop.assign hrec.symm;dsimp only at a0;have a1:=A8 Loop.body hrec.symm;dsimp only at a1;have a2:=A8 Loop.tmps hrec.symm;dsimp only at a2;have bD:rec.params=#[38]:=by rw[<-hrec]
 have aK:rec.state=.ready:=by rw[<-hrec]
 have bE:rec.pending=none:=by rw[<-hrec]
 have bF:=zb bE;have cB:=zb a0;have cC:=zb a1;have cD:=zb a2;have bG:=zb bD;have a3:=zb aK;have cE:=bA.cell (a:=sB) id cy;have cF:W7.cell? (b,9+k*15+4)=some (.slice a5 rs.length ar):=by
  have h1:H.cell? (b,9+k*15+4)=some (G.wc k):=by rw[AL k 15];exact C5.w (j:=4) hk rfl
  rw[aF]at h1;have:=ab.cell (a:=⟨b,_,none⟩) id h1;have e:x.came.rs.length=rs.length:=by rw[ak]
  simpa [e]using this
 have cG:RR W7 (.slice a5 rs.length ar) rs:=by
  have:=Fh.rr (rs:=rs) ⟨s,bB⟩;exact this.mod ab (Dp.no _)
 have twc:∀g o,a5=some ⟨g,o,none⟩->g<W7.heap.size/\g≠b/\g≠D+1:=λg o e=>by
  have a4:(G.wc k).ownBlock=some g:=by rw[aF,e];rfl
  have h1:=C5.twc k hk g a4;have h2:=zK s g (by rw[e];rfl);refine⟨nC ab.size,λx=>?_,I⟩;rw[x,C5.tb]at h1;simp at h1;omega
 have bH:∀g o,a5=some ⟨g,o,none⟩->g<H.heap.size:=λg o e=>zK s g (by rw[e];rfl)
 have bI:∀g o,a5=some ⟨g,o,none⟩->(G.ws k).ownBlock≠some g:=λg o e x=>by
  have a4:(G.wc k).ownBlock=some g:=by rw[aF,e];rfl
  have h1:=C5.twc k hk g a4;have h2:=C5.tws k hk g x;rw[h1]at h2;simp at h2
 clear hrec a0 a1 a2 bD aK bE ai bz aj Q;refine(gO Fence.wide 7 (λ_=>trivial) rfl mu (D+1) sB b (9+k*15+4) b ar a5 (λr=>r.1<=zF/\r.2<=zF) rs au
  (λpre X=>∃v',MC s1 b (9+k*15+1) 127 J (G.ws k) H D (D+1) rec (pre.map (·.1)) v' X) (λ_ _=>False) W7 ?hY ?hJ ?hJx cE cF cG I I twc ⟨_,j0⟩).mono ?post
 case hJ =>
  intro pre A Y row hh hg hr;exact MC.own_from (B:=W7.heap.size) (nC ab.size) I I I (pre.map (·.1)) A Y row hh hg hr
 case hJx=>intro _ _ _ _ x;exact x.elim
 case hY =>
  rintro pre y X ⟨v,l⟩ hlt;have d:=zb l;have cH:=(AH.1 l.rc).1;refine⟨_,_,_,_,run_yield l.rc (by rw[bG.z];rfl),roundIn_of_wpIn trivial ?_⟩;rw[cB.z,cC.z,cD.z,bG.z];unfold ME;clear l;gi_wp2;have a6:(X.alloc (.cells #[y.1.1,y.1.2] 214)).heap[D+1]?=some (.loop rec):=(Below.heap_alloc _ _ _ cH).trans d.z.rc;refine⟨_,run_beginRound a6 a3.z,?_⟩;obtain⟨p0,a7⟩:=nm y.1.1;obtain⟨p1,a8⟩:=nm y.1.2;have aG:=y.2;simp only at aG;rw[a7,a8]at aG;rw[a7,a8]at a6 ⊢;obtain⟨C,L⟩:∃C,(X.alloc (.cells #[p0,p1] 214)).putObj (D+1) (.loop { rec with state:=.busy })=C:=⟨_,rfl⟩;have av:DW (λq=>q=D+1) X C:=by
   rw[<-L];exact((DW.refl (λq=>q=D+1) X).alloc _).putObj (.inl rfl) _
  have bJ:C.heap[D+1]?=some (.loop { rec with state:=.busy }):=by
   rw[<-L];exact World.putObj_heap_same my
  have a9:C.heap[X.heap.size]?=some (.cells #[p0,p1] 214 (0,0)):=by
   rw[<-L];exact(World.putObj_heap_other I).trans (heap_alloc_new X _)
  have bK:C.heap[D]?=some (.deferred (some [])):=by
   rw[<-L];exact(World.putObj_heap_other I).trans ((Below.heap_alloc _ _ _ I).trans d.z.df)
  have bL:v.ownBlock≠some b:=λe=>by
   obtain⟨ac,hc⟩:=JJ d.z.own e;rw[d.z.ob]at hc;simp at hc
  have af:v.ownBlock≠some (D+1):=λe=>by
   obtain⟨ac,hc⟩:=JJ d.z.own e;rw[d.z.rc]at hc;cases hc
  have aw:v.ownBlock≠some D:=λe=>by
   obtain⟨ac,hc⟩:=JJ d.z.own e;rw[d.z.df]at hc;cases hc
  have aL:=(d.z.set hz g2).mod av I (λg hg e=>af (by rw[hg,show g=D+1 from e]));have bM:=av.obj (k:=b) I d.z.ob;rw[L];have ba:=d.z.ok;have bN:=ba.most;unfold zF at aG;have ka:=Ku (s1.adds (pre.map (·.1))) b (9+k*15+1) p0 p1 v C.drew (aL.mod (DW.refl DY C).drew (λx=>x) (λ_ _ x=>x)) ba.wf I I (Nat.lt_of_le_of_lt ba.fl (by unfold zF;decide)) bL bN.1 (AJ bN.2 mu);have KA:=zb ka;have u0:C.cell? X.heap.size=some (.int .u64 p0):=za a9 rfl;have u1:C.cell? (X.heap.size,1)=some (.int .u64 p1):=za a9 rfl;have bO:C.cell? (fb+1,0)=some (.pointer (b,9+k*15)):=by
   have h1:=d.z.m.cell (a:=U (fb+1) 0) (λq=>by
    rcases q with q|q
    .have q:fb+1=b:=q;have:=am.z;omega
    have h3:=C5.tws k hk (fb+1) q;have h4:=aa.z.1 (fb+1) (by rw[aP.z];omega);rw[h4,HH.z.e.z (fb+1) (by rw[am.z];omega)]at h3;have h5:=A8 Prod.snd h3;simp only at h5;omega) bw
   exact av.cell (a:=U (fb+1) 0) (by show ¬fb+1=D+1;omega) h1
  have bP:=zb bM;have bQ:=zb bJ;have cI:=zb bK;have bR:=zb av;have hmo:(prog).follows Departure.mixedOrders=true:=mr;have ax:Fence.wide.fn 88:=trivial;clear aL bM a6 a9 L ka bJ bK av;gi_wp2;refine YP 7 (λw'=>w'.cell? X.heap.size=some (.int .u64 p0)/\w'.cell? (U X.heap.size 1)=some (.int .u64 p1)/\w'.cell? (U (fb+1) 0)=some (.pointer (b,9+k*15))) mr mr mr (⟨u0,u1,bO⟩) ?_;refine GI 0 ?_;iterate 7
   refine GV rfl ?_;try simp only[PS]
  refine EX rfl (λK hK=>?_);go_simp
  with_reducible refine(KA.z).mono ?_
  rintro e X3 ⟨v3,rfl,bS,bT,bU,bV⟩;have bW:=zb bS;have cJ:=zb bT;have bb:=zb bU;have cK:=zb bV;clear bS bT bU bV;go_simp;refine hK.z _ _ ?_;clear hK K;try simp only[PS]
  refine zr ?_;refine⟨rfl,?_⟩;gi_wp2;have cP:=(AH.1 bQ.z).1;have bX:∀q,q=D\/q=D+1->¬(q=b\/v.ownBlock=some q):=λq t x=>by
   rcases t with rfl|rfl
   .rcases x with x|x
    .omega
    exact aw x
   rcases x with x|x
   .omega
   exact af x
  have bc:=bb.z.obj (bX _ (.inr rfl)) bQ.z;have cL:=bb.z.obj (bX _ (.inl rfl)) cI.z;have bY:=(AH.1 bc).1;have cM:DW (λq=>q=D+1\/q=b\/v.ownBlock=some q) X X3:=by
   refine(bR.z.mono (λq t=>.inl (.inl t))).trans ((DW.refl _ C).drew.trans (bb.z.mono (λq t=>.inl (.inr t))))
  have bZ:=λr=>cM.putObj (.inl (.inl rfl)) r
  have be:∀q,v.ownBlock=some q->(G.ws k).ownBlock=some q\/H.heap.size<=q:=d.z.nw;refine⟨_,_,run_endRound none bc,(bZ _).mono (λq t=>.inl ?_),rfl,v3,?_⟩
  .rcases t with t|t|t
   .exact .inr (.inl t)
   .exact .inl t
   refine .inr (.inr ⟨λg o e y=>?_,?_⟩)
   .subst y;rcases be _ t with y|y
    .exact bI _ _ e y
    have:=bH _ _ e;omega
   obtain⟨ac,hc⟩:=JJ d.z.own t;exact⟨_,_,hc⟩
  have aH:pre.map (·.1)++[y.1]=pre.map (·.1)++[(p0,p1)]:=by
   rw[<-a7,<-a8]
  have b0:v3.ownBlock≠some (D+1):=λe=>by
   obtain⟨ac,hc⟩:=JJ bW.z e;rw[bc]at hc;cases hc
  have mp:=λr=>(DW.refl (λq=>q=D+1) X3).putObj (.inl rfl) r
  have cQ:=d.z.m.size;refine⟨?_,?_,?_,?_,?_,?_,?_,?_⟩
  .rw[aH,RP];exact(mp _).owns bW.z (λg hg e=>b0 (by rw[hg,show g=D+1 from e]))
  .rw[aH,RP,World.putObj_heap_other I,cJ.z,zc (zc (show C.drew.heap[b]?=_ from bP.z)),gN]
  .refine d.z.m.then (bZ _) (λq t=>?_);rcases t with t|t|t
   .exact .inr I
   .exact .inl (.inl t)
   rcases be q t with z|z
   .exact .inl (.inr z)
   exact .inr z
  .intro g hg;rcases cK.z g hg with z|z
   .exact be g z
   refine .inr ?_;have h1:=bR.z.size;have h2:C.drew.heap.size=C.heap.size:=rfl;omega
  .rw[aH,RP];exact d.z.ok.add _ aG.2
  .rw[aH,RT]
  .exact(World.putObj_heap_other I).trans cL
  rw[World.putObj_heap_same bY];have b3:=bF.z;have b4:=a3.z;cases rec;simp only at b3 b4;subst b3;subst b4;rfl
 case post =>
  rintro e X ⟨⟨v0,rfl⟩,⟨v,l⟩|⟨q,t,hx⟩⟩;rotate_left
  .exact hx.elim
  have ay:=run_endLoop (P:=prog) l.rc (by rw[a3.z];simp);rw[bF.z]at ay;refine⟨none,_,ay,?_⟩;clear ay;have az:((Fm (λr:Nat×Nat=>r.1<=zF/\r.2<=zF) rs au rs.length).map Hu.rr).map (·.1)=rs.reverse:=by
   have h1:((Fm (λr:Nat×Nat=>r.1<=zF/\r.2<=zF) rs au rs.length).map Hu.rr).map (·.1)=((Fm (λr:Nat×Nat=>r.1<=zF/\r.2<=zF) rs au rs.length).map (·.1)).map (·.2):=by
    rw[Cg,Cg];rfl
   rw[h1,kk,Vt rs rs.length (AF _),Aa mv]
  rw[az]at l;obtain⟨C,L⟩:∃C,X.putObj (D+1) (.loop { rec with state:=.exhausted,pending:=none })=C:=⟨_,rfl⟩;have hm:DW (λq=>q=D+1) X C:=by rw[<-L];exact(DW.refl (λq=>q=D+1) _).putObj (.inl rfl) _
  have hd:=hm.obj mv l.df;have bL:v.ownBlock≠some b:=λe=>by
   obtain⟨ac,hc⟩:=JJ l.own e;rw[l.ob]at hc;simp at hc
  have af:v.ownBlock≠some (D+1):=λe=>by
   obtain⟨ac,hc⟩:=JJ l.own e;rw[l.rc]at hc;cases hc
  have aw:v.ownBlock≠some D:=λe=>by
   obtain⟨ac,hc⟩:=JJ l.own e;rw[l.df]at hc;cases hc
  obtain⟨Y,hY⟩:=nm (C.putObj D (.deferred none));have mY:DW (λq=>q=D\/q=D+1) X Y:=by
   rw[<-hY];exact(hm.mono (λq t=>.inl (.inr t))).putObj (.inl (.inl rfl)) _
  have O:NC (s1.adds rs.reverse) b (9+15*k+1) (G.ws k) H Y v:=by
   have ep:9+k*15+1=9+15*k+1:=I;rw[<-ep];refine⟨mY.owns l.own (λg hg e=>?_),?_,l.m.then mY (λq t=>.inr I),l.nw⟩
   .rcases e with e|e
    .exact aw (by rw[hg,e])
    exact af (by rw[hg,e])
   exact(mY.block b (AH.1 l.ob).1 I).trans (l.ob.trans (zc (zc bC)).symm)
  obtain⟨aM,V6,R6,ht6⟩:=Z.z.sent hk O (by rw[RT,aq]);have b5:({ c5 with ws:=zf c5.ws k { c5.ws k with sent:=s1.adds rs.reverse } }:CS)={ c with ws:=zf c.ws k { x with sent:=s1.adds rs.reverse } }:=by
   rw[<-aZ];simp only[ze];rw[Kp,HX.z]
  rw[b5]at R6;have aA:(x.sent.without f.off (f.off+f.data.length)).adds x.came.rs.reverse=s1.adds rs.reverse:=by
   rw[ak,cc.z,bm.z,an.z]
  have bf:C.heap[b]?=some (.cells (zw { c with ws:=zf c.ws k { x with sent:=s1.adds rs.reverse } } V6).toArray 127 (0,0)):=by
   rw[<-R6.c.obj,<-hY,World.putObj_heap_other I]
  have fe:=za (o:=9+k*15+9) bf (by
   rw[BY,AL k 15];exact MR { c with ws:=zf c.ws k { x with sent:=s1.adds rs.reverse } } V6 (k:=k) (j:=9) (v:=.bool x.ending) hk (by simp[ze,Fx]))
  have fz:∀j,C.frozen? ⟨b,j,none⟩=false:=λj=>zg bf
  have bh:∀q,q=fb\/q=fb+1->¬(q=b\/(G.ws k).ownBlock=some q):=λq t x=>by
   have cR:=am.z;rcases x with x|x
   .omega
   have h3:=C5.tws k hk q x;have h4:=aa.z.1 q (by rw[aP.z];omega);rw[h4,HH.z.e.z q (by rw[am.z];omega)]at h3;have h5:=A8 Prod.snd h3;simp only at h5;omega
  have x1:=hm.cell (a:=U (fb+1) 0) (by show ¬fb+1=D+1;omega) (l.m.cell (a:=U (fb+1) 0) (bh _ (.inr rfl)) bw);have x5:=hm.cell (a:=U fb 5) (by show ¬fb=D+1;omega) (l.m.cell (a:=U fb 5) (bh _ (.inl rfl)) cx);have aI:=zb R6;have aJ:=zb aA;have b6:=zb hY;have hx2:=(AH.1 hd).1;rw[L];clear R6 aA bf bh hm l O mY hY L b5 az;cases ax:f.fin with
  | false =>
   rw[ax]at x5;have e1:x.again f={ x with sent:=s1.adds rs.reverse }:=by
    unfold WS.again;rw[aJ.z,ax];simp
   have bi:=zb e1;have bj:=aI;clear aI e1 aJ;go_wp2_with fail;refine⟨mv,.inl ⟨_,_,rfl,run_takeDeferred hd,?_⟩⟩;refine⟨_,results_none rfl _ _ _,rfl,aM,V6,?_⟩;rw[b6.z,bi.z];exact bj.z
  | true =>
   rw[ax]at x5;have e1:x.again f={ x with sent:=s1.adds rs.reverse,ending:=false }:=by
    unfold WS.again;rw[aJ.z,ax];simp
   have bi:=zb e1;have bj:=zb (aI.z.storeW hk 9 mu (.bool false) { x with sent:=s1.adds rs.reverse,ending:=false } rfl rfl rfl rfl);clear aI e1 aJ;go_wp2_with fail;have cN:(C.setCell (b,9+k*15+9) (.bool false)).heap[D]?=some (.deferred (some [])):=((DW.refl (λq=>q=b) C).setCell (p:=⟨b,_,none⟩) (.inl rfl) _).obj I hd;refine⟨mv,.inl ⟨_,_,rfl,run_takeDeferred cN,?_⟩⟩;refine⟨_,results_none rfl _ _ _,rfl,aM,V6,?_⟩;rw[mP I,b6.z,AL k 15,bi.z];exact bj.z
end
section
open Go.RowKit Go.Proofs.Tryz
variable{V' V0:CV}{W' W0:World}{b i k:Nat}{c:CS}{tag tag':nH}
def zz.storeR{y:RS}(h:zz tag i b W0 V0 { c with rs:=zf c.rs k y } tag' V' W')(hk:k<8)(j:Nat)(hj:j<13)(v:Value)(x:RS)(hx:Gp x (V'.rb k) (V'.rc k)=(Gp y (V'.rb k) (V'.rc k)).set j v)(h1:x.b=y.b)(h3:x.came.rs=y.came.rs):zz tag i b W0 V0 { c with rs:=zf c.rs k x } tag' V' (W'.setCell (b,129+13*k+j) v):=by
 have a:DW (λq=>q=b) W' (W'.setCell (b,129+13*k+j) v):=(DW.refl (λq=>q=b) _).setCell (p:=⟨b,_,none⟩) (.inl rfl) _;exact⟨h.c.storeR2 hk j hj v x hx h1 h3,⟨h.e.old,h.e.new,h.e.z.mod a⟩,Ew h.e h.m (a.mono (λq hq=>.inl (EW (r:=1) (by rw[show q=b from hq];exact h.c.tb) mu))),h.p,h.ft⟩
def MU(a b:Nat):((a:Int)==(b:Int))=(a==b):=by
 rw[Cz];simp;try omega
variable{c':CS}
def zz.same(h:zz tag i b W0 V0 c tag' V' W')(e:c=c'):zz tag i b W0 V0 c' tag' V' W':=e ▸ h
variable{V:CV}{W:World}{tag0:nH}
def kX(h:zz tag i b W0 V0 c tag0 V W)(f:Da)(rv:Value)(l:f.kind=5)(ha:c.anew=true):Calls prog 80 #[(b,0),.agg (zl f rv)] W (JC tag i b W0 V0 { c with anew:=true }):=by
 have HH:=zb h;obtain⟨W1,a⟩:=nm (W.alloc (.cells (zl f rv) 65));have m1:=AB a;have d:zj W1 W.heap.size f rv:=by rw[<-a];exact heap_alloc_new W _
 obtain⟨fb,e⟩:=nm W.heap.size;rw[e]at d;have m:=zb a;have o:=zb e;have k:=zb (h.mod0 m1);obtain⟨y0,y1,y2,y3,t,y5,y6,y7,y8,y9⟩:=d.cells;rw[l]at y0;obtain⟨lm,p⟩:=nm f.lim;obtain⟨gr,q⟩:=nm c.grant;rw[p]at t;have q1:W1.cell? (b,234)=some (.int .u64 gr):=by rw[<-q];exact k.z.c.tl (j:=1) rfl
 have q2:W1.cell? (b,235)=some (.bool true):=by rw[<-ha];exact k.z.c.tl (j:=2) rfl
 have fz:=λj=>k.z.c.fz j
 clear h m1 d a e y5 y6 y7 y8 y9 y2;refine(callsIn_wide (n:=8)).1 ?_;refine callsIn_of_wp_marks func80 rfl trivial ?_ rfl;simp only[ntmps80,Am,AR,Ad,Nat.reduceAdd,Nat.reduceSub,BA,A9,BK,BE,An,BS];refine wpIn_wide.2 ?_;go_upto_region 1 with fail;rw[o.z,m.z];go_upto_region 15 with fail;refine zG ?_;refine zo 16 (λw'=>w'.cell? (U fb 4)=some (.int .u64 lm)/\w'.cell? (U b 234)=some (.int .u64 gr)/\w'.cell? (U b 235)=some (.bool true)) (⟨t,q1,q2⟩) ?_;refine GI 0 ?_;iterate 6
  refine GV rfl ?_;try simp only[PS]
 refine GI 6 ?_;iterate 7
  refine GU rfl (λ_ _ _ h=>nomatch h.1) ?_;try simp only[PS]
 refine GI 13 ?_;iterate 3
  refine GV rfl ?_;try simp only[PS]
 refine EX rfl (λK u=>?_);go_simp;refine u.z _ _ ?_;clear u K;try simp only[PS]
 refine zr ?_;refine⟨rfl,?_⟩;go_wp2_with fail;refine⟨_,results_none rfl _ _ _,rfl,tag0,V,?_⟩;exact(k.z.store (233+2) (.bool true) (G8 c { c with anew:=true } V V _ rfl rfl rfl rfl) ⟨rfl,λ_ _=>⟨rfl,rfl,rfl⟩,λ_ _=>⟨rfl,rfl⟩,rfl,rfl,rfl,rfl⟩).mod0 (DW.refl DY _).drew
def kW(h:zz tag i b W0 V0 c tag0 V W)(f:Da)(rv:Value)(m:f.kind=5)(ha:c.anew=false):Calls prog 80 #[(b,0),.agg (zl f rv)] W (JC tag i b W0 V0 { c with anew:=f.lim==c.grant }):=by
 have HH:=zb h;obtain⟨W1,a⟩:=nm (W.alloc (.cells (zl f rv) 65));have m1:=AB a;have d:zj W1 W.heap.size f rv:=by rw[<-a];exact heap_alloc_new W _
 obtain⟨fb,e⟩:=nm W.heap.size;rw[e]at d;have o:=zb a;have p:=zb e;have l:=zb (h.mod0 m1);obtain⟨y0,y1,y2,y3,s,y5,y6,y7,y8,y9⟩:=d.cells;rw[m]at y0;obtain⟨q,g⟩:=nm f.lim;obtain⟨gr,k⟩:=nm c.grant;rw[g]at s;have q1:W1.cell? (b,234)=some (.int .u64 gr):=by rw[<-k];exact l.z.c.tl (j:=1) rfl
 have q2:W1.cell? (b,235)=some (.bool false):=by rw[<-ha];exact l.z.c.tl (j:=2) rfl
 have fz:=λj=>l.z.c.fz j
 clear h m1 d a e y5 y6 y7 y8 y9 y2;refine(callsIn_wide (n:=8)).1 ?_;refine callsIn_of_wp_marks func80 rfl trivial ?_ rfl;simp only[ntmps80,Am,AR,Ad,Nat.reduceAdd,Nat.reduceSub,BA,A9,BK,BE,An,BS];refine wpIn_wide.2 ?_;go_upto_region 1 with fail;rw[p.z,o.z];go_upto_region 15 with fail;refine zG ?_;refine zo 16 (λw'=>w'.cell? (U fb 4)=some (.int .u64 q)/\w'.cell? (U b 234)=some (.int .u64 gr)/\w'.cell? (U b 235)=some (.bool false)) (⟨s,q1,q2⟩) ?_;refine GI 0 ?_;iterate 16
  refine GV rfl ?_;try simp only[PS]
 refine EX rfl (λK t=>?_);go_simp;refine t.z _ _ ?_;clear t K;try simp only[PS]
 refine zr ?_;refine⟨rfl,?_⟩;go_wp2_with fail;refine⟨_,results_none rfl _ _ _,rfl,tag0,V,?_⟩;rw[show(f.lim==c.grant)=((q:Int)==(gr:Int))by rw[g,k,MU]];exact(l.z.store (233+2) (.bool _) (G8 c { c with anew:=((q:Int)==(gr:Int)) } V V _ rfl rfl rfl rfl) ⟨rfl,λ_ _=>⟨rfl,rfl,rfl⟩,λ_ _=>⟨rfl,rfl⟩,rfl,rfl,rfl,rfl⟩).mod0 (DW.refl DY _).drew
def kV(h:zz tag i b W0 V0 c tag0 V W)(f:Da)(rv:Value)(k:Nat)(hk:k<8)(o:f.stream=(k:Int))(q:f.kind=6)(s:(c.rs k).anew=true):Calls prog 80 #[(b,0),.agg (zl f rv)] W (JC tag i b W0 V0 { c with rs:=zf c.rs k { c.rs k with anew:=true } }):=by
 have HH:=zb h;obtain⟨W1,d⟩:=nm (W.alloc (.cells (zl f rv) 65));have m1:=AB d;have e:zj W1 W.heap.size f rv:=by rw[<-d];exact heap_alloc_new W _
 obtain⟨fb,g⟩:=nm W.heap.size;rw[g]at e;have t:=zb d;have u:=zb g;have p:=zb (h.mod0 m1);obtain⟨y0,x,y2,y3,y,y5,y6,y7,y8,y9⟩:=e.cells;rw[q]at y0;obtain⟨lm,l⟩:=nm f.lim;obtain⟨gr,m⟩:=nm ((c.rs k).grant);rw[l]at y;have q1:W1.cell? (b,129+k*13+11)=some (.int .u64 gr):=by rw[<-m,AL k 13];exact p.z.c.r (j:=11) hk rfl
 have q2:W1.cell? (b,129+k*13+12)=some (.bool true):=by rw[<-s,AL k 13];exact p.z.c.r (j:=12) hk rfl
 have fz:=λj=>p.z.c.fz j
 have HA:=zb s;have HLM:=zb l;have HGR:=zb m;rw[o]at x;have d0:(0:Int)<=k:=I;have d8:(k:Int)<8:=I;clear s l m o;clear h m1 e d g y5 y6 y7 y8 y9 y2;refine(callsIn_wide (n:=8)).1 ?_;refine callsIn_of_wp_marks func80 rfl trivial ?_ rfl;simp only[ntmps80,Am,AR,Ad,Nat.reduceAdd,Nat.reduceSub,BA,A9,BK,BE,An,BS];refine wpIn_wide.2 ?_;go_upto_region 1 with fail;rw[u.z,t.z];go_upto_region 17 with fail;refine zG ?_;refine zo 7 (λw'=>w'.cell? (U fb 1)=some (.int .i64 k)) (x) ?_;refine GI 0 ?_;iterate 7
  refine GV rfl ?_;try simp only[PS]
 refine zr ?_;refine⟨rfl,?_⟩;go_upto_region 18 with fail;refine zG ?_;refine zo 16 (λw'=>w'.cell? (U fb 4)=some (.int .u64 lm)/\w'.cell? (b,129+k*13+11)=some (.int .u64 gr)/\w'.cell? (b,129+k*13+12)=some (.bool true)) (⟨y,q1,q2⟩) ?_;refine GI 0 ?_;iterate 6
  refine GV rfl ?_;try simp only[PS]
 refine GI 6 ?_;iterate 7
  refine GU rfl (λ_ _ _ h=>nomatch h.1) ?_;try simp only[PS]
 refine GI 13 ?_;iterate 3
  refine GV rfl ?_;try simp only[PS]
 refine EX rfl (λK A=>?_);go_simp;refine A.z _ _ ?_;clear A K;try simp only[PS]
 refine zr ?_;refine⟨rfl,?_⟩;go_wp2_with fail;refine⟨_,results_none rfl _ _ _,rfl,tag0,V,?_⟩;have R2:zz tag i b W0 V0 { c with rs:=zf c.rs k (c.rs k) } tag0 V W1:=p.z.same (by rw[Fy]);have R3:=R2.storeR hk 12 mu (.bool true) { c.rs k with anew:=true } rfl rfl rfl;rw[AL k 13];exact R3.mod0 (((DW.refl DY _).drew).drew)
def kU(h:zz tag i b W0 V0 c tag0 V W)(f:Da)(rv:Value)(k:Nat)(hk:k<8)(o:f.stream=(k:Int))(s:f.kind=6)(t:(c.rs k).anew=false):Calls prog 80 #[(b,0),.agg (zl f rv)] W (JC tag i b W0 V0 { c with rs:=zf c.rs k { c.rs k with anew:=f.lim==(c.rs k).grant } }):=by
 have HH:=zb h;obtain⟨W1,a⟩:=nm (W.alloc (.cells (zl f rv) 65));have m1:=AB a;have d:zj W1 W.heap.size f rv:=by rw[<-a];exact heap_alloc_new W _
 obtain⟨fb,e⟩:=nm W.heap.size;rw[e]at d;have u:=zb a;have v:=zb e;have p:=zb (h.mod0 m1);obtain⟨y0,y,y2,y3,z,y5,y6,y7,y8,y9⟩:=d.cells;rw[s]at y0;obtain⟨q,g⟩:=nm f.lim;obtain⟨gr,l⟩:=nm ((c.rs k).grant);rw[g]at z;have q1:W1.cell? (b,129+k*13+11)=some (.int .u64 gr):=by rw[<-l,AL k 13];exact p.z.c.r (j:=11) hk rfl
 have q2:W1.cell? (b,129+k*13+12)=some (.bool false):=by rw[<-t,AL k 13];exact p.z.c.r (j:=12) hk rfl
 have fz:=λj=>p.z.c.fz j
 have HA:=zb t;have w:=zb g;have x:=zb l;rw[o]at y;have d0:(0:Int)<=k:=I;have d8:(k:Int)<8:=I;clear t g l o;clear h m1 d a e y5 y6 y7 y8 y9 y2;refine(callsIn_wide (n:=8)).1 ?_;refine callsIn_of_wp_marks func80 rfl trivial ?_ rfl;simp only[ntmps80,Am,AR,Ad,Nat.reduceAdd,Nat.reduceSub,BA,A9,BK,BE,An,BS];refine wpIn_wide.2 ?_;go_upto_region 1 with fail;rw[v.z,u.z];go_upto_region 17 with fail;refine zG ?_;refine zo 7 (λw'=>w'.cell? (U fb 1)=some (.int .i64 k)) (y) ?_;refine GI 0 ?_;iterate 7
  refine GV rfl ?_;try simp only[PS]
 refine zr ?_;refine⟨rfl,?_⟩;go_upto_region 18 with fail;refine zG ?_;refine zo 16 (λw'=>w'.cell? (U fb 4)=some (.int .u64 q)/\w'.cell? (b,129+k*13+11)=some (.int .u64 gr)/\w'.cell? (b,129+k*13+12)=some (.bool false)) (⟨z,q1,q2⟩) ?_;refine GI 0 ?_;iterate 16
  refine GV rfl ?_;try simp only[PS]
 refine EX rfl (λK A=>?_);go_simp;refine A.z _ _ ?_;clear A K;try simp only[PS]
 refine zr ?_;refine⟨rfl,?_⟩;go_wp2_with fail;refine⟨_,results_none rfl _ _ _,rfl,tag0,V,?_⟩;rw[show(f.lim==(c.rs k).grant)=((q:Int)==(gr:Int))by rw[w.z,x.z,MU]];have R2:zz tag i b W0 V0 { c with rs:=zf c.rs k (c.rs k) } tag0 V W1:=p.z.same (by rw[Fy]);have R3:=R2.storeR hk 12 mu (.bool ((q:Int)==(gr:Int))) { c.rs k with anew:=((q:Int)==(gr:Int)) } rfl rfl rfl;rw[AL k 13];exact R3.mod0 (((DW.refl DY _).drew).drew)
def kT(h:zz tag i b W0 V0 c tag0 V W)(f:Da)(rv:Value)(k:Nat)(hk:k<8)(o:f.stream=(k:Int))(r:f.kind=3)(p:f.rel=(c.ws k).keep):Calls prog 80 #[(b,0),.agg (zl f rv)] W (JC tag i b W0 V0 { c with ws:=zf c.ws k { c.ws k with telling:=false } }):=by
 have HH:=zb h;obtain⟨W1,a⟩:=nm (W.alloc (.cells (zl f rv) 65));have m1:=AB a;have d:zj W1 W.heap.size f rv:=by rw[<-a];exact heap_alloc_new W _
 obtain⟨fb,e⟩:=nm W.heap.size;rw[e]at d;have s:=zb a;have t:=zb e;have q:=zb (h.mod0 m1);obtain⟨y0,v,y2,x,y4,y5,y6,y7,y8,y9⟩:=d.cells;rw[r]at y0;obtain⟨u,g⟩:=nm ((c.ws k).keep);obtain⟨rl,l⟩:=nm f.rel;rw[l]at x;rw[g,l]at p;have q1:W1.cell? (b,9+k*15+11)=some (.int .u64 u):=by rw[<-g,AL k 15];exact q.z.c.w (j:=11) hk rfl
 have q2:W1.cell? (b,9+k*15+13)=some (.bool (c.ws k).telling):=by rw[AL k 15];exact q.z.c.w (j:=13) hk rfl
 have fz:=λj=>q.z.c.fz j
 have hb:((rl:Int)==(u:Int))=true:=by rw[MU];simp[p]
 have HR:=zb p;rw[o]at v;have d0:(0:Int)<=k:=I;have d8:(k:Int)<8:=I;clear g l o p;clear h m1 d a e y5 y6 y7 y8 y9 y2;refine(callsIn_wide (n:=8)).1 ?_;refine callsIn_of_wp_marks func80 rfl trivial ?_ rfl;simp only[ntmps80,Am,AR,Ad,Nat.reduceAdd,Nat.reduceSub,BA,A9,BK,BE,An,BS];refine wpIn_wide.2 ?_;go_upto_region 1 with fail;rw[t.z,s.z];go_upto_region 11 with fail;refine zG ?_;refine zo 7 (λw'=>w'.cell? (U fb 1)=some (.int .i64 k)) (v) ?_;refine GI 0 ?_;iterate 7
  refine GV rfl ?_;try simp only[PS]
 refine zr ?_;refine⟨rfl,?_⟩;go_upto_region 12 with fail;refine zG ?_;refine zo 7 (λw'=>w'.cell? (U fb 3)=some (.int .u64 rl)/\w'.cell? (b,9+k*15+11)=some (.int .u64 u)) (⟨x,q1⟩) ?_;refine GI 0 ?_;iterate 7
  refine GV rfl ?_;try simp only[PS]
 refine zr ?_;refine⟨rfl,?_⟩;go_wp2_with fail;refine⟨_,results_none rfl _ _ _,rfl,tag0,V,?_⟩;have R2:zz tag i b W0 V0 { c with ws:=zf c.ws k (c.ws k) } tag0 V W1:=q.z.same (by rw[Fy]);have R3:=R2.storeW hk 13 mu (.bool false) { c.ws k with telling:=false } rfl rfl rfl rfl;rw[AL k 15];exact R3.mod0 (((DW.refl DY _).drew).drew)
def kS(h:zz tag i b W0 V0 c tag0 V W)(f:Da)(rv:Value)(k:Nat)(hk:k<8)(o:f.stream=(k:Int))(s:f.kind=3)(p:¬f.rel=(c.ws k).keep):Calls prog 80 #[(b,0),.agg (zl f rv)] W (JC tag i b W0 V0 { c with ws:=zf c.ws k (c.ws k) }):=by
 have HH:=zb h;obtain⟨W1,a⟩:=nm (W.alloc (.cells (zl f rv) 65));have m1:=AB a;have d:zj W1 W.heap.size f rv:=by rw[<-a];exact heap_alloc_new W _
 obtain⟨fb,e⟩:=nm W.heap.size;rw[e]at d;have t:=zb a;have u:=zb e;have q:=zb (h.mod0 m1);obtain⟨y0,v,y2,x,y4,y5,y6,y7,y8,y9⟩:=d.cells;rw[s]at y0;obtain⟨r,g⟩:=nm ((c.ws k).keep);obtain⟨rl,l⟩:=nm f.rel;rw[l]at x;rw[g,l]at p;have q1:W1.cell? (b,9+k*15+11)=some (.int .u64 r):=by rw[<-g,AL k 15];exact q.z.c.w (j:=11) hk rfl
 have q2:W1.cell? (b,9+k*15+13)=some (.bool (c.ws k).telling):=by rw[AL k 15];exact q.z.c.w (j:=13) hk rfl
 have fz:=λj=>q.z.c.fz j
 have hb:((rl:Int)==(r:Int))=false:=by rw[MU];simp[p]
 have hne:¬(rl:Int)=(r:Int):=I;have HR:=zb p;rw[o]at v;have d0:(0:Int)<=k:=I;have d8:(k:Int)<8:=I;clear g l o p;clear h m1 d a e y5 y6 y7 y8 y9 y2;refine(callsIn_wide (n:=8)).1 ?_;refine callsIn_of_wp_marks func80 rfl trivial ?_ rfl;simp only[ntmps80,Am,AR,Ad,Nat.reduceAdd,Nat.reduceSub,BA,A9,BK,BE,An,BS];refine wpIn_wide.2 ?_;go_upto_region 1 with fail;rw[u.z,t.z];go_upto_region 11 with fail;refine zG ?_;refine zo 7 (λw'=>w'.cell? (U fb 1)=some (.int .i64 k)) (v) ?_;refine GI 0 ?_;iterate 7
  refine GV rfl ?_;try simp only[PS]
 refine zr ?_;refine⟨rfl,?_⟩;go_upto_region 12 with fail;refine zG ?_;refine zo 7 (λw'=>w'.cell? (U fb 3)=some (.int .u64 rl)/\w'.cell? (b,9+k*15+11)=some (.int .u64 r)) (⟨x,q1⟩) ?_;refine GI 0 ?_;iterate 7
  refine GV rfl ?_;try simp only[PS]
 refine zr ?_;refine⟨rfl,?_⟩;go_wp2_with fail;refine⟨_,results_none rfl _ _ _,rfl,tag0,V,?_⟩;have R2:zz tag i b W0 V0 { c with ws:=zf c.ws k (c.ws k) } tag0 V W1:=q.z.same (by rw[Fy]);exact R2.mod0 (((DW.refl DY _).drew).drew)
def jK(h:zz tag i b W0 V0 c tag0 V W)(f:Da)(rv:Value)(h3:¬f.kind=3)(h4:¬f.kind=4)(h5:¬f.kind=5)(h6:¬f.kind=6):Calls prog 80 #[(b,0),.agg (zl f rv)] W (JC tag i b W0 V0 c):=by
 have HH:=zb h;obtain⟨W1,a⟩:=nm (W.alloc (.cells (zl f rv) 65));have m1:=AB a;have d:zj W1 W.heap.size f rv:=by rw[<-a];exact heap_alloc_new W _
 obtain⟨fb,e⟩:=nm W.heap.size;rw[e]at d;have g:=zb a;have j:=zb e;have R1:=zb (h.mod0 m1);obtain⟨y0,y1,y2,y3,y4,y5,y6,y7,y8,y9⟩:=d.cells;have h3':¬(f.kind:Int)=3:=I;have h4':¬(f.kind:Int)=4:=I;have h5':¬(f.kind:Int)=5:=I;have h6':¬(f.kind:Int)=6:=I;clear h m1 d a e y5 y6 y7 y8 y9 y2;refine(callsIn_wide (n:=8)).1 ?_;refine callsIn_of_wp_marks func80 rfl trivial ?_ rfl;simp only[ntmps80,Am,AR,Ad,Nat.reduceAdd,Nat.reduceSub,BA,A9,BK,BE,An,BS];refine wpIn_wide.2 ?_;go_upto_region 1 with fail;rw[j.z,g.z];go_wp2_with fail;refine⟨_,results_none rfl _ _ _,rfl,tag0,V,?_⟩;exact R1.z
structure JX(c:CS)(f:Da):Prop where
 k4:f.kind=4->MB c f f.stream.toNat
 k3:f.kind=3->0<=f.stream/\f.stream<8
 k6:f.kind=6->0<=f.stream/\f.stream<8
theorem VG(h:zz tag i b W0 V0 c tag0 V W)(f:Da)(rv:Value)(ok:JX c f)(m:∃a n cap,rv=.slice a n cap):Calls prog 80 #[(b,0),.agg (zl f rv)] W (JC tag i b W0 V0 (c.again f)):=by
 unfold CS.again;by_cases h4:f.kind=4
 .rw[AQ h4];exact jL h f rv _ (ok.k4 h4) h4 m
 rw[AI h4];by_cases h3:f.kind=3
 .rw[AQ h3];obtain⟨a1,a2⟩:=ok.k3 h3;have hk:f.stream.toNat<8:=I;have d:f.stream=(f.stream.toNat:Int):=I;generalize f.stream.toNat=k at hk d;by_cases l:f.rel=(c.ws k).keep
  .have e:{ c.ws k with telling:=(c.ws k).telling && !(f.rel==(c.ws k).keep) }={ c.ws k with telling:=false }:=by simp[l]
   rw[e];exact kT h f rv k hk d h3 l
  have e:{ c.ws k with telling:=(c.ws k).telling && !(f.rel==(c.ws k).keep) }=c.ws k:=by
   have e2:(f.rel==(c.ws k).keep)=false:=by simp[l]
   rw[e2];simp
  rw[e];exact kS h f rv k hk d h3 l
 rw[AI h3];by_cases j:f.kind=5
 .rw[AQ j];cases ha:c.anew with
  | true =>
   have:=kX h f rv j ha;simpa using this
  | false =>
   have:=kW h f rv j ha;simpa using this
 rw[AI j];by_cases g:f.kind=6
 .rw[AQ g];obtain⟨a1,a2⟩:=ok.k6 g;have hk:f.stream.toNat<8:=I;have d:f.stream=(f.stream.toNat:Int):=I;generalize f.stream.toNat=k at hk d;cases ha:(c.rs k).anew with
  | true =>
   have:=kV h f rv k hk d g ha;simpa using this
  | false =>
   have:=kU h f rv k hk d g ha;simpa using this
 rw[AI g];exact jK h f rv h3 h4 j g
def li(c:CS)(f:Da):(c.again f).flight=c.flight:=by
 unfold CS.again;split
 .rfl
 split
 .rfl
 split
 .rfl
 split<;>rfl
theorem SG:∀(fs:List Da) (c:CS),(c.agains fs).flight=c.flight
 | [],_=>rfl
 | f::fs,c=>by
  show((c.again f).agains fs).flight=_;rw[SG fs,li]
variable{f:Da}{fs:List Da}
def WT(h:fs[k]?=some f):c.agains (fs.take (k+1))=(c.agains (fs.take k)).again f:=by
 unfold CS.agains;rw[BG,h,Cm];rfl
def Kt(tag:nH)(i b:Nat)(W0:World)(V0:CV)(c:CS)(p:Dc)(e:Ending)(W':World):Prop :=
 e=.returned (.bool (c.late p))/\∃tag' V',zz tag i b W0 V0 (if c.late p then c.agains p.fs else c) tag' V' W'
def jJ(h:zz tag i b W0 V0 c tag0 V W)(cb:Nat)(k:W0.cell? cb=some (.pointer b))(w:¬Dx i tag cb)
  (p:Dc) (v:Value) (H:(p,v)∈c.flight.zip V0.fts) (y:p.n<=zF) (z:p.at_<=zF) (h1:¬p.at_+6<=c.now) (h2:¬p.n+3<=c.largest) :
  Calls prog 79 #[.agg #[.int .u64 p.n,.int .u64 p.at_,v],(cb,0)] W (Kt tag i b W0 V0 c p):=by
 have f:c.late p=false:=by
  unfold CS.late;simp[h1,h2]
 unfold Kt;rw[f];simp only[BX,Be];have HH:=zb h;have A:=zm k;have J:AA (∀{c':CS} {tag':nH} {V':CV} {W':World},zz tag i b W0 V0 c' tag' V' W'->W'.cell? cb=some (.pointer b)):=zb (λr=>r.m.cell (a:=cb) w k);have HP:=zb H;obtain⟨B,d⟩:=nm p.n;obtain⟨C,e⟩:=nm p.at_;obtain⟨fs,D⟩:=nm p.fs;obtain⟨nw,q⟩:=nm c.now;obtain⟨lg,s⟩:=nm c.largest;rw[e,q]at h1;rw[d]at y;rw[e]at z;unfold zF at y z;rw[d,s]at h2;rw[d,e];have FT:=h.c.fs (p,v) (by rw[h.ft.2];exact H);obtain⟨l,hl,E,-,-⟩:=FT;simp only at hl E;rw[D]at hl;obtain⟨a,cap,rfl,Q,q2,-⟩:=E;have t:l.length=fs.length:=by rw[<-hl,BB]
 rw[t]at HP Q ⊢;have c3:W.cell? (b,3)=some (.int .u64 nw):=by rw[<-q];exact h.c.hd (j:=3) rfl
 have F:W.cell? (b,237)=some (.int .u64 lg):=by rw[<-s];exact h.c.tl (j:=4) rfl
 have G:=J.z h;obtain⟨W1,g⟩:=nm (W.alloc (.cells #[B,C,.slice a fs.length cap] 173));have m1:=AB g;have R1:=zb (h.mod0 m1);have o1:=AD g;obtain⟨K,u⟩:=nm W.heap.size;rw[u]at o1;have z0:=za (o:=0) o1 rfl;have z1:=za (o:=1) o1 rfl;have z2:W1.cell? (K,2)=some (.slice a fs.length cap):=za (o:=2) o1 rfl;have x3:=m1.cell (a:=⟨b,_,none⟩) id c3;have L:=m1.cell (a:=⟨b,_,none⟩) id F;have M:=m1.cell (a:=⟨cb,_,none⟩) id G;have N:=zb g;have O:=zb u;have HLL:=zb t;have d1:¬(C:Int)+6<=nw:=I;have y1:=wu ((C:Int)+6) I;have y2:=wu ((B:Int)+3) I;have d2:¬(B:Int)+3<=lg:=I;clear h H d e D q s h1 f m1 o1 c3 F G g u hl t Q q2 k w A h2;go_enter func79,ntmps79;go_upto_region 1 with fail;rw[N.z,O.z];refine zG ?_;refine zo 19 (λw'=>w'.cell? K=some (.int .u64 B)/\w'.cell? (U K 1)=some (.int .u64 C)/\w'.cell? cb=some (.pointer b)/\w'.cell? (U b 3)=some (.int .u64 nw)/\w'.cell? (U b 237)=some (.int .u64 lg)) (⟨z0,z1,M,x3,L⟩) ?_;refine GI 0 ?_;iterate 19
  refine GV rfl ?_;try simp only[PS]
 refine zr ?_;refine⟨rfl,?_⟩;go_wp2_with fail;go_ret;exact⟨rfl,tag0,V,R1.z.mod0 (DW.refl DY _).drew⟩
def jI(h:zz tag i b W0 V0 c tag0 V W)(cb:Nat)(z:W0.cell? cb=some (.pointer b))(L:¬Dx i tag cb)
  (p:Dc) (v:Value) (hp:(p,v)∈c.flight.zip V0.fts) (M:p.n<=zF) (N:p.at_<=zF) (A:∀k f,p.fs[k]?=some f->JX (c.agains (p.fs.take k)) f) (ah:p.fs.length<=1099511627776) (h1:p.at_+6<=c.now) :
  Calls prog 79 #[.agg #[.int .u64 p.n,.int .u64 p.at_,v],(cb,0)] W (Kt tag i b W0 V0 c p):=by
 have q:c.late p=true:=by
  unfold CS.late;simp[h1]
 unfold Kt;rw[q];simp only[BC];have HH:=zb h;have O:=zm z;have P:AA (∀{c':CS} {tag':nH} {V':CV} {W':World},zz tag i b W0 V0 c' tag' V' W'->W'.cell? cb=some (.pointer b)):=zb (λr=>r.m.cell (a:=cb) L z);have HP:=zb hp;obtain⟨pn,s⟩:=nm p.n;obtain⟨Q,d⟩:=nm p.at_;obtain⟨fs,t⟩:=nm p.fs;obtain⟨nw,B⟩:=nm c.now;obtain⟨lg,R⟩:=nm c.largest;rw[d,B]at h1;rw[s]at M;rw[d]at N;unfold zF at M N;rw[t]at A ah;rw[s,d,t];have FT:=h.c.fs (p,v) (by rw[h.ft.2];exact hp);obtain⟨l,hl,S,-,-⟩:=FT;simp only at hl S;rw[t]at hl;obtain⟨a,cap,rfl,q1,q2,-⟩:=S;have C:l.length=fs.length:=by rw[<-hl,BB]
 rw[C]at HP q1 ⊢;have c3:W.cell? (b,3)=some (.int .u64 nw):=by rw[<-B];exact h.c.hd (j:=3) rfl
 have T:W.cell? (b,237)=some (.int .u64 lg):=by rw[<-R];exact h.c.tl (j:=4) rfl
 have X:=P.z h;obtain⟨W1,w⟩:=nm (W.alloc (.cells #[pn,Q,.slice a fs.length cap] 173));have m1:=AB w;have R1:=zb (h.mod0 m1);have o1:=AD w;obtain⟨pb,D⟩:=nm W.heap.size;rw[D]at o1;have z0:=za (o:=0) o1 rfl;have z1:=za (o:=1) o1 rfl;have z2:W1.cell? (pb,2)=some (.slice a fs.length cap):=za (o:=2) o1 rfl;have x3:=m1.cell (a:=⟨b,_,none⟩) id c3;have Z:=m1.cell (a:=⟨b,_,none⟩) id T;have E:=m1.cell (a:=⟨cb,_,none⟩) id X;have ai:=zb w;have aj:=zb D;have HLL:=zb C;have ak:=zb A;have al:=zb t;have d1:(Q:Int)+6<=nw:=I;have y1:=wu ((Q:Int)+6) I;have y2:=wu ((pn:Int)+3) I;clear h hp s d t B R h1 q m1 o1 c3 T X w D hl C q1 q2 z L O A;go_enter func79,ntmps79;go_upto_region 1 with fail;rw[ai.z,aj.z];refine zG ?_;refine zo 19 (λw'=>w'.cell? pb=some (.int .u64 pn)/\w'.cell? (U pb 1)=some (.int .u64 Q)/\w'.cell? cb=some (.pointer b)/\w'.cell? (U b 3)=some (.int .u64 nw)/\w'.cell? (U b 237)=some (.int .u64 lg)) (⟨z0,z1,E,x3,Z⟩) ?_;refine GI 0 ?_;iterate 9
  refine GV rfl ?_;try simp only[PS]
 refine GI 9 ?_;iterate 8
  refine GU rfl (λ_ _ _ h=>nomatch h.1) ?_;try simp only[PS]
 refine GI 17 ?_;iterate 2
  refine GV rfl ?_;try simp only[PS]
 refine zr ?_;refine⟨rfl,?_⟩;go_wp2_with fail
 go_loopw [29] (λiv wr=>∃(k:Nat) (tag':nH) (V':CV),k<=fs.length/\iv=.int .i64 k/\AA (zz tag i b W0 V0 (c.agains (fs.take k)) tag' V' wr)) (λiv _=>fs.length-(intOf iv).toNat)
 case atStart=>exact⟨0,tag0,V,AM _,rfl,zb (R1.z.mod0 (DW.refl DY _).drew)⟩
 case round =>
  clear z0 z1 z2 x3 Z E R1;obtain⟨k,aa,V1,hk,rfl,HR⟩:=hrel;by_cases hlt:k<fs.length
  .obtain⟨l1,u,y,-,-⟩:=HR.z.c.fs (p,.slice a fs.length cap) (by rw[SG,HR.z.ft.2];exact HP.z);simp only at u y;rw[al.z]at u;obtain⟨a',ap,ab,_,_,h3⟩:=y;have ac:l1.length=fs.length:=by rw[<-u,BB]
   rw[ac]at ab;cases ab;obtain⟨⟨f,rv⟩,G⟩:∃fr,l1[k]?=some fr:=⟨l1[k],AK I⟩;have H:fs[k]?=some f:=by rw[<-u,Bc,G];rfl
   obtain⟨⟨g,o,rfl,hc⟩,J⟩:=h3 k (f,rv) G;simp only at hc J;obtain⟨ra,rc,rfl,_⟩:=id J;obtain⟨hc0,hc1,hc2,hc3,hc4,hc5,hc6,hc7,hc8,an⟩:=Jh hc;obtain⟨Y,K⟩:=nm (wr.alloc (.cells (zl f (.slice ra f.rngs.length rc)) 65));have mY:=AB K;have ad:zj Y wr.heap.size f (.slice ra f.rngs.length rc):=by rw[<-K];exact heap_alloc_new wr _
   obtain⟨y0,y1,y2,y3,y4,y5,y6,y7,y8,y9⟩:=ad.cells;have ka:=VG (HR.z.mod0 mY) f (.slice ra f.rngs.length rc) (ak.z k f H) ⟨_,_,_,rfl⟩;have HT:=zb (WT (c:=c) H);rw[<-HT.z]at ka;have E:=P.z (HR.z.mod0 mY);obtain⟨RL,ae⟩:=nm f.rngs.length;rw[ae]at an K y9 ka;unfold zl at K ka;have KA:=zb ka;clear h3 G hc J mY ad ka H u ae;go_upto_region 6 with fail;try rw[K]
   clear K;go_wp2_with fail;refine(KA.z).mono ?_;rintro e w6 ⟨rfl,af,V6,r6⟩;have R6:=zb r6;clear r6;go_wp2_with fail;go_roundw
   case rel=>exact⟨k+1,af,V6,I,by go_num,R6⟩
   simp[intOf];omega
  have hk2:fs.length=k:=I;have ao:=zb (by have:=HR.z;rwa [Aa I]at this);go_wp2_with fail;go_ret;exact⟨rfl,aa,V1,ao.z⟩
def jH(h:zz tag i b W0 V0 c tag0 V W)(cb:Nat)(z:W0.cell? cb=some (.pointer b))(L:¬Dx i tag cb)
  (p:Dc) (v:Value) (hp:(p,v)∈c.flight.zip V0.fts) (M:p.n<=zF) (N:p.at_<=zF) (A:∀k f,p.fs[k]?=some f->JX (c.agains (p.fs.take k)) f) (ah:p.fs.length<=1099511627776) (h1:¬p.at_+6<=c.now) (h2:p.n+3<=c.largest) :
  Calls prog 79 #[.agg #[.int .u64 p.n,.int .u64 p.at_,v],(cb,0)] W (Kt tag i b W0 V0 c p):=by
 have s:c.late p=true:=by
  unfold CS.late;simp[h1,h2]
 unfold Kt;rw[s];simp only[BC];have HH:=zb h;have O:=zm z;have P:AA (∀{c':CS} {tag':nH} {V':CV} {W':World},zz tag i b W0 V0 c' tag' V' W'->W'.cell? cb=some (.pointer b)):=zb (λr=>r.m.cell (a:=cb) L z);have HP:=zb hp;obtain⟨Q,d⟩:=nm p.n;obtain⟨R,q⟩:=nm p.at_;obtain⟨fs,t⟩:=nm p.fs;obtain⟨nw,B⟩:=nm c.now;obtain⟨lg,C⟩:=nm c.largest;rw[q,B]at h1;rw[d]at M;rw[q]at N;unfold zF at M N;rw[d,C]at h2;rw[t]at A ah;rw[d,q,t];have FT:=h.c.fs (p,v) (by rw[h.ft.2];exact hp);obtain⟨l,hl,S,-,-⟩:=FT;simp only at hl S;rw[t]at hl;obtain⟨a,cap,rfl,q1,q2,-⟩:=S;have D:l.length=fs.length:=by rw[<-hl,BB]
 rw[D]at HP q1 ⊢;have c3:W.cell? (b,3)=some (.int .u64 nw):=by rw[<-B];exact h.c.hd (j:=3) rfl
 have T:W.cell? (b,237)=some (.int .u64 lg):=by rw[<-C];exact h.c.tl (j:=4) rfl
 have X:=P.z h;obtain⟨W1,w⟩:=nm (W.alloc (.cells #[Q,R,.slice a fs.length cap] 173));have m1:=AB w;have R1:=zb (h.mod0 m1);have o1:=AD w;obtain⟨pb,E⟩:=nm W.heap.size;rw[E]at o1;have z0:=za (o:=0) o1 rfl;have z1:=za (o:=1) o1 rfl;have z2:W1.cell? (pb,2)=some (.slice a fs.length cap):=za (o:=2) o1 rfl;have x3:=m1.cell (a:=⟨b,_,none⟩) id c3;have Z:=m1.cell (a:=⟨b,_,none⟩) id T;have F:=m1.cell (a:=⟨cb,_,none⟩) id X;have ai:=zb w;have aj:=zb E;have HLL:=zb D;have ak:=zb A;have al:=zb t;have d1:¬(R:Int)+6<=nw:=I;have y1:=wu ((R:Int)+6) I;have y2:=wu ((Q:Int)+3) I;have d2:(Q:Int)+3<=lg:=I;clear h hp d q t B C h1 s m1 o1 c3 T X w E hl D q1 q2 z L O h2 A;go_enter func79,ntmps79;go_upto_region 1 with fail;rw[ai.z,aj.z];refine zG ?_;refine zo 19 (λw'=>w'.cell? pb=some (.int .u64 Q)/\w'.cell? (U pb 1)=some (.int .u64 R)/\w'.cell? cb=some (.pointer b)/\w'.cell? (U b 3)=some (.int .u64 nw)/\w'.cell? (U b 237)=some (.int .u64 lg)) (⟨z0,z1,F,x3,Z⟩) ?_;refine GI 0 ?_;iterate 19
  refine GV rfl ?_;try simp only[PS]
 refine zr ?_;refine⟨rfl,?_⟩;go_wp2_with fail
 go_loopw [29] (λiv wr=>∃(k:Nat) (tag':nH) (V':CV),k<=fs.length/\iv=.int .i64 k/\AA (zz tag i b W0 V0 (c.agains (fs.take k)) tag' V' wr)) (λiv _=>fs.length-(intOf iv).toNat)
 case atStart=>exact⟨0,tag0,V,AM _,rfl,zb (R1.z.mod0 (DW.refl DY _).drew)⟩
 case round =>
  clear z0 z1 z2 x3 Z F R1;obtain⟨k,aa,V1,hk,rfl,HR⟩:=hrel;by_cases hlt:k<fs.length
  .obtain⟨l1,u,y,-,-⟩:=HR.z.c.fs (p,.slice a fs.length cap) (by rw[SG,HR.z.ft.2];exact HP.z);simp only at u y;rw[al.z]at u;obtain⟨a',ap,ab,_,_,h3⟩:=y;have ac:l1.length=fs.length:=by rw[<-u,BB]
   rw[ac]at ab;cases ab;obtain⟨⟨f,rv⟩,G⟩:∃fr,l1[k]?=some fr:=⟨l1[k],AK I⟩;have H:fs[k]?=some f:=by rw[<-u,Bc,G];rfl
   obtain⟨⟨g,o,rfl,hc⟩,J⟩:=h3 k (f,rv) G;simp only at hc J;obtain⟨ra,rc,rfl,_⟩:=id J;obtain⟨hc0,hc1,hc2,hc3,hc4,hc5,hc6,hc7,hc8,an⟩:=Jh hc;obtain⟨Y,K⟩:=nm (wr.alloc (.cells (zl f (.slice ra f.rngs.length rc)) 65));have mY:=AB K;have ad:zj Y wr.heap.size f (.slice ra f.rngs.length rc):=by rw[<-K];exact heap_alloc_new wr _
   obtain⟨y0,y1,y2,y3,y4,y5,y6,y7,y8,y9⟩:=ad.cells;have ka:=VG (HR.z.mod0 mY) f (.slice ra f.rngs.length rc) (ak.z k f H) ⟨_,_,_,rfl⟩;have HT:=zb (WT (c:=c) H);rw[<-HT.z]at ka;have F:=P.z (HR.z.mod0 mY);obtain⟨RL,ae⟩:=nm f.rngs.length;rw[ae]at an K y9 ka;unfold zl at K ka;have KA:=zb ka;clear h3 G hc J mY ad ka H u ae;go_upto_region 6 with fail;try rw[K]
   clear K;go_wp2_with fail;refine(KA.z).mono ?_;rintro e w6 ⟨rfl,af,V6,r6⟩;have R6:=zb r6;clear r6;go_wp2_with fail;go_roundw
   case rel=>exact⟨k+1,af,V6,I,by go_num,R6⟩
   simp[intOf];omega
  have hk2:fs.length=k:=I;have ao:=zb (by have:=HR.z;rwa [Aa I]at this);go_wp2_with fail;go_ret;exact⟨rfl,aa,V1,ao.z⟩
def gM(h:zz tag i b W0 V0 c tag0 V W)(cb:Nat)(a:W0.cell? cb=some (.pointer b))(d:¬Dx i tag cb)
  (p:Dc) (v:Value) (m:(p,v)∈c.flight.zip V0.fts) (e:p.n<=zF) (g:p.at_<=zF) (j:c.late p=true->∀k f,p.fs[k]?=some f->JX (c.agains (p.fs.take k)) f) (l:p.fs.length<=1099511627776) :
  Calls prog 79 #[.agg #[.int .u64 p.n,.int .u64 p.at_,v],(cb,0)] W (Kt tag i b W0 V0 c p):=by
 by_cases h1:p.at_+6<=c.now
 .exact jI h cb a d p v m e g (j (by simp[CS.late,h1])) l h1
 by_cases h2:p.n+3<=c.largest
 .exact jH h cb a d p v m e g (j (by simp[CS.late,h2])) l h1 h2
 exact jJ h cb a d p v m e g h1 h2
structure MD(J:Nat->List (Dc×Value)->World->Prop)(N g:Nat):Prop where
 box:∀k R w w',J k R w->DW DY w w'->J k R w'
 len:∀k R w,J k R w->R.length=N
 rd:∀k R w,J k R w->∀(j:Nat) (x:Dc×Value),R[j]?=some x->w.cell? (g,j*3)=some (.int .u64 x.1.n)/\w.cell? (g,j*3+1)=some (.int .u64 x.1.at_)/\w.cell? (g,j*3+2)=some x.2
def Sg(J:Nat->List (Dc×Value)->World->Prop)(del:Dc->Bool)(L:List (Dc×Value))(e:Ending)(w':World):Prop :=
 (∃k:Nat,e=.returned (.int .i64 k)/\k<L.length/\(∀x∈L.take k,del x.1=false)/\(∀x,L[k]?=some x->del x.1=true)/\J (k+1) L w') \/
 (e=.returned (.int .i64 (-1))/\(∀x∈L,del x.1=false)/\J L.length L w')
theorem jG(J:Nat->List (Dc×Value)->World->Prop)(del:Dc->Bool)(L:List (Dc×Value))(N g cap cb:Nat)(a:nI)(t:L.length=N)(hNb:N<=1099511627776)(u:0<N->a=some ⟨g,0,none⟩)(y:MD J N g)
  (b:∀k w x,J k L w->L[k]?=some x->Calls prog 79 #[.agg #[.int .u64 x.1.n,.int .u64 x.1.at_,x.2],(cb,0)] w (λe w'=>e=.returned (.bool (del x.1))/\J (k+1) L w'))
  (w:World) (h0:J 0 L w) :
  Calls prog 139 #[.slice a N cap,.func (.func 79) #[] #[.pointer cb]] w (Sg J del L):=by
 have HJ:=zb y;have HC:=zb b;have H0:=zb h0;have HA:=zb u;have h:=zb t;clear y b h0 u t;go_enter func139,ntmps139;go_wp2_with fail
 go_loopw [8] (λm wr=>∃k:Nat,k<=N/\m=.int .i64 k/\AA (J k L wr/\∀x∈L.take k,del x.1=false)) (λm _=>N-(intOf m).toNat)
 case atStart=>exact⟨0,AM _,rfl,zb ⟨H0.z,λx hx=>by simp at hx⟩⟩
 case round =>
  obtain⟨k,hk,rfl,f⟩:=hrel;by_cases c:k<N
  .obtain⟨x,hx⟩:∃x,L[k]?=some x:=⟨L[k]'(by rw[h.z];exact c),AK (by rw[h.z];exact c)⟩;obtain⟨x0,x1,x2⟩:=HJ.z.rd k L wr f.z.1 k x hx;have o:=HA.z I;subst o;have l:=HC.z k wr x f.z.1 hx;have z:=zb hx;obtain⟨⟨fn,p,q⟩,v⟩:=x;simp only at x0 x1 x2 l;obtain⟨dv,d⟩:=nm (del ⟨fn,p,q⟩);rw[d]at l;have i:=zb d;have A:=zb l;clear l hx d;cases dv with
   | true =>
    go_wp2_with (go_at_call 79;with_reducible refine(A.z).mono ?_;rintro e w6 ⟨rfl,j⟩;have r:=zb j;clear j);go_ret;exact .inl ⟨k,rfl,by rw[h.z];exact c,f.z.2,λx hx=>by rw[z.z]at hx;cases hx;exact i.z,r.z⟩
   | false =>
    go_wp2_with (go_at_call 79;with_reducible refine(A.z).mono ?_;rintro e w6 ⟨rfl,j⟩;have r:=zb j;clear j);go_roundw
    case rel =>
     refine⟨k+1,I,by go_num,zb ⟨r.z,λx hx=>?_⟩⟩;rw[BG,z.z]at hx;rcases Al.1 hx with hx|hx
     .exact f.z.2 x hx
     simp at hx;subst hx;exact i.z
    simp[intOf];omega
  have s:k=N:=I;go_wp2_with fail;go_ret;exact .inr ⟨rfl,λx hx=>f.z.2 x (by rwa [Aa (by rw[h.z];omega)]),by rw[h.z,<-s];exact f.z.1⟩
theorem kR(J:Nat->List (Dc×Value)->World->Prop)(del:Dc->Bool)(L:List (Dc×Value))(N g cap lb cb:Nat)(a:nI)(t:L.length=N)(hNb:N<=1099511627776)(u:0<N->a=some ⟨g,0,none⟩)(y:MD J N g)
  (b:∀k w x,J k L w->L[k]?=some x->Calls prog 205 #[.agg #[.int .u64 x.1.n,.int .u64 x.1.at_,x.2],(lb,0),(cb,0)] w (λe w'=>e=.returned (.bool (del x.1))/\J (k+1) L w'))
  (w:World) (h0:J 0 L w) :
  Calls prog 139 #[.slice a N cap,.func (.func 205) #[] #[.pointer lb,.pointer cb]] w (Sg J del L):=by
 have HJ:=zb y;have HC:=zb b;have H0:=zb h0;have HA:=zb u;have h:=zb t;clear y b h0 u t;go_enter func139,ntmps139;go_wp2_with fail
 go_loopw [8] (λm wr=>∃k:Nat,k<=N/\m=.int .i64 k/\AA (J k L wr/\∀x∈L.take k,del x.1=false)) (λm _=>N-(intOf m).toNat)
 case atStart=>exact⟨0,AM _,rfl,zb ⟨H0.z,λx hx=>by simp at hx⟩⟩
 case round =>
  obtain⟨k,hk,rfl,f⟩:=hrel;by_cases c:k<N
  .obtain⟨x,hx⟩:∃x,L[k]?=some x:=⟨L[k]'(by rw[h.z];exact c),AK (by rw[h.z];exact c)⟩;obtain⟨x0,x1,x2⟩:=HJ.z.rd k L wr f.z.1 k x hx;have o:=HA.z I;subst o;have l:=HC.z k wr x f.z.1 hx;have z:=zb hx;obtain⟨⟨fn,p,q⟩,v⟩:=x;simp only at x0 x1 x2 l;obtain⟨dv,d⟩:=nm (del ⟨fn,p,q⟩);rw[d]at l;have i:=zb d;have A:=zb l;clear l hx d;cases dv with
   | true =>
    go_wp2_with (go_at_call 205;with_reducible refine(A.z).mono ?_;rintro e w6 ⟨rfl,j⟩;have r:=zb j;clear j);go_ret;exact .inl ⟨k,rfl,by rw[h.z];exact c,f.z.2,λx hx=>by rw[z.z]at hx;cases hx;exact i.z,r.z⟩
   | false =>
    go_wp2_with (go_at_call 205;with_reducible refine(A.z).mono ?_;rintro e w6 ⟨rfl,j⟩;have r:=zb j;clear j);go_roundw
    case rel =>
     refine⟨k+1,I,by go_num,zb ⟨r.z,λx hx=>?_⟩⟩;rw[BG,z.z]at hx;rcases Al.1 hx with hx|hx
     .exact f.z.2 x hx
     simp at hx;subst hx;exact i.z
    simp[intOf];omega
  have s:k=N:=I;go_wp2_with fail;go_ret;exact .inr ⟨rfl,λx hx=>f.z.2 x (by rwa [Aa (by rw[h.z];omega)]),by rw[h.z,<-s];exact f.z.1⟩
structure JL(J:Nat->List (Dc×Value)->World->Prop)(N g cap:Nat):Prop where
 obj:∀k R w,0<N->J k R w->∃cur,w.heap[g]?=some (.cells cur 173 (0,0))
 sl:∀k R w (x:Dc×Value),J k R w->x∈R->∃a n c,x.2=.slice a n c
 st:∀k R w (i:Nat) (x:Dc×Value),J k R w->i<N->x∈R->J k (R.set i x) (((w.setCell (g,i*3) (.int .u64 x.1.n)).setCell (g,i*3+1) (.int .u64 x.1.at_)).setCell (g,i*3+2) x.2)
 cl:∀k R w (i:Nat),J k R w->i<N->∃w2 R2,(∀ty,(Builtin.clear_ #[123] ty #[.slice (g,i*3) (N-i) (cap-i)]).run prog w=.ok (.tuple #[]) w2)/\J k R2 w2/\R2.take i=R.take i
def Oi(J:Nat->List (Dc×Value)->World->Prop)(del:Dc->Bool)(L:List (Dc×Value))(a:nI)(cap:Nat)(e:Ending)(w':World):Prop :=
 ∃(i:Nat) (R:List (Dc×Value)),e=.returned (.slice a i cap)/\i<=L.length/\J L.length R w'/\R.take i=L.filter (λx => !del x.1)
def Pg{del:Dc->Bool}{l:List (Dc×Value)}(h:∀x∈l,del x.1=false):l.filter (λx => !del x.1)=l :=
 CQ.2 (λx hx=>by rw[h x hx];rfl)
def Rt{α : Type}{l:List α}{x : α}(h:i<l.length):(l.set i x).take (i+1)=l.take i++[x]:=by
 rw[BG,List.take_set_of_le I,List.getElem?_set_self h];rfl
variable{j:Nat}
def Rs{α : Type}{l:List α}{x : α}(h:i<j):(l.set i x).drop j=l.drop j:=by
 rw[List.drop_set,AQ h]
theorem kQ(J:Nat->List (Dc×Value)->World->Prop)(del:Dc->Bool)(L:List (Dc×Value))(N g cap cb:Nat)(a:nI)(hN:L.length=N)(aa:N<=1099511627776)(al:N<=cap)(ab:cap<=maxLen)(ha:0<N->a=some ⟨g,0,none⟩)(hJ:MD J N g)(hK:JL J N g cap)
  (d:∀k w x,J k L w->L[k]?=some x->Calls prog 79 #[.agg #[.int .u64 x.1.n,.int .u64 x.1.at_,x.2],(cb,0)] w (λe w'=>e=.returned (.bool (del x.1))/\J (k+1) L w'))
  (b:∀k R w o x,J k R w->R[k]?=some x->L[k]?=some x->Calls prog 79 #[.agg #[.int .u64 x.1.n,.int .u64 x.1.at_,x.2],(cb,0)] (w.alloc o) (λe w'=>e=.returned (.bool (del x.1))/\J (k+1) R w'/\w'.heap[w.heap.size]?=(w.alloc o).heap[w.heap.size]?))
  (w:World) (h0:J 0 L w) :
  Calls prog 78 #[.slice a N cap,.func (.func 79) #[] #[.pointer cb]] w (Oi J del L a cap):=by
 have ki:=jG J del L N g cap cb a hN aa ha hJ d w h0;unfold maxLen at ab;have V:=zb hJ;have G:=zb hK;have HC:=zb b;have HA:=zb ha;have W:=zb hN;have KI:=zb ki;clear hJ hK d b h0 ha hN ki;go_enter func78,ntmps78;go_wp2_with fail;refine(KI.z).mono ?_;clear KI;rintro e w1 (⟨k,rfl,y,f,h,H⟩|⟨rfl,f,h⟩)
 .have ac:k<N:=by rw[<-W.z];exact y
  have ad:=HA.z I;subst ad;have r:=zb H;have K:AA (L.take k=(L.take (k+1)).filter (λx => !del x.1)):=zb (by
   obtain⟨x,hx⟩:∃x,L[k]?=some x:=⟨L[k],AK y⟩;rw[BG,hx,Bz,Pg f];simp[h x hx])
  have d1:((k:Int) == -1)=false:=by rw[AS];omega
  clear y f h H;go_wp2_with fail
  go_loopw [5,6] (λiv jv wr=>∃(i j:Nat) (R:List (Dc×Value)),iv=.int .i64 i/\jv=.int .i64 j/\i<j/\j<=N/\AA (J j R wr/\R.take i=(L.take j).filter (λx => !del x.1)/\R.drop j=L.drop j)) (λ_ jv _=>N-(intOf jv).toNat)
  case atStart=>exact⟨k,k+1,L,rfl,by go_num,I,I,zb ⟨r.z,K.z,rfl⟩⟩
  case round =>
   clear r K d1 ac;obtain⟨i,j,R,rfl,rfl,ae,hj,q⟩:=hrel;have M:=V.z.len j R wr q.z.1;by_cases hlt:j<N
   .obtain⟨x,hx⟩:∃x,R[j]?=some x:=⟨R[j]' I,AK I⟩;have z:L[j]?=some x:=by
     have h1:=A8 (λl=>l[0]?) q.z.2.2;simp only[BD,B7]at h1;rw[<-h1];exact hx
    obtain⟨x0,x1,x2⟩:=V.z.rd j R wr q.z.1 j x hx;obtain⟨Y,X⟩:=nm (wr.alloc (.cells #[x.1.n,x.1.at_,x.2] 173));have D:=HC.z j R wr (.cells #[x.1.n,x.1.at_,x.2] 173) x q.z.1 hx z;have E:(wr.alloc (.cells #[x.1.n,x.1.at_,x.2] 173)).heap[wr.heap.size]?=some (.cells #[x.1.n,x.1.at_,x.2] 173 (0,0)):=heap_alloc_new wr _;rw[E]at D;rw[X]at D E;have y0:Y.cell? wr.heap.size=some (.int .u64 x.1.n):=za E rfl;have y1:Y.cell? (wr.heap.size,1)=some (.int .u64 x.1.at_):=za E rfl;have y2:Y.cell? (wr.heap.size,2)=some x.2:=za E rfl;have HX:=zb (And.intro hx z);obtain⟨Z,vn,vc,hv⟩:=G.z.sl _ _ _ x q.z.1 (AV hx);obtain⟨⟨fn,m,s⟩,v⟩:=x;simp only at hv;subst hv;simp only at x0 x1 x2 D y0 y1 y2 X;obtain⟨dv,A⟩:=nm (del ⟨fn,m,s⟩);rw[A]at D;have af:=zb A;have KC:=zb D;have B:=zb M;obtain⟨yb,C⟩:=nm wr.heap.size;rw[C]at y0 y1 y2 KC;clear D hx z A E M;go_upto_region 8 with fail;try rw[X]
    try rw[C]
    clear X C;go_wp2_with fail;refine(KC.z).mono ?_;rintro e u ⟨rfl,F,o6⟩;have z0:u.cell? yb=some (.int .u64 fn):=za o6 rfl;have z1:u.cell? (yb,1)=some (.int .u64 m):=za o6 rfl;have z2:u.cell? (yb,2)=some (.slice Z vn vc):=za o6 rfl;have J6:=zb F;have t:i<N:=I;have O:AA ((L.take (j+1)).filter (λx => !del x.1)=(L.take j).filter (λx => !del x.1)++(if dv then []else [(⟨fn,m,s⟩,.slice Z vn vc)])):=zb (by
     rw[BG,HX.z.2,Bz];congr 1;have:=af.z;cases dv<;>simp[this])
    have P:=zb (by
     have h1:=A8 (List.drop 1) q.z.2.2;simpa [Cc]using h1)
    clear KC y0 y1 y2 x0 x1 x2 o6;cases dv with
    | true =>
     clear F;go_wp2_with fail;go_roundw
     case rel=>exact⟨i,j+1,R,rfl,by go_num,I,I,zb ⟨J6.z,by rw[O.z,q.z.2.1];simp,P.z⟩⟩
     simp[intOf];omega
    | false =>
     obtain⟨cur,c⟩:=G.z.obj _ _ _ I F;obtain⟨xi,Q⟩:∃xi,R[i]?=some xi:=⟨R[i]'(by rw[B.z];exact t),AK (by rw[B.z];exact t)⟩;obtain⟨w0,w1',w2'⟩:=V.z.rd _ R u F i xi Q;have f1:∀p,u.frozen? ⟨g,p,none⟩=false:=λp=>zg c
     have f2:∀p1 v1 p,(u.setCell ⟨g,p1,none⟩ v1).frozen? ⟨g,p,none⟩=false:=λp1 v1 p=>zg (zc c)
     have f3:∀p1 v1 p2 v2 p,((u.setCell ⟨g,p1,none⟩ v1).setCell ⟨g,p2,none⟩ v2).frozen? ⟨g,p,none⟩=false:=λp1 v1 p2 v2 p=>zg (zc (zc c))
     have J7:=zb (G.z.st _ R u i (⟨fn,m,s⟩,.slice Z vn vc) F t (AV HX.z.1));clear F c Q;go_wp2_with fail;go_roundw
     case rel =>
      refine⟨i+1,j+1,R.set i (⟨fn,m,s⟩,.slice Z vn vc),by go_num,by go_num,I,I,zb ⟨J7.z,?_,?_⟩⟩
      .rw[Rt (by rw[B.z];exact t),O.z,q.z.2.1];rfl
      rw[Rs I,P.z]
     simp[intOf];omega
   have ah:j=N:=I;subst ah;obtain⟨w2,R2,kcl,j2,t2⟩:=G.z.cl j R wr i q.z.1 ae;have ai:=zb j2;have aj:=zb t2;have e1:¬cap=i:=I;have d1:i<=cap:=I;clear j2 t2;have HL:=W.z;have S:R2.take i=L.filter (λx => !del x.1):=by
    rw[aj.z,q.z.2.1,Aa I]
   have ak:=zb S;have T:=zb HL;clear HL S;go_wp2_with fail;go_ret;exact⟨i,R2,rfl,by rw[T.z];omega,by rw[T.z];exact ai.z,ak.z⟩
 clear HC V G;have r:=zb h;have HF:=zb (Pg f);clear f h;go_wp2_with fail;go_ret;exact⟨N,L,rfl,by rw[W.z];exact AF _,r.z,by rw[HF.z,<-W.z,Aa (AF _)]⟩
theorem lh(J:Nat->List (Dc×Value)->World->Prop)(del:Dc->Bool)(L:List (Dc×Value))(N g cap lb cb:Nat)(a:nI)(hN:L.length=N)(aa:N<=1099511627776)(al:N<=cap)(ab:cap<=maxLen)(ha:0<N->a=some ⟨g,0,none⟩)(hJ:MD J N g)(hK:JL J N g cap)
  (d:∀k w x,J k L w->L[k]?=some x->Calls prog 205 #[.agg #[.int .u64 x.1.n,.int .u64 x.1.at_,x.2],(lb,0),(cb,0)] w (λe w'=>e=.returned (.bool (del x.1))/\J (k+1) L w'))
  (b:∀k R w o x,J k R w->R[k]?=some x->L[k]?=some x->Calls prog 205 #[.agg #[.int .u64 x.1.n,.int .u64 x.1.at_,x.2],(lb,0),(cb,0)] (w.alloc o) (λe w'=>e=.returned (.bool (del x.1))/\J (k+1) R w'/\w'.heap[w.heap.size]?=(w.alloc o).heap[w.heap.size]?))
  (w:World) (h0:J 0 L w) :
  Calls prog 78 #[.slice a N cap,.func (.func 205) #[] #[.pointer lb,.pointer cb]] w (Oi J del L a cap):=by
 have ki:=kR J del L N g cap lb cb a hN aa ha hJ d w h0;unfold maxLen at ab;have V:=zb hJ;have G:=zb hK;have HC:=zb b;have HA:=zb ha;have W:=zb hN;have KI:=zb ki;clear hJ hK d b h0 ha hN ki;go_enter func78,ntmps78;go_wp2_with fail;refine(KI.z).mono ?_;clear KI;rintro e w1 (⟨k,rfl,y,f,h,H⟩|⟨rfl,f,h⟩)
 .have ac:k<N:=by rw[<-W.z];exact y
  have ad:=HA.z I;subst ad;have r:=zb H;have K:AA (L.take k=(L.take (k+1)).filter (λx => !del x.1)):=zb (by
   obtain⟨x,hx⟩:∃x,L[k]?=some x:=⟨L[k],AK y⟩;rw[BG,hx,Bz,Pg f];simp[h x hx])
  have d1:((k:Int) == -1)=false:=by rw[AS];omega
  clear y f h H;go_wp2_with fail
  go_loopw [5,6] (λiv jv wr=>∃(i j:Nat) (R:List (Dc×Value)),iv=.int .i64 i/\jv=.int .i64 j/\i<j/\j<=N/\AA (J j R wr/\R.take i=(L.take j).filter (λx => !del x.1)/\R.drop j=L.drop j)) (λ_ jv _=>N-(intOf jv).toNat)
  case atStart=>exact⟨k,k+1,L,rfl,by go_num,I,I,zb ⟨r.z,K.z,rfl⟩⟩
  case round =>
   clear r K d1 ac;obtain⟨i,j,R,rfl,rfl,ae,hj,q⟩:=hrel;have M:=V.z.len j R wr q.z.1;by_cases hlt:j<N
   .obtain⟨x,hx⟩:∃x,R[j]?=some x:=⟨R[j]' I,AK I⟩;have z:L[j]?=some x:=by
     have h1:=A8 (λl=>l[0]?) q.z.2.2;simp only[BD,B7]at h1;rw[<-h1];exact hx
    obtain⟨x0,x1,x2⟩:=V.z.rd j R wr q.z.1 j x hx;obtain⟨Y,X⟩:=nm (wr.alloc (.cells #[x.1.n,x.1.at_,x.2] 173));have D:=HC.z j R wr (.cells #[x.1.n,x.1.at_,x.2] 173) x q.z.1 hx z;have E:(wr.alloc (.cells #[x.1.n,x.1.at_,x.2] 173)).heap[wr.heap.size]?=some (.cells #[x.1.n,x.1.at_,x.2] 173 (0,0)):=heap_alloc_new wr _;rw[E]at D;rw[X]at D E;have y0:Y.cell? wr.heap.size=some (.int .u64 x.1.n):=za E rfl;have y1:Y.cell? (wr.heap.size,1)=some (.int .u64 x.1.at_):=za E rfl;have y2:Y.cell? (wr.heap.size,2)=some x.2:=za E rfl;have HX:=zb (And.intro hx z);obtain⟨Z,vn,vc,hv⟩:=G.z.sl _ _ _ x q.z.1 (AV hx);obtain⟨⟨fn,m,s⟩,v⟩:=x;simp only at hv;subst hv;simp only at x0 x1 x2 D y0 y1 y2 X;obtain⟨dv,A⟩:=nm (del ⟨fn,m,s⟩);rw[A]at D;have af:=zb A;have KC:=zb D;have B:=zb M;obtain⟨yb,C⟩:=nm wr.heap.size;rw[C]at y0 y1 y2 KC;clear D hx z A E M;go_upto_region 8 with fail;try rw[X]
    try rw[C]
    clear X C;go_wp2_with fail;refine(KC.z).mono ?_;rintro e u ⟨rfl,F,o6⟩;have z0:u.cell? yb=some (.int .u64 fn):=za o6 rfl;have z1:u.cell? (yb,1)=some (.int .u64 m):=za o6 rfl;have z2:u.cell? (yb,2)=some (.slice Z vn vc):=za o6 rfl;have J6:=zb F;have t:i<N:=I;have O:AA ((L.take (j+1)).filter (λx => !del x.1)=(L.take j).filter (λx => !del x.1)++(if dv then []else [(⟨fn,m,s⟩,.slice Z vn vc)])):=zb (by
     rw[BG,HX.z.2,Bz];congr 1;have:=af.z;cases dv<;>simp[this])
    have P:=zb (by
     have h1:=A8 (List.drop 1) q.z.2.2;simpa [Cc]using h1)
    clear KC y0 y1 y2 x0 x1 x2 o6;cases dv with
    | true =>
     clear F;go_wp2_with fail;go_roundw
     case rel=>exact⟨i,j+1,R,rfl,by go_num,I,I,zb ⟨J6.z,by rw[O.z,q.z.2.1];simp,P.z⟩⟩
     simp[intOf];omega
    | false =>
     obtain⟨cur,c⟩:=G.z.obj _ _ _ I F;obtain⟨xi,Q⟩:∃xi,R[i]?=some xi:=⟨R[i]'(by rw[B.z];exact t),AK (by rw[B.z];exact t)⟩;obtain⟨w0,w1',w2'⟩:=V.z.rd _ R u F i xi Q;have f1:∀p,u.frozen? ⟨g,p,none⟩=false:=λp=>zg c
     have f2:∀p1 v1 p,(u.setCell ⟨g,p1,none⟩ v1).frozen? ⟨g,p,none⟩=false:=λp1 v1 p=>zg (zc c)
     have f3:∀p1 v1 p2 v2 p,((u.setCell ⟨g,p1,none⟩ v1).setCell ⟨g,p2,none⟩ v2).frozen? ⟨g,p,none⟩=false:=λp1 v1 p2 v2 p=>zg (zc (zc c))
     have J7:=zb (G.z.st _ R u i (⟨fn,m,s⟩,.slice Z vn vc) F t (AV HX.z.1));clear F c Q;go_wp2_with fail;go_roundw
     case rel =>
      refine⟨i+1,j+1,R.set i (⟨fn,m,s⟩,.slice Z vn vc),by go_num,by go_num,I,I,zb ⟨J7.z,?_,?_⟩⟩
      .rw[Rt (by rw[B.z];exact t),O.z,q.z.2.1];rfl
      rw[Rs I,P.z]
     simp[intOf];omega
   have ah:j=N:=I;subst ah;obtain⟨w2,R2,kcl,j2,t2⟩:=G.z.cl j R wr i q.z.1 ae;have ai:=zb j2;have aj:=zb t2;have e1:¬cap=i:=I;have d1:i<=cap:=I;clear j2 t2;have HL:=W.z;have S:R2.take i=L.filter (λx => !del x.1):=by
    rw[aj.z,q.z.2.1,Aa I]
   have ak:=zb S;have T:=zb HL;clear HL S;go_wp2_with fail;go_ret;exact⟨i,R2,rfl,by rw[T.z];omega,by rw[T.z];exact ai.z,ak.z⟩
 clear HC V G;have r:=zb h;have HF:=zb (Pg f);clear f h;go_wp2_with fail;go_ret;exact⟨N,L,rfl,by rw[W.z];exact AF _,r.z,by rw[HF.z,<-W.z,Aa (AF _)]⟩
def zz.refl(h:zz tag i b W0 V0 c tag' V' W'):zz tag' i b W' V' c tag' V' W' :=
 ⟨h.c,Dn.same h.e.z (DW.refl DY W'),DW.refl _ _,h.p,⟨rfl,rfl⟩⟩
variable{W2:World}{c2:CS}
def zz.trans{V1:CV}{tag2:nH}{a:CV}(h:zz tag i b W0 V0 c tag' V' W')(k:zz tag' i b W' V1 c2 tag2 a W2):zz tag i b W0 a c2 tag2 a W2 :=
 ⟨k.c,h.e.trans k.e h.m.size,Ew h.e h.m k.m,h.p,⟨rfl,rfl⟩⟩
theorem GF{α β : Type}:∀(l:List (α × β)),(l.map (·.1)).zip (l.map (·.2))=l
 | []=>rfl
 | x::l=>by simp[GF l]
def K0(x:Dc×Value)(l:List (Dc×Value)):zy (x::l)=(.int .u64 x.1.n)::(.int .u64 x.1.at_)::x.2::zy l:=rfl
theorem TT:∀(R:List (Dc×Value)) (i:Nat) (x:Dc×Value),i<R.length->zy (R.set i x)=(((zy R).set (i*3) (.int .u64 x.1.n)).set (i*3+1) (.int .u64 x.1.at_)).set (i*3+2) x.2
 | [],_,_,h=>by simp at h
 | y::R,0,x,_=>by simp[K0]
 | y::R,i+1,x,h=>by
  have ih:=TT R i x (nF h);rw[CT,K0,K0,ih,(I:(i+1)*3=i*3+3)];simp[CT]
theorem TS:∀(R:List (Dc×Value)) (j:Nat) (x:Dc×Value),R[j]?=some x->(zy R)[j*3]?=some (.int .u64 x.1.n)/\(zy R)[j*3+1]?=some (.int .u64 x.1.at_)/\(zy R)[j*3+2]?=some x.2
 | [],j,x,h=>by simp at h
 | y::R,0,x,h=>by
  simp at h;subst h;simp[K0]
 | y::R,j+1,x,h=>by
  have ih:=TS R j x (nF h);rw[K0,(I:(j+1)*3=j*3+3)];simpa using ih
theorem JI(R:List (Dc×Value)):(zy R).length=R.length*3:=by
 induction R with
 | nil=>rfl
 | cons x R ih =>
  rw[K0];simp only[AR,ih];omega
def SD(A B:List (Dc×Value)):zy (A++B)=zy A++zy B:=by simp[zy]
variable{N cap g:Nat}{w:World}{xs:nJ}
def I6(h:w.ownsRow 0 173 3 (.slice g N cap) N xs):∃cur,w.heap[g]?=some (.cells cur 173 (0,0))/\N<=cap/\cap<=maxLen/\cur.size=cap*3/\cur.toList.take (N*3)=xs:=by
 rcases h.2 with⟨e,_⟩|⟨g',a,cur,e,_,h1,h2,h3,h4,h5⟩
 .cases e
 cases e;exact⟨cur,h1,h2,h3,h4,h5⟩
def UB{R:List (Dc×Value)}(x:Dc×Value)(h:w.ownsRow 0 173 3 (.slice g N cap) N (zy R))(hR:R.length=N)(hi:i<N):(((w.setCell (g,i*3) (.int .u64 x.1.n)).setCell (g,i*3+1) (.int .u64 x.1.at_)).setCell (g,i*3+2) x.2).ownsRow 0 173 3 (.slice g N cap) N (zy (R.set i x)):=by
 obtain⟨cur,h1,h2,h3,h4,h5⟩:=I6 h;refine⟨by rw[JI,Bg,hR],.inr ⟨g,cap,_,rfl,AM _,zc (zc (zc h1)),h2,h3,by simp[h4],?_⟩⟩;rw[TT R i x I,<-h5];simp[DO]
def Vp{R:List (Dc×Value)}(h:w.ownsRow 0 173 3 (.slice g N cap) N (zy R))(hR:R.length=N)(j:Nat)(x:Dc×Value)(hx:R[j]?=some x):w.cell? (g,j*3)=some (.int .u64 x.1.n)/\w.cell? (g,j*3+1)=some (.int .u64 x.1.at_)/\w.cell? (g,j*3+2)=some x.2:=by
 obtain⟨d,h1,h2,h3,h4,h5⟩:=I6 h;have hj:j<N:=by
  have:=(AN.1 hx).1;omega
 obtain⟨a,b,c⟩:=TS R j x hx;have hc:∀q v,q<N*3->(zy R)[q]?=some v->d[q]?=some v:=λq v hq e=>by
  rw[<-h5,BH hq,Bl]at e;exact e
 exact⟨za h1 (hc _ _ I a),za h1 (hc _ _ I b),za h1 (hc _ _ I c)⟩
def RO{n:Nat}{R:List (Dc×Value)}(h:w.ownsRow 0 173 3 (.slice g N cap) N (zy R))(b:R.length=N)(c:n<=N):w.ownsRow 0 173 3 (.slice g n cap) n (zy (R.take n)):=by
 obtain⟨a,h1,h2,h3,h4,h5⟩:=I6 h;refine⟨by rw[JI,AU,b,BZ c],.inr ⟨g,cap,a,rfl,AM _,h1,I,h3,h4,?_⟩⟩;have h6:zy R=zy (R.take n)++zy (R.drop n):=by rw[<-SD,Bx]
 have h7:(zy (R.take n)).length=n*3:=by rw[JI,AU,b,BZ c]
 have h8:a.toList.take (n*3)=(a.toList.take (N*3)).take (n*3):=by rw[Bf,BZ I]
 rw[h8,h5,h6,BF I,Aa I]
def zi.fly{R':List (Dc×Value)}(h:zi tag i b c V W)(m:DW (λq=>q=g) W W')(hg:V.ft.ownBlock=some g)(d:W'.ownsRow 0 173 3 V.ft R'.length (zy R'))(f:∀p∈R',Gt tag (i,5) W p.2 p.1.fs):zi tag i b { c with flight:=R'.map (·.1) } { V with fts:=R'.map (·.2) } W':=by
 have a:=h.tft g hg;have j:b≠g:=λe=>by
  rw[<-e,h.tb]at a;simp at a
 refine h.build (R:=λr=>r=4) m (λq l=>⟨4,rfl,by rw[show q=g from l];exact a⟩) (λ_ _=>rfl) ?_ (.inl ⟨rfl,rfl,rfl,I,I⟩) (λk hk=>.inl ⟨rfl,rfl,I⟩) (λk hk=>.inl ⟨rfl,rfl,I⟩) (λk hk=>.inl ⟨rfl,rfl,I⟩) (λk hk=>.inl ⟨rfl,rfl,I⟩) (λk hk=>.inl ⟨rfl,rfl,I⟩) (.inr ⟨?_,?_,?_,?_⟩) (.inl ⟨rfl,rfl,I⟩) (.inl ⟨rfl,rfl,I⟩) (.inl ⟨rfl,rfl,I⟩)
 .exact(m.obj j h.obj)
 .simp only[BB,GF];exact d
 .simp
 .simp only[GF];intro p hp;exact(f p hp).mod m (λq l e=>by rw[show q=g from l,a]at e;simp at e) (λ_ e=>e)
 exact h.tft
def CS.fly(c:CS)(l:List Dc):CS:={ c with flight:=l }
def gL(c:CS)(l:List Dc)(f:Da):(c.fly l).again f=(c.again f).fly l:=by
 unfold CS.again CS.fly;split
 .rfl
 split
 .rfl
 split
 .rfl
 split<;>rfl
theorem Ra:∀(fs:List Da) (c:CS) (l:List Dc),(c.fly l).agains fs=(c.agains fs).fly l
 | [],_,_=>rfl
 | f::fs,c,l=>by
  show((c.fly l).again f).agains fs=((c.again f).agains fs).fly l;rw[gL,Ra fs]
def jF(c:CS)(f:Da)(p:Dc):(c.again f).late p=c.late p:=by
 unfold CS.again CS.late;split
 .rfl
 split
 .rfl
 split
 .rfl
 split<;>rfl
theorem SB:∀(fs:List Da) (c:CS) (p:Dc),(c.agains fs).late p=c.late p
 | [],_,_=>rfl
 | f::fs,c,p=>by
  show((c.again f).agains fs).late p=_;rw[SB fs,jF]
def CS.lose1(c:CS)(p:Dc):CS:=if c.late p then c.agains p.fs else c
def CS.loses(c:CS)(l:List Dc):CS:=l.foldl CS.lose1 c
def Vb(c:CS)(p q:Dc):(c.lose1 p).late q=c.late q:=by
 unfold CS.lose1;split
 .exact SB _ _ _
 rfl
theorem Va:∀(l:List Dc) (c:CS) (q:Dc),(c.loses l).late q=c.late q
 | [],_,_=>rfl
 | p::l,c,q=>by
  show((c.lose1 p).loses l).late q=_;rw[Va l,Vb]
def gK(c:CS)(l:List Dc)(p:Dc):(c.fly l).lose1 p=(c.lose1 p).fly l:=by
 unfold CS.lose1;rw[show(c.fly l).late p=c.late p from rfl];split
 .exact Ra _ _ _
 rfl
def jE(c:CS)(l:List Dc)(k:Nat)(p:Dc)(h:l[k]?=some p):c.loses (l.take (k+1))=(c.loses (l.take k)).lose1 p:=by
 unfold CS.loses;rw[BG,h,Cm];rfl
theorem Hs(c:CS):c.lose=(c.loses c.flight).fly (c.flight.filter λp => !c.late p):=by
 have h:∀(l:List Dc) (d:CS),(∀q,d.late q=c.late q)->l.foldl (λc p=>if c.late p then c.agains p.fs else c) d=d.loses l:=by
  intro l
  induction l with
  | nil=>intro d _;rfl
  | cons p l ih =>
   intro d hd;show l.foldl _ (if d.late p then d.agains p.fs else d)=(d.lose1 p).loses l;exact ih _ (λq=>by
    split
    .rw[SB,hd]
    exact hd q)
 unfold CS.lose;rw[h c.flight c (λ_=>rfl)];rfl
def JX.fly(h:JX c f)(l:List Dc):JX (c.fly l) f :=
 ⟨λe=>⟨(h.k4 e).lt,(h.k4 e).st,(h.k4 e).sent,(h.k4 e).came,(h.k4 e).end_,(h.k4 e).dl⟩,h.k3,h.k6⟩
def YO(c:CS)(l:List Dc)(f:Da):(c.fly l).ackF f=(c.ackF f).fly l:=by
 unfold CS.ackF CS.fly;split<;>rfl
theorem Q7:∀(fs:List Da) (c:CS) (l:List Dc),fs.foldl CS.ackF (c.fly l)=(fs.foldl CS.ackF c).fly l
 | [],_,_=>rfl
 | f::fs,c,l=>by
  show fs.foldl CS.ackF ((c.fly l).ackF f)=(fs.foldl CS.ackF (c.ackF f)).fly l;rw[YO,Q7 fs]
def YN(c:CS)(rs:zC)(l:List Dc)(p:Dc):(c.fly l).ackP rs p=(c.ackP rs p).fly l:=by
 unfold CS.ackP;split
 .exact Q7 _ _ _
 rfl
def CS.ackPs(c:CS)(rs:zC)(l:List Dc):CS:=l.foldl (λc p=>c.ackP rs p) c
def gJ(c:CS)(rs:zC)(l:List Dc)(k:Nat)(p:Dc)(h:l[k]?=some p):c.ackPs rs (l.take (k+1))=(c.ackPs rs (l.take k)).ackP rs p:=by
 unfold CS.ackPs;rw[BG,h,Cm];rfl
def kP(c:CS)(f:Da):(c.ackF f).flight=c.flight:=by
 unfold CS.ackF;split<;>rfl
theorem WH:∀(fs:List Da) (c:CS),(fs.foldl CS.ackF c).flight=c.flight
 | [],_=>rfl
 | f::fs,c=>by
  show(fs.foldl CS.ackF (c.ackF f)).flight=_;rw[WH fs,kP]
def jD(h:fs[k]?=some f):(fs.take (k+1)).foldl CS.ackF c=((fs.take k).foldl CS.ackF c).ackF f:=by
 rw[BG,h,Cm];rfl
def PG(c:CS)(rs:zC)(h:¬c.next<=DX rs 0):c.acked rs=(0,(((({ c with largest:=max c.largest (DX rs 0) }:CS).ackPs rs c.flight).fly (c.flight.filter λp => !D2 rs p)).lose)):=by
 unfold CS.acked;rw[AI h];rfl
variable{W'':World}{s:Dl}{v':Value}
def zz.came(h:zz tag i b W0 V0 c tag' V' W')(hk:k<8)(ha:NC s b (9+15*k+4) (V'.wc k) W' W'' v')(hm:s.most=(c.ws k).came.most):∃tag2 V2,zz tag i b W0 V0 { c with ws:=zf c.ws k { c.ws k with came:=s } } tag2 V2 W''/\∀g,g<W'.heap.size->tag2 g=tag' g:=by
 obtain⟨f,l,d,u⟩:=ha;have v:=h.p;have n:∀{g r:Nat},tag' g=(i,r)->g<W'.heap.size:=λhg=>Ei h.e.z hg v
 have o:∀g,(tag' g).1=i->zQ tag' W' W'' (i,30+k) g=tag' g:=λg hg=>zD (n (r:=(tag' g).2) (by rw[<-hg]))
 have w:∀g,(g=b\/(V'.wc k).ownBlock=some g)->∃r,(r=1\/r=30+k)/\tag' g=(i,r):=λg hg=>by
  rcases hg with hg|hg
  .exact⟨1,.inl rfl,by rw[hg,h.c.tb]⟩
  exact⟨30+k,.inr rfl,h.c.twc k hk g hg⟩
 refine⟨zQ tag' W' W'' (i,30+k),{ V' with wc:=zf V'.wc k v' },⟨?_,h.e.trans (Jt d.size) h.m.size,Ew h.e h.m (d.mono (λg hg=>.inl ?_)),v,h.ft⟩,λg hg=>zD hg⟩
 .refine h.c.build (R:=λr=>r=1\/r=30+k) d w o ?_ (.inl ⟨rfl,rfl,rfl,I,I⟩) (λq t=>.inl ⟨?_,rfl,I⟩) (λq t=>.inl ⟨?_,rfl,I⟩) (λq t=>?_) (λq t=>.inl ⟨rfl,rfl,I⟩) (λq t=>.inl ⟨rfl,rfl,I⟩) (.inl ⟨rfl,rfl,rfl,I,I⟩) (.inl ⟨rfl,rfl,I⟩) (.inl ⟨rfl,rfl,I⟩) (.inl ⟨rfl,rfl,I⟩)
  .rw[l,zc (zc h.c.obj)];simp only[Aq];have e1:=Ht c c V' { V' with wc:=zf V'.wc k v' } (k:=k) (j:=4) v' hk mu (λq _=>by
    by_cases a:q=k
    .subst a;simp only[ze,BC];rfl
    simp only[zd _ _ a,AI a]) rfl rfl rfl
   rw[e1];have e2:=Ht c { c with ws:=zf c.ws k { c.ws k with came:=s } } { V' with wc:=zf V'.wc k v' } { V' with wc:=zf V'.wc k v' } (k:=k) (j:=5) (.int .u64 s.fl) hk mu (λq _=>by
    by_cases a:q=k
    .subst a;simp only[ze,BC,Fx,hm];rfl
    simp only[zd _ _ a,AI a]) rfl rfl rfl
   rw[show 9+15*k+4+1=9+15*k+5 from rfl,e2]
  .by_cases a:q=k
   .subst a;simp only[ze]
   simp only[zd _ _ a]
  .by_cases a:q=k
   .subst a;simp only[ze]
   simp only[zd _ _ a]
  by_cases a:q=k
  .subst a;simp only[ze];refine .inr ⟨f,λg hg=>?_⟩;rcases u g hg with y|y
   .rw[zD (n (h.c.twc q hk g y)),h.c.twc q hk g y]
   exact Gs y (zK f g hg)
  exact .inl ⟨by simp only[zd _ _ a],by simp only[zd _ _ a],I⟩
 obtain⟨r,hr,e⟩:=w g hg;exact EW e I
structure NB(c:CS)(f:Da):Prop where
 st:∃k:Nat,k<8/\f.stream=(k:Int)
 a:f.kind=4->f.data≠[]->∃k,MB c f k
variable{l:nG}
theorem YM(h:l≠[]):(zu l).toList.isEmpty=false:=by
 rw[ByteArray.toList_eq,Iq];cases l with
 | nil=>exact absurd rfl h
 | cons a l=>rfl
def YL:(zu []).toList.isEmpty=true:=by
 rw[ByteArray.toList_eq,Iq];rfl
variable{q:Nat}{rs:zC}
def jC{p:Dc}(a:q<rs.length)(h1:DZ rs q<=p.n)(h2:p.n<=DX rs q):D2 rs p=true:=by
 unfold D2;rw[Bh];refine⟨rs[q],DF a,?_⟩;have e:rs.getD q (0,0)=rs[q]:=by simp[List.getD,a]
 unfold DZ at h1;unfold DX at h2;rw[e]at h1 h2;simp[h1,h2]
def kO{p:Dc}(h:∀j,j<rs.length->¬(DZ rs j<=p.n/\p.n<=DX rs j)):D2 rs p=false:=by
 unfold D2;rw[CZ];intro r hr;obtain⟨j,a,rfl⟩:=Cv.1 hr;have h1:=h j a;have e:rs.getD j (0,0)=rs[j]:=by simp[List.getD,a]
 unfold DZ DX at h1;rw[e]at h1;simpa using h1
def XI(tag:nH)(i b:Nat)(W0:World)(V0:CV)(c:CS)(rs:zC)(p:Dc)(e:Ending)(W':World):Prop :=
 e=.returned (.bool (D2 rs p))/\∃tag' V',zz tag i b W0 V0 (c.ackP rs p) tag' V' W'
def Qv{α : Type}(f:Nat -> α)(k:Nat)(x y : α):zf (zf f k x) k y=zf f k y:=by
 funext j;by_cases h:j=k
 .rw[h,ze,ze]
 rw[zd _ _ h,zd _ _ h,zd _ _ h]
def QG(tag:nH)(i b:Nat)(W0:World)(V0:CV)(c2:CS)(tag':nH)(W':World)(e:Ending)(W'':World):Prop :=
 e=.returned (.tuple #[])/\(∃tag2 V2,zz tag i b W0 V0 c2 tag2 V2 W''/\∀g,g<W'.heap.size->tag2 g=tag' g)/\∀g,g<W'.heap.size->tag' g=(0,0)->W''.heap[g]?=W'.heap[g]?
def zz.addCame(h:zz tag i b W0 V0 c tag' V' W')(hk:k<8)(d:(c.ws k).came.Ok)(lo hi:Nat)(j:lo<=zF)(l:hi<=zF):Calls prog 88 #[(b,9+15*k+4),lo,hi] W' (QG tag i b W0 V0 { c with ws:=zf c.ws k { c.ws k with came:=(c.ws k).came.add lo hi } } tag' W'):=by
 have hm:=d.most;have hrl:=d.rl;have m:=d.fl;have hp:=h.p;unfold zF at j l m;have n:(V'.wc k).ownBlock≠some b:=λe=>by
  have h1:=h.c.twc k hk b e;rw[h.c.tb]at h1;have:=A8 Prod.snd h1;simp only at this;omega
 refine(Ku (c.ws k).came b (9+15*k+4) lo hi (V'.wc k) W' (h.c.cameAt hk I) d.wf I I I n hm.1 I).mono ?_;rintro e W'' ⟨v',rfl,h1,h2,h3,h4⟩;refine⟨rfl,?_,λg hg f=>h3.block g hg (λx=>?_)⟩
 .obtain⟨tag2,V2,r,f⟩:=h.came hk ⟨h1,h2,h3,h4⟩ (IN _ _ _);exact⟨tag2,V2,r,f⟩
 rcases x with x|x
 .have a:=h.c.tb;rw[<-x,f]at a;have:=A8 Prod.snd a;simp at this
 have a:=h.c.twc k hk g x;rw[f]at a;have:=A8 Prod.snd a;simp at this;omega
def zz.addSent(h:zz tag i b W0 V0 c tag' V' W')(hk:k<8)(d:(c.ws k).sent.Ok)(lo hi:Nat)(j:lo<=zF)(l:hi<=zF):Calls prog 88 #[(b,9+15*k+1),lo,hi] W' (QG tag i b W0 V0 { c with ws:=zf c.ws k { c.ws k with sent:=(c.ws k).sent.add lo hi } } tag' W'):=by
 have hm:=d.most;have hrl:=d.rl;have m:=d.fl;have hp:=h.p;unfold zF at j l m;have n:(V'.ws k).ownBlock≠some b:=λe=>by
  have h1:=h.c.tws k hk b e;rw[h.c.tb]at h1;have:=A8 Prod.snd h1;simp only at this;omega
 refine(Ku (c.ws k).sent b (9+15*k+1) lo hi (V'.ws k) W' (h.c.sentAt hk I) d.wf I I I n hm.1 I).mono ?_;rintro e W'' ⟨v',rfl,h1,h2,h3,h4⟩;refine⟨rfl,?_,λg hg f=>h3.block g hg (λx=>?_)⟩
 .obtain⟨tag2,V2,r,f⟩:=h.sent hk ⟨h1,h2,h3,h4⟩ (IN _ _ _);exact⟨tag2,V2,r,f⟩
 rcases x with x|x
 .have a:=h.c.tb;rw[<-x,f]at a;have:=A8 Prod.snd a;simp at this
 have a:=h.c.tws k hk g x;rw[f]at a;have:=A8 Prod.snd a;simp at this;omega
def XH(c:CS)(f:Da)(k:Nat)(a:f.stream=(k:Int))(h4:f.kind=4)(hd:f.data≠[]){c3:CS}(h2:c2={ c with ws:=zf c.ws k { c.ws k with came:=(c.ws k).came.add f.off (f.off+f.data.length-1) } })(h3:c3={ c2 with ws:=zf c2.ws k { c2.ws k with sent:=(c2.ws k).sent.add f.off (f.off+f.data.length-1) } }):c3=c.ackF f:=by
 subst h3 h2;unfold CS.ackF WS.acked;rw[AQ ⟨h4,hd⟩,a];simp only[Ae,ze];rw[Qv]
def VF(c:CS)(f:Da)(h:¬(f.kind=4/\f.data≠[])):c.ackF f=c:=by
 unfold CS.ackF;rw[AI h]
def jB(h:zz tag i b W0 V0 c tag0 V W)(cb lb:Nat)(rs:zC)(la:nI)(s:Nat)
  (aH:W0.cell? cb=some (.pointer b)) (aI:¬Dx i tag cb) (aJ:W0.cell? lb=some (.slice la rs.length s)) (G:¬Dx i tag lb)
  (ak:RR W0 (.slice la rs.length s) rs) (D:Dp (Dx i tag) (.slice la rs.length s)) (a6:rs.length<=1099511627776)
  (p:Dc) (v:Value) (hp:(p,v)∈c.flight.zip V0.fts) (aK:D2 rs p=true->∀k f,p.fs[k]?=some f->NB ((p.fs.take k).foldl CS.ackF c) f) (a7:p.fs.length<=1099511627776) :
  Calls prog 205 #[.agg #[.int .u64 p.n,.int .u64 p.at_,v],(lb,0),(cb,0)] W (XI tag i b W0 V0 c rs p):=by
 have aL:AA (∀{c':CS} {tag':nH} {V':CV} {W':World},zz tag i b W0 V0 c' tag' V' W'->W'.cell? cb=some (.pointer b)):=zb (λr=>r.m.cell (a:=cb) aI aH);have aM:AA (∀{c':CS} {tag':nH} {V':CV} {W':World},zz tag i b W0 V0 c' tag' V' W'->W'.cell? lb=some (.slice la rs.length s)):=zb (λr=>r.m.cell (a:=lb) G aJ);have aN:AA (∀{c':CS} {tag':nH} {V':CV} {W':World},zz tag i b W0 V0 c' tag' V' W'->RR W' (.slice la rs.length s) rs):=zb (λr=>ak.mod r.m D);have a8:rs.length<=s/\s<=maxLen:=by
  obtain⟨_,_,e,q1,q2,_⟩:=ak;cases e;exact⟨q1,q2⟩
 obtain⟨aO,aP⟩:=a8;unfold maxLen at aP;have HP:=zb hp;have aQ:=zb aK;obtain⟨pn,H⟩:=nm p.n;obtain⟨pa,X⟩:=nm p.at_;obtain⟨fs,R⟩:=nm p.fs;rw[R]at aQ a7;rw[H,X];have al:=zb H;have FT:=h.c.fs (p,v) (by rw[h.ft.2];exact hp);obtain⟨l,hl,aR,-,-⟩:=FT;simp only at hl aR;rw[R]at hl;obtain⟨a,cap,rfl,q1,q2,-⟩:=aR;have Z:l.length=fs.length:=by rw[<-hl,BB]
 rw[Z]at HP q1 ⊢;have aS:=zb R;have a9:=aL.z h;have aT:=aM.z h;obtain⟨W1,S⟩:=nm (W.alloc (.cells #[pn,pa,.slice a fs.length cap] 173));have m1:=AB S;have R1:=zb (h.mod0 m1);have o1:=AD S;obtain⟨pb,am⟩:=nm W.heap.size;rw[am]at o1;have aU:=zb o1;have z0:=za (o:=0) o1 rfl;have z2:W1.cell? (pb,2)=some (.slice a fs.length cap):=za (o:=2) o1 rfl;have aV:=m1.cell (a:=⟨lb,_,none⟩) id aT;have ba:=zb S;have bb:=zb am;obtain⟨RN,an⟩:=nm rs.length;have ao:=zb an;rw[an]at aV a6 aO aM aN;clear h hp H X R m1 o1 a9 aT S am hl Z q1 q2 aH aI aJ G ak D aK an;go_enter func205,ntmps205;go_upto_region 1 with fail;rw[ba.z,bb.z];go_wp2_with fail
 go_loopw [12] (λiv wr=>∃q:Nat,q<=RN/\iv=.int .i64 q/\AA ((∀j,j<q->¬(DZ rs j<=pn/\pn<=DX rs j))/\zz tag i b W0 V0 c tag0 V wr/\DW DY W1 wr)) (λiv _=>RN-(intOf iv).toNat)
 case atStart=>exact⟨0,AM _,rfl,zb ⟨λj hj=>absurd hj (A5 j),R1.z,DW.refl _ _⟩⟩
 case round =>
  clear z0 z2 aV R1;obtain⟨q,hq,rfl,t⟩:=hrel;by_cases G:q<RN
  .obtain⟨a',aa,J,_,_,h3⟩:=aN.z t.z.2.1;have bc:aa=s/\a'=la:=by cases J;exact⟨rfl,rfl⟩
   obtain⟨rfl,rfl⟩:=bc;obtain⟨g,o,be,e1,e2,b1,b2⟩:=h3 q (by rw[ao.z];exact G);subst be;have z0:=za (o:=0) (t.z.2.2.obj (λx=>x) aU.z) rfl;have z2:wr.cell? (pb,2)=some (.slice a fs.length cap):=za (o:=2) (t.z.2.2.obj (λx=>x) aU.z) rfl;have HQ:AA (q<rs.length):=zb (by rw[ao.z];exact G);obtain⟨lo,D⟩:=nm (DZ rs q);obtain⟨hi,ap⟩:=nm (DX rs q);rw[D]at e1 b1;rw[ap]at e2 b2;have aq:=zb D;have ar:=zb ap;have aW:=zm z0;have bf:=zm e1;obtain⟨Y,L⟩:=nm (wr.alloc (.cells #[lo,hi] 214));have mY:=AB L;have oY:=AD L;have MY:=zb mY;have u0:=za (o:=0) oY rfl;have u1:=za (o:=1) oY rfl;have v0:=mY.cell (a:=pb) id z0;have v2:=mY.cell (a:=U pb 2) id z2;obtain⟨yb,au⟩:=nm wr.heap.size;rw[au]at u0 u1;have T:=zb L;have w:=zb au;clear h3 J D ap oY mY L au;by_cases d1:(lo:Int)<=pn
   .by_cases d2:(pn:Int)<=hi
    .have av:=zb (jC HQ.z (by rw[aq.z,al.z];omega) (by rw[ar.z,al.z];omega));have RY:=zb (t.z.2.1.mod0 MY.z);have MW:=zb (t.z.2.2.trans MY.z);clear t;go_upto_region 4 with fail;rw[T.z,w.z];go_wp2_with fail
     go_loopw [31] (λiv wr=>∃(k:Nat) (tag':nH) (V':CV),k<=fs.length/\iv=.int .i64 k/\AA (zz tag i b W0 V0 ((fs.take k).foldl CS.ackF c) tag' V' wr)) (λiv _=>fs.length-(intOf iv).toNat)
     case atStart=>exact⟨0,tag0,V,AM _,rfl,RY⟩
     case round =>
      clear z0 z2 e1 e2 u0 u1 v0 v2 RY aW bf MY T w MW;obtain⟨k,C,V1,hk,rfl,t⟩:=hrel;by_cases bA:k<fs.length
      .obtain⟨l1,M,ab,-,-⟩:=t.z.c.fs (p,.slice a fs.length cap) (by rw[WH,t.z.ft.2];exact HP.z);simp only at M ab;rw[aS.z]at M;obtain⟨a',aa,J,_,_,h3⟩:=ab;have ac:l1.length=fs.length:=by rw[<-M,BB]
       rw[ac]at J;cases J;obtain⟨⟨f,rv⟩,aw⟩:∃fr,l1[k]?=some fr:=⟨l1[k],AK I⟩;have ax:fs[k]?=some f:=by rw[<-M,Bc,aw];rfl
       obtain⟨⟨g2,o2,rfl,hc⟩,ay⟩:=h3 k (f,rv) aw;simp only at hc ay;obtain⟨ra,rc,rfl,_⟩:=id ay;obtain⟨hc0,hc1,hc2,hc3,hc4,hc5,hc6,hc7,hc8,bh⟩:=Jh hc;obtain⟨Y,L⟩:=nm (wr.alloc (.cells (zl f (.slice ra f.rngs.length rc)) 65));have mY:=AB L;have az:=AC L;have aX:zj Y wr.heap.size f (.slice ra f.rngs.length rc):=by rw[<-L];exact heap_alloc_new wr _
       obtain⟨y0,y1,y2,y3,y4,y5,y6,y7,y8,y9⟩:=aX.cells;have ok:=aQ.z av.z k f ax;have HT:=zb (jD (c:=c) ax);obtain⟨c1,N⟩:=nm ((fs.take k).foldl CS.ackF c);rw[N]at ok HT t;have B:=t.z.e.z _ (AF _);have RY:=zb (t.z.mod0 mY);have aA:=aL.z RY.z;obtain⟨m,aY,E⟩:=ok.st;rw[E]at y1;obtain⟨fb,aB⟩:=nm wr.heap.size;rw[aB]at B y0 y1 y2 y8 az;have bi:=zb B;have bj:=zb az;have dm0:(0:Int)<=m:=I;have dm8:(m:Int)<8:=I;obtain⟨RL,aZ⟩:=nm f.rngs.length;rw[aZ]at bh L;have T:=zb L;have w:=zb aB;obtain⟨off,O⟩:=nm f.off;obtain⟨d,P⟩:=nm f.data;rw[O]at y2;rw[P]at y8;have ad:=zb O;have y:=zb P;have HC1:=zb N;unfold zl at T;clear h3 aw hc ay mY aX ax M aZ t L aB N B az y3 y4 y5 y6 y7 y9 O P ac;by_cases z:f.kind=4
       .by_cases A:f.data=[]
        .have bk:d=[]:=by rw[<-y.z];exact A
         subst bk;have HE:=zb (VF c1 f (by simp[A]));rw[z]at y0;have HYD:=zb A;have bm:=YL;clear z E A ok;go_upto_region 8 with fail;rw[T.z,w.z];refine zG ?_;refine zo 7 (λw'=>w'.cell? cb=some (.pointer b)/\w'.cell? (U fb 1)=some (.int .i64 m)) (⟨aA,y1⟩) ?_;refine GI 0 ?_;iterate 7
          refine GV rfl ?_;try simp only[PS]
         refine zr ?_;refine⟨rfl,?_⟩;go_wp2_with fail;go_roundw
         case rel=>exact⟨k+1,C,V1,I,by go_num,zb (by rw[HT.z,HE.z];exact RY.z.mod0 (DW.refl DY Y).drew)⟩
         simp[intOf];omega
        obtain⟨m',F⟩:=ok.a z A;have bn:m=m':=by
         have h1:=F.st;rw[E]at h1;omega
        subst bn;have b1:=F.end_;have b2:=F.dl;have ae:d≠[]:=by rw[<-y.z];exact A
        have b3:=BM.2 ae;rw[ad.z,y.z]at b1;rw[y.z]at b2;have Q:=RY.z.mod0 ((DW.refl DY Y).drew.drew);have aC:=Q.addCame aY F.came off (off+d.length-1) I I;have hz:((off+d.length-1:Nat):Int)=(off:Int)+d.length-1:=I;rw[hz,AL 15 m]at aC;have a0:=zb aC;have a1:=zb F;have bo:=zb A;have bp:=zb E;have bq:=zb z;rw[z]at y0;unfold zF at b1;have hsz:=zJ d;have xw0:IntKind.u64.wrap (d.length:Int)=(d.length:Int):=by rw[IntKind.wrap_u64];omega
        have xw1:=wu ((off:Int)+d.length) I;have xw2:=wu ((off:Int)+d.length-1) I;have bm:=YM ae;clear aC Q ok F E z A hz;go_upto_region 8 with fail;rw[T.z,w.z];refine zG ?_;refine zo 7 (λw'=>w'.cell? cb=some (.pointer b)/\w'.cell? (U fb 1)=some (.int .i64 m)) (⟨aA,y1⟩) ?_;refine GI 0 ?_;iterate 7
         refine GV rfl ?_;try simp only[PS]
        refine zr ?_;refine⟨rfl,?_⟩;go_upto_region 10 with fail;refine zG ?_;refine zo 13 (λw'=>w'.cell? (U fb 2)=some (.int .u64 off)/\w'.cell? (U fb 8)=some (.string (zu d))) (⟨y2,y8⟩) ?_;refine GI 0 ?_;iterate 13
         refine GV rfl ?_;try simp only[PS]
        refine EX rfl (λK hK=>?_);go_simp
        with_reducible refine(a0.z).mono ?_
        rintro e a2 ⟨rfl,⟨bt,V10,Q,af⟩,ah⟩;have bu:=zb Q;have bB:=zb af;have a3:=zb ah;clear Q af ah;go_simp;refine hK.z _ _ ?_;clear hK K;try simp only[PS]
        refine zr ?_;refine⟨rfl,?_⟩;have hX:a2.heap[fb]?=Y.heap[fb]?:=a3.z fb (by show fb<Y.heap.size;rw[bj.z];omega) bi.z;have x2:=(World.cell?_of_block hX).trans y2;have x8:=(World.cell?_of_block hX).trans y8;have aD:=(bu.z.mod0 (DW.refl DY a2).drew).addSent aY (by simp only[ze];exact a1.z.sent) off (off+d.length-1) (by unfold zF;omega) (by unfold zF;omega);have hz:((off+d.length-1:Nat):Int)=(off:Int)+d.length-1:=I;rw[hz,AL 15 m]at aD;have a4:=zb aD;clear aD hX hz;go_upto_region 11 with fail;refine zG ?_;refine zo 13 (λw'=>w'.cell? (U fb 2)=some (.int .u64 off)/\w'.cell? (U fb 8)=some (.string (zu d))) (⟨x2,x8⟩) ?_;refine GI 0 ?_;iterate 13
         refine GV rfl ?_;try simp only[PS]
        refine EX rfl (λK hK=>?_);go_simp
        with_reducible refine(a4.z).mono ?_
        rintro e X11 ⟨rfl,⟨aE,bv,a5,ai⟩,aj⟩;have bw:=zb a5;have bC:=zb ai;have bD:=zb aj;clear a5 ai aj;go_simp;refine hK.z _ _ ?_;clear hK K;try simp only[PS]
        refine zr ?_;refine⟨rfl,?_⟩;go_wp2_with fail;go_roundw
        case rel =>
         refine⟨k+1,aE,bv,I,by go_num,zb ?_⟩;rw[HT.z,<-XH c1 f m bp.z bq.z bo.z rfl rfl,ad.z,y.z];exact bw.z
        simp[intOf];omega
       have HE:=zb (VF c1 f (by simp[z]));have hb4:(f.kind==4)=false:=nF z;clear E ok;go_upto_region 8 with fail;rw[T.z,w.z];refine zG ?_;refine zo 7 (λw'=>w'.cell? cb=some (.pointer b)/\w'.cell? (U fb 1)=some (.int .i64 m)) (⟨aA,y1⟩) ?_;refine GI 0 ?_;iterate 7
        refine GV rfl ?_;try simp only[PS]
       refine zr ?_;refine⟨rfl,?_⟩;go_wp2_with fail;go_roundw
       case rel=>exact⟨k+1,C,V1,I,by go_num,zb (by rw[HT.z,HE.z];exact RY.z.mod0 (DW.refl DY Y).drew)⟩
       simp[intOf];omega
      have hk2:fs.length=k:=I;have aF:AA (zz tag i b W0 V0 (c.ackP rs p) C V1 wr):=zb (by
       have:=t.z;rw[Aa I]at this;unfold CS.ackP;rw[AQ av.z,aS.z];exact this)
      go_wp2_with fail;go_ret;exact⟨by rw[av.z];rfl,C,V1,aF.z⟩
    go_upto_region 4 with fail;rw[T.z,w.z];go_wp2_with fail;go_roundw
    case rel =>
     refine⟨q+1,I,by go_num,zb ⟨λj hj x=>?_,t.z.2.1.mod0 MY.z,t.z.2.2.trans MY.z⟩⟩;by_cases aG:j=q
     .subst aG;rw[aq.z,ar.z]at x;omega
     exact t.z.1 j I x
    simp[intOf];omega
   go_upto_region 4 with fail;rw[T.z,w.z];go_wp2_with fail;go_roundw
   case rel =>
    refine⟨q+1,I,by go_num,zb ⟨λj hj x=>?_,t.z.2.1.mod0 MY.z,t.z.2.2.trans MY.z⟩⟩;by_cases aG:j=q
    .subst aG;rw[aq.z,ar.z]at x;omega
    exact t.z.1 j I x
   simp[intOf];omega
  have bz:q=RN:=I;have HN:=zb (kO (λj hj=>by
   rw[al.z];exact t.z.1 j (by rw[ao.z]at hj;omega)))
  have aF:AA (zz tag i b W0 V0 (c.ackP rs p) tag0 V wr):=zb (by
   unfold CS.ackP;rw[AI (by rw[HN.z];simp)];exact t.z.2.1)
  clear bz;go_wp2_with fail;go_ret;exact⟨by rw[HN.z];rfl,tag0,V,aF.z⟩
structure Kj(c:CS):Prop where
 sz:∀p∈c.flight,p.n<=zF/\p.at_<=zF/\p.fs.length<=1099511627776
 ag:∀(k:Nat) p,c.flight[k]?=some p->c.late p=true->∀(j:Nat) f,p.fs[j]?=some f->JX ((c.loses (c.flight.take k)).agains (p.fs.take j)) f
def E9(tag:nH)(i b:Nat)(W0:World)(c:CS)(a:nI)(N cap:Nat)(k:Nat)(R:List (Dc×Value))(w:World):Prop :=
 R.length=N/\∃tag' V',zz tag i b W0 V' ((c.loses (c.flight.take k)).fly (R.map (·.1))) tag' V' w/\V'.ft=.slice a N cap/\V'.fts=R.map (·.2)
variable{a:nI}
def E9.row{R:List (Dc×Value)}(h:E9 tag i b W0 c a N cap k R w):w.ownsRow 0 173 3 (.slice a N cap) N (zy R):=by
 obtain⟨hl,tag',V',r,h1,h2⟩:=h;have:=r.c.ft;rw[h1,h2]at this;simp only[CS.fly,BB,GF,hl]at this;exact this
variable{w':World}
def E9.mod0{R:List (Dc×Value)}(h:E9 tag i b W0 c a N cap k R w)(m:DW DY w w'):E9 tag i b W0 c a N cap k R w':=by
 obtain⟨hl,tag',V',r,h1,h2⟩:=h;exact⟨hl,tag',V',r.mod0 m,h1,h2⟩
def E9.del(ha:0<N->a=some ⟨g,0,none⟩):MD (E9 tag i b W0 c a N cap) N g:=by
 refine⟨λk R w w' h m=>h.mod0 m,λk R w h=>h.1,λk R w h j x hx=>?_⟩;have hj:0<N:=by
  have:=(AN.1 hx).1;have:=h.1;omega
 have d:=h.row;rw[ha hj]at d;exact Vp d h.1 j x hx
variable{cb:Nat}{w1:World}
def E9.ask{R:List (Dc×Value)}(h:E9 tag i b W0 c a N cap k R w)(ok:Kj c)(o:W0.cell? cb=some (.pointer b))(d:¬Dx i tag cb)(m:DW DY w w1)(x:Dc×Value)(hx:R[k]?=some x)(v:c.flight[k]?=some x.1):Calls prog 79 #[.agg #[.int .u64 x.1.n,.int .u64 x.1.at_,x.2],(cb,0)] w1 (λe w'=>e=.returned (.bool (c.late x.1))/\E9 tag i b W0 c a N cap (k+1) R w'/\∀q,w.heap.size<=q->q<w1.heap.size->w'.heap[q]?=w1.heap[q]?):=by
 obtain⟨hl,tag',V',r,h1,h2⟩:=h;have y:=r.mod0 m;have z:=zm o;have s:=y.m.cell (a:=cb) d o;have t:¬Dx i tag' cb:=by unfold Dx at d ⊢;rw[r.e.old cb z];exact d
 have u:=AV v;obtain⟨s1,s2,s3⟩:=ok.sz _ u;have g:∀q,((c.loses (c.flight.take k)).fly (R.map (·.1))).late q=c.late q:=λq=>Va (c.flight.take k) c q
 have kc:=gM y.refl cb s t x.1 x.2 (by rw[h2];simp only[CS.fly,GF];exact AV hx) s1 s2 (λe j f hf=>by
  rw[g]at e;rw[Ra];exact(ok.ag k x.1 v e j f hf).fly _) s3
 refine kc.mono ?_;rintro e w' ⟨rfl,tag2,V2,l⟩;rw[g]at l ⊢;have A:(if c.late x.1=true then((c.loses (c.flight.take k)).fly (R.map (·.1))).agains x.1.fs else(c.loses (c.flight.take k)).fly (R.map (·.1)))=(c.loses (c.flight.take (k+1))).fly (R.map (·.1)):=by
  rw[jE c c.flight k x.1 v,<-gK];unfold CS.lose1;rw[g]
 rw[A]at l;refine⟨rfl,⟨hl,tag2,V2,y.trans l,l.ft.1.trans h1,l.ft.2.trans h2⟩,λq hq B=>?_⟩;refine l.m.block q B (λhc=>?_);have:=hc.1;rw[r.e.z q hq]at this;have v:=r.p;simp at this;omega
def UA(w:World):(zeroValue 173).run prog w=.ok (.agg #[.int .u64 0,.int .u64 0,.slice none 0 0]) w:=mr
def Kf:Dc×Value:=(⟨0,0,[]⟩,.slice none 0 0)
def Gt.none(tag:nH)(t:Nat×Nat)(w:World):Gt tag t w (.slice none 0 0) [] :=
 ⟨[],rfl,⟨Option.none,0,rfl,AF _,mz,λi fr h=>by simp at h⟩,λg h=>by simp[Value.blk]at h,λfr h=>by simp at h⟩
theorem VZ(n:Nat):(Builtin.zeroCells (Value.agg #[.int .u64 0,.int .u64 0,.slice none 0 0]).cells n).toList=zy (List.replicate n Kf):=by
 have h:∀n,(Builtin.zeroCells (Value.agg #[.int .u64 0,.int .u64 0,.slice none 0 0]).cells n).toList=(List.range (n*3)).map (λi=>(#[Value.int .u64 0,Value.int .u64 0,Value.slice none 0 0]:Array Value)[i % 3]!):=λn=>by
  simp[Builtin.zeroCells,Value.cells]
 rw[h];clear h
 induction n with
 | zero=>rfl
 | succ n ih =>
  rw[List.replicate_succ,K0,<-ih,(I:(n+1)*3=3+n*3),List.range_add,Ba,Cg];have e:((λi=>(#[Value.int .u64 0,Value.int .u64 0,Value.slice none 0 0]:Array Value)[i % 3]!) ∘ λx=>3+x)=λi=>(#[Value.int .u64 0,Value.int .u64 0,Value.slice none 0 0]:Array Value)[i % 3]!:=by
   funext q;simp only[Function.comp,Nat.add_mod_left]
  rw[e];rfl
def PY(w:World)(g:Nat)(cs:Array Value):DW (λq=>q=g) w (w.setRow g cs):=by
 refine⟨rfl,rfl,rfl,by simp[World.setRow],λq hq a=>?_⟩;have a:¬g=q:=λe=>a e.symm
 simp[World.setRow,CJ,a]
def E9.turn{R R':List (Dc×Value)}(h:E9 tag i b W0 c (some ⟨g,0,none⟩) N cap k R w)(m:DW (λq=>q=g) w w')(hl:R'.length=N)(a:w'.ownsRow 0 173 3 (.slice g N cap) N (zy R'))(hs:∀p∈R',p∈R\/p=Kf):E9 tag i b W0 c (some ⟨g,0,none⟩) N cap k R' w':=by
 obtain⟨hl0,tag',j,r,h1,h2⟩:=h;have hg:j.ft.ownBlock=some g:=by rw[h1];rfl
 have d:=r.c.tft g hg;have f:∀p∈R',Gt tag' (i,5) w p.2 p.1.fs:=λp hp=>by
  rcases hs p hp with x|x
  .exact r.c.fs p (by rw[h2];simp only[CS.fly,GF];exact x)
  subst x;exact Gt.none _ _ _
 have c1:=r.c.fly m hg (R':=R') (by rw[h1,hl];exact a) f;exact⟨hl,tag',{ j with fts:=R'.map (·.2) },⟨c1,⟨r.e.old,r.e.new,r.e.z.mod m⟩,Ew r.e r.m (m.mono (λq hq=>.inl (EW (r:=4) (by rw[show q=g from hq];exact d) mu))),r.p,⟨rfl,rfl⟩⟩,h1,rfl⟩
def E9.delK(v:0<N->a=some ⟨g,0,none⟩)(hcm:N<=cap):JL (E9 tag i b W0 c a N cap) N g cap:=by
 refine⟨λk R w t h=>?_,λk R w x h hx=>?_,λk R w j x h B hx=>?_,λk R w j h B=>?_⟩
 .have C:=h.row;rw[v t]at C;obtain⟨d,h1,_⟩:=I6 C;exact⟨d,h1⟩
 .obtain⟨hl,tag',V',r,h1,h2⟩:=h;obtain⟨l,_,⟨a',D,e,_⟩,_,_⟩:=r.c.fs x (by rw[h2];simp only[CS.fly,GF];exact hx);exact⟨_,_,_,e⟩
 .have t:0<N:=I;have m:=v t;subst m;have u:=UB x h.row h.1 B;refine h.turn ?_ (by rw[Bg];exact h.1) u (λp z=>?_)
  .exact(((DW.refl (λq=>q=g) w).setCell (p:=⟨g,_,none⟩) (.inl rfl) _).setCell (p:=⟨g,_,none⟩) (.inl rfl) _).setCell (p:=⟨g,_,none⟩) (.inl rfl) _
  rcases List.mem_or_eq_of_mem_set z with y|y
  .exact .inl y
  exact .inl (y ▸ hx)
 have t:0<N:=I;have m:=v t;subst m;obtain⟨d,h1,h2,h3,h4,h5⟩:=I6 h.row;have A:w.heap[g]?=some (.cells d.toList.toArray 173 (0,0)):=nF h1;have f:d.toList.length=cap*3:=nF h4;have o:(zy (List.replicate (N-j) Kf)).length=(N-j)*3:=by rw[JI,Bk]
 refine⟨_,R.take j++List.replicate (N-j) Kf,λty=>Mn (P:=prog) w 123 ty 173 (.agg #[.int .u64 0,.int .u64 0,.slice none 0 0]) 3 underlying123 UA rfl (by simp[Value.cells,Value.oneCell']) g (j*3) (N-j) _ d.toList _ A (by rw[f];omega),?_,?_⟩
 .rw[VZ];have s:(R.take j).length=j:=by rw[AU,h.1];omega
  refine h.turn ?_ (by rw[AG,s,Bk];omega) ?_ (λp z=>?_)
  .exact PY w g _
  .refine⟨by rw[JI,AG,s,Bk];omega,.inr ⟨g,cap,_,rfl,AM _,setRow_heap w g _ _ _ _ h1,h2,h3,?_,?_⟩⟩
   .rw[Am,length_splice _ _ _ (by rw[o,f];omega),f]
   have h6:d.toList.take (j*3)=zy (R.take j):=by
    have:=(RO h.row h.1 (n:=j) I);obtain⟨E,g1,_,_,_,g5⟩:=I6 this;rw[h1]at g1;cases g1;exact g5
   unfold splice;rw[h6,SD];have F:(zy (R.take j)).length=j*3:=by rw[JI,s]
   rw[<-List.append_assoc];simp only[DM];rw[BF (by rw[AG,F,o];omega),Aa (by rw[AG,F,o];omega)]
  rcases Al.1 z with y|y
  .exact .inl (BP y)
  exact .inr (List.eq_of_mem_replicate y)
 rw[BF (by rw[AU,h.1];omega),Bf,Ce]
def TR{n:Nat}{R:List (Dc×Value)}(h:w.ownsRow 0 173 3 (.slice a N cap) N (zy R))(hR:R.length=N)(hn:n<=N):w.ownsRow 0 173 3 (.slice a n cap) n (zy (R.take n)):=by
 by_cases h0:N=0
 .have b:n=N:=I;rw[b,Aa I];exact h
 obtain⟨a',c,e,_,_,hg⟩:=zk h;cases e;obtain⟨g,rfl⟩:=hg I;exact RO h hR hn
def E9.done{n:Nat}{R:List (Dc×Value)}(h:E9 tag i b W0 c a N cap N R w)(hN:c.flight.length=N)(hn:n<=N)(hR:(R.take n).map (·.1)=c.flight.filter λp => !c.late p):∃tag' V',zz tag i b W0 V' c.lose tag' V' (w.setCell (b,236) (.slice a n cap)):=by
 have f:=TR h.row h.1 hn;obtain⟨hl,tag',V',r,h1,h2⟩:=h;rw[Aa I]at r;have m:DW (λq=>q=b) w (w.setCell (U b 236) (.slice a n cap)):=(DW.refl (λq=>q=b) w).setCell (p:=⟨b,_,none⟩) (.inl rfl) _;have d:∀g,(Value.slice a n cap).ownBlock=some g->tag' g=(i,4):=λg hg=>r.c.tft g (by rw[h1];cases a<;>exact hg)
 have s:∀g,(Value.slice a n cap).ownBlock=some g->¬g=b:=λg hg e=>by
  have h3:=d g hg;rw[e,r.c.tb]at h3;simp at h3
 have l:(R.take n).length=n:=by rw[AU,hl];omega
 rw[Hs,<-hR];refine⟨tag',{ V' with ft:=.slice a n cap,fts:=(R.take n).map (·.2) },⟨?_,⟨r.e.old,r.e.new,r.e.z.mod m⟩,Ew r.e r.m (m.mono (λq o=>.inl (EW (r:=1) (by rw[show q=b from o];exact r.c.tb) mu))),r.p,⟨rfl,rfl⟩⟩⟩;refine r.c.build (R:=λr=>r=1) m (λq o=>⟨1,rfl,by rw[show q=b from o];exact r.c.tb⟩) (λ_ _=>rfl) ?_ (.inl ⟨rfl,rfl,rfl,I,I⟩) (λk hk=>.inl ⟨rfl,rfl,I⟩) (λk hk=>.inl ⟨rfl,rfl,I⟩) (λk hk=>.inl ⟨rfl,rfl,I⟩) (λk hk=>.inl ⟨rfl,rfl,I⟩) (λk hk=>.inl ⟨rfl,rfl,I⟩) (.inr ⟨?_,?_,?_,?_⟩) (.inl ⟨rfl,rfl,I⟩) (.inl ⟨rfl,rfl,I⟩) (.inl ⟨rfl,rfl,I⟩)
 .rw[zc r.c.obj];simp only[Aq];rw[show(236:Nat)=233+3 from rfl,G8 (j:=3) ((c.loses c.flight).fly (R.map (·.1))) ((c.loses c.flight).fly ((R.take n).map (·.1))) V' { V' with ft:=.slice a n cap,fts:=(R.take n).map (·.2) } (.slice a n cap) rfl rfl rfl rfl]
 .simp only[CS.fly,BB,GF,l];exact m.owns f s
 .simp[CS.fly]
 .simp only[CS.fly,GF];intro p hp;refine(r.c.fs p (by rw[h2];simp only[CS.fly,GF];exact BP hp)).mod m (λq o e=>?_) (λ_ e=>e);rw[show q=b from o,r.c.tb]at e;simp at e
 exact d
variable{W1:World}
def YK(h:zi tag i b c V W)(ht:Dv tag W)(hi:0<i)(ok:Kj c)(hb:c.flight.length<=1099511627776)(f:W.cell? cb=some (.pointer b))(j:¬Dx i tag cb)(m:DW DY W W1)(u:V.ft=.slice a N cap)(v:c.flight.length=N):Calls prog 78 #[.slice a N cap,.func (.func 79) #[] #[.pointer cb]] W1 (Oi (E9 tag i b W c a N cap) c.late (c.flight.zip V.fts) a cap):=by
 have n:(c.flight.zip V.fts).length=N:=by rw[Cy,h.fl,Ce,v]
 have q:(c.flight.zip V.fts).map (·.1)=c.flight:=DE (Ay h.fl.symm);have r:(c.flight.zip V.fts).map (·.2)=V.fts:=List.map_snd_zip (Ay h.fl);have d:=h.ft;rw[u,v]at d;obtain⟨a',y,e,z,q2,q3⟩:=zk d;cases e;have A:∀(k:Nat) (x:Dc×Value),(c.flight.zip V.fts)[k]?=some x->c.flight[k]?=some x.1:=λk x hx=>by
  have:=A8 (λl=>l[k]?) q;simp only[Bc,hx]at this;exact this.symm
 have r0:zz tag i b W V c tag V W:=⟨h,Dn.same ht (DW.refl DY W),DW.refl _ _,hi,⟨rfl,rfl⟩⟩;have j0:E9 tag i b W c a N cap 0 (c.flight.zip V.fts) W:=⟨n,tag,V,by rw[q];exact r0,u,r.symm⟩;obtain⟨g,hg⟩:∃g,0<N->a=some ⟨g,0,none⟩:=by
  by_cases h0:0<N
  .obtain⟨g,hg⟩:=q3 h0;exact⟨g,λ_=>hg⟩
  exact⟨0,λx=>absurd x h0⟩
 refine kQ (E9 tag i b W c a N cap) c.late (c.flight.zip V.fts) N g cap cb a n I z q2 hg (E9.del hg) (E9.delK hg z) (λk w x s hx=>?_) (λk R w o x s hx t=>?_) W1 (j0.mod0 m)
 .exact(s.ask ok f j (DW.refl DY w) x hx (A k x hx)).mono (λe w' p=>⟨p.1,p.2.1⟩)
 exact(s.ask ok f j ((DW.refl DY w).alloc o) x hx (A k x t)).mono (λe w' p=>⟨p.1,p.2.1,p.2.2 _ (AF _) mv⟩)
def IS(ht:Dv tag W)(m:DW DY W W0)(h:Dn i tag tag' W0 W'):Dn i tag tag' W W':=by
 refine⟨λg hg=>h.old g (A7 hg m.size),λg hg=>?_,h.z⟩;by_cases q:g<W0.heap.size
 .exact .inr (by rw[h.old g q];exact ht g hg)
 exact h.new g I
def T9(h:zi tag i b c V W)(y:Dv tag W)(hi:0<i)(ok:Kj c)(hb:c.flight.length<=1099511627776):Calls prog 49 #[(b,0)] W (Ej tag i b W (.tuple #[]) c.lose):=by
 obtain⟨a,cap,B,_⟩:=zk h.ft;obtain⟨N,t⟩:=nm c.flight.length;rw[t]at B;obtain⟨W1,f⟩:=nm (W.alloc (.cells #[(b,0)] 69));have m1:=AB f;have k:W1.cell? W.heap.size=some (.pointer b):=by rw[<-f];exact za (heap_alloc_new W _) rfl
 have l:¬Dx i tag W.heap.size:=λx=>by
  have h1:=x.1;rw[y _ (AF _)]at h1;simp at h1;omega
 have h1:=h.mod0 m1;have u:=y.mod m1;have z:=YK h1 u hi ok hb k l (DW.refl DY W1).drew B t;have o:(c.flight.zip V.fts).length=N:=by rw[Cy,h.fl,Ce,t]
 have q:(c.flight.zip V.fts).map (·.1)=c.flight:=DE (Ay h.fl.symm);obtain⟨L,M⟩:=nm (c.flight.zip V.fts);rw[M]at z o q;obtain⟨cb,d⟩:=nm W.heap.size;rw[d]at z k l;have C:W1.cell? (b,236)=some (.slice a N cap):=by rw[<-B];exact h1.tl (j:=3) rfl
 have fz:=h1.fz 236;have KD:=zb z;have HT:=zb y;have HI:=zb hi;have v:=zb m1;have D:=zb l;have E:=zb k;have O:=zb (And.intro o q);have HN:=zb t;have F:=zb f;have G:=zb d;clear z y hi m1 l o q t h h1 u ok hb M f d;go_enter func49,ntmps49;go_upto_region 1 with fail;try rw[F.z]
 try rw[G.z]
 refine zG ?_;refine zo 9 (λw'=>w'.cell? cb=some (.pointer b)/\w'.cell? (U b 236)=some (.slice a N cap)/\w'.frozen? ⟨b,236,none⟩=false) (⟨k,C,fz⟩) ?_;refine GI 0 ?_;iterate 6
  refine GV rfl ?_;try simp only[PS]
 refine zE 6 rfl (λK w=>?_);go_simp
 with_reducible refine(KD.z).mono ?_
 rintro e H ⟨n,R,rfl,P,J,A⟩;have HJ:=zb (And.intro P (And.intro J A));have Q:H.cell? cb=some (.pointer b)/\H.cell? (b,236)=some (.slice a N cap)/\H.frozen? ⟨b,236,none⟩=false:=by
  obtain⟨hl,tag',S,r,g1,g2⟩:=J;exact⟨r.m.cell (a:=cb) D.z E.z,by rw[<-g1];exact r.c.tl (j:=3) rfl,r.c.fz 236⟩
 clear J P A;go_simp;refine w.z _ _ Q ?_;obtain⟨p0,p1,p2⟩:=Q;clear w K;try simp only[PS]
 refine GI 7 ?_;iterate 2
  refine GV rfl ?_;try simp only[PS]
 refine EX rfl (λK w=>?_);go_simp;refine w.z _ _ ?_;clear w K;try simp only[PS]
 refine zr ?_;refine⟨rfl,?_⟩;go_wp2_with fail
 go_end0
 refine⟨rfl,?_⟩;obtain⟨h1,h2,h3⟩:=HJ.z;rw[O.z.1]at h1 h2;have A:(R.take n).map (·.1)=c.flight.filter λp => !c.late p:=by
  rw[h3,<-O.z.2,List.filter_map];rfl
 obtain⟨tag',S,r⟩:=h2.done HN.z h1 A;exact⟨tag',S,r.c,IS HT.z v.z r.e,(v.z.mono (λ_ x=>x.elim)).then r.m.ofC (λg hg=>.inl hg)⟩
def FI(tag:nH)(i b:Nat)(W0:World)(G:Nat->CS)(a:nI)(N cap:Nat)(k:Nat)(R:List (Dc×Value))(w:World):Prop :=
 R.length=N/\∃tag' V',zz tag i b W0 V' ((G k).fly (R.map (·.1))) tag' V' w/\V'.ft=.slice a N cap/\V'.fts=R.map (·.2)
def FI.row{G:Nat->CS}{R:List (Dc×Value)}(h:FI tag i b W0 G a N cap k R w):w.ownsRow 0 173 3 (.slice a N cap) N (zy R):=by
 obtain⟨hl,tag',V',r,h1,h2⟩:=h;have:=r.c.ft;rw[h1,h2]at this;simp only[CS.fly,BB,GF,hl]at this;exact this
def FI.mod0{G:Nat->CS}{R:List (Dc×Value)}(h:FI tag i b W0 G a N cap k R w)(m:DW DY w w'):FI tag i b W0 G a N cap k R w':=by
 obtain⟨hl,tag',V',r,h1,h2⟩:=h;exact⟨hl,tag',V',r.mod0 m,h1,h2⟩
def FI.del{G:Nat->CS}(ha:0<N->a=some ⟨g,0,none⟩):MD (FI tag i b W0 G a N cap) N g:=by
 refine⟨λk R w w' h m=>h.mod0 m,λk R w h=>h.1,λk R w h j x hx=>?_⟩;have hj:0<N:=by
  have:=(AN.1 hx).1;have:=h.1;omega
 have c:=h.row;rw[ha hj]at c;exact Vp c h.1 j x hx
def FI.turn{G:Nat->CS}{R R':List (Dc×Value)}(h:FI tag i b W0 G (some ⟨g,0,none⟩) N cap k R w)(m:DW (λq=>q=g) w w')(hl:R'.length=N)(a:w'.ownsRow 0 173 3 (.slice g N cap) N (zy R'))(hs:∀p∈R',p∈R\/p=Kf):FI tag i b W0 G (some ⟨g,0,none⟩) N cap k R' w':=by
 obtain⟨hl0,tag',j,r,h1,h2⟩:=h;have hg:j.ft.ownBlock=some g:=by rw[h1];rfl
 have d:=r.c.tft g hg;have f:∀p∈R',Gt tag' (i,5) w p.2 p.1.fs:=λp hp=>by
  rcases hs p hp with x|x
  .exact r.c.fs p (by rw[h2];simp only[CS.fly,GF];exact x)
  subst x;exact Gt.none _ _ _
 have c1:=r.c.fly m hg (R':=R') (by rw[h1,hl];exact a) f;exact⟨hl,tag',{ j with fts:=R'.map (·.2) },⟨c1,⟨r.e.old,r.e.new,r.e.z.mod m⟩,Ew r.e r.m (m.mono (λq hq=>.inl (EW (r:=4) (by rw[show q=g from hq];exact d) mu))),r.p,⟨rfl,rfl⟩⟩,h1,rfl⟩
def FI.delK{G:Nat->CS}(v:0<N->a=some ⟨g,0,none⟩)(hcm:N<=cap):JL (FI tag i b W0 G a N cap) N g cap:=by
 refine⟨λk R w t h=>?_,λk R w x h hx=>?_,λk R w j x h B hx=>?_,λk R w j h B=>?_⟩
 .have C:=h.row;rw[v t]at C;obtain⟨d,h1,_⟩:=I6 C;exact⟨d,h1⟩
 .obtain⟨hl,tag',V',r,h1,h2⟩:=h;obtain⟨l,_,⟨a',D,e,_⟩,_,_⟩:=r.c.fs x (by rw[h2];simp only[CS.fly,GF];exact hx);exact⟨_,_,_,e⟩
 .have t:0<N:=I;have m:=v t;subst m;have u:=UB x h.row h.1 B;refine h.turn ?_ (by rw[Bg];exact h.1) u (λp z=>?_)
  .exact(((DW.refl (λq=>q=g) w).setCell (p:=⟨g,_,none⟩) (.inl rfl) _).setCell (p:=⟨g,_,none⟩) (.inl rfl) _).setCell (p:=⟨g,_,none⟩) (.inl rfl) _
  rcases List.mem_or_eq_of_mem_set z with y|y
  .exact .inl y
  exact .inl (y ▸ hx)
 have t:0<N:=I;have m:=v t;subst m;obtain⟨d,h1,h2,h3,h4,h5⟩:=I6 h.row;have A:w.heap[g]?=some (.cells d.toList.toArray 173 (0,0)):=nF h1;have f:d.toList.length=cap*3:=nF h4;have o:(zy (List.replicate (N-j) Kf)).length=(N-j)*3:=by rw[JI,Bk]
 refine⟨_,R.take j++List.replicate (N-j) Kf,λty=>Mn (P:=prog) w 123 ty 173 (.agg #[.int .u64 0,.int .u64 0,.slice none 0 0]) 3 underlying123 UA rfl (by simp[Value.cells,Value.oneCell']) g (j*3) (N-j) _ d.toList _ A (by rw[f];omega),?_,?_⟩
 .rw[VZ];have s:(R.take j).length=j:=by rw[AU,h.1];omega
  refine h.turn ?_ (by rw[AG,s,Bk];omega) ?_ (λp z=>?_)
  .exact PY w g _
  .refine⟨by rw[JI,AG,s,Bk];omega,.inr ⟨g,cap,_,rfl,AM _,setRow_heap w g _ _ _ _ h1,h2,h3,?_,?_⟩⟩
   .rw[Am,length_splice _ _ _ (by rw[o,f];omega),f]
   have h6:d.toList.take (j*3)=zy (R.take j):=by
    have:=(RO h.row h.1 (n:=j) I);obtain⟨E,g1,_,_,_,g5⟩:=I6 this;rw[h1]at g1;cases g1;exact g5
   unfold splice;rw[h6,SD];have F:(zy (R.take j)).length=j*3:=by rw[JI,s]
   rw[<-List.append_assoc];simp only[DM];rw[BF (by rw[AG,F,o];omega),Aa (by rw[AG,F,o];omega)]
  rcases Al.1 z with y|y
  .exact .inl (BP y)
  exact .inr (List.eq_of_mem_replicate y)
 rw[BF (by rw[AU,h.1];omega),Bf,Ce]
def FI.done{G:Nat->CS}{n:Nat}{R:List (Dc×Value)}(h:FI tag i b W0 G a N cap N R w)(hn:n<=N):∃tag' V',zz tag i b W0 V' ((G N).fly ((R.take n).map (·.1))) tag' V' (w.setCell (b,236) (.slice a n cap)):=by
 have f:=TR h.row h.1 hn;obtain⟨hl,tag',V',r,h1,h2⟩:=h;have m:DW (λq=>q=b) w (w.setCell (U b 236) (.slice a n cap)):=(DW.refl (λq=>q=b) w).setCell (p:=⟨b,_,none⟩) (.inl rfl) _;have d:∀g,(Value.slice a n cap).ownBlock=some g->tag' g=(i,4):=λg hg=>r.c.tft g (by rw[h1];cases a<;>exact hg)
 have s:∀g,(Value.slice a n cap).ownBlock=some g->¬g=b:=λg hg e=>by
  have h3:=d g hg;rw[e,r.c.tb]at h3;simp at h3
 have l:(R.take n).length=n:=by rw[AU,hl];omega
 refine⟨tag',{ V' with ft:=.slice a n cap,fts:=(R.take n).map (·.2) },⟨?_,⟨r.e.old,r.e.new,r.e.z.mod m⟩,Ew r.e r.m (m.mono (λq o=>.inl (EW (r:=1) (by rw[show q=b from o];exact r.c.tb) mu))),r.p,⟨rfl,rfl⟩⟩⟩;refine r.c.build (R:=λr=>r=1) m (λq o=>⟨1,rfl,by rw[show q=b from o];exact r.c.tb⟩) (λ_ _=>rfl) ?_ (.inl ⟨rfl,rfl,rfl,I,I⟩) (λk hk=>.inl ⟨rfl,rfl,I⟩) (λk hk=>.inl ⟨rfl,rfl,I⟩) (λk hk=>.inl ⟨rfl,rfl,I⟩) (λk hk=>.inl ⟨rfl,rfl,I⟩) (λk hk=>.inl ⟨rfl,rfl,I⟩) (.inr ⟨?_,?_,?_,?_⟩) (.inl ⟨rfl,rfl,I⟩) (.inl ⟨rfl,rfl,I⟩) (.inl ⟨rfl,rfl,I⟩)
 .rw[zc r.c.obj];simp only[Aq];rw[show(236:Nat)=233+3 from rfl,G8 (j:=3) ((G N).fly (R.map (·.1))) ((G N).fly ((R.take n).map (·.1))) V' { V' with ft:=.slice a n cap,fts:=(R.take n).map (·.2) } (.slice a n cap) rfl rfl rfl rfl]
 .simp only[CS.fly,BB,GF,l];exact m.owns f s
 .simp[CS.fly]
 .simp only[CS.fly,GF];intro p hp;refine(r.c.fs p (by rw[h2];simp only[CS.fly,GF];exact BP hp)).mod m (λq o e=>?_) (λ_ e=>e);rw[show q=b from o,r.c.tb]at e;simp at e
 exact d
structure NG(c:CS)(rs:zC):Prop where
 sz:∀p∈c.flight,p.fs.length<=1099511627776
 ag:∀(k:Nat) p,c.flight[k]?=some p->D2 rs p=true->∀(j:Nat) f,p.fs[j]?=some f->NB ((p.fs.take j).foldl CS.ackF (c.ackPs rs (c.flight.take k))) f
def NB.fly(h:NB c f)(l:List Dc):NB (c.fly l) f :=
 ⟨h.st,λh4 hd=>by
  obtain⟨k,o⟩:=h.a h4 hd;exact⟨k,⟨o.lt,o.st,o.sent,o.came,o.end_,o.dl⟩⟩⟩
def Iw(c:CS)(rs:zC)(k:Nat):CS:=c.ackPs rs (c.flight.take k)
def TQ{lb:Nat}{t:nI}{d:Nat}{R:List (Dc×Value)}(h:FI tag i b W0 (Iw c rs) a N cap k R w)(ok:NG c rs)(u:W0.cell? cb=some (.pointer b))(l:¬Dx i tag cb)(v:W0.cell? lb=some (.slice t rs.length d))(s:¬Dx i tag lb)
  (J:RR W0 (.slice t rs.length d) rs) (y:Dp (Dx i tag) (.slice t rs.length d)) (K:∀g o n cc,Value.slice t rs.length d=.slice (some ⟨g,o,none⟩) n cc->g<W0.heap.size) (L:rs.length<=1099511627776) (m:DW DY w w1) (x:Dc×Value) (hx:R[k]?=some x) (H:c.flight[k]?=some x.1) :
  Calls prog 205 #[.agg #[.int .u64 x.1.n,.int .u64 x.1.at_,x.2],(lb,0),(cb,0)] w1 (λe w'=>e=.returned (.bool (D2 rs x.1))/\FI tag i b W0 (Iw c rs) a N cap (k+1) R w'/\∀q,w.heap.size<=q->q<w1.heap.size->w'.heap[q]?=w1.heap[q]?):=by
 obtain⟨hl,tag',V',r,h1,h2⟩:=h;have z:=r.mod0 m;have M:=zm u;have O:=zm v;have A:=z.m.cell (a:=cb) l u;have B:=z.m.cell (a:=lb) s v;have C:¬Dx i tag' cb:=by unfold Dx at l ⊢;rw[r.e.old cb M];exact l
 have D:¬Dx i tag' lb:=by unfold Dx at s ⊢;rw[r.e.old lb O];exact s
 have E:Dp (Dx i tag') (.slice t rs.length d):=by
  intro g o n cc e x;unfold Dx at x;rw[r.e.old g (K g o n cc e)]at x;exact y g o n cc e x
 have F:=AV H;have s3:=ok.sz _ F;have kc:=jB z.refl cb lb rs t d A C B D (J.mod z.m y) E L x.1 x.2 (by rw[h2];simp only[CS.fly,GF];exact AV hx) (λe j f hf=>by
  rw[Q7];exact(ok.ag k x.1 H e j f hf).fly _) s3
 refine kc.mono ?_;rintro e w' ⟨rfl,tag2,V2,G⟩;have P:((Iw c rs k).fly (R.map (·.1))).ackP rs x.1=(Iw c rs (k+1)).fly (R.map (·.1)):=by
  unfold Iw;rw[gJ c rs c.flight k x.1 H,YN]
 rw[P]at G;refine⟨rfl,⟨hl,tag2,V2,z.trans G,G.ft.1.trans h1,G.ft.2.trans h2⟩,λq hq Q=>?_⟩;refine G.m.block q Q (λhc=>?_);have:=hc.1;rw[r.e.z q hq]at this;have H:=r.p;simp at this;omega
def gI{lb:Nat}{B:nI}{d:Nat}(h:zi tag i b c V W)(ht:Dv tag W)(hi:0<i)(ok:NG c rs)(hb:c.flight.length<=1099511627776)(j:W.cell? cb=some (.pointer b))(q:¬Dx i tag cb)(r:W.cell? lb=some (.slice B rs.length d))(s:¬Dx i tag lb)
  (t:RR W (.slice B rs.length d) rs) (u:Dp (Dx i tag) (.slice B rs.length d)) (v:∀g o n cc,Value.slice B rs.length d=.slice (some ⟨g,o,none⟩) n cc->g<W.heap.size) (y:rs.length<=1099511627776) (m:DW DY W W1) (F:V.ft=.slice a N cap) (G:c.flight.length=N) :
  Calls prog 78 #[.slice a N cap,.func (.func 205) #[] #[.pointer lb,.pointer cb]] W1 (Oi (FI tag i b W (Iw c rs) a N cap) (D2 rs) (c.flight.zip V.fts) a cap):=by
 have z:(c.flight.zip V.fts).length=N:=by rw[Cy,h.fl,Ce,G]
 have A:(c.flight.zip V.fts).map (·.1)=c.flight:=DE (Ay h.fl.symm);have C:(c.flight.zip V.fts).map (·.2)=V.fts:=List.map_snd_zip (Ay h.fl);have f:=h.ft;rw[F,G]at f;obtain⟨a',H,e,J,q2,q3⟩:=zk f;cases e;have K:∀(k:Nat) (x:Dc×Value),(c.flight.zip V.fts)[k]?=some x->c.flight[k]?=some x.1:=λk x hx=>by
  have:=A8 (λl=>l[k]?) A;simp only[Bc,hx]at this;exact this.symm
 have r0:zz tag i b W V c tag V W:=⟨h,Dn.same ht (DW.refl DY W),DW.refl _ _,hi,⟨rfl,rfl⟩⟩;have j0:FI tag i b W (Iw c rs) a N cap 0 (c.flight.zip V.fts) W:=⟨z,tag,V,by rw[A];exact r0,F,C.symm⟩;obtain⟨g,hg⟩:∃g,0<N->a=some ⟨g,0,none⟩:=by
  by_cases h0:0<N
  .obtain⟨g,hg⟩:=q3 h0;exact⟨g,λ_=>hg⟩
  exact⟨0,λx=>absurd x h0⟩
 refine lh (FI tag i b W (Iw c rs) a N cap) (D2 rs) (c.flight.zip V.fts) N g cap lb cb a z I J q2 hg (FI.del hg) (FI.delK hg J) (λk w x D hx=>?_) (λk R w o x D hx E=>?_) W1 (j0.mod0 m)
 .exact(TQ D ok j q r s t u v y (DW.refl DY w) x hx (K k x hx)).mono (λe w' p=>⟨p.1,p.2.1⟩)
 exact(TQ D ok j q r s t u v y ((DW.refl DY w).alloc o) x hx (K k x E)).mono (λe w' p=>⟨p.1,p.2.1,p.2.2 _ (AF _) mv⟩)
def Ue(f:Da)(rv:Value)(b cb now:Nat)(W:World)(i:W.cell? cb=some (.pointer b))(d:W.cell? (b,3)=some (.int .u64 now)):Calls prog 48 #[.agg (zl f rv),(cb,0)] W (λe w'=>e=.returned (.bool (decide (f.dl<now)))/\w'=(W.alloc (.cells (zl f rv) 65)).drew):=by
 obtain⟨W1,c⟩:=nm (W.alloc (.cells (zl f rv) 65));have m1:=AB c;have g:zj W1 W.heap.size f rv:=by rw[<-c];exact heap_alloc_new W _
 obtain⟨fb,h⟩:=nm W.heap.size;rw[h]at g;obtain⟨y0,y1,y2,y3,y4,y5,y6,n,y8,y9⟩:=g.cells;have c1:=m1.cell (a:=cb) id i;have c3:=m1.cell (a:=U b 3) id d;obtain⟨dl,j⟩:=nm f.dl;rw[j]at n ⊢;have hd:decide ((dl:Int)<(now:Int))=decide (dl<now):=mv;have k:=zb c;have l:=zb h;have HD:=zb hd;rw[c];clear i d m1 g y0 y1 y2 y3 y4 y5 y6 y8 y9 j c h hd;go_enter func48,ntmps48;go_upto_region 1 with fail;rw[k.z,l.z];refine zG ?_;refine zo 8 (λw'=>w'.cell? (U fb 7)=some (.int .u64 dl)/\w'.cell? cb=some (.pointer b)/\w'.cell? (U b 3)=some (.int .u64 now)) (⟨n,c1,c3⟩) ?_;refine GI 0 ?_;iterate 8
  refine GV rfl ?_;try simp only[PS]
 refine zr ?_;refine⟨rfl,?_⟩;go_wp2_with fail;go_ret;exact⟨by rw[<-HD.z];rfl,rfl⟩
structure Lw(J:List Da->World->Prop)(N g o b cb now:Nat):Prop where
 box:∀R w w',J R w->DW DY w w'->J R w'
 len:∀R w,J R w->R.length=N
 cb:∀R w,J R w->w.cell? cb=some (.pointer b)
 now:∀R w,J R w->w.cell? (b,3)=some (.int .u64 now)
 rd:∀R w,J R w->∀(j:Nat) (f:Da),R[j]?=some f->∀q x,(zl f (.slice none 0 0))[q]?=some x->w.cell? ⟨g,o+j*10+q,none⟩=some x
def Lr(J:List Da->World->Prop)(now:Nat)(L:List Da)(e:Ending)(w':World):Prop :=
 (∃k:Nat,e=.returned (.int .i64 k)/\k<L.length/\(∀x∈L.take k,decide (x.dl<now)=false)/\(∀x,L[k]?=some x->decide (x.dl<now)=true)/\J L w') \/
 (e=.returned (.int .i64 (-1))/\(∀x∈L,decide (x.dl<now)=false)/\J L w')
theorem jh(J:List Da->World->Prop)(L:List Da)(N g o cap b cb now:Nat)(a:nI)(q:L.length=N)(hNb:N<=1099511627776)(r:0<N->a=some ⟨g,o,none⟩)(s:Lw J N g o b cb now)
  (w:World) (h0:J L w) :
  Calls prog 77 #[.slice a N cap,.func (.func 48) #[] #[.pointer cb]] w (Lr J now L):=by
 have j:=zb s;have H0:=zb h0;have HA:=zb r;have l:=zb q;clear s h0 r q;go_enter func77,ntmps77;go_wp2_with fail
 go_loopw [8] (λn wr=>∃k:Nat,k<=N/\n=.int .i64 k/\AA (J L wr/\∀x∈L.take k,decide (x.dl<now)=false)) (λn _=>N-(intOf n).toNat)
 case atStart=>exact⟨0,AM _,rfl,zb ⟨H0.z,λx hx=>by simp at hx⟩⟩
 case round =>
  obtain⟨k,hk,rfl,c⟩:=hrel;by_cases d:k<N
  .obtain⟨x,hx⟩:∃x,L[k]?=some x:=⟨L[k]'(by rw[l.z];exact d),AK (by rw[l.z];exact d)⟩;obtain⟨hc0,hc1,hc2,hc3,hc4,hc5,hc6,hc7,hc8,hc9⟩:=Jh (j.z.rd L wr c.z.1 k x hx);have p:=HA.z I;subst p;have m:=Ue x (.slice none 0 0) b cb now wr (j.z.cb L wr c.z.1) (j.z.now L wr c.z.1);unfold zl at m;have t:=zb hx;obtain⟨dv,f⟩:=nm (decide (x.dl<now));rw[f]at m;have h:=zb f;have u:=zb m;clear m hx f;go_wp2_with fail;refine(u.z).mono ?_;rintro e w6 ⟨rfl,i⟩;have v:AA (J L w6):=zb (by rw[i];exact j.z.box _ _ _ c.z.1 (((DW.refl DY wr).alloc _).drew));clear i u;cases dv with
   | true =>
    go_wp2_with fail;go_ret;exact .inl ⟨k,rfl,by rw[l.z];exact d,c.z.2,λx hx=>by rw[t.z]at hx;cases hx;exact h.z,v.z⟩
   | false =>
    go_wp2_with fail;go_roundw
    case rel =>
     refine⟨k+1,I,by go_num,zb ⟨v.z,λx hx=>?_⟩⟩;rw[BG,t.z]at hx;rcases Al.1 hx with hx|hx
     .exact c.z.2 x hx
     simp at hx;subst hx;exact h.z
    simp[intOf];omega
  have hk2:k=N:=I;go_wp2_with fail;go_ret;exact .inr ⟨rfl,λx hx=>c.z.2 x (by rwa [Aa (by rw[l.z];omega)]),c.z.1⟩
end
end Go.Proofs.YtddfdpbaiedcjaaGreatDoor
