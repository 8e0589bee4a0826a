/- A part of Live's proof. Conditions: none. Part 9 of 15. -/
import Derived.Test.YtddfdpbaiedcjaaGreatDoorLiv8
import Derived.Lib.BufferWrite
set_option maxRecDepth 100000
set_option maxHeartbeats 16000000
set_option linter.all false
namespace Go.Proofs.YtddfdpbaiedcjaaGreatDoor
section
open Go.RowKit Go.Proofs.Tryz
def CS.ackedTo(c:CS)(rs:zC):CS:=(({ c with largest:=max c.largest (DX rs 0) }:CS).ackPs rs c.flight).fly (c.flight.filter λp => !D2 rs p)
def PF(c:CS)(rs:zC)(h:¬c.next<=DX rs 0):c.acked rs=(0,(c.ackedTo rs).lose):=PG c rs h
variable{W W1 W2:World}{t:Nat}
def J9{x y:Value}{u:Nat}(h1:W.alloc (.cells #[x] t)=W1)(h2:W1.alloc (.cells #[y] u)=W2):DW DY W W2/\W2.cell? W.heap.size=some x/\W2.cell? (W.heap.size+1,0)=some y:=by
 have m1:=AB h1;have b:=AB h2;have hs:W1.heap.size=W.heap.size+1:=by rw[<-h1];simp
 refine⟨m1.trans b,?_,?_⟩
 .refine b.cell (a:=⟨_,0,none⟩) id ?_;rw[<-h1];exact za (heap_alloc_new W _) rfl
 rw[<-hs,<-h2];exact za (heap_alloc_new W1 _) rfl
variable{V:CV}{b i:Nat}{c:CS}{tag:nH}
def jj(h:zi tag i b c V W)(B:Dv tag W)(hi:0<i)(rs:zC)(t:nI)(a:Nat)(u:RR W (.slice t rs.length a) rs)(C:∀g,Value.blk (.slice t rs.length a)=some g->(tag g).1≠i)(h0:0<rs.length)(D:rs.length<=1099511627776)(hn:c.next<=DX rs 0):Calls prog 158 #[(b,0),.slice t rs.length a] W (Ej tag i b W (.int .i64 11) c):=by
 obtain⟨N,k⟩:=nm (W.alloc (.cells #[(b,0)] 69));obtain⟨W1,d⟩:=nm (N.alloc (.cells #[.slice t rs.length a] 63));obtain⟨m1,v,q⟩:=J9 k d;have l:=AC k;have w:W1.heap.size=W.heap.size+2:=by rw[<-d];simp[l]
 have n:=u.mod m1 (Dp.no _);obtain⟨a',p,r,q1,q2,h3⟩:=id n;obtain⟨g,o,y,e1,A,b1,b2⟩:=h3 0 h0;have A:W1.cell? (g,o+1)=some (.int .u64 (DX rs 0:Int)):=nF A;have E:t=some ⟨g,o,none⟩:=by cases r;exact y
 have F:p=a:=by cases r;rfl
 subst E;subst F;have h1:=h.mod0 m1;have G:=B.mod m1;obtain⟨RL,m⟩:=nm rs.length;obtain⟨cb,e⟩:=nm W.heap.size;obtain⟨z,f⟩:=nm (DX rs 0);obtain⟨nx,s⟩:=nm c.next;have d0:0<RL:=I;have d1:(nx:Int)<=z:=by rw[<-s,<-f];omega
 rw[e]at v q l w;rw[m]at q;rw[f]at A b2;have c6:W1.cell? (b,6)=some (.int .u64 nx):=by rw[<-s];exact h1.hd (j:=6) rfl
 have H0:=zb (h1.mod0 (DW.refl DY W1).drew);have HM:=zb m1;have HT:=zb B;rw[m]at d;have H:=zb k;have J:=zb d;have K:=zb l;have L:=zb e;rw[m];clear h B h1 G u n C h0 h3 y r q1 q2 e1 b1 k d l w m f s e m1 hn D hi;go_enter func158,ntmps158;go_upto_region 1 with fail;rw[H.z,J.z,L.z];try rw[K.z]
 refine zG ?_;refine zo 9 (λw'=>w'.cell? cb=some (.pointer b)/\w'.cell? (U (cb+1) 0)=some (.slice (g,o) RL p)/\w'.cell? (g,o+1)=some (.int .u64 z)/\w'.cell? (U b 6)=some (.int .u64 nx)) (⟨v,q,A,c6⟩) ?_;refine GI 0 ?_;iterate 9
  refine GV rfl ?_;try simp only[PS]
 refine zr ?_;refine⟨rfl,?_⟩;go_wp2_with fail;go_ret;exact⟨rfl,H0.z.left HT.z (HM.z.drew.mono (λ_ x=>x.elim))⟩
def ji(h:zi tag i b c V W)(ht:Dv tag W)(hi:0<i)(rs:zC)(la:nI)(d:Nat)(ad:RR W (.slice la rs.length d) rs)(ae:∀g,Value.blk (.slice la rs.length d)=some g->(tag g).1≠i)(h0:0<rs.length)(af:rs.length<=1099511627776)(hn:¬c.next<=DX rs 0)(hb:c.flight.length<=1099511627776)(ok:NG { c with largest:=max c.largest (DX rs 0) } rs)(ah:Kj (c.ackedTo rs)):Calls prog 158 #[(b,0),.slice la rs.length d] W (Ej tag i b W (.int .i64 0) (c.ackedTo rs).lose):=by
 obtain⟨W0,E⟩:=nm (W.alloc (.cells #[(b,0)] 69));obtain⟨W1,t⟩:=nm (W0.alloc (.cells #[.slice la rs.length d] 63));obtain⟨m1,u,s⟩:=J9 E t;have F:=AC E;have ai:W1.heap.size=W.heap.size+2:=by rw[<-t];simp[F]
 have v:=ad.mod m1 (Dp.no _);obtain⟨a',w,O,q1,q2,h3⟩:=id v;obtain⟨g,o,aj,e1,P,b1,b2⟩:=h3 0 h0;have P:W1.cell? (g,o+1)=some (.int .u64 (DX rs 0:Int)):=nF P;have az:la=some ⟨g,o,none⟩:=by cases O;exact aj
 have aA:w=d:=by cases O;rfl
 subst az;subst aA;have h1:=h.mod0 m1;have ak:=ht.mod m1;obtain⟨RL,y⟩:=nm rs.length;obtain⟨cb,z⟩:=nm W.heap.size;obtain⟨A,B⟩:=nm (DX rs 0);obtain⟨nx,Q⟩:=nm c.next;have d0:0<RL:=I;have d1:¬(nx:Int)<=A:=by rw[<-Q,<-B];omega
 rw[z]at u s F ai;rw[y]at s;rw[B]at P b2;have c6:W1.cell? (b,6)=some (.int .u64 nx):=by rw[<-Q];exact h1.hd (j:=6) rfl
 have S:W1.cell? (b,237)=some (.int .u64 c.largest):=h1.tl (j:=4) rfl;have al:=h1.fz 237;obtain⟨lg,am⟩:=nm c.largest;obtain⟨L2,T⟩:=nm (max c.largest (DX rs 0));rw[T]at ok;have ez:(if lg<A then(A:Int)else(lg:Int))=(L2:Int):=by split<;>omega
 rw[am]at S;obtain⟨W2,G⟩:=nm (W1.setCell (U b 237) (.int .u64 L2));have X:DW (λq=>q=b) W1 W2:=by rw[<-G];exact(DW.refl (λq=>q=b) W1).setCell (p:=⟨b,_,none⟩) (.inl rfl) _
 have h2:zi tag i b { c with largest:=L2 } V W2:=by
  rw[<-G];exact h1.store (233+4) _ (G8 c { c with largest:=L2 } V V (j:=4) _ rfl rfl rfl rfl) ⟨rfl,λ_ _=>⟨rfl,rfl,rfl⟩,λ_ _=>⟨rfl,rfl⟩,rfl,rfl,rfl,rfl⟩
 have an:=ak.mod X;have C:∀q,cb<=q->¬Dx i tag q:=λq hq x=>by
  have h5:=x.1;rw[ht q I]at h5;simp at h5;omega
 have Y:∀q,cb<=q->q≠b:=λq hq e=>C q hq (by rw[e];exact EW h.tb mu)
 have D:=X.cell (a:=cb) (Y _ (AF _)) u;have H:=X.cell (a:=U (cb+1) 0) (Y _ (by show cb<=cb+1;omega)) s;have aa:=ae g rfl;have ab:¬g=b:=λe=>aa (by rw[e,h.tb])
 have J:=v.mod X (λg' o' n' c' e x=>by cases e;exact ab x);obtain⟨a,cap,hv,_⟩:=zk h2.ft;obtain⟨N,hN⟩:=nm c.flight.length;have hv:V.ft=.slice a N cap:=by rw[hv];simp only[hN]
 have ao:=zm (X.cell (a:=⟨g,_,none⟩) ab P);have kd:=gI h2 an hi ok hb D (C _ (AF _)) (by rw[y];exact H) (C _ I) J (λg' o' n' c' e x=>by cases e;exact aa x.1) (λg' o' n' c' e=>by cases e;exact ao) af ((DW.refl DY W2).drew.drew.drew) hv hN;have ap:W2.cell? (b,236)=some (.slice a N cap):=by rw[<-hv];exact h2.tl (j:=3) rfl
 have fz:=h2.fz 236;have aq:(c.flight.zip V.fts).length=N:=by rw[Cy,h.fl,Ce,hN]
 have ar:(c.flight.zip V.fts).map (·.1)=c.flight:=DE (Ay h.fl.symm);have au:c.ackedTo rs=(({ c with largest:=L2 }:CS).ackPs rs c.flight).fly (c.flight.filter λp => !D2 rs p):=by unfold CS.ackedTo;rw[T]
 have MW:AA (DW (Dx i tag) W W2):=zb ((m1.mono (λ_ x=>x.elim)).trans (X.mono (λq hq=>.inl (EW (r:=1) (by rw[show q=b from hq];exact h.tb) mu))));have KD:=zb kd;have HT:=zb ht;have HI:=zb hi;have av:=zb C;have ac:=zb D;have HZ:=zb (And.intro aq ar);have HN:=zb hN;have aB:=zb G;have aw:=zb ah;have HB:=zb hb;have aC:=zb au;rw[y]at t;have aD:=zb E;have aE:=zb t;have aF:=zb F;have aG:=zb z;rw[y];clear h ht h1 ak ad v J ae h0 h3 aj O q1 q2 e1 b1 E t G F ai y B Q z m1 X hn af hi h2 an am T ok ah hb C Y D H aa ab ao kd aq ar au hN hv;go_enter func158,ntmps158;go_upto_region 1 with fail;rw[aD.z,aE.z,aG.z];try rw[aF.z]
 refine zG ?_;refine zo 9 (λw'=>w'.cell? cb=some (.pointer b)/\w'.cell? (U (cb+1) 0)=some (.slice (g,o) RL w)/\w'.cell? (g,o+1)=some (.int .u64 A)/\w'.cell? (U b 6)=some (.int .u64 nx)) (⟨u,s,P,c6⟩) ?_;refine GI 0 ?_;iterate 9
  refine GV rfl ?_;try simp only[PS]
 refine zr ?_;refine⟨rfl,?_⟩;go_upto_region 3 with fail;refine zG ?_;refine zo 12 (λw'=>w'.cell? cb=some (.pointer b)/\w'.cell? (U (cb+1) 0)=some (.slice (g,o) RL w)/\w'.cell? (g,o+1)=some (.int .u64 A)/\w'.cell? (U b 237)=some (.int .u64 lg)/\w'.frozen? ⟨b,237,none⟩=false) (⟨u,s,P,S,al⟩) ?_;refine GI 0 ?_;iterate 12
  refine GV rfl ?_;try simp only[PS]
 refine EX rfl (λK L=>?_);go_simp;try simp only[ez]
 refine L.z _ _ ?_;clear L K;try simp only[PS]
 refine zr ?_;refine⟨rfl,?_⟩;go_upto_region 4 with fail;rw[aB.z];refine zG ?_;refine zo 9 (λw'=>w'.cell? cb=some (.pointer b)/\w'.cell? (U b 236)=some (.slice a N cap)/\w'.frozen? ⟨b,236,none⟩=false) (⟨ac.z,ap,fz⟩) ?_;refine GI 0 ?_;iterate 6
  refine GV rfl ?_;try simp only[PS]
 refine zE 6 rfl (λK L=>?_);go_simp
 with_reducible refine(KD.z).mono ?_
 rintro e w6 ⟨n,R,rfl,ax,hj,hR⟩;have HJ:=zb (And.intro ax (And.intro hj hR));have hF:w6.cell? cb=some (.pointer b)/\w6.cell? (b,236)=some (.slice a N cap)/\w6.frozen? ⟨b,236,none⟩=false:=by
  obtain⟨hl,tag',V',r,g1,g2⟩:=hj;exact⟨r.m.cell (a:=cb) (av.z _ (AF _)) ac.z,by rw[<-g1];exact r.c.tl (j:=3) rfl,r.c.fz 236⟩
 clear hj ax hR;go_simp;refine L.z _ _ hF ?_;obtain⟨p0,p1,p2⟩:=hF;clear L K;try simp only[PS]
 refine GI 7 ?_;iterate 2
  refine GV rfl ?_;try simp only[PS]
 refine EX rfl (λK L=>?_);go_simp;refine L.z _ _ ?_;clear L K;try simp only[PS]
 refine zr ?_;refine⟨rfl,?_⟩;obtain⟨Z,hZ⟩:=nm (w6.setCell (U b 236) (.slice a n cap));have hD:∃tag' V',zz tag i b W2 V' (c.ackedTo rs) tag' V' Z:=by
  obtain⟨j1,j2,j3⟩:=HJ.z;rw[HZ.z.1]at j1 j2;have hR:(R.take n).map (·.1)=c.flight.filter λp => !D2 rs p:=by
   rw[j3];have e:=List.filter_map (f:=λx:Dc×Value=>x.1) (p:=λp => !D2 rs p) (l:=c.flight.zip V.fts);rw[HZ.z.2]at e;exact e.symm
  have:=j2.done j1;rw[hZ,hR]at this;rw[aC.z];unfold Iw at this;rw[<-HN.z,Aa (AF _)]at this;exact this
 obtain⟨aH,V7,r7⟩:=hD;have M:(c.ackedTo rs).flight.length<=1099511627776:=AJ (Co _ _) HB.z;have kl:=T9 r7.c r7.e.z HI.z aw.z M;have zcb:=r7.m.cell (a:=cb) (av.z _ (AF _)) ac.z;have KL:=zb kl;have R7:=zb r7;clear kl r7 p0 p1 p2 ap fz u s P S al c6 M;try rw[hZ]
 clear hZ;go_wp2_with fail;refine(KL.z).mono ?_;rintro e w9 ⟨rfl,ay,V9,r1,r2,r3⟩;have R9:=zb (And.intro r1 (And.intro r2 r3));clear r1 r2 r3;go_wp2_with fail;go_ret;refine⟨rfl,ay,V9,R9.z.1,?_,?_⟩
 .have x1:Dn i tag tag W W2:=Dn.same HT.z MW.z;exact(x1.trans R7.z.e MW.z.size).trans R9.z.2.1 (AJ MW.z.size R7.z.m.size)
 refine(MW.z.trans R7.z.m).ofC.then R9.z.2.2 (λg hg=>?_);by_cases hz:g<W2.heap.size
 .rw[R7.z.e.old g hz]at hg;exact .inl hg
 exact .inr (AJ MW.z.size I)
variable{k:Nat}
def zi.rcameAt(h:zi tag i b c V W)(hk:k<8)(hl:(c.rs k).came.rs.length<=1099511627776):El W b (129+13*k+1) (V.rc k) (c.rs k).came.rs (c.rs k).came.fl (c.rs k).came.most :=
 ⟨h.r (j:=1) hk rfl,h.r (j:=2) hk rfl,h.r (j:=3) hk rfl,h.rc k hk,hl,λj=>h.fz j⟩
variable{V' V0:CV}{W' W'' W0:World}{s:Dl}{tag':nH}{v':Value}
def zz.rcame(h:zz tag i b W0 V0 c tag' V' W')(hk:k<8)(ha:NC s b (129+13*k+1) (V'.rc k) W' W'' v')(hm:s.most=(c.rs k).came.most):∃tag2 V2,zz tag i b W0 V0 { c with rs:=zf c.rs k { c.rs k with came:=s } } tag2 V2 W''/\∀g,g<W'.heap.size->tag2 g=tag' g:=by
 obtain⟨f,l,d,u⟩:=ha;have v:=h.p;have n:∀{g r:Nat},tag' g=(i,r)->g<W'.heap.size:=λhg=>Ei h.e.z hg v
 have o:∀g,(tag' g).1=i->zQ tag' W' W'' (i,50+k) g=tag' g:=λg hg=>zD (n (r:=(tag' g).2) (by rw[<-hg]))
 have w:∀g,(g=b\/(V'.rc k).ownBlock=some g)->∃r,(r=1\/r=50+k)/\tag' g=(i,r):=λg hg=>by
  rcases hg with hg|hg
  .exact⟨1,.inl rfl,by rw[hg,h.c.tb]⟩
  exact⟨50+k,.inr rfl,h.c.trc k hk g hg⟩
 refine⟨zQ tag' W' W'' (i,50+k),{ V' with rc:=zf V'.rc k v' },⟨?_,h.e.trans (Jt d.size) h.m.size,Ew h.e h.m (d.mono (λg hg=>.inl ?_)),v,h.ft⟩,λg hg=>zD hg⟩
 .refine h.c.build (R:=λr=>r=1\/r=50+k) d w o ?_ (.inl ⟨rfl,rfl,rfl,I,I⟩) (λq t=>.inl ⟨rfl,rfl,I⟩) (λq t=>.inl ⟨rfl,rfl,I⟩) (λq t=>.inl ⟨rfl,rfl,I⟩) (λq t=>.inl ⟨?_,rfl,I⟩) (λq t=>?_) (.inl ⟨rfl,rfl,rfl,I,I⟩) (.inl ⟨rfl,rfl,I⟩) (.inl ⟨rfl,rfl,I⟩) (.inl ⟨rfl,rfl,I⟩)
  .rw[l,zc (zc h.c.obj)];simp only[Aq];have e1:=Ky c c V' { V' with rc:=zf V'.rc k v' } (k:=k) (j:=1) v' hk mu (λq _=>by
    by_cases a:q=k
    .subst a;simp only[ze,BC];rfl
    simp only[zd _ _ a,AI a]) rfl rfl rfl
   rw[e1];have e2:=Ky c { c with rs:=zf c.rs k { c.rs k with came:=s } } { V' with rc:=zf V'.rc k v' } { V' with rc:=zf V'.rc k v' } (k:=k) (j:=2) (.int .u64 s.fl) hk mu (λq _=>by
    by_cases a:q=k
    .subst a;simp only[ze,BC,Gp,hm];rfl
    simp only[zd _ _ a,AI a]) rfl rfl rfl
   rw[show 129+13*k+1+1=129+13*k+2 from rfl,e2]
  .by_cases a:q=k
   .subst a;simp only[ze]
   simp only[zd _ _ a]
  by_cases a:q=k
  .subst a;simp only[ze];refine .inr ⟨f,λg hg=>?_⟩;rcases u g hg with y|y
   .rw[zD (n (h.c.trc q hk g y)),h.c.trc q hk g y]
   exact Gs y (zK f g hg)
  exact .inl ⟨by simp only[zd _ _ a],by simp only[zd _ _ a],I⟩
 obtain⟨r,hr,e⟩:=w g hg;exact EW e I
variable{bs:nG}
def zz.rbytes(h:zz tag i b W0 V0 c tag' V' W')(hk:k<8)(f:OB W'' v' bs)(l:W''.heap[b]?=(W'.setCell (b,129+13*k) v').heap[b]?)(d:DW (λq=>q=b\/(V'.rb k).ownBlock=some q) W' W'')(t:EA W' (V'.rb k) v'):∃tag2 V2,zz tag i b W0 V0 { c with rs:=zf c.rs k { c.rs k with b:=bs } } tag2 V2 W''/\∀g,g<W'.heap.size->tag2 g=tag' g:=by
 have u:=h.p;have n:∀{g r:Nat},tag' g=(i,r)->g<W'.heap.size:=λhg=>Ei h.e.z hg u
 have o:∀g,(tag' g).1=i->zQ tag' W' W'' (i,40+k) g=tag' g:=λg hg=>zD (n (r:=(tag' g).2) (by rw[<-hg]))
 have v:∀g,(g=b\/(V'.rb k).ownBlock=some g)->∃r,(r=1\/r=40+k)/\tag' g=(i,r):=λg hg=>by
  rcases hg with hg|hg
  .exact⟨1,.inl rfl,by rw[hg,h.c.tb]⟩
  exact⟨40+k,.inr rfl,h.c.trb k hk g hg⟩
 refine⟨zQ tag' W' W'' (i,40+k),{ V' with rb:=zf V'.rb k v' },⟨?_,h.e.trans (Jt d.size) h.m.size,Ew h.e h.m (d.mono (λg hg=>.inl ?_)),u,h.ft⟩,λg hg=>zD hg⟩
 .refine h.c.build (R:=λr=>r=1\/r=40+k) d v o ?_ (.inl ⟨rfl,rfl,rfl,I,I⟩) (λq s=>.inl ⟨rfl,rfl,I⟩) (λq s=>.inl ⟨rfl,rfl,I⟩) (λq s=>.inl ⟨rfl,rfl,I⟩) (λq s=>?_) (λq s=>.inl ⟨?_,rfl,I⟩) (.inl ⟨rfl,rfl,rfl,I,I⟩) (.inl ⟨rfl,rfl,I⟩) (.inl ⟨rfl,rfl,I⟩) (.inl ⟨rfl,rfl,I⟩)
  .rw[l,zc h.c.obj];simp only[Aq];rw[show 129+13*k=129+13*k+0 from rfl,Ky c { c with rs:=zf c.rs k { c.rs k with b:=bs } } V' { V' with rb:=zf V'.rb k v' } (k:=k) (j:=0) v' hk mu (λq _=>by
    by_cases a:q=k
    .subst a;simp only[ze,BC];rfl
    simp only[zd _ _ a,AI a]) rfl rfl rfl]
  .by_cases a:q=k
   .subst a;simp only[ze];refine .inr ⟨f,λg hg=>?_⟩;rcases t g hg with y|y
    .rw[zD (n (h.c.trb q hk g y)),h.c.trb q hk g y]
    exact Gs y (zK f g hg)
   exact .inl ⟨by simp only[zd _ _ a],by simp only[zd _ _ a],I⟩
  by_cases a:q=k
  .subst a;simp only[ze]
  simp only[zd _ _ a]
 obtain⟨r,hr,e⟩:=v g hg;exact EW e I
def zz.addRcame(h:zz tag i b W0 V0 c tag' V' W')(hk:k<8)(d:(c.rs k).came.Ok)(lo hi:Nat)(j:lo<=zF)(l:hi<=zF):Calls prog 88 #[(b,129+13*k+1),lo,hi] W' (QG tag i b W0 V0 { c with rs:=zf c.rs k { c.rs k with came:=(c.rs k).came.add lo hi } } tag' W'):=by
 have hm:=d.most;have hrl:=d.rl;have m:=d.fl;have hp:=h.p;unfold zF at j l m;have n:(V'.rc k).ownBlock≠some b:=λe=>by
  have h1:=h.c.trc k hk b e;rw[h.c.tb]at h1;have:=A8 Prod.snd h1;simp only at this;omega
 refine(Ku (c.rs k).came b (129+13*k+1) lo hi (V'.rc k) W' (h.c.rcameAt hk I) d.wf I I I n hm.1 I).mono ?_;rintro e W'' ⟨v',rfl,h1,h2,h3,h4⟩;refine⟨rfl,?_,λg hg f=>h3.block g hg (λx=>?_)⟩
 .obtain⟨tag2,V2,r,f⟩:=h.rcame hk ⟨h1,h2,h3,h4⟩ (IN _ _ _);exact⟨tag2,V2,r,f⟩
 rcases x with x|x
 .have a:=h.c.tb;rw[<-x,f]at a;have:=A8 Prod.snd a;simp at this
 have a:=h.c.trc k hk g x;rw[f]at a;have:=A8 Prod.snd a;simp at this;omega
theorem NZ(rs:zC):∀lo e,lo<e->(Dj rs lo e).1<e->lo<=(Dj rs lo e).1/\(Dj rs lo e).1<(Dj rs lo e).2:=by
 induction rs with
 | nil=>intro lo e h _;exact⟨AF _,h⟩
 | cons r l ih =>
  intro lo e hl h;unfold Dj at h ⊢;by_cases h1:r.2<lo
  .rw[AQ h1]at h ⊢;exact ih lo e hl h
  rw[AI h1]at h ⊢;by_cases h2:lo<r.1
  .rw[AQ h2]at h ⊢;exact⟨AF _,Nat.lt_min.2 ⟨hl,h2⟩⟩
  rw[AI h2]at h ⊢;have hk:∀(l:zC) lo e,(Dj l lo e).1<e->lo<e:=by
   intro l
   induction l with
   | nil=>intro lo e h;exact h
   | cons q l ih2 =>
    intro lo e h;unfold Dj at h;by_cases g1:q.2<lo
    .rw[AQ g1]at h;exact ih2 _ _ h
    rw[AI g1]at h;by_cases g2:lo<q.1
    .rw[AQ g2]at h;exact h
    rw[AI g2]at h;have:=ih2 _ _ h;omega
  have:=hk _ _ _ h;obtain⟨a,b⟩:=ih (r.2+1) e this h;exact⟨I,b⟩
def Pr(l:nG)(a b:Nat):(zu l).extract a b=zu ((l.drop a).take (b-a)):=by
 rw[Lib.extract_eq,Iq];rfl
def Nj(b:nG)(i:Nat)(s:nG)(h:i+s.length<=b.length):(Ie b i s).length=b.length:=by
 unfold Ie;simp only[AG,AU,Ac];omega
variable{cap g lo:Nat}{w:World}
def XG{s:nG}(h:OB w (.slice g bs.length cap) bs)(hf:lo+s.length<=bs.length)(c d:Nat)(hd:s.length<=c):∃w',(∀ty,(Builtin.copy_ #[60,9] ty #[.slice (g,lo) c d,.string (zu s)]).run prog w=.ok (goInt s.length) w')/\OB w' (.slice g bs.length cap) (Ie bs lo s)/\DW (λq=>q=g) w w':=by
 rcases h.2 with⟨e,_⟩|⟨g',f,a,e,_,h1,h2,h3,h4,b⟩
 .cases e
 cases e;have hcs:a.size=cap:=nF h4;have b:a.toList.take bs.length=zU bs:=nF b;have hk:∀ty,_:=λty=>Lib.run_copy_row_string (P:=prog) w 60 9 ty 5 g lo c d (zu s) a _ underlying60 mr h1 (by rw[zJ];exact hd) (by rw[zJ];omega)
 rw[zJ]at hk;refine⟨_,hk,?_,PY w g _⟩;unfold OB;rw[Nj bs lo s hf];refine⟨?_,.inr ⟨g,cap,_,rfl,AM _,setRow_heap w g a _ _ _ h1,h2,h3,?_,?_⟩⟩
 .rw[JH,Nj bs lo s hf,DJ]
 .simp only[Am,AG,AU,Ac,CA,Lib.byteCells_length,Iq];omega
 simp only[DJ,Iq,Ie,Nh];have hl:Lib.byteCells s=zU s:=rfl;have e1:zU (bs.take lo)=a.toList.take lo:=by
  have:zU (bs.take lo)=(zU bs).take lo:=by simp[zU,List.map_take]
  rw[this,<-b,Bf,BZ I]
 have e2:zU (bs.drop (lo+s.length))=(a.toList.drop (lo+s.length)).take (bs.length-(lo+s.length)):=by
  have:zU (bs.drop (lo+s.length))=(zU bs).drop (lo+s.length):=by simp[zU,List.map_drop]
  rw[this,<-b,C9]
 rw[e1,e2,hl,Ap];have i:(a.toList.take lo).length=lo:=by rw[AU,CA];omega
 generalize a.toList.take lo=A at i ⊢;generalize a.toList.drop (lo+s.length)=B;have e3:A.take bs.length=A:=Aa I;have e4:(zU s).take (bs.length-lo)=zU s:=Aa (by rw[JH];omega);rw[List.take_append,i,e3,List.take_append,JH,e4,(I:bs.length-lo-s.length=bs.length-(lo+s.length))]
def zz.rbne(h:zz tag i b W0 V0 c tag' V' W')(hk:k<8):¬(V'.rb k).ownBlock=some b:=λe=>by
 have h1:=h.c.trb k hk b e;rw[h.c.tb]at h1;have:=A8 Prod.snd h1;simp only at this;omega
def zz.rapp{s:nG}(h:zz tag i b W0 V0 c tag' V' W')(hk:k<8)(d:Dz W' (V'.rb k) (c.rs k).b s v' W2):(∃tag2 V2,zz tag i b W0 V0 { c with rs:=zf c.rs k { c.rs k with b:=(c.rs k).b++s } } tag2 V2 (W2.setCell (b,129+13*k) v'))/\W2.cell? (b,129+13*k)=some (V'.rb k)/\W2.frozen? ⟨b,129+13*k,none⟩=false:=by
 have hb:=h.rbne hk;have m1:=(DW.refl _ W').grown d.grown (λg hg=>.inl hg);have o1:=m1.obj hb h.c.obj;have hw:DW (λg=>g=b) W2 (W2.setCell (b,129+13*k) v'):=(DW.refl (λg=>g=b) _).setCell (p:=(b,129+13*k)) (.inl rfl) _;have f:=Ei h.e.z h.c.tb h.p;have l:∀g,v'.ownBlock=some g->¬g=b:=λg hg x=>by
  subst x;rcases d.at_ g hg with y|y
  .exact hb y
  omega
 obtain⟨tag2,V2,r,_⟩:=h.rbytes hk (hw.owns d.own l) (Ni (m1.block b f hb) _ _) ((m1.mono (λg hg=>.inl (.inr hg))).setCell (p:=⟨b,_,none⟩) (.inl (.inl rfl)) _) d.at_;exact⟨⟨tag2,V2,r⟩,m1.cell (a:=⟨b,_,none⟩) hb (h.c.r (j:=0) hk rfl),zg o1⟩
def zz.rturn{n:Nat}(h:zz tag i b W0 V0 c tag' V' W')(hk:k<8)(a:V'.rb k=.slice g n cap)(ho:OB W2 (.slice g n cap) bs)(m:DW (λq=>q=g) W' W2):∃tag2 V2,zz tag i b W0 V0 { c with rs:=zf c.rs k { c.rs k with b:=bs } } tag2 V2 W2:=by
 have hb:=h.rbne hk;have d:¬b=g:=λe=>hb (by rw[a,e];rfl)
 have c0:W'.cell? (b,129+13*k)=some (V'.rb k):=h.c.r (j:=0) hk rfl;obtain⟨tag2,V2,r,_⟩:=h.rbytes hk (v':=V'.rb k) (by rw[a];exact ho) (by rw[Nk c0];exact m.block b (Ei h.e.z h.c.tb h.p) d) (m.mono (λq hq=>.inl (.inr (by rw[a,show q=g from hq];rfl)))) (EA.refl _ _);exact⟨tag2,V2,r⟩
structure QI(c:CS)(f:Da)(k:Nat):Prop where
 lt:k<8
 st:f.stream=(k:Int)
 high:∀j,j<8->(c.rs j).high<=1099511627776
 grant:(c.rs k).grant<=1099511627776
 cgrant:c.grant<=zF
 fin:(c.rs k).fin<=zF
 end_:f.end_<=zF
 dl:f.data.length<=1099511627776
 came:(c.rs k).came.Ok
 bl:(c.rs k).b.length<=(c.rs k).high
variable{B:Nat}
theorem T8{rs:Nat->RS}(h:∀j,j<8->(rs j).high<=B):∀n,n<=8->Ft rs n<=n*B
 | 0,_=>by simp[Ft]
 | n+1,hn=>by
  have:=T8 h n I;have:=h n I;rw[Nat.succ_mul];show Ft rs n+(rs n).high<=_;omega
def go(off:Nat)(data:nG)(e n lo:Nat)(b:nG)(s:Dl)(h:lo<e)(h2:(Dj s.rs lo e).1<e):Ep off data e (n+1) lo b s=Ep off data e n (Dj s.rs lo e).2 (Ie b (Dj s.rs lo e).1 ((data.drop ((Dj s.rs lo e).1-off)).take ((Dj s.rs lo e).2-(Dj s.rs lo e).1))) (s.add (Dj s.rs lo e).1 ((Dj s.rs lo e).2-1)):=by
 rw[Ep,AQ h,AI I]
theorem YJ(off:Nat)(data:nG)(e n lo:Nat)(b:nG)(s:Dl)(h:¬lo<e):Ep off data e n lo b s=(b,s):=by
 cases n with
 | zero=>rfl
 | succ n=>rw[Ep,AI h]
theorem gm(off:Nat)(data:nG)(e n lo:Nat)(b:nG)(s:Dl)(h:lo<e)(h2:¬(Dj s.rs lo e).1<e)(hn:0<n):Ep off data e n lo b s=(b,s):=by
 cases n with
 | zero=>omega
 | succ n=>rw[Ep,AQ h,AQ I]
variable{f:Da}
def YI(a:f.stream=(k:Int))(h:(c.rs k).badEnd f=true):c.data f=(10,c):=by
 unfold CS.data;rw[a];simp[h]
def Ug(a:f.stream=(k:Int))(h:(c.rs k).badEnd f=false)(h2:(c.rs k).high<f.end_/\((c.rs k).grant<f.end_\/c.grant<f.end_-(c.rs k).high+Ft c.rs 8)):c.data f=(9,c):=by
 unfold CS.data;rw[a];simp only[Ae,h,BX,Be];rw[AQ h2]
def Uf(a:f.stream=(k:Int))(h:(c.rs k).badEnd f=false)(h2:¬((c.rs k).high<f.end_/\((c.rs k).grant<f.end_\/c.grant<f.end_-(c.rs k).high+Ft c.rs 8))):c.data f=(0,{ c with rs:=zf c.rs k ((c.rs k).data f) }):=by
 unfold CS.data;rw[a];simp only[Ae,h,BX,Be];rw[AI h2]
theorem gk(h:zi tag i b c V W)(ht:Dv tag W)(hi:0<i)(f:Da)(rv:Value)(k:Nat)(ok:QI c f k)(bJ:∃a n cap,rv=.slice a n cap):Calls prog 159 #[(b,0),.agg (zl f rv)] W (Ej tag i b W (.int .i64 ((c.data f).1:Int)) (c.data f).2):=by
 have hk:=ok.lt;have aL:=ok.st;obtain⟨ra,rn,aM,rfl⟩:=bJ;obtain⟨W1,aq⟩:=nm (W.alloc (.cells (zl f (.slice ra rn aM)) 65));have m1:=AB aq;have ar:zj W1 W.heap.size f (.slice ra rn aM):=by rw[<-aq];exact heap_alloc_new W _
 have aN:¬Dx i tag W.heap.size:=λx=>by
  have h1:=x.1;rw[ht _ (AF _)]at h1;simp at h1;omega
 have h1:=h.mod0 m1;have r0:zz tag i b W1 V c tag V W1:=⟨h1,Dn.same (ht.mod m1) (DW.refl DY W1),DW.refl _ _,hi,⟨rfl,rfl⟩⟩;have B:AA (∀{c':CS} {tag':nH} {V':CV} {W':World},zz tag i b W1 V c' tag' V' W'->Ds tag i b W c' W'):=zb (λr =>
  ⟨_,_,r.c,IS ht m1 r.e,(m1.mono (λ_ x=>x.elim)).then r.m.ofC (λg hg=>.inl hg)⟩)
 obtain⟨fb,aO⟩:=nm W.heap.size;rw[aO]at ar aN;have aP:AA (∀{c':CS} {tag':nH} {V':CV} {W':World},zz tag i b W1 V c' tag' V' W'->zj W' fb f (.slice ra rn aM)):=zb (λr=>ar.mod r.m aN);obtain⟨y0,y1,y2,y3,y4,y5,y6,y7,y8,y9⟩:=ar.cells;rw[aL]at y1;obtain⟨x,hx⟩:=nm (c.rs k);obtain⟨off,O⟩:=nm f.off;obtain⟨d,C⟩:=nm f.data;obtain⟨DL,X⟩:=nm d.length;obtain⟨E,hE⟩:=nm f.end_;obtain⟨fi,au⟩:=nm f.fin;obtain⟨en,av⟩:=nm x.ended;obtain⟨FN,Y⟩:=nm x.fin;obtain⟨F,Z⟩:=nm x.high;obtain⟨GR,aw⟩:=nm x.grant;obtain⟨CG,ax⟩:=nm c.grant;obtain⟨bad,aa⟩:=nm (x.badEnd f);have ab:E=off+DL:=by rw[<-hE,<-O,<-X,<-C];rfl
 have a6:AA (((en&&(decide (FN<E)||(fi&&E != FN)))||(fi&&decide (E<F)))=bad):=zb (by
  rw[<-aa];unfold RS.badEnd;rw[av,Y,hE,au,Z])
 have q1:=ok.high k hk;have q2:=ok.grant;have q3:=ok.cgrant;have q4:=ok.fin;have q5:=ok.end_;have q6:=ok.dl;have q7:=ok.bl;have q8:=T8 ok.high;rw[hx]at q1 q2 q4 q7;rw[Z]at q1 q7;rw[aw]at q2;rw[Y]at q4;rw[ax]at q3;rw[hE]at q5;rw[C,X]at q6;unfold zF at q3 q4 q5;have r4:W1.cell? (b,129+k*13+4)=some (.int .u64 F):=by rw[<-Z,<-hx,AL];exact h1.r (j:=4) hk rfl
 have r5:W1.cell? (b,129+k*13+5)=some (.int .u64 FN):=by rw[<-Y,<-hx,AL];exact h1.r (j:=5) hk rfl
 have r6:W1.cell? (b,129+k*13+6)=some (.bool en):=by rw[<-av,<-hx,AL];exact h1.r (j:=6) hk rfl
 have bK:W1.cell? (b,129+k*13+11)=some (.int .u64 GR):=by rw[<-aw,<-hx,AL];exact h1.r (j:=11) hk rfl
 have bL:W1.cell? (b,234)=some (.int .u64 CG):=by rw[<-ax];exact h1.tl (j:=1) rfl
 have fz:=h1.fz;have bM:AA (∀j,j<8->W1.cell? ⟨b,129+j*13+4,none⟩=some (.int .u64 ((c.rs j).high:Int))):=zb (λj hj=>by rw[AL];exact h1.r (j:=4) hj rfl);have a7:=zb q8;rw[O]at y2;rw[au]at y5;rw[C]at y8;have hsz:(zu d).size=DL:=by rw[zJ,X]
 have w1:IntKind.u64.wrap (DL:Int)=(DL:Int):=by rw[IntKind.wrap_u64];omega
 have w2:IntKind.u64.wrap ((off:Int)+DL)=(E:Int):=by rw[IntKind.wrap_u64];omega
 have dk0:(0:Int)<=k:=I;have dk8:(k:Int)<8:=I;have R0:=zb r0;have ac:=zb ab;have HX:=zb hx;have ad:=zb O;have aG:=zb C;have a8:=zb X;have HE:=zb hE;have a9:=zb au;have ba:=zb av;have bb:=zb Y;have H:=zb Z;have aQ:=zb aw;have aR:=zb ax;have HB:=zb aa;have bN:=zb ok;have ae:=zb aL;have bO:=zb aq;have bP:=zb aO;clear h ht hi h1 r0 m1 ar aN y0 y3 y4 y6 y7 y9 hx O C X hE au av Y Z aw ax aa ok aL aq aO q8 ab;go_enter func159,ntmps159;go_upto_region 1 with fail;rw[bO.z,bP.z];refine zG ?_;refine zo 7 (λw'=>w'.cell? (U fb 1)=some (.int .i64 k)) (y1) ?_;refine GI 0 ?_;iterate 7
  refine GV rfl ?_;try simp only[PS]
 refine zr ?_;refine⟨rfl,?_⟩;go_upto_region 2 with fail
 go_cut [6] (λev Q=>ev=.int .u64 E/\Q=W1.drew)
 case first=>as_aux_lemma =>
  go_wp2_with fail;go_meet;have ab:=ac.z;exact⟨by(congr 1<;>omega),rfl⟩
 case rest =>
 obtain⟨rfl,hw⟩:=hcut;obtain⟨WA,aS⟩:=nn wc;subst aS;subst hw;clear w1 w2;go_upto_region 3 with fail
 go_cut [59] (λbv Q=>bv=.bool bad/\Q=W1.drew)
 case first=>as_aux_lemma =>
  have hB:=a6.z;subst hB;cases en
  .cases fi
   .go_wp2_with fail;go_meet;exact⟨rfl,rfl⟩
   by_cases d2:(E:Int)<F
   .have L:E<F:=I;go_wp2_with fail;go_meet;exact⟨by simp[L],rfl⟩
   have L:¬E<F:=I;go_wp2_with fail;go_meet;exact⟨by simp[L],rfl⟩
  by_cases d1:(FN:Int)<E
  .have ay:FN<E:=I;go_wp2_with fail;go_meet;exact⟨by simp[ay],rfl⟩
  have ay:¬FN<E:=I;cases fi
  .go_wp2_with fail;go_meet;exact⟨by simp[ay],rfl⟩
  by_cases d3:E=FN
  .subst d3;by_cases d2:(E:Int)<F
   .have L:E<F:=I;go_wp2_with fail;go_meet;exact⟨by simp[L],rfl⟩
   have L:¬E<F:=I;go_wp2_with fail;go_meet;exact⟨by simp[L],rfl⟩
  have d3b:((E:Int)==(FN:Int))=false:=by rw[MU];simpa using d3
  go_wp2_with fail;go_meet;exact⟨by simp[ay,d3],rfl⟩
 case rest =>
 obtain⟨rfl,hw⟩:=hcut;obtain⟨WA,aS⟩:=nn wc;subst aS;cases hbv:bad with
 | true =>
  rw[hbv]at HB;go_wp2_with fail;go_ret;have hd:=YI (c:=c) (f:=f) ae.z (by rw[HX.z];exact HB.z);rw[hd];exact⟨rfl,B.z (R0.z.mod0 (by rw[hw];exact(DW.refl DY W1).drew))⟩
 | false =>
 rw[hbv]at HB;have az:AA ((c.rs k).badEnd f=false):=zb (by rw[HX.z];exact HB.z);subst hw;go_upto_if 65 with fail;obtain⟨t,aT⟩:=nm (max F E);have D:=zb aT
 go_cut [] (λQ=>AA (zz tag i b W1 V { c with rs:=zf c.rs k { x with high:=t } } tag V Q/\(¬(F<E/\(GR<E\/CG<E-F+Ft c.rs 8)))/\t<=1099511627776))
 case first=>as_aux_lemma =>
  have bc:AA (c={ c with rs:=zf c.rs k x }):=zb (by rw[<-HX.z,Fy]);by_cases hEH:(F:Int)<E
  .have w3:=wu ((E:Int)-F) I;go_wp2_with fail
   go_loopw [7,72] (λtv jv wr=>∃j:Nat,j<=8/\jv=.int .i64 j/\tv=.int .u64 ((E:Int)-F+(Ft c.rs j:Nat))/\wr=W1.drew) (λ_ jv _=>8-(intOf jv).toNat)
   case atStart=>exact⟨0,I,rfl,by simp[Ft],rfl⟩
   case round =>
    obtain⟨j,hj,rfl,rfl,rfl⟩:=hrel;have aU:=a7.z j hj;by_cases y:j<8
    .have cj:=bM.z j y;have bQ:=a7.z (j+1) I;have aV:Ft c.rs (j+1)=Ft c.rs j+(c.rs j).high:=rfl;obtain⟨S,P⟩:=nm (Ft c.rs j);obtain⟨bR,aW⟩:=nm ((c.rs j).high);rw[P,aW]at aV;rw[P]at aU;rw[aW]at cj;have bS:=zb aV;have w4:=wu ((E:Int)-F+(S:Int)+bR) I;have dj0:(0:Int)<=j:=I;have dj8:(j:Int)<8:=I;rw[P];clear aU bQ aV P aW;go_wp2_with fail;go_roundw
     case rel=>exact⟨j+1,I,by go_num,by rw[bS.z];go_num,trivial⟩
     simp[intOf];omega
    have bT:j=8:=I;subst bT;obtain⟨S,P⟩:=nm (Ft c.rs 8);have HS:=zb P;rw[P]at aU;rw[P];clear P;by_cases g1:(GR:Int)<E
    .go_wp2_with fail;go_ret;have hd:=Ug (c:=c) (f:=f) ae.z az.z (by rw[HX.z,H.z,HE.z,aQ.z];exact⟨I,.inl I⟩);rw[hd];exact⟨rfl,B.z (R0.z.mod0 (DW.refl DY W1).drew)⟩
    by_cases g2:(CG:Int)<(E:Int)-F+S
    .go_wp2_with fail;go_ret;have hd:=Ug (c:=c) (f:=f) ae.z az.z (by rw[HX.z,H.z,HE.z,aR.z,HS.z];exact⟨I,.inr I⟩);rw[hd];exact⟨rfl,B.z (R0.z.mod0 (DW.refl DY W1).drew)⟩
    have hz:=(((R0.z.mod0 (DW.refl DY W1).drew).same bc.z).storeR hk 4 mu (.int .u64 E) { x with high:=t } (by rw[<-D.z,Nat.max_eq_right I];rfl) rfl rfl);rw[AL 13 k]at hz;have HZ:=zb hz;have f4:=fz (129+k*13+4);clear hz;go_wp2_with fail;go_meet;exact zb ⟨HZ.z,by rw[HS.z];omega,by rw[<-D.z];omega⟩
  go_wp2_with fail;go_meet;refine zb ⟨((R0.z.mod0 (DW.refl DY W1).drew).same bc.z).same ?_,I,by rw[<-D.z];omega⟩;rw[<-D.z,Nat.max_eq_left I,<-H.z]
 case rest =>
 obtain⟨WB,bU⟩:=nn wc;subst bU;have be:=hcut;clear hcut;obtain⟨rb,af,cw⟩:=id be.z;have z5:WB.cell? (fb,5)=some (.bool fi):=by rw[<-a9.z];exact(aP.z rb).cells.2.2.2.2.2.1
 have bf:=zb af;obtain⟨R,bh⟩:∃R:RS,{ x with high:=t,ended:=en||fi,fin:=if fi then E else FN }=R:=⟨_,rfl⟩;have M:=zb bh;have RB:=zb rb;have bV:=rb.c.fz;have ah:=rb.storeR hk 6 mu (.bool true) { x with high:=t,ended:=true } (by rfl) rfl rfl;have aX:=ah.storeR hk 5 mu (.int .u64 E) { x with high:=t,ended:=true,fin:=E } (by rfl) rfl rfl;have aH:=ah.c.fz;have aI:=ah;rw[AL 13 k]at ah aX aH;have bi:=zb aX;obtain⟨u5,bW⟩:∃v,WB.cell? (b,129+k*13+5)=some v:=⟨_,by rw[AL k 13];exact rb.c.r (j:=5) hk rfl⟩;obtain⟨u6,bX⟩:∃v,WB.cell? (b,129+k*13+6)=some v:=⟨_,by rw[AL k 13];exact rb.c.r (j:=6) hk rfl⟩;obtain⟨u7,bY⟩:∃v,(WB.setCell (b,129+k*13+6) (.bool true)).cell? (b,129+k*13+5)=some v:=⟨_,by rw[AL k 13];exact aI.c.r (j:=5) hk rfl⟩;clear rb ah aI aX af bh r4 r5 r6 bK bL fz y1 y2 y5 y8;go_upto_if 104 with fail
 go_cut [] (λQ=>AA (zz tag i b W1 V { c with rs:=zf c.rs k R } tag V Q))
 case first=>as_aux_lemma =>
  cases fi with
  | true =>
   go_wp2_with fail;go_meet;refine zb (bi.z.same ?_);rw[<-M.z];simp
  | false =>
   go_wp2_with fail;go_meet;refine zb (RB.z.same ?_);rw[<-M.z,<-ba.z,<-bb.z];simp
 case rest =>
 obtain⟨WC,bZ⟩:=nn wc;subst bZ;have RC:=hcut;clear hcut bV aH z5 RB bi be bW bX bY;obtain⟨G,b0⟩:=nm x.b.length;have aY:=zb b0;have cx:AA (R.b=x.b):=zb (by rw[<-M.z]);have bj:AA (R.high=t):=zb (by rw[<-M.z]);have q9:G<=t:=by rw[<-aY.z,<-D.z];omega
 go_wp2_with fail
 go_loopw [] (λwr=>∃(n:Nat) (tag':nH) (V':CV),G+n<=t/\AA (zz tag i b W1 V { c with rs:=zf c.rs k { R with b:=x.b++List.replicate n 0 } } tag' V' wr)) (λwr=>t-(match wr.cell? (b,129+k*13)with|some (.slice _ n _)=>n|_=>0))
 case atStart=>exact⟨0,tag,V,I,zb (RC.z.same (by rw[<-M.z];simp))⟩
 case round =>
  obtain⟨n,bk,V1,hn,HR⟩:=hrel;have hR:=HR.z;obtain⟨bs,aA⟩:=nm (x.b++List.replicate n 0);rw[aA]at hR HR;have aZ:bs.length=G+n:=by rw[<-aA];simp[aY.z]
  have a0:OB wr (V1.rb k) bs:=by have:=hR.c.rb k hk;simpa only[ze]using this
  obtain⟨sa,ai,hv,b1,b2,a1⟩:=zk a0;rw[aZ]at hv b1 a1;unfold maxLen at b2;have v0:wr.cell? (b,129+k*13)=some (.slice sa (G+n) ai):=by rw[<-hv,AL];exact hR.c.r (j:=0) hk rfl
  have v4:wr.cell? (b,129+k*13+4)=some (.int .u64 t):=by
   have:=hR.c.r (j:=4) (v:=.int .u64 t) hk (by simp only[ze];rw[<-bj.z];rfl);rw[AL];exact this
  have w5:=wu ((G:Int)+n) I;have bm:=zb aA;have T:=zb aZ;have b3:=zb a0;have HV:=zb hv;have HC3:=zb a1;clear HR;have HR:=zb hR;clear hR aA aZ a0 hv a1;by_cases y:G+n<t
  .have aJ:(G:Int)+n<t:=I;obtain⟨Wc,a2⟩:=nm (wr.alloc (.cells #[.int .u8 0] 5));have mc:=AB a2;have oc:=AD a2;have bn:BR Wc.drew (.slice wr.heap.size [(0:UInt8)].length 1) [(0:UInt8)] :=
    ⟨_,_,rfl,mv,mz,λq cc hq=>⟨_,_,rfl,by
     have b4:q=0:=by
      have:=(AN.1 hq).1;simp at this;omega
     subst b4;simp at hq;subst hq;exact za (o:=0+0) oc rfl⟩⟩
   have aK:bs.length + [(0:UInt8)].length<=140737488355328:=by rw[T.z];simp;omega
   have a3:=mc.drew;obtain⟨v',W2,De,ha⟩:=QE Wc.drew (V1.rb k) bs ⟨wr.heap.size,0,none⟩ 1 [0] (a3.owns b3.z (λ_ _ x=>x)) bn aK;obtain⟨⟨tag2,V2,r2⟩,x2,f2⟩:=(HR.z.mod0 a3).rapp hk (s:=[0]) (v':=v') (W2:=W2) (by simp only[ze];exact ha);obtain⟨va,vc,rfl,_⟩:=zk ha.own;have b5:=r2;have e2:=r2.c.rb k hk;obtain⟨ea,ec,he,_⟩:=zk e2;have e3:=r2.c.r (j:=0) hk rfl;rw[he]at e3;have aj:((({ ({ c with rs:=zf c.rs k { R with b:=bs } }:CS)with rs:=zf (zf c.rs k { R with b:=bs }) k { (zf c.rs k { R with b:=bs }) k with b:=((zf c.rs k { R with b:=bs }) k).b++[0] } }:CS).rs k).b).length=G+n+1:=by
    simp only[ze,AG,T.z];rfl
   rw[aj]at e3;rw[AL 13 k]at x2 f2 r2 e3;rw[AG,T.z]at De;rw[HV.z]at De x2;have e3:(W2.setCell (b,129+k*13) (.slice va (bs++[0]).length vc)).cell? (b,129+k*13)=some (.slice ea (G+n+1) ec):=e3;have bo:=zb e3;have R2:=zb r2;have aB:[(0:UInt8)].length=1:=rfl;rw[aB]at De;rw[AG,T.z,aB]at R2;rw[AG,T.z,aB]at bo;subst a2;clear ha r2 b5 e2 he e3 aj a3 aK bn oc mc;go_upto_region 17 with fail;refine zG ?_;refine zo 11 (λw'=>w'.cell? (b,129+k*13)=some (.slice sa (G+n) ai)/\w'.cell? (b,129+k*13+4)=some (.int .u64 t)) (⟨v0,v4⟩) ?_;refine GI 0 ?_;iterate 11
    refine GV rfl ?_;try simp only[PS]
   refine zr ?_;refine⟨rfl,?_⟩;go_wp2_with (at_builtin;refine zn rfl _ _ _ _ rfl _ _ _ rfl rfl De ?_);go_roundw
   case rel =>
    refine⟨n+1,tag2,V2,I,zb (R2.z.same ?_)⟩;simp only[ze,Qv,<-bm.z,Ap,Cu]
   case measure =>
    have e3:=bo.z;simp only[v0];rw[e3];show t-(G+n+1)<t-(G+n);omega
  have bp:G+n=t:=I;have bq:AA (bs=JT x.b t):=zb (by
   rw[<-bm.z];unfold JT;rw[aY.z,(I:t-G=n)])
  have aJ:¬(G:Int)+n<t:=I;obtain⟨y0,y1,y2,y3,y4,y5,y6,y7,y8,y9⟩:=(aP.z HR.z).cells;rw[ad.z]at y2;have bt:=zb bN.z.came;have b6:=zb bp;clear bp y;go_upto_region 17 with fail;refine zG ?_;refine zo 11 (λw'=>w'.cell? (b,129+k*13)=some (.slice sa (G+n) ai)/\w'.cell? (b,129+k*13+4)=some (.int .u64 t)) (⟨v0,v4⟩) ?_;refine GI 0 ?_;iterate 11
   refine GV rfl ?_;try simp only[PS]
  refine zr ?_;refine⟨rfl,?_⟩;clear y0 y1 y3 y4 y5 y6 y7 y9;go_upto_region 19 with fail
  go_cut [9] (λov Q=>ov=.int .u64 off/\Q=wr.drew)
  case first=>as_aux_lemma =>
   go_wp2_with fail;go_meet;exact⟨rfl,rfl⟩
  case rest =>
  obtain⟨rfl,hw⟩:=hcut;obtain⟨WD,b7⟩:=nn wc;subst b7;subst hw;have ab:=ac.z;have b8:AA (Ep off d E (DL+1) off bs x.came=x.dataB f):=zb (by
   unfold RS.dataB;rw[ad.z,aG.z,a8.z,HE.z,H.z,D.z,bq.z])
  have bu:AA (R.came=x.came):=zb (by rw[<-M.z]);have bw:AA ({ R with b:=(x.dataB f).1,came:=(x.dataB f).2 }=x.data f):=zb (by
   rw[<-M.z];unfold RS.data;rw[HE.z,H.z,D.z,a9.z,ba.z,bb.z])
  have aC:AA (E<=t):=zb (by rw[<-D.z];exact Cq _ _);have b9:off<=E:=I;clear ab aJ v0 v4 y2 y8;go_wp2_with fail
  go_loopw [9] (λlv ca=>∃(lo m:Nat) (l:nG) (s:Dl) (tag':nH) (V':CV),lv=.int .u64 lo/\off<=lo/\lo<=E/\AA (zz tag i b W1 V { c with rs:=zf c.rs k { R with b:=l,came:=s } } tag' V' ca/\l.length=t/\s.Ok/\E<lo+m/\Ep off d E m lo l s=x.dataB f)) (λlv _=>E-(intOf lv).toNat)
  case atStart=>exact⟨off,DL+1,bs,x.came,bk,V1,rfl,AF _,b9,zb ⟨(HR.z.mod0 (DW.refl DY wr).drew).same (by rw[<-bu.z]),by rw[T.z];exact b6.z,by rw[<-HX.z];exact bt.z,nC ac.z,b8.z⟩⟩
  case round =>
   obtain⟨lo,m,l,s,cy,V3,rfl,aB,hl2,z⟩:=hrel;have a4:=zb z.z.2.2.2.2;by_cases y:lo<E
   .have aD:=z.z.1;have a5:OB wr (V3.rb k) l:=by have:=aD.c.rb k hk;simpa only[ze]using this
    obtain⟨sa3,u,aE,bz,bA,ak⟩:=zk a5;rw[z.z.2.1]at aE bz ak;unfold maxLen at bA;have aT:0<t:=nC aC.z;obtain⟨g3,rfl⟩:=ak aT;have v0:=aD.c.r (k:=k) (j:=0) (v:=V3.rb k) hk rfl;rw[aE,AL 13 k,B7]at v0;have al:=aD.c.rcameAt hk (by simp only[ze];have:=z.z.2.2.1.rl;have:=z.z.2.2.1.most.2;omega);simp only[ze]at al;have kg:=QS s.rs s.fl s.most b (129+13*k+1) lo E (V3.rc k) wr al I (λj hj=>by have:=z.z.2.2.1.hi j hj;unfold zF at this;omega);rw[AL 13 k]at kg;have cd:=TM s.rs (λr hr=>by
     obtain⟨j,hj,rfl⟩:=Cv.1 hr;have h5:=z.z.2.2.1.hi j hj;have e:s.rs.getD j (0,0)=s.rs[j]:=by simp[List.getD,hj]
     unfold DX at h5;rw[e]at h5;unfold zF at h5;omega) lo E I
    have ce:=Il s.rs lo E;have aF:=NZ s.rs lo E y;have A:=zb (λn=>go off d E n lo l s y);have N:=zb (λh=>gm off d E m lo l s y h (nC z.z.2.2.2.1));obtain⟨p,bB⟩:=nm ((Dj s.rs lo E).1);obtain⟨w,bC⟩:=nm ((Dj s.rs lo E).2);rw[bB]at cd aF kg A N;rw[bC]at ce aF kg A;have KG:=zb kg;have bD:=zb aE;have ci:=zb a5;have bE:(lo:Int)<E:=I;clear kg al aE a5 bB bC aD ak y;by_cases hge:(E:Int)<=p
    .have am:AA ((l,s)=x.dataB f):=zb (by rw[<-a4.z,N.z I]);clear aF;go_wp2_with (go_at_call 91;refine KG.z.mono ?_;rintro _ W3 ⟨rfl,m3⟩;have M3:=zb m3;clear m3);go_ret;have hd:=Uf (c:=c) (f:=f) ae.z az.z (by rw[HX.z,H.z,HE.z,aQ.z,aR.z];exact bf.z);rw[hd];refine⟨rfl,B.z ((z.z.1.mod0 M3.z).same ?_)⟩;rw[HX.z,<-bw.z,<-am.z]
    obtain⟨hg4,hg5⟩:=aF I;have hm0:0<m:=nC z.z.2.2.2.1;have bF:AA (Ep off d E (m-1) w (Ie l p ((d.drop (p-off)).take (w-p))) (s.add p (w-1))=x.dataB f):=zb (by
     rw[<-A.z (m-1) I,(I:m-1+1=m)];exact a4.z)
    clear A N;go_upto_region 24 with(go_at_call 91;refine KG.z.mono ?_;rintro _ W3 ⟨rfl,m3⟩;have M3:=zb m3;clear m3);have R3:=zb (z.z.1.mod0 M3.z);obtain⟨y0,y1,y2,y3,y4,y5,y6,y7,y8,y9⟩:=(aP.z R3.z).cells;rw[ad.z]at y2;rw[aG.z]at y8;have v3:=M3.z.cell (a:=⟨b,_,none⟩) id v0;have bG:OB W3.drew (.slice g3 l.length u) l:=by
     have:=(M3.z.drew).owns ci.z (λ_ _ x=>x);rw[bD.z,<-z.z.2.1]at this;exact this
    have an:((d.drop (p-off)).take (w-p)).length=w-p:=by
     rw[AU,Ac,a8.z];have:=ac.z;omega
    obtain⟨W4,ao,ap,m4⟩:=XG (lo:=p) (s:=(d.drop (p-off)).take (w-p)) bG (by rw[an,z.z.2.1];have:=aC.z;omega) (w-p) (u-p) (by rw[an];exact AF _);have s1:(p:Int)<=w:=I;have s2:(w:Int)<=u:=nC aC.z;have s3:¬u=p:=I;have s4:=wu ((p:Int)-off) I;have s5:=wu ((w:Int)-off) I;have s6:(p:Int)-off<=(w:Int)-off:=I;have s7:(w:Int)-off<=DL:=nC ac.z;have s8:0<=(p:Int)-off:=I;have s9:off<=p:=I;have s10:off<=w:=I;obtain⟨S,P⟩:=nm ((d.drop (p-off)).take (w-p));have bH:(zu d).extract (p-off) (w-off)=zu S:=by rw[Pr,(I:w-off-(p-off)=w-p),P]
    rw[P]at ao ap an bF;rw[an]at ao;have HHS:=zb P;clear P;have ck:=zb ao;have co:=zb ap;have M4:=zb m4;clear ao ap m4 bG;refine zG ?_;refine zo 18 (λw'=>w'.cell? (b,129+k*13)=some (.slice g3 t u)/\w'.cell? (U fb 2)=some (.int .u64 off)/\w'.cell? (U fb 8)=some (.string (zu d))) (⟨v3,y2,y8⟩) ?_;refine GI 0 ?_;iterate 18
     refine GV rfl ?_;try simp only[PS]
    refine EX rfl (λK hK=>?_);try rw[bH]
    have ao:=ck.z;go_simp;refine hK.z _ _ ?_;clear hK K;try simp only[PS]
    refine zr ?_;refine⟨rfl,?_⟩;obtain⟨cz,V4,r4⟩:=(R3.z.mod0 (DW.refl DY W3).drew).rturn hk bD.z (by have:=co.z;rw[z.z.2.1]at this;exact this) M4.z;have k5:=r4.addRcame hk (by simp only[ze];exact z.z.2.2.1) p (w-1) (by unfold zF;omega) (by unfold zF;omega);have hz:((w-1:Nat):Int)=(w:Int)-1:=I;have w6:=wu ((w:Int)-1) I;rw[hz,AL 13 k]at k5;have cp:=zb k5;have cq:=zb an;clear k5 r4 hz bH v0 v3 y0 y1 y2 y3 y4 y5 y6 y7 y8 y9 s1 s2 s3 s4 s5 s6 s7 s8;go_wp2_with fail;refine(cp.z).mono ?_;rintro e W6 ⟨rfl,⟨bI,V6,r6,_⟩,_⟩;have R6:=zb r6;clear r6;go_wp2_with fail;go_roundw
    case rel =>
     refine⟨w,m-1,Ie l p S,s.add p (w-1),bI,V6,rfl,I,I,zb ⟨R6.z.same ?_,?_,z.z.2.2.1.add _ (by unfold zF;omega),nC z.z.2.2.2.1,bF.z⟩⟩
     .simp only[ze,Qv]
     rw[Nj _ _ _ (by rw[cq.z,z.z.2.1];have:=aC.z;omega)];exact z.z.2.1
    simp[intOf];omega
   have cv:lo=E:=I;have am:AA ((l,s)=x.dataB f):=zb (by rw[<-a4.z,YJ _ _ _ _ _ _ _ y]);have bE:¬(lo:Int)<E:=I;clear y cv;go_wp2_with fail;go_ret;have hd:=Uf (c:=c) (f:=f) ae.z az.z (by rw[HX.z,H.z,HE.z,aQ.z,aR.z];exact bf.z);rw[hd];refine⟨rfl,B.z (z.z.1.same ?_)⟩;rw[HX.z,<-bw.z,<-am.z]
structure Pu(c:CS)(f:Da):Prop where
 most:c.most<=zF
 id:f.id<=zF
 dl:f.dl<=zF
 now:c.now<=zF
 nd:(c.seen.map (·.1)).Nodup
 ids:∀p∈c.seen,p.1<=zF
 len:c.seen.length<=1099511627776
 cm:c.came.length<=1099511627776
def CS.drops(c:CS)(f:Da):Bool:=(c.seen.any λp=>p.1==f.id)||decide (f.dl<c.now)||(decide (0<c.seen.length)&&EG c.most f.id)
def lI(h:c.drops f=true):c.message f=c:=by
 unfold CS.message;unfold CS.drops at h;rw[AQ h]
def lH(h:c.drops f=false):c.message f={ c with most:=max c.most f.id,seen:=(c.seen++[(f.id,f.dl)]).filter (λp => !EG (max c.most f.id) p.1),came:=c.came++[(f.id,f.data)] }:=by
 unfold CS.message;unfold CS.drops at h;rw[AI (by rw[h];simp)]
def QH{x:Nat}(h:x<18446744073709551616):(Lit.int .u64 x).wf=true:=by
 show(decide ((0:Int)<=x)&&decide ((x:Int)<=18446744073709551615))=true;rw[Ax I,Ax I];rfl
def Oh{x y:Nat}(h:x≠y):(Lit.int .u64 x)≠(Lit.int .u64 y):=λe=>by
 cases e;exact h I
def JB:Go.Maps.Keyed prog 43:=Go.Maps.int_keyed underlying43
def Mv{x:Nat}(h:x<18446744073709551616):keyOf prog 43 (.int .u64 x)=some (.int .u64 x):=Go.Maps.keyOf_int_mk underlying43 (QH h)
def LD{x:Nat}(h:x<18446744073709551616):plainElem (H:=Unit) prog 43 (.int .u64 x)=some (.lit (.int .u64 x),[]):=plainElem_int underlying43 (QH h)
def YH(w:World):(zeroValue 43).run prog w=.ok (.int .u64 0) w:=mr
def gj{n:Nat}{D:DataW Unit}(h:w.ownsMap prog 43 (plainElem prog 43) b n D):w.ownsMap prog 43 (plainElem prog 43) b (Go.Maps.size D) D:=by
 obtain⟨es,a,h1,h2,h3,rfl⟩:=h;refine⟨es,a,h1,h2,?_,rfl⟩;simp[Go.Maps.size,length_sorted]
def Fw.look{l:List (Nat×Nat)}(h:Fw w b l){x:Nat}(hx:x<18446744073709551616):∃v,(Instr.lookup 124 (.map (some b)) (.int .u64 x) true).run prog w=.ok (.tuple #[v,.bool (l.any λp=>p.1==x)]) w:=by
 obtain⟨D,ho,_,hh⟩:=h;obtain⟨v,ps,a,_⟩:=ho.look_ok JB underlying124 (YH w) (plainElem_int (H:=Unit) underlying43 (QH (x:=0) I)) (Mv hx);rw[hh x hx]at a;exact⟨v,a⟩
def Fw.len{l:List (Nat×Nat)}(h:Fw w b l)(a:TypeId):(Builtin.len_ #[124] a #[.map (some b)]).run prog w=.ok (.int .i64 l.length) w:=by
 obtain⟨D,ho,hs,_⟩:=h;have:=ho.len underlying124 a;rw[hs]at this;exact this
def Fw.put{l:List (Nat×Nat)}(h:Fw w b l){x y:Nat}(hx:x<18446744073709551616)(hy:y<18446744073709551616)(hn:l.any (λp=>p.1==x)=false)(hl:l.length<=1099511627776):∃w',(Instr.mapUpdate 124 (.map (some b)) (.int .u64 x) (.int .u64 y)).run prog w=.ok () w'/\Fw w' b (l++[(x,y)])/\DW (λq=>q=b) w w':=by
 obtain⟨D,a,hs,d⟩:=h;obtain⟨w',hr,c,hg⟩:=a.update JB underlying124 mz (Mv hx) (LD hy);refine⟨w',hr,⟨_,by rw[AG];exact c,?_,λz hz=>?_⟩,(DW.refl _ w).grown hg (λk hk=>.inl (by cases hk;rfl))⟩
 .rw[Go.Maps.size_put (a.tidy JB),d x hx,hn,AG,hs];rfl
 rw[List.any_append];by_cases e:z=x
 .subst e;rw[Go.Maps.has_put_same a.isMap (JB.key (Mv hx))];simp
 rw[Go.Maps.has_put_other (Oh e),d z hz];have:¬x=z:=λy=>e y.symm
 simp[this]
structure H9(L:List (Nat×Nat))(M:Nat)(left:Lit->Bool)(D:DataW Unit)(del:Nat->Bool):Prop where
 has:∀x:Nat,x<18446744073709551616->Maps.has D (.int .u64 x)=(L.filter λp => !del p.1).any λp=>p.1==x
 sz:Maps.size D=(L.filter λp => !del p.1).length
 old:∀x,del x=true->EG M x=true
 done:∀p∈L,left (.int .u64 p.1)=false->del p.1=EG M p.1
def Vk(L:List (Nat×Nat))(del:Nat->Bool)(x:Nat):(L.filter λp => !(del p.1||p.1==x))=(L.filter λp => !del p.1).filter λp => !(p.1==x):=by
 rw[List.filter_filter];congr 1;funext p;cases del p.1<;>simp
theorem VY:∀(L:List (Nat×Nat)) (x:Nat),(L.map (·.1)).Nodup->L.any (λp=>p.1==x)=true->(L.filter λp => !(p.1==x)).length+1=L.length
 | [],x,_,h=>by simp at h
 | p::L,x,hn,h=>by
  simp only[Bq,List.nodup_cons]at hn;by_cases e:p.1=x
  .have a:∀q∈L,¬q.1=x:=λq b e2=>hn.1 (by rw[e,<-e2];exact List.mem_map_of_mem b)
   have:(p::L).filter (λp => !(p.1==x))=L:=by
    rw[List.filter_cons_of_neg (by simp[e]),CQ];intro q b;simp[a q b]
   rw[this];rfl
  have h2:L.any (λp=>p.1==x)=true:=by simpa [e]using h
  rw[List.filter_cons_of_pos (by simp[e])];simp only[AR];have:=VY L x hn.2 h2;omega
def H9.start{w:World}{b:Nat}{L:List (Nat×Nat)}{M:Nat}{D:DataW Unit}(a:∀x:Nat,x<18446744073709551616->Maps.has D (.int .u64 x)=L.any λp=>p.1==x)(hs:Maps.size D=L.length)(hb:∀p∈L,p.1<=zF):H9 L M (Maps.has D) D (λ_=>false):=by
 have e:(L.filter λ_ => !false)=L:=mv;refine⟨λx hx=>by rw[e,a x hx],by rw[e,hs],λx hx=>by simp at hx,λp c hl=>?_⟩;have h1:=hb p c;unfold zF at h1;rw[a p.1 I]at hl;have:L.any (λq=>q.1==p.1)=true:=Bh.2 ⟨p,c,mv⟩;rw[this]at hl;cases hl
theorem H9.keep{L:List (Nat×Nat)}{M:Nat}{left:Lit->Bool}{D:DataW Unit}{del:Nat->Bool}(h:H9 L M left D del){x:Nat}(hx:x<18446744073709551616)(a:EG M x=false)(hb:∀p∈L,p.1<=zF):H9 L M (λz=>left z && !z.sameKey (.int .u64 x)) D del:=by
 refine⟨h.has,h.sz,h.old,λp hp hl=>?_⟩;by_cases e:p.1=x
 .rw[e,a];cases hd:del x with
  | false=>rfl
  | true =>
   have:=h.old x hd;rw[a]at this;cases this
 refine h.done p hp ?_;rw[Go.Maps.sameKey_ne (Oh e)]at hl;simpa using hl
def H9.strike{L:List (Nat×Nat)}{M:Nat}{left:Lit->Bool}{D:DataW Unit}{del:Nat->Bool}(h:H9 L M left D del){x:Nat}(hx:x<18446744073709551616)(g:EG M x=true)(hn:(L.map (·.1)).Nodup)(hd:Go.Maps.has D (.int .u64 x)=true)(ht:Go.Maps.Tidy D):H9 L M (λz=>left z && !z.sameKey (.int .u64 x)) (D.del (.int .u64 x)) (λz=>del z||z==x):=by
 have hk:=JB.key (Mv hx);have c:(L.filter λp => !del p.1).any (λp=>p.1==x)=true:=by rw[<-h.has x hx];exact hd
 have f:((L.filter λp => !del p.1).map (·.1)).Nodup:=hn.sublist (List.filter_sublist.map _);refine⟨λz a=>?_,?_,λz a=>?_,λp b hl=>?_⟩
 .rw[Vk];by_cases e:z=x
  .subst e;rw[Go.Maps.has_del_same]
   symm
   rw[CZ];intro p b;have:=(BI.1 b).2;simpa using this
  rw[Go.Maps.has_del_other (Oh e),h.has z a];rw[Cz,Bh,Bh];constructor
  .rintro⟨p,b,d⟩;refine⟨p,BI.2 ⟨b,?_⟩,d⟩;have:p.1=z:=nF d;simp[this,e]
  rintro⟨p,b,d⟩;exact⟨p,(BI.1 b).1,d⟩
 .rw[Vk];have h1:=VY _ x f c;have h2:=Go.Maps.size_del (k:=.int .u64 x) ht;rw[hd]at h2;simp only[BC]at h2;have h3:=h.sz;omega
 .rcases Bool.or_eq_true_iff.1 a with a|a
  .exact h.old z a
  have:z=x:=nF a;rw[this];exact g
 by_cases e:p.1=x
 .simp[e,g]
 have:=h.done p b (by rw[Go.Maps.sameKey_ne (Oh e)]at hl;simpa using hl);simp[e,this]
def H9.fin{n:Nat}{L:List (Nat×Nat)}{M:Nat}{left:Lit->Bool}{D:DataW Unit}{del:Nat->Bool}(h:H9 L M left D del)(hl:∀kl,left kl=false)(ho:w.ownsMap prog 43 (plainElem prog 43) b n D):Fw w b (L.filter λp => !EG M p.1):=by
 have e:(L.filter λp => !del p.1)=L.filter λp => !EG M p.1:=by
  apply List.filter_congr;intro p hp;rw[h.done p hp (hl _)]
 have h1:=h.has;have h2:=h.sz;rw[e]at h2;refine⟨D,by rw[<-h2];exact gj ho,h2,λx hx=>?_⟩;rw[h1 x hx,e]
def zz.seen{l:List (Nat×Nat)}(h:zz tag i b W0 V0 c tag' V' W')(m:DW (λq=>q=V'.sn) W' W'')(hs:Fw W'' V'.sn l):zz tag i b W0 V0 { c with seen:=l } tag' V' W'':=by
 have hb:¬b=V'.sn:=λe=>by
  have h1:=h.c.tsn;rw[<-e,h.c.tb]at h1;simp at h1
 refine⟨h.c.build (R:=λr=>r=7) m (λq a=>⟨7,rfl,by rw[show q=V'.sn from a];exact h.c.tsn⟩) (λ_ _=>rfl) (m.obj hb h.c.obj) (.inl ⟨rfl,rfl,rfl,I,I⟩) (λk hk=>.inl ⟨rfl,rfl,I⟩) (λk hk=>.inl ⟨rfl,rfl,I⟩) (λk hk=>.inl ⟨rfl,rfl,I⟩) (λk hk=>.inl ⟨rfl,rfl,I⟩) (λk hk=>.inl ⟨rfl,rfl,I⟩) (.inl ⟨rfl,rfl,rfl,I,I⟩) (.inl ⟨rfl,rfl,I⟩) (.inr ⟨hs,h.c.tsn⟩) (.inl ⟨rfl,rfl,I⟩),⟨h.e.old,h.e.new,h.e.z.mod m⟩,Ew h.e h.m (m.mono (λq a=>.inl (EW (r:=7) (by rw[show q=V'.sn from a];exact h.c.tsn) mu))),h.p,h.ft⟩
def YG:(prog.info? 154).map (λi=>(i.zero,i.size,i.bytes))=some (some (.agg #[.int .u64 0,.string ⟨#[]⟩]),2,24):=mr
def XF(w:World)(v:Value)(l:List (Nat×nG))(id:Nat)(s:nG)(h:w.ownsRow 0 154 2 v l.length (FB l))(hl:l.length<=1099511627776):∃v' w',(∀ty,(Builtin.append_ #[125,125] ty #[v,.slice w.heap.size 1 1]).run prog (w.alloc (.cells #[id,.string (zu s)] 154))=.ok v' w')/\w'.ownsRow 0 154 2 v' (l.length+1) (FB (l++[(id,s)]))/\(w.alloc (.cells #[id,.string (zu s)] 154)).grownBy w' v.ownBlock/\EA w v v':=by
 obtain⟨o,d⟩:=nm ((Obj.cells #[id,.string (zu s)] 154 (0,0)));obtain⟨i,a,hz,b,c⟩:=info_parts YG;have hc:∀(j:Nat) u,(FB [(id,s)])[j]?=some u->(w.alloc o).cell? ((⟨w.heap.size,0,none⟩:Addr).add j)=some u:=λj u hj=>by
  rw[zZ,<-d];refine za (heap_alloc_new w _) ?_;rw[A6,<-Array.getElem?_toList];exact hj
 obtain⟨v',w',k1,k2,k3,k4⟩:=zV (P:=prog) (w.alloc o) 125 154 i _ 2 24 underlying125 a hz b c rfl mu v l.length (FB l) (((DW.refl DY w).alloc o).owns h (λ_ _ x=>x))
  ⟨w.heap.size,0,none⟩ 1 1 (FB [(id,s)]) rfl hc (by
   intro u f;simp[FB]at f;rcases f with rfl|rfl<;>rfl) mz I
 have e:FB (l++[(id,s)])=FB l++FB [(id,s)]:=by simp[FB]
 rw[d,e];refine⟨v',w',k1,k2,k3,λg hg=>?_⟩;rcases k4 g hg with x|x
 .exact .inl x
 refine .inr ?_;simp at x;omega
def zz.cmApp{l:List (Nat×nG)}(h:zz tag i b W0 V0 c tag' V' W')(m0:DW DY W' W1)(d:W2.ownsRow 0 154 2 v' l.length (FB l))(hg:W1.grownBy W2 V'.cm.ownBlock)(s:EA W' V'.cm v'):(∃tag2 V2,zz tag i b W0 V0 { c with came:=l } tag2 V2 (W2.setCell (b,243) v'))/\W2.cell? (b,243)=some V'.cm/\W2.frozen? ⟨b,243,none⟩=false:=by
 have t:=h.p;have f:∀{g r:Nat},tag' g=(i,r)->g<W'.heap.size:=λhg=>Ei h.e.z hg t
 have hb:¬V'.cm.ownBlock=some b:=λe=>by
  have h1:=h.c.tcm b e;rw[h.c.tb]at h1;simp at h1
 have m1:=(m0.mono (λ_ x=>x.elim)).trans ((DW.refl _ W1).grown hg (λg hg=>.inl hg));have o1:=m1.obj hb h.c.obj;have o:DW (λg=>V'.cm.ownBlock=some g\/g=b) W' (W2.setCell (U b 243) v'):=(m1.mono (λg hg=>.inl (.inl hg))).setCell (p:=U b 243) (.inl (.inr rfl)) _;have hw:DW (λg=>g=b) W2 (W2.setCell (U b 243) v'):=(DW.refl (λg=>g=b) _).setCell (p:=U b 243) (.inl rfl) _;have hbW:=f h.c.tb;have q:∀g,v'.ownBlock=some g->¬g=b:=λg hg x=>by
  subst x;rcases s g hg with y|y
  .exact hb y
  omega
 have u:∀g,(V'.cm.ownBlock=some g\/g=b)->∃r,(r=1\/r=8)/\tag' g=(i,r):=λg hg=>by
  rcases hg with hg|hg
  .exact⟨8,.inr rfl,h.c.tcm g hg⟩
  exact⟨1,.inl rfl,by rw[hg,h.c.tb]⟩
 have n:∀g,(tag' g).1=i->zQ tag' W' (W2.setCell (b,243) v') (i,8) g=tag' g:=λg hg=>zD (f (r:=(tag' g).2) (by rw[<-hg]))
 refine⟨⟨zQ tag' W' (W2.setCell (U b 243) v') (i,8),{ V' with cm:=v' },?_,h.e.trans (Jt o.size) h.m.size,Ew h.e h.m (o.mono (λg hg=>.inl ?_)),t,h.ft⟩,m1.cell (a:=⟨b,_,none⟩) hb (h.c.tl (j:=10) rfl),zg o1⟩
 .refine h.c.build (R:=λr=>r=1\/r=8) o u n ?_ (.inl ⟨rfl,rfl,rfl,I,I⟩) (λk hk=>.inl ⟨rfl,rfl,I⟩) (λk hk=>.inl ⟨rfl,rfl,I⟩) (λk hk=>.inl ⟨rfl,rfl,I⟩) (λk hk=>.inl ⟨rfl,rfl,I⟩) (λk hk=>.inl ⟨rfl,rfl,I⟩) (.inl ⟨rfl,rfl,rfl,I,I⟩) (.inl ⟨rfl,rfl,I⟩) (.inl ⟨rfl,rfl,I⟩) (.inr ⟨hw.owns d q,λg hg=>?_⟩)
  .rw[zc o1,Aq];rw[show(243:Nat)=233+10 from rfl,G8 c { c with came:=l } V' { V' with cm:=v' } _ rfl rfl rfl rfl]
  rcases s g hg with y|y
  .rw[zD (f (h.c.tcm g y)),h.c.tcm g y]
  exact Gs y (by have:=zK d g hg;simpa using this)
 obtain⟨r,hr,e⟩:=u g hg;exact EW e I
theorem lG(h:zi tag i b c V W)(ht:Dv tag W)(hi:0<i)(f:Da)(rv:Value)(ok:Pu c f)(bc:∃a n cap,rv=.slice a n cap):Calls prog 160 #[(b,0),.agg (zl f rv)] W (Ej tag i b W (.tuple #[]) (c.message f)):=by
 obtain⟨ra,rn,aC,rfl⟩:=bc;obtain⟨W1,ak⟩:=nm (W.alloc (.cells (zl f (.slice ra rn aC)) 65));have m1:=AB ak;have al:zj W1 W.heap.size f (.slice ra rn aC):=by rw[<-ak];exact heap_alloc_new W _
 have am:¬Dx i tag W.heap.size:=λx=>by
  have h1:=x.1;rw[ht _ (AF _)]at h1;simp at h1;omega
 have h1:=h.mod0 m1;have r0:zz tag i b W1 V c tag V W1:=⟨h1,Dn.same (ht.mod m1) (DW.refl DY W1),DW.refl _ _,hi,⟨rfl,rfl⟩⟩;have ay:AA (∀{c':CS} {tag':nH} {V':CV} {W':World},zz tag i b W1 V c' tag' V' W'->Ds tag i b W c' W'):=zb (λr =>
  ⟨_,_,r.c,IS ht m1 r.e,(m1.mono (λ_ x=>x.elim)).then r.m.ofC (λg hg=>.inl hg)⟩)
 obtain⟨fb,aD⟩:=nm W.heap.size;rw[aD]at al am;have aT:AA (∀{c':CS} {tag':nH} {V':CV} {W':World},zz tag i b W1 V c' tag' V' W'->zj W' fb f (.slice ra rn aC)):=zb (λr=>al.mod r.m am);have aU:=zb am;obtain⟨y0,y1,y2,y3,y4,y5,J,y7,y8,y9⟩:=al.cells;obtain⟨t,P⟩:=nm f.id;obtain⟨G,Q⟩:=nm f.dl;obtain⟨R,an⟩:=nm c.now;obtain⟨z,S⟩:=nm c.most;obtain⟨SN,ao⟩:=nm V.sn;obtain⟨L0,T⟩:=nm c.seen;obtain⟨SL,X⟩:=nm L0.length;obtain⟨hs,ap⟩:=nm ((L0.any λp=>p.1==t));obtain⟨dr,aE⟩:=nm (c.drops f);have q1:=ok.most;have q2:=ok.id;have q3:=ok.dl;have q4:=ok.now;have q5:=ok.len;rw[S]at q1;rw[P]at q2;rw[Q]at q3;rw[an]at q4;rw[T,X]at q5;unfold zF at q1 q2 q3 q4;have aV:AA ((hs||decide (G<R)||(decide (0<SL)&&(decide (32<=z)&&decide (t<=z-32))))=dr):=zb (by
  rw[<-aE];unfold CS.drops EG;rw[T,P,Q,an,S,ap,X])
 have aq:Fw W1.drew SN L0:=by rw[<-ao,<-T];exact(h1.mod0 (DW.refl DY W1).drew).sn
 obtain⟨lv,Y⟩:=aq.look (x:=t) I;have s:=(show Fw W1.drew.drew SN L0 from aq).len;rw[ap]at Y;rw[X]at s;have c3:W1.cell? (b,3)=some (.int .u64 R):=by rw[<-an];exact h1.hd (j:=3) rfl
 have C:W1.cell? (b,241)=some (.map (some SN)):=by rw[<-ao];exact h1.tl (j:=8) rfl
 have E:W1.cell? (b,242)=some (.int .u64 z):=by rw[<-S];exact h1.tl (j:=9) rfl
 have fz:=h1.fz;rw[P]at J;rw[Q]at y7;have aW:=zb ap;have R0:=zb r0;have aF:=zb P;have aX:=zb Q;have be:=zb S;have B:=zb ao;have ar:=zb T;have bf:=zb X;have HD:=zb aE;have aG:=zb ok;have HSA:=zb aq;have bh:=zb ak;have bi:=zb aD;clear h ht hi h1 r0 m1 al am y0 y1 y2 y3 y4 y5 y9 P Q an S ao T X ap aE ok aq ak aD;go_enter func160,ntmps160;go_upto_region 1 with fail;rw[bh.z,bi.z]
 go_cut [5] (λov A=>ov=.bool hs/\A=W1.drew)
 case first=>as_aux_lemma =>
  refine zG ?_;refine zo 12 (λw'=>w'.cell? (U b 241)=some (.map (some SN))/\w'.cell? (U fb 6)=some (.int .u64 t)/\w'=W1.drew) (⟨C,J,rfl⟩) ?_;refine GI 0 ?_;iterate 12
   refine GV rfl ?_;try simp only[PS]
  refine zr ?_;refine⟨rfl,?_⟩;go_wp2_with fail;go_meet;exact⟨rfl,rfl⟩
 case rest =>
 obtain⟨rfl,hw⟩:=hcut;obtain⟨WA,aH⟩:=nn wc;subst aH;subst hw;clear Y;go_upto_region 2 with fail
 go_cut [51] (λdv A=>dv=.bool dr/\A=W1.drew.drew)
 case first=>as_aux_lemma =>
  have hD:=aV.z;subst hD;by_cases e1:hs=true
  .subst e1;refine zG ?_;refine zo 35 (λw'=>w'.cell? (U b 241)=some (.map (some SN))/\w'.cell? (U fb 6)=some (.int .u64 t)/\w'.cell? (U fb 7)=some (.int .u64 G)/\w'.cell? (U b 3)=some (.int .u64 R)/\w'.cell? (U b 242)=some (.int .u64 z)/\(∀ty,(Builtin.len_ #[124] ty #[.map (some SN)]).run prog w'=.ok (.int .i64 SL) w')) (⟨C,J,y7,c3,E,s⟩) ?_;refine GI 0 ?_;iterate 2
    refine GV rfl ?_;try simp only[PS]
   refine GI 2 ?_;iterate 7
    refine GU rfl (λ_ _ _ h=>nomatch h.1) ?_;try simp only[PS]
   refine GI 9 ?_;iterate 2
    refine GV rfl ?_;try simp only[PS]
   refine GI 11 ?_;iterate 23
    refine GU rfl (λ_ _ _ h=>nomatch h.1) ?_;try simp only[PS]
   refine GI 34 ?_;refine GV rfl ?_;try simp only[PS]
   refine zr ?_;refine⟨rfl,?_⟩;go_wp2_with fail;go_meet;exact⟨mv,rfl⟩
  have e1:hs=false:=nF e1;subst e1;by_cases e2:G<R
  .have aI:(G:Int)<R:=I;refine zG ?_;refine zo 35 (λw'=>w'.cell? (U b 241)=some (.map (some SN))/\w'.cell? (U fb 6)=some (.int .u64 t)/\w'.cell? (U fb 7)=some (.int .u64 G)/\w'.cell? (U b 3)=some (.int .u64 R)/\w'.cell? (U b 242)=some (.int .u64 z)/\(∀ty,(Builtin.len_ #[124] ty #[.map (some SN)]).run prog w'=.ok (.int .i64 SL) w')) (⟨C,J,y7,c3,E,s⟩) ?_;refine GI 0 ?_;iterate 11
    refine GV rfl ?_;try simp only[PS]
   refine GI 11 ?_;iterate 23
    refine GU rfl (λ_ _ _ h=>nomatch h.1) ?_;try simp only[PS]
   refine GI 34 ?_;refine GV rfl ?_;try simp only[PS]
   refine zr ?_;refine⟨rfl,?_⟩;go_wp2_with fail;go_meet;exact⟨by simp[e2],rfl⟩
  have aI:¬(G:Int)<R:=I;by_cases e3:0<SL
  .have bj:(0:Int)<SL:=I;by_cases e4:32<=z
   .have bk:(32:Int)<=z:=I;have w4:=wu ((z:Int)-32) I;by_cases e5:t<=z-32
    .have bm:(t:Int)<=(z:Int)-32:=I;refine zG ?_;refine zo 35 (λw'=>w'.cell? (U b 241)=some (.map (some SN))/\w'.cell? (U fb 6)=some (.int .u64 t)/\w'.cell? (U fb 7)=some (.int .u64 G)/\w'.cell? (U b 3)=some (.int .u64 R)/\w'.cell? (U b 242)=some (.int .u64 z)/\(∀ty,(Builtin.len_ #[124] ty #[.map (some SN)]).run prog w'=.ok (.int .i64 SL) w')) (⟨C,J,y7,c3,E,s⟩) ?_;refine GI 0 ?_;iterate 35
      refine GV rfl ?_;try simp only[PS]
     refine zr ?_;refine⟨rfl,?_⟩;go_wp2_with fail;go_meet;exact⟨by simp[e2,e3,e4,e5],rfl⟩
    have bm:¬(t:Int)<=(z:Int)-32:=I;refine zG ?_;refine zo 35 (λw'=>w'.cell? (U b 241)=some (.map (some SN))/\w'.cell? (U fb 6)=some (.int .u64 t)/\w'.cell? (U fb 7)=some (.int .u64 G)/\w'.cell? (U b 3)=some (.int .u64 R)/\w'.cell? (U b 242)=some (.int .u64 z)/\(∀ty,(Builtin.len_ #[124] ty #[.map (some SN)]).run prog w'=.ok (.int .i64 SL) w')) (⟨C,J,y7,c3,E,s⟩) ?_;refine GI 0 ?_;iterate 35
     refine GV rfl ?_;try simp only[PS]
    refine zr ?_;refine⟨rfl,?_⟩;go_wp2_with fail;go_meet;exact⟨by simp[e2,e3,e4,e5],rfl⟩
   have bk:¬(32:Int)<=z:=I;refine zG ?_;refine zo 35 (λw'=>w'.cell? (U b 241)=some (.map (some SN))/\w'.cell? (U fb 6)=some (.int .u64 t)/\w'.cell? (U fb 7)=some (.int .u64 G)/\w'.cell? (U b 3)=some (.int .u64 R)/\w'.cell? (U b 242)=some (.int .u64 z)/\(∀ty,(Builtin.len_ #[124] ty #[.map (some SN)]).run prog w'=.ok (.int .i64 SL) w')) (⟨C,J,y7,c3,E,s⟩) ?_;refine GI 0 ?_;iterate 25
    refine GV rfl ?_;try simp only[PS]
   refine GI 25 ?_;iterate 8
    refine GU rfl (λ_ _ _ h=>nomatch h.1) ?_;try simp only[PS]
   refine GI 33 ?_;iterate 2
    refine GV rfl ?_;try simp only[PS]
   refine zr ?_;refine⟨rfl,?_⟩;go_wp2_with fail;go_meet;exact⟨by simp[e2,e3,e4],rfl⟩
  have bj:¬(0:Int)<SL:=I;refine zG ?_;refine zo 35 (λw'=>w'.cell? (U b 241)=some (.map (some SN))/\w'.cell? (U fb 6)=some (.int .u64 t)/\w'.cell? (U fb 7)=some (.int .u64 G)/\w'.cell? (U b 3)=some (.int .u64 R)/\w'.cell? (U b 242)=some (.int .u64 z)/\(∀ty,(Builtin.len_ #[124] ty #[.map (some SN)]).run prog w'=.ok (.int .i64 SL) w')) (⟨C,J,y7,c3,E,s⟩) ?_;refine GI 0 ?_;iterate 18
   refine GV rfl ?_;try simp only[PS]
  refine GI 18 ?_;iterate 5
   refine GU rfl (λ_ _ _ h=>nomatch h.1) ?_;try simp only[PS]
  refine GI 23 ?_;iterate 2
   refine GV rfl ?_;try simp only[PS]
  refine GI 25 ?_;iterate 8
   refine GU rfl (λ_ _ _ h=>nomatch h.1) ?_;try simp only[PS]
  refine GI 33 ?_;iterate 2
   refine GV rfl ?_;try simp only[PS]
  refine zr ?_;refine⟨rfl,?_⟩;go_wp2_with fail;go_meet;exact⟨by simp[e2,e3],rfl⟩
 case rest =>
 obtain⟨rfl,hw⟩:=hcut;obtain⟨WA,aH⟩:=nn wc;subst aH;subst hw;clear s;cases dr with
 | true =>
  go_wp2_with fail
  first|go_ret|go_end0
  rw[lI HD.z];exact⟨rfl,ay.z (R0.z.mod0 (DW.refl DY W1).drew.drew)⟩
 | false =>
 have aa:hs=false:=by
  have:=aV.z;cases hs
  .rfl
  simp at this
 obtain⟨v,aY⟩:=nm (max z t);have ez:(if z<t then(t:Int)else(z:Int))=(v:Int):=by split<;>omega
 have q6:v<=4611686018427387903:=I;obtain⟨W2,au⟩:=nm (W1.setCell (U b 242) (.int .u64 v));have m2:DW (λq=>q=b) W1 W2:=by rw[<-au];exact(DW.refl (λq=>q=b) W1).setCell (p:=⟨b,_,none⟩) (.inl rfl) _
 have r2:zz tag i b W1 V { c with most:=v } tag V W2:=by
  rw[<-au];exact R0.z.store (233+9) _ (G8 c { c with most:=v } V V (j:=9) _ rfl rfl rfl rfl) ⟨rfl,λ_ _=>⟨rfl,rfl,rfl⟩,λ_ _=>⟨rfl,rfl⟩,rfl,rfl,rfl,rfl⟩
 have az:Fw W2.drew.drew.drew.drew SN L0:=by
  have:=(r2.mod0 (DW.refl DY W2).drew.drew.drew.drew).c.sn;rw[B.z]at this;rw[<-ar.z];exact this
 obtain⟨W3,aA,aJ,m3⟩:=az.put (x:=t) (y:=G) I I (by rw[aW.z];exact aa) (by rw[bf.z];exact q5);have r3:zz tag i b W1 V { c with most:=v,seen:=L0++[(t,G)] } tag V W3:=by
  have:=(r2.mod0 (DW.refl DY W2).drew.drew.drew.drew).seen (W'':=W3) (l:=L0++[(t,G)]) (by rw[B.z];exact m3) (by rw[B.z];exact aJ);exact this
 obtain⟨z0,z1,z2,z3,z4,z5,z6,z7,z8,z9⟩:=(aT.z r2).cells;rw[aF.z]at z6;rw[aX.z]at z7;have aZ:W2.cell? (b,241)=some (.map (some SN)):=by rw[<-B.z];exact r2.c.tl (j:=8) rfl
 have f42:=fz 242;have bn:=zb aY;have bo:=zb au;have HU:=zb aA;have R3:=zb r3;have a0:=zb aJ;have a1:=zb aa;clear r2 r3 aJ aA aY au az m2 m3 z0 z1 z2 z3 z4 z5 z8 z9 aa;go_upto_region 3 with fail;refine zG ?_;refine zo 10 (λw'=>w'.cell? (U b 242)=some (.int .u64 z)/\w'.frozen? ⟨b,242,none⟩=false/\w'.cell? (U fb 6)=some (.int .u64 t)) (⟨E,f42,J⟩) ?_;refine GI 0 ?_;iterate 10
  refine GV rfl ?_;try simp only[PS]
 refine EX rfl (λK O=>?_);go_simp;try simp only[ez]
 refine O.z _ _ ?_;clear O K;try simp only[PS]
 refine zr ?_;refine⟨rfl,?_⟩;go_upto_region 4 with fail;rw[bo.z];refine zG ?_;refine zo 8 (λw'=>w'.cell? (U b 241)=some (.map (some SN))/\w'.cell? (U fb 6)=some (.int .u64 t)/\w'.cell? (U fb 7)=some (.int .u64 G)) (⟨aZ,z6,z7⟩) ?_;refine GI 0 ?_;iterate 8
  refine GV rfl ?_;try simp only[PS]
 refine EX rfl (λK O=>?_);have hu:=HU.z;go_simp;refine O.z _ _ ?_;clear O K;try simp only[PS]
 refine zr ?_;refine⟨rfl,?_⟩;obtain⟨L,hL⟩:=nm (L0++[(t,G)]);rw[hL]at R3 a0;obtain⟨N,hN⟩:=nm L.length;obtain⟨D,ho,a2,aB⟩:=a0.z;have aK:∀p∈L,p.1<=zF:=λp hp=>by
  rw[<-hL]at hp;rcases Al.1 hp with x|x
  .exact aG.z.ids p (by rw[ar.z];exact x)
  have:p=(t,G):=nF x;rw[this];unfold zF;exact q2
 have a3:(L.map (·.1)).Nodup:=by
  rw[<-hL,Ba,DP];refine⟨by rw[<-ar.z];exact aG.z.nd,mv,λa ha b' bp e=>?_⟩;have bq:b'=t:=nF bp;obtain⟨p,hp,bt⟩:=BQ.1 ha;have h1:=aW.z;rw[a1.z]at h1;have h2:=CZ.1 h1 p hp;simp at h2;exact h2 (by rw[bt,e,bq])
 have j0:=H9.start (w:=W3) (b:=SN) (M:=v) aB a2 aK;rw[hN]at ho;have bu:W3.cell? (b,241)=some (.map (some SN)):=by rw[<-B.z];exact R3.z.c.tl (j:=8) rfl
 have J0:=zb j0;have a4:=zb aK;have bv:=zb a3;have bw:=zb hL;have HNE:=zb hN;clear aB a2 aK a3 hL hN j0 c3 C E f42 fz J y7 aZ z6 z7;go_wp2_with (first|(at_range;refine wpList_range_own _ rfl _ 124 rfl 43 43 JB underlying124 _ SN N D rfl ho ?_;intro w0 ab a5 a6)|fail);obtain⟨RB,aL⟩:=nm W3.heap.size;rw[aL]at ab a6 ⊢;have m0:DW (λq=>q=SN) W3 w0:=(DW.refl _ W3).grown a5 (λk hk=>by cases hk);have aM:=zb aL;clear ho a5 a6 aL bu
 go_frame
 go_loopw [] (λwr=>∃(left:Lit->Bool) (cnt:Nat) (D:DataW Unit) (del:Nat->Bool),wr.ranges (H:=Unit) prog 43 (plainElem prog 43) SN RB N D left cnt/\AA (H9 L v left D del/\DW (λq=>q=SN) W3 wr)) (λwr=>wr.rangeLeft SN RB)
 case atStart=>exact⟨_,_,D,_,ab,zb ⟨J0.z,m0⟩⟩
 case round =>
  clear ab m0 J0;obtain⟨left,cnt,D1,del,ac,HJ⟩:=hrel;have a7:¬b=SN:=λe=>by
   have h1:=R3.z.c.tsn;rw[B.z,<-e,R3.z.c.tb]at h1;simp at h1
  go_wp2_with (first|(at_next;refine wpList_next_ranges_ii _ rfl _ rfl 43 43 .u64 .u64 JB underlying43 underlying43 SN RB N _ _ _ rfl ac ?_ ?_)|fail)
  .intro bz a8;have a9:=HJ.z.1.fin a8 ac.owns;have r5:=R3.z.seen (by rw[B.z];exact HJ.z.2) (by rw[B.z];exact a9);have bA:AA (({ ({ c with most:=v,seen:=L }:CS)with seen:=L.filter λp => !EG v p.1 }:CS)={ c with most:=v,seen:=L.filter λp => !EG v p.1 }):=zb rfl;rw[bA.z]at r5;obtain⟨ca,cc,ad,bB,bC,_⟩:=zk r5.c.cm;obtain⟨CL,ae⟩:=nm c.came.length;have q7:=aG.z.cm;rw[ae]at q7;have ad:V.cm=.slice ca CL cc:=by rw[ad];simp only[ae]
   obtain⟨DT,aN⟩:=nm f.data;obtain⟨v',W6,De,av,aO,ba⟩:=XF wr.drew V.cm c.came t DT (by exact r5.c.cm) (by rw[ae];exact q7);have m5:DW DY wr (wr.drew.alloc (.cells #[t,.string (zu DT)] 154)):=((DW.refl DY wr).drew).alloc _;have af:(c.came++[(t,DT)]).length=c.came.length+1:=mv;rw[<-af]at av;obtain⟨⟨bI,V6,r6⟩,x6,f6⟩:=r5.cmApp m5 av aO ba;obtain⟨va,vc,rfl,_⟩:=zk av;rw[af,ae]at De r6;rw[ad]at De x6;obtain⟨y0,y1,y2,y3,y4,y5,J,y7,y8,y9⟩:=(aT.z r5).cells;rw[aF.z]at J;rw[aN]at y8;have bb:wr.cell? (b,243)=some (.slice ca CL cc):=by rw[<-ad];exact r5.c.tl (j:=10) rfl
   have m6:=(m5.mono (λ_ x=>x.elim)).trans ((DW.refl _ _).grown aO (λg hg=>.inl hg));have ah:¬V.cm.ownBlock=some fb:=λe=>by
    have h1:=r5.c.tcm fb e;exact aU.z (EW h1 mu)
   have p6:=m6.cell (a:=U fb 6) ah J;have p8:=m6.cell (a:=U fb 8) ah y8;have HA:=zb De;have R6:=zb r6;have bD:=zb aN;have bE:=λo=>(show(wr.drew.alloc o).cell? (U b 243)=some (.slice ca CL cc)/\(wr.drew.alloc o).cell? (U fb 6)=some (.int .u64 t)/\(wr.drew.alloc o).cell? (U fb 8)=some (.string (zu DT))from
    have m:=((DW.refl DY wr).drew).alloc o
    ⟨m.cell (a:=⟨b,_,none⟩) id bb,m.cell (a:=⟨fb,_,none⟩) id J,m.cell (a:=⟨fb,_,none⟩) id y8⟩)
   clear ac a8 bz a9 r5 bB bC ae q7 ad av aO ba m5 af r6 De aN m6 ah y0 y1 y2 y3 y4 y5 y7 y9;go_upto_region 10 with fail;refine zG ?_;refine zo 14 (λw'=>w'.cell? (U b 243)=some (.slice ca CL cc)/\w'.cell? (U fb 6)=some (.int .u64 t)/\w'.cell? (U fb 8)=some (.string (zu DT))) (⟨bb,J,y8⟩) ?_;refine GI 0 ?_;iterate 10
    refine GV rfl ?_;try simp only[PS]
   refine zE 10 rfl (λK O=>?_);go_simp;refine O.z _ _ (bE _) ?_;clear O K;try simp only[PS]
   refine zE 11 rfl (λK O=>?_);refine zS rfl _ _ _ _ rfl _ _ _ rfl rfl HA.z ?_;refine O.z _ _ ⟨x6,p6,p8⟩ ?_;clear O K;try simp only[PS]
   refine GI 12 ?_;iterate 2
    refine GV rfl ?_;try simp only[PS]
   refine EX rfl (λK O=>?_);go_simp;refine O.z _ _ ?_;clear O K;try simp only[PS]
   refine zr ?_;refine⟨rfl,?_⟩;go_wp2_with fail
   first|go_ret|go_end0
   rw[lH HD.z,be.z,aF.z,bn.z,ar.z,aX.z,bw.z,bD.z];exact⟨rfl,ay.z R6.z⟩
  intro x cv w1 bJ aP hwc hlx bF F hlt aQ hs1 hen;obtain⟨xn,rfl,aw⟩:∃xn:Nat,x=(xn:Int)/\xn<18446744073709551616:=by
   have aP:(decide ((0:Int)<=x)&&decide (x<=18446744073709551615))=true:=aP;simp only[AZ,Ah]at aP;exact⟨x.toNat,I,I⟩
  have bK:w1.cell? (b,242)=some (.int .u64 v):=by
   have h1:=HJ.z.2.cell (a:=U b 242) a7 (R3.z.c.tl (j:=9) rfl);have h2:DW (λq=>q=RB) wr w1:=(DW.refl _ wr).grown aQ (λk hk=>.inl (by cases hk;rfl));exact h2.cell (a:=U b 242) (by
    show ¬b=RB;have h3:=zm (R3.z.c.tl (j:=9) rfl);have h4:=aM.z;omega) h1
  have bL:w1.cell? (b,241)=some (.map (some SN)):=by
   have h1:=HJ.z.2.cell (a:=U b 241) a7 (R3.z.c.tl (j:=8) rfl);rw[B.z]at h1;have h2:DW (λq=>q=RB) wr w1:=(DW.refl _ wr).grown aQ (λk hk=>.inl (by cases hk;rfl));exact h2.cell (a:=U b 241) (by
    show ¬b=RB;have h3:=zm (R3.z.c.tl (j:=9) rfl);have h4:=aM.z;omega) h1
  have mw:=HJ.z.2.then ((DW.refl (λq=>q=RB) wr).grown aQ (λk hk=>.inl (by cases hk;rfl))) (λq hq=>.inr (by
   have h4:=aM.z;have:=hq;omega))
  have ax:=Maps.has_true_of_atKey bF;have MW:=zb mw;have bG:=zb ax;have aR:=ac.left_eq;by_cases e1:32<=v
  .have bH:(32:Int)<=v:=I;have w4:=wu ((v:Int)-32) I;by_cases e2:xn<=v-32
   .have aI:(xn:Int)<=(v:Int)-32:=I;have ai:AA (EG v xn=true):=zb (by unfold EG;simp[e1,e2]);clear mw ax e2 e1;go_wp2_with (first|(at_delete;refine wpList_delete_ranges _ rfl _ _ 124 43 rfl 43 JB underlying124 _ SN RB N _ _ _ rfl F (.int .u64 xn) (.int .u64 xn) rfl (Mv aw) ?_;intro w2 bM aj bN aS)|fail);rw[Maps.strike_twice]at aj
    go_frame
    go_roundw
    case rel=>exact⟨_,_,_,_,aj,zb ⟨HJ.z.1.strike aw ai.z bv.z bG.z (ac.owns.tidy JB),MW.z.trans ((DW.refl _ w1).grown aS.grown (λk hk=>.inl (by cases hk;rfl)))⟩⟩
    rw[aj.left_eq,aR];omega
   have aI:¬(xn:Int)<=(v:Int)-32:=I;have ai:AA (EG v xn=false):=zb (by unfold EG;simp[e2]);clear mw ax e2 e1;go_wp2_with fail;go_roundw
   case rel=>exact⟨_,_,_,_,F,zb ⟨HJ.z.1.keep aw ai.z a4.z,MW.z⟩⟩
   rw[F.left_eq,aR];omega
  have bH:¬(32:Int)<=v:=I;have ai:AA (EG v xn=false):=zb (by unfold EG;simp[e1]);clear mw ax e1;go_wp2_with fail;go_roundw
  case rel=>exact⟨_,_,_,_,F,zb ⟨HJ.z.1.keep aw ai.z a4.z,MW.z⟩⟩
  rw[F.left_eq,aR];omega
structure Og(c:CS)(f:Da):Prop where
 ack:f.kind=2->0<f.rngs.length/\f.rngs.length<=1099511627776/\c.flight.length<=1099511627776/\(¬c.next<=DX f.rngs 0->NG { c with largest:=max c.largest (DX f.rngs 0) } f.rngs/\Kj (c.ackedTo f.rngs))
 reset:f.kind=3->∃k:Nat,k<8/\f.stream=(k:Int)
 data:f.kind=4->∃k,QI c f k
 ms:f.kind=6->∃k:Nat,k<8/\f.stream=(k:Int)
 msg:f.kind=7->Pu c f
def gh(h:zi tag i b c V W)(p:Dv tag W)(hi:0<i)(f:Da)(q:nI)(rn d:Nat)(h2:¬f.kind=2)(h3:¬f.kind=3)(h4:¬f.kind=4)(v:¬f.kind=5)(w:¬f.kind=6)(y:¬f.kind=7)(z:¬f.kind=8):Calls prog 89 #[(b,0),.agg (zl f (.slice q rn d))] W (Ej tag i b W (.int .i64 0) c):=by
 obtain⟨W1,a⟩:=nm (W.alloc (.cells (zl f (.slice q rn d)) 65));have m1:=AB a;have j:zj W1 W.heap.size f (.slice q rn d):=by rw[<-a];exact heap_alloc_new W _
 have h1:=h.mod0 m1;have n:=p.mod m1;have A:zz tag i b W1 V c tag V W1:=⟨h1,Dn.same n (DW.refl DY W1),DW.refl _ _,hi,⟨rfl,rfl⟩⟩;have o:AA (∀{c':CS} {tag':nH} {V':CV} {W':World},zz tag i b W1 V c' tag' V' W'->Ds tag i b W c' W'):=zb (λr =>
  ⟨_,_,r.c,IS p m1 r.e,(m1.mono (λ_ x=>x.elim)).then r.m.ofC (λg hg=>.inl hg)⟩)
 have s:AA (∀{c':CS} {W':World},Ds tag i b W1 c' W'->Ds tag i b W c' W'):=zb (λl=>l.from0 p hi m1);obtain⟨fb,k⟩:=nm W.heap.size;rw[k]at j;obtain⟨y0,y1,y2,y3,y4,y5,y6,y7,y8,y9⟩:=j.cells;have g2:(f.kind==2)=false:=nF h2;have g3:(f.kind==3)=false:=nF h3;have g4:(f.kind==4)=false:=nF h4;have g5:(f.kind==5)=false:=nF v;have g6:(f.kind==6)=false:=nF w;have g7:(f.kind==7)=false:=nF y;have g8:(f.kind==8)=false:=nF z;have R0:=zb A;have t:=zb a;have u:=zb k;clear h p hi m1 j h1 n A a k y1 y2 y3 y4 y5 y6 y7 y8 y9 h2 h3 h4 v w y z;go_enter func89,ntmps89;go_upto_region 1 with fail;rw[t.z,u.z];go_wp2_with fail;go_ret;exact⟨rfl,o.z R0.z⟩
def ge(h:zi tag i b c V W)(p:Dv tag W)(hi:0<i)(f:Da)(q:nI)(rn d:Nat)(v:f.kind=8):Calls prog 89 #[(b,0),.agg (zl f (.slice q rn d))] W (Ej tag i b W (.int .i64 13) c):=by
 obtain⟨W1,a⟩:=nm (W.alloc (.cells (zl f (.slice q rn d)) 65));have m1:=AB a;have j:zj W1 W.heap.size f (.slice q rn d):=by rw[<-a];exact heap_alloc_new W _
 have h1:=h.mod0 m1;have n:=p.mod m1;have w:zz tag i b W1 V c tag V W1:=⟨h1,Dn.same n (DW.refl DY W1),DW.refl _ _,hi,⟨rfl,rfl⟩⟩;have o:AA (∀{c':CS} {tag':nH} {V':CV} {W':World},zz tag i b W1 V c' tag' V' W'->Ds tag i b W c' W'):=zb (λr =>
  ⟨_,_,r.c,IS p m1 r.e,(m1.mono (λ_ x=>x.elim)).then r.m.ofC (λg hg=>.inl hg)⟩)
 have s:AA (∀{c':CS} {W':World},Ds tag i b W1 c' W'->Ds tag i b W c' W'):=zb (λl=>l.from0 p hi m1);obtain⟨fb,k⟩:=nm W.heap.size;rw[k]at j;obtain⟨y0,y1,y2,y3,y4,y5,y6,y7,y8,y9⟩:=j.cells;rw[v]at y0;have R0:=zb w;have t:=zb a;have u:=zb k;clear h p hi m1 j h1 n w a k y1 y2 y3 y4 y5 y6 y7 y8 y9 v;go_enter func89,ntmps89;go_upto_region 1 with fail;rw[t.z,u.z];go_wp2_with fail;go_ret;exact⟨rfl,o.z R0.z⟩
def gZ(h:zi tag i b c V W)(v:Dv tag W)(hi:0<i)(f:Da)(w:nI)(rn d:Nat)(H:f.kind=5):Calls prog 89 #[(b,0),.agg (zl f (.slice w rn d))] W (Ej tag i b W (.int .i64 0) { c with credit:=max c.credit f.lim }):=by
 obtain⟨W1,a⟩:=nm (W.alloc (.cells (zl f (.slice w rn d)) 65));have m1:=AB a;have k:zj W1 W.heap.size f (.slice w rn d):=by rw[<-a];exact heap_alloc_new W _
 have h1:=h.mod0 m1;have s:=v.mod m1;have y:zz tag i b W1 V c tag V W1:=⟨h1,Dn.same s (DW.refl DY W1),DW.refl _ _,hi,⟨rfl,rfl⟩⟩;have t:AA (∀{c':CS} {tag':nH} {V':CV} {W':World},zz tag i b W1 V c' tag' V' W'->Ds tag i b W c' W'):=zb (λr =>
  ⟨_,_,r.c,IS v m1 r.e,(m1.mono (λ_ x=>x.elim)).then r.m.ofC (λg hg=>.inl hg)⟩)
 have z:AA (∀{c':CS} {W':World},Ds tag i b W1 c' W'->Ds tag i b W c' W'):=zb (λl=>l.from0 v hi m1);obtain⟨fb,n⟩:=nm W.heap.size;rw[n]at k;obtain⟨y0,y1,y2,y3,J,y5,y6,y7,y8,y9⟩:=k.cells;rw[H]at y0;have u:W1.cell? (b,233)=some (.int .u64 c.credit):=h1.tl (j:=0) rfl;have A:=h1.fz 233;obtain⟨B,o⟩:=nm (max c.credit f.lim);have L:=y.store (233+0) (.int .u64 B) (G8 c { c with credit:=B } V V (j:=0) _ rfl rfl rfl rfl) ⟨rfl,λ_ _=>⟨rfl,rfl,rfl⟩,λ_ _=>⟨rfl,rfl⟩,rfl,rfl,rfl,rfl⟩;rw[o];obtain⟨C,p⟩:=nm c.credit;obtain⟨D,q⟩:=nm f.lim;rw[p,q]at o;rw[p]at u;rw[q]at J;have ez:(if C<D then(D:Int)else(C:Int))=(B:Int):=by split<;>omega
 have HS:=zb L;have R0:=zb y;have E:=zb a;have F:=zb n;clear h v hi m1 k h1 s y a n y1 y2 y3 y5 y6 y7 y8 y9 H L o p q;go_enter func89,ntmps89;go_upto_region 1 with fail;rw[E.z,F.z];go_upto_region 14 with fail;refine zG ?_;refine zo 10 (λw'=>w'.cell? (U b 233)=some (.int .u64 C)/\w'.frozen? ⟨b,233,none⟩=false/\w'.cell? (U fb 4)=some (.int .u64 D)) (⟨u,A,J⟩) ?_;refine GI 0 ?_;iterate 10
  refine GV rfl ?_;try simp only[PS]
 refine EX rfl (λK M=>?_);go_simp;try simp only[ez]
 refine M.z _ _ ?_;clear M K;try simp only[PS]
 refine zr ?_;refine⟨rfl,?_⟩;go_wp2_with fail;go_ret;exact⟨rfl,t.z (HS.z.mod0 (DW.refl DY _).drew)⟩
def gY(h:zi tag i b c V W)(B:Dv tag W)(hi:0<i)(f:Da)(C:nI)(rn d:Nat)(O:f.kind=6)(k:Nat)(hk:k<8)(u:f.stream=(k:Int)):Calls prog 89 #[(b,0),.agg (zl f (.slice C rn d))] W (Ej tag i b W (.int .i64 0) { c with ws:=zf c.ws k { c.ws k with credit:=max (c.ws k).credit f.lim } }):=by
 obtain⟨W1,a⟩:=nm (W.alloc (.cells (zl f (.slice C rn d)) 65));have m1:=AB a;have n:zj W1 W.heap.size f (.slice C rn d):=by rw[<-a];exact heap_alloc_new W _
 have h1:=h.mod0 m1;have v:=B.mod m1;have D:zz tag i b W1 V c tag V W1:=⟨h1,Dn.same v (DW.refl DY W1),DW.refl _ _,hi,⟨rfl,rfl⟩⟩;have y:AA (∀{c':CS} {tag':nH} {V':CV} {W':World},zz tag i b W1 V c' tag' V' W'->Ds tag i b W c' W'):=zb (λr =>
  ⟨_,_,r.c,IS B m1 r.e,(m1.mono (λ_ x=>x.elim)).then r.m.ofC (λg hg=>.inl hg)⟩)
 have E:AA (∀{c':CS} {W':World},Ds tag i b W1 c' W'->Ds tag i b W c' W'):=zb (λl=>l.from0 B hi m1);obtain⟨fb,o⟩:=nm W.heap.size;rw[o]at n;obtain⟨y0,P,y2,y3,Q,y5,y6,y7,y8,y9⟩:=n.cells;rw[O]at y0;rw[u]at P;have z:W1.cell? (b,9+k*15+14)=some (.int .u64 ((c.ws k).credit:Int)):=by rw[AL k 15];exact h1.w (j:=14) hk rfl
 have F:=h1.fz (9+k*15+14);obtain⟨G,p⟩:=nm (max (c.ws k).credit f.lim);have A:({ c with ws:=zf c.ws k (c.ws k) }:CS)=c:=by rw[Fy]
 have H:=(D.same A.symm).storeW hk 14 mu (.int .u64 G) { c.ws k with credit:=G } rfl rfl rfl rfl;rw[AL 15 k]at H;rw[p];obtain⟨J,q⟩:=nm ((c.ws k).credit);obtain⟨L,s⟩:=nm f.lim;rw[q,s]at p;rw[q]at z;rw[s]at Q;have ez:(if J<L then(L:Int)else(J:Int))=(G:Int):=by split<;>omega
 have dk0:(0:Int)<=k:=I;have dk8:(k:Int)<8:=I;have HS:=zb H;have R0:=zb D;have M:=zb a;have N:=zb o;clear h B hi m1 n h1 v D a o y2 y3 y5 y6 y7 y8 y9 O H p q s u A;go_enter func89,ntmps89;go_upto_region 1 with fail;rw[M.z,N.z];go_upto_region 16 with fail;refine zG ?_;refine zo 7 (λw'=>w'.cell? (U fb 1)=some (.int .i64 k)) (P) ?_;refine GI 0 ?_;iterate 7
  refine GV rfl ?_;try simp only[PS]
 refine zr ?_;refine⟨rfl,?_⟩;go_upto_region 17 with fail;refine zG ?_;refine zo 10 (λw'=>w'.cell? (b,9+k*15+14)=some (.int .u64 J)/\w'.frozen? ⟨b,9+k*15+14,none⟩=false/\w'.cell? (U fb 4)=some (.int .u64 L)) (⟨z,F,Q⟩) ?_;refine GI 0 ?_;iterate 10
  refine GV rfl ?_;try simp only[PS]
 refine EX rfl (λK R=>?_);go_simp;try simp only[ez]
 refine R.z _ _ ?_;clear R K;try simp only[PS]
 refine zr ?_;refine⟨rfl,?_⟩;go_wp2_with fail;go_ret;exact⟨rfl,y.z (HS.z.mod0 (DW.refl DY _).drew.drew)⟩
def fA(h:zi tag i b c V W)(u:Dv tag W)(hi:0<i)(f:Da)(k:nI)(rn a:Nat)(h2:f.kind=2)(v:rn=f.rngs.length)(w:RR W (.slice k rn a) f.rngs)(n:∀g,Value.blk (.slice k rn a)=some g->(tag g).1≠i)(ok:Og c f):Calls prog 89 #[(b,0),.agg (zl f (.slice k rn a))] W (Ej tag i b W (.int .i64 ((c.acked f.rngs).1:Int)) (c.acked f.rngs).2):=by
 obtain⟨W1,d⟩:=nm (W.alloc (.cells (zl f (.slice k rn a)) 65));have m1:=AB d;have o:zj W1 W.heap.size f (.slice k rn a):=by rw[<-d];exact heap_alloc_new W _
 have h1:=h.mod0 m1;have j:=u.mod m1;have D:zz tag i b W1 V c tag V W1:=⟨h1,Dn.same j (DW.refl DY W1),DW.refl _ _,hi,⟨rfl,rfl⟩⟩;have E:AA (∀{c':CS} {tag':nH} {V':CV} {W':World},zz tag i b W1 V c' tag' V' W'->Ds tag i b W c' W'):=zb (λr =>
  ⟨_,_,r.c,IS u m1 r.e,(m1.mono (λ_ x=>x.elim)).then r.m.ofC (λg hg=>.inl hg)⟩)
 have p:AA (∀{c':CS} {W':World},Ds tag i b W1 c' W'->Ds tag i b W c' W'):=zb (λl=>l.from0 u hi m1);obtain⟨fb,q⟩:=nm W.heap.size;rw[q]at o;obtain⟨y0,y1,y2,y3,y4,y5,y6,y7,y8,y9⟩:=o.cells;subst v;obtain⟨o1,y,F,z⟩:=ok.ack h2;have A:Calls prog 158 #[(b,0),.slice k f.rngs.length a] W1 (Ej tag i b W1 (.int .i64 ((c.acked f.rngs).1:Int)) (c.acked f.rngs).2):=by
  by_cases s:c.next<=DX f.rngs 0
  .have e:c.acked f.rngs=(11,c):=by unfold CS.acked;rw[AQ s]
   rw[e];exact jj h1 j hi f.rngs k a (w.mod m1 (Dp.no _)) n o1 y s
  rw[PF c f.rngs s];exact ji h1 j hi f.rngs k a (w.mod m1 (Dp.no _)) n o1 y s F (z s).1 (z s).2
 rw[h2]at y0;obtain⟨RL,t⟩:=nm f.rngs.length;rw[t]at A y9 d ⊢;have KA:=zb A;have R0:=zb D;have B:=zb d;have C:=zb q;clear h u hi m1 o h1 j D d q y1 y2 y3 y4 y5 y6 y7 y8 h2 w n ok A o1 y F z t;go_enter func89,ntmps89;go_upto_region 1 with fail;rw[B.z,C.z];go_upto_region 3 with fail;go_wp2_with fail;refine(KA.z).mono ?_;rintro e W6 ⟨rfl,G⟩;have L6:=zb G;clear G;go_wp2_with fail;go_ret;exact⟨rfl,p.z L6.z⟩
def ey(h:zi tag i b c V W)(q:Dv tag W)(hi:0<i)(f:Da)(s:nI)(rn a:Nat)(hk:f.kind=4)(k:Nat)(ok:QI c f k):Calls prog 89 #[(b,0),.agg (zl f (.slice s rn a))] W (Ej tag i b W (.int .i64 ((c.data f).1:Int)) (c.data f).2):=by
 obtain⟨W1,d⟩:=nm (W.alloc (.cells (zl f (.slice s rn a)) 65));have m1:=AB d;have j:zj W1 W.heap.size f (.slice s rn a):=by rw[<-d];exact heap_alloc_new W _
 have h1:=h.mod0 m1;have n:=q.mod m1;have w:zz tag i b W1 V c tag V W1:=⟨h1,Dn.same n (DW.refl DY W1),DW.refl _ _,hi,⟨rfl,rfl⟩⟩;have y:AA (∀{c':CS} {tag':nH} {V':CV} {W':World},zz tag i b W1 V c' tag' V' W'->Ds tag i b W c' W'):=zb (λr =>
  ⟨_,_,r.c,IS q m1 r.e,(m1.mono (λ_ x=>x.elim)).then r.m.ofC (λg hg=>.inl hg)⟩)
 have o:AA (∀{c':CS} {W':World},Ds tag i b W1 c' W'->Ds tag i b W c' W'):=zb (λl=>l.from0 q hi m1);obtain⟨fb,p⟩:=nm W.heap.size;rw[p]at j;obtain⟨y0,y1,y2,y3,y4,y5,y6,y7,y8,y9⟩:=j.cells;have t:=gk h1 n hi f (.slice s rn a) k ok ⟨_,_,_,rfl⟩;rw[hk]at y0;unfold zl at t;rw[hk]at t;have KA:=zb t;have R0:=zb w;have u:=zb d;have v:=zb p;clear h q hi m1 j h1 n w d p t ok;have HK:=zb hk;clear hk;go_enter func89,ntmps89;go_upto_region 1 with fail;rw[u.z,v.z];go_upto_region 12 with fail;go_wp2_with fail;refine(KA.z).mono ?_;rintro e W6 ⟨rfl,z⟩;have L6:=zb z;clear z;go_wp2_with fail;go_ret;exact⟨rfl,o.z L6.z⟩
def ex(h:zi tag i b c V W)(p:Dv tag W)(hi:0<i)(f:Da)(q:nI)(rn a:Nat)(hk:f.kind=7)(ok:Pu c f):Calls prog 89 #[(b,0),.agg (zl f (.slice q rn a))] W (Ej tag i b W (.int .i64 0) (c.message f)):=by
 obtain⟨W1,d⟩:=nm (W.alloc (.cells (zl f (.slice q rn a)) 65));have m1:=AB d;have j:zj W1 W.heap.size f (.slice q rn a):=by rw[<-d];exact heap_alloc_new W _
 have h1:=h.mod0 m1;have k:=p.mod m1;have v:zz tag i b W1 V c tag V W1:=⟨h1,Dn.same k (DW.refl DY W1),DW.refl _ _,hi,⟨rfl,rfl⟩⟩;have w:AA (∀{c':CS} {tag':nH} {V':CV} {W':World},zz tag i b W1 V c' tag' V' W'->Ds tag i b W c' W'):=zb (λr =>
  ⟨_,_,r.c,IS p m1 r.e,(m1.mono (λ_ x=>x.elim)).then r.m.ofC (λg hg=>.inl hg)⟩)
 have n:AA (∀{c':CS} {W':World},Ds tag i b W1 c' W'->Ds tag i b W c' W'):=zb (λl=>l.from0 p hi m1);obtain⟨fb,o⟩:=nm W.heap.size;rw[o]at j;obtain⟨y0,y1,y2,y3,y4,y5,y6,y7,y8,y9⟩:=j.cells;have s:=lG h1 k hi f (.slice q rn a) ok ⟨_,_,_,rfl⟩;rw[hk]at y0;unfold zl at s;rw[hk]at s;have KA:=zb s;have R0:=zb v;have t:=zb d;have u:=zb o;clear h p hi m1 j h1 k v d o s ok;have HK:=zb hk;clear hk;go_enter func89,ntmps89;go_upto_region 1 with fail;rw[t.z,u.z];go_upto_region 19 with fail;go_wp2_with fail;refine(KA.z).mono ?_;rintro e W6 ⟨rfl,y⟩;have L6:=zb y;clear y;go_wp2_with fail;go_ret;exact⟨rfl,n.z L6.z⟩
theorem ew(h:zi tag i b c V W)(X:Dv tag W)(hi:0<i)(f:Da)(ra:nI)(rn w:Nat)(h3:f.kind=3)(k:Nat)(hk:k<8)(E:f.stream=(k:Int)):Calls prog 89 #[(b,0),.agg (zl f (.slice ra rn w))] W (Ej tag i b W (.int .i64 ((c.resetAt f).1:Int)) (c.resetAt f).2):=by
 obtain⟨W1,y⟩:=nm (W.alloc (.cells (zl f (.slice ra rn w)) 65));have m1:=AB y;have z:zj W1 W.heap.size f (.slice ra rn w):=by rw[<-y];exact heap_alloc_new W _
 have h1:=h.mod0 m1;have Y:=X.mod m1;have r0:zz tag i b W1 V c tag V W1:=⟨h1,Dn.same Y (DW.refl DY W1),DW.refl _ _,hi,⟨rfl,rfl⟩⟩;have C:AA (∀{c':CS} {tag':nH} {V':CV} {W':World},zz tag i b W1 V c' tag' V' W'->Ds tag i b W c' W'):=zb (λr =>
  ⟨_,_,r.c,IS X m1 r.e,(m1.mono (λ_ x=>x.elim)).then r.m.ofC (λg hg=>.inl hg)⟩)
 have ae:AA (∀{c':CS} {W':World},Ds tag i b W1 c' W'->Ds tag i b W c' W'):=zb (λl=>l.from0 X hi m1);obtain⟨fb,A⟩:=nm W.heap.size;rw[A]at z;obtain⟨y0,y1,F,y3,y4,y5,y6,y7,y8,y9⟩:=z.cells;rw[h3]at y0;rw[E]at y1;have G:AA (∀{c':CS} {tag':nH} {V':CV} {W':World},zz tag i b W1 V c' tag' V' W'->zj W' fb f (.slice ra rn w)):=zb (λr=>z.mod r.m (λx=>by
  have h1:=x.1;rw[<-A,X _ (AF _)]at h1;simp at h1;omega))
 obtain⟨x,hx⟩:=nm (c.rs k);obtain⟨en,H⟩:=nm x.ended;obtain⟨cu,J⟩:=nm x.cut;obtain⟨t,L⟩:=nm x.fin;obtain⟨S,M⟩:=nm x.high;obtain⟨u,B⟩:=nm x.keep;obtain⟨n,p⟩:=nm f.off;obtain⟨RL,N⟩:=nm f.rel;have r4:W1.cell? (b,129+k*13+4)=some (.int .u64 S):=by rw[<-M,<-hx,AL k 13];exact h1.r (j:=4) hk rfl
 have r5:W1.cell? (b,129+k*13+5)=some (.int .u64 t):=by rw[<-L,<-hx,AL k 13];exact h1.r (j:=5) hk rfl
 have r6:W1.cell? (b,129+k*13+6)=some (.bool en):=by rw[<-H,<-hx,AL k 13];exact h1.r (j:=6) hk rfl
 have r7:W1.cell? (b,129+k*13+7)=some (.bool cu):=by rw[<-J,<-hx,AL k 13];exact h1.r (j:=7) hk rfl
 have r8:W1.cell? (b,129+k*13+8)=some (.int .u64 u):=by rw[<-B,<-hx,AL k 13];exact h1.r (j:=8) hk rfl
 have fz:=h1.fz;rw[p]at F;rw[N]at y3;have Z:c={ c with rs:=zf c.rs k x }:=by rw[<-hx,Fy]
 have RX:=zb (r0.same Z);have q:AA (c.resetAt f=if (en&&t != n)||decide (n<S)then(10,c)else(0,{ c with rs:=zf c.rs k (x.resetAt f) })):=zb (by
  unfold CS.resetAt;rw[E];simp only[Ae,hx,H,L,p,M])
 have aa:AA (x.resetAt f={ x with keep:=if !cu||decide (RL<u)then RL else u,cut:=true,ended:=true,fin:=n }):=zb (by
  unfold RS.resetAt;rw[J,N,B,p])
 have af:=zb B;have O:=zb p;have dk0:(0:Int)<=k:=I;have dk8:(k:Int)<8:=I;have R0:=zb r0;have ah:=zb y;have ai:=zb A;obtain⟨bad,s⟩:=nm (((en&&t != n)||decide (n<S)));rw[s]at q;have ab:=zb s;obtain⟨T,P⟩:=nm ((!cu||decide (RL<u)));rw[P]at aa;have aj:=zb P;clear h X hi m1 z h1 Y r0 y A y4 y5 y6 y7 y8 y9 h3 E hx H J L M B p N Z s P;go_enter func89,ntmps89;go_upto_region 1 with fail;rw[ah.z,ai.z];go_upto_region 5 with fail;refine zG ?_;refine zo 7 (λw'=>w'.cell? (U fb 1)=some (.int .i64 k)) (y1) ?_;refine GI 0 ?_;iterate 7
  refine GV rfl ?_;try simp only[PS]
 refine zr ?_;refine⟨rfl,?_⟩;go_upto_region 6 with fail
 go_cut [44] (λbv d=>bv=.bool bad/\d=W1.drew.drew)
 case first=>as_aux_lemma =>
  have hB:=ab.z;subst hB;cases en
  .refine zG ?_;refine zo 22 (λw'=>w'.cell? (b,129+k*13+6)=some (.bool false)/\w'.cell? (b,129+k*13+5)=some (.int .u64 t)/\w'.cell? (b,129+k*13+4)=some (.int .u64 S)/\w'.cell? (U fb 2)=some (.int .u64 n)) (⟨r6,r5,r4,F⟩) ?_;refine GI 0 ?_;iterate 5
    refine GV rfl ?_;try simp only[PS]
   refine GI 5 ?_;iterate 7
    refine GU rfl (λ_ _ _ h=>nomatch h.1) ?_;try simp only[PS]
   refine GI 12 ?_;iterate 10
    refine GV rfl ?_;try simp only[PS]
   refine zr ?_;refine⟨rfl,?_⟩;go_wp2_with fail;go_meet;exact⟨mv,rfl⟩
  by_cases e1:t=n
  .subst e1;refine zG ?_;refine zo 22 (λw'=>w'.cell? (b,129+k*13+6)=some (.bool true)/\w'.cell? (b,129+k*13+5)=some (.int .u64 t)/\w'.cell? (b,129+k*13+4)=some (.int .u64 S)/\w'.cell? (U fb 2)=some (.int .u64 t)) (⟨r6,r5,r4,F⟩) ?_;refine GI 0 ?_;iterate 22
    refine GV rfl ?_;try simp only[PS]
   refine zr ?_;refine⟨rfl,?_⟩;go_wp2_with fail;go_meet;exact⟨mv,rfl⟩
  have ak:((t:Int)==(n:Int))=false:=by rw[MU];simpa using e1
  have e1d:((t:Int) != (n:Int))=true:=by simp only[bne,ak];rfl
  have E1:=zb e1;clear e1;refine zG ?_;refine zo 22 (λw'=>w'.cell? (b,129+k*13+6)=some (.bool true)/\w'.cell? (b,129+k*13+5)=some (.int .u64 t)/\w'.cell? (b,129+k*13+4)=some (.int .u64 S)/\w'.cell? (U fb 2)=some (.int .u64 n)) (⟨r6,r5,r4,F⟩) ?_;refine GI 0 ?_;iterate 14
   refine GV rfl ?_;try simp only[PS]
  refine GI 14 ?_;iterate 7
   refine GU rfl (λ_ _ _ h=>nomatch h.1) ?_;try simp only[PS]
  refine GI 21 ?_;refine GV rfl ?_;try simp only[PS]
  refine zr ?_;refine⟨rfl,?_⟩;go_wp2_with fail;go_meet;exact⟨by simp[E1.z],rfl⟩
 case rest =>
 obtain⟨rfl,hw⟩:=hcut;obtain⟨WA,Q⟩:=nn wc;subst Q;subst hw;clear r4 r5 r6;cases bad with
 | true =>
  have o:=q.z;simp only[BC]at o;have R:=zb o;clear o;go_wp2_with fail;go_ret;rw[R.z];exact⟨rfl,C.z (R0.z.mod0 (DW.refl DY W1).drew.drew)⟩
 | false =>
 have o:=q.z;simp only[BX,Be]at o;have R:=zb o;clear o;go_upto_region 8 with fail
 go_cut [58] (λbv d=>bv=.bool T/\d=W1.drew.drew.drew)
 case first=>as_aux_lemma =>
  have hB:=aj.z;subst hB;cases cu
  .refine zG ?_;refine zo 14 (λw'=>w'.cell? (b,129+k*13+7)=some (.bool false)/\w'.cell? (b,129+k*13+8)=some (.int .u64 u)/\w'.cell? (U fb 3)=some (.int .u64 RL)) (⟨r7,r8,y3⟩) ?_;refine GI 0 ?_;iterate 6
    refine GV rfl ?_;try simp only[PS]
   refine GI 6 ?_;iterate 7
    refine GU rfl (λ_ _ _ h=>nomatch h.1) ?_;try simp only[PS]
   refine GI 13 ?_;refine GV rfl ?_;try simp only[PS]
   refine zr ?_;refine⟨rfl,?_⟩;go_wp2_with fail;go_meet;exact⟨mv,rfl⟩
  refine zG ?_;refine zo 14 (λw'=>w'.cell? (b,129+k*13+7)=some (.bool true)/\w'.cell? (b,129+k*13+8)=some (.int .u64 u)/\w'.cell? (U fb 3)=some (.int .u64 RL)) (⟨r7,r8,y3⟩) ?_;refine GI 0 ?_;iterate 14
   refine GV rfl ?_;try simp only[PS]
  refine zr ?_;refine⟨rfl,?_⟩;go_wp2_with fail;go_meet;exact⟨mv,rfl⟩
 case rest =>
 obtain⟨rfl,hw⟩:=hcut;obtain⟨WA,Q⟩:=nn wc;subst Q;subst hw;have rk:=(RX.z.mod0 (DW.refl DY W1).drew.drew.drew).storeR hk 8 mu (.int .u64 RL) { x with keep:=RL } (by rfl) rfl rfl;rw[AL 13 k]at rk;have f8:=fz (129+k*13+8);have RK:=zb rk;clear rk;go_upto_if 58 with fail
 go_cut [] (λd=>AA (zz tag i b W1 V { c with rs:=zf c.rs k { x with keep:=if T then RL else u } } tag V d))
 case first=>as_aux_lemma =>
  cases T
  .go_wp2_with fail;go_meet;exact zb ((RX.z.mod0 (DW.refl DY W1).drew.drew.drew).same (by rw[<-af.z];simp))
  go_wp2_with fail;go_meet;exact zb (RK.z.same mv)
 case rest =>
 obtain⟨WB,al⟩:=nn wc;subst al;have RB:=hcut;clear hcut RK y1 F y3 r7 r8 f8 fz;have F:WB.cell? (fb,2)=some (.int .u64 n):=by rw[<-O.z];exact(G.z RB.z).cells.2.2.1
 have fzb:=RB.z.c.fz;obtain⟨u7,c7⟩:∃v,WB.cell? (b,129+k*13+7)=some v:=⟨_,by rw[AL k 13];exact RB.z.c.r (j:=7) hk rfl⟩;have r1:=RB.z.storeR hk 7 mu (.bool true) { x with keep:=if T then RL else u,cut:=true } (by rfl) rfl rfl;have r2:=r1.storeR hk 6 mu (.bool true) { x with keep:=if T then RL else u,cut:=true,ended:=true } (by rfl) rfl rfl;have r3:=r2.storeR hk 5 mu (.int .u64 n) { x with keep:=if T then RL else u,cut:=true,ended:=true,fin:=n } (by rfl) rfl rfl;have ac:(WB.setCell (b,129+13*k+7) (.bool true)).cell? (fb,2)=some (.int .u64 n):=by rw[<-O.z];exact(G.z r1).cells.2.2.1
 have ad:((WB.setCell (b,129+13*k+7) (.bool true)).setCell (b,129+13*k+6) (.bool true)).cell? (fb,2)=some (.int .u64 n):=by rw[<-O.z];exact(G.z r2).cells.2.2.1
 have am:=r1.c.fz;have an:=r2.c.fz;obtain⟨u6,c6⟩:∃v,(WB.setCell (b,129+13*k+7) (.bool true)).cell? (b,129+k*13+6)=some v:=⟨_,by rw[AL k 13];exact r1.c.r (j:=6) hk rfl⟩;obtain⟨u5,c5⟩:∃v,((WB.setCell (b,129+13*k+7) (.bool true)).setCell (b,129+13*k+6) (.bool true)).cell? (b,129+k*13+5)=some v:=⟨_,by rw[AL k 13];exact r2.c.r (j:=5) hk rfl⟩;rw[AL 13 k]at r3 ac ad am an c6 c5;have R3:=zb (r3.same (c':={ c with rs:=zf c.rs k (x.resetAt f) }) (by rw[aa.z]));clear r1 r2 r3;go_upto_region 10 with fail;refine zG ?_;refine zo 13 (λw'=>w'.cell? (U fb 2)=some (.int .u64 n)) (F) ?_;refine GI 0 ?_;iterate 7
  refine GV rfl ?_;try simp only[PS]
 refine zE 7 rfl (λK D=>?_);go_simp;go_simp;refine D.z _ _ ac ?_;clear D K;try simp only[PS]
 refine GI 8 ?_;iterate 2
  refine GV rfl ?_;try simp only[PS]
 refine zE 10 rfl (λK D=>?_);go_simp;go_simp;refine D.z _ _ ad ?_;clear D K;try simp only[PS]
 refine GI 11 ?_;iterate 2
  refine GV rfl ?_;try simp only[PS]
 refine EX rfl (λK D=>?_);go_simp;refine D.z _ _ ?_;clear D K;try simp only[PS]
 refine zr ?_;refine⟨rfl,?_⟩;go_wp2_with fail;go_ret;rw[R.z];exact⟨rfl,C.z (R3.z.mod0 (DW.refl DY _).drew)⟩
def eh(h:zi tag i b c V W)(j:Dv tag W)(hi:0<i)(f:Da)(rv:Value)(s:RR W rv f.rngs)(r:∀g,Value.blk rv=some g->(tag g).1≠i)(ok:Og c f):Calls prog 89 #[(b,0),.agg (zl f rv)] W (Ej tag i b W (.int .i64 ((c.take f).1:Int)) (c.take f).2):=by
 obtain⟨l,a,e,_,_,_⟩:=id s;subst e;unfold CS.take;by_cases h2:f.kind=2
 .rw[AQ h2];exact fA h j hi f l _ a h2 rfl s r ok
 rw[AI h2];by_cases h3:f.kind=3
 .rw[AQ h3];obtain⟨k,hk,d⟩:=ok.reset h3;exact ew h j hi f l _ a h3 k hk d
 rw[AI h3];by_cases h4:f.kind=4
 .rw[AQ h4];obtain⟨k,o⟩:=ok.data h4;exact ey h j hi f l _ a h4 k o
 rw[AI h4];by_cases p:f.kind=5
 .rw[AQ p];exact gZ h j hi f l _ a p
 rw[AI p];by_cases m:f.kind=6
 .rw[AQ m];obtain⟨k,hk,d⟩:=ok.ms m;have:=gY h j hi f l f.rngs.length a m k hk d;rw[d];exact this
 rw[AI m];by_cases n:f.kind=7
 .rw[AQ n];exact ex h j hi f l _ a n (ok.msg n)
 rw[AI n];by_cases q:f.kind=8
 .rw[AQ q];exact ge h j hi f l _ a q
 rw[AI q];exact gh h j hi f l _ a h2 h3 h4 p m n q
def Ke(w0 w:World)(ev:Value)(n:Nat)(at_:Int):Prop :=
 (at_ = -1/\ev=EZ n)\/∃fa,ev=.iface 162 (.pointer (some ⟨fa,0,none⟩))/\w.heap[fa]?=some (.cells #[[n],[at_]] 167 (0,0))/\w0.heap.size<=fa
def NO(tag:nH)(i b:Nat)(W:World)(n:Nat)(at_:Int)(c':CS)(e:Ending)(W':World):Prop :=
 ∃ev,e=.returned ev/\Ke W W' ev n at_/\Ds tag i b W c' W'
def NE:List Da->CS->Prop
 | [],_=>True
 | f::fs,c=>Og c f/\((c.take f).1=0->NE fs { (c.take f).2 with answer:=(c.take f).2.answer||f.kind != 2 })
def XC(h:zi tag i b c V W)(ht:Dv tag W)(hi:0<i)(m:c.got.Ok)(lo a:Nat)(n:a<=zF){e:Ending}(ha:Pv c.got V.g 0 lo a V.gv W e W'):e=.returned (.tuple #[])/\Ds tag i b W { c with got:=c.got.add lo a } W':=by
 obtain⟨v',rfl,h1,h2,h3,h4⟩:=ha;refine⟨rfl,?_⟩;have p:∀{g r:Nat},tag g=(i,r)->g<W.heap.size:=λhg=>Ei ht hg hi
 have q:∀g,(g=V.g\/V.gv.ownBlock=some g)->∃r,(r=2\/r=3)/\tag g=(i,r):=λg hg=>by
  rcases hg with hg|hg
  .exact⟨2,.inl rfl,by rw[hg];exact h.tg⟩
  exact⟨3,.inr rfl,h.tgv g hg⟩
 have d:∀g,(tag g).1=i->zQ tag W W' (i,3) g=tag g:=λg hg=>zD (p (r:=(tag g).2) (by rw[<-hg]))
 have hb:¬(b=V.g\/V.gv.ownBlock=some b):=λx=>by
  obtain⟨r,hr,e⟩:=q b x;rw[h.tb]at e;have:=A8 Prod.snd e;simp at this;omega
 refine⟨zQ tag W W' (i,3),{ V with gv:=v' },h.build (R:=λr=>r=2\/r=3) h3 q d (h3.obj hb h.obj) (.inr ⟨?_,?_,λg hg=>?_⟩) (λk hk=>.inl ⟨rfl,rfl,I⟩) (λk hk=>.inl ⟨rfl,rfl,I⟩) (λk hk=>.inl ⟨rfl,rfl,I⟩) (λk hk=>.inl ⟨rfl,rfl,I⟩) (λk hk=>.inl ⟨rfl,rfl,I⟩) (.inl ⟨rfl,rfl,rfl,I,I⟩) (.inl ⟨rfl,rfl,I⟩) (.inl ⟨rfl,rfl,I⟩) (.inl ⟨rfl,rfl,I⟩),Jt h3.size,h3.mono (λg hg=>.inl ?_)⟩
 .have hm:(c.got.add lo a).most=c.got.most:=IN _ _ _;obtain⟨cs,T,l,hc⟩:∃cs T l,W.heap[V.g]?=some (.cells cs T l):=by
   have:=h.got.cl;unfold World.cell? at this;split at this
   .rename_i o ho;exact⟨_,_,_,ho⟩
   cases this
  have f:W'.heap[V.g]?=some (.cells ((cs.setIfInBounds 0 v').setIfInBounds (0+1) (.int .u64 ((c.got.add lo a).fl:Int))) T l):=by
   rw[h2,zc (zc hc)]
  have hsz:2<cs.size:=by
   have:=h.got.cm;unfold World.cell? at this;simp only[hc]at this;exact(AH.1 (nF this)).1
  refine⟨za f (by rw[Cn I,DI I]),za f (by rw[DI my]),?_,h1,?_,λj=>?_⟩
  .refine za f ?_;have:=h.got.cm;unfold World.cell? at this;simp only[hc]at this;simp[BW];rw[hm];simpa using this
  .have hk:=m.add lo n;have:=hk.rl;have:=hk.most.2;show(c.got.add lo a).rs.length<=_;omega
  have:=h.got.fz j;unfold World.frozen? at this ⊢;simp only[hc]at this;simp only[f];exact this
 .rw[d _ (by rw[h.tg]),h.tg]
 .rcases h4 g hg with y|y
  .rw[d _ (by rw[h.tgv g y]),h.tgv g y]
  exact Gs y (zK h1 g hg)
 obtain⟨r,_,e⟩:=q g hg;rw[e]
variable{m:Nat}{rs:zC}
def LS{fl n:Nat}(hw:WF rs)(h:FD rs.length (Kb rs n) m):(decide (n<fl)||decide (m<rs.length)&&decide (DZ rs m<=n))=Hi rs fl n:=by
 unfold Hi;congr 1;rw[Cz,<-Bool.decide_and,Ah,XN hw h,Bh];constructor
 .rintro⟨i,hi,h1,h2⟩;refine⟨rs[i],DF hi,?_⟩;have e:rs.getD i (0,0)=rs[i]:=by simp[List.getD,hi]
  unfold DZ at h1;unfold DX at h2;rw[e]at h1 h2;simp[h1,h2]
 rintro⟨r,hr,h1⟩;obtain⟨i,hi,rfl⟩:=Cv.1 hr;have e:rs.getD i (0,0)=rs[i]:=by simp[List.getD,hi]
 simp only[AZ,Ah]at h1;refine⟨i,hi,?_,?_⟩
 .unfold DZ;rw[e];exact h1.1
 unfold DX;rw[e];exact h1.2
def XB(s:Dl)(b o n:Nat)(v:Value)(w:World)(h:El w b o v s.rs s.fl s.most)(hw:WF s.rs):Calls prog 87 #[(b,o),n] w (λe w'=>e=.returned (.bool (Hi s.rs s.fl n))/\DW DY w w'):=by
 refine(dG s.rs s.fl s.most b o n v w h).mono ?_;rintro e w' ⟨m,hm,rfl,hb⟩;exact⟨by rw[LS hw hm],DW.of_below hb⟩
def LZ(w:World):(binOp .eql 98 (.iface 57 (.int .i64 7)) (.iface 57 (.int .i64 7))).run prog w=.ok (.bool true) w:=mr
def Yx(p:Addr)(w:World):(binOp .eql 98 (.iface 162 (.pointer (some p))) (.iface 57 (.int .i64 7))).run prog w=.ok (.bool false) w:=mr
def La(w:World):(binOp .eql 98 .nilIface (.iface 57 (.int .i64 7))).run prog w=.ok (.bool false) w:=mr
def Oe(c:CS)(bs:nG):Prop:=c.closed=0->∀n fs,dec bs=.ok n fs->c.got.Ok/\n<=zF/\(Hi c.got.rs c.got.fl n=false->NE fs { c with got:=c.got.add n n })
def kL(bs:nG)(h:c.closed≠0):c.receive bs=((12,-1),c):=by
 unfold CS.receive;rw[AQ h]
def jf(h:zi tag i b c V W)(d:Dv tag W)(v:Value)(bs:nG)(hc:c.closed≠0):Calls prog 51 #[(b,0),v] W (NO tag i b W 12 (-1) c):=by
 have c4:=h.hd (j:=4) rfl;have hb:((c.closed:Int)==0)=false:=AS.2 I;have HL:=zb (h.left d (DW.refl _ _));obtain⟨cl,a⟩:=nm c.closed;rw[a]at c4 hb;clear h d hc a;go_enter func51,ntmps51;go_wp2_with fail;go_ret;exact⟨_,rfl,.inl ⟨rfl,rfl⟩,HL.z⟩
def je(h:zi tag i b c V W)(g:Dv tag W)(v:Value)(bs:nG)(d:BR W v bs)(a:GA W)(hl:bs.length<1099511627776)(hc:c.closed=0)(hd:dec bs=.sum):Calls prog 51 #[(b,0),v] W (NO tag i b W 7 (-1) c):=by
 have f:=Ph v bs W d a hl;rw[hd]at f;have c4:=h.hd (j:=4) rfl;rw[hc]at c4;have HH:=zb h;have HT:=zb g;have KD:=zb f;obtain⟨va,vc,rfl,_⟩:=d;clear h g hc f a;go_enter func51,ntmps51;go_wp2_with fail;refine(KD.z).mono ?_;rintro e W2 ⟨k,rfl⟩;have l:=zb k;clear k;have hE:=LZ;go_wp2_with fail;go_ret;exact⟨_,rfl,.inl ⟨rfl,rfl⟩,((HH.z.mod0 l.z).mod0 ((DW.refl DY _).alloc _)).left HT.z ((l.z.alloc _).mono (λ_ x=>x.elim))⟩
def jd(h:zi tag i b c V W)(s:Dv tag W)(hi:0<i)(v:Value)(bs:nG)(at_:Nat)(m:BR W v bs)(f:GA W)(hl:bs.length<1099511627776)(hc:c.closed=0)(hd:dec bs=.bad at_):Calls prog 51 #[(b,0),v] W (NO tag i b W 8 at_ { c with closed:=8 }):=by
 have t:=Ph v bs W m f hl;rw[hd]at t;have c4:=h.hd (j:=4) rfl;rw[hc]at c4;have z:=zb h;have HT:=zb s;have KD:=zb t;have hbW:=Ei s h.tb hi;obtain⟨va,vc,rfl,_⟩:=m;clear h s hc t f;go_enter func51,ntmps51;go_wp2_with fail;refine(KD.z).mono ?_;rintro e W2 ⟨A,o,rfl,n,u⟩;obtain⟨l,d⟩:=nm (W2.alloc (.cells #[.int .u64 0,.slice none 0 0] 56));have r:DW DY W l:=by rw[<-d];exact A.alloc _
 have c3:=z.z.mod0 r;have fz:=c3.fz 4;have c4':=r.cell (a:=U b 4) id c4;have B:zi tag i b { c with closed:=8 } V (l.setCell (U b 4) (.int .i64 8)):=c3.store 4 _ (Kx _ _ _ _ _ mu rfl rfl rfl rfl) ⟨rfl,λ_ _=>⟨rfl,rfl,rfl⟩,λ_ _=>⟨rfl,rfl⟩,rfl,rfl,rfl,rfl⟩;have C:DW (λq=>q=b) W (l.setCell (U b 4) (.int .i64 8)):=DW.setCell (S:=λq=>q=b) (r.mono (λ_ x=>x.elim)) (p:=U b 4) (.inl rfl) _;have g:l.heap[o]?=some (.cells #[.int .i64 8,[at_]] 167 (0,0)):=by
  have:DW DY W2 l:=by rw[<-d];exact(DW.refl _ _).alloc _
  exact this.obj (λx=>x) n
 have k:(l.setCell (b,4) (.int .i64 8)).heap[o]?=some (.cells #[.int .i64 8,[at_]] 167 (0,0)):=((DW.refl (λq=>q=b) l).setCell (p:=U b 4) (.inl rfl) _).obj (by show ¬o=b;omega) g;have HF:=zb k;have w:=zb u;have HL:=zb (B.left HT.z (z.z.modb C));have y:=zb d;clear A n r c3 B C g k d;have hE:=Yx;go_upto_region 4 with fail;rw[y.z];go_wp2_with fail;go_ret;exact⟨_,rfl,.inr ⟨o,rfl,HF.z,w.z⟩,HL.z⟩
variable{X w1:World}{c2:CS}
def PX{d:World}(hi:0<i)(c:Dn i tag tag' W w1)(m1:DW (λg=>(tag g).1=i) W w1)(mx:DW DY w1 X)(h2:Ds tag' i b X c2 d):Ds tag i b W c2 d:=by
 obtain⟨tag2,V2,a,b',c'⟩:=h2.from0 c.z hi mx;refine⟨tag2,V2,a,c.trans b' m1.size,m1.then c' (λg hg=>?_)⟩;by_cases q:g<W.heap.size
 .exact .inl (by rw[<-c.old g q];exact hg)
 exact .inr I
variable{c':CS}
def RZ(h:Ds tag i b W c W')(hi:0<i)(j:Nat)(v:Value)(hc:∀V,(zw c V).set j v=zw c' V)(s:Kv c c'):Ds tag i b W c' (W'.setCell (b,j) v):=by
 obtain⟨tag',a,h1,h2,h3⟩:=h;have m:DW (λq=>q=b) W' (W'.setCell (b,j) v):=(DW.refl (λq=>q=b) _).setCell (p:=(b,j)) (.inl rfl) _;refine⟨tag',a,h1.store j v (hc a) s,⟨h2.old,h2.new,h2.z.mod m⟩,h3.then m (λg hg=>?_)⟩;have hg:=hg;by_cases q:g<W.heap.size
 .exact .inl (by rw[<-h2.old g q,hg,h1.tb])
 exact .inr I
variable{fs:List Da}
def XA{n:Nat}(hc:c.closed=0)(hd:dec bs=.ok n fs):c.receive bs=if Hi c.got.rs c.got.fl n then((0,-1),c)else(((CS.takes fs { c with got:=c.got.add n n }).1,-1),(CS.takes fs { c with got:=c.got.add n n }).2):=by
 unfold CS.receive;rw[AI I,hd]
def jc(h:(c.take f).1=0):CS.takes (f::fs) c=CS.takes fs { (c.take f).2 with answer:=(c.take f).2.answer||f.kind != 2 }:=by
 rw[CS.takes,AI (by rw[h];simp)]
def jb(h:(c.take f).1≠0):CS.takes (f::fs) c=((c.take f).1,{ (c.take f).2 with closed:=(c.take f).1,said:=(c.take f).1==13 }):=by
 rw[CS.takes,AQ h]
theorem ja(h:zi tag i b c V W)(ht:Dv tag W)(hi:0<i)(v:Value)(bs:nG)(n:Nat)(fs:List Da)(az:BR W v bs)(aa:GA W)(hl:bs.length<1099511627776)(hc:c.closed=0)(hd:dec bs=.ok n fs)(ok:Oe c bs)(a8:fs.length<=1099511627776):Calls prog 51 #[(b,0),v] W (NO tag i b W (c.receive bs).1.1 (c.receive bs).1.2 (c.receive bs).2):=by
 have kd:=Ph v bs W az aa hl;rw[hd]at kd;obtain⟨o1,o2,o3⟩:=ok hc n fs hd;rw[XA hc hd];have c4:=h.hd (j:=4) rfl;rw[hc]at c4;obtain⟨hb,ae⟩:=nm (Hi c.got.rs c.got.fl n);rw[ae]at o3 ⊢;obtain⟨R,hR⟩:∃o,(if hb=true then((0,-1),c)else(((CS.takes fs { c with got:=c.got.add n n }).1,-1),(CS.takes fs { c with got:=c.got.add n n }).2):(Nat×Int)×CS)=o:=⟨_,rfl⟩;rw[hR];have HR:=zb hR;clear hR;have HH:=zb h;have L:=zb ht;have y:=zb hi;have KD:=zb kd;have O1:=zb o1;have O2:=zb o2;have O3:=zb o3;have a9:=zb ae;have q2:=o2;unfold zF at q2;obtain⟨va,vc,rfl,_⟩:=az;clear h ht hc kd aa ok hd o1 o2 o3 ae;go_enter func51,ntmps51;go_wp2_with fail;refine(KD.z).mono ?_;rintro e W2 ⟨m2,fv,M,rfl,B,C,af,aA⟩;obtain⟨fa,fc,rfl,q3,q4,_⟩:=zk B.1;have ah:M.length=fs.length:=by rw[<-C,BB]
 obtain⟨N,hN⟩:=nm fs.length;rw[hN]at a8;rw[ah,hN]at B af q3 ⊢;unfold maxLen at q4;obtain⟨O,D⟩:=nm (W2.alloc (.cells #[n,.slice fa N fc] 56));have m3:DW DY W O:=by rw[<-D];exact m2.alloc _
 have ai:=AB D;have oP:=AD D;obtain⟨A,P⟩:=nm W2.heap.size;rw[P]at oP;have p0:=za (o:=0) oP rfl;have p1:O.cell? (A,1)=some (.slice fa N fc):=za (o:=1) oP rfl;have h3:=HH.z.mod0 m3;have c7:=h3.hd (j:=7) rfl;have kh:=XB c.got V.g 0 n V.gv O.drew (h3.got.mod (DW.refl DY O).drew (λx=>x) (λ_ _ x=>x)) O1.z.wf;rw[a9.z]at kh;have ab:W.heap.size<=A:=by rw[<-P];exact m2.size
 have u:=(Gc.frs B).mod0 ai;have KH:=zb kh;have H3:=zb h3;have E:=zb m3;have ba:=zb ai;have aB:=zb u;have bb:=zb af;have aC:=zb aA;have bc:=zb (λx hx g hg=>zK (B.2 x hx).1 g hg);have be:=zb C;have bf:=zb ah;have HN:=zb hN;have bh:=zb D;have bi:=zb P;have bj:=zb ab;have hE:=La;clear m2 m3 ai oP h3 kh ab u B af aA C ah hN D P;go_upto_region 9 with fail;rw[bh.z,bi.z];refine zG ?_;refine zo 8 (λw'=>w'.cell? (U b 7)=some (.pointer V.g)/\w'.cell? A=some (.int .u64 n)) (⟨c7,p0⟩) ?_;refine GI 0 ?_;iterate 6
  refine GV rfl ?_;try simp only[PS]
 refine zE 6 rfl (λK hK=>?_);go_simp;go_simp
 with_reducible refine(KH.z).mono ?_
 rintro e w ⟨rfl,m4⟩;have M4:=zb m4;have aD:w.cell? (b,7)=some (.pointer V.g)/\w.cell? A=some (.int .u64 n):=⟨m4.cell (a:=U b 7) id c7,m4.cell (a:=A) id p0⟩;clear m4;go_simp;refine hK.z _ _ aD ?_;clear aD;clear hK K;try simp only[PS]
 refine GI 7 ?_;refine GV rfl ?_;try simp only[PS]
 refine zr ?_;refine⟨rfl,?_⟩;cases hb with
 | true =>
  go_wp2_with fail;go_ret;rw[<-HR.z];simp only[BC];exact⟨_,rfl,.inl ⟨rfl,rfl⟩,(H3.z.mod0 ((DW.refl DY O).drew.trans M4.z)).left L.z ((E.z.trans ((DW.refl DY O).drew.trans M4.z)).mono (λ_ x=>x.elim))⟩
 | false =>
 have s:=(DW.refl DY O).drew.trans M4.z;have h4:=H3.z.mod0 s;have aE:=L.z.mod (E.z.trans s);have hm:=O1.z.most;have aF:=O1.z.rl;have ac:=O1.z.fl;unfold zF at ac;have aG:V.gv.ownBlock≠some V.g:=λe=>by
  have h5:=h4.tgv V.g e;rw[h4.tg]at h5;have:=A8 Prod.snd h5;simp at this
 have Q:=Ku c.got V.g 0 n n V.gv w.drew (h4.got.mod (DW.refl DY w).drew (λx=>x) (λ_ _ x=>x)) O1.z.wf I I I aG hm.1 I;have aH:=Q.mono (λe w' x=>XC (h4.mod0 (DW.refl DY w).drew) (aE.mod (DW.refl DY w).drew) y.z O1.z n n O2.z x);have KA:=zb aH;have d7:=s.cell (a:=U b 7) id c7;have d0:=s.cell (a:=A) id p0;have d1:=s.cell (a:=U A 1) id p1;have d:=zb s;clear Q aH h4 aE hm aF ac aG s p0 p1 c7 c4 hE;go_upto_region 11 with fail;refine zG ?_;refine zo 8 (λw'=>w'.cell? (U b 7)=some (.pointer V.g)/\w'.cell? A=some (.int .u64 n)) (⟨d7,d0⟩) ?_;refine GI 0 ?_;iterate 8
  refine GV rfl ?_;try simp only[PS]
 refine EX rfl (λK hK=>?_);go_simp
 with_reducible refine(KA.z).mono ?_
 rintro e W5 ⟨rfl,l5⟩;have L5:=zb l5;clear l5;go_simp;refine hK.z _ _ ?_;clear hK K;try simp only[PS]
 refine zr ?_;refine⟨rfl,?_⟩;have aj:=L.z A bj.z;have bk:W5.cell? (A,1)=some (.slice fa N fc):=by
  obtain⟨bu,V5,_,_,q⟩:=L5.z;exact q.cell (a:=U A 1) (by
   show ¬(tag A).1=i;rw[aj];have:=y.z;simp;omega) d1
 have aj:=zb aj;clear d7 d0 d1;go_wp2_with fail;obtain⟨c0,ak⟩:∃o,({ c with got:=c.got.add n n }:CS)=o:=⟨_,rfl⟩;have aI:=zb (by
  have:=HR.z;rw[AI mv,ak]at this;exact this.symm)
 have O4:=zb (O3.z trivial);rw[ak]at L5 O4;clear HR O3 ak;have aJ:=L5.z.from0 (W:=w) (L.z.mod (E.z.trans d.z)) y.z (DW.refl DY w).drew;have aK:=zb aJ;have HSZ:=zb (AJ E.z.size d.z.size);have aL:=zb (AJ ba.z.size d.z.size);have HT4:=zb (L.z.mod (E.z.trans d.z));have bm:=zb (aB.z.mod0 d.z);clear aJ L5 aB
 go_loopw [53] (λiv wr=>∃(k:Nat) (c':CS),k<=N/\iv=.int .i64 k/\AA (Ds tag i b w c' wr/\CS.takes (fs.drop k) c'=CS.takes fs c0/\NE (fs.drop k) c')) (λiv _=>N-(intOf iv).toNat)
 case atStart=>exact⟨0,c0,AM _,rfl,zb ⟨aK.z,mv,nF O4.z⟩⟩
 case round =>
  clear aK O4 bk;obtain⟨k,c1,hk,rfl,HQ⟩:=hrel;by_cases aM:k<N
  .obtain⟨ad,V1,h1,e1,m1⟩:=HQ.z.1;have S:∀g,W.heap.size<=g->(tag g).1≠i:=λg hg x=>by
    rw[L.z g hg]at x;have:=y.z;simp at x;omega
   have u:=bm.z.mod m1 (λg o n' c' e x=>by
    cases e;exact S g (bb.z g rfl) x) (λfr z g o n' c' e x=>S g (aC.z fr z g (by rw[e];rfl)) x)
   obtain⟨a',aN,aO,_,_,aP⟩:=u;have aQ:k<M.length:=by rw[bf.z,HN.z];exact aM
   obtain⟨⟨f,rv⟩,z⟩:∃fr,M[k]?=some fr:=⟨M[k],AK aQ⟩;have al:fs[k]?=some f:=by rw[<-be.z,Bc,z];rfl
   obtain⟨⟨g2,o2,bn,am⟩,G⟩:=aP k (f,rv) z;have bo:a'=fa/\aN=fc:=by cases aO;exact⟨rfl,rfl⟩
   obtain⟨rfl,rfl⟩:=bo;subst bn;simp only at am G;have H:=AV z;have aR:∀g,Value.blk rv=some g->(ad g).1≠i:=λg hg=>by
    have aS:rv.ownBlock=some g:=by
     obtain⟨ra,rc,e,_⟩:=id G;subst e;cases ra with
     | none=>cases hg
     | some a=>exact hg
    have h5:=aC.z (f,rv) H g aS;have h6:=bc.z (f,rv) H g aS;rw[e1.old g (A7 h6 aL.z)];exact S g h5
   obtain⟨x0,x1,x2,x3,x4,x5,x6,x7,x8,x9⟩:=Jh am;obtain⟨ra,rc,aT,_⟩:=id G;subst aT;have aU:fs.drop k=f::fs.drop (k+1):=by
    have aV:k<fs.length:=by rw[HN.z];exact aM
    rw[CK aV];rw[AK aV]at al;rw[Bt al]
   have ao:=HQ.z.2.1;have aW:=HQ.z.2.2;rw[aU]at ao aW;obtain⟨aX,aY⟩:=aW;obtain⟨Y,hY⟩:=nm (wr.alloc (.cells (zl f (.slice ra f.rngs.length rc)) 65));have mY:=AB hY;have bp:=AC hY;have aZ:zj Y wr.heap.size f (.slice ra f.rngs.length rc):=by rw[<-hY];exact heap_alloc_new wr _
   have Q:=eh (h1.mod0 mY) (e1.z.mod mY) y.z f (.slice ra f.rngs.length rc) (G.mod mY (Dp.no _)) aR aX;have a0:=e1.z _ (AF _);obtain⟨y0,y1,y2,y3,y4,y5,y6,y7,y8,y9⟩:=aZ.cells;have J:AA (∀W6 c2,Ds ad i b Y c2 W6->Ds tag i b w c2 W6/\W6.heap[wr.heap.size]?=Y.heap[wr.heap.size]?):=zb (λW6 c2 l=>⟨PX y.z e1 m1 mY l,by
    obtain⟨a1,V6,_,_,m6⟩:=l;refine m6.block _ I (λx=>?_);rw[a0]at x;have:=y.z;simp at x;omega⟩)
   obtain⟨yb,ap⟩:=nm wr.heap.size;rw[ap]at J y0 y1 y2 y3 y4 y5 y6 y7 y8 y9;obtain⟨RL,a2⟩:=nm f.rngs.length;rw[a2]at x9 hY y9 Q;obtain⟨KD,aq⟩:=nm f.kind;unfold zl at hY Q;rw[aq]at x0 y0 hY Q;obtain⟨p,ar⟩:=nm ((c1.take f).1);obtain⟨t,au⟩:=nm ((c1.take f).2);rw[ar,au]at Q;have KA:=zb Q;have a3:=zb aq;have T:=zb ar;have av:=zb au;have aw:=zb ao;have a4:=zb aY;have HY:=zb hY;have bq:=zb ap;clear aP z am G mY bp aZ Q a0 aR H al aO aX aY ao hY ap a2 aq ar au h1 e1 m1 S aQ aU;go_upto_region 15 with fail;rw[HY.z,bq.z];go_wp2_with fail;refine(KA.z).mono ?_;rintro e W6 ⟨rfl,l6⟩;obtain⟨l7,a5⟩:=J.z W6 t l6;have u0:=(World.cell?_of_block a5).trans y0;obtain⟨a1,V6,h6,e6,m6⟩:=id l7;have L7:=zb l7;clear KA J l6 l7 a5 x0 x1 x2 x3 x4 x5 x6 x7 x8 x9 y0 y1 y2 y3 y4 y5 y6 y7 y8 y9 e6 m6;by_cases hz:p=0
   .subst hz;obtain⟨an,X⟩:=nm t.answer;have c8:W6.cell? (b,8)=some (.bool an):=by rw[<-X];exact h6.hd (j:=8) rfl
    have f8:=h6.fz 8;have ax:AA (∀x:Bool,Ds tag i b w { t with answer:=x } (W6.setCell (U b 8) (.bool x))):=zb (λx=>RZ L7.z y.z 8 _ (λV=>Kx t { t with answer:=x } V V (j:=8) _ mu rfl rfl rfl rfl) ⟨rfl,λ_ _=>⟨rfl,rfl,rfl⟩,λ_ _=>⟨rfl,rfl⟩,rfl,rfl,rfl,rfl⟩);have ay:AA (∀x:Bool,x=(an||KD != 2)->CS.takes (fs.drop (k+1)) { t with answer:=x }=CS.takes fs c0/\NE (fs.drop (k+1)) { t with answer:=x }):=zb (λx hx=>by
     have h5:=aw.z;have h7:=a4.z T.z;rw[jc T.z,av.z,X,a3.z,<-hx]at h5;rw[av.z,X,a3.z,<-hx]at h7;exact⟨h5,h7⟩)
    clear h6 X a4 aw;cases an with
    | true =>
     go_wp2_with fail;go_roundw
     case rel=>exact⟨k+1,{ t with answer:=true },I,by go_num,zb ⟨ax.z true,ay.z true mv⟩⟩
     simp[intOf];omega
    | false =>
     by_cases a6:KD=2
     .subst a6;go_wp2_with fail;go_roundw
      case rel=>exact⟨k+1,{ t with answer:=false },I,by go_num,zb ⟨ax.z false,ay.z false mv⟩⟩
      simp[intOf];omega
     have hk3:(KD==2)=false:=nF a6;go_wp2_with fail;go_roundw
     case rel=>exact⟨k+1,{ t with answer:=KD != 2 },I,by go_num,zb ⟨ax.z (KD != 2),ay.z (KD != 2) mv⟩⟩
     simp[intOf];omega
   have hz1:((p:Int)==0)=false:=by rw[AS];omega
   have c4:∃v,W6.cell? (b,4)=some v:=⟨_,h6.hd (j:=4) rfl⟩;obtain⟨u4,c4⟩:=c4;have f4:=h6.fz 4;have l8:=RZ L7.z y.z 4 (.int .i64 p) (c':={ t with closed:=p }) (λV=>Kx t { t with closed:=p } V V (j:=4) _ mu rfl rfl rfl rfl) ⟨rfl,λ_ _=>⟨rfl,rfl,rfl⟩,λ_ _=>⟨rfl,rfl⟩,rfl,rfl,rfl,rfl⟩;obtain⟨bv,V8,h8,_,_⟩:=id l8;obtain⟨u5,c5⟩:∃v,(W6.setCell (U b 4) (.int .i64 p)).cell? (U b 5)=some v:=⟨_,h8.hd (j:=5) rfl⟩;have f5:=h8.fz 5;have l9:=RZ l8 y.z 5 (.bool (p==13)) (c':={ t with closed:=p,said:=p==13 }) (λV=>Kx _ _ V V (j:=5) _ mu rfl rfl rfl rfl) ⟨rfl,λ_ _=>⟨rfl,rfl,rfl⟩,λ_ _=>⟨rfl,rfl⟩,rfl,rfl,rfl,rfl⟩;have L9:=zb l9;have m:AA (R=((p,-1),{ t with closed:=p,said:=p==13 })):=zb (by
    rw[aI.z,<-aw.z,jb (by rw[T.z];exact hz),T.z,av.z])
   have HZ:=zb hz;clear h6 h8 l8 l9 hz;by_cases Z:p=13
   .have a7:((p:Int)==13)=true:=by rw[Ci];omega
    have r:(p==13)=true:=nF Z;rw[r]at L9 m;clear Z r;go_wp2_with fail;go_ret;rw[m.z];exact⟨_,rfl,.inl ⟨rfl,by rw[Jf HZ.z];rfl⟩,PX y.z (Dn.same L.z (E.z.trans d.z)) ((E.z.trans d.z).mono (λ_ x=>x.elim)) (DW.refl DY w) L9.z⟩
   have a7:((p:Int)==13)=false:=by rw[AS];omega
   have r:(p==13)=false:=nF Z;rw[r]at L9 m;clear Z r;go_wp2_with fail;go_ret;rw[m.z];exact⟨_,rfl,.inl ⟨rfl,by rw[Jf HZ.z];rfl⟩,PX y.z (Dn.same L.z (E.z.trans d.z)) ((E.z.trans d.z).mono (λ_ x=>x.elim)) (DW.refl DY w) L9.z⟩
  have bt:k=N:=I;have m:AA (R=((0,-1),c1)):=zb (by
   rw[aI.z,<-HQ.z.2.1,CC (by rw[HN.z];omega)];rfl)
  clear bt;go_wp2_with fail;go_ret;rw[m.z];exact⟨_,rfl,.inl ⟨rfl,rfl⟩,PX y.z (Dn.same L.z (E.z.trans d.z)) ((E.z.trans d.z).mono (λ_ x=>x.elim)) (DW.refl DY w) HQ.z.1⟩
theorem lF(h:zi tag i b c V W)(f:Dv tag W)(hi:0<i)(v:Value)(bs:nG)(d:BR W v bs)(a:GA W)(hl:bs.length<1099511627776)(ok:Oe c bs)(g:∀n fs,dec bs=.ok n fs->fs.length<=1099511627776):Calls prog 51 #[(b,0),v] W (NO tag i b W (c.receive bs).1.1 (c.receive bs).1.2 (c.receive bs).2):=by
 by_cases hc:c.closed=0
 .cases hd:dec bs with
  | sum =>
   have e:c.receive bs=((7,-1),c):=by unfold CS.receive;rw[AI I,hd]
   rw[e];exact je h f v bs d a hl hc hd
  | bad p =>
   have e:c.receive bs=((8,(p:Int)),{ c with closed:=8 }):=by unfold CS.receive;rw[AI I,hd]
   rw[e];exact jd h f hi v bs p d a hl hc hd
  | ok n fs=>exact ja h f hi v bs n fs d a hl hc hd ok (g n fs hd)
 rw[kL bs hc];exact jf h f v bs hc
def Wz{w0:World}{ev:Value}{n:Nat}{at_:Int}(h:Ke w0 w ev n at_)(hg:FJ w):Calls prog 43 #[ev] w (MQ w (n:Int) at_):=by
 rcases h with⟨rfl,rfl⟩|⟨fa,rfl,a,_⟩
 .by_cases b:n=0
  .subst b;exact Qk w
  rw[Jf b];exact QF (n:Int) w hg
 exact Sl fa (n:Int) at_ w hg (za a rfl) (za a rfl)
def Ke.shape{w0:World}{ev:Value}{n:Nat}{at_:Int}(h:Ke w0 w ev n at_):ev=.nilIface\/∃t u,ev=.iface t u:=by
 rcases h with⟨_,rfl⟩|⟨fa,rfl,_⟩
 .unfold EZ;split
  .exact .inl rfl
  exact .inr ⟨_,_,rfl⟩
 exact .inr ⟨_,_,rfl⟩
variable{S:Nat->Prop}{w':World}
def Ke.mod{a:World}{ev:Value}{n:Nat}{at_:Int}(h:Ke a w ev n at_)(m:DW S w w')(hS:∀g,S g->g<a.heap.size):Ke a w' ev n at_:=by
 rcases h with h|⟨b,rfl,ho,hl⟩
 .exact .inl h
 exact .inr ⟨b,rfl,m.obj (λx=>nC (hS b x)) ho,hl⟩
def lE(h:zi tag i b c V W)(E:EC i tag W)(s:nG)(u:s.length<1099511627776)(ok:Oe c s)(k:∀n fs,dec s=.ok n fs->fs.length<=1099511627776):Calls prog 28 #[(b,0),.string (zu s)] W (Ej tag i b W (.tuple #[.int .i64 ((c.receive s).1.1:Int),.int .i64 (c.receive s).1.2]) (c.receive s).2):=by
 obtain⟨cap,W1,v,a,m1,l,m⟩:=Vq W s I;have w:=lF (h.mod0 m1) (E.ok.mod m1) E.pos _ s a (E.mod0 m1).tab u ok k;have y:s.length<=cap/\cap<=maxLen:=by
  obtain⟨_,_,e,z,t,_⟩:=a;cases e;exact⟨z,t⟩
 obtain⟨hc1,A⟩:=y;unfold maxLen at A;have d:=zb E;have L:=zb m1;have HB:=zb m;have M:=zb l;obtain⟨R,hR⟩:=nm (c.receive s);rw[hR]at w ⊢;have N:=zb w;clear h E a m1 m l ok k w;go_enter func28,ntmps28;go_wp2_with fail;refine(N.z).mono ?_;rintro _ W2 ⟨ev,rfl,o,B⟩;clear N;obtain⟨tag',V',z,t,C⟩:=id B;have O:=(d.z.mod0 L.z).left t C;have q:=HB.z.mod C (λx=>by
  have:=d.z.ok W.heap.size (AF _);rw[this]at x;have:=d.z.pos;simp at x;omega)
 have HL:=zb B;have D:=zb q;have r:=zb o;have F:=zb O;clear B z t C O q v o;rcases r.z.shape with rfl|⟨et,eu,rfl⟩;all_goals
  go_wp2_with fail
  go_loopw [16] (λG wr=>∃j:Nat,j<=s.length/\G=.int .i64 j/\AA (IP wr W.heap.size s.length/\DW (λg=>g=W.heap.size) W2 wr)) (λG _=>s.length-(intOf G).toNat)
  case atStart=>exact⟨0,AM _,rfl,zb ⟨D.z,DW.refl _ _⟩⟩
  case round =>
   obtain⟨j,hj,rfl,f⟩:=hrel;by_cases J:j<s.length
   .obtain⟨⟨v0,e0⟩,z0⟩:=f.z.1.cell J;have K:=zb (f.z.1.set j (.int .u8 33));have HM:=zb (f.z.2.setCell (p:=(W.heap.size,j)) (.inl rfl) (.int .u8 33));go_wp2_with fail;go_roundw
    case rel=>exact⟨j+1,I,by go_num,zb ⟨K.z,HM.z⟩⟩
    simp[intOf];omega
   have P:∀g,g=W.heap.size->g<W1.heap.size:=λg hg=>by rw[hg,M.z];omega
   have Q:=Wz (r.z.mod f.z.2 P) (F.z.err.mod f.z.2 (λx=>by
    have x:=x;have:=d.z.tab.lt;omega))
   have KT:=zb Q;clear Q P;go_wp2_with fail;refine(KT.z).mono ?_;rintro _ W4 ⟨rfl,S⟩;have H:=zb ((HL.z.thenS d.z.ok d.z.pos L.z f.z.2 (λg hg=>by
    have hg:=hg;have:=M.z;omega)).then0 S)
   clear S;go_wp2_with fail;go_ret2;exact⟨rfl,H.z⟩
end
end Go.Proofs.YtddfdpbaiedcjaaGreatDoor
