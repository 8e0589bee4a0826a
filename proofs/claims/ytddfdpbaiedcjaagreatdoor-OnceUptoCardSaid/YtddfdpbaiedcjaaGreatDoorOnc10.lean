/- A part of Once's proof. Conditions: none. Part 10 of 15. -/
import Derived.Test.YtddfdpbaiedcjaaGreatDoorOnc9
import Derived.Lib.BufferWrite
set_option maxRecDepth 100000
set_option maxHeartbeats 16000000
set_option linter.all false
namespace Go.Proofs.YtddfdpbaiedcjaaGreatDoor
section
open Go.RowKit Go.Proofs.Tryz
def CS.ackedTo(c:CS)(rs:zC):CS:=(({ c with largest:=max c.largest (DY rs 0) }:CS).ackPs rs c.flight).fly (c.flight.filter λp => !Eu rs p)
def ME(c:CS)(rs:zC)(h:¬c.next<=DY rs 0):c.acked rs=(0,(c.ackedTo rs).lose):=Ww c rs h
variable{W W1 W2:World}{t:Nat}
def JJ{x y:Value}{u:Nat}(h1:W.alloc (.cells #[x] t)=W1)(h2:W1.alloc (.cells #[y] u)=W2):DW DX W W2/\W2.cell? ⟨W.heap.size,0,none⟩=some x/\W2.cell? ⟨W.heap.size+1,0,none⟩=some y:=by
 have m1:=AB h1
 have b:=AB h2
 have hs:W1.heap.size=W.heap.size+1:=by rw[<-h1];simp
 refine⟨m1.trans b,?_,?_⟩
 ·refine b.cell (a:=⟨_,0,none⟩) id ?_;rw[<-h1];exact za (heap_alloc_new W _) rfl
 ·rw[<-hs,<-h2];exact za (heap_alloc_new W1 _) rfl
variable{V:CV}{b i:Nat}{c:CS}{tag:Nat->Nat×Nat}
def ee(h:zg tag i b c V W)(B:Do tag W)(hi:0<i)(rs:zC)(t:Option Addr)(a:Nat)(u:RR W (.slice t rs.length a) rs)(C:∀g,Value.blk (.slice t rs.length a)=some g->(tag g).1≠i)(h0:0<rs.length)(D:rs.length<=1099511627776)(hn:c.next<=DY rs 0):Calls prog 158 #[.pointer (some ⟨b,0,none⟩),.slice t rs.length a] W (EA tag i b W (.int .i64 11) c):=by
 obtain⟨M,k⟩:=nm (W.alloc (.cells #[.pointer (some ⟨b,0,none⟩)] 69));obtain⟨W1,d⟩:=nm (M.alloc (.cells #[.slice t rs.length a] 63));obtain⟨m1,v,q⟩:=JJ k d;have l:=AC k
 have w:W1.heap.size=W.heap.size+2:=by rw[<-d];simp[l]
 have n:=u.mod m1 (Dl.no _);obtain⟨a',p,r,q1,q2,h3⟩:=id n;obtain⟨g,o,y,e1,A,b1,b2⟩:=h3 0 h0;have A:W1.cell? ⟨g,o+1,none⟩=some (.int .u64 (DY rs 0:Int)):=by simpa using A
 have E:t=some ⟨g,o,none⟩:=by cases r;exact y
 have F:p=a:=by cases r;rfl
 subst E;subst F;have h1:=h.mod0 m1;have G:=B.mod m1;obtain⟨RL,m⟩:=nm rs.length;obtain⟨cb,e⟩:=nm W.heap.size;obtain⟨z,f⟩:=nm (DY rs 0);obtain⟨nx,s⟩:=nm c.next;have d0:0<RL:=by omega
 have d1:(nx:Int)<=z:=by rw[<-s,<-f];omega
 rw[e]at v q l w;rw[m]at q;rw[f]at A b2;have c6:W1.cell? ⟨b,6,none⟩=some (.int .u64 nx):=by rw[<-s];exact h1.hd (j:=6) rfl
 have H0:=zb (h1.mod0 (DW.refl DX W1).drew);have HM:=zb m1;have HT:=zb B;rw[m]at d;have H:=zb k;have I:=zb d;have J:=zb l;have K:=zb e;rw[m];clear h B h1 G u n C h0 h3 y r q1 q2 e1 b1 k d l w m f s e m1 hn D hi;go_enter func158,ntmps158;go_upto_region 1 with fail;rw[H.z,I.z,K.z];try rw[J.z]
 refine zD ?_;refine zl 9 (λw'=>w'.cell? ⟨cb,0,none⟩=some (.pointer (some ⟨b,0,none⟩))/\w'.cell? ⟨cb+1,0,none⟩=some (.slice (some ⟨g,o,none⟩) RL p)/\w'.cell? ⟨g,o+1,none⟩=some (.int .u64 z)/\w'.cell? ⟨b,6,none⟩=some (.int .u64 nx)) (⟨v,q,A,c6⟩) ?_;refine GI 0 ?_;iterate 9
  refine GV rfl ?_;try simp only[PS]
 refine zn ?_;refine⟨rfl,?_⟩;go_wp2_with fail;go_ret;exact⟨rfl,H0.z.left HT.z (HM.z.drew.mono (λ_ x=>x.elim))⟩
def eY(h:zg tag i b c V W)(ht:Do tag W)(hi:0<i)(rs:zC)(la:Option Addr)(d:Nat)(ab:RR W (.slice la rs.length d) rs)(ac:∀g,Value.blk (.slice la rs.length d)=some g->(tag g).1≠i)(h0:0<rs.length)(ad:rs.length<=1099511627776)(hn:¬c.next<=DY rs 0)(hb:c.flight.length<=1099511627776)(ok:Lw { c with largest:=max c.largest (DY rs 0) } rs)(ae:Jg (c.ackedTo rs)):Calls prog 158 #[.pointer (some ⟨b,0,none⟩),.slice la rs.length d] W (EA tag i b W (.int .i64 0) (c.ackedTo rs).lose):=by
 obtain⟨W0,E⟩:=nm (W.alloc (.cells #[.pointer (some ⟨b,0,none⟩)] 69));obtain⟨W1,t⟩:=nm (W0.alloc (.cells #[.slice la rs.length d] 63));obtain⟨m1,u,s⟩:=JJ E t;have F:=AC E
 have af:W1.heap.size=W.heap.size+2:=by rw[<-t];simp[F]
 have v:=ab.mod m1 (Dl.no _);obtain⟨a',w,M,q1,q2,h3⟩:=id v;obtain⟨g,o,ah,e1,O,b1,b2⟩:=h3 0 h0;have O:W1.cell? ⟨g,o+1,none⟩=some (.int .u64 (DY rs 0:Int)):=by simpa using O
 have ax:la=some ⟨g,o,none⟩:=by cases M;exact ah
 have ay:w=d:=by cases M;rfl
 subst ax;subst ay;have h1:=h.mod0 m1;have ai:=ht.mod m1;obtain⟨RL,y⟩:=nm rs.length;obtain⟨cb,z⟩:=nm W.heap.size;obtain⟨A,B⟩:=nm (DY rs 0);obtain⟨nx,P⟩:=nm c.next;have d0:0<RL:=by omega
 have d1:¬(nx:Int)<=A:=by rw[<-P,<-B];omega
 rw[z]at u s F af;rw[y]at s;rw[B]at O b2;have c6:W1.cell? ⟨b,6,none⟩=some (.int .u64 nx):=by rw[<-P];exact h1.hd (j:=6) rfl
 have Q:W1.cell? ⟨b,237,none⟩=some (.int .u64 c.largest):=h1.tl (j:=4) rfl;have aj:=h1.fz 237;obtain⟨lg,ak⟩:=nm c.largest;obtain⟨L2,S⟩:=nm (max c.largest (DY rs 0));rw[S]at ok;have ez:(if lg<A then(A:Int)else(lg:Int))=(L2:Int):=by split<;>omega
 rw[ak]at Q;obtain⟨W2,G⟩:=nm (W1.setCell ⟨b,237,none⟩ (.int .u64 L2));have T:DW (λq=>q=b) W1 W2:=by rw[<-G];exact(DW.refl (λq=>q=b) W1).setCell (p:=⟨b,_,none⟩) (.inl rfl) _
 have h2:zg tag i b { c with largest:=L2 } V W2:=by
  rw[<-G];exact h1.store (233+4) _ (zX c { c with largest:=L2 } V V (j:=4) _ rfl rfl rfl rfl) ⟨rfl,λ_ _=>⟨rfl,rfl,rfl⟩,λ_ _=>⟨rfl,rfl⟩,rfl,rfl,rfl,rfl⟩
 have al:=ai.mod T;have C:∀q,cb<=q->¬Dp i tag q:=λq hq x=>by
  have h5:=x.1;rw[ht q (by omega)]at h5;simp at h5;omega
 have U:∀q,cb<=q->q≠b:=λq hq e=>C q hq (by rw[e];exact EK h.tb (by decide))
 have D:=T.cell (a:=⟨cb,0,none⟩) (U _ (AG _)) u;have H:=T.cell (a:=⟨cb+1,0,none⟩) (U _ (by show cb<=cb+1;omega)) s;have X:=ac g rfl;have Y:¬g=b:=λe=>X (by rw[e,h.tb])
 have I:=v.mod T (λg' o' n' c' e x=>by cases e;exact Y x);obtain⟨a,cap,hv,_⟩:=zi h2.ft;obtain⟨N,hN⟩:=nm c.flight.length;have hv:V.ft = .slice a N cap:=by rw[hv];simp only[hN]
 have am:=zk (T.cell (a:=⟨g,_,none⟩) Y O);have kd:=Yo h2 al hi ok hb D (C _ (AG _)) (by rw[y];exact H) (C _ (by omega)) I (λg' o' n' c' e x=>by cases e;exact X x.1) (λg' o' n' c' e=>by cases e;exact am) ad ((DW.refl DX W2).drew.drew.drew) hv hN;have an:W2.cell? ⟨b,236,none⟩=some (.slice a N cap):=by rw[<-hv];exact h2.tl (j:=3) rfl
 have fz:=h2.fz 236;have ao:(c.flight.zip V.fts).length=N:=by rw[Cw,h.fl,CX,hN]
 have ap:(c.flight.zip V.fts).map (·.1)=c.flight:=DG (BX h.fl.symm);have aq:c.ackedTo rs=(({ c with largest:=L2 }:CS).ackPs rs c.flight).fly (c.flight.filter λp => !Eu rs p):=by unfold CS.ackedTo;rw[S]
 have MW:AA (DW (Dp i tag) W W2):=zb ((m1.mono (λ_ x=>x.elim)).trans (T.mono (λq hq=>.inl (EK (r:=1) (by rw[show q=b from hq];exact h.tb) (by decide)))));have KD:=zb kd;have HT:=zb ht;have HI:=zb hi;have ar:=zb C;have aa:=zb D;have HZ:=zb (And.intro ao ap);have HN:=zb hN;have az:=zb G;have au:=zb ae;have HB:=zb hb;have aA:=zb aq;rw[y]at t;have aB:=zb E;have aC:=zb t;have aD:=zb F;have aE:=zb z;rw[y];clear h ht h1 ai ab v I ac h0 h3 ah M q1 q2 e1 b1 E t G F af y B P z m1 T hn ad hi h2 al ak S ok ae hb C U D H X Y am kd ao ap aq hN hv;go_enter func158,ntmps158;go_upto_region 1 with fail;rw[aB.z,aC.z,aE.z];try rw[aD.z]
 refine zD ?_;refine zl 9 (λw'=>w'.cell? ⟨cb,0,none⟩=some (.pointer (some ⟨b,0,none⟩))/\w'.cell? ⟨cb+1,0,none⟩=some (.slice (some ⟨g,o,none⟩) RL w)/\w'.cell? ⟨g,o+1,none⟩=some (.int .u64 A)/\w'.cell? ⟨b,6,none⟩=some (.int .u64 nx)) (⟨u,s,O,c6⟩) ?_;refine GI 0 ?_;iterate 9
  refine GV rfl ?_;try simp only[PS]
 refine zn ?_;refine⟨rfl,?_⟩;go_upto_region 3 with fail;refine zD ?_;refine zl 12 (λw'=>w'.cell? ⟨cb,0,none⟩=some (.pointer (some ⟨b,0,none⟩))/\w'.cell? ⟨cb+1,0,none⟩=some (.slice (some ⟨g,o,none⟩) RL w)/\w'.cell? ⟨g,o+1,none⟩=some (.int .u64 A)/\w'.cell? ⟨b,237,none⟩=some (.int .u64 lg)/\w'.frozen? ⟨b,237,none⟩=false) (⟨u,s,O,Q,aj⟩) ?_;refine GI 0 ?_;iterate 12
  refine GV rfl ?_;try simp only[PS]
 refine zU rfl (λK J=>?_);go_simp;try simp only[ez]
 refine J.z _ _ ?_;clear J K;try simp only[PS]
 refine zn ?_;refine⟨rfl,?_⟩;go_upto_region 4 with fail;rw[az.z];refine zD ?_;refine zl 9 (λw'=>w'.cell? ⟨cb,0,none⟩=some (.pointer (some ⟨b,0,none⟩))/\w'.cell? ⟨b,236,none⟩=some (.slice a N cap)/\w'.frozen? ⟨b,236,none⟩=false) (⟨aa.z,an,fz⟩) ?_;refine GI 0 ?_;iterate 6
  refine GV rfl ?_;try simp only[PS]
 refine zw 6 rfl (λK J=>?_);go_simp
 with_reducible refine(KD.z).mono ?_
 rintro e w6 ⟨n,R,rfl,av,hj,hR⟩;have HJ:=zb (And.intro av (And.intro hj hR));have hF:w6.cell? ⟨cb,0,none⟩=some (.pointer (some ⟨b,0,none⟩))/\w6.cell? ⟨b,236,none⟩=some (.slice a N cap)/\w6.frozen? ⟨b,236,none⟩=false:=by
  obtain⟨hl,tag',V',r,g1,g2⟩:=hj;exact⟨r.m.cell (a:=⟨cb,0,none⟩) (ar.z _ (AG _)) aa.z,by rw[<-g1];exact r.c.tl (j:=3) rfl,r.c.fz 236⟩
 clear hj av hR;go_simp;refine J.z _ _ hF ?_;obtain⟨p0,p1,p2⟩:=hF;clear J K;try simp only[PS]
 refine GI 7 ?_;iterate 2
  refine GV rfl ?_;try simp only[PS]
 refine zU rfl (λK J=>?_);go_simp;refine J.z _ _ ?_;clear J K;try simp only[PS]
 refine zn ?_;refine⟨rfl,?_⟩;obtain⟨Z,hZ⟩:=nm (w6.setCell ⟨b,236,none⟩ (.slice a n cap));have hD:∃tag' V',zx tag i b W2 V' (c.ackedTo rs) tag' V' Z:=by
  obtain⟨j1,j2,j3⟩:=HJ.z;rw[HZ.z.1]at j1 j2;have hR:(R.take n).map (·.1)=c.flight.filter λp => !Eu rs p:=by
   rw[j3];have e:=List.filter_map (f:=λx:Df×Value=>x.1) (p:=λp => !Eu rs p) (l:=c.flight.zip V.fts);rw[HZ.z.2]at e;exact e.symm
  have:=j2.done j1;rw[hZ,hR]at this;rw[aA.z];unfold IR at this;rw[<-HN.z,AW (AG _)]at this;exact this
 obtain⟨aF,V7,r7⟩:=hD;have L:(c.ackedTo rs).flight.length<=1099511627776:=AO (Cn _ _) HB.z;have kl:=SM r7.c r7.e.z HI.z au.z L;have zcb:=r7.m.cell (a:=⟨cb,0,none⟩) (ar.z _ (AG _)) aa.z;have KL:=zb kl;have R7:=zb r7;clear kl r7 p0 p1 p2 an fz u s O Q aj c6 L;try rw[hZ]
 clear hZ;go_wp2_with fail;refine(KL.z).mono ?_;rintro e w9 ⟨rfl,aw,V9,r1,r2,r3⟩;have R9:=zb (And.intro r1 (And.intro r2 r3));clear r1 r2 r3;go_wp2_with fail;go_ret;refine⟨rfl,aw,V9,R9.z.1,?_,?_⟩
 ·have x1:Dj i tag tag W W2:=Dj.same HT.z MW.z;exact(x1.trans R7.z.e MW.z.size).trans R9.z.2.1 (AO MW.z.size R7.z.m.size)
 ·refine(MW.z.trans R7.z.m).ofC.then R9.z.2.2 (λg hg=>?_);by_cases hz:g<W2.heap.size
  ·rw[R7.z.e.old g hz]at hg;exact .inl hg
  ·exact .inr (AO MW.z.size (by omega))
variable{k:Nat}
def zg.rcameAt(h:zg tag i b c V W)(hk:k<8)(hl:(c.rs k).came.rs.length<=1099511627776):ET W b (129+13*k+1) (V.rc k) (c.rs k).came.rs (c.rs k).came.fl (c.rs k).came.most :=
 ⟨h.r (j:=1) hk rfl,h.r (j:=2) hk rfl,h.r (j:=3) hk rfl,h.rc k hk,hl,λj=>h.fz j⟩
variable{V' V0:CV}{W' W'' W0:World}{tag':Nat->Nat×Nat}{v':Value}
def zx.rcame{s:Dh}(h:zx tag i b W0 V0 c tag' V' W')(hk:k<8)(ha:Lp s b (129+13*k+1) (V'.rc k) W' W'' v')(hm:s.most=(c.rs k).came.most):∃tag2 V2,zx tag i b W0 V0 { c with rs:=upd c.rs k { c.rs k with came:=s } } tag2 V2 W''/\∀g,g<W'.heap.size->tag2 g=tag' g:=by
 obtain⟨f,l,d,u⟩:=ha;have v:=h.p;have n:∀{g r:Nat},tag' g=(i,r)->g<W'.heap.size:=λhg=>EQ h.e.z hg v
 have o:∀g,(tag' g).1=i->retag tag' W' W'' (i,50+k) g=tag' g:=λg hg=>zz (n (r:=(tag' g).2) (by rw[<-hg]))
 have w:∀g,(g=b\/(V'.rc k).ownBlock=some g)->∃r,(r=1\/r=50+k)/\tag' g=(i,r):=λg hg=>by
  rcases hg with hg|hg
  ·exact⟨1,.inl rfl,by rw[hg,h.c.tb]⟩
  ·exact⟨50+k,.inr rfl,h.c.trc k hk g hg⟩
 refine⟨retag tag' W' W'' (i,50+k),{ V' with rc:=upd V'.rc k v' },⟨?_,h.e.trans (Ib d.size) h.m.size,Ec h.e h.m (d.mono (λg hg=>.inl ?_)),v,h.ft⟩,λg hg=>zz hg⟩
 ·refine h.c.build (R:=λr=>r=1\/r=50+k) d w o ?_ (.inl ⟨rfl,rfl,rfl,by omega,by omega⟩) (λq t=>.inl ⟨rfl,rfl,by omega⟩) (λq t=>.inl ⟨rfl,rfl,by omega⟩) (λq t=>.inl ⟨rfl,rfl,by omega⟩) (λq t=>.inl ⟨?_,rfl,by omega⟩) (λq t=>?_) (.inl ⟨rfl,rfl,rfl,by omega,by omega⟩) (.inl ⟨rfl,rfl,by omega⟩) (.inl ⟨rfl,rfl,by omega⟩) (.inl ⟨rfl,rfl,by omega⟩)
  ·rw[l,zc (zc h.c.obj)];simp only[Ap];have e1:=Jt c c V' { V' with rc:=upd V'.rc k v' } (k:=k) (j:=1) v' hk (by decide) (λq _=>by
    by_cases a:q=k
    ·subst a;simp only[ze,A5];rfl
    ·simp only[zd _ _ a,AH a]) rfl rfl rfl
   rw[e1];have e2:=Jt c { c with rs:=upd c.rs k { c.rs k with came:=s } } { V' with rc:=upd V'.rc k v' } { V' with rc:=upd V'.rc k v' } (k:=k) (j:=2) (.int .u64 s.fl) hk (by decide) (λq _=>by
    by_cases a:q=k
    ·subst a;simp only[ze,A5,GD,hm];rfl
    ·simp only[zd _ _ a,AH a]) rfl rfl rfl
   rw[show 129+13*k+1+1=129+13*k+2 from rfl,e2]
  ·by_cases a:q=k
   ·subst a;simp only[ze]
   ·simp only[zd _ _ a]
  ·by_cases a:q=k
   ·subst a;simp only[ze];refine .inr ⟨f,λg hg=>?_⟩;rcases u g hg with y|y
    ·rw[zz (n (h.c.trc q hk g y)),h.c.trc q hk g y]
    ·exact Fr y (zF f g hg)
   ·exact .inl ⟨by simp only[zd _ _ a],by simp only[zd _ _ a],by omega⟩
 ·obtain⟨r,hr,e⟩:=w g hg;exact EK e (by omega)
variable{bs:List UInt8}
def zx.rbytes(h:zx tag i b W0 V0 c tag' V' W')(hk:k<8)(f:OB W'' v' bs)(l:W''.heap[b]?=(W'.setCell ⟨b,129+13*k,none⟩ v').heap[b]?)(d:DW (λq=>q=b\/(V'.rb k).ownBlock=some q) W' W'')(t:Dy W' (V'.rb k) v'):∃tag2 V2,zx tag i b W0 V0 { c with rs:=upd c.rs k { c.rs k with b:=bs } } tag2 V2 W''/\∀g,g<W'.heap.size->tag2 g=tag' g:=by
 have u:=h.p;have n:∀{g r:Nat},tag' g=(i,r)->g<W'.heap.size:=λhg=>EQ h.e.z hg u
 have o:∀g,(tag' g).1=i->retag tag' W' W'' (i,40+k) g=tag' g:=λg hg=>zz (n (r:=(tag' g).2) (by rw[<-hg]))
 have v:∀g,(g=b\/(V'.rb k).ownBlock=some g)->∃r,(r=1\/r=40+k)/\tag' g=(i,r):=λg hg=>by
  rcases hg with hg|hg
  ·exact⟨1,.inl rfl,by rw[hg,h.c.tb]⟩
  ·exact⟨40+k,.inr rfl,h.c.trb k hk g hg⟩
 refine⟨retag tag' W' W'' (i,40+k),{ V' with rb:=upd V'.rb k v' },⟨?_,h.e.trans (Ib d.size) h.m.size,Ec h.e h.m (d.mono (λg hg=>.inl ?_)),u,h.ft⟩,λg hg=>zz hg⟩
 ·refine h.c.build (R:=λr=>r=1\/r=40+k) d v o ?_ (.inl ⟨rfl,rfl,rfl,by omega,by omega⟩) (λq s=>.inl ⟨rfl,rfl,by omega⟩) (λq s=>.inl ⟨rfl,rfl,by omega⟩) (λq s=>.inl ⟨rfl,rfl,by omega⟩) (λq s=>?_) (λq s=>.inl ⟨?_,rfl,by omega⟩) (.inl ⟨rfl,rfl,rfl,by omega,by omega⟩) (.inl ⟨rfl,rfl,by omega⟩) (.inl ⟨rfl,rfl,by omega⟩) (.inl ⟨rfl,rfl,by omega⟩)
  ·rw[l,zc h.c.obj];simp only[Ap];rw[show 129+13*k=129+13*k+0 from rfl,Jt c { c with rs:=upd c.rs k { c.rs k with b:=bs } } V' { V' with rb:=upd V'.rb k v' } (k:=k) (j:=0) v' hk (by decide) (λq _=>by
    by_cases a:q=k
    ·subst a;simp only[ze,A5];rfl
    ·simp only[zd _ _ a,AH a]) rfl rfl rfl]
  ·by_cases a:q=k
   ·subst a;simp only[ze];refine .inr ⟨f,λg hg=>?_⟩;rcases t g hg with y|y
    ·rw[zz (n (h.c.trb q hk g y)),h.c.trb q hk g y]
    ·exact Fr y (zF f g hg)
   ·exact .inl ⟨by simp only[zd _ _ a],by simp only[zd _ _ a],by omega⟩
  ·by_cases a:q=k
   ·subst a;simp only[ze]
   ·simp only[zd _ _ a]
 ·obtain⟨r,hr,e⟩:=v g hg;exact EK e (by omega)
def zx.addRcame(h:zx tag i b W0 V0 c tag' V' W')(hk:k<8)(d:(c.rs k).came.Ok)(lo hi:Nat)(j:lo<=zB)(l:hi<=zB):Calls prog 88 #[.pointer (some ⟨b,129+13*k+1,none⟩),.int .u64 lo,.int .u64 hi] W' (Om tag i b W0 V0 { c with rs:=upd c.rs k { c.rs k with came:=(c.rs k).came.add lo hi } } tag' W'):=by
 have hm:=d.most;have hrl:=d.rl;have m:=d.fl;have hp:=h.p;unfold zB at j l m;have n:(V'.rc k).ownBlock≠some b:=λe=>by
  have h1:=h.c.trc k hk b e;rw[h.c.tb]at h1;have:=A0 Prod.snd h1;simp only at this;omega
 refine(Jo (c.rs k).came b (129+13*k+1) lo hi (V'.rc k) W' (h.c.rcameAt hk (by omega)) d.wf (by omega) (by omega) (by omega) n hm.1 (by omega)).mono ?_;rintro e W'' ⟨v',rfl,h1,h2,h3,h4⟩;refine⟨rfl,?_,λg hg f=>h3.block g hg (λx=>?_)⟩
 ·obtain⟨tag2,V2,r,f⟩:=h.rcame hk ⟨h1,h2,h3,h4⟩ (G8 _ _ _);exact⟨tag2,V2,r,f⟩
 ·rcases x with x|x
  ·have a:=h.c.tb;rw[<-x,f]at a;have:=A0 Prod.snd a;simp at this
  ·have a:=h.c.trc k hk g x;rw[f]at a;have:=A0 Prod.snd a;simp at this;omega
theorem Pg(rs:zC):∀lo e,lo<e->(Dk rs lo e).1<e->lo<=(Dk rs lo e).1/\(Dk rs lo e).1<(Dk rs lo e).2:=by
 induction rs with
 | nil=>intro lo e h _;exact⟨AG _,h⟩
 | cons r l ih =>
  intro lo e hl h;unfold Dk at h ⊢;by_cases h1:r.2<lo
  ·rw[AN h1]at h ⊢;exact ih lo e hl h
  ·rw[AH h1]at h ⊢;by_cases h2:lo<r.1
   ·rw[AN h2]at h ⊢;exact⟨AG _,Nat.lt_min.2 ⟨hl,h2⟩⟩
   ·rw[AH h2]at h ⊢;have hk:∀(l:zC) lo e,(Dk l lo e).1<e->lo<e:=by
     intro l
     induction l with
     | nil=>intro lo e h;exact h
     | cons q l ih2 =>
      intro lo e h;unfold Dk at h;by_cases g1:q.2<lo
      ·rw[AN g1]at h;exact ih2 _ _ h
      ·rw[AH g1]at h;by_cases g2:lo<q.1
       ·rw[AN g2]at h;exact h
       ·rw[AH g2]at h;have:=ih2 _ _ h;omega
    have:=hk _ _ _ h;obtain⟨a,b⟩:=ih (r.2+1) e this h;exact⟨by omega,b⟩
def OQ(l:List UInt8)(a b:Nat):(zq l).extract a b=zq ((l.drop a).take (b-a)):=by
 rw[Lib.extract_eq,IL];rfl
def MN(b:List UInt8)(i:Nat)(s:List UInt8)(h:i+s.length<=b.length):(Hv b i s).length=b.length:=by
 unfold Hv;simp only[AF,AS,Ad];omega
variable{cap g lo:Nat}{w:World}
def VH{s:List UInt8}(h:OB w (.slice (some ⟨g,0,none⟩) bs.length cap) bs)(hf:lo+s.length<=bs.length)(c d:Nat)(hd:s.length<=c):∃w',(∀ty,(Builtin.copy_ #[60,9] ty #[.slice (some ⟨g,lo,none⟩) c d,.string (zq s)]).run prog w = .ok (goInt s.length) w')/\OB w' (.slice (some ⟨g,0,none⟩) bs.length cap) (Hv bs lo s)/\DW (λq=>q=g) w w':=by
 rcases h.2 with⟨e,_⟩|⟨g',f,a,e,_,h1,h2,h3,h4,b⟩
 ·cases e
 ·cases e;have hcs:a.size=cap:=by simpa using h4
  have b:a.toList.take bs.length=zR bs:=by simpa using b
  have hk:∀ty,_:=λty=>Lib.run_copy_row_string (P:=prog) w 60 9 ty 5 g lo c d (zq s) a _ underlying60 (by kernel_rfl) h1 (by rw[zE];exact hd) (by rw[zE];omega)
  rw[zE]at hk;refine⟨_,hk,?_,OL w g _⟩;unfold OB;rw[MN bs lo s hf];refine⟨?_,.inr ⟨g,cap,_,rfl,AL _,setRow_heap w g a _ _ _ h1,h2,h3,?_,?_⟩⟩
  ·rw[Ig,MN bs lo s hf,DN]
  ·simp only[Al,AF,AS,Ad,Bx,Lib.byteCells_length,IL];omega
  ·simp only[DN,IL,Hv,ML];have hl:Lib.byteCells s=zR s:=rfl;have e1:zR (bs.take lo)=a.toList.take lo:=by
    have:zR (bs.take lo)=(zR bs).take lo:=by simp[zR,List.map_take]
    rw[this,<-b,BZ,BM (by omega)]
   have e2:zR (bs.drop (lo+s.length))=(a.toList.drop (lo+s.length)).take (bs.length-(lo+s.length)):=by
    have:zR (bs.drop (lo+s.length))=(zR bs).drop (lo+s.length):=by simp[zR,List.map_drop]
    rw[this,<-b,C4]
   rw[e1,e2,hl,Av];have i:(a.toList.take lo).length=lo:=by rw[AS,Bx];omega
   generalize a.toList.take lo=A at i ⊢;generalize a.toList.drop (lo+s.length)=B;have e3:A.take bs.length=A:=AW (by omega);have e4:(zR s).take (bs.length-lo)=zR s:=AW (by rw[Ig];omega);rw[List.take_append,i,e3,List.take_append,Ig,e4,show bs.length-lo-s.length=bs.length-(lo+s.length)by omega]
def zx.rbne(h:zx tag i b W0 V0 c tag' V' W')(hk:k<8):¬(V'.rb k).ownBlock=some b:=λe=>by
 have h1:=h.c.trb k hk b e;rw[h.c.tb]at h1;have:=A0 Prod.snd h1;simp only at this;omega
def zx.rapp{s:List UInt8}(h:zx tag i b W0 V0 c tag' V' W')(hk:k<8)(d:Dq W' (V'.rb k) (c.rs k).b s v' W2):(∃tag2 V2,zx tag i b W0 V0 { c with rs:=upd c.rs k { c.rs k with b:=(c.rs k).b++s } } tag2 V2 (W2.setCell ⟨b,129+13*k,none⟩ v'))/\W2.cell? ⟨b,129+13*k,none⟩=some (V'.rb k)/\W2.frozen? ⟨b,129+13*k,none⟩=false:=by
 have hb:=h.rbne hk;have m1:=(DW.refl _ W').grown d.grown (λg hg=>.inl hg);have o1:=m1.obj hb h.c.obj;have hw:DW (λg=>g=b) W2 (W2.setCell ⟨b,129+13*k,none⟩ v'):=(DW.refl (λg=>g=b) _).setCell (p:=⟨b,129+13*k,none⟩) (.inl rfl) _;have f:=EQ h.e.z h.c.tb h.p;have l:∀g,v'.ownBlock=some g->¬g=b:=λg hg x=>by
  subst x;rcases d.at_ g hg with y|y
  ·exact hb y
  ·omega
 obtain⟨tag2,V2,r,_⟩:=h.rbytes hk (hw.owns d.own l) (MM (m1.block b f hb) _ _) ((m1.mono (λg hg=>.inl (.inr hg))).setCell (p:=⟨b,_,none⟩) (.inl (.inl rfl)) _) d.at_;exact⟨⟨tag2,V2,r⟩,m1.cell (a:=⟨b,_,none⟩) hb (h.c.r (j:=0) hk rfl),zf o1⟩
def zx.rturn{n:Nat}(h:zx tag i b W0 V0 c tag' V' W')(hk:k<8)(a:V'.rb k = .slice (some ⟨g,0,none⟩) n cap)(ho:OB W2 (.slice (some ⟨g,0,none⟩) n cap) bs)(m:DW (λq=>q=g) W' W2):∃tag2 V2,zx tag i b W0 V0 { c with rs:=upd c.rs k { c.rs k with b:=bs } } tag2 V2 W2:=by
 have hb:=h.rbne hk;have d:¬b=g:=λe=>hb (by rw[a,e];rfl)
 have c0:W'.cell? ⟨b,129+13*k,none⟩=some (V'.rb k):=h.c.r (j:=0) hk rfl;obtain⟨tag2,V2,r,_⟩:=h.rbytes hk (v':=V'.rb k) (by rw[a];exact ho) (by rw[MO c0];exact m.block b (EQ h.e.z h.c.tb h.p) d) (m.mono (λq hq=>.inl (.inr (by rw[a,show q=g from hq];rfl)))) (Dy.refl _ _);exact⟨tag2,V2,r⟩
structure Ol(c:CS)(f:Db)(k:Nat):Prop where
 lt:k<8
 st:f.stream=(k:Int)
 high:∀j,j<8->(c.rs j).high<=1099511627776
 grant:(c.rs k).grant<=1099511627776
 cgrant:c.grant<=zB
 fin:(c.rs k).fin<=zB
 end_:f.end_<=zB
 dl:f.data.length<=1099511627776
 came:(c.rs k).came.Ok
 bl:(c.rs k).b.length<=(c.rs k).high
theorem SK{rs:Nat->RS}{B:Nat}(h:∀j,j<8->(rs j).high<=B):∀n,n<=8->FW rs n<=n*B
 | 0,_=>by simp[FW]
 | n+1,hn=>by
  have:=SK h n (by omega);have:=h n (by omega);rw[Nat.succ_mul];show FW rs n+(rs n).high<=_;omega
def Yn(off:Nat)(data:List UInt8)(e n lo:Nat)(b:List UInt8)(s:Dh)(h:lo<e)(h2:(Dk s.rs lo e).1<e):Ek off data e (n+1) lo b s=Ek off data e n (Dk s.rs lo e).2 (Hv b (Dk s.rs lo e).1 ((data.drop ((Dk s.rs lo e).1-off)).take ((Dk s.rs lo e).2-(Dk s.rs lo e).1))) (s.add (Dk s.rs lo e).1 ((Dk s.rs lo e).2-1)):=by
 rw[Ek,AN h,AH (by omega)]
theorem Xb(off:Nat)(data:List UInt8)(e n lo:Nat)(b:List UInt8)(s:Dh)(h:¬lo<e):Ek off data e n lo b s=(b,s):=by
 cases n with
 | zero=>rfl
 | succ n=>rw[Ek,AH h]
theorem Ym(off:Nat)(data:List UInt8)(e n lo:Nat)(b:List UInt8)(s:Dh)(h:lo<e)(h2:¬(Dk s.rs lo e).1<e)(hn:0<n):Ek off data e n lo b s=(b,s):=by
 cases n with
 | zero=>omega
 | succ n=>rw[Ek,AN h,AN (by omega)]
variable{f:Db}
def Xa(a:f.stream=(k:Int))(h:(c.rs k).badEnd f=true):c.data f=(10,c):=by
 unfold CS.data;rw[a];simp[h]
def TT(a:f.stream=(k:Int))(h:(c.rs k).badEnd f=false)(h2:(c.rs k).high<f.end_/\((c.rs k).grant<f.end_\/c.grant<f.end_-(c.rs k).high+FW c.rs 8)):c.data f=(9,c):=by
 unfold CS.data;rw[a];simp only[Ao,h,BQ,BY];rw[AN h2]
def TS(a:f.stream=(k:Int))(h:(c.rs k).badEnd f=false)(h2:¬((c.rs k).high<f.end_/\((c.rs k).grant<f.end_\/c.grant<f.end_-(c.rs k).high+FW c.rs 8))):c.data f=(0,{ c with rs:=upd c.rs k ((c.rs k).data f) }):=by
 unfold CS.data;rw[a];simp only[Ao,h,BQ,BY];rw[AH h2]
theorem Yl(h:zg tag i b c V W)(ht:Do tag W)(hi:0<i)(f:Db)(rv:Value)(k:Nat)(ok:Ol c f k)(bG:∃a n cap,rv = .slice a n cap):Calls prog 159 #[.pointer (some ⟨b,0,none⟩),.agg (zh f rv)] W (EA tag i b W (.int .i64 ((c.data f).1:Int)) (c.data f).2):=by
 have hk:=ok.lt;have aJ:=ok.st;obtain⟨ra,rn,aK,rfl⟩:=bG;obtain⟨W1,ao⟩:=nm (W.alloc (.cells (zh f (.slice ra rn aK)) 65));have m1:=AB ao
 have ap:zj W1 W.heap.size f (.slice ra rn aK):=by rw[<-ao];exact heap_alloc_new W _
 have aL:¬Dp i tag W.heap.size:=λx=>by
  have h1:=x.1;rw[ht _ (AG _)]at h1;simp at h1;omega
 have h1:=h.mod0 m1;have r0:zx tag i b W1 V c tag V W1:=⟨h1,Dj.same (ht.mod m1) (DW.refl DX W1),DW.refl _ _,hi,⟨rfl,rfl⟩⟩;have B:AA (∀{c':CS} {tag':Nat->Nat×Nat} {V':CV} {W':World},zx tag i b W1 V c' tag' V' W'->Dn tag i b W c' W'):=zb (λr =>
  ⟨_,_,r.c,Hh ht m1 r.e,(m1.mono (λ_ x=>x.elim)).then r.m.ofC (λg hg=>.inl hg)⟩)
 obtain⟨fb,aM⟩:=nm W.heap.size;rw[aM]at ap aL;have aN:AA (∀{c':CS} {tag':Nat->Nat×Nat} {V':CV} {W':World},zx tag i b W1 V c' tag' V' W'->zj W' fb f (.slice ra rn aK)):=zb (λr=>ap.mod r.m aL);obtain⟨y0,y1,y2,y3,y4,y5,y6,y7,y8,y9⟩:=ap.cells;rw[aJ]at y1;obtain⟨x,hx⟩:=nm (c.rs k);obtain⟨off,N⟩:=nm f.off;obtain⟨d,C⟩:=nm f.data;obtain⟨DL,T⟩:=nm d.length;obtain⟨E,hE⟩:=nm f.end_;obtain⟨fi,aq⟩:=nm f.fin;obtain⟨en,ar⟩:=nm x.ended;obtain⟨FN,U⟩:=nm x.fin;obtain⟨F,X⟩:=nm x.high;obtain⟨GR,au⟩:=nm x.grant;obtain⟨CG,av⟩:=nm c.grant;obtain⟨bad,Y⟩:=nm (x.badEnd f);have Z:E=off+DL:=by rw[<-hE,<-N,<-T,<-C];rfl
 have a4:AA (((en&&(decide (FN<E)||(fi&&E != FN)))||(fi&&decide (E<F)))=bad):=zb (by
  rw[<-Y];unfold RS.badEnd;rw[ar,U,hE,aq,X])
 have q1:=ok.high k hk;have q2:=ok.grant;have q3:=ok.cgrant;have q4:=ok.fin;have q5:=ok.end_;have q6:=ok.dl;have q7:=ok.bl;have q8:=SK ok.high;rw[hx]at q1 q2 q4 q7;rw[X]at q1 q7;rw[au]at q2;rw[U]at q4;rw[av]at q3;rw[hE]at q5;rw[C,T]at q6;unfold zB at q3 q4 q5;have r4:W1.cell? ⟨b,129+k*13+4,none⟩=some (.int .u64 F):=by rw[<-X,<-hx,AK];exact h1.r (j:=4) hk rfl
 have r5:W1.cell? ⟨b,129+k*13+5,none⟩=some (.int .u64 FN):=by rw[<-U,<-hx,AK];exact h1.r (j:=5) hk rfl
 have r6:W1.cell? ⟨b,129+k*13+6,none⟩=some (.bool en):=by rw[<-ar,<-hx,AK];exact h1.r (j:=6) hk rfl
 have bH:W1.cell? ⟨b,129+k*13+11,none⟩=some (.int .u64 GR):=by rw[<-au,<-hx,AK];exact h1.r (j:=11) hk rfl
 have bI:W1.cell? ⟨b,234,none⟩=some (.int .u64 CG):=by rw[<-av];exact h1.tl (j:=1) rfl
 have fz:=h1.fz;have bJ:AA (∀j,j<8->W1.cell? ⟨b,129+j*13+4,none⟩=some (.int .u64 ((c.rs j).high:Int))):=zb (λj hj=>by rw[AK];exact h1.r (j:=4) hj rfl);have a5:=zb q8;rw[N]at y2;rw[aq]at y5;rw[C]at y8;have hsz:(zq d).size=DL:=by rw[zE,T]
 have w1:IntKind.u64.wrap (DL:Int)=(DL:Int):=by rw[IntKind.wrap_u64];omega
 have w2:IntKind.u64.wrap ((off:Int)+DL)=(E:Int):=by rw[IntKind.wrap_u64];omega
 have dk0:(0:Int)<=k:=by omega
 have dk8:(k:Int)<8:=by omega
 have R0:=zb r0;have aa:=zb Z;have HX:=zb hx;have ab:=zb N;have aE:=zb C;have a6:=zb T;have HE:=zb hE;have a7:=zb aq;have a8:=zb ar;have a9:=zb U;have H:=zb X;have aO:=zb au;have aP:=zb av;have HB:=zb Y;have bK:=zb ok;have ac:=zb aJ;have bL:=zb ao;have bM:=zb aM;clear h ht hi h1 r0 m1 ap aL y0 y3 y4 y6 y7 y9 hx N C T hE aq ar U X au av Y ok aJ ao aM q8 Z;go_enter func159,ntmps159;go_upto_region 1 with fail;rw[bL.z,bM.z];refine zD ?_;refine zl 7 (λw'=>w'.cell? ⟨fb,1,none⟩=some (.int .i64 k)) (y1) ?_;refine GI 0 ?_;iterate 7
  refine GV rfl ?_;try simp only[PS]
 refine zn ?_;refine⟨rfl,?_⟩;go_upto_region 2 with fail
 go_cut [6] (λev P=>ev = .int .u64 E/\P=W1.drew)
 case first=>as_aux_lemma =>
  go_wp2_with fail;go_meet;have Z:=aa.z;exact⟨by(congr 1<;>omega),rfl⟩
 case rest =>
 obtain⟨rfl,hw⟩:=hcut;obtain⟨WA,aQ⟩:=nn wc;subst aQ;subst hw;clear w1 w2;go_upto_region 3 with fail
 go_cut [59] (λbv P=>bv = .bool bad/\P=W1.drew)
 case first=>as_aux_lemma =>
  have hB:=a4.z;subst hB;cases en
  ·cases fi
   ·go_wp2_with fail;go_meet;exact⟨rfl,rfl⟩
   ·by_cases d2:(E:Int)<F
    ·have J:E<F:=by omega
     go_wp2_with fail;go_meet;exact⟨by simp[J],rfl⟩
    ·have J:¬E<F:=by omega
     go_wp2_with fail;go_meet;exact⟨by simp[J],rfl⟩
  ·by_cases d1:(FN:Int)<E
   ·have aw:FN<E:=by omega
    go_wp2_with fail;go_meet;exact⟨by simp[aw],rfl⟩
   ·have aw:¬FN<E:=by omega
    cases fi
    ·go_wp2_with fail;go_meet;exact⟨by simp[aw],rfl⟩
    ·by_cases d3:E=FN
     ·subst d3;by_cases d2:(E:Int)<F
      ·have J:E<F:=by omega
       go_wp2_with fail;go_meet;exact⟨by simp[J],rfl⟩
      ·have J:¬E<F:=by omega
       go_wp2_with fail;go_meet;exact⟨by simp[J],rfl⟩
     ·have d3b:((E:Int)==(FN:Int))=false:=by rw[LO];simpa using d3
      go_wp2_with fail;go_meet;exact⟨by simp[aw,d3],rfl⟩
 case rest =>
 obtain⟨rfl,hw⟩:=hcut;obtain⟨WA,aQ⟩:=nn wc;subst aQ;cases hbv:bad with
 | true =>
  rw[hbv]at HB;go_wp2_with fail;go_ret;have hd:=Xa (c:=c) (f:=f) ac.z (by rw[HX.z];exact HB.z);rw[hd];exact⟨rfl,B.z (R0.z.mod0 (by rw[hw];exact(DW.refl DX W1).drew))⟩
 | false =>
 rw[hbv]at HB;have ax:AA ((c.rs k).badEnd f=false):=zb (by rw[HX.z];exact HB.z);subst hw;go_upto_if 65 with fail;obtain⟨t,aR⟩:=nm (max F E);have D:=zb aR
 go_cut [] (λP=>AA (zx tag i b W1 V { c with rs:=upd c.rs k { x with high:=t } } tag V P/\(¬(F<E/\(GR<E\/CG<E-F+FW c.rs 8)))/\t<=1099511627776))
 case first=>as_aux_lemma =>
  have ba:AA (c={ c with rs:=upd c.rs k x }):=zb (by rw[<-HX.z,Fj]);by_cases hEH:(F:Int)<E
  ·have w3:=wu ((E:Int)-F) (by omega);go_wp2_with fail
   go_loopw [7,72] (λtv jv wr=>∃j:Nat,j<=8/\jv = .int .i64 j/\tv = .int .u64 ((E:Int)-F+(FW c.rs j:Nat))/\wr=W1.drew) (λ_ jv _=>8-(intOf jv).toNat)
   case atStart=>exact⟨0,by omega,rfl,by simp[FW],rfl⟩
   case round =>
    obtain⟨j,hj,rfl,rfl,rfl⟩:=hrel;have aS:=a5.z j hj;by_cases y:j<8
    ·have cj:=bJ.z j y;have bN:=a5.z (j+1) (by omega);have aT:FW c.rs (j+1)=FW c.rs j+(c.rs j).high:=rfl;obtain⟨S,O⟩:=nm (FW c.rs j);obtain⟨bO,aU⟩:=nm ((c.rs j).high);rw[O,aU]at aT;rw[O]at aS;rw[aU]at cj;have bP:=zb aT;have w4:=wu ((E:Int)-F+(S:Int)+bO) (by omega);have dj0:(0:Int)<=j:=by omega
     have dj8:(j:Int)<8:=by omega
     rw[O];clear aS bN aT O aU;go_wp2_with fail;go_roundw
     case rel=>exact⟨j+1,by omega,by go_num,by rw[bP.z];go_num,trivial⟩
     case measure=>simp[intOf];omega
    ·have bQ:j=8:=by omega
     subst bQ;obtain⟨S,O⟩:=nm (FW c.rs 8);have HS:=zb O;rw[O]at aS;rw[O];clear O;by_cases g1:(GR:Int)<E
     ·go_wp2_with fail;go_ret;have hd:=TT (c:=c) (f:=f) ac.z ax.z (by rw[HX.z,H.z,HE.z,aO.z];exact⟨by omega,.inl (by omega)⟩);rw[hd];exact⟨rfl,B.z (R0.z.mod0 (DW.refl DX W1).drew)⟩
     ·by_cases g2:(CG:Int)<(E:Int)-F+S
      ·go_wp2_with fail;go_ret;have hd:=TT (c:=c) (f:=f) ac.z ax.z (by rw[HX.z,H.z,HE.z,aP.z,HS.z];exact⟨by omega,.inr (by omega)⟩);rw[hd];exact⟨rfl,B.z (R0.z.mod0 (DW.refl DX W1).drew)⟩
      ·have hz:=(((R0.z.mod0 (DW.refl DX W1).drew).same ba.z).storeR hk 4 (by decide) (.int .u64 E) { x with high:=t } (by rw[<-D.z,Nat.max_eq_right (by omega)];rfl) rfl rfl);rw[AK 13 k]at hz;have HZ:=zb hz;have f4:=fz (129+k*13+4);clear hz;go_wp2_with fail;go_meet;exact zb ⟨HZ.z,by rw[HS.z];omega,by rw[<-D.z];omega⟩
  ·go_wp2_with fail;go_meet;refine zb ⟨((R0.z.mod0 (DW.refl DX W1).drew).same ba.z).same ?_,by omega,by rw[<-D.z];omega⟩;rw[<-D.z,Nat.max_eq_left (by omega),<-H.z]
 case rest =>
 obtain⟨WB,bR⟩:=nn wc;subst bR;have bb:=hcut;clear hcut;obtain⟨rb,ad,cp⟩:=id bb.z;have z5:WB.cell? ⟨fb,5,none⟩=some (.bool fi):=by rw[<-a7.z];exact(aN.z rb).cells.2.2.2.2.2.1
 have bc:=zb ad;obtain⟨Q,bd⟩:∃Q:RS,{ x with high:=t,ended:=en||fi,fin:=if fi then E else FN }=Q:=⟨_,rfl⟩;have L:=zb bd;have RB:=zb rb;have bS:=rb.c.fz;have ae:=rb.storeR hk 6 (by decide) (.bool true) { x with high:=t,ended:=true } (by rfl) rfl rfl;have aV:=ae.storeR hk 5 (by decide) (.int .u64 E) { x with high:=t,ended:=true,fin:=E } (by rfl) rfl rfl;have aF:=ae.c.fz;have aG:=ae;rw[AK 13 k]at ae aV aF;have be:=zb aV;obtain⟨u5,bT⟩:∃v,WB.cell? ⟨b,129+k*13+5,none⟩=some v:=⟨_,by rw[AK k 13];exact rb.c.r (j:=5) hk rfl⟩;obtain⟨u6,bU⟩:∃v,WB.cell? ⟨b,129+k*13+6,none⟩=some v:=⟨_,by rw[AK k 13];exact rb.c.r (j:=6) hk rfl⟩;obtain⟨u7,bV⟩:∃v,(WB.setCell ⟨b,129+k*13+6,none⟩ (.bool true)).cell? ⟨b,129+k*13+5,none⟩=some v:=⟨_,by rw[AK k 13];exact aG.c.r (j:=5) hk rfl⟩;clear rb ae aG aV ad bd r4 r5 r6 bH bI fz y1 y2 y5 y8;go_upto_if 104 with fail
 go_cut [] (λP=>AA (zx tag i b W1 V { c with rs:=upd c.rs k Q } tag V P))
 case first=>as_aux_lemma =>
  cases fi with
  | true =>
   go_wp2_with fail;go_meet;refine zb (be.z.same ?_);rw[<-L.z];simp
  | false =>
   go_wp2_with fail;go_meet;refine zb (RB.z.same ?_);rw[<-L.z,<-a8.z,<-a9.z];simp
 case rest =>
 obtain⟨WC,bW⟩:=nn wc;subst bW;have RC:=hcut;clear hcut bS aF z5 RB be bb bT bU bV;obtain⟨G,bX⟩:=nm x.b.length;have aW:=zb bX;have cq:AA (Q.b=x.b):=zb (by rw[<-L.z]);have bf:AA (Q.high=t):=zb (by rw[<-L.z]);have q9:G<=t:=by rw[<-aW.z,<-D.z];omega
 go_wp2_with fail
 go_loopw [] (λwr=>∃(n:Nat) (tag':Nat->Nat×Nat) (V':CV),G+n<=t/\AA (zx tag i b W1 V { c with rs:=upd c.rs k { Q with b:=x.b++List.replicate n 0 } } tag' V' wr)) (λwr=>t-(match wr.cell? ⟨b,129+k*13,none⟩with|some (.slice _ n _)=>n|_=>0))
 case atStart=>exact⟨0,tag,V,by omega,zb (RC.z.same (by rw[<-L.z];simp))⟩
 case round =>
  obtain⟨n,bh,V1,hn,HR⟩:=hrel;have hR:=HR.z;obtain⟨bs,ay⟩:=nm (x.b++List.replicate n 0);rw[ay]at hR HR;have aX:bs.length=G+n:=by rw[<-ay];simp[aW.z]
  have aY:OB wr (V1.rb k) bs:=by have:=hR.c.rb k hk;simpa only[ze]using this
  obtain⟨sa,af,hv,bY,bZ,aZ⟩:=zi aY;rw[aX]at hv bY aZ;unfold maxLen at bZ;have v0:wr.cell? ⟨b,129+k*13,none⟩=some (.slice sa (G+n) af):=by rw[<-hv,AK];exact hR.c.r (j:=0) hk rfl
  have v4:wr.cell? ⟨b,129+k*13+4,none⟩=some (.int .u64 t):=by
   have:=hR.c.r (j:=4) (v:=.int .u64 t) hk (by simp only[ze];rw[<-bf.z];rfl);rw[AK];exact this
  have w5:=wu ((G:Int)+n) (by omega);have bi:=zb ay;have R:=zb aX;have b0:=zb aY;have HV:=zb hv;have HC3:=zb aZ;clear HR;have HR:=zb hR;clear hR ay aX aY hv aZ;by_cases y:G+n<t
  ·have aH:(G:Int)+n<t:=by omega
   obtain⟨Wc,a0⟩:=nm (wr.alloc (.cells #[.int .u8 0] 5));have mc:=AB a0
   have oc:=AD a0
   have bj:BR Wc.drew (.slice (some ⟨wr.heap.size,0,none⟩) [(0:UInt8)].length 1) [(0:UInt8)] :=
    ⟨_,_,rfl,by simp,by unfold maxLen;omega,λq cc hq=>⟨_,_,rfl,by
     have b1:q=0:=by
      have:=(AM.1 hq).1;simp at this;omega
     subst b1;simp at hq;subst hq;exact za (o:=0+0) oc rfl⟩⟩
   have aI:bs.length + [(0:UInt8)].length<=140737488355328:=by rw[R.z];simp;omega
   have a1:=mc.drew;obtain⟨v',W2,Dc,ha⟩:=Ox Wc.drew (V1.rb k) bs ⟨wr.heap.size,0,none⟩ 1 [0] (a1.owns b0.z (λ_ _ x=>x)) bj aI;obtain⟨⟨tag2,V2,r2⟩,x2,f2⟩:=(HR.z.mod0 a1).rapp hk (s:=[0]) (v':=v') (W2:=W2) (by simp only[ze];exact ha);obtain⟨va,vc,rfl,_⟩:=zi ha.own;have b2:=r2;have e2:=r2.c.rb k hk;obtain⟨ea,ec,he,_⟩:=zi e2;have e3:=r2.c.r (j:=0) hk rfl;rw[he]at e3;have ah:((({ ({ c with rs:=upd c.rs k { Q with b:=bs } }:CS)with rs:=upd (upd c.rs k { Q with b:=bs }) k { (upd c.rs k { Q with b:=bs }) k with b:=((upd c.rs k { Q with b:=bs }) k).b++[0] } }:CS).rs k).b).length=G+n+1:=by
    simp only[ze,AF,R.z];rfl
   rw[ah]at e3;rw[AK 13 k]at x2 f2 r2 e3;rw[AF,R.z]at Dc;rw[HV.z]at Dc x2;have e3:(W2.setCell ⟨b,129+k*13,none⟩ (.slice va (bs++[0]).length vc)).cell? ⟨b,129+k*13,none⟩=some (.slice ea (G+n+1) ec):=e3;have bk:=zb e3;have R2:=zb r2;have az:[(0:UInt8)].length=1:=rfl;rw[az]at Dc;rw[AF,R.z,az]at R2;rw[AF,R.z,az]at bk;subst a0;clear ha r2 b2 e2 he e3 ah a1 aI bj oc mc;go_upto_region 17 with fail;refine zD ?_;refine zl 11 (λw'=>w'.cell? ⟨b,129+k*13,none⟩=some (.slice sa (G+n) af)/\w'.cell? ⟨b,129+k*13+4,none⟩=some (.int .u64 t)) (⟨v0,v4⟩) ?_;refine GI 0 ?_;iterate 11
    refine GV rfl ?_;try simp only[PS]
   refine zn ?_;refine⟨rfl,?_⟩;go_wp2_with (at_builtin;refine zm rfl _ _ _ _ rfl _ _ _ rfl rfl Dc ?_);go_roundw
   case rel =>
    refine⟨n+1,tag2,V2,by omega,zb (R2.z.same ?_)⟩;simp only[ze,Pc,<-bi.z,Av,Cs]
   case measure =>
    have e3:=bk.z;simp only[v0];rw[e3];show t-(G+n+1)<t-(G+n);omega
  ·have bm:G+n=t:=by omega
   have bn:AA (bs=Is x.b t):=zb (by
    rw[<-bi.z];unfold Is;rw[aW.z,show t-G=n by omega])
   have aH:¬(G:Int)+n<t:=by omega
   obtain⟨y0,y1,y2,y3,y4,y5,y6,y7,y8,y9⟩:=(aN.z HR.z).cells;rw[ab.z]at y2;have bo:=zb bK.z.came;have b3:=zb bm;clear bm y;go_upto_region 17 with fail;refine zD ?_;refine zl 11 (λw'=>w'.cell? ⟨b,129+k*13,none⟩=some (.slice sa (G+n) af)/\w'.cell? ⟨b,129+k*13+4,none⟩=some (.int .u64 t)) (⟨v0,v4⟩) ?_;refine GI 0 ?_;iterate 11
    refine GV rfl ?_;try simp only[PS]
   refine zn ?_;refine⟨rfl,?_⟩;clear y0 y1 y3 y4 y5 y6 y7 y9;go_upto_region 19 with fail
   go_cut [9] (λov P=>ov = .int .u64 off/\P=wr.drew)
   case first=>as_aux_lemma =>
    go_wp2_with fail;go_meet;exact⟨rfl,rfl⟩
   case rest =>
   obtain⟨rfl,hw⟩:=hcut;obtain⟨WD,b4⟩:=nn wc;subst b4;subst hw;have Z:=aa.z;have b5:AA (Ek off d E (DL+1) off bs x.came=x.dataB f):=zb (by
    unfold RS.dataB;rw[ab.z,aE.z,a6.z,HE.z,H.z,D.z,bn.z])
   have bp:AA (Q.came=x.came):=zb (by rw[<-L.z]);have bq:AA ({ Q with b:=(x.dataB f).1,came:=(x.dataB f).2 }=x.data f):=zb (by
    rw[<-L.z];unfold RS.data;rw[HE.z,H.z,D.z,a7.z,a8.z,a9.z])
   have aA:AA (E<=t):=zb (by rw[<-D.z];exact DE _ _);have b6:off<=E:=by omega
   clear Z aH v0 v4 y2 y8;go_wp2_with fail
   go_loopw [9] (λlv b7=>∃(lo m:Nat) (l:List UInt8) (s:Dh) (tag':Nat->Nat×Nat) (V':CV),lv = .int .u64 lo/\off<=lo/\lo<=E/\AA (zx tag i b W1 V { c with rs:=upd c.rs k { Q with b:=l,came:=s } } tag' V' b7/\l.length=t/\s.Ok/\E<lo+m/\Ek off d E m lo l s=x.dataB f)) (λlv _=>E-(intOf lv).toNat)
   case atStart=>exact⟨off,DL+1,bs,x.came,bh,V1,rfl,AG _,b6,zb ⟨(HR.z.mod0 (DW.refl DX wr).drew).same (by rw[<-bp.z]),by rw[R.z];exact b3.z,by rw[<-HX.z];exact bo.z,by have:=aa.z;omega,b5.z⟩⟩
   case round =>
    obtain⟨lo,m,l,s,cv,V3,rfl,az,hl2,z⟩:=hrel;have a2:=zb z.z.2.2.2.2;by_cases y:lo<E
    ·have aB:=z.z.1;have a3:OB wr (V3.rb k) l:=by have:=aB.c.rb k hk;simpa only[ze]using this
     obtain⟨sa3,u,aC,bt,bu,ai⟩:=zi a3;rw[z.z.2.1]at aC bt ai;unfold maxLen at bu;have aR:0<t:=by have:=aA.z;omega
     obtain⟨g3,rfl⟩:=ai aR;have v0:=aB.c.r (k:=k) (j:=0) (v:=V3.rb k) hk rfl;rw[aC,AK 13 k,Br]at v0;have aj:=aB.c.rcameAt hk (by simp only[ze];have:=z.z.2.2.1.rl;have:=z.z.2.2.1.most.2;omega);simp only[ze]at aj;have kg:=O7 s.rs s.fl s.most b (129+13*k+1) lo E (V3.rc k) wr aj (by omega) (λj hj=>by have:=z.z.2.2.1.hi j hj;unfold zB at this;omega);rw[AK 13 k]at kg;have b8:=Q7 s.rs (λr hr=>by
      obtain⟨j,hj,rfl⟩:=Ct.1 hr;have h5:=z.z.2.2.1.hi j hj;have e:s.rs.getD j (0,0)=s.rs[j]:=by simp[List.getD,hj]
      unfold DY at h5;rw[e]at h5;unfold zB at h5;omega) lo E (by omega)
     have b9:=LP s.rs lo E;have aD:=Pg s.rs lo E y;have A:=zb (λn=>Yn off d E n lo l s y);have M:=zb (λh=>Ym off d E m lo l s y h (by have:=z.z.2.2.2.1;omega));obtain⟨p,bw⟩:=nm ((Dk s.rs lo E).1);obtain⟨w,bz⟩:=nm ((Dk s.rs lo E).2);rw[bw]at b8 aD kg A M;rw[bz]at b9 aD kg A;have KG:=zb kg;have bA:=zb aC;have ca:=zb a3;have bB:(lo:Int)<E:=by omega
     clear kg aj aC a3 bw bz aB ai y;by_cases hge:(E:Int)<=p
     ·have ak:AA ((l,s)=x.dataB f):=zb (by rw[<-a2.z,M.z (by omega)]);clear aD;go_wp2_with (go_at_call 91;refine KG.z.mono ?_;rintro _ W3 ⟨rfl,m3⟩;have M3:=zb m3;clear m3);go_ret;have hd:=TS (c:=c) (f:=f) ac.z ax.z (by rw[HX.z,H.z,HE.z,aO.z,aP.z];exact bc.z);rw[hd];refine⟨rfl,B.z ((z.z.1.mod0 M3.z).same ?_)⟩;rw[HX.z,<-bq.z,<-ak.z]
     ·obtain⟨hg4,hg5⟩:=aD (by omega);have hm0:0<m:=by have:=z.z.2.2.2.1;omega
      have bC:AA (Ek off d E (m-1) w (Hv l p ((d.drop (p-off)).take (w-p))) (s.add p (w-1))=x.dataB f):=zb (by
       rw[<-A.z (m-1) (by omega),show m-1+1=m by omega];exact a2.z)
      clear A M;go_upto_region 24 with(go_at_call 91;refine KG.z.mono ?_;rintro _ W3 ⟨rfl,m3⟩;have M3:=zb m3;clear m3);have R3:=zb (z.z.1.mod0 M3.z);obtain⟨y0,y1,y2,y3,y4,y5,y6,y7,y8,y9⟩:=(aN.z R3.z).cells;rw[ab.z]at y2;rw[aE.z]at y8;have v3:=M3.z.cell (a:=⟨b,_,none⟩) id v0;have bD:OB W3.drew (.slice (some ⟨g3,0,none⟩) l.length u) l:=by
       have:=(M3.z.drew).owns ca.z (λ_ _ x=>x);rw[bA.z,<-z.z.2.1]at this;exact this
      have al:((d.drop (p-off)).take (w-p)).length=w-p:=by
       rw[AS,Ad,a6.z];have:=aa.z;omega
      obtain⟨W4,am,an,m4⟩:=VH (lo:=p) (s:=(d.drop (p-off)).take (w-p)) bD (by rw[al,z.z.2.1];have:=aA.z;omega) (w-p) (u-p) (by rw[al];exact AG _);have s1:(p:Int)<=w:=by omega
      have s2:(w:Int)<=u:=by have:=aA.z;omega
      have s3:¬u=p:=by omega
      have s4:=wu ((p:Int)-off) (by omega);have s5:=wu ((w:Int)-off) (by omega);have s6:(p:Int)-off<=(w:Int)-off:=by omega
      have s7:(w:Int)-off<=DL:=by have:=aa.z;omega
      have s8:0<=(p:Int)-off:=by omega
      have s9:off<=p:=by omega
      have s10:off<=w:=by omega
      obtain⟨S,O⟩:=nm ((d.drop (p-off)).take (w-p));have bE:(zq d).extract (p-off) (w-off)=zq S:=by rw[OQ,show w-off-(p-off)=w-p by omega,O]
      rw[O]at am an al bC;rw[al]at am;have HHS:=zb O;clear O;have cd:=zb am;have ce:=zb an;have M4:=zb m4;clear am an m4 bD;refine zD ?_;refine zl 18 (λw'=>w'.cell? ⟨b,129+k*13,none⟩=some (.slice (some ⟨g3,0,none⟩) t u)/\w'.cell? ⟨fb,2,none⟩=some (.int .u64 off)/\w'.cell? ⟨fb,8,none⟩=some (.string (zq d))) (⟨v3,y2,y8⟩) ?_;refine GI 0 ?_;iterate 18
       refine GV rfl ?_;try simp only[PS]
      refine zU rfl (λK hK=>?_);try rw[bE]
      have am:=cd.z;go_simp;refine hK.z _ _ ?_;clear hK K;try simp only[PS]
      refine zn ?_;refine⟨rfl,?_⟩;obtain⟨cw,V4,r4⟩:=(R3.z.mod0 (DW.refl DX W3).drew).rturn hk bA.z (by have:=ce.z;rw[z.z.2.1]at this;exact this) M4.z;have k5:=r4.addRcame hk (by simp only[ze];exact z.z.2.2.1) p (w-1) (by unfold zB;omega) (by unfold zB;omega);have hz:((w-1:Nat):Int)=(w:Int)-1:=by omega
      have w6:=wu ((w:Int)-1) (by omega);rw[hz,AK 13 k]at k5;have ci:=zb k5;have ck:=zb al;clear k5 r4 hz bE v0 v3 y0 y1 y2 y3 y4 y5 y6 y7 y8 y9 s1 s2 s3 s4 s5 s6 s7 s8;go_wp2_with fail;refine(ci.z).mono ?_;rintro e W6 ⟨rfl,⟨bF,V6,r6,_⟩,_⟩;have R6:=zb r6;clear r6;go_wp2_with fail;go_roundw
      case rel =>
       refine⟨w,m-1,Hv l p S,s.add p (w-1),bF,V6,rfl,by omega,by omega,zb ⟨R6.z.same ?_,?_,z.z.2.2.1.add _ (by unfold zB;omega),by have:=z.z.2.2.2.1;omega,bC.z⟩⟩
       ·simp only[ze,Pc]
       ·rw[MN _ _ _ (by rw[ck.z,z.z.2.1];have:=aA.z;omega)];exact z.z.2.1
      case measure=>simp[intOf];omega
    ·have co:lo=E:=by omega
     have ak:AA ((l,s)=x.dataB f):=zb (by rw[<-a2.z,Xb _ _ _ _ _ _ _ y]);have bB:¬(lo:Int)<E:=by omega
     clear y co;go_wp2_with fail;go_ret;have hd:=TS (c:=c) (f:=f) ac.z ax.z (by rw[HX.z,H.z,HE.z,aO.z,aP.z];exact bc.z);rw[hd];refine⟨rfl,B.z (z.z.1.same ?_)⟩;rw[HX.z,<-bq.z,<-ak.z]
structure Ob(c:CS)(f:Db):Prop where
 most:c.most<=zB
 id:f.id<=zB
 dl:f.dl<=zB
 now:c.now<=zB
 nd:(c.seen.map (·.1)).Nodup
 ids:∀p∈c.seen,p.1<=zB
 len:c.seen.length<=1099511627776
 cm:c.came.length<=1099511627776
def CS.drops(c:CS)(f:Db):Bool:=(c.seen.any λp=>p.1==f.id)||decide (f.dl<c.now)||(decide (0<c.seen.length)&&old c.most f.id)
def ib(h:c.drops f=true):c.message f=c:=by
 unfold CS.message;unfold CS.drops at h;rw[AN h]
def ia(h:c.drops f=false):c.message f={ c with most:=max c.most f.id,seen:=(c.seen++[(f.id,f.dl)]).filter (λp => !old (max c.most f.id) p.1),came:=c.came++[(f.id,f.data)] }:=by
 unfold CS.message;unfold CS.drops at h;rw[AH (by rw[h];simp)]
def Oj{x:Nat}(h:x<18446744073709551616):(Lit.int .u64 x).wf=true:=by
 show(decide ((0:Int)<=x)&&decide ((x:Int)<=18446744073709551615))=true;rw[Aq (by omega),Aq (by omega)];rfl
def NQ{x y:Nat}(h:x≠y):(Lit.int .u64 x)≠(Lit.int .u64 y):=λe=>by
 cases e;exact h (by omega)
def IZ:Go.Maps.Keyed prog 43:=Go.Maps.int_keyed underlying43
def Lt{x:Nat}(h:x<18446744073709551616):keyOf prog 43 (.int .u64 x)=some (.int .u64 x):=Go.Maps.keyOf_int_mk underlying43 (Oj h)
def KK{x:Nat}(h:x<18446744073709551616):plainElem (H:=Unit) prog 43 (.int .u64 x)=some (.lit (.int .u64 x),[]):=plainElem_int underlying43 (Oj h)
def XZ(w:World):(zeroValue 43).run prog w = .ok (.int .u64 0) w:=by kernel_rfl
def Yk{n:Nat}{D:DataW Unit}(h:w.ownsMap prog 43 (plainElem prog 43) b n D):w.ownsMap prog 43 (plainElem prog 43) b (Go.Maps.size D) D:=by
 obtain⟨es,a,h1,h2,h3,rfl⟩:=h;refine⟨es,a,h1,h2,?_,rfl⟩;simp[Go.Maps.size,length_sorted]
def FY.look{l:List (Nat×Nat)}(h:FY w b l){x:Nat}(a:x<18446744073709551616):∃v,(Instr.lookup 124 (.map (some b)) (.int .u64 x) true).run prog w = .ok (.tuple #[v,.bool (l.any λp=>p.1==x)]) w:=by
 obtain⟨D,ho,_,hh⟩:=h;obtain⟨v,ps,c,_⟩:=ho.look_ok IZ underlying124 (XZ w) (plainElem_int (H:=Unit) underlying43 (Oj (x:=0) (by omega))) (Lt a);rw[hh x a]at c;exact⟨v,c⟩
def FY.len{l:List (Nat×Nat)}(h:FY w b l)(a:TypeId):(Builtin.len_ #[124] a #[.map (some b)]).run prog w = .ok (.int .i64 l.length) w:=by
 obtain⟨D,ho,hs,_⟩:=h;have:=ho.len underlying124 a;rw[hs]at this;exact this
def FY.put{l:List (Nat×Nat)}(h:FY w b l){x y:Nat}(a:x<18446744073709551616)(hy:y<18446744073709551616)(hn:l.any (λp=>p.1==x)=false)(hl:l.length<=1099511627776):∃w',(Instr.mapUpdate 124 (.map (some b)) (.int .u64 x) (.int .u64 y)).run prog w = .ok () w'/\FY w' b (l++[(x,y)])/\DW (λq=>q=b) w w':=by
 obtain⟨D,c,hs,f⟩:=h;obtain⟨w',hr,d,hg⟩:=c.update IZ underlying124 (by unfold maxLen;omega) (Lt a) (KK hy);refine⟨w',hr,⟨_,by rw[AF];exact d,?_,λz hz=>?_⟩,(DW.refl _ w).grown hg (λk hk=>.inl (by cases hk;rfl))⟩
 ·rw[Go.Maps.size_put (c.tidy IZ),f x a,hn,AF,hs];rfl
 ·rw[List.any_append];by_cases e:z=x
  ·subst e;rw[Go.Maps.has_put_same c.isMap (IZ.key (Lt a))];simp
  ·rw[Go.Maps.has_put_other (NQ e),f z hz];have:¬x=z:=λy=>e y.symm
   simp[this]
structure Gj(L:List (Nat×Nat))(M:Nat)(left:Lit->Bool)(D:DataW Unit)(del:Nat->Bool):Prop where
 has:∀x:Nat,x<18446744073709551616->Maps.has D (.int .u64 x)=(L.filter λp => !del p.1).any λp=>p.1==x
 sz:Maps.size D=(L.filter λp => !del p.1).length
 old:∀x,del x=true->old M x=true
 done:∀p∈L,left (.int .u64 p.1)=false->del p.1=Go.Proofs.YtddfdpbaiedcjaaGreatDoor.old M p.1
def Tr(L:List (Nat×Nat))(del:Nat->Bool)(x:Nat):(L.filter λp => !(del p.1||p.1==x))=(L.filter λp => !del p.1).filter λp => !(p.1==x):=by
 rw[List.filter_filter]
 congr 1
 funext p;cases del p.1<;>simp
theorem Tf:∀(L:List (Nat×Nat)) (x:Nat),(L.map (·.1)).Nodup->L.any (λp=>p.1==x)=true->(L.filter λp => !(p.1==x)).length+1=L.length
 | [],x,_,h=>by simp at h
 | p::L,x,hn,h=>by
  simp only[Bt,List.nodup_cons]at hn;by_cases e:p.1=x
  ·have a:∀q∈L,¬q.1=x:=λq b e2=>hn.1 (by rw[e,<-e2];exact List.mem_map_of_mem b)
   have:(p::L).filter (λp => !(p.1==x))=L:=by
    rw[List.filter_cons_of_neg (by simp[e]),DR];intro q b;simp[a q b]
   rw[this];rfl
  ·have h2:L.any (λp=>p.1==x)=true:=by simpa [e]using h
   rw[List.filter_cons_of_pos (by simp[e])];simp only[AQ];have:=Tf L x hn.2 h2;omega
def Gj.start{w:World}{b:Nat}{L:List (Nat×Nat)}{M:Nat}{D:DataW Unit}(c:∀x:Nat,x<18446744073709551616->Maps.has D (.int .u64 x)=L.any λp=>p.1==x)(hs:Maps.size D=L.length)(hb:∀p∈L,p.1<=zB):Gj L M (Maps.has D) D (λ_=>false):=by
 have e:(L.filter λ_ => !false)=L:=by simp
 refine⟨λx a=>by rw[e,c x a],by rw[e,hs],λx a=>by simp at a,λp d hl=>?_⟩;have h1:=hb p d;unfold zB at h1;rw[c p.1 (by omega)]at hl;have:L.any (λq=>q.1==p.1)=true:=B7.2 ⟨p,d,by simp⟩;rw[this]at hl;cases hl
theorem Gj.keep{L:List (Nat×Nat)}{M:Nat}{left:Lit->Bool}{D:DataW Unit}{del:Nat->Bool}(h:Gj L M left D del){x:Nat}(hx:x<18446744073709551616)(a:Go.Proofs.YtddfdpbaiedcjaaGreatDoor.old M x=false)(hb:∀p∈L,p.1<=zB):Gj L M (λz=>left z && !z.sameKey (.int .u64 x)) D del:=by
 refine⟨h.has,h.sz,h.old,λp hp hl=>?_⟩;by_cases e:p.1=x
 ·rw[e,a];cases hd:del x with
  | false=>rfl
  | true =>
   have:=h.old x hd;rw[a]at this;cases this
 ·refine h.done p hp ?_;rw[Go.Maps.sameKey_ne (NQ e)]at hl;simpa using hl
def Gj.strike{L:List (Nat×Nat)}{M:Nat}{left:Lit->Bool}{D:DataW Unit}{del:Nat->Bool}(h:Gj L M left D del){x:Nat}(g:x<18446744073709551616)(i:Go.Proofs.YtddfdpbaiedcjaaGreatDoor.old M x=true)(hn:(L.map (·.1)).Nodup)(hd:Go.Maps.has D (.int .u64 x)=true)(ht:Go.Maps.Tidy D):Gj L M (λz=>left z && !z.sameKey (.int .u64 x)) (D.del (.int .u64 x)) (λz=>del z||z==x):=by
 have hk:=IZ.key (Lt g);have c:(L.filter λp => !del p.1).any (λp=>p.1==x)=true:=by rw[<-h.has x g];exact hd
 have f:((L.filter λp => !del p.1).map (·.1)).Nodup:=hn.sublist (Cc.map _);refine⟨λz a=>?_,?_,λz a=>?_,λp b hl=>?_⟩
 ·rw[Tr];by_cases e:z=x
  ·subst e;rw[Go.Maps.has_del_same]
   symm
   rw[Ck];intro p b;have:=(BV.1 b).2;simpa using this
  ·rw[Go.Maps.has_del_other (NQ e),h.has z a];rw[DK,B7,B7];constructor
   ·rintro⟨p,b,d⟩;refine⟨p,BV.2 ⟨b,?_⟩,d⟩;have:p.1=z:=by simpa using d
    simp[this,e]
   ·rintro⟨p,b,d⟩;exact⟨p,(BV.1 b).1,d⟩
 ·rw[Tr];have h1:=Tf _ x f c;have h2:=Go.Maps.size_del (k:=.int .u64 x) ht;rw[hd]at h2;simp only[A5]at h2;have h3:=h.sz;omega
 ·rcases Bool.or_eq_true_iff.1 a with a|a
  ·exact h.old z a
  ·have:z=x:=by simpa using a
   rw[this];exact i
 ·by_cases e:p.1=x
  ·simp[e,i]
  ·have:=h.done p b (by rw[Go.Maps.sameKey_ne (NQ e)]at hl;simpa using hl);simp[e,this]
def Gj.fin{n:Nat}{L:List (Nat×Nat)}{M:Nat}{left:Lit->Bool}{D:DataW Unit}{del:Nat->Bool}(h:Gj L M left D del)(hl:∀kl,left kl=false)(ho:w.ownsMap prog 43 (plainElem prog 43) b n D):FY w b (L.filter λp => !Go.Proofs.YtddfdpbaiedcjaaGreatDoor.old M p.1):=by
 have e:(L.filter λp => !del p.1)=L.filter λp => !Go.Proofs.YtddfdpbaiedcjaaGreatDoor.old M p.1:=by
  apply List.filter_congr;intro p hp;rw[h.done p hp (hl _)]
 have h1:=h.has;have h2:=h.sz;rw[e]at h2;refine⟨D,by rw[<-h2];exact Yk ho,h2,λx hx=>?_⟩;rw[h1 x hx,e]
def zx.seen{l:List (Nat×Nat)}(h:zx tag i b W0 V0 c tag' V' W')(m:DW (λq=>q=V'.sn) W' W'')(hs:FY W'' V'.sn l):zx tag i b W0 V0 { c with seen:=l } tag' V' W'':=by
 have hb:¬b=V'.sn:=λe=>by
  have h1:=h.c.tsn;rw[<-e,h.c.tb]at h1;simp at h1
 refine⟨h.c.build (R:=λr=>r=7) m (λq a=>⟨7,rfl,by rw[show q=V'.sn from a];exact h.c.tsn⟩) (λ_ _=>rfl) (m.obj hb h.c.obj) (.inl ⟨rfl,rfl,rfl,by omega,by omega⟩) (λk hk=>.inl ⟨rfl,rfl,by omega⟩) (λk hk=>.inl ⟨rfl,rfl,by omega⟩) (λk hk=>.inl ⟨rfl,rfl,by omega⟩) (λk hk=>.inl ⟨rfl,rfl,by omega⟩) (λk hk=>.inl ⟨rfl,rfl,by omega⟩) (.inl ⟨rfl,rfl,rfl,by omega,by omega⟩) (.inl ⟨rfl,rfl,by omega⟩) (.inr ⟨hs,h.c.tsn⟩) (.inl ⟨rfl,rfl,by omega⟩),⟨h.e.old,h.e.new,h.e.z.mod m⟩,Ec h.e h.m (m.mono (λq a=>.inl (EK (r:=7) (by rw[show q=V'.sn from a];exact h.c.tsn) (by decide)))),h.p,h.ft⟩
def XY:(prog.info? 154).map (λi=>(i.zero,i.size,i.bytes))=some (some (.agg #[.int .u64 0,.string ⟨#[]⟩]),2,24):=by kernel_rfl
def VG(w:World)(v:Value)(l:List (Nat×List UInt8))(id:Nat)(s:List UInt8)(h:w.ownsRow 0 154 2 v l.length (En l))(hl:l.length<=1099511627776):∃v' w',(∀ty,(Builtin.append_ #[125,125] ty #[v,.slice (some ⟨w.heap.size,0,none⟩) 1 1]).run prog (w.alloc (.cells #[.int .u64 id,.string (zq s)] 154)) = .ok v' w')/\w'.ownsRow 0 154 2 v' (l.length+1) (En (l++[(id,s)]))/\(w.alloc (.cells #[.int .u64 id,.string (zq s)] 154)).grownBy w' v.ownBlock/\Dy w v v':=by
 obtain⟨o,d⟩:=nm ((Obj.cells #[.int .u64 id,.string (zq s)] 154 (0,0)));obtain⟨i,a,hz,b,c⟩:=info_parts XY;have hc:∀(j:Nat) u,(En [(id,s)])[j]?=some u->(w.alloc o).cell? ((⟨w.heap.size,0,none⟩:Addr).add j)=some u:=λj u hj=>by
  rw[zS,<-d];refine za (heap_alloc_new w _) ?_;rw[Au,<-Array.getElem?_toList];exact hj
 obtain⟨v',w',k1,k2,k3,k4⟩:=zJ (P:=prog) (w.alloc o) 125 154 i _ 2 24 underlying125 a hz b c rfl (by decide) v l.length (En l) (((DW.refl DX w).alloc o).owns h (λ_ _ x=>x))
  ⟨w.heap.size,0,none⟩ 1 1 (En [(id,s)]) rfl hc (by
   intro u f;simp[En]at f;rcases f with rfl|rfl<;>rfl) (by unfold maxLen;omega) (by omega)
 have e:En (l++[(id,s)])=En l++En [(id,s)]:=by simp[En]
 rw[d,e];refine⟨v',w',k1,k2,k3,λg hg=>?_⟩;rcases k4 g hg with x|x
 ·exact .inl x
 ·refine .inr ?_;simp at x;omega
def zx.cmApp{l:List (Nat×List UInt8)}(h:zx tag i b W0 V0 c tag' V' W')(m0:DW DX W' W1)(d:W2.ownsRow 0 154 2 v' l.length (En l))(hg:W1.grownBy W2 V'.cm.ownBlock)(s:Dy W' V'.cm v'):(∃tag2 V2,zx tag i b W0 V0 { c with came:=l } tag2 V2 (W2.setCell ⟨b,243,none⟩ v'))/\W2.cell? ⟨b,243,none⟩=some V'.cm/\W2.frozen? ⟨b,243,none⟩=false:=by
 have t:=h.p;have f:∀{g r:Nat},tag' g=(i,r)->g<W'.heap.size:=λhg=>EQ h.e.z hg t
 have hb:¬V'.cm.ownBlock=some b:=λe=>by
  have h1:=h.c.tcm b e;rw[h.c.tb]at h1;simp at h1
 have m1:=(m0.mono (λ_ x=>x.elim)).trans ((DW.refl _ W1).grown hg (λg hg=>.inl hg));have o1:=m1.obj hb h.c.obj;have o:DW (λg=>V'.cm.ownBlock=some g\/g=b) W' (W2.setCell ⟨b,243,none⟩ v'):=(m1.mono (λg hg=>.inl (.inl hg))).setCell (p:=⟨b,243,none⟩) (.inl (.inr rfl)) _;have hw:DW (λg=>g=b) W2 (W2.setCell ⟨b,243,none⟩ v'):=(DW.refl (λg=>g=b) _).setCell (p:=⟨b,243,none⟩) (.inl rfl) _;have hbW:=f h.c.tb;have q:∀g,v'.ownBlock=some g->¬g=b:=λg hg x=>by
  subst x;rcases s g hg with y|y
  ·exact hb y
  ·omega
 have u:∀g,(V'.cm.ownBlock=some g\/g=b)->∃r,(r=1\/r=8)/\tag' g=(i,r):=λg hg=>by
  rcases hg with hg|hg
  ·exact⟨8,.inr rfl,h.c.tcm g hg⟩
  ·exact⟨1,.inl rfl,by rw[hg,h.c.tb]⟩
 have n:∀g,(tag' g).1=i->retag tag' W' (W2.setCell ⟨b,243,none⟩ v') (i,8) g=tag' g:=λg hg=>zz (f (r:=(tag' g).2) (by rw[<-hg]))
 refine⟨⟨retag tag' W' (W2.setCell ⟨b,243,none⟩ v') (i,8),{ V' with cm:=v' },?_,h.e.trans (Ib o.size) h.m.size,Ec h.e h.m (o.mono (λg hg=>.inl ?_)),t,h.ft⟩,m1.cell (a:=⟨b,_,none⟩) hb (h.c.tl (j:=10) rfl),zf o1⟩
 ·refine h.c.build (R:=λr=>r=1\/r=8) o u n ?_ (.inl ⟨rfl,rfl,rfl,by omega,by omega⟩) (λk hk=>.inl ⟨rfl,rfl,by omega⟩) (λk hk=>.inl ⟨rfl,rfl,by omega⟩) (λk hk=>.inl ⟨rfl,rfl,by omega⟩) (λk hk=>.inl ⟨rfl,rfl,by omega⟩) (λk hk=>.inl ⟨rfl,rfl,by omega⟩) (.inl ⟨rfl,rfl,rfl,by omega,by omega⟩) (.inl ⟨rfl,rfl,by omega⟩) (.inl ⟨rfl,rfl,by omega⟩) (.inr ⟨hw.owns d q,λg hg=>?_⟩)
  ·rw[zc o1,Ap];rw[show(243:Nat)=233+10 from rfl,zX c { c with came:=l } V' { V' with cm:=v' } _ rfl rfl rfl rfl]
  ·rcases s g hg with y|y
   ·rw[zz (f (h.c.tcm g y)),h.c.tcm g y]
   ·exact Fr y (by have:=zF d g hg;simpa using this)
 ·obtain⟨r,hr,e⟩:=u g hg;exact EK e (by omega)
theorem iZ(h:zg tag i b c V W)(ht:Do tag W)(hi:0<i)(f:Db)(rv:Value)(ok:Ob c f)(bc:∃a n cap,rv = .slice a n cap):Calls prog 160 #[.pointer (some ⟨b,0,none⟩),.agg (zh f rv)] W (EA tag i b W (.tuple #[]) (c.message f)):=by
 obtain⟨ra,rn,aB,rfl⟩:=bc;obtain⟨W1,aj⟩:=nm (W.alloc (.cells (zh f (.slice ra rn aB)) 65));have m1:=AB aj
 have ak:zj W1 W.heap.size f (.slice ra rn aB):=by rw[<-aj];exact heap_alloc_new W _
 have al:¬Dp i tag W.heap.size:=λx=>by
  have h1:=x.1;rw[ht _ (AG _)]at h1;simp at h1;omega
 have h1:=h.mod0 m1;have r0:zx tag i b W1 V c tag V W1:=⟨h1,Dj.same (ht.mod m1) (DW.refl DX W1),DW.refl _ _,hi,⟨rfl,rfl⟩⟩;have ax:AA (∀{c':CS} {tag':Nat->Nat×Nat} {V':CV} {W':World},zx tag i b W1 V c' tag' V' W'->Dn tag i b W c' W'):=zb (λr =>
  ⟨_,_,r.c,Hh ht m1 r.e,(m1.mono (λ_ x=>x.elim)).then r.m.ofC (λg hg=>.inl hg)⟩)
 obtain⟨fb,aC⟩:=nm W.heap.size;rw[aC]at ak al;have aS:AA (∀{c':CS} {tag':Nat->Nat×Nat} {V':CV} {W':World},zx tag i b W1 V c' tag' V' W'->zj W' fb f (.slice ra rn aB)):=zb (λr=>ak.mod r.m al);have aT:=zb al;obtain⟨y0,y1,y2,y3,y4,y5,I,y7,y8,y9⟩:=ak.cells;obtain⟨t,P⟩:=nm f.id;obtain⟨G,Q⟩:=nm f.dl;obtain⟨R,am⟩:=nm c.now;obtain⟨z,S⟩:=nm c.most;obtain⟨SN,an⟩:=nm V.sn;obtain⟨L0,T⟩:=nm c.seen;obtain⟨SL,U⟩:=nm L0.length;obtain⟨hs,ao⟩:=nm ((L0.any λp=>p.1==t));obtain⟨dr,aD⟩:=nm (c.drops f);have q1:=ok.most;have q2:=ok.id;have q3:=ok.dl;have q4:=ok.now;have q5:=ok.len;rw[S]at q1;rw[P]at q2;rw[Q]at q3;rw[am]at q4;rw[T,U]at q5;unfold zB at q1 q2 q3 q4;have aU:AA ((hs||decide (G<R)||(decide (0<SL)&&(decide (32<=z)&&decide (t<=z-32))))=dr):=zb (by
  rw[<-aD];unfold CS.drops old;rw[T,P,Q,am,S,ao,U])
 have ap:FY W1.drew SN L0:=by rw[<-an,<-T];exact(h1.mod0 (DW.refl DX W1).drew).sn
 obtain⟨lv,X⟩:=ap.look (x:=t) (by omega);have s:=(show FY W1.drew.drew SN L0 from ap).len;rw[ao]at X;rw[U]at s;have c3:W1.cell? ⟨b,3,none⟩=some (.int .u64 R):=by rw[<-am];exact h1.hd (j:=3) rfl
 have C:W1.cell? ⟨b,241,none⟩=some (.map (some SN)):=by rw[<-an];exact h1.tl (j:=8) rfl
 have E:W1.cell? ⟨b,242,none⟩=some (.int .u64 z):=by rw[<-S];exact h1.tl (j:=9) rfl
 have fz:=h1.fz;rw[P]at I;rw[Q]at y7;have aV:=zb ao;have R0:=zb r0;have aE:=zb P;have aW:=zb Q;have bd:=zb S;have B:=zb an;have aq:=zb T;have be:=zb U;have HD:=zb aD;have aF:=zb ok;have HSA:=zb ap;have bf:=zb aj;have bh:=zb aC;clear h ht hi h1 r0 m1 ak al y0 y1 y2 y3 y4 y5 y9 P Q am S an T U ao aD ok ap aj aC;go_enter func160,ntmps160;go_upto_region 1 with fail;rw[bf.z,bh.z]
 go_cut [5] (λov A=>ov = .bool hs/\A=W1.drew)
 case first=>as_aux_lemma =>
  refine zD ?_;refine zl 12 (λw'=>w'.cell? ⟨b,241,none⟩=some (.map (some SN))/\w'.cell? ⟨fb,6,none⟩=some (.int .u64 t)/\w'=W1.drew) (⟨C,I,rfl⟩) ?_;refine GI 0 ?_;iterate 12
   refine GV rfl ?_;try simp only[PS]
  refine zn ?_;refine⟨rfl,?_⟩;go_wp2_with fail;go_meet;exact⟨rfl,rfl⟩
 case rest =>
 obtain⟨rfl,hw⟩:=hcut;obtain⟨WA,aG⟩:=nn wc;subst aG;subst hw;clear X;go_upto_region 2 with fail
 go_cut [51] (λdv A=>dv = .bool dr/\A=W1.drew.drew)
 case first=>as_aux_lemma =>
  have hD:=aU.z;subst hD;by_cases e1:hs=true
  ·subst e1;refine zD ?_;refine zl 35 (λw'=>w'.cell? ⟨b,241,none⟩=some (.map (some SN))/\w'.cell? ⟨fb,6,none⟩=some (.int .u64 t)/\w'.cell? ⟨fb,7,none⟩=some (.int .u64 G)/\w'.cell? ⟨b,3,none⟩=some (.int .u64 R)/\w'.cell? ⟨b,242,none⟩=some (.int .u64 z)/\(∀ty,(Builtin.len_ #[124] ty #[.map (some SN)]).run prog w' = .ok (.int .i64 SL) w')) (⟨C,I,y7,c3,E,s⟩) ?_;refine GI 0 ?_;iterate 2
    refine GV rfl ?_;try simp only[PS]
   refine GI 2 ?_;iterate 7
    refine GU rfl (λ_ _ _ h=>nomatch h.1) ?_;try simp only[PS]
   refine GI 9 ?_;iterate 2
    refine GV rfl ?_;try simp only[PS]
   refine GI 11 ?_;iterate 23
    refine GU rfl (λ_ _ _ h=>nomatch h.1) ?_;try simp only[PS]
   refine GI 34 ?_;refine GV rfl ?_;try simp only[PS]
   refine zn ?_;refine⟨rfl,?_⟩;go_wp2_with fail;go_meet;exact⟨by simp,rfl⟩
  ·have e1:hs=false:=by simpa using e1
   subst e1;by_cases e2:G<R
   ·have aH:(G:Int)<R:=by omega
    refine zD ?_;refine zl 35 (λw'=>w'.cell? ⟨b,241,none⟩=some (.map (some SN))/\w'.cell? ⟨fb,6,none⟩=some (.int .u64 t)/\w'.cell? ⟨fb,7,none⟩=some (.int .u64 G)/\w'.cell? ⟨b,3,none⟩=some (.int .u64 R)/\w'.cell? ⟨b,242,none⟩=some (.int .u64 z)/\(∀ty,(Builtin.len_ #[124] ty #[.map (some SN)]).run prog w' = .ok (.int .i64 SL) w')) (⟨C,I,y7,c3,E,s⟩) ?_;refine GI 0 ?_;iterate 11
     refine GV rfl ?_;try simp only[PS]
    refine GI 11 ?_;iterate 23
     refine GU rfl (λ_ _ _ h=>nomatch h.1) ?_;try simp only[PS]
    refine GI 34 ?_;refine GV rfl ?_;try simp only[PS]
    refine zn ?_;refine⟨rfl,?_⟩;go_wp2_with fail;go_meet;exact⟨by simp[e2],rfl⟩
   ·have aH:¬(G:Int)<R:=by omega
    by_cases e3:0<SL
    ·have bi:(0:Int)<SL:=by omega
     by_cases e4:32<=z
     ·have bj:(32:Int)<=z:=by omega
      have w4:=wu ((z:Int)-32) (by omega);by_cases e5:t<=z-32
      ·have bk:(t:Int)<=(z:Int)-32:=by omega
       refine zD ?_;refine zl 35 (λw'=>w'.cell? ⟨b,241,none⟩=some (.map (some SN))/\w'.cell? ⟨fb,6,none⟩=some (.int .u64 t)/\w'.cell? ⟨fb,7,none⟩=some (.int .u64 G)/\w'.cell? ⟨b,3,none⟩=some (.int .u64 R)/\w'.cell? ⟨b,242,none⟩=some (.int .u64 z)/\(∀ty,(Builtin.len_ #[124] ty #[.map (some SN)]).run prog w' = .ok (.int .i64 SL) w')) (⟨C,I,y7,c3,E,s⟩) ?_;refine GI 0 ?_;iterate 35
        refine GV rfl ?_;try simp only[PS]
       refine zn ?_;refine⟨rfl,?_⟩;go_wp2_with fail;go_meet;exact⟨by simp[e2,e3,e4,e5],rfl⟩
      ·have bk:¬(t:Int)<=(z:Int)-32:=by omega
       refine zD ?_;refine zl 35 (λw'=>w'.cell? ⟨b,241,none⟩=some (.map (some SN))/\w'.cell? ⟨fb,6,none⟩=some (.int .u64 t)/\w'.cell? ⟨fb,7,none⟩=some (.int .u64 G)/\w'.cell? ⟨b,3,none⟩=some (.int .u64 R)/\w'.cell? ⟨b,242,none⟩=some (.int .u64 z)/\(∀ty,(Builtin.len_ #[124] ty #[.map (some SN)]).run prog w' = .ok (.int .i64 SL) w')) (⟨C,I,y7,c3,E,s⟩) ?_;refine GI 0 ?_;iterate 35
        refine GV rfl ?_;try simp only[PS]
       refine zn ?_;refine⟨rfl,?_⟩;go_wp2_with fail;go_meet;exact⟨by simp[e2,e3,e4,e5],rfl⟩
     ·have bj:¬(32:Int)<=z:=by omega
      refine zD ?_;refine zl 35 (λw'=>w'.cell? ⟨b,241,none⟩=some (.map (some SN))/\w'.cell? ⟨fb,6,none⟩=some (.int .u64 t)/\w'.cell? ⟨fb,7,none⟩=some (.int .u64 G)/\w'.cell? ⟨b,3,none⟩=some (.int .u64 R)/\w'.cell? ⟨b,242,none⟩=some (.int .u64 z)/\(∀ty,(Builtin.len_ #[124] ty #[.map (some SN)]).run prog w' = .ok (.int .i64 SL) w')) (⟨C,I,y7,c3,E,s⟩) ?_;refine GI 0 ?_;iterate 25
       refine GV rfl ?_;try simp only[PS]
      refine GI 25 ?_;iterate 8
       refine GU rfl (λ_ _ _ h=>nomatch h.1) ?_;try simp only[PS]
      refine GI 33 ?_;iterate 2
       refine GV rfl ?_;try simp only[PS]
      refine zn ?_;refine⟨rfl,?_⟩;go_wp2_with fail;go_meet;exact⟨by simp[e2,e3,e4],rfl⟩
    ·have bi:¬(0:Int)<SL:=by omega
     refine zD ?_;refine zl 35 (λw'=>w'.cell? ⟨b,241,none⟩=some (.map (some SN))/\w'.cell? ⟨fb,6,none⟩=some (.int .u64 t)/\w'.cell? ⟨fb,7,none⟩=some (.int .u64 G)/\w'.cell? ⟨b,3,none⟩=some (.int .u64 R)/\w'.cell? ⟨b,242,none⟩=some (.int .u64 z)/\(∀ty,(Builtin.len_ #[124] ty #[.map (some SN)]).run prog w' = .ok (.int .i64 SL) w')) (⟨C,I,y7,c3,E,s⟩) ?_;refine GI 0 ?_;iterate 18
      refine GV rfl ?_;try simp only[PS]
     refine GI 18 ?_;iterate 5
      refine GU rfl (λ_ _ _ h=>nomatch h.1) ?_;try simp only[PS]
     refine GI 23 ?_;iterate 2
      refine GV rfl ?_;try simp only[PS]
     refine GI 25 ?_;iterate 8
      refine GU rfl (λ_ _ _ h=>nomatch h.1) ?_;try simp only[PS]
     refine GI 33 ?_;iterate 2
      refine GV rfl ?_;try simp only[PS]
     refine zn ?_;refine⟨rfl,?_⟩;go_wp2_with fail;go_meet;exact⟨by simp[e2,e3],rfl⟩
 case rest =>
 obtain⟨rfl,hw⟩:=hcut;obtain⟨WA,aG⟩:=nn wc;subst aG;subst hw;clear s;cases dr with
 | true =>
  go_wp2_with fail
  first|go_ret|go_end0
  rw[ib HD.z];exact⟨rfl,ax.z (R0.z.mod0 (DW.refl DX W1).drew.drew)⟩
 | false =>
 have Z:hs=false:=by
  have:=aU.z;cases hs
  ·rfl
  ·simp at this
 obtain⟨v,aX⟩:=nm (max z t);have ez:(if z<t then(t:Int)else(z:Int))=(v:Int):=by split<;>omega
 have q6:v<=4611686018427387903:=by omega
 obtain⟨W2,ar⟩:=nm (W1.setCell ⟨b,242,none⟩ (.int .u64 v));have m2:DW (λq=>q=b) W1 W2:=by rw[<-ar];exact(DW.refl (λq=>q=b) W1).setCell (p:=⟨b,_,none⟩) (.inl rfl) _
 have r2:zx tag i b W1 V { c with most:=v } tag V W2:=by
  rw[<-ar];exact R0.z.store (233+9) _ (zX c { c with most:=v } V V (j:=9) _ rfl rfl rfl rfl) ⟨rfl,λ_ _=>⟨rfl,rfl,rfl⟩,λ_ _=>⟨rfl,rfl⟩,rfl,rfl,rfl,rfl⟩
 have ay:FY W2.drew.drew.drew.drew SN L0:=by
  have:=(r2.mod0 (DW.refl DX W2).drew.drew.drew.drew).c.sn;rw[B.z]at this;rw[<-aq.z];exact this
 obtain⟨W3,az,aI,m3⟩:=ay.put (x:=t) (y:=G) (by omega) (by omega) (by rw[aV.z];exact Z) (by rw[be.z];exact q5);have r3:zx tag i b W1 V { c with most:=v,seen:=L0++[(t,G)] } tag V W3:=by
  have:=(r2.mod0 (DW.refl DX W2).drew.drew.drew.drew).seen (W'':=W3) (l:=L0++[(t,G)]) (by rw[B.z];exact m3) (by rw[B.z];exact aI);exact this
 obtain⟨z0,z1,z2,z3,z4,z5,z6,z7,z8,z9⟩:=(aS.z r2).cells;rw[aE.z]at z6;rw[aW.z]at z7;have aY:W2.cell? ⟨b,241,none⟩=some (.map (some SN)):=by rw[<-B.z];exact r2.c.tl (j:=8) rfl
 have f42:=fz 242;have bm:=zb aX;have bn:=zb ar;have HU:=zb az;have R3:=zb r3;have aZ:=zb aI;have a0:=zb Z;clear r2 r3 aI az aX ar ay m2 m3 z0 z1 z2 z3 z4 z5 z8 z9 Z;go_upto_region 3 with fail;refine zD ?_;refine zl 10 (λw'=>w'.cell? ⟨b,242,none⟩=some (.int .u64 z)/\w'.frozen? ⟨b,242,none⟩=false/\w'.cell? ⟨fb,6,none⟩=some (.int .u64 t)) (⟨E,f42,I⟩) ?_;refine GI 0 ?_;iterate 10
  refine GV rfl ?_;try simp only[PS]
 refine zU rfl (λK J=>?_);go_simp;try simp only[ez]
 refine J.z _ _ ?_;clear J K;try simp only[PS]
 refine zn ?_;refine⟨rfl,?_⟩;go_upto_region 4 with fail;rw[bn.z];refine zD ?_;refine zl 8 (λw'=>w'.cell? ⟨b,241,none⟩=some (.map (some SN))/\w'.cell? ⟨fb,6,none⟩=some (.int .u64 t)/\w'.cell? ⟨fb,7,none⟩=some (.int .u64 G)) (⟨aY,z6,z7⟩) ?_;refine GI 0 ?_;iterate 8
  refine GV rfl ?_;try simp only[PS]
 refine zU rfl (λK J=>?_);have hu:=HU.z;go_simp;refine J.z _ _ ?_;clear J K;try simp only[PS]
 refine zn ?_;refine⟨rfl,?_⟩;obtain⟨L,hL⟩:=nm (L0++[(t,G)]);rw[hL]at R3 aZ;obtain⟨N,hN⟩:=nm L.length;obtain⟨D,ho,a1,aA⟩:=aZ.z;have aJ:∀p∈L,p.1<=zB:=λp hp=>by
  rw[<-hL]at hp;rcases An.1 hp with x|x
  ·exact aF.z.ids p (by rw[aq.z];exact x)
  ·have:p=(t,G):=by simpa using x
   rw[this];unfold zB;exact q2
 have a2:(L.map (·.1)).Nodup:=by
  rw[<-hL,BO,C8];refine⟨by rw[<-aq.z];exact aF.z.nd,by simp,λa ha b' bo e=>?_⟩;have bp:b'=t:=by simpa using bo
  obtain⟨p,hp,bq⟩:=BT.1 ha;have h1:=aV.z;rw[a0.z]at h1;have h2:=Ck.1 h1 p hp;simp at h2;exact h2 (by rw[bq,e,bp])
 have j0:=Gj.start (w:=W3) (b:=SN) (M:=v) aA a1 aJ;rw[hN]at ho;have bt:W3.cell? ⟨b,241,none⟩=some (.map (some SN)):=by rw[<-B.z];exact R3.z.c.tl (j:=8) rfl
 have J0:=zb j0;have a3:=zb aJ;have bu:=zb a2;have bv:=zb hL;have HNE:=zb hN;clear aA a1 aJ a2 hL hN j0 c3 C E f42 fz I y7 aY z6 z7;go_wp2_with (first|(at_range;refine wpList_range_own _ rfl _ 124 rfl 43 43 IZ underlying124 _ SN N D rfl ho ?_;intro w0 aa a4 a5)|fail);obtain⟨RB,aK⟩:=nm W3.heap.size;rw[aK]at aa a5 ⊢;have m0:DW (λq=>q=SN) W3 w0:=(DW.refl _ W3).grown a4 (λk hk=>by cases hk);have aL:=zb aK;clear ho a4 a5 aK bt
 go_frame
 go_loopw [] (λwr=>∃(left:Lit->Bool) (a6:Nat) (D:DataW Unit) (del:Nat->Bool),wr.ranges (H:=Unit) prog 43 (plainElem prog 43) SN RB N D left a6/\AA (Gj L v left D del/\DW (λq=>q=SN) W3 wr)) (λwr=>wr.rangeLeft SN RB)
 case atStart=>exact⟨_,_,D,_,aa,zb ⟨J0.z,m0⟩⟩
 case round =>
  clear aa m0 J0;obtain⟨left,a6,D1,del,ab,HJ⟩:=hrel;have a7:¬b=SN:=λe=>by
   have h1:=R3.z.c.tsn;rw[B.z,<-e,R3.z.c.tb]at h1;simp at h1
  go_wp2_with (first|(at_next;refine wpList_next_ranges_ii _ rfl _ rfl 43 43 .u64 .u64 IZ underlying43 underlying43 SN RB N _ _ _ rfl ab ?_ ?_)|fail)
  ·intro bw a8;have a9:=HJ.z.1.fin a8 ab.owns;have r5:=R3.z.seen (by rw[B.z];exact HJ.z.2) (by rw[B.z];exact a9);have bz:AA (({ ({ c with most:=v,seen:=L }:CS)with seen:=L.filter λp => !Go.Proofs.YtddfdpbaiedcjaaGreatDoor.old v p.1 }:CS)={ c with most:=v,seen:=L.filter λp => !Go.Proofs.YtddfdpbaiedcjaaGreatDoor.old v p.1 }):=zb rfl;rw[bz.z]at r5;obtain⟨ca,cc,ac,bA,bB,_⟩:=zi r5.c.cm;obtain⟨CL,ad⟩:=nm c.came.length;have q7:=aF.z.cm;rw[ad]at q7;have ac:V.cm = .slice ca CL cc:=by rw[ac];simp only[ad]
   obtain⟨DT,aM⟩:=nm f.data;obtain⟨v',W6,Dc,au,aN,ba⟩:=VG wr.drew V.cm c.came t DT (by exact r5.c.cm) (by rw[ad];exact q7);have m5:DW DX wr (wr.drew.alloc (.cells #[.int .u64 t,.string (zq DT)] 154)):=((DW.refl DX wr).drew).alloc _;have ae:(c.came++[(t,DT)]).length=c.came.length+1:=by simp
   rw[<-ae]at au;obtain⟨⟨bH,V6,r6⟩,x6,O⟩:=r5.cmApp m5 au aN ba;obtain⟨va,vc,rfl,_⟩:=zi au;rw[ae,ad]at Dc r6;rw[ac]at Dc x6;obtain⟨y0,y1,y2,y3,y4,y5,I,y7,y8,y9⟩:=(aS.z r5).cells;rw[aE.z]at I;rw[aM]at y8;have bb:wr.cell? ⟨b,243,none⟩=some (.slice ca CL cc):=by rw[<-ac];exact r5.c.tl (j:=10) rfl
   have m6:=(m5.mono (λ_ x=>x.elim)).trans ((DW.refl _ _).grown aN (λg hg=>.inl hg));have af:¬V.cm.ownBlock=some fb:=λe=>by
    have h1:=r5.c.tcm fb e;exact aT.z (EK h1 (by decide))
   have p6:=m6.cell (a:=⟨fb,6,none⟩) af I;have p8:=m6.cell (a:=⟨fb,8,none⟩) af y8;have HA:=zb Dc;have R6:=zb r6;have bC:=zb aM;have bD:=λo=>(show(wr.drew.alloc o).cell? ⟨b,243,none⟩=some (.slice ca CL cc)/\(wr.drew.alloc o).cell? ⟨fb,6,none⟩=some (.int .u64 t)/\(wr.drew.alloc o).cell? ⟨fb,8,none⟩=some (.string (zq DT))from
    have m:=((DW.refl DX wr).drew).alloc o
    ⟨m.cell (a:=⟨b,_,none⟩) id bb,m.cell (a:=⟨fb,_,none⟩) id I,m.cell (a:=⟨fb,_,none⟩) id y8⟩)
   clear ab a8 bw a9 r5 bA bB ad q7 ac au aN ba m5 ae r6 Dc aM m6 af y0 y1 y2 y3 y4 y5 y7 y9;go_upto_region 10 with fail;refine zD ?_;refine zl 14 (λw'=>w'.cell? ⟨b,243,none⟩=some (.slice ca CL cc)/\w'.cell? ⟨fb,6,none⟩=some (.int .u64 t)/\w'.cell? ⟨fb,8,none⟩=some (.string (zq DT))) (⟨bb,I,y8⟩) ?_;refine GI 0 ?_;iterate 10
    refine GV rfl ?_;try simp only[PS]
   refine zw 10 rfl (λK J=>?_);go_simp;refine J.z _ _ (bD _) ?_;clear J K;try simp only[PS]
   refine zw 11 rfl (λK J=>?_);refine zH rfl _ _ _ _ rfl _ _ _ rfl rfl HA.z ?_;refine J.z _ _ ⟨x6,p6,p8⟩ ?_;clear J K;try simp only[PS]
   refine GI 12 ?_;iterate 2
    refine GV rfl ?_;try simp only[PS]
   refine zU rfl (λK J=>?_);go_simp;refine J.z _ _ ?_;clear J K;try simp only[PS]
   refine zn ?_;refine⟨rfl,?_⟩;go_wp2_with fail
   first|go_ret|go_end0
   rw[ia HD.z,bd.z,aE.z,bm.z,aq.z,aW.z,bv.z,bC.z];exact⟨rfl,ax.z R6.z⟩
  ·intro x cv w1 bI aO hwc hlx bE F hlt aP hs1 hen;obtain⟨xn,rfl,av⟩:∃xn:Nat,x=(xn:Int)/\xn<18446744073709551616:=by
    have aO:(decide ((0:Int)<=x)&&decide (x<=18446744073709551615))=true:=aO;simp only[AZ,Af]at aO;exact⟨x.toNat,by omega,by omega⟩
   have bJ:w1.cell? ⟨b,242,none⟩=some (.int .u64 v):=by
    have h1:=HJ.z.2.cell (a:=⟨b,242,none⟩) a7 (R3.z.c.tl (j:=9) rfl);have h2:DW (λq=>q=RB) wr w1:=(DW.refl _ wr).grown aP (λk hk=>.inl (by cases hk;rfl));exact h2.cell (a:=⟨b,242,none⟩) (by
     show ¬b=RB;have h3:=zk (R3.z.c.tl (j:=9) rfl);have h4:=aL.z;omega) h1
   have bK:w1.cell? ⟨b,241,none⟩=some (.map (some SN)):=by
    have h1:=HJ.z.2.cell (a:=⟨b,241,none⟩) a7 (R3.z.c.tl (j:=8) rfl);rw[B.z]at h1;have h2:DW (λq=>q=RB) wr w1:=(DW.refl _ wr).grown aP (λk hk=>.inl (by cases hk;rfl));exact h2.cell (a:=⟨b,241,none⟩) (by
     show ¬b=RB;have h3:=zk (R3.z.c.tl (j:=9) rfl);have h4:=aL.z;omega) h1
   have mw:=HJ.z.2.then ((DW.refl (λq=>q=RB) wr).grown aP (λk hk=>.inl (by cases hk;rfl))) (λq hq=>.inr (by
    have h4:=aL.z;have:=hq;omega))
   have aw:=Maps.has_true_of_atKey bE;have MW:=zb mw;have bF:=zb aw;have aQ:=ab.left_eq;by_cases e1:32<=v
   ·have bG:(32:Int)<=v:=by omega
    have w4:=wu ((v:Int)-32) (by omega);by_cases e2:xn<=v-32
    ·have aH:(xn:Int)<=(v:Int)-32:=by omega
     have ah:AA (Go.Proofs.YtddfdpbaiedcjaaGreatDoor.old v xn=true):=zb (by unfold Go.Proofs.YtddfdpbaiedcjaaGreatDoor.old;simp[e1,e2]);clear mw aw e2 e1;go_wp2_with (first|(at_delete;refine wpList_delete_ranges _ rfl _ _ 124 43 rfl 43 IZ underlying124 _ SN RB N _ _ _ rfl F (.int .u64 xn) (.int .u64 xn) rfl (Lt av) ?_;intro w2 bL ai bM aR)|fail);rw[Maps.strike_twice]at ai
     go_frame
     go_roundw
     case rel=>exact⟨_,_,_,_,ai,zb ⟨HJ.z.1.strike av ah.z bu.z bF.z (ab.owns.tidy IZ),MW.z.trans ((DW.refl _ w1).grown aR.grown (λk hk=>.inl (by cases hk;rfl)))⟩⟩
     case measure=>rw[ai.left_eq,aQ];omega
    ·have aH:¬(xn:Int)<=(v:Int)-32:=by omega
     have ah:AA (Go.Proofs.YtddfdpbaiedcjaaGreatDoor.old v xn=false):=zb (by unfold Go.Proofs.YtddfdpbaiedcjaaGreatDoor.old;simp[e2]);clear mw aw e2 e1;go_wp2_with fail;go_roundw
     case rel=>exact⟨_,_,_,_,F,zb ⟨HJ.z.1.keep av ah.z a3.z,MW.z⟩⟩
     case measure=>rw[F.left_eq,aQ];omega
   ·have bG:¬(32:Int)<=v:=by omega
    have ah:AA (Go.Proofs.YtddfdpbaiedcjaaGreatDoor.old v xn=false):=zb (by unfold Go.Proofs.YtddfdpbaiedcjaaGreatDoor.old;simp[e1]);clear mw aw e1;go_wp2_with fail;go_roundw
    case rel=>exact⟨_,_,_,_,F,zb ⟨HJ.z.1.keep av ah.z a3.z,MW.z⟩⟩
    case measure=>rw[F.left_eq,aQ];omega
structure NP(c:CS)(f:Db):Prop where
 ack:f.kind=2->0<f.rngs.length/\f.rngs.length<=1099511627776/\c.flight.length<=1099511627776/\(¬c.next<=DY f.rngs 0->Lw { c with largest:=max c.largest (DY f.rngs 0) } f.rngs/\Jg (c.ackedTo f.rngs))
 reset:f.kind=3->∃k:Nat,k<8/\f.stream=(k:Int)
 data:f.kind=4->∃k,Ol c f k
 ms:f.kind=6->∃k:Nat,k<8/\f.stream=(k:Int)
 msg:f.kind=7->Ob c f
def Yj(h:zg tag i b c V W)(p:Do tag W)(hi:0<i)(f:Db)(q:Option Addr)(rn d:Nat)(h2:¬f.kind=2)(h3:¬f.kind=3)(h4:¬f.kind=4)(v:¬f.kind=5)(w:¬f.kind=6)(y:¬f.kind=7)(z:¬f.kind=8):Calls prog 89 #[.pointer (some ⟨b,0,none⟩),.agg (zh f (.slice q rn d))] W (EA tag i b W (.int .i64 0) c):=by
 obtain⟨W1,a⟩:=nm (W.alloc (.cells (zh f (.slice q rn d)) 65));have m1:=AB a
 have j:zj W1 W.heap.size f (.slice q rn d):=by rw[<-a];exact heap_alloc_new W _
 have h1:=h.mod0 m1;have n:=p.mod m1;have A:zx tag i b W1 V c tag V W1:=⟨h1,Dj.same n (DW.refl DX W1),DW.refl _ _,hi,⟨rfl,rfl⟩⟩;have o:AA (∀{c':CS} {tag':Nat->Nat×Nat} {V':CV} {W':World},zx tag i b W1 V c' tag' V' W'->Dn tag i b W c' W'):=zb (λr =>
  ⟨_,_,r.c,Hh p m1 r.e,(m1.mono (λ_ x=>x.elim)).then r.m.ofC (λg hg=>.inl hg)⟩)
 have s:AA (∀{c':CS} {W':World},Dn tag i b W1 c' W'->Dn tag i b W c' W'):=zb (λl=>l.from0 p hi m1);obtain⟨fb,k⟩:=nm W.heap.size;rw[k]at j;obtain⟨y0,y1,y2,y3,y4,y5,y6,y7,y8,y9⟩:=j.cells;have g2:(f.kind==2)=false:=by simpa using h2
 have g3:(f.kind==3)=false:=by simpa using h3
 have g4:(f.kind==4)=false:=by simpa using h4
 have g5:(f.kind==5)=false:=by simpa using v
 have g6:(f.kind==6)=false:=by simpa using w
 have g7:(f.kind==7)=false:=by simpa using y
 have g8:(f.kind==8)=false:=by simpa using z
 have R0:=zb A;have t:=zb a;have u:=zb k;clear h p hi m1 j h1 n A a k y1 y2 y3 y4 y5 y6 y7 y8 y9 h2 h3 h4 v w y z;go_enter func89,ntmps89;go_upto_region 1 with fail;rw[t.z,u.z];go_wp2_with fail;go_ret;exact⟨rfl,o.z R0.z⟩
def Yi(h:zg tag i b c V W)(p:Do tag W)(hi:0<i)(f:Db)(q:Option Addr)(rn d:Nat)(v:f.kind=8):Calls prog 89 #[.pointer (some ⟨b,0,none⟩),.agg (zh f (.slice q rn d))] W (EA tag i b W (.int .i64 13) c):=by
 obtain⟨W1,a⟩:=nm (W.alloc (.cells (zh f (.slice q rn d)) 65));have m1:=AB a
 have j:zj W1 W.heap.size f (.slice q rn d):=by rw[<-a];exact heap_alloc_new W _
 have h1:=h.mod0 m1;have n:=p.mod m1;have w:zx tag i b W1 V c tag V W1:=⟨h1,Dj.same n (DW.refl DX W1),DW.refl _ _,hi,⟨rfl,rfl⟩⟩;have o:AA (∀{c':CS} {tag':Nat->Nat×Nat} {V':CV} {W':World},zx tag i b W1 V c' tag' V' W'->Dn tag i b W c' W'):=zb (λr =>
  ⟨_,_,r.c,Hh p m1 r.e,(m1.mono (λ_ x=>x.elim)).then r.m.ofC (λg hg=>.inl hg)⟩)
 have s:AA (∀{c':CS} {W':World},Dn tag i b W1 c' W'->Dn tag i b W c' W'):=zb (λl=>l.from0 p hi m1);obtain⟨fb,k⟩:=nm W.heap.size;rw[k]at j;obtain⟨y0,y1,y2,y3,y4,y5,y6,y7,y8,y9⟩:=j.cells;rw[v]at y0;have R0:=zb w;have t:=zb a;have u:=zb k;clear h p hi m1 j h1 n w a k y1 y2 y3 y4 y5 y6 y7 y8 y9 v;go_enter func89,ntmps89;go_upto_region 1 with fail;rw[t.z,u.z];go_wp2_with fail;go_ret;exact⟨rfl,o.z R0.z⟩
def Yh(h:zg tag i b c V W)(v:Do tag W)(hi:0<i)(f:Db)(w:Option Addr)(rn d:Nat)(H:f.kind=5):Calls prog 89 #[.pointer (some ⟨b,0,none⟩),.agg (zh f (.slice w rn d))] W (EA tag i b W (.int .i64 0) { c with credit:=max c.credit f.lim }):=by
 obtain⟨W1,a⟩:=nm (W.alloc (.cells (zh f (.slice w rn d)) 65));have m1:=AB a
 have k:zj W1 W.heap.size f (.slice w rn d):=by rw[<-a];exact heap_alloc_new W _
 have h1:=h.mod0 m1;have s:=v.mod m1;have y:zx tag i b W1 V c tag V W1:=⟨h1,Dj.same s (DW.refl DX W1),DW.refl _ _,hi,⟨rfl,rfl⟩⟩;have t:AA (∀{c':CS} {tag':Nat->Nat×Nat} {V':CV} {W':World},zx tag i b W1 V c' tag' V' W'->Dn tag i b W c' W'):=zb (λr =>
  ⟨_,_,r.c,Hh v m1 r.e,(m1.mono (λ_ x=>x.elim)).then r.m.ofC (λg hg=>.inl hg)⟩)
 have z:AA (∀{c':CS} {W':World},Dn tag i b W1 c' W'->Dn tag i b W c' W'):=zb (λl=>l.from0 v hi m1);obtain⟨fb,n⟩:=nm W.heap.size;rw[n]at k;obtain⟨y0,y1,y2,y3,I,y5,y6,y7,y8,y9⟩:=k.cells;rw[H]at y0;have u:W1.cell? ⟨b,233,none⟩=some (.int .u64 c.credit):=h1.tl (j:=0) rfl;have A:=h1.fz 233;obtain⟨B,o⟩:=nm (max c.credit f.lim);have J:=y.store (233+0) (.int .u64 B) (zX c { c with credit:=B } V V (j:=0) _ rfl rfl rfl rfl) ⟨rfl,λ_ _=>⟨rfl,rfl,rfl⟩,λ_ _=>⟨rfl,rfl⟩,rfl,rfl,rfl,rfl⟩;rw[o];obtain⟨C,p⟩:=nm c.credit;obtain⟨D,q⟩:=nm f.lim;rw[p,q]at o;rw[p]at u;rw[q]at I;have ez:(if C<D then(D:Int)else(C:Int))=(B:Int):=by split<;>omega
 have HS:=zb J;have R0:=zb y;have E:=zb a;have F:=zb n;clear h v hi m1 k h1 s y a n y1 y2 y3 y5 y6 y7 y8 y9 H J o p q;go_enter func89,ntmps89;go_upto_region 1 with fail;rw[E.z,F.z];go_upto_region 14 with fail;refine zD ?_;refine zl 10 (λw'=>w'.cell? ⟨b,233,none⟩=some (.int .u64 C)/\w'.frozen? ⟨b,233,none⟩=false/\w'.cell? ⟨fb,4,none⟩=some (.int .u64 D)) (⟨u,A,I⟩) ?_;refine GI 0 ?_;iterate 10
  refine GV rfl ?_;try simp only[PS]
 refine zU rfl (λK L=>?_);go_simp;try simp only[ez]
 refine L.z _ _ ?_;clear L K;try simp only[PS]
 refine zn ?_;refine⟨rfl,?_⟩;go_wp2_with fail;go_ret;exact⟨rfl,t.z (HS.z.mod0 (DW.refl DX _).drew)⟩
def Yg(h:zg tag i b c V W)(B:Do tag W)(hi:0<i)(f:Db)(C:Option Addr)(rn d:Nat)(N:f.kind=6)(k:Nat)(hk:k<8)(u:f.stream=(k:Int)):Calls prog 89 #[.pointer (some ⟨b,0,none⟩),.agg (zh f (.slice C rn d))] W (EA tag i b W (.int .i64 0) { c with ws:=upd c.ws k { c.ws k with credit:=max (c.ws k).credit f.lim } }):=by
 obtain⟨W1,a⟩:=nm (W.alloc (.cells (zh f (.slice C rn d)) 65));have m1:=AB a
 have n:zj W1 W.heap.size f (.slice C rn d):=by rw[<-a];exact heap_alloc_new W _
 have h1:=h.mod0 m1;have v:=B.mod m1;have D:zx tag i b W1 V c tag V W1:=⟨h1,Dj.same v (DW.refl DX W1),DW.refl _ _,hi,⟨rfl,rfl⟩⟩;have y:AA (∀{c':CS} {tag':Nat->Nat×Nat} {V':CV} {W':World},zx tag i b W1 V c' tag' V' W'->Dn tag i b W c' W'):=zb (λr =>
  ⟨_,_,r.c,Hh B m1 r.e,(m1.mono (λ_ x=>x.elim)).then r.m.ofC (λg hg=>.inl hg)⟩)
 have E:AA (∀{c':CS} {W':World},Dn tag i b W1 c' W'->Dn tag i b W c' W'):=zb (λl=>l.from0 B hi m1);obtain⟨fb,o⟩:=nm W.heap.size;rw[o]at n;obtain⟨y0,O,y2,y3,P,y5,y6,y7,y8,y9⟩:=n.cells;rw[N]at y0;rw[u]at O;have z:W1.cell? ⟨b,9+k*15+14,none⟩=some (.int .u64 ((c.ws k).credit:Int)):=by rw[AK k 15];exact h1.w (j:=14) hk rfl
 have F:=h1.fz (9+k*15+14);obtain⟨G,p⟩:=nm (max (c.ws k).credit f.lim);have A:({ c with ws:=upd c.ws k (c.ws k) }:CS)=c:=by rw[Fj]
 have H:=(D.same A.symm).storeW hk 14 (by decide) (.int .u64 G) { c.ws k with credit:=G } rfl rfl rfl rfl;rw[AK 15 k]at H;rw[p];obtain⟨I,q⟩:=nm ((c.ws k).credit);obtain⟨J,s⟩:=nm f.lim;rw[q,s]at p;rw[q]at z;rw[s]at P;have ez:(if I<J then(J:Int)else(I:Int))=(G:Int):=by split<;>omega
 have dk0:(0:Int)<=k:=by omega
 have dk8:(k:Int)<8:=by omega
 have HS:=zb H;have R0:=zb D;have L:=zb a;have M:=zb o;clear h B hi m1 n h1 v D a o y2 y3 y5 y6 y7 y8 y9 N H p q s u A;go_enter func89,ntmps89;go_upto_region 1 with fail;rw[L.z,M.z];go_upto_region 16 with fail;refine zD ?_;refine zl 7 (λw'=>w'.cell? ⟨fb,1,none⟩=some (.int .i64 k)) (O) ?_;refine GI 0 ?_;iterate 7
  refine GV rfl ?_;try simp only[PS]
 refine zn ?_;refine⟨rfl,?_⟩;go_upto_region 17 with fail;refine zD ?_;refine zl 10 (λw'=>w'.cell? ⟨b,9+k*15+14,none⟩=some (.int .u64 I)/\w'.frozen? ⟨b,9+k*15+14,none⟩=false/\w'.cell? ⟨fb,4,none⟩=some (.int .u64 J)) (⟨z,F,P⟩) ?_;refine GI 0 ?_;iterate 10
  refine GV rfl ?_;try simp only[PS]
 refine zU rfl (λK Q=>?_);go_simp;try simp only[ez]
 refine Q.z _ _ ?_;clear Q K;try simp only[PS]
 refine zn ?_;refine⟨rfl,?_⟩;go_wp2_with fail;go_ret;exact⟨rfl,y.z (HS.z.mod0 (DW.refl DX _).drew.drew)⟩
def Yf(h:zg tag i b c V W)(u:Do tag W)(hi:0<i)(f:Db)(k:Option Addr)(rn a:Nat)(h2:f.kind=2)(v:rn=f.rngs.length)(w:RR W (.slice k rn a) f.rngs)(n:∀g,Value.blk (.slice k rn a)=some g->(tag g).1≠i)(ok:NP c f):Calls prog 89 #[.pointer (some ⟨b,0,none⟩),.agg (zh f (.slice k rn a))] W (EA tag i b W (.int .i64 ((c.acked f.rngs).1:Int)) (c.acked f.rngs).2):=by
 obtain⟨W1,d⟩:=nm (W.alloc (.cells (zh f (.slice k rn a)) 65));have m1:=AB d
 have o:zj W1 W.heap.size f (.slice k rn a):=by rw[<-d];exact heap_alloc_new W _
 have h1:=h.mod0 m1;have j:=u.mod m1;have D:zx tag i b W1 V c tag V W1:=⟨h1,Dj.same j (DW.refl DX W1),DW.refl _ _,hi,⟨rfl,rfl⟩⟩;have E:AA (∀{c':CS} {tag':Nat->Nat×Nat} {V':CV} {W':World},zx tag i b W1 V c' tag' V' W'->Dn tag i b W c' W'):=zb (λr =>
  ⟨_,_,r.c,Hh u m1 r.e,(m1.mono (λ_ x=>x.elim)).then r.m.ofC (λg hg=>.inl hg)⟩)
 have p:AA (∀{c':CS} {W':World},Dn tag i b W1 c' W'->Dn tag i b W c' W'):=zb (λl=>l.from0 u hi m1);obtain⟨fb,q⟩:=nm W.heap.size;rw[q]at o;obtain⟨y0,y1,y2,y3,y4,y5,y6,y7,y8,y9⟩:=o.cells;subst v;obtain⟨o1,y,F,z⟩:=ok.ack h2;have A:Calls prog 158 #[.pointer (some ⟨b,0,none⟩),.slice k f.rngs.length a] W1 (EA tag i b W1 (.int .i64 ((c.acked f.rngs).1:Int)) (c.acked f.rngs).2):=by
  by_cases s:c.next<=DY f.rngs 0
  ·have e:c.acked f.rngs=(11,c):=by unfold CS.acked;rw[AN s]
   rw[e];exact ee h1 j hi f.rngs k a (w.mod m1 (Dl.no _)) n o1 y s
  ·rw[ME c f.rngs s];exact eY h1 j hi f.rngs k a (w.mod m1 (Dl.no _)) n o1 y s F (z s).1 (z s).2
 rw[h2]at y0;obtain⟨RL,t⟩:=nm f.rngs.length;rw[t]at A y9 d ⊢;have KA:=zb A;have R0:=zb D;have B:=zb d;have C:=zb q;clear h u hi m1 o h1 j D d q y1 y2 y3 y4 y5 y6 y7 y8 h2 w n ok A o1 y F z t;go_enter func89,ntmps89;go_upto_region 1 with fail;rw[B.z,C.z];go_upto_region 3 with fail;go_wp2_with fail;refine(KA.z).mono ?_;rintro e W6 ⟨rfl,G⟩;have L6:=zb G;clear G;go_wp2_with fail;go_ret;exact⟨rfl,p.z L6.z⟩
def Ye(h:zg tag i b c V W)(q:Do tag W)(hi:0<i)(f:Db)(s:Option Addr)(rn a:Nat)(hk:f.kind=4)(k:Nat)(ok:Ol c f k):Calls prog 89 #[.pointer (some ⟨b,0,none⟩),.agg (zh f (.slice s rn a))] W (EA tag i b W (.int .i64 ((c.data f).1:Int)) (c.data f).2):=by
 obtain⟨W1,d⟩:=nm (W.alloc (.cells (zh f (.slice s rn a)) 65));have m1:=AB d
 have j:zj W1 W.heap.size f (.slice s rn a):=by rw[<-d];exact heap_alloc_new W _
 have h1:=h.mod0 m1;have n:=q.mod m1;have w:zx tag i b W1 V c tag V W1:=⟨h1,Dj.same n (DW.refl DX W1),DW.refl _ _,hi,⟨rfl,rfl⟩⟩;have y:AA (∀{c':CS} {tag':Nat->Nat×Nat} {V':CV} {W':World},zx tag i b W1 V c' tag' V' W'->Dn tag i b W c' W'):=zb (λr =>
  ⟨_,_,r.c,Hh q m1 r.e,(m1.mono (λ_ x=>x.elim)).then r.m.ofC (λg hg=>.inl hg)⟩)
 have o:AA (∀{c':CS} {W':World},Dn tag i b W1 c' W'->Dn tag i b W c' W'):=zb (λl=>l.from0 q hi m1);obtain⟨fb,p⟩:=nm W.heap.size;rw[p]at j;obtain⟨y0,y1,y2,y3,y4,y5,y6,y7,y8,y9⟩:=j.cells;have t:=Yl h1 n hi f (.slice s rn a) k ok ⟨_,_,_,rfl⟩;rw[hk]at y0;unfold zh at t;rw[hk]at t;have KA:=zb t;have R0:=zb w;have u:=zb d;have v:=zb p;clear h q hi m1 j h1 n w d p t ok;have HK:=zb hk;clear hk;go_enter func89,ntmps89;go_upto_region 1 with fail;rw[u.z,v.z];go_upto_region 12 with fail;go_wp2_with fail;refine(KA.z).mono ?_;rintro e W6 ⟨rfl,z⟩;have L6:=zb z;clear z;go_wp2_with fail;go_ret;exact⟨rfl,o.z L6.z⟩
def Yd(h:zg tag i b c V W)(p:Do tag W)(hi:0<i)(f:Db)(q:Option Addr)(rn a:Nat)(hk:f.kind=7)(ok:Ob c f):Calls prog 89 #[.pointer (some ⟨b,0,none⟩),.agg (zh f (.slice q rn a))] W (EA tag i b W (.int .i64 0) (c.message f)):=by
 obtain⟨W1,d⟩:=nm (W.alloc (.cells (zh f (.slice q rn a)) 65));have m1:=AB d
 have j:zj W1 W.heap.size f (.slice q rn a):=by rw[<-d];exact heap_alloc_new W _
 have h1:=h.mod0 m1;have k:=p.mod m1;have v:zx tag i b W1 V c tag V W1:=⟨h1,Dj.same k (DW.refl DX W1),DW.refl _ _,hi,⟨rfl,rfl⟩⟩;have w:AA (∀{c':CS} {tag':Nat->Nat×Nat} {V':CV} {W':World},zx tag i b W1 V c' tag' V' W'->Dn tag i b W c' W'):=zb (λr =>
  ⟨_,_,r.c,Hh p m1 r.e,(m1.mono (λ_ x=>x.elim)).then r.m.ofC (λg hg=>.inl hg)⟩)
 have n:AA (∀{c':CS} {W':World},Dn tag i b W1 c' W'->Dn tag i b W c' W'):=zb (λl=>l.from0 p hi m1);obtain⟨fb,o⟩:=nm W.heap.size;rw[o]at j;obtain⟨y0,y1,y2,y3,y4,y5,y6,y7,y8,y9⟩:=j.cells;have s:=iZ h1 k hi f (.slice q rn a) ok ⟨_,_,_,rfl⟩;rw[hk]at y0;unfold zh at s;rw[hk]at s;have KA:=zb s;have R0:=zb v;have t:=zb d;have u:=zb o;clear h p hi m1 j h1 k v d o s ok;have HK:=zb hk;clear hk;go_enter func89,ntmps89;go_upto_region 1 with fail;rw[t.z,u.z];go_upto_region 19 with fail;go_wp2_with fail;refine(KA.z).mono ?_;rintro e W6 ⟨rfl,y⟩;have L6:=zb y;clear y;go_wp2_with fail;go_ret;exact⟨rfl,n.z L6.z⟩
theorem Yc(h:zg tag i b c V W)(U:Do tag W)(hi:0<i)(f:Db)(ra:Option Addr)(rn w:Nat)(h3:f.kind=3)(k:Nat)(hk:k<8)(F:f.stream=(k:Int)):Calls prog 89 #[.pointer (some ⟨b,0,none⟩),.agg (zh f (.slice ra rn w))] W (EA tag i b W (.int .i64 ((c.resetAt f).1:Int)) (c.resetAt f).2):=by
 obtain⟨W1,y⟩:=nm (W.alloc (.cells (zh f (.slice ra rn w)) 65));have m1:=AB y
 have z:zj W1 W.heap.size f (.slice ra rn w):=by rw[<-y];exact heap_alloc_new W _
 have h1:=h.mod0 m1;have X:=U.mod m1;have r0:zx tag i b W1 V c tag V W1:=⟨h1,Dj.same X (DW.refl DX W1),DW.refl _ _,hi,⟨rfl,rfl⟩⟩;have C:AA (∀{c':CS} {tag':Nat->Nat×Nat} {V':CV} {W':World},zx tag i b W1 V c' tag' V' W'->Dn tag i b W c' W'):=zb (λr =>
  ⟨_,_,r.c,Hh U m1 r.e,(m1.mono (λ_ x=>x.elim)).then r.m.ofC (λg hg=>.inl hg)⟩)
 have ad:AA (∀{c':CS} {W':World},Dn tag i b W1 c' W'->Dn tag i b W c' W'):=zb (λl=>l.from0 U hi m1);obtain⟨fb,A⟩:=nm W.heap.size;rw[A]at z;obtain⟨y0,y1,G,y3,y4,y5,y6,y7,y8,y9⟩:=z.cells;rw[h3]at y0;rw[F]at y1;have H:AA (∀{c':CS} {tag':Nat->Nat×Nat} {V':CV} {W':World},zx tag i b W1 V c' tag' V' W'->zj W' fb f (.slice ra rn w)):=zb (λr=>z.mod r.m (λx=>by
  have h1:=x.1;rw[<-A,U _ (AG _)]at h1;simp at h1;omega))
 obtain⟨x,D⟩:=nm (c.rs k);obtain⟨en,I⟩:=nm x.ended;obtain⟨cu,J⟩:=nm x.cut;obtain⟨t,L⟩:=nm x.fin;obtain⟨S,M⟩:=nm x.high;obtain⟨u,B⟩:=nm x.keep;obtain⟨n,p⟩:=nm f.off;obtain⟨RL,N⟩:=nm f.rel;have r4:W1.cell? ⟨b,129+k*13+4,none⟩=some (.int .u64 S):=by rw[<-M,<-D,AK k 13];exact h1.r (j:=4) hk rfl
 have r5:W1.cell? ⟨b,129+k*13+5,none⟩=some (.int .u64 t):=by rw[<-L,<-D,AK k 13];exact h1.r (j:=5) hk rfl
 have r6:W1.cell? ⟨b,129+k*13+6,none⟩=some (.bool en):=by rw[<-I,<-D,AK k 13];exact h1.r (j:=6) hk rfl
 have r7:W1.cell? ⟨b,129+k*13+7,none⟩=some (.bool cu):=by rw[<-J,<-D,AK k 13];exact h1.r (j:=7) hk rfl
 have r8:W1.cell? ⟨b,129+k*13+8,none⟩=some (.int .u64 u):=by rw[<-B,<-D,AK k 13];exact h1.r (j:=8) hk rfl
 have fz:=h1.fz;rw[p]at G;rw[N]at y3;have Y:c={ c with rs:=upd c.rs k x }:=by rw[<-D,Fj]
 have RX:=zb (r0.same Y);have q:AA (c.resetAt f=if (en&&t != n)||decide (n<S)then(10,c)else(0,{ c with rs:=upd c.rs k (x.resetAt f) })):=zb (by
  unfold CS.resetAt;rw[F];simp only[Ao,D,I,L,p,M])
 have Z:AA (x.resetAt f={ x with keep:=if !cu||decide (RL<u)then RL else u,cut:=true,ended:=true,fin:=n }):=zb (by
  unfold RS.resetAt;rw[J,N,B,p])
 have ae:=zb B;have O:=zb p;have dk0:(0:Int)<=k:=by omega
 have dk8:(k:Int)<8:=by omega
 have R0:=zb r0;have af:=zb y;have ah:=zb A;obtain⟨bad,s⟩:=nm (((en&&t != n)||decide (n<S)));rw[s]at q;have aa:=zb s;obtain⟨T,P⟩:=nm ((!cu||decide (RL<u)));rw[P]at Z;have ai:=zb P;clear h U hi m1 z h1 X r0 y A y4 y5 y6 y7 y8 y9 h3 F D I J L M B p N Y s P;go_enter func89,ntmps89;go_upto_region 1 with fail;rw[af.z,ah.z];go_upto_region 5 with fail;refine zD ?_;refine zl 7 (λw'=>w'.cell? ⟨fb,1,none⟩=some (.int .i64 k)) (y1) ?_;refine GI 0 ?_;iterate 7
  refine GV rfl ?_;try simp only[PS]
 refine zn ?_;refine⟨rfl,?_⟩;go_upto_region 6 with fail
 go_cut [44] (λbv d=>bv = .bool bad/\d=W1.drew.drew)
 case first=>as_aux_lemma =>
  have hB:=aa.z;subst hB;cases en
  ·refine zD ?_;refine zl 22 (λw'=>w'.cell? ⟨b,129+k*13+6,none⟩=some (.bool false)/\w'.cell? ⟨b,129+k*13+5,none⟩=some (.int .u64 t)/\w'.cell? ⟨b,129+k*13+4,none⟩=some (.int .u64 S)/\w'.cell? ⟨fb,2,none⟩=some (.int .u64 n)) (⟨r6,r5,r4,G⟩) ?_;refine GI 0 ?_;iterate 5
    refine GV rfl ?_;try simp only[PS]
   refine GI 5 ?_;iterate 7
    refine GU rfl (λ_ _ _ h=>nomatch h.1) ?_;try simp only[PS]
   refine GI 12 ?_;iterate 10
    refine GV rfl ?_;try simp only[PS]
   refine zn ?_;refine⟨rfl,?_⟩;go_wp2_with fail;go_meet;exact⟨by simp,rfl⟩
  ·by_cases e1:t=n
   ·subst e1;refine zD ?_;refine zl 22 (λw'=>w'.cell? ⟨b,129+k*13+6,none⟩=some (.bool true)/\w'.cell? ⟨b,129+k*13+5,none⟩=some (.int .u64 t)/\w'.cell? ⟨b,129+k*13+4,none⟩=some (.int .u64 S)/\w'.cell? ⟨fb,2,none⟩=some (.int .u64 t)) (⟨r6,r5,r4,G⟩) ?_;refine GI 0 ?_;iterate 22
     refine GV rfl ?_;try simp only[PS]
    refine zn ?_;refine⟨rfl,?_⟩;go_wp2_with fail;go_meet;exact⟨by simp,rfl⟩
   ·have aj:((t:Int)==(n:Int))=false:=by rw[LO];simpa using e1
    have e1d:((t:Int) != (n:Int))=true:=by simp only[bne,aj];rfl
    have E1:=zb e1;clear e1;refine zD ?_;refine zl 22 (λw'=>w'.cell? ⟨b,129+k*13+6,none⟩=some (.bool true)/\w'.cell? ⟨b,129+k*13+5,none⟩=some (.int .u64 t)/\w'.cell? ⟨b,129+k*13+4,none⟩=some (.int .u64 S)/\w'.cell? ⟨fb,2,none⟩=some (.int .u64 n)) (⟨r6,r5,r4,G⟩) ?_;refine GI 0 ?_;iterate 14
     refine GV rfl ?_;try simp only[PS]
    refine GI 14 ?_;iterate 7
     refine GU rfl (λ_ _ _ h=>nomatch h.1) ?_;try simp only[PS]
    refine GI 21 ?_;refine GV rfl ?_;try simp only[PS]
    refine zn ?_;refine⟨rfl,?_⟩;go_wp2_with fail;go_meet;exact⟨by simp[E1.z],rfl⟩
 case rest =>
 obtain⟨rfl,hw⟩:=hcut;obtain⟨WA,Q⟩:=nn wc;subst Q;subst hw;clear r4 r5 r6;cases bad with
 | true =>
  have o:=q.z;simp only[A5]at o;have R:=zb o;clear o;go_wp2_with fail;go_ret;rw[R.z];exact⟨rfl,C.z (R0.z.mod0 (DW.refl DX W1).drew.drew)⟩
 | false =>
 have o:=q.z;simp only[BQ,BY]at o;have R:=zb o;clear o;go_upto_region 8 with fail
 go_cut [58] (λbv d=>bv = .bool T/\d=W1.drew.drew.drew)
 case first=>as_aux_lemma =>
  have hB:=ai.z;subst hB;cases cu
  ·refine zD ?_;refine zl 14 (λw'=>w'.cell? ⟨b,129+k*13+7,none⟩=some (.bool false)/\w'.cell? ⟨b,129+k*13+8,none⟩=some (.int .u64 u)/\w'.cell? ⟨fb,3,none⟩=some (.int .u64 RL)) (⟨r7,r8,y3⟩) ?_;refine GI 0 ?_;iterate 6
    refine GV rfl ?_;try simp only[PS]
   refine GI 6 ?_;iterate 7
    refine GU rfl (λ_ _ _ h=>nomatch h.1) ?_;try simp only[PS]
   refine GI 13 ?_;refine GV rfl ?_;try simp only[PS]
   refine zn ?_;refine⟨rfl,?_⟩;go_wp2_with fail;go_meet;exact⟨by simp,rfl⟩
  ·refine zD ?_;refine zl 14 (λw'=>w'.cell? ⟨b,129+k*13+7,none⟩=some (.bool true)/\w'.cell? ⟨b,129+k*13+8,none⟩=some (.int .u64 u)/\w'.cell? ⟨fb,3,none⟩=some (.int .u64 RL)) (⟨r7,r8,y3⟩) ?_;refine GI 0 ?_;iterate 14
    refine GV rfl ?_;try simp only[PS]
   refine zn ?_;refine⟨rfl,?_⟩;go_wp2_with fail;go_meet;exact⟨by simp,rfl⟩
 case rest =>
 obtain⟨rfl,hw⟩:=hcut;obtain⟨WA,Q⟩:=nn wc;subst Q;subst hw;have rk:=(RX.z.mod0 (DW.refl DX W1).drew.drew.drew).storeR hk 8 (by decide) (.int .u64 RL) { x with keep:=RL } (by rfl) rfl rfl;rw[AK 13 k]at rk;have f8:=fz (129+k*13+8);have RK:=zb rk;clear rk;go_upto_if 58 with fail
 go_cut [] (λd=>AA (zx tag i b W1 V { c with rs:=upd c.rs k { x with keep:=if T then RL else u } } tag V d))
 case first=>as_aux_lemma =>
  cases T
  ·go_wp2_with fail;go_meet;exact zb ((RX.z.mod0 (DW.refl DX W1).drew.drew.drew).same (by rw[<-ae.z];simp))
  ·go_wp2_with fail;go_meet;exact zb (RK.z.same (by simp))
 case rest =>
 obtain⟨WB,ak⟩:=nn wc;subst ak;have RB:=hcut;clear hcut RK y1 G y3 r7 r8 f8 fz;have G:WB.cell? ⟨fb,2,none⟩=some (.int .u64 n):=by rw[<-O.z];exact(H.z RB.z).cells.2.2.1
 have fzb:=RB.z.c.fz;obtain⟨u7,c7⟩:∃v,WB.cell? ⟨b,129+k*13+7,none⟩=some v:=⟨_,by rw[AK k 13];exact RB.z.c.r (j:=7) hk rfl⟩;have r1:=RB.z.storeR hk 7 (by decide) (.bool true) { x with keep:=if T then RL else u,cut:=true } (by rfl) rfl rfl;have r2:=r1.storeR hk 6 (by decide) (.bool true) { x with keep:=if T then RL else u,cut:=true,ended:=true } (by rfl) rfl rfl;have r3:=r2.storeR hk 5 (by decide) (.int .u64 n) { x with keep:=if T then RL else u,cut:=true,ended:=true,fin:=n } (by rfl) rfl rfl;have ab:(WB.setCell ⟨b,129+13*k+7,none⟩ (.bool true)).cell? ⟨fb,2,none⟩=some (.int .u64 n):=by rw[<-O.z];exact(H.z r1).cells.2.2.1
 have ac:((WB.setCell ⟨b,129+13*k+7,none⟩ (.bool true)).setCell ⟨b,129+13*k+6,none⟩ (.bool true)).cell? ⟨fb,2,none⟩=some (.int .u64 n):=by rw[<-O.z];exact(H.z r2).cells.2.2.1
 have al:=r1.c.fz;have am:=r2.c.fz;obtain⟨u6,c6⟩:∃v,(WB.setCell ⟨b,129+13*k+7,none⟩ (.bool true)).cell? ⟨b,129+k*13+6,none⟩=some v:=⟨_,by rw[AK k 13];exact r1.c.r (j:=6) hk rfl⟩;obtain⟨u5,c5⟩:∃v,((WB.setCell ⟨b,129+13*k+7,none⟩ (.bool true)).setCell ⟨b,129+13*k+6,none⟩ (.bool true)).cell? ⟨b,129+k*13+5,none⟩=some v:=⟨_,by rw[AK k 13];exact r2.c.r (j:=5) hk rfl⟩;rw[AK 13 k]at r3 ab ac al am c6 c5;have R3:=zb (r3.same (c':={ c with rs:=upd c.rs k (x.resetAt f) }) (by rw[Z.z]));clear r1 r2 r3;go_upto_region 10 with fail;refine zD ?_;refine zl 13 (λw'=>w'.cell? ⟨fb,2,none⟩=some (.int .u64 n)) (G) ?_;refine GI 0 ?_;iterate 7
  refine GV rfl ?_;try simp only[PS]
 refine zw 7 rfl (λK E=>?_);go_simp;go_simp;refine E.z _ _ ab ?_;clear E K;try simp only[PS]
 refine GI 8 ?_;iterate 2
  refine GV rfl ?_;try simp only[PS]
 refine zw 10 rfl (λK E=>?_);go_simp;go_simp;refine E.z _ _ ac ?_;clear E K;try simp only[PS]
 refine GI 11 ?_;iterate 2
  refine GV rfl ?_;try simp only[PS]
 refine zU rfl (λK E=>?_);go_simp;refine E.z _ _ ?_;clear E K;try simp only[PS]
 refine zn ?_;refine⟨rfl,?_⟩;go_wp2_with fail;go_ret;rw[R.z];exact⟨rfl,C.z (R3.z.mod0 (DW.refl DX _).drew)⟩
def Y2(h:zg tag i b c V W)(j:Do tag W)(hi:0<i)(f:Db)(r:Value)(t:RR W r f.rngs)(s:∀g,Value.blk r=some g->(tag g).1≠i)(ok:NP c f):Calls prog 89 #[.pointer (some ⟨b,0,none⟩),.agg (zh f r)] W (EA tag i b W (.int .i64 ((c.take f).1:Int)) (c.take f).2):=by
 obtain⟨l,a,e,_,_,_⟩:=id t;subst e;unfold CS.take;by_cases h2:f.kind=2
 ·rw[AN h2];exact Yf h j hi f l _ a h2 rfl t s ok
 rw[AH h2];by_cases h3:f.kind=3
 ·rw[AN h3];obtain⟨k,hk,d⟩:=ok.reset h3;exact Yc h j hi f l _ a h3 k hk d
 rw[AH h3];by_cases h4:f.kind=4
 ·rw[AN h4];obtain⟨k,o⟩:=ok.data h4;exact Ye h j hi f l _ a h4 k o
 rw[AH h4];by_cases p:f.kind=5
 ·rw[AN p];exact Yh h j hi f l _ a p
 rw[AH p];by_cases m:f.kind=6
 ·rw[AN m];obtain⟨k,hk,d⟩:=ok.ms m;have:=Yg h j hi f l f.rngs.length a m k hk d;rw[d];exact this
 rw[AH m];by_cases n:f.kind=7
 ·rw[AN n];exact Yd h j hi f l _ a n (ok.msg n)
 rw[AH n];by_cases q:f.kind=8
 ·rw[AN q];exact Yi h j hi f l _ a q
 rw[AH q];exact Yj h j hi f l _ a h2 h3 h4 p m n q
def Jc(w0 w:World)(ev:Value)(n:Nat)(at_:Int):Prop :=
 (at_ = -1/\ev=EC n)\/∃fa,ev = .iface 162 (.pointer (some ⟨fa,0,none⟩))/\w.heap[fa]?=some (.cells #[.int .i64 n,.int .i64 at_] 167 (0,0))/\w0.heap.size<=fa
def MC(tag:Nat->Nat×Nat)(i b:Nat)(W:World)(n:Nat)(at_:Int)(c':CS)(e:Ending)(W':World):Prop :=
 ∃ev,e = .returned ev/\Jc W W' ev n at_/\Dn tag i b W c' W'
def Lv:List Db->CS->Prop
 | [],_=>True
 | f::fs,c=>NP c f/\((c.take f).1=0->Lv fs { (c.take f).2 with answer:=(c.take f).2.answer||f.kind != 2 })
def VD(h:zg tag i b c V W)(ht:Do tag W)(hi:0<i)(m:c.got.Ok)(lo a:Nat)(n:a<=zB){e:Ending}(ha:Oc c.got V.g 0 lo a V.gv W e W'):e = .returned (.tuple #[])/\Dn tag i b W { c with got:=c.got.add lo a } W':=by
 obtain⟨v',rfl,h1,h2,h3,h4⟩:=ha;refine⟨rfl,?_⟩;have p:∀{g r:Nat},tag g=(i,r)->g<W.heap.size:=λhg=>EQ ht hg hi
 have q:∀g,(g=V.g\/V.gv.ownBlock=some g)->∃r,(r=2\/r=3)/\tag g=(i,r):=λg hg=>by
  rcases hg with hg|hg
  ·exact⟨2,.inl rfl,by rw[hg];exact h.tg⟩
  ·exact⟨3,.inr rfl,h.tgv g hg⟩
 have d:∀g,(tag g).1=i->retag tag W W' (i,3) g=tag g:=λg hg=>zz (p (r:=(tag g).2) (by rw[<-hg]))
 have hb:¬(b=V.g\/V.gv.ownBlock=some b):=λx=>by
  obtain⟨r,hr,e⟩:=q b x;rw[h.tb]at e;have:=A0 Prod.snd e;simp at this;omega
 refine⟨retag tag W W' (i,3),{ V with gv:=v' },h.build (R:=λr=>r=2\/r=3) h3 q d (h3.obj hb h.obj) (.inr ⟨?_,?_,λg hg=>?_⟩) (λk hk=>.inl ⟨rfl,rfl,by omega⟩) (λk hk=>.inl ⟨rfl,rfl,by omega⟩) (λk hk=>.inl ⟨rfl,rfl,by omega⟩) (λk hk=>.inl ⟨rfl,rfl,by omega⟩) (λk hk=>.inl ⟨rfl,rfl,by omega⟩) (.inl ⟨rfl,rfl,rfl,by omega,by omega⟩) (.inl ⟨rfl,rfl,by omega⟩) (.inl ⟨rfl,rfl,by omega⟩) (.inl ⟨rfl,rfl,by omega⟩),Ib h3.size,h3.mono (λg hg=>.inl ?_)⟩
 ·have hm:(c.got.add lo a).most=c.got.most:=G8 _ _ _;obtain⟨cs,T,l,hc⟩:∃cs T l,W.heap[V.g]?=some (.cells cs T l):=by
   have:=h.got.cl;unfold World.cell? at this;split at this
   ·rename_i o ho;exact⟨_,_,_,ho⟩
   ·cases this
  have f:W'.heap[V.g]?=some (.cells ((cs.setIfInBounds 0 v').setIfInBounds (0+1) (.int .u64 ((c.got.add lo a).fl:Int))) T l):=by
   rw[h2,zc (zc hc)]
  have hsz:2<cs.size:=by
   have:=h.got.cm;unfold World.cell? at this;simp only[hc]at this;exact(AI.1 (by simpa using this)).1
  refine⟨za f (by rw[Cm (by omega),DM (by omega)]),za f (by rw[DM (by simp;omega)]),?_,h1,?_,λj=>?_⟩
  ·refine za f ?_;have:=h.got.cm;unfold World.cell? at this;simp only[hc]at this;simp[BK];rw[hm];simpa using this
  ·have hk:=m.add lo n;have:=hk.rl;have:=hk.most.2;show(c.got.add lo a).rs.length<=_;omega
  ·have:=h.got.fz j;unfold World.frozen? at this ⊢;simp only[hc]at this;simp only[f];exact this
 ·rw[d _ (by rw[h.tg]),h.tg]
 ·rcases h4 g hg with y|y
  ·rw[d _ (by rw[h.tgv g y]),h.tgv g y]
  ·exact Fr y (zF h1 g hg)
 ·obtain⟨r,_,e⟩:=q g hg;rw[e]
variable{m:Nat}{rs:zC}
def Kb{fl n:Nat}(hw:WF rs)(h:Eo rs.length (JU rs n) m):(decide (n<fl)||decide (m<rs.length)&&decide (Da rs m<=n))=Gf rs fl n:=by
 unfold Gf
 congr 1
 rw[DK,<-Bool.decide_and,Af,VP hw h,B7];constructor
 ·rintro⟨i,hi,h1,h2⟩;refine⟨rs[i],DH hi,?_⟩;have e:rs.getD i (0,0)=rs[i]:=by simp[List.getD,hi]
  unfold Da at h1;unfold DY at h2;rw[e]at h1 h2;simp[h1,h2]
 ·rintro⟨r,hr,h1⟩;obtain⟨i,hi,rfl⟩:=Ct.1 hr;have e:rs.getD i (0,0)=rs[i]:=by simp[List.getD,hi]
  simp only[AZ,Af]at h1;refine⟨i,hi,?_,?_⟩
  ·unfold Da;rw[e];exact h1.1
  ·unfold DY;rw[e];exact h1.2
def VC(s:Dh)(b o n:Nat)(v:Value)(w:World)(h:ET w b o v s.rs s.fl s.most)(hw:WF s.rs):Calls prog 87 #[.pointer (some ⟨b,o,none⟩),.int .u64 n] w (λe w'=>e = .returned (.bool (Gf s.rs s.fl n))/\DW DX w w'):=by
 refine(Xu s.rs s.fl s.most b o n v w h).mono ?_;rintro e w' ⟨m,hm,rfl,hb⟩;exact⟨by rw[Kb hw hm],DW.of_below hb⟩
def Kj(w:World):(binOp .eql 98 (.iface 57 (.int .i64 7)) (.iface 57 (.int .i64 7))).run prog w = .ok (.bool true) w:=by kernel_rfl
def Vw(p:Addr)(w:World):(binOp .eql 98 (.iface 162 (.pointer (some p))) (.iface 57 (.int .i64 7))).run prog w = .ok (.bool false) w:=by kernel_rfl
def Kk(w:World):(binOp .eql 98 .nilIface (.iface 57 (.int .i64 7))).run prog w = .ok (.bool false) w:=by kernel_rfl
def NO(c:CS)(bs:List UInt8):Prop:=c.closed=0->∀n fs,dec bs = .ok n fs->c.got.Ok/\n<=zB/\(Gf c.got.rs c.got.fl n=false->Lv fs { c with got:=c.got.add n n })
def gL(bs:List UInt8)(h:c.closed≠0):c.receive bs=((12,-1),c):=by
 unfold CS.receive;rw[AN h]
def eU(h:zg tag i b c V W)(d:Do tag W)(v:Value)(bs:List UInt8)(hc:c.closed≠0):Calls prog 51 #[.pointer (some ⟨b,0,none⟩),v] W (MC tag i b W 12 (-1) c):=by
 have c4:=h.hd (j:=4) rfl;have hb:((c.closed:Int)==0)=false:=AR.2 (by omega);have HL:=zb (h.left d (DW.refl _ _));obtain⟨cl,a⟩:=nm c.closed;rw[a]at c4 hb;clear h d hc a;go_enter func51,ntmps51;go_wp2_with fail;go_ret;exact⟨_,rfl,.inl ⟨rfl,rfl⟩,HL.z⟩
def eT(h:zg tag i b c V W)(g:Do tag W)(v:Value)(bs:List UInt8)(d:BR W v bs)(a:Fc W)(hl:bs.length<1099511627776)(hc:c.closed=0)(hd:dec bs = .sum):Calls prog 51 #[.pointer (some ⟨b,0,none⟩),v] W (MC tag i b W 7 (-1) c):=by
 have f:=Nw v bs W d a hl;rw[hd]at f;have c4:=h.hd (j:=4) rfl;rw[hc]at c4;have HH:=zb h;have HT:=zb g;have KD:=zb f;obtain⟨va,vc,rfl,_⟩:=d;clear h g hc f a;go_enter func51,ntmps51;go_wp2_with fail;refine(KD.z).mono ?_;rintro e W2 ⟨k,rfl⟩;have l:=zb k;clear k;have hE:=Kj;go_wp2_with fail;go_ret;exact⟨_,rfl,.inl ⟨rfl,rfl⟩,((HH.z.mod0 l.z).mod0 ((DW.refl DX _).alloc _)).left HT.z ((l.z.alloc _).mono (λ_ x=>x.elim))⟩
def eS(h:zg tag i b c V W)(s:Do tag W)(hi:0<i)(v:Value)(bs:List UInt8)(at_:Nat)(m:BR W v bs)(f:Fc W)(hl:bs.length<1099511627776)(hc:c.closed=0)(hd:dec bs = .bad at_):Calls prog 51 #[.pointer (some ⟨b,0,none⟩),v] W (MC tag i b W 8 at_ { c with closed:=8 }):=by
 have t:=Nw v bs W m f hl;rw[hd]at t;have c4:=h.hd (j:=4) rfl;rw[hc]at c4;have z:=zb h;have HT:=zb s;have KD:=zb t;have hbW:=EQ s h.tb hi;obtain⟨va,vc,rfl,_⟩:=m;clear h s hc t f;go_enter func51,ntmps51;go_wp2_with fail;refine(KD.z).mono ?_;rintro e W2 ⟨A,o,rfl,n,u⟩;obtain⟨l,d⟩:=nm (W2.alloc (.cells #[.int .u64 0,.slice none 0 0] 56));have r:DW DX W l:=by rw[<-d];exact A.alloc _
 have c3:=z.z.mod0 r;have fz:=c3.fz 4;have c4':=r.cell (a:=⟨b,4,none⟩) id c4;have B:zg tag i b { c with closed:=8 } V (l.setCell ⟨b,4,none⟩ (.int .i64 8)):=c3.store 4 _ (Ju _ _ _ _ _ (by decide) rfl rfl rfl rfl) ⟨rfl,λ_ _=>⟨rfl,rfl,rfl⟩,λ_ _=>⟨rfl,rfl⟩,rfl,rfl,rfl,rfl⟩;have C:DW (λq=>q=b) W (l.setCell ⟨b,4,none⟩ (.int .i64 8)):=DW.setCell (S:=λq=>q=b) (r.mono (λ_ x=>x.elim)) (p:=⟨b,4,none⟩) (.inl rfl) _;have g:l.heap[o]?=some (.cells #[.int .i64 8,.int .i64 at_] 167 (0,0)):=by
  have:DW DX W2 l:=by rw[<-d];exact(DW.refl _ _).alloc _
  exact this.obj (λx=>x) n
 have k:(l.setCell ⟨b,4,none⟩ (.int .i64 8)).heap[o]?=some (.cells #[.int .i64 8,.int .i64 at_] 167 (0,0)):=((DW.refl (λq=>q=b) l).setCell (p:=⟨b,4,none⟩) (.inl rfl) _).obj (by show ¬o=b;omega) g;have HF:=zb k;have w:=zb u;have HL:=zb (B.left HT.z (z.z.modb C));have y:=zb d;clear A n r c3 B C g k d;have hE:=Vw;go_upto_region 4 with fail;rw[y.z];go_wp2_with fail;go_ret;exact⟨_,rfl,.inr ⟨o,rfl,HF.z,w.z⟩,HL.z⟩
variable{X w1:World}
def OH{d:World}{c2:CS}(hi:0<i)(c:Dj i tag tag' W w1)(m1:DW (λg=>(tag g).1=i) W w1)(mx:DW DX w1 X)(h2:Dn tag' i b X c2 d):Dn tag i b W c2 d:=by
 obtain⟨tag2,V2,a,b',c'⟩:=h2.from0 c.z hi mx;refine⟨tag2,V2,a,c.trans b' m1.size,m1.then c' (λg hg=>?_)⟩;by_cases q:g<W.heap.size
 ·exact .inl (by rw[<-c.old g q];exact hg)
 ·exact .inr (by omega)
variable{c':CS}
def Pw(h:Dn tag i b W c W')(hi:0<i)(j:Nat)(v:Value)(hc:∀V,(zt c V).set j v=zt c' V)(s:Id c c'):Dn tag i b W c' (W'.setCell ⟨b,j,none⟩ v):=by
 obtain⟨tag',a,h1,h2,h3⟩:=h;have m:DW (λq=>q=b) W' (W'.setCell ⟨b,j,none⟩ v):=(DW.refl (λq=>q=b) _).setCell (p:=⟨b,j,none⟩) (.inl rfl) _;refine⟨tag',a,h1.store j v (hc a) s,⟨h2.old,h2.new,h2.z.mod m⟩,h3.then m (λg hg=>?_)⟩;have hg:=hg;by_cases q:g<W.heap.size
 ·exact .inl (by rw[<-h2.old g q,hg,h1.tb])
 ·exact .inr (by omega)
variable{fs:List Db}
def VB{n:Nat}(hc:c.closed=0)(hd:dec bs = .ok n fs):c.receive bs=if Gf c.got.rs c.got.fl n then((0,-1),c)else(((CS.takes fs { c with got:=c.got.add n n }).1,-1),(CS.takes fs { c with got:=c.got.add n n }).2):=by
 unfold CS.receive;rw[AH (by omega),hd]
def eR(h:(c.take f).1=0):CS.takes (f::fs) c=CS.takes fs { (c.take f).2 with answer:=(c.take f).2.answer||f.kind != 2 }:=by
 rw[CS.takes,AH (by rw[h];simp)]
def eQ(h:(c.take f).1≠0):CS.takes (f::fs) c=((c.take f).1,{ (c.take f).2 with closed:=(c.take f).1,said:=(c.take f).1==13 }):=by
 rw[CS.takes,AN h]
theorem eP(h:zg tag i b c V W)(ht:Do tag W)(hi:0<i)(v:Value)(bs:List UInt8)(n:Nat)(fs:List Db)(ay:BR W v bs)(X:Fc W)(hl:bs.length<1099511627776)(hc:c.closed=0)(hd:dec bs = .ok n fs)(ok:NO c bs)(a7:fs.length<=1099511627776):Calls prog 51 #[.pointer (some ⟨b,0,none⟩),v] W (MC tag i b W (c.receive bs).1.1 (c.receive bs).1.2 (c.receive bs).2):=by
 have kd:=Nw v bs W ay X hl;rw[hd]at kd;obtain⟨o1,o2,o3⟩:=ok hc n fs hd;rw[VB hc hd];have c4:=h.hd (j:=4) rfl;rw[hc]at c4;obtain⟨hb,ad⟩:=nm (Gf c.got.rs c.got.fl n);rw[ad]at o3 ⊢;obtain⟨R,hR⟩:∃o,(if hb=true then((0,-1),c)else(((CS.takes fs { c with got:=c.got.add n n }).1,-1),(CS.takes fs { c with got:=c.got.add n n }).2):(Nat×Int)×CS)=o:=⟨_,rfl⟩;rw[hR];have HR:=zb hR;clear hR;have HH:=zb h;have J:=zb ht;have y:=zb hi;have Z:=zb kd;have O1:=zb o1;have O2:=zb o2;have O3:=zb o3;have a8:=zb ad;have q2:=o2;unfold zB at q2;obtain⟨va,vc,rfl,_⟩:=ay;clear h ht hc kd X ok hd o1 o2 o3 ad;go_enter func51,ntmps51;go_wp2_with fail;refine(Z.z).mono ?_;rintro e W2 ⟨m2,fv,L,rfl,B,C,ae,az⟩;obtain⟨fa,fc,rfl,q3,q4,_⟩:=zi B.1;have af:L.length=fs.length:=by rw[<-C,A9]
 obtain⟨N,hN⟩:=nm fs.length;rw[hN]at a7;rw[af,hN]at B ae q3 ⊢;unfold maxLen at q4;obtain⟨M,D⟩:=nm (W2.alloc (.cells #[.int .u64 n,.slice fa N fc] 56));have m3:DW DX W M:=by rw[<-D];exact m2.alloc _
 have ah:=AB D
 have oP:=AD D
 obtain⟨A,O⟩:=nm W2.heap.size;rw[O]at oP;have p0:=za (o:=0) oP rfl;have p1:M.cell? ⟨A,1,none⟩=some (.slice fa N fc):=za (o:=1) oP rfl;have h3:=HH.z.mod0 m3;have c7:=h3.hd (j:=7) rfl;have kh:=VC c.got V.g 0 n V.gv M.drew (h3.got.mod (DW.refl DX M).drew (λx=>x) (λ_ _ x=>x)) O1.z.wf;rw[a8.z]at kh;have aa:W.heap.size<=A:=by rw[<-O];exact m2.size
 have u:=(Fw.frs B).mod0 ah;have KH:=zb kh;have H3:=zb h3;have E:=zb m3;have a9:=zb ah;have aA:=zb u;have ba:=zb ae;have aB:=zb az;have bb:=zb (λx hx g hg=>zF (B.2 x hx).1 g hg);have bc:=zb C;have bd:=zb af;have HN:=zb hN;have be:=zb D;have bf:=zb O;have bh:=zb aa;have hE:=Kk;clear m2 m3 ah oP h3 kh aa u B ae az C af hN D O;go_upto_region 9 with fail;rw[be.z,bf.z];refine zD ?_;refine zl 8 (λw'=>w'.cell? ⟨b,7,none⟩=some (.pointer (some ⟨V.g,0,none⟩))/\w'.cell? ⟨A,0,none⟩=some (.int .u64 n)) (⟨c7,p0⟩) ?_;refine GI 0 ?_;iterate 6
  refine GV rfl ?_;try simp only[PS]
 refine zw 6 rfl (λK hK=>?_);go_simp;go_simp
 with_reducible refine(KH.z).mono ?_
 rintro e w ⟨rfl,m4⟩;have M4:=zb m4;have aC:w.cell? ⟨b,7,none⟩=some (.pointer (some ⟨V.g,0,none⟩))/\w.cell? ⟨A,0,none⟩=some (.int .u64 n):=⟨m4.cell (a:=⟨b,7,none⟩) id c7,m4.cell (a:=⟨A,0,none⟩) id p0⟩;clear m4;go_simp;refine hK.z _ _ aC ?_;clear aC;clear hK K;try simp only[PS]
 refine GI 7 ?_;refine GV rfl ?_;try simp only[PS]
 refine zn ?_;refine⟨rfl,?_⟩;cases hb with
 | true =>
  go_wp2_with fail;go_ret;rw[<-HR.z];simp only[A5];exact⟨_,rfl,.inl ⟨rfl,rfl⟩,(H3.z.mod0 ((DW.refl DX M).drew.trans M4.z)).left J.z ((E.z.trans ((DW.refl DX M).drew.trans M4.z)).mono (λ_ x=>x.elim))⟩
 | false =>
 have s:=(DW.refl DX M).drew.trans M4.z;have h4:=H3.z.mod0 s;have aD:=J.z.mod (E.z.trans s);have hm:=O1.z.most;have aE:=O1.z.rl;have ab:=O1.z.fl;unfold zB at ab;have aF:V.gv.ownBlock≠some V.g:=λe=>by
  have h5:=h4.tgv V.g e;rw[h4.tg]at h5;have:=A0 Prod.snd h5;simp at this
 have P:=Jo c.got V.g 0 n n V.gv w.drew (h4.got.mod (DW.refl DX w).drew (λx=>x) (λ_ _ x=>x)) O1.z.wf (by omega) (by omega) (by omega) aF hm.1 (by omega);have aG:=P.mono (λe w' x=>VD (h4.mod0 (DW.refl DX w).drew) (aD.mod (DW.refl DX w).drew) y.z O1.z n n O2.z x);have KA:=zb aG;have d7:=s.cell (a:=⟨b,7,none⟩) id c7;have d0:=s.cell (a:=⟨A,0,none⟩) id p0;have d1:=s.cell (a:=⟨A,1,none⟩) id p1;have d:=zb s;clear P aG h4 aD hm aE ab aF s p0 p1 c7 c4 hE;go_upto_region 11 with fail;refine zD ?_;refine zl 8 (λw'=>w'.cell? ⟨b,7,none⟩=some (.pointer (some ⟨V.g,0,none⟩))/\w'.cell? ⟨A,0,none⟩=some (.int .u64 n)) (⟨d7,d0⟩) ?_;refine GI 0 ?_;iterate 8
  refine GV rfl ?_;try simp only[PS]
 refine zU rfl (λK hK=>?_);go_simp
 with_reducible refine(KA.z).mono ?_
 rintro e W5 ⟨rfl,l5⟩;have L5:=zb l5;clear l5;go_simp;refine hK.z _ _ ?_;clear hK K;try simp only[PS]
 refine zn ?_;refine⟨rfl,?_⟩;have ai:=J.z A bh.z;have bi:W5.cell? ⟨A,1,none⟩=some (.slice fa N fc):=by
  obtain⟨bq,V5,_,_,q⟩:=L5.z;exact q.cell (a:=⟨A,1,none⟩) (by
   show ¬(tag A).1=i;rw[ai];have:=y.z;simp;omega) d1
 have ai:=zb ai;clear d7 d0 d1;go_wp2_with fail;obtain⟨c0,aj⟩:∃o,({ c with got:=c.got.add n n }:CS)=o:=⟨_,rfl⟩;have aH:=zb (by
  have:=HR.z;rw[AH (by simp),aj]at this;exact this.symm)
 have O4:=zb (O3.z trivial);rw[aj]at L5 O4;clear HR O3 aj;have aI:=L5.z.from0 (W:=w) (J.z.mod (E.z.trans d.z)) y.z (DW.refl DX w).drew;have aJ:=zb aI;have HSZ:=zb (AO E.z.size d.z.size);have aK:=zb (AO a9.z.size d.z.size);have HT4:=zb (J.z.mod (E.z.trans d.z));have bj:=zb (aA.z.mod0 d.z);clear aI L5 aA
 go_loopw [53] (λiv wr=>∃(k:Nat) (c':CS),k<=N/\iv = .int .i64 k/\AA (Dn tag i b w c' wr/\CS.takes (fs.drop k) c'=CS.takes fs c0/\Lv (fs.drop k) c')) (λiv _=>N-(intOf iv).toNat)
 case atStart=>exact⟨0,c0,AL _,rfl,zb ⟨aJ.z,by simp,by simpa using O4.z⟩⟩
 case round =>
  clear aJ O4 bi;obtain⟨k,c1,hk,rfl,HQ⟩:=hrel;by_cases aL:k<N
  ·obtain⟨ac,V1,h1,e1,m1⟩:=HQ.z.1;have Q:∀g,W.heap.size<=g->(tag g).1≠i:=λg hg x=>by
    rw[J.z g hg]at x;have:=y.z;simp at x;omega
   have u:=bj.z.mod m1 (λg o n' c' e x=>by
    cases e;exact Q g (ba.z g rfl) x) (λfr z g o n' c' e x=>Q g (aB.z fr z g (by rw[e];rfl)) x)
   obtain⟨a',aM,aN,_,_,aO⟩:=u;have aP:k<L.length:=by rw[bd.z,HN.z];exact aL
   obtain⟨⟨f,rv⟩,z⟩:∃fr,L[k]?=some fr:=⟨L[k],AJ aP⟩;have ak:fs[k]?=some f:=by rw[<-bc.z,BW,z];rfl
   obtain⟨⟨g2,o2,bk,al⟩,G⟩:=aO k (f,rv) z;have bm:a'=fa/\aM=fc:=by cases aN;exact⟨rfl,rfl⟩
   obtain⟨rfl,rfl⟩:=bm;subst bk;simp only at al G;have H:=Ac z;have aQ:∀g,Value.blk rv=some g->(ac g).1≠i:=λg hg=>by
    have aR:rv.ownBlock=some g:=by
     obtain⟨ra,rc,e,_⟩:=id G;subst e;cases ra with
     | none=>cases hg
     | some a=>exact hg
    have h5:=aB.z (f,rv) H g aR;have h6:=bb.z (f,rv) H g aR;rw[e1.old g (Aw h6 aK.z)];exact Q g h5
   obtain⟨x0,x1,x2,x3,x4,x5,x6,x7,x8,x9⟩:=I8 al;obtain⟨ra,rc,aS,_⟩:=id G;subst aS;have aT:fs.drop k=f::fs.drop (k+1):=by
    have aU:k<fs.length:=by rw[HN.z];exact aL
    rw[CB aU];rw[AJ aU]at ak;rw[Bk ak]
   have am:=HQ.z.2.1;have aV:=HQ.z.2.2;rw[aT]at am aV;obtain⟨aW,aX⟩:=aV;obtain⟨Y,hY⟩:=nm (wr.alloc (.cells (zh f (.slice ra f.rngs.length rc)) 65));have mY:=AB hY
   have bn:=AC hY
   have aY:zj Y wr.heap.size f (.slice ra f.rngs.length rc):=by rw[<-hY];exact heap_alloc_new wr _
   have P:=Y2 (h1.mod0 mY) (e1.z.mod mY) y.z f (.slice ra f.rngs.length rc) (G.mod mY (Dl.no _)) aQ aW;have aZ:=e1.z _ (AG _);obtain⟨y0,y1,y2,y3,y4,y5,y6,y7,y8,y9⟩:=aY.cells;have I:AA (∀W6 c2,Dn ac i b Y c2 W6->Dn tag i b w c2 W6/\W6.heap[wr.heap.size]?=Y.heap[wr.heap.size]?):=zb (λW6 c2 l=>⟨OH y.z e1 m1 mY l,by
    obtain⟨a0,V6,_,_,m6⟩:=l;refine m6.block _ (by omega) (λx=>?_);rw[aZ]at x;have:=y.z;simp at x;omega⟩)
   obtain⟨yb,ao⟩:=nm wr.heap.size;rw[ao]at I y0 y1 y2 y3 y4 y5 y6 y7 y8 y9;obtain⟨RL,a1⟩:=nm f.rngs.length;rw[a1]at x9 hY y9 P;obtain⟨Z,ap⟩:=nm f.kind;unfold zh at hY P;rw[ap]at x0 y0 hY P;obtain⟨p,aq⟩:=nm ((c1.take f).1);obtain⟨t,ar⟩:=nm ((c1.take f).2);rw[aq,ar]at P;have KA:=zb P;have a2:=zb ap;have S:=zb aq;have au:=zb ar;have av:=zb am;have a3:=zb aX;have HY:=zb hY;have bo:=zb ao;clear aO z al G mY bn aY P aZ aQ H ak aN aW aX am hY ao a1 ap aq ar h1 e1 m1 Q aP aT;go_upto_region 15 with fail;rw[HY.z,bo.z];go_wp2_with fail;refine(KA.z).mono ?_;rintro e W6 ⟨rfl,l6⟩;obtain⟨l7,a4⟩:=I.z W6 t l6;have u0:=(World.cell?_of_block a4).trans y0;obtain⟨a0,V6,h6,e6,m6⟩:=id l7;have L7:=zb l7;clear KA I l6 l7 a4 x0 x1 x2 x3 x4 x5 x6 x7 x8 x9 y0 y1 y2 y3 y4 y5 y6 y7 y8 y9 e6 m6;by_cases hz:p=0
   ·subst hz;obtain⟨an,T⟩:=nm t.answer;have c8:W6.cell? ⟨b,8,none⟩=some (.bool an):=by rw[<-T];exact h6.hd (j:=8) rfl
    have f8:=h6.fz 8;have aw:AA (∀x:Bool,Dn tag i b w { t with answer:=x } (W6.setCell ⟨b,8,none⟩ (.bool x))):=zb (λx=>Pw L7.z y.z 8 _ (λV=>Ju t { t with answer:=x } V V (j:=8) _ (by decide) rfl rfl rfl rfl) ⟨rfl,λ_ _=>⟨rfl,rfl,rfl⟩,λ_ _=>⟨rfl,rfl⟩,rfl,rfl,rfl,rfl⟩);have ax:AA (∀x:Bool,x=(an||Z != 2)->CS.takes (fs.drop (k+1)) { t with answer:=x }=CS.takes fs c0/\Lv (fs.drop (k+1)) { t with answer:=x }):=zb (λx hx=>by
     have h5:=av.z;have h7:=a3.z S.z;rw[eR S.z,au.z,T,a2.z,<-hx]at h5;rw[au.z,T,a2.z,<-hx]at h7;exact⟨h5,h7⟩)
    clear h6 T a3 av;cases an with
    | true =>
     go_wp2_with fail;go_roundw
     case rel=>exact⟨k+1,{ t with answer:=true },by omega,by go_num,zb ⟨aw.z true,ax.z true (by simp)⟩⟩
     case measure=>simp[intOf];omega
    | false =>
     by_cases a5:Z=2
     ·subst a5;go_wp2_with fail;go_roundw
      case rel=>exact⟨k+1,{ t with answer:=false },by omega,by go_num,zb ⟨aw.z false,ax.z false (by simp)⟩⟩
      case measure=>simp[intOf];omega
     ·have hk3:(Z==2)=false:=by simpa using a5
      go_wp2_with fail;go_roundw
      case rel=>exact⟨k+1,{ t with answer:=Z != 2 },by omega,by go_num,zb ⟨aw.z (Z != 2),ax.z (Z != 2) (by simp)⟩⟩
      case measure=>simp[intOf];omega
   ·have hz1:((p:Int)==0)=false:=by rw[AR];omega
    have c4:∃v,W6.cell? ⟨b,4,none⟩=some v:=⟨_,h6.hd (j:=4) rfl⟩;obtain⟨u4,c4⟩:=c4;have f4:=h6.fz 4;have l8:=Pw L7.z y.z 4 (.int .i64 p) (c':={ t with closed:=p }) (λV=>Ju t { t with closed:=p } V V (j:=4) _ (by decide) rfl rfl rfl rfl) ⟨rfl,λ_ _=>⟨rfl,rfl,rfl⟩,λ_ _=>⟨rfl,rfl⟩,rfl,rfl,rfl,rfl⟩;obtain⟨bt,V8,h8,_,_⟩:=id l8;obtain⟨u5,c5⟩:∃v,(W6.setCell ⟨b,4,none⟩ (.int .i64 p)).cell? ⟨b,5,none⟩=some v:=⟨_,h8.hd (j:=5) rfl⟩;have f5:=h8.fz 5;have l9:=Pw l8 y.z 5 (.bool (p==13)) (c':={ t with closed:=p,said:=p==13 }) (λV=>Ju _ _ V V (j:=5) _ (by decide) rfl rfl rfl rfl) ⟨rfl,λ_ _=>⟨rfl,rfl,rfl⟩,λ_ _=>⟨rfl,rfl⟩,rfl,rfl,rfl,rfl⟩;have L9:=zb l9;have m:AA (R=((p,-1),{ t with closed:=p,said:=p==13 })):=zb (by
     rw[aH.z,<-av.z,eQ (by rw[S.z];exact hz),S.z,au.z])
    have HZ:=zb hz;clear h6 h8 l8 l9 hz;by_cases U:p=13
    ·have a6:((p:Int)==13)=true:=by rw[Cd];omega
     have r:(p==13)=true:=by simpa using U
     rw[r]at L9 m;clear U r;go_wp2_with fail;go_ret;rw[m.z];exact⟨_,rfl,.inl ⟨rfl,by rw[Ie HZ.z];rfl⟩,OH y.z (Dj.same J.z (E.z.trans d.z)) ((E.z.trans d.z).mono (λ_ x=>x.elim)) (DW.refl DX w) L9.z⟩
    ·have a6:((p:Int)==13)=false:=by rw[AR];omega
     have r:(p==13)=false:=by simpa using U
     rw[r]at L9 m;clear U r;go_wp2_with fail;go_ret;rw[m.z];exact⟨_,rfl,.inl ⟨rfl,by rw[Ie HZ.z];rfl⟩,OH y.z (Dj.same J.z (E.z.trans d.z)) ((E.z.trans d.z).mono (λ_ x=>x.elim)) (DW.refl DX w) L9.z⟩
  ·have bp:k=N:=by omega
   have m:AA (R=((0,-1),c1)):=zb (by
    rw[aH.z,<-HQ.z.2.1,By (by rw[HN.z];omega)];rfl)
   clear bp;go_wp2_with fail;go_ret;rw[m.z];exact⟨_,rfl,.inl ⟨rfl,rfl⟩,OH y.z (Dj.same J.z (E.z.trans d.z)) ((E.z.trans d.z).mono (λ_ x=>x.elim)) (DW.refl DX w) HQ.z.1⟩
theorem gq(h:zg tag i b c V W)(f:Do tag W)(hi:0<i)(v:Value)(bs:List UInt8)(d:BR W v bs)(a:Fc W)(hl:bs.length<1099511627776)(ok:NO c bs)(g:∀n fs,dec bs = .ok n fs->fs.length<=1099511627776):Calls prog 51 #[.pointer (some ⟨b,0,none⟩),v] W (MC tag i b W (c.receive bs).1.1 (c.receive bs).1.2 (c.receive bs).2):=by
 by_cases hc:c.closed=0
 ·cases hd:dec bs with
  | sum =>
   have e:c.receive bs=((7,-1),c):=by unfold CS.receive;rw[AH (by omega),hd]
   rw[e];exact eT h f v bs d a hl hc hd
  | bad p =>
   have e:c.receive bs=((8,(p:Int)),{ c with closed:=8 }):=by unfold CS.receive;rw[AH (by omega),hd]
   rw[e];exact eS h f hi v bs p d a hl hc hd
  | ok n fs=>exact eP h f hi v bs n fs d a hl hc hd ok (g n fs hd)
 ·rw[gL bs hc];exact eU h f v bs hc
def VA{w0:World}{ev:Value}{n:Nat}{at_:Int}(h:Jc w0 w ev n at_)(hg:Er w):Calls prog 43 #[ev] w (LI w (n:Int) at_):=by
 rcases h with⟨rfl,rfl⟩|⟨fa,rfl,a,_⟩
 ·by_cases b:n=0
  ·subst b;exact PR w
  ·rw[Ie b];exact Oy (n:Int) w hg
 ·exact Qi fa (n:Int) at_ w hg (za a rfl) (za a rfl)
def Jc.shape{w0:World}{ev:Value}{n:Nat}{at_:Int}(h:Jc w0 w ev n at_):ev = .nilIface\/∃t u,ev = .iface t u:=by
 rcases h with⟨_,rfl⟩|⟨fa,rfl,_⟩
 ·unfold EC;split
  ·exact .inl rfl
  ·exact .inr ⟨_,_,rfl⟩
 ·exact .inr ⟨_,_,rfl⟩
variable{S:Nat->Prop}{w':World}
def Jc.mod{a:World}{ev:Value}{n:Nat}{at_:Int}(h:Jc a w ev n at_)(m:DW S w w')(hS:∀g,S g->g<a.heap.size):Jc a w' ev n at_:=by
 rcases h with h|⟨b,rfl,ho,hl⟩
 ·exact .inl h
 ·exact .inr ⟨b,rfl,m.obj (λx=>by have:=hS b x;omega) ho,hl⟩
def gp(h:zg tag i b c V W)(E:Dx i tag W)(s:List UInt8)(u:s.length<1099511627776)(ok:NO c s)(k:∀n fs,dec s = .ok n fs->fs.length<=1099511627776):Calls prog 28 #[.pointer (some ⟨b,0,none⟩),.string (zq s)] W (EA tag i b W (.tuple #[.int .i64 ((c.receive s).1.1:Int),.int .i64 (c.receive s).1.2]) (c.receive s).2):=by
 obtain⟨cap,W1,v,a,m1,l,m⟩:=Py W s (by omega);have w:=gq (h.mod0 m1) (E.ok.mod m1) E.pos _ s a (E.mod0 m1).tab u ok k;have y:s.length<=cap/\cap<=maxLen:=by
  obtain⟨_,_,e,z,t,_⟩:=a;cases e;exact⟨z,t⟩
 obtain⟨hc1,A⟩:=y;unfold maxLen at A;have d:=zb E;have K:=zb m1;have HB:=zb m;have L:=zb l;obtain⟨R,hR⟩:=nm (c.receive s);rw[hR]at w ⊢;have M:=zb w;clear h E a m1 m l ok k w;go_enter func28,ntmps28;go_wp2_with fail;refine(M.z).mono ?_;rintro _ W2 ⟨ev,rfl,o,B⟩;clear M;obtain⟨tag',V',z,t,C⟩:=id B;have N:=(d.z.mod0 K.z).left t C;have q:=HB.z.mod C (λx=>by
  have:=d.z.ok W.heap.size (AG _);rw[this]at x;have:=d.z.pos;simp at x;omega)
 have HL:=zb B;have D:=zb q;have r:=zb o;have F:=zb N;clear B z t C N q v o;rcases r.z.shape with rfl|⟨et,eu,rfl⟩;all_goals
  go_wp2_with fail
  go_loopw [16] (λG wr=>∃j:Nat,j<=s.length/\G = .int .i64 j/\AA (Gm wr W.heap.size s.length/\DW (λg=>g=W.heap.size) W2 wr)) (λG _=>s.length-(intOf G).toNat)
  case atStart=>exact⟨0,AL _,rfl,zb ⟨D.z,DW.refl _ _⟩⟩
  case round =>
   obtain⟨j,hj,rfl,f⟩:=hrel;by_cases I:j<s.length
   ·obtain⟨⟨v0,e0⟩,z0⟩:=f.z.1.cell I;have J:=zb (f.z.1.set j (.int .u8 33));have HM:=zb (f.z.2.setCell (p:=⟨W.heap.size,j,none⟩) (.inl rfl) (.int .u8 33));go_wp2_with fail;go_roundw
    case rel=>exact⟨j+1,by omega,by go_num,zb ⟨J.z,HM.z⟩⟩
    case measure=>simp[intOf];omega
   ·have O:∀g,g=W.heap.size->g<W1.heap.size:=λg hg=>by rw[hg,L.z];omega
    have P:=VA (r.z.mod f.z.2 O) (F.z.err.mod f.z.2 (λx=>by
     have x:=x;have:=d.z.tab.lt;omega))
    have KT:=zb P;clear P O;go_wp2_with fail;refine(KT.z).mono ?_;rintro _ W4 ⟨rfl,Q⟩;have H:=zb ((HL.z.thenS d.z.ok d.z.pos K.z f.z.2 (λg hg=>by
     have hg:=hg;have:=L.z;omega)).then0 Q)
    clear Q;go_wp2_with fail;go_ret2;exact⟨rfl,H.z⟩
end
end Go.Proofs.YtddfdpbaiedcjaaGreatDoor
