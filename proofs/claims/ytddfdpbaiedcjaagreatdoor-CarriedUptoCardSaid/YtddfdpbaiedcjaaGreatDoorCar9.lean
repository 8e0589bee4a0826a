/- A part of Carried's proof. Conditions: none. Part 9 of 13. -/
import Derived.Test.YtddfdpbaiedcjaaGreatDoorCar8
import Derived.Lib.BufferWrite
set_option maxRecDepth 100000
set_option maxHeartbeats 16000000
set_option linter.all false
namespace Go.Proofs.YtddfdpbaiedcjaaGreatDoor
open Go.RowKit Go.Proofs.Tryz
def CS.ackedTo(c:CS)(rs:zA):CS:=(({ c with largest:=max c.largest (hiAt rs 0) }:CS).ackPs rs c.flight).fly (c.flight.filter fun p => !zce rs p)
theorem zeE(c:CS)(rs:zA)(h:¬c.next≤hiAt rs 0):c.acked rs=(0,(c.ackedTo rs).lose):=zpp c rs h
variable{W W1 W2:World}{t:Nat}
theorem boxes{x y:Value}{u:Nat}(h1:W.alloc (.cells #[x] t)=W1)(h2:W1.alloc (.cells #[y] u)=W2):Mod NoB W W2∧W2.cell? ⟨W.heap.size,0,none⟩=some x∧W2.cell? ⟨W.heap.size+1,0,none⟩=some y:=by
 have m1:Mod NoB W W1:=by rw[←h1];exact(Mod.refl _ _).alloc _
 have b:Mod NoB W1 W2:=by rw[←h2];exact(Mod.refl _ _).alloc _
 have hs:W1.heap.size=W.heap.size+1:=by rw[←h1];simp
 refine⟨m1.trans b,?_,?_⟩
 ·refine b.cell (a:=⟨_,0,none⟩) id ?_;rw[←h1];exact za (heap_alloc_new W _) rfl
 ·rw[←hs,←h2];exact za (heap_alloc_new W1 _) rfl
variable{V:CV}{b i:Nat}{c:CS}{tag:Nat→Nat×Nat}
theorem zlg(h:zg tag i b c V W)(B:zR tag W)(hi:0<i)(rs:zA)(t:Option Addr)(a:Nat)(u:RR W (.slice t rs.length a) rs)(C:∀g,Value.blk (.slice t rs.length a)=some g→(tag g).1≠i)(h0:0<rs.length)(D:rs.length≤1099511627776)(hn:c.next≤hiAt rs 0):Calls prog 158 #[.pointer (some ⟨b,0,none⟩),.slice t rs.length a] W (zbC tag i b W (.int .i64 11) c):=by
 obtain⟨M,k⟩:=nm (W.alloc (.cells #[.pointer (some ⟨b,0,none⟩)] 69));obtain⟨W1,d⟩:=nm (M.alloc (.cells #[.slice t rs.length a] 63));obtain⟨m1,v,q⟩:=boxes k d;have l:M.heap.size=W.heap.size+1:=by rw[←k];simp
 have w:W1.heap.size=W.heap.size+2:=by rw[←d];simp[l]
 have n:=u.mod m1 (za2.no _);obtain⟨a',p,r,q1,q2,h3⟩:=id n;obtain⟨g,o,y,e1,A,b1,b2⟩:=h3 0 h0;have A:W1.cell? ⟨g,o+1,none⟩=some (.int .u64 (hiAt rs 0:Int)):=by simpa using A
 have E:t=some ⟨g,o,none⟩:=by cases r;exact y
 have F:p=a:=by cases r;rfl
 subst E;subst F;have h1:=h.mod0 m1;have G:zR tag W1:=B.mod m1;obtain⟨RL,m⟩:=nm rs.length;obtain⟨cb,e⟩:=nm W.heap.size;obtain⟨z,f⟩:=nm (hiAt rs 0);obtain⟨nx,s⟩:=nm c.next;have d0:0<RL:=by omega
 have d1:(nx:Int)≤z:=by rw[←s,←f];omega
 rw[e]at v q l w;rw[m]at q;rw[f]at A b2;have c6:W1.cell? ⟨b,6,none⟩=some (.int .u64 (nx:Int)):=by rw[←s];exact h1.hd (j:=6) rfl
 have H0:=zb (h1.mod0 (Mod.refl NoB W1).drew);have HM:=zb m1;have HT:=zb B;rw[m]at d;have H:=zb k;have I:=zb d;have J:=zb l;have K:=zb e;rw[m];clear h B h1 G u n C h0 h3 y r q1 q2 e1 b1 k d l w m f s e m1 hn D hi;go_enter func158,ntmps158;go_upto_region 1 with fail;rw[H.out,I.out,K.out];try rw[J.out]
 refine zB ?_;refine zm 9 (fun w'=>w'.cell? ⟨cb,0,none⟩=some (.pointer (some ⟨b,0,none⟩))∧w'.cell? ⟨cb+1,0,none⟩=some (.slice (some ⟨g,o,none⟩) RL p)∧w'.cell? ⟨g,o+1,none⟩=some (.int .u64 (z:Int))∧w'.cell? ⟨b,6,none⟩=some (.int .u64 (nx:Int))) (⟨v,q,A,c6⟩) ?_;refine GI 0 ?_;iterate 9
  refine GS rfl ?_ ?_ ?_;rotate_left
  ·(intro wx L;obtain⟨f0,f1,f2,f6⟩:=L;go_simp;try with_reducible rfl)
  try simp only[PS]
 refine zo ?_;refine⟨rfl,?_⟩;go_wp2_with fail;go_ret;exact⟨rfl,H0.out.left HT.out (HM.out.drew.mono (fun _ x=>x.elim))⟩
theorem zlh(h:zg tag i b c V W)(ht:zR tag W)(hi:0<i)(rs:zA)(la:Option Addr)(d:Nat)(ab:RR W (.slice la rs.length d) rs)(ac:∀g,Value.blk (.slice la rs.length d)=some g→(tag g).1≠i)(h0:0<rs.length)(ad:rs.length≤1099511627776)(hn:¬c.next≤hiAt rs 0)(hb:c.flight.length≤1099511627776)(ok:ze8 { c with largest:=max c.largest (hiAt rs 0) } rs)(ae:ze7 (c.ackedTo rs)):Calls prog 158 #[.pointer (some ⟨b,0,none⟩),.slice la rs.length d] W (zbC tag i b W (.int .i64 0) (c.ackedTo rs).lose):=by
 obtain⟨W0,E⟩:=nm (W.alloc (.cells #[.pointer (some ⟨b,0,none⟩)] 69));obtain⟨W1,t⟩:=nm (W0.alloc (.cells #[.slice la rs.length d] 63));obtain⟨m1,u,s⟩:=boxes E t;have F:W0.heap.size=W.heap.size+1:=by rw[←E];simp
 have af:W1.heap.size=W.heap.size+2:=by rw[←t];simp[F]
 have v:=ab.mod m1 (za2.no _);obtain⟨a',w,M,q1,q2,h3⟩:=id v;obtain⟨g,o,ah,e1,O,b1,b2⟩:=h3 0 h0;have O:W1.cell? ⟨g,o+1,none⟩=some (.int .u64 (hiAt rs 0:Int)):=by simpa using O
 have ax:la=some ⟨g,o,none⟩:=by cases M;exact ah
 have ay:w=d:=by cases M;rfl
 subst ax;subst ay;have h1:=h.mod0 m1;have ai:zR tag W1:=ht.mod m1;obtain⟨RL,y⟩:=nm rs.length;obtain⟨cb,z⟩:=nm W.heap.size;obtain⟨A,B⟩:=nm (hiAt rs 0);obtain⟨nx,P⟩:=nm c.next;have d0:0<RL:=by omega
 have d1:¬(nx:Int)≤A:=by rw[←P,←B];omega
 rw[z]at u s F af;rw[y]at s;rw[B]at O b2;have c6:W1.cell? ⟨b,6,none⟩=some (.int .u64 (nx:Int)):=by rw[←P];exact h1.hd (j:=6) rfl
 have Q:W1.cell? ⟨b,237,none⟩=some (.int .u64 (c.largest:Int)):=h1.tl (j:=4) rfl;have aj:W1.frozen? ⟨b,237,none⟩=false:=h1.fz 237;obtain⟨lg,ak⟩:=nm c.largest;obtain⟨L2,S⟩:=nm (max c.largest (hiAt rs 0));rw[S]at ok;have ez:(if lg<A then(A:Int)else(lg:Int))=(L2:Int):=by split<;>omega
 rw[ak]at Q;obtain⟨W2,G⟩:=nm (W1.setCell ⟨b,237,none⟩ (.int .u64 (L2:Int)));have T:Mod (fun q=>q=b) W1 W2:=by rw[←G];exact(Mod.refl (fun q=>q=b) W1).setCell (p:=⟨b,_,none⟩) (.inl rfl) _
 have h2:zg tag i b { c with largest:=L2 } V W2:=by
  rw[←G];exact h1.store (233+4) _ (zaj c { c with largest:=L2 } V V (j:=4) _ rfl rfl rfl rfl) ⟨rfl,fun _ _=>⟨rfl,rfl,rfl⟩,fun _ _=>⟨rfl,rfl⟩,rfl,rfl,rfl,rfl⟩
 have al:zR tag W2:=ai.mod T;have C:∀q,cb≤q→¬zai i tag q:=fun q hq x=>by
  have h5:=x.1;rw[ht q (by omega)]at h5;simp at h5;omega
 have U:∀q,cb≤q→q≠b:=fun q hq e=>C q hq (by rw[e];exact zbk h.tb (by decide))
 have D:=T.cell (a:=⟨cb,0,none⟩) (U _ (Nat.le_refl _)) u;have H:=T.cell (a:=⟨cb+1,0,none⟩) (U _ (by show cb≤cb+1;omega)) s;have X:(tag g).1≠i:=ac g rfl;have Y:¬g=b:=fun e=>X (by rw[e,h.tb])
 have I:=v.mod T (fun g' o' n' c' e x=>by cases e;exact Y x);obtain⟨a,cap,hv,_⟩:=zi h2.ft;obtain⟨N,hN⟩:=nm c.flight.length;have hv:V.ft = .slice a N cap:=by rw[hv];simp only[hN]
 have am:g<W2.heap.size:=zk (T.cell (a:=⟨g,_,none⟩) Y O);have kd:=zna h2 al hi ok hb D (C _ (Nat.le_refl _)) (by rw[y];exact H) (C _ (by omega)) I (fun g' o' n' c' e x=>by cases e;exact X x.1) (fun g' o' n' c' e=>by cases e;exact am) ad ((Mod.refl NoB W2).drew.drew.drew) hv hN;have an:W2.cell? ⟨b,236,none⟩=some (.slice a N cap):=by rw[←hv];exact h2.tl (j:=3) rfl
 have fz:W2.frozen? ⟨b,236,none⟩=false:=h2.fz 236;have ao:(c.flight.zip V.fts).length=N:=by rw[List.length_zip,h.fl,Nat.min_self,hN]
 have ap:(c.flight.zip V.fts).map (·.1)=c.flight:=List.map_fst_zip (Nat.le_of_eq h.fl.symm);have aq:c.ackedTo rs=(({ c with largest:=L2 }:CS).ackPs rs c.flight).fly (c.flight.filter fun p => !zce rs p):=by unfold CS.ackedTo;rw[S]
 have MW:Hid (Mod (zai i tag) W W2):=zb ((m1.mono (fun _ x=>x.elim)).trans (T.mono (fun q hq=>.inl (zbk (r:=1) (by rw[show q=b from hq];exact h.tb) (by decide)))));have KD:=zb kd;have HT:=zb ht;have HI:=zb hi;have ar:=zb C;have aa:=zb D;have HZ:=zb (And.intro ao ap);have HN:=zb hN;have az:=zb G;have au:=zb ae;have HB:=zb hb;have aA:=zb aq;rw[y]at t;have aB:=zb E;have aC:=zb t;have aD:=zb F;have aE:=zb z;rw[y];clear h ht h1 ai ab v I ac h0 h3 ah M q1 q2 e1 b1 E t G F af y B P z m1 T hn ad hi h2 al ak S ok ae hb C U D H X Y am kd ao ap aq hN hv;go_enter func158,ntmps158;go_upto_region 1 with fail;rw[aB.out,aC.out,aE.out];try rw[aD.out]
 refine zB ?_;refine zm 9 (fun w'=>w'.cell? ⟨cb,0,none⟩=some (.pointer (some ⟨b,0,none⟩))∧w'.cell? ⟨cb+1,0,none⟩=some (.slice (some ⟨g,o,none⟩) RL w)∧w'.cell? ⟨g,o+1,none⟩=some (.int .u64 (A:Int))∧w'.cell? ⟨b,6,none⟩=some (.int .u64 (nx:Int))) (⟨u,s,O,c6⟩) ?_;refine GI 0 ?_;iterate 9
  refine GS rfl ?_ ?_ ?_;rotate_left
  ·(intro wx k;obtain⟨f0,f1,f2,f6⟩:=k;go_simp;try with_reducible rfl)
  try simp only[PS]
 refine zo ?_;refine⟨rfl,?_⟩;go_upto_region 3 with fail;refine zB ?_;refine zm 12 (fun w'=>w'.cell? ⟨cb,0,none⟩=some (.pointer (some ⟨b,0,none⟩))∧w'.cell? ⟨cb+1,0,none⟩=some (.slice (some ⟨g,o,none⟩) RL w)∧w'.cell? ⟨g,o+1,none⟩=some (.int .u64 (A:Int))∧w'.cell? ⟨b,237,none⟩=some (.int .u64 (lg:Int))∧w'.frozen? ⟨b,237,none⟩=false) (⟨u,s,O,Q,aj⟩) ?_;refine GI 0 ?_;iterate 12
  refine GS rfl ?_ ?_ ?_;rotate_left
  ·(intro wx k;obtain⟨f0,f1,f2,f6,f7⟩:=k;go_simp;try with_reducible rfl)
  try simp only[PS]
 refine zW rfl (fun K J=>?_);go_simp;try simp only[ez]
 refine J.out _ _ ?_;clear J K;try simp only[PS]
 refine zo ?_;refine⟨rfl,?_⟩;go_upto_region 4 with fail;rw[az.out];refine zB ?_;refine zm 9 (fun w'=>w'.cell? ⟨cb,0,none⟩=some (.pointer (some ⟨b,0,none⟩))∧w'.cell? ⟨b,236,none⟩=some (.slice a N cap)∧w'.frozen? ⟨b,236,none⟩=false) (⟨aa.out,an,fz⟩) ?_;refine GI 0 ?_;iterate 6
  refine GS rfl ?_ ?_ ?_;rotate_left
  ·(intro wx k;obtain⟨f0,f1,f2⟩:=k;go_simp;try with_reducible rfl)
  try simp only[PS]
 refine zz 6 rfl (fun K J=>?_);go_simp
 with_reducible refine(KD.out).mono ?_
 rintro e w6 ⟨n,R,rfl,av,hj,hR⟩;have HJ:=zb (And.intro av (And.intro hj hR));have hF:w6.cell? ⟨cb,0,none⟩=some (.pointer (some ⟨b,0,none⟩))∧w6.cell? ⟨b,236,none⟩=some (.slice a N cap)∧w6.frozen? ⟨b,236,none⟩=false:=by
  obtain⟨hl,tag',V',r,g1,g2⟩:=hj;exact⟨r.m.cell (a:=⟨cb,0,none⟩) (ar.out _ (Nat.le_refl _)) aa.out,by rw[←g1];exact r.c.tl (j:=3) rfl,r.c.fz 236⟩
 clear hj av hR;go_simp;refine J.out _ _ hF ?_;obtain⟨p0,p1,p2⟩:=hF;clear J K;try simp only[PS]
 refine GI 7 ?_;iterate 2
  refine GS rfl ?_ ?_ ?_;rotate_left
  ·(intro wx k;obtain⟨f0,f1,f2⟩:=k;go_simp;try with_reducible rfl)
  try simp only[PS]
 refine zW rfl (fun K J=>?_);go_simp;refine J.out _ _ ?_;clear J K;try simp only[PS]
 refine zo ?_;refine⟨rfl,?_⟩;obtain⟨Z,hZ⟩:=nm (w6.setCell ⟨b,236,none⟩ (.slice a n cap));have hD:∃tag' V',zt tag i b W2 V' (c.ackedTo rs) tag' V' Z:=by
  obtain⟨j1,j2,j3⟩:=HJ.out;rw[HZ.out.1]at j1 j2;have hR:(R.take n).map (·.1)=c.flight.filter fun p => !zce rs p:=by
   rw[j3];have e:=List.filter_map (f:=fun x:Fly×Value=>x.1) (p:=fun p => !zce rs p) (l:=c.flight.zip V.fts);rw[HZ.out.2]at e;exact e.symm
  have:=j2.done j1;rw[hZ,hR]at this;rw[aA.out];unfold zpt at this;rw[←HN.out,List.take_of_length_le (Nat.le_refl _)]at this;exact this
 obtain⟨aF,V7,r7⟩:=hD;have L:(c.ackedTo rs).flight.length≤1099511627776:=Nat.le_trans (List.length_filter_le _ _) HB.out;have kl:=zkc r7.c r7.e.out HI.out au.out L;have zcb:=r7.m.cell (a:=⟨cb,0,none⟩) (ar.out _ (Nat.le_refl _)) aa.out;have KL:=zb kl;have R7:=zb r7;clear kl r7 p0 p1 p2 an fz u s O Q aj c6 L;try rw[hZ]
 clear hZ;go_wp2_with fail;refine(KL.out).mono ?_;rintro e w9 ⟨rfl,aw,V9,r1,r2,r3⟩;have R9:=zb (And.intro r1 (And.intro r2 r3));clear r1 r2 r3;go_wp2_with fail;go_ret;refine⟨rfl,aw,V9,R9.out.1,?_,?_⟩
 ·have x1:Ext i tag tag W W2:=Ext.same HT.out MW.out;exact(x1.trans R7.out.e MW.out.size).trans R9.out.2.1 (Nat.le_trans MW.out.size R7.out.m.size)
 ·refine(MW.out.trans R7.out.m).ofC.then R9.out.2.2 (fun g hg=>?_);by_cases hz:g<W2.heap.size
  ·rw[R7.out.e.old g hz]at hg;exact .inl hg
  ·exact .inr (Nat.le_trans MW.out.size (by omega))
variable{k:Nat}
theorem zg.rcameAt(h:zg tag i b c V W)(hk:k<8)(hl:(c.rs k).came.rs.length≤1099511627776):zbA W b (129+13*k+1) (V.rc k) (c.rs k).came.rs (c.rs k).came.fl (c.rs k).came.most :=
 ⟨h.r (j:=1) hk rfl,h.r (j:=2) hk rfl,h.r (j:=3) hk rfl,h.rc k hk,hl,fun j=>h.fz j⟩
variable{V' V0:CV}{W' W'' W0:World}{s:zaI}{tag':Nat→Nat×Nat}{v':Value}
theorem zt.rcame(h:zt tag i b W0 V0 c tag' V' W')(hk:k<8)(ha:zhC s b (129+13*k+1) (V'.rc k) W' W'' v')(hm:s.most=(c.rs k).came.most):∃tag2 V2,zt tag i b W0 V0 { c with rs:=upd c.rs k { c.rs k with came:=s } } tag2 V2 W''∧∀g,g<W'.heap.size→tag2 g=tag' g:=by
 obtain⟨f,l,d,u⟩:=ha;have v:=h.p;have n:∀{g r:Nat},tag' g=(i,r)→g<W'.heap.size:=fun hg=>zaD h.e.out hg v
 have o:∀g,(tag' g).1=i→retag tag' W' W'' (i,50+k) g=tag' g:=fun g hg=>zy (n (r:=(tag' g).2) (by rw[←hg]))
 have w:∀g,(g=b∨(V'.rc k).ownBlock=some g)→∃r,(r=1∨r=50+k)∧tag' g=(i,r):=fun g hg=>by
  rcases hg with hg|hg
  ·exact⟨1,.inl rfl,by rw[hg,h.c.tb]⟩
  ·exact⟨50+k,.inr rfl,h.c.trc k hk g hg⟩
 refine⟨retag tag' W' W'' (i,50+k),{ V' with rc:=upd V'.rc k v' },⟨?_,h.e.trans (zbw d.size) h.m.size,zap h.e h.m (d.mono (fun g hg=>.inl ?_)),v,h.ft⟩,fun g hg=>zy hg⟩
 ·refine h.c.build (R:=fun r=>r=1∨r=50+k) d w o ?_ (.inl ⟨rfl,rfl,rfl,by omega,by omega⟩) (fun q t=>.inl ⟨rfl,rfl,by omega⟩) (fun q t=>.inl ⟨rfl,rfl,by omega⟩) (fun q t=>.inl ⟨rfl,rfl,by omega⟩) (fun q t=>.inl ⟨?_,rfl,by omega⟩) (fun q t=>?_) (.inl ⟨rfl,rfl,rfl,by omega,by omega⟩) (.inl ⟨rfl,rfl,by omega⟩) (.inl ⟨rfl,rfl,by omega⟩) (.inl ⟨rfl,rfl,by omega⟩)
  ·rw[l,zc (zc h.c.obj)];simp only[List.setIfInBounds_toArray];have e1:=zbr c c V' { V' with rc:=upd V'.rc k v' } (k:=k) (j:=1) v' hk (by decide) (fun q _=>by
    by_cases a:q=k
    ·subst a;simp only[ze,if_true];rfl
    ·simp only[zd _ _ a,if_neg a]) rfl rfl rfl
   rw[e1];have e2:=zbr c { c with rs:=upd c.rs k { c.rs k with came:=s } } { V' with rc:=upd V'.rc k v' } { V' with rc:=upd V'.rc k v' } (k:=k) (j:=2) (.int .u64 (s.fl:Int)) hk (by decide) (fun q _=>by
    by_cases a:q=k
    ·subst a;simp only[ze,if_true,zbO,hm];rfl
    ·simp only[zd _ _ a,if_neg a]) rfl rfl rfl
   rw[show 129+13*k+1+1=129+13*k+2 from rfl,e2]
  ·by_cases a:q=k
   ·subst a;simp only[ze]
   ·simp only[zd _ _ a]
  ·by_cases a:q=k
   ·subst a;simp only[ze];refine .inr ⟨f,fun g hg=>?_⟩;rcases u g hg with y|y
    ·rw[zy (n (h.c.trc q hk g y)),h.c.trc q hk g y]
    ·exact zav y (zE f g hg)
   ·exact .inl ⟨by simp only[zd _ _ a],by simp only[zd _ _ a],by omega⟩
 ·obtain⟨r,hr,e⟩:=w g hg;exact zbk e (by omega)
variable{bs:List UInt8}
theorem zt.rbytes(h:zt tag i b W0 V0 c tag' V' W')(hk:k<8)(f:OB W'' v' bs)(l:W''.heap[b]?=(W'.setCell ⟨b,129+13*k,none⟩ v').heap[b]?)(d:Mod (fun q=>q=b∨(V'.rb k).ownBlock=some q) W' W'')(t:zaH W' (V'.rb k) v'):∃tag2 V2,zt tag i b W0 V0 { c with rs:=upd c.rs k { c.rs k with b:=bs } } tag2 V2 W''∧∀g,g<W'.heap.size→tag2 g=tag' g:=by
 have u:=h.p;have n:∀{g r:Nat},tag' g=(i,r)→g<W'.heap.size:=fun hg=>zaD h.e.out hg u
 have o:∀g,(tag' g).1=i→retag tag' W' W'' (i,40+k) g=tag' g:=fun g hg=>zy (n (r:=(tag' g).2) (by rw[←hg]))
 have v:∀g,(g=b∨(V'.rb k).ownBlock=some g)→∃r,(r=1∨r=40+k)∧tag' g=(i,r):=fun g hg=>by
  rcases hg with hg|hg
  ·exact⟨1,.inl rfl,by rw[hg,h.c.tb]⟩
  ·exact⟨40+k,.inr rfl,h.c.trb k hk g hg⟩
 refine⟨retag tag' W' W'' (i,40+k),{ V' with rb:=upd V'.rb k v' },⟨?_,h.e.trans (zbw d.size) h.m.size,zap h.e h.m (d.mono (fun g hg=>.inl ?_)),u,h.ft⟩,fun g hg=>zy hg⟩
 ·refine h.c.build (R:=fun r=>r=1∨r=40+k) d v o ?_ (.inl ⟨rfl,rfl,rfl,by omega,by omega⟩) (fun q s=>.inl ⟨rfl,rfl,by omega⟩) (fun q s=>.inl ⟨rfl,rfl,by omega⟩) (fun q s=>.inl ⟨rfl,rfl,by omega⟩) (fun q s=>?_) (fun q s=>.inl ⟨?_,rfl,by omega⟩) (.inl ⟨rfl,rfl,rfl,by omega,by omega⟩) (.inl ⟨rfl,rfl,by omega⟩) (.inl ⟨rfl,rfl,by omega⟩) (.inl ⟨rfl,rfl,by omega⟩)
  ·rw[l,zc h.c.obj];simp only[List.setIfInBounds_toArray];rw[show 129+13*k=129+13*k+0 from rfl,zbr c { c with rs:=upd c.rs k { c.rs k with b:=bs } } V' { V' with rb:=upd V'.rb k v' } (k:=k) (j:=0) v' hk (by decide) (fun q _=>by
    by_cases a:q=k
    ·subst a;simp only[ze,if_true];rfl
    ·simp only[zd _ _ a,if_neg a]) rfl rfl rfl]
  ·by_cases a:q=k
   ·subst a;simp only[ze];refine .inr ⟨f,fun g hg=>?_⟩;rcases t g hg with y|y
    ·rw[zy (n (h.c.trb q hk g y)),h.c.trb q hk g y]
    ·exact zav y (zE f g hg)
   ·exact .inl ⟨by simp only[zd _ _ a],by simp only[zd _ _ a],by omega⟩
  ·by_cases a:q=k
   ·subst a;simp only[ze]
   ·simp only[zd _ _ a]
 ·obtain⟨r,hr,e⟩:=v g hg;exact zbk e (by omega)
theorem zt.addRcame(h:zt tag i b W0 V0 c tag' V' W')(hk:k<8)(d:(c.rs k).came.Ok)(lo hi:Nat)(j:lo≤zD)(l:hi≤zD):Calls prog 88 #[.pointer (some ⟨b,129+13*k+1,none⟩),.int .u64 (lo:Int),.int .u64 (hi:Int)] W' (zm7 tag i b W0 V0 { c with rs:=upd c.rs k { c.rs k with came:=(c.rs k).came.add lo hi } } tag' W'):=by
 have hm:=d.most;have hrl:=d.rl;have m:=d.fl;have hp:=h.p;unfold zD at j l m;have n:(V'.rc k).ownBlock≠some b:=fun e=>by
  have h1:=h.c.trc k hk b e;rw[h.c.tb]at h1;have:=congrArg Prod.snd h1;simp only at this;omega
 refine(zco (c.rs k).came b (129+13*k+1) lo hi (V'.rc k) W' (h.c.rcameAt hk (by omega)) d.wf (by omega) (by omega) (by omega) n hm.1 (by omega)).mono ?_;rintro e W'' ⟨v',rfl,h1,h2,h3,h4⟩;refine⟨rfl,?_,fun g hg f=>h3.block g hg (fun x=>?_)⟩
 ·obtain⟨tag2,V2,r,f⟩:=h.rcame hk ⟨h1,h2,h3,h4⟩ (zbm _ _ _);exact⟨tag2,V2,r,f⟩
 ·rcases x with x|x
  ·have a:=h.c.tb;rw[←x,f]at a;have:=congrArg Prod.snd a;simp at this
  ·have a:=h.c.trc k hk g x;rw[f]at a;have:=congrArg Prod.snd a;simp at this;omega
theorem ze9(rs:zA):∀lo e,lo<e→(za1 rs lo e).1<e→lo≤(za1 rs lo e).1∧(za1 rs lo e).1<(za1 rs lo e).2:=by
 induction rs with
 | nil=>intro lo e h _;exact⟨Nat.le_refl _,h⟩
 | cons r l ih =>
  intro lo e hl h;unfold za1 at h ⊢;by_cases h1:r.2<lo
  ·rw[if_pos h1]at h ⊢;exact ih lo e hl h
  ·rw[if_neg h1]at h ⊢;by_cases h2:lo<r.1
   ·rw[if_pos h2]at h ⊢;exact⟨Nat.le_refl _,Nat.lt_min.2 ⟨hl,h2⟩⟩
   ·rw[if_neg h2]at h ⊢;have hk:∀(l:zA) lo e,(za1 l lo e).1<e→lo<e:=by
     intro l
     induction l with
     | nil=>intro lo e h;exact h
     | cons q l ih2 =>
      intro lo e h;unfold za1 at h;by_cases g1:q.2<lo
      ·rw[if_pos g1]at h;exact ih2 _ _ h
      ·rw[if_neg g1]at h;by_cases g2:lo<q.1
       ·rw[if_pos g2]at h;exact h
       ·rw[if_neg g2]at h;have:=ih2 _ _ h;omega
    have:=hk _ _ _ h;obtain⟨a,b⟩:=ih (r.2+1) e this h;exact⟨by omega,b⟩
theorem zbK(l:List UInt8)(a b:Nat):(zq l).extract a b=zq ((l.drop a).take (b-a)):=by
 rw[Lib.extract_eq,zaL];rfl
theorem zbz(b:List UInt8)(i:Nat)(s:List UInt8)(h:i+s.length≤b.length):(zfG b i s).length=b.length:=by
 unfold zfG;simp only[List.length_append,List.length_take,List.length_drop];omega
variable{cap g lo:Nat}{w:World}
theorem zrb{s:List UInt8}(h:OB w (.slice (some ⟨g,0,none⟩) bs.length cap) bs)(hf:lo+s.length≤bs.length)(c d:Nat)(hd:s.length≤c):∃w',(∀ty,(Builtin.copy_ #[60,9] ty #[.slice (some ⟨g,lo,none⟩) c d,.string (zq s)]).run prog w = .ok (goInt s.length) w')∧OB w' (.slice (some ⟨g,0,none⟩) bs.length cap) (zfG bs lo s)∧Mod (fun q=>q=g) w w':=by
 rcases h.2 with⟨e,_⟩|⟨g',f,a,e,_,h1,h2,h3,h4,b⟩
 ·cases e
 ·cases e;have hcs:a.size=cap:=by simpa using h4
  have b:a.toList.take bs.length=zP bs:=by simpa using b
  have hk:∀ty,_:=fun ty=>Lib.run_copy_row_string (P:=prog) w 60 9 ty 5 g lo c d (zq s) a _ underlying60 (by kernel_rfl) h1 (by rw[zF];exact hd) (by rw[zF];omega)
  rw[zF]at hk;refine⟨_,hk,?_,zcZ w g _⟩;unfold OB;rw[zbz bs lo s hf];refine⟨?_,.inr ⟨g,cap,_,rfl,Nat.zero_le _,setRow_heap w g a _ _ _ h1,h2,h3,?_,?_⟩⟩
  ·rw[zan,zbz bs lo s hf,Nat.mul_one]
  ·simp only[List.size_toArray,List.length_append,List.length_take,List.length_drop,Array.length_toList,Lib.byteCells_length,zaL];omega
  ·simp only[Nat.mul_one,zaL,zfG,zbi];have hl:Lib.byteCells s=zP s:=rfl;have e1:zP (bs.take lo)=a.toList.take lo:=by
    have:zP (bs.take lo)=(zP bs).take lo:=by simp[zP,List.map_take]
    rw[this,←b,List.take_take,Nat.min_eq_left (by omega)]
   have e2:zP (bs.drop (lo+s.length))=(a.toList.drop (lo+s.length)).take (bs.length-(lo+s.length)):=by
    have:zP (bs.drop (lo+s.length))=(zP bs).drop (lo+s.length):=by simp[zP,List.map_drop]
    rw[this,←b,List.drop_take]
   rw[e1,e2,hl,List.append_assoc];have i:(a.toList.take lo).length=lo:=by rw[List.length_take,Array.length_toList];omega
   generalize a.toList.take lo=A at i ⊢;generalize a.toList.drop (lo+s.length)=B;have e3:A.take bs.length=A:=List.take_of_length_le (by omega);have e4:(zP s).take (bs.length-lo)=zP s:=List.take_of_length_le (by rw[zan];omega);rw[List.take_append,i,e3,List.take_append,zan,e4,show bs.length-lo-s.length=bs.length-(lo+s.length)by omega]
theorem zt.rbne(h:zt tag i b W0 V0 c tag' V' W')(hk:k<8):¬(V'.rb k).ownBlock=some b:=fun e=>by
 have h1:=h.c.trb k hk b e;rw[h.c.tb]at h1;have:=congrArg Prod.snd h1;simp only at this;omega
theorem zt.rapp{s:List UInt8}(h:zt tag i b W0 V0 c tag' V' W')(hk:k<8)(d:App W' (V'.rb k) (c.rs k).b s v' W2):(∃tag2 V2,zt tag i b W0 V0 { c with rs:=upd c.rs k { c.rs k with b:=(c.rs k).b++s } } tag2 V2 (W2.setCell ⟨b,129+13*k,none⟩ v'))∧W2.cell? ⟨b,129+13*k,none⟩=some (V'.rb k)∧W2.frozen? ⟨b,129+13*k,none⟩=false:=by
 have hb:=h.rbne hk;have m1:Mod (fun g=>(V'.rb k).ownBlock=some g) W' W2:=(Mod.refl _ W').grown d.grown (fun g hg=>.inl hg);have o1:=m1.obj hb h.c.obj;have hw:Mod (fun g=>g=b) W2 (W2.setCell ⟨b,129+13*k,none⟩ v'):=(Mod.refl (fun g=>g=b) _).setCell (p:=⟨b,129+13*k,none⟩) (.inl rfl) _;have f:b<W'.heap.size:=zaD h.e.out h.c.tb h.p;have l:∀g,v'.ownBlock=some g→¬g=b:=fun g hg x=>by
  subst x;rcases d.at_ g hg with y|y
  ·exact hb y
  ·omega
 obtain⟨tag2,V2,r,_⟩:=h.rbytes hk (hw.owns d.own l) (zbh (m1.block b f hb) _ _) ((m1.mono (fun g hg=>.inl (.inr hg))).setCell (p:=⟨b,_,none⟩) (.inl (.inl rfl)) _) d.at_;exact⟨⟨tag2,V2,r⟩,m1.cell (a:=⟨b,_,none⟩) hb (h.c.r (j:=0) hk rfl),zf o1⟩
variable{n:Nat}
theorem zt.rturn(h:zt tag i b W0 V0 c tag' V' W')(hk:k<8)(a:V'.rb k = .slice (some ⟨g,0,none⟩) n cap)(ho:OB W2 (.slice (some ⟨g,0,none⟩) n cap) bs)(m:Mod (fun q=>q=g) W' W2):∃tag2 V2,zt tag i b W0 V0 { c with rs:=upd c.rs k { c.rs k with b:=bs } } tag2 V2 W2:=by
 have hb:=h.rbne hk;have d:¬b=g:=fun e=>hb (by rw[a,e];rfl)
 have c0:W'.cell? ⟨b,129+13*k,none⟩=some (V'.rb k):=h.c.r (j:=0) hk rfl;obtain⟨tag2,V2,r,_⟩:=h.rbytes hk (v':=V'.rb k) (by rw[a];exact ho) (by rw[zaz c0];exact m.block b (zaD h.e.out h.c.tb h.p) d) (m.mono (fun q hq=>.inl (.inr (by rw[a,show q=g from hq];rfl)))) (zaH.refl _ _);exact⟨tag2,V2,r⟩
structure znb(c:CS)(f:Frm)(k:Nat):Prop where
 lt:k<8
 st:f.stream=(k:Int)
 high:∀j,j<8→(c.rs j).high≤1099511627776
 grant:(c.rs k).grant≤1099511627776
 cgrant:c.grant≤zD
 fin:(c.rs k).fin≤zD
 end_:f.end_≤zD
 dl:f.data.length≤1099511627776
 came:(c.rs k).came.Ok
 bl:(c.rs k).b.length≤(c.rs k).high
theorem zkd{rs:Nat→RS}{B:Nat}(h:∀j,j<8→(rs j).high≤B):∀n,n≤8→zcC rs n≤n*B
 | 0,_=>by simp[zcC]
 | n+1,hn=>by
  have:=zkd h n (by omega);have:=h n (by omega);rw[Nat.succ_mul];show zcC rs n+(rs n).high≤_;omega
theorem znc(off:Nat)(data:List UInt8)(e n lo:Nat)(b:List UInt8)(s:zaI)(h:lo<e)(h2:(za1 s.rs lo e).1<e):zfx off data e (n+1) lo b s=zfx off data e n (za1 s.rs lo e).2 (zfG b (za1 s.rs lo e).1 ((data.drop ((za1 s.rs lo e).1-off)).take ((za1 s.rs lo e).2-(za1 s.rs lo e).1))) (s.add (za1 s.rs lo e).1 ((za1 s.rs lo e).2-1)):=by
 rw[zfx,if_pos h,if_neg (by omega)]
theorem zpu(off:Nat)(data:List UInt8)(e n lo:Nat)(b:List UInt8)(s:zaI)(h:¬lo<e):zfx off data e n lo b s=(b,s):=by
 cases n with
 | zero=>rfl
 | succ n=>rw[zfx,if_neg h]
theorem znd(off:Nat)(data:List UInt8)(e n lo:Nat)(b:List UInt8)(s:zaI)(h:lo<e)(h2:¬(za1 s.rs lo e).1<e)(hn:0<n):zfx off data e n lo b s=(b,s):=by
 cases n with
 | zero=>omega
 | succ n=>rw[zfx,if_pos h,if_pos (by omega)]
variable{f:Frm}
theorem zpv(a:f.stream=(k:Int))(h:(c.rs k).badEnd f=true):c.data f=(10,c):=by
 unfold CS.data;rw[a];simp[h]
theorem zhJ(a:f.stream=(k:Int))(h:(c.rs k).badEnd f=false)(h2:(c.rs k).high<f.end_∧((c.rs k).grant<f.end_∨c.grant<f.end_-(c.rs k).high+zcC c.rs 8)):c.data f=(9,c):=by
 unfold CS.data;rw[a];simp only[Int.toNat_natCast,h,Bool.false_eq_true,if_false];rw[if_pos h2]
theorem zhK(a:f.stream=(k:Int))(h:(c.rs k).badEnd f=false)(h2:¬((c.rs k).high<f.end_∧((c.rs k).grant<f.end_∨c.grant<f.end_-(c.rs k).high+zcC c.rs 8))):c.data f=(0,{ c with rs:=upd c.rs k ((c.rs k).data f) }):=by
 unfold CS.data;rw[a];simp only[Int.toNat_natCast,h,Bool.false_eq_true,if_false];rw[if_neg h2]
theorem zne(h:zg tag i b c V W)(ht:zR tag W)(hi:0<i)(f:Frm)(rv:Value)(k:Nat)(ok:znb c f k)(bG:∃a n cap,rv = .slice a n cap):Calls prog 159 #[.pointer (some ⟨b,0,none⟩),.agg (zj f rv)] W (zbC tag i b W (.int .i64 ((c.data f).1:Int)) (c.data f).2):=by
 have hk:=ok.lt;have aJ:=ok.st;obtain⟨ra,rn,aK,rfl⟩:=bG;obtain⟨W1,ao⟩:=nm (W.alloc (.cells (zj f (.slice ra rn aK)) 65));have m1:Mod NoB W W1:=by rw[←ao];exact(Mod.refl _ _).alloc _
 have ap:zh W1 W.heap.size f (.slice ra rn aK):=by rw[←ao];exact heap_alloc_new W _
 have aL:¬zai i tag W.heap.size:=fun x=>by
  have h1:=x.1;rw[ht _ (Nat.le_refl _)]at h1;simp at h1;omega
 have h1:=h.mod0 m1;have r0:zt tag i b W1 V c tag V W1:=⟨h1,Ext.same (ht.mod m1) (Mod.refl NoB W1),Mod.refl _ _,hi,⟨rfl,rfl⟩⟩;have B:Hid (∀{c':CS} {tag':Nat→Nat×Nat} {V':CV} {W':World},zt tag i b W1 V c' tag' V' W'→zbo tag i b W c' W'):=zb (fun r =>
  ⟨_,_,r.c,zaU ht m1 r.e,(m1.mono (fun _ x=>x.elim)).then r.m.ofC (fun g hg=>.inl hg)⟩)
 obtain⟨fb,aM⟩:=nm W.heap.size;rw[aM]at ap aL;have aN:Hid (∀{c':CS} {tag':Nat→Nat×Nat} {V':CV} {W':World},zt tag i b W1 V c' tag' V' W'→zh W' fb f (.slice ra rn aK)):=zb (fun r=>ap.mod r.m aL);obtain⟨y0,y1,y2,y3,y4,y5,y6,y7,y8,y9⟩:=ap.cells;rw[aJ]at y1;obtain⟨x,hx⟩:=nm (c.rs k);obtain⟨off,N⟩:=nm f.off;obtain⟨d,C⟩:=nm f.data;obtain⟨DL,T⟩:=nm d.length;obtain⟨E,hE⟩:=nm f.end_;obtain⟨fi,aq⟩:=nm f.fin;obtain⟨en,ar⟩:=nm x.ended;obtain⟨FN,U⟩:=nm x.fin;obtain⟨F,X⟩:=nm x.high;obtain⟨GR,au⟩:=nm x.grant;obtain⟨CG,av⟩:=nm c.grant;obtain⟨bad,Y⟩:=nm (x.badEnd f);have Z:E=off+DL:=by rw[←hE,←N,←T,←C];rfl
 have a4:Hid (((en&&(decide (FN<E)||(fi&&E != FN)))||(fi&&decide (E<F)))=bad):=zb (by
  rw[←Y];unfold RS.badEnd;rw[ar,U,hE,aq,X])
 have q1:=ok.high k hk;have q2:=ok.grant;have q3:=ok.cgrant;have q4:=ok.fin;have q5:=ok.end_;have q6:=ok.dl;have q7:=ok.bl;have q8:=zkd ok.high;rw[hx]at q1 q2 q4 q7;rw[X]at q1 q7;rw[au]at q2;rw[U]at q4;rw[av]at q3;rw[hE]at q5;rw[C,T]at q6;unfold zD at q3 q4 q5;have r4:W1.cell? ⟨b,129+k*13+4,none⟩=some (.int .u64 (F:Int)):=by rw[←X,←hx,Nat.mul_comm];exact h1.r (j:=4) hk rfl
 have r5:W1.cell? ⟨b,129+k*13+5,none⟩=some (.int .u64 (FN:Int)):=by rw[←U,←hx,Nat.mul_comm];exact h1.r (j:=5) hk rfl
 have r6:W1.cell? ⟨b,129+k*13+6,none⟩=some (.bool en):=by rw[←ar,←hx,Nat.mul_comm];exact h1.r (j:=6) hk rfl
 have bH:W1.cell? ⟨b,129+k*13+11,none⟩=some (.int .u64 (GR:Int)):=by rw[←au,←hx,Nat.mul_comm];exact h1.r (j:=11) hk rfl
 have bI:W1.cell? ⟨b,234,none⟩=some (.int .u64 (CG:Int)):=by rw[←av];exact h1.tl (j:=1) rfl
 have fz:=h1.fz;have bJ:Hid (∀j,j<8→W1.cell? ⟨b,129+j*13+4,none⟩=some (.int .u64 ((c.rs j).high:Int))):=zb (fun j hj=>by rw[Nat.mul_comm];exact h1.r (j:=4) hj rfl);have a5:=zb q8;rw[N]at y2;rw[aq]at y5;rw[C]at y8;have hsz:(zq d).size=DL:=by rw[zF,T]
 have w1:IntKind.u64.wrap (DL:Int)=(DL:Int):=by rw[IntKind.wrap_u64];omega
 have w2:IntKind.u64.wrap ((off:Int)+DL)=(E:Int):=by rw[IntKind.wrap_u64];omega
 have dk0:(0:Int)≤k:=by omega
 have dk8:(k:Int)<8:=by omega
 have R0:=zb r0;have aa:=zb Z;have HX:=zb hx;have ab:=zb N;have aE:=zb C;have a6:=zb T;have HE:=zb hE;have a7:=zb aq;have a8:=zb ar;have a9:=zb U;have H:=zb X;have aO:=zb au;have aP:=zb av;have HB:=zb Y;have bK:=zb ok;have ac:=zb aJ;have bL:=zb ao;have bM:=zb aM;clear h ht hi h1 r0 m1 ap aL y0 y3 y4 y6 y7 y9 hx N C T hE aq ar U X au av Y ok aJ ao aM q8 Z;go_enter func159,ntmps159;go_upto_region 1 with fail;rw[bL.out,bM.out];refine zB ?_;refine zm 7 (fun w'=>w'.cell? ⟨fb,1,none⟩=some (.int .i64 (k:Int))) (y1) ?_;refine GI 0 ?_;iterate 7
  refine GS rfl ?_ ?_ ?_;rotate_left
  ·(intro P I;(try dsimp only at I);go_simp;try with_reducible rfl)
  try simp only[PS]
 refine zo ?_;refine⟨rfl,?_⟩;go_upto_region 2 with fail
 go_cut [6] (fun ev P=>ev = .int .u64 (E:Int)∧P=W1.drew)
 case first=>as_aux_lemma =>
  go_wp2_with fail;go_meet;have Z:=aa.out;exact⟨by(congr 1<;>omega),rfl⟩
 case rest =>
 obtain⟨rfl,hw⟩:=hcut;obtain⟨WA,aQ⟩:=nn wc;subst aQ;subst hw;clear w1 w2;go_upto_region 3 with fail
 go_cut [59] (fun bv P=>bv = .bool bad∧P=W1.drew)
 case first=>as_aux_lemma =>
  have hB:=a4.out;subst hB;cases en
  ·cases fi
   ·go_wp2_with fail;go_meet;exact⟨rfl,rfl⟩
   ·by_cases d2:(E:Int)<F
    ·have J:E<F:=by omega
     go_wp2_with fail;go_meet;exact⟨by simp[J],rfl⟩
    ·have J:¬E<F:=by omega
     go_wp2_with fail;go_meet;exact⟨by simp[J],rfl⟩
  ·by_cases d1:(FN:Int)<E
   ·have aw:FN<E:=by omega
    go_wp2_with fail;go_meet;exact⟨by simp[aw],rfl⟩
   ·have aw:¬FN<E:=by omega
    cases fi
    ·go_wp2_with fail;go_meet;exact⟨by simp[aw],rfl⟩
    ·by_cases d3:E=FN
     ·subst d3;by_cases d2:(E:Int)<F
      ·have J:E<F:=by omega
       go_wp2_with fail;go_meet;exact⟨by simp[J],rfl⟩
      ·have J:¬E<F:=by omega
       go_wp2_with fail;go_meet;exact⟨by simp[J],rfl⟩
     ·have d3b:((E:Int)==(FN:Int))=false:=by rw[zd7];simpa using d3
      go_wp2_with fail;go_meet;exact⟨by simp[aw,d3],rfl⟩
 case rest =>
 obtain⟨rfl,hw⟩:=hcut;obtain⟨WA,aQ⟩:=nn wc;subst aQ;cases hbv:bad with
 | true =>
  rw[hbv]at HB;go_wp2_with fail;go_ret;have hd:=zpv (c:=c) (f:=f) ac.out (by rw[HX.out];exact HB.out);rw[hd];exact⟨rfl,B.out (R0.out.mod0 (by rw[hw];exact(Mod.refl NoB W1).drew))⟩
 | false =>
 rw[hbv]at HB;have ax:Hid ((c.rs k).badEnd f=false):=zb (by rw[HX.out];exact HB.out);subst hw;go_upto_if 65 with fail;obtain⟨t,aR⟩:=nm (max F E);have D:=zb aR
 go_cut [] (fun P=>Hid (zt tag i b W1 V { c with rs:=upd c.rs k { x with high:=t } } tag V P∧(¬(F<E∧(GR<E∨CG<E-F+zcC c.rs 8)))∧t≤1099511627776))
 case first=>as_aux_lemma =>
  have ba:Hid (c={ c with rs:=upd c.rs k x }):=zb (by rw[←HX.out,zaB]);by_cases hEH:(F:Int)<E
  ·have w3:=wu ((E:Int)-F) (by omega);go_wp2_with fail
   go_loopw [7,72] (fun tv jv wr=>∃j:Nat,j≤8∧jv = .int .i64 (j:Int)∧tv = .int .u64 ((E:Int)-F+(zcC c.rs j:Nat))∧wr=W1.drew) (fun _ jv _=>8-(intOf jv).toNat)
   case atStart=>exact⟨0,by omega,rfl,by simp[zcC],rfl⟩
   case round =>
    obtain⟨j,hj,rfl,rfl,rfl⟩:=hrel;have aS:=a5.out j hj;by_cases y:j<8
    ·have cj:=bJ.out j y;have bN:=a5.out (j+1) (by omega);have aT:zcC c.rs (j+1)=zcC c.rs j+(c.rs j).high:=rfl;obtain⟨S,O⟩:=nm (zcC c.rs j);obtain⟨bO,aU⟩:=nm ((c.rs j).high);rw[O,aU]at aT;rw[O]at aS;rw[aU]at cj;have bP:=zb aT;have w4:=wu ((E:Int)-F+(S:Int)+bO) (by omega);have dj0:(0:Int)≤j:=by omega
     have dj8:(j:Int)<8:=by omega
     rw[O];clear aS bN aT O aU;go_wp2_with fail;go_roundw
     case rel=>exact⟨j+1,by omega,by go_num,by rw[bP.out];go_num,trivial⟩
     case measure=>simp[intOf];omega
    ·have bQ:j=8:=by omega
     subst bQ;obtain⟨S,O⟩:=nm (zcC c.rs 8);have HS:=zb O;rw[O]at aS;rw[O];clear O;by_cases g1:(GR:Int)<E
     ·go_wp2_with fail;go_ret;have hd:=zhJ (c:=c) (f:=f) ac.out ax.out (by rw[HX.out,H.out,HE.out,aO.out];exact⟨by omega,.inl (by omega)⟩);rw[hd];exact⟨rfl,B.out (R0.out.mod0 (Mod.refl NoB W1).drew)⟩
     ·by_cases g2:(CG:Int)<(E:Int)-F+S
      ·go_wp2_with fail;go_ret;have hd:=zhJ (c:=c) (f:=f) ac.out ax.out (by rw[HX.out,H.out,HE.out,aP.out,HS.out];exact⟨by omega,.inr (by omega)⟩);rw[hd];exact⟨rfl,B.out (R0.out.mod0 (Mod.refl NoB W1).drew)⟩
      ·have hz:=(((R0.out.mod0 (Mod.refl NoB W1).drew).same ba.out).storeR hk 4 (by decide) (.int .u64 (E:Int)) { x with high:=t } (by rw[←D.out,Nat.max_eq_right (by omega)];rfl) rfl rfl);rw[Nat.mul_comm 13 k]at hz;have HZ:=zb hz;have f4:=fz (129+k*13+4);clear hz;go_wp2_with fail;go_meet;exact zb ⟨HZ.out,by rw[HS.out];omega,by rw[←D.out];omega⟩
  ·go_wp2_with fail;go_meet;refine zb ⟨((R0.out.mod0 (Mod.refl NoB W1).drew).same ba.out).same ?_,by omega,by rw[←D.out];omega⟩;rw[←D.out,Nat.max_eq_left (by omega),←H.out]
 case rest =>
 obtain⟨WB,bR⟩:=nn wc;subst bR;have bb:=hcut;clear hcut;obtain⟨rb,ad,cp⟩:=id bb.out;have z5:WB.cell? ⟨fb,5,none⟩=some (.bool fi):=by rw[←a7.out];exact(aN.out rb).cells.2.2.2.2.2.1
 have bc:=zb ad;obtain⟨Q,bd⟩:∃Q:RS,{ x with high:=t,ended:=en||fi,fin:=if fi then E else FN }=Q:=⟨_,rfl⟩;have L:=zb bd;have RB:=zb rb;have bS:=rb.c.fz;have ae:=rb.storeR hk 6 (by decide) (.bool true) { x with high:=t,ended:=true } (by rfl) rfl rfl;have aV:=ae.storeR hk 5 (by decide) (.int .u64 (E:Int)) { x with high:=t,ended:=true,fin:=E } (by rfl) rfl rfl;have aF:=ae.c.fz;have aG:=ae;rw[Nat.mul_comm 13 k]at ae aV aF;have be:=zb aV;obtain⟨u5,bT⟩:∃v,WB.cell? ⟨b,129+k*13+5,none⟩=some v:=⟨_,by rw[Nat.mul_comm k 13];exact rb.c.r (j:=5) hk rfl⟩;obtain⟨u6,bU⟩:∃v,WB.cell? ⟨b,129+k*13+6,none⟩=some v:=⟨_,by rw[Nat.mul_comm k 13];exact rb.c.r (j:=6) hk rfl⟩;obtain⟨u7,bV⟩:∃v,(WB.setCell ⟨b,129+k*13+6,none⟩ (.bool true)).cell? ⟨b,129+k*13+5,none⟩=some v:=⟨_,by rw[Nat.mul_comm k 13];exact aG.c.r (j:=5) hk rfl⟩;clear rb ae aG aV ad bd r4 r5 r6 bH bI fz y1 y2 y5 y8;go_upto_if 104 with fail
 go_cut [] (fun P=>Hid (zt tag i b W1 V { c with rs:=upd c.rs k Q } tag V P))
 case first=>as_aux_lemma =>
  cases fi with
  | true =>
   go_wp2_with fail;go_meet;refine zb (be.out.same ?_);rw[←L.out];simp
  | false =>
   go_wp2_with fail;go_meet;refine zb (RB.out.same ?_);rw[←L.out,←a8.out,←a9.out];simp
 case rest =>
 obtain⟨WC,bW⟩:=nn wc;subst bW;have RC:=hcut;clear hcut bS aF z5 RB be bb bT bU bV;obtain⟨G,bX⟩:=nm x.b.length;have aW:=zb bX;have cq:Hid (Q.b=x.b):=zb (by rw[←L.out]);have bf:Hid (Q.high=t):=zb (by rw[←L.out]);have q9:G≤t:=by rw[←aW.out,←D.out];omega
 go_wp2_with fail
 go_loopw [] (fun wr=>∃(n:Nat) (tag':Nat→Nat×Nat) (V':CV),G+n≤t∧Hid (zt tag i b W1 V { c with rs:=upd c.rs k { Q with b:=x.b++List.replicate n 0 } } tag' V' wr)) (fun wr=>t-(match wr.cell? ⟨b,129+k*13,none⟩with|some (.slice _ n _)=>n|_=>0))
 case atStart=>exact⟨0,tag,V,by omega,zb (RC.out.same (by rw[←L.out];simp))⟩
 case round =>
  obtain⟨n,bh,V1,hn,HR⟩:=hrel;have hR:=HR.out;obtain⟨bs,ay⟩:=nm (x.b++List.replicate n 0);rw[ay]at hR HR;have aX:bs.length=G+n:=by rw[←ay];simp[aW.out]
  have aY:OB wr (V1.rb k) bs:=by have:=hR.c.rb k hk;simpa only[ze]using this
  obtain⟨sa,af,hv,bY,bZ,aZ⟩:=zi aY;rw[aX]at hv bY aZ;unfold maxLen at bZ;have v0:wr.cell? ⟨b,129+k*13,none⟩=some (.slice sa (G+n) af):=by rw[←hv,Nat.mul_comm];exact hR.c.r (j:=0) hk rfl
  have v4:wr.cell? ⟨b,129+k*13+4,none⟩=some (.int .u64 (t:Int)):=by
   have:=hR.c.r (j:=4) (v:=.int .u64 (t:Int)) hk (by simp only[ze];rw[←bf.out];rfl);rw[Nat.mul_comm];exact this
  have w5:=wu ((G:Int)+n) (by omega);have bi:=zb ay;have R:=zb aX;have b0:=zb aY;have HV:=zb hv;have HC3:=zb aZ;clear HR;have HR:=zb hR;clear hR ay aX aY hv aZ;by_cases y:G+n<t
  ·have aH:(G:Int)+n<t:=by omega
   obtain⟨Wc,a0⟩:=nm (wr.alloc (.cells #[.int .u8 0] 5));have mc:Mod NoB wr Wc:=by rw[←a0];exact(Mod.refl _ _).alloc _
   have oc:Wc.heap[wr.heap.size]?=some (.cells #[.int .u8 0] 5 (0,0)):=by rw[←a0];exact heap_alloc_new wr _
   have bj:BR Wc.drew (.slice (some ⟨wr.heap.size,0,none⟩) [(0:UInt8)].length 1) [(0:UInt8)] :=
    ⟨_,_,rfl,by simp,by unfold maxLen;omega,fun q cc hq=>⟨_,_,rfl,by
     have b1:q=0:=by
      have:=(List.getElem?_eq_some_iff.1 hq).1;simp at this;omega
     subst b1;simp at hq;subst hq;exact za (o:=0+0) oc rfl⟩⟩
   have aI:bs.length + [(0:UInt8)].length≤140737488355328:=by rw[R.out];simp;omega
   have a1:Mod NoB wr Wc.drew:=mc.drew;obtain⟨v',W2,happ,ha⟩:=zmt Wc.drew (V1.rb k) bs ⟨wr.heap.size,0,none⟩ 1 [0] (a1.owns b0.out (fun _ _ x=>x)) bj aI;obtain⟨⟨tag2,V2,r2⟩,x2,f2⟩:=(HR.out.mod0 a1).rapp hk (s:=[0]) (v':=v') (W2:=W2) (by simp only[ze];exact ha);obtain⟨va,vc,rfl,_⟩:=zi ha.own;have b2:=r2;have e2:=r2.c.rb k hk;obtain⟨ea,ec,he,_⟩:=zi e2;have e3:=r2.c.r (j:=0) hk rfl;rw[he]at e3;have ah:((({ ({ c with rs:=upd c.rs k { Q with b:=bs } }:CS)with rs:=upd (upd c.rs k { Q with b:=bs }) k { (upd c.rs k { Q with b:=bs }) k with b:=((upd c.rs k { Q with b:=bs }) k).b++[0] } }:CS).rs k).b).length=G+n+1:=by
    simp only[ze,List.length_append,R.out];rfl
   rw[ah]at e3;rw[Nat.mul_comm 13 k]at x2 f2 r2 e3;rw[List.length_append,R.out]at happ;rw[HV.out]at happ x2;have e3:(W2.setCell ⟨b,129+k*13,none⟩ (.slice va (bs++[0]).length vc)).cell? ⟨b,129+k*13,none⟩=some (.slice ea (G+n+1) ec):=e3;have bk:=zb e3;have R2:=zb r2;have az:[(0:UInt8)].length=1:=rfl;rw[az]at happ;rw[List.length_append,R.out,az]at R2;rw[List.length_append,R.out,az]at bk;subst a0;clear ha r2 b2 e2 he e3 ah a1 aI bj oc mc;go_upto_region 17 with fail;refine zB ?_;refine zm 11 (fun w'=>w'.cell? ⟨b,129+k*13,none⟩=some (.slice sa (G+n) af)∧w'.cell? ⟨b,129+k*13+4,none⟩=some (.int .u64 (t:Int))) (⟨v0,v4⟩) ?_;refine GI 0 ?_;iterate 11
    refine GS rfl ?_ ?_ ?_;rotate_left
    ·(intro P I;obtain⟨f0,f4⟩:=I;go_simp;try with_reducible rfl)
    try simp only[PS]
   refine zo ?_;refine⟨rfl,?_⟩;go_wp2_with (at_builtin;refine zl rfl _ _ _ _ rfl _ _ _ rfl rfl happ ?_);go_roundw
   case rel =>
    refine⟨n+1,tag2,V2,by omega,zb (R2.out.same ?_)⟩;simp only[ze,zgO,←bi.out,List.append_assoc,List.replicate_succ']
   case measure =>
    have e3:=bk.out;simp only[v0];rw[e3];show t-(G+n+1)<t-(G+n);omega
  ·have bm:G+n=t:=by omega
   have bn:Hid (bs=zhw x.b t):=zb (by
    rw[←bi.out];unfold zhw;rw[aW.out,show t-G=n by omega])
   have aH:¬(G:Int)+n<t:=by omega
   obtain⟨y0,y1,y2,y3,y4,y5,y6,y7,y8,y9⟩:=(aN.out HR.out).cells;rw[ab.out]at y2;have bo:=zb bK.out.came;have b3:=zb bm;clear bm y;go_upto_region 17 with fail;refine zB ?_;refine zm 11 (fun w'=>w'.cell? ⟨b,129+k*13,none⟩=some (.slice sa (G+n) af)∧w'.cell? ⟨b,129+k*13+4,none⟩=some (.int .u64 (t:Int))) (⟨v0,v4⟩) ?_;refine GI 0 ?_;iterate 11
    refine GS rfl ?_ ?_ ?_;rotate_left
    ·(intro P I;obtain⟨f0,f4⟩:=I;go_simp;try with_reducible rfl)
    try simp only[PS]
   refine zo ?_;refine⟨rfl,?_⟩;clear y0 y1 y3 y4 y5 y6 y7 y9;go_upto_region 19 with fail
   go_cut [9] (fun ov P=>ov = .int .u64 (off:Int)∧P=wr.drew)
   case first=>as_aux_lemma =>
    go_wp2_with fail;go_meet;exact⟨rfl,rfl⟩
   case rest =>
   obtain⟨rfl,hw⟩:=hcut;obtain⟨WD,b4⟩:=nn wc;subst b4;subst hw;have Z:=aa.out;have b5:Hid (zfx off d E (DL+1) off bs x.came=x.dataB f):=zb (by
    unfold RS.dataB;rw[ab.out,aE.out,a6.out,HE.out,H.out,D.out,bn.out])
   have bp:Hid (Q.came=x.came):=zb (by rw[←L.out]);have bq:Hid ({ Q with b:=(x.dataB f).1,came:=(x.dataB f).2 }=x.data f):=zb (by
    rw[←L.out];unfold RS.data;rw[HE.out,H.out,D.out,a7.out,a8.out,a9.out])
   have aA:Hid (E≤t):=zb (by rw[←D.out];exact Nat.le_max_right _ _);have b6:off≤E:=by omega
   clear Z aH v0 v4 y2 y8;go_wp2_with fail
   go_loopw [9] (fun lv b7=>∃(lo m:Nat) (l:List UInt8) (s:zaI) (tag':Nat→Nat×Nat) (V':CV),lv = .int .u64 (lo:Int)∧off≤lo∧lo≤E∧Hid (zt tag i b W1 V { c with rs:=upd c.rs k { Q with b:=l,came:=s } } tag' V' b7∧l.length=t∧s.Ok∧E<lo+m∧zfx off d E m lo l s=x.dataB f)) (fun lv _=>E-(intOf lv).toNat)
   case atStart=>exact⟨off,DL+1,bs,x.came,bh,V1,rfl,Nat.le_refl _,b6,zb ⟨(HR.out.mod0 (Mod.refl NoB wr).drew).same (by rw[←bp.out]),by rw[R.out];exact b3.out,by rw[←HX.out];exact bo.out,by have:=aa.out;omega,b5.out⟩⟩
   case round =>
    obtain⟨lo,m,l,s,cv,V3,rfl,az,hl2,z⟩:=hrel;have a2:=zb z.out.2.2.2.2;by_cases y:lo<E
    ·have aB:=z.out.1;have a3:OB wr (V3.rb k) l:=by have:=aB.c.rb k hk;simpa only[ze]using this
     obtain⟨sa3,u,aC,bt,bu,ai⟩:=zi a3;rw[z.out.2.1]at aC bt ai;unfold maxLen at bu;have aR:0<t:=by have:=aA.out;omega
     obtain⟨g3,rfl⟩:=ai aR;have v0:=aB.c.r (k:=k) (j:=0) (v:=V3.rb k) hk rfl;rw[aC,Nat.mul_comm 13 k,Nat.add_zero]at v0;have aj:=aB.c.rcameAt hk (by simp only[ze];have:=z.out.2.2.1.rl;have:=z.out.2.2.1.most.2;omega);simp only[ze]at aj;have kg:=ziT s.rs s.fl s.most b (129+13*k+1) lo E (V3.rc k) wr aj (by omega) (fun j hj=>by have:=z.out.2.2.1.hi j hj;unfold zD at this;omega);rw[Nat.mul_comm 13 k]at kg;have b8:=zmD s.rs (fun r hr=>by
      obtain⟨j,hj,rfl⟩:=List.mem_iff_getElem.1 hr;have h5:=z.out.2.2.1.hi j hj;have e:s.rs.getD j (0,0)=s.rs[j]:=by simp[List.getD,hj]
      unfold hiAt at h5;rw[e]at h5;unfold zD at h5;omega) lo E (by omega)
     have b9:=zd6 s.rs lo E;have aD:=ze9 s.rs lo E y;have A:=zb (fun n=>znc off d E n lo l s y);have M:=zb (fun h=>znd off d E m lo l s y h (by have:=z.out.2.2.2.1;omega));obtain⟨p,bw⟩:=nm ((za1 s.rs lo E).1);obtain⟨w,bz⟩:=nm ((za1 s.rs lo E).2);rw[bw]at b8 aD kg A M;rw[bz]at b9 aD kg A;have KG:=zb kg;have bA:=zb aC;have ca:=zb a3;have bB:(lo:Int)<E:=by omega
     clear kg aj aC a3 bw bz aB ai y;by_cases hge:(E:Int)≤p
     ·have ak:Hid ((l,s)=x.dataB f):=zb (by rw[←a2.out,M.out (by omega)]);clear aD;go_wp2_with (go_at_call 91;refine KG.out.mono ?_;rintro _ W3 ⟨rfl,m3⟩;have M3:=zb m3;clear m3);go_ret;have hd:=zhK (c:=c) (f:=f) ac.out ax.out (by rw[HX.out,H.out,HE.out,aO.out,aP.out];exact bc.out);rw[hd];refine⟨rfl,B.out ((z.out.1.mod0 M3.out).same ?_)⟩;rw[HX.out,←bq.out,←ak.out]
     ·obtain⟨hg4,hg5⟩:=aD (by omega);have hm0:0<m:=by have:=z.out.2.2.2.1;omega
      have bC:Hid (zfx off d E (m-1) w (zfG l p ((d.drop (p-off)).take (w-p))) (s.add p (w-1))=x.dataB f):=zb (by
       rw[←A.out (m-1) (by omega),show m-1+1=m by omega];exact a2.out)
      clear A M;go_upto_region 24 with(go_at_call 91;refine KG.out.mono ?_;rintro _ W3 ⟨rfl,m3⟩;have M3:=zb m3;clear m3);have R3:=zb (z.out.1.mod0 M3.out);obtain⟨y0,y1,y2,y3,y4,y5,y6,y7,y8,y9⟩:=(aN.out R3.out).cells;rw[ab.out]at y2;rw[aE.out]at y8;have v3:=M3.out.cell (a:=⟨b,_,none⟩) id v0;have bD:OB W3.drew (.slice (some ⟨g3,0,none⟩) l.length u) l:=by
       have:=(M3.out.drew).owns ca.out (fun _ _ x=>x);rw[bA.out,←z.out.2.1]at this;exact this
      have al:((d.drop (p-off)).take (w-p)).length=w-p:=by
       rw[List.length_take,List.length_drop,a6.out];have:=aa.out;omega
      obtain⟨W4,am,an,m4⟩:=zrb (lo:=p) (s:=(d.drop (p-off)).take (w-p)) bD (by rw[al,z.out.2.1];have:=aA.out;omega) (w-p) (u-p) (by rw[al];exact Nat.le_refl _);have s1:(p:Int)≤w:=by omega
      have s2:(w:Int)≤u:=by have:=aA.out;omega
      have s3:¬u=p:=by omega
      have s4:=wu ((p:Int)-off) (by omega);have s5:=wu ((w:Int)-off) (by omega);have s6:(p:Int)-off≤(w:Int)-off:=by omega
      have s7:(w:Int)-off≤DL:=by have:=aa.out;omega
      have s8:0≤(p:Int)-off:=by omega
      have s9:off≤p:=by omega
      have s10:off≤w:=by omega
      obtain⟨S,O⟩:=nm ((d.drop (p-off)).take (w-p));have bE:(zq d).extract (p-off) (w-off)=zq S:=by rw[zbK,show w-off-(p-off)=w-p by omega,O]
      rw[O]at am an al bC;rw[al]at am;have HHS:=zb O;clear O;have cd:=zb am;have ce:=zb an;have M4:=zb m4;clear am an m4 bD;refine zB ?_;refine zm 18 (fun w'=>w'.cell? ⟨b,129+k*13,none⟩=some (.slice (some ⟨g3,0,none⟩) t u)∧w'.cell? ⟨fb,2,none⟩=some (.int .u64 (off:Int))∧w'.cell? ⟨fb,8,none⟩=some (.string (zq d))) (⟨v3,y2,y8⟩) ?_;refine GI 0 ?_;iterate 18
       refine GS rfl ?_ ?_ ?_;rotate_left
       ·(intro P I;obtain⟨f0,f2,f8⟩:=I;go_simp;try with_reducible rfl)
       try simp only[PS]
      refine zW rfl (fun K hK=>?_);try rw[bE]
      have am:=cd.out;go_simp;refine hK.out _ _ ?_;clear hK K;try simp only[PS]
      refine zo ?_;refine⟨rfl,?_⟩;obtain⟨cw,V4,r4⟩:=(R3.out.mod0 (Mod.refl NoB W3).drew).rturn hk bA.out (by have:=ce.out;rw[z.out.2.1]at this;exact this) M4.out;have k5:=r4.addRcame hk (by simp only[ze];exact z.out.2.2.1) p (w-1) (by unfold zD;omega) (by unfold zD;omega);have hz:((w-1:Nat):Int)=(w:Int)-1:=by omega
      have w6:=wu ((w:Int)-1) (by omega);rw[hz,Nat.mul_comm 13 k]at k5;have ci:=zb k5;have ck:=zb al;clear k5 r4 hz bE v0 v3 y0 y1 y2 y3 y4 y5 y6 y7 y8 y9 s1 s2 s3 s4 s5 s6 s7 s8;go_wp2_with fail;refine(ci.out).mono ?_;rintro e W6 ⟨rfl,⟨bF,V6,r6,_⟩,_⟩;have R6:=zb r6;clear r6;go_wp2_with fail;go_roundw
      case rel =>
       refine⟨w,m-1,zfG l p S,s.add p (w-1),bF,V6,rfl,by omega,by omega,zb ⟨R6.out.same ?_,?_,z.out.2.2.1.add _ (by unfold zD;omega),by have:=z.out.2.2.2.1;omega,bC.out⟩⟩
       ·simp only[ze,zgO]
       ·rw[zbz _ _ _ (by rw[ck.out,z.out.2.1];have:=aA.out;omega)];exact z.out.2.1
      case measure=>simp[intOf];omega
    ·have co:lo=E:=by omega
     have ak:Hid ((l,s)=x.dataB f):=zb (by rw[←a2.out,zpu _ _ _ _ _ _ _ y]);have bB:¬(lo:Int)<E:=by omega
     clear y co;go_wp2_with fail;go_ret;have hd:=zhK (c:=c) (f:=f) ac.out ax.out (by rw[HX.out,H.out,HE.out,aO.out,aP.out];exact bc.out);rw[hd];refine⟨rfl,B.out (z.out.1.same ?_)⟩;rw[HX.out,←bq.out,←ak.out]
structure zrc(c:CS)(f:Frm):Prop where
 most:c.most≤zD
 id:f.id≤zD
 dl:f.dl≤zD
 now:c.now≤zD
 nd:(c.seen.map (·.1)).Nodup
 ids:∀p∈c.seen,p.1≤zD
 len:c.seen.length≤1099511627776
 cm:c.came.length≤1099511627776
def CS.drops(c:CS)(f:Frm):Bool:=(c.seen.any fun p=>p.1==f.id)||decide (f.dl<c.now)||(decide (0<c.seen.length)&&old c.most f.id)
theorem zhL(h:c.drops f=true):c.message f=c:=by
 unfold CS.message;unfold CS.drops at h;rw[if_pos h]
theorem zhM(h:c.drops f=false):c.message f={ c with most:=max c.most f.id,seen:=(c.seen++[(f.id,f.dl)]).filter (fun p => !old (max c.most f.id) p.1),came:=c.came++[(f.id,f.data)] }:=by
 unfold CS.message;unfold CS.drops at h;rw[if_neg (by rw[h];simp)]
theorem znf{x:Nat}(h:x<18446744073709551616):(Lit.int .u64 (x:Int)).wf=true:=by
 show(decide ((0:Int)≤x)&&decide ((x:Int)≤18446744073709551615))=true;rw[decide_eq_true (by omega),decide_eq_true (by omega)];rfl
theorem zke{x y:Nat}(h:x≠y):(Lit.int .u64 (x:Int))≠(Lit.int .u64 (y:Int)):=fun e=>by
 cases e;exact h (by omega)
theorem zcv:Go.Maps.Keyed prog 43:=Go.Maps.int_keyed underlying43
theorem zhN{x:Nat}(h:x<18446744073709551616):keyOf prog 43 (.int .u64 (x:Int))=some (.int .u64 (x:Int)):=Go.Maps.keyOf_int_mk underlying43 (znf h)
theorem val_of{x:Nat}(h:x<18446744073709551616):plainElem (H:=Unit) prog 43 (.int .u64 (x:Int))=some (.lit (.int .u64 (x:Int)),[]):=plainElem_int underlying43 (znf h)
theorem zpw(w:World):(zeroValue 43).run prog w = .ok (.int .u64 0) w:=by kernel_rfl
theorem zng{D:DataW Unit}(h:w.ownsMap prog 43 (plainElem prog 43) b n D):w.ownsMap prog 43 (plainElem prog 43) b (Go.Maps.size D) D:=by
 obtain⟨es,a,h1,h2,h3,rfl⟩:=h;refine⟨es,a,h1,h2,?_,rfl⟩;simp[Go.Maps.size,length_sorted]
theorem zbq.look{l:List (Nat×Nat)}(h:zbq w b l){x:Nat}(a:x<18446744073709551616):∃v,(Instr.lookup 124 (.map (some b)) (.int .u64 (x:Int)) true).run prog w = .ok (.tuple #[v,.bool (l.any fun p=>p.1==x)]) w:=by
 obtain⟨D,ho,_,hh⟩:=h;obtain⟨v,ps,c,_⟩:=ho.look_ok zcv underlying124 (zpw w) (plainElem_int (H:=Unit) underlying43 (znf (x:=0) (by omega))) (zhN a);rw[hh x a]at c;exact⟨v,c⟩
theorem zbq.len{l:List (Nat×Nat)}(h:zbq w b l)(a:TypeId):(Builtin.len_ #[124] a #[.map (some b)]).run prog w = .ok (.int .i64 (l.length:Int)) w:=by
 obtain⟨D,ho,hs,_⟩:=h;have:=ho.len underlying124 a;rw[hs]at this;exact this
theorem zbq.put{l:List (Nat×Nat)}(h:zbq w b l){x y:Nat}(a:x<18446744073709551616)(hy:y<18446744073709551616)(hn:l.any (fun p=>p.1==x)=false)(hl:l.length≤1099511627776):∃w',(Instr.mapUpdate 124 (.map (some b)) (.int .u64 (x:Int)) (.int .u64 (y:Int))).run prog w = .ok () w'∧zbq w' b (l++[(x,y)])∧Mod (fun q=>q=b) w w':=by
 obtain⟨D,c,hs,f⟩:=h;obtain⟨w',hr,d,hg⟩:=c.update zcv underlying124 (by unfold maxLen;omega) (zhN a) (val_of hy);refine⟨w',hr,⟨_,by rw[List.length_append];exact d,?_,fun z hz=>?_⟩,(Mod.refl _ w).grown hg (fun k hk=>.inl (by cases hk;rfl))⟩
 ·rw[Go.Maps.size_put (c.tidy zcv),f x a,hn,List.length_append,hs];rfl
 ·rw[List.any_append];by_cases e:z=x
  ·subst e;rw[Go.Maps.has_put_same c.isMap (zcv.key (zhN a))];simp
  ·rw[Go.Maps.has_put_other (zke e),f z hz];have:¬x=z:=fun y=>e y.symm
   simp[this]
structure zev(L:List (Nat×Nat))(M:Nat)(left:Lit→Bool)(D:DataW Unit)(del:Nat→Bool):Prop where
 has:∀x:Nat,x<18446744073709551616→Maps.has D (.int .u64 (x:Int))=(L.filter fun p => !del p.1).any fun p=>p.1==x
 sz:Maps.size D=(L.filter fun p => !del p.1).length
 old:∀x,del x=true→old M x=true
 done:∀p∈L,left (.int .u64 (p.1:Int))=false→del p.1=Go.Proofs.YtddfdpbaiedcjaaGreatDoor.old M p.1
theorem zfa(L:List (Nat×Nat))(del:Nat→Bool)(x:Nat):(L.filter fun p => !(del p.1||p.1==x))=(L.filter fun p => !del p.1).filter fun p => !(p.1==x):=by
 rw[List.filter_filter]
 congr 1
 funext p;cases del p.1<;>simp
theorem zf5:∀(L:List (Nat×Nat)) (x:Nat),(L.map (·.1)).Nodup→L.any (fun p=>p.1==x)=true→(L.filter fun p => !(p.1==x)).length+1=L.length
 | [],x,_,h=>by simp at h
 | p::L,x,hn,h=>by
  simp only[List.map_cons,List.nodup_cons]at hn;by_cases e:p.1=x
  ·have a:∀q∈L,¬q.1=x:=fun q b e2=>hn.1 (by rw[e,←e2];exact List.mem_map_of_mem b)
   have:(p::L).filter (fun p => !(p.1==x))=L:=by
    rw[List.filter_cons_of_neg (by simp[e]),List.filter_eq_self];intro q b;simp[a q b]
   rw[this];rfl
  ·have h2:L.any (fun p=>p.1==x)=true:=by simpa [e]using h
   rw[List.filter_cons_of_pos (by simp[e])];simp only[List.length_cons];have:=zf5 L x hn.2 h2;omega
theorem zev.start{w:World}{b:Nat}{L:List (Nat×Nat)}{M:Nat}{D:DataW Unit}(c:∀x:Nat,x<18446744073709551616→Maps.has D (.int .u64 (x:Int))=L.any fun p=>p.1==x)(hs:Maps.size D=L.length)(hb:∀p∈L,p.1≤zD):zev L M (Maps.has D) D (fun _=>false):=by
 have e:(L.filter fun _ => !false)=L:=by simp
 refine⟨fun x a=>by rw[e,c x a],by rw[e,hs],fun x a=>by simp at a,fun p d hl=>?_⟩;have h1:=hb p d;unfold zD at h1;rw[c p.1 (by omega)]at hl;have:L.any (fun q=>q.1==p.1)=true:=List.any_eq_true.2 ⟨p,d,by simp⟩;rw[this]at hl;cases hl
theorem zev.keep{L:List (Nat×Nat)}{M:Nat}{left:Lit→Bool}{D:DataW Unit}{del:Nat→Bool}(h:zev L M left D del){x:Nat}(hx:x<18446744073709551616)(a:Go.Proofs.YtddfdpbaiedcjaaGreatDoor.old M x=false)(hb:∀p∈L,p.1≤zD):zev L M (fun z=>left z && !z.sameKey (.int .u64 (x:Int))) D del:=by
 refine⟨h.has,h.sz,h.old,fun p hp hl=>?_⟩;by_cases e:p.1=x
 ·rw[e,a];cases hd:del x with
  | false=>rfl
  | true =>
   have:=h.old x hd;rw[a]at this;cases this
 ·refine h.done p hp ?_;rw[Go.Maps.sameKey_ne (zke e)]at hl;simpa using hl
theorem zev.strike{L:List (Nat×Nat)}{M:Nat}{left:Lit→Bool}{D:DataW Unit}{del:Nat→Bool}(h:zev L M left D del){x:Nat}(g:x<18446744073709551616)(i:Go.Proofs.YtddfdpbaiedcjaaGreatDoor.old M x=true)(hn:(L.map (·.1)).Nodup)(hd:Go.Maps.has D (.int .u64 (x:Int))=true)(ht:Go.Maps.Tidy D):zev L M (fun z=>left z && !z.sameKey (.int .u64 (x:Int))) (D.del (.int .u64 (x:Int))) (fun z=>del z||z==x):=by
 have hk:Go.WideAt.IsKeyLit (.int .u64 (x:Int)):=zcv.key (zhN g);have c:(L.filter fun p => !del p.1).any (fun p=>p.1==x)=true:=by rw[←h.has x g];exact hd
 have f:((L.filter fun p => !del p.1).map (·.1)).Nodup:=hn.sublist (List.filter_sublist.map _);refine⟨fun z a=>?_,?_,fun z a=>?_,fun p b hl=>?_⟩
 ·rw[zfa];by_cases e:z=x
  ·subst e;rw[Go.Maps.has_del_same]
   symm
   rw[List.any_eq_false];intro p b;have:=(List.mem_filter.1 b).2;simpa using this
  ·rw[Go.Maps.has_del_other (zke e),h.has z a];rw[Bool.eq_iff_iff,List.any_eq_true,List.any_eq_true];constructor
   ·rintro⟨p,b,d⟩;refine⟨p,List.mem_filter.2 ⟨b,?_⟩,d⟩;have:p.1=z:=by simpa using d
    simp[this,e]
   ·rintro⟨p,b,d⟩;exact⟨p,(List.mem_filter.1 b).1,d⟩
 ·rw[zfa];have h1:=zf5 _ x f c;have h2:=Go.Maps.size_del (k:=.int .u64 (x:Int)) ht;rw[hd]at h2;simp only[if_true]at h2;have h3:=h.sz;omega
 ·rcases Bool.or_eq_true_iff.1 a with a|a
  ·exact h.old z a
  ·have:z=x:=by simpa using a
   rw[this];exact i
 ·by_cases e:p.1=x
  ·simp[e,i]
  ·have:=h.done p b (by rw[Go.Maps.sameKey_ne (zke e)]at hl;simpa using hl);simp[e,this]
theorem zev.fin{L:List (Nat×Nat)}{M:Nat}{left:Lit→Bool}{D:DataW Unit}{del:Nat→Bool}(h:zev L M left D del)(hl:∀kl,left kl=false)(ho:w.ownsMap prog 43 (plainElem prog 43) b n D):zbq w b (L.filter fun p => !Go.Proofs.YtddfdpbaiedcjaaGreatDoor.old M p.1):=by
 have e:(L.filter fun p => !del p.1)=L.filter fun p => !Go.Proofs.YtddfdpbaiedcjaaGreatDoor.old M p.1:=by
  apply List.filter_congr;intro p hp;rw[h.done p hp (hl _)]
 have h1:=h.has;have h2:=h.sz;rw[e]at h2;refine⟨D,by rw[←h2];exact zng ho,h2,fun x hx=>?_⟩;rw[h1 x hx,e]
theorem zt.seen{l:List (Nat×Nat)}(h:zt tag i b W0 V0 c tag' V' W')(m:Mod (fun q=>q=V'.sn) W' W'')(hs:zbq W'' V'.sn l):zt tag i b W0 V0 { c with seen:=l } tag' V' W'':=by
 have hb:¬b=V'.sn:=fun e=>by
  have h1:=h.c.tsn;rw[←e,h.c.tb]at h1;simp at h1
 refine⟨h.c.build (R:=fun r=>r=7) m (fun q a=>⟨7,rfl,by rw[show q=V'.sn from a];exact h.c.tsn⟩) (fun _ _=>rfl) (m.obj hb h.c.obj) (.inl ⟨rfl,rfl,rfl,by omega,by omega⟩) (fun k hk=>.inl ⟨rfl,rfl,by omega⟩) (fun k hk=>.inl ⟨rfl,rfl,by omega⟩) (fun k hk=>.inl ⟨rfl,rfl,by omega⟩) (fun k hk=>.inl ⟨rfl,rfl,by omega⟩) (fun k hk=>.inl ⟨rfl,rfl,by omega⟩) (.inl ⟨rfl,rfl,rfl,by omega,by omega⟩) (.inl ⟨rfl,rfl,by omega⟩) (.inr ⟨hs,h.c.tsn⟩) (.inl ⟨rfl,rfl,by omega⟩),⟨h.e.old,h.e.new,h.e.out.mod m⟩,zap h.e h.m (m.mono (fun q a=>.inl (zbk (r:=7) (by rw[show q=V'.sn from a];exact h.c.tsn) (by decide)))),h.p,h.ft⟩
theorem zpx:(prog.info? 154).map (fun i=>(i.zero,i.size,i.bytes))=some (some (.agg #[.int .u64 0,.string ⟨#[]⟩]),2,24):=by kernel_rfl
theorem zrd(w:World)(v:Value)(l:List (Nat×List UInt8))(id:Nat)(s:List UInt8)(h:w.ownsRow 0 154 2 v l.length (zac l))(hl:l.length≤1099511627776):∃v' w',(∀ty,(Builtin.append_ #[125,125] ty #[v,.slice (some ⟨w.heap.size,0,none⟩) 1 1]).run prog (w.alloc (.cells #[.int .u64 (id:Int),.string (zq s)] 154)) = .ok v' w')∧w'.ownsRow 0 154 2 v' (l.length+1) (zac (l++[(id,s)]))∧(w.alloc (.cells #[.int .u64 (id:Int),.string (zq s)] 154)).grownBy w' v.ownBlock∧zaH w v v':=by
 obtain⟨o,d⟩:=nm ((Obj.cells #[.int .u64 (id:Int),.string (zq s)] 154 (0,0)));obtain⟨i,a,hz,b,c⟩:=info_parts zpx;have hc:∀(j:Nat) u,(zac [(id,s)])[j]?=some u→(w.alloc o).cell? ((⟨w.heap.size,0,none⟩:Addr).add j)=some u:=fun j u hj=>by
  rw[zU,←d];refine za (heap_alloc_new w _) ?_;rw[Nat.zero_add,←Array.getElem?_toList];exact hj
 obtain⟨v',w',k1,k2,k3,k4⟩:=zQ (P:=prog) (w.alloc o) 125 154 i _ 2 24 underlying125 a hz b c rfl (by decide) v l.length (zac l) (((Mod.refl NoB w).alloc o).owns h (fun _ _ x=>x))
  ⟨w.heap.size,0,none⟩ 1 1 (zac [(id,s)]) rfl hc (by
   intro u f;simp[zac]at f;rcases f with rfl|rfl<;>rfl) (by unfold maxLen;omega) (by omega)
 have e:zac (l++[(id,s)])=zac l++zac [(id,s)]:=by simp[zac]
 rw[d,e];refine⟨v',w',k1,k2,k3,fun g hg=>?_⟩;rcases k4 g hg with x|x
 ·exact .inl x
 ·refine .inr ?_;simp at x;omega
theorem zt.cmApp{l:List (Nat×List UInt8)}(h:zt tag i b W0 V0 c tag' V' W')(m0:Mod NoB W' W1)(d:W2.ownsRow 0 154 2 v' l.length (zac l))(hg:W1.grownBy W2 V'.cm.ownBlock)(s:zaH W' V'.cm v'):(∃tag2 V2,zt tag i b W0 V0 { c with came:=l } tag2 V2 (W2.setCell ⟨b,243,none⟩ v'))∧W2.cell? ⟨b,243,none⟩=some V'.cm∧W2.frozen? ⟨b,243,none⟩=false:=by
 have t:=h.p;have f:∀{g r:Nat},tag' g=(i,r)→g<W'.heap.size:=fun hg=>zaD h.e.out hg t
 have hb:¬V'.cm.ownBlock=some b:=fun e=>by
  have h1:=h.c.tcm b e;rw[h.c.tb]at h1;simp at h1
 have m1:Mod (fun g=>V'.cm.ownBlock=some g) W' W2:=(m0.mono (fun _ x=>x.elim)).trans ((Mod.refl _ W1).grown hg (fun g hg=>.inl hg));have o1:=m1.obj hb h.c.obj;have o:Mod (fun g=>V'.cm.ownBlock=some g∨g=b) W' (W2.setCell ⟨b,243,none⟩ v'):=(m1.mono (fun g hg=>.inl (.inl hg))).setCell (p:=⟨b,243,none⟩) (.inl (.inr rfl)) _;have hw:Mod (fun g=>g=b) W2 (W2.setCell ⟨b,243,none⟩ v'):=(Mod.refl (fun g=>g=b) _).setCell (p:=⟨b,243,none⟩) (.inl rfl) _;have hbW:b<W'.heap.size:=f h.c.tb;have q:∀g,v'.ownBlock=some g→¬g=b:=fun g hg x=>by
  subst x;rcases s g hg with y|y
  ·exact hb y
  ·omega
 have u:∀g,(V'.cm.ownBlock=some g∨g=b)→∃r,(r=1∨r=8)∧tag' g=(i,r):=fun g hg=>by
  rcases hg with hg|hg
  ·exact⟨8,.inr rfl,h.c.tcm g hg⟩
  ·exact⟨1,.inl rfl,by rw[hg,h.c.tb]⟩
 have n:∀g,(tag' g).1=i→retag tag' W' (W2.setCell ⟨b,243,none⟩ v') (i,8) g=tag' g:=fun g hg=>zy (f (r:=(tag' g).2) (by rw[←hg]))
 refine⟨⟨retag tag' W' (W2.setCell ⟨b,243,none⟩ v') (i,8),{ V' with cm:=v' },?_,h.e.trans (zbw o.size) h.m.size,zap h.e h.m (o.mono (fun g hg=>.inl ?_)),t,h.ft⟩,m1.cell (a:=⟨b,_,none⟩) hb (h.c.tl (j:=10) rfl),zf o1⟩
 ·refine h.c.build (R:=fun r=>r=1∨r=8) o u n ?_ (.inl ⟨rfl,rfl,rfl,by omega,by omega⟩) (fun k hk=>.inl ⟨rfl,rfl,by omega⟩) (fun k hk=>.inl ⟨rfl,rfl,by omega⟩) (fun k hk=>.inl ⟨rfl,rfl,by omega⟩) (fun k hk=>.inl ⟨rfl,rfl,by omega⟩) (fun k hk=>.inl ⟨rfl,rfl,by omega⟩) (.inl ⟨rfl,rfl,rfl,by omega,by omega⟩) (.inl ⟨rfl,rfl,by omega⟩) (.inl ⟨rfl,rfl,by omega⟩) (.inr ⟨hw.owns d q,fun g hg=>?_⟩)
  ·rw[zc o1,List.setIfInBounds_toArray];rw[show(243:Nat)=233+10 from rfl,zaj c { c with came:=l } V' { V' with cm:=v' } _ rfl rfl rfl rfl]
  ·rcases s g hg with y|y
   ·rw[zy (f (h.c.tcm g y)),h.c.tcm g y]
   ·exact zav y (by have:=zE d g hg;simpa using this)
 ·obtain⟨r,hr,e⟩:=u g hg;exact zbk e (by omega)
theorem zhO(h:zg tag i b c V W)(ht:zR tag W)(hi:0<i)(f:Frm)(rv:Value)(ok:zrc c f)(bd:∃a n cap,rv = .slice a n cap):Calls prog 160 #[.pointer (some ⟨b,0,none⟩),.agg (zj f rv)] W (zbC tag i b W (.tuple #[]) (c.message f)):=by
 obtain⟨ra,rn,aC,rfl⟩:=bd;obtain⟨W1,ak⟩:=nm (W.alloc (.cells (zj f (.slice ra rn aC)) 65));have m1:Mod NoB W W1:=by rw[←ak];exact(Mod.refl _ _).alloc _
 have al:zh W1 W.heap.size f (.slice ra rn aC):=by rw[←ak];exact heap_alloc_new W _
 have am:¬zai i tag W.heap.size:=fun x=>by
  have h1:=x.1;rw[ht _ (Nat.le_refl _)]at h1;simp at h1;omega
 have h1:=h.mod0 m1;have r0:zt tag i b W1 V c tag V W1:=⟨h1,Ext.same (ht.mod m1) (Mod.refl NoB W1),Mod.refl _ _,hi,⟨rfl,rfl⟩⟩;have ay:Hid (∀{c':CS} {tag':Nat→Nat×Nat} {V':CV} {W':World},zt tag i b W1 V c' tag' V' W'→zbo tag i b W c' W'):=zb (fun r =>
  ⟨_,_,r.c,zaU ht m1 r.e,(m1.mono (fun _ x=>x.elim)).then r.m.ofC (fun g hg=>.inl hg)⟩)
 obtain⟨fb,aD⟩:=nm W.heap.size;rw[aD]at al am;have aT:Hid (∀{c':CS} {tag':Nat→Nat×Nat} {V':CV} {W':World},zt tag i b W1 V c' tag' V' W'→zh W' fb f (.slice ra rn aC)):=zb (fun r=>al.mod r.m am);have aU:=zb am;obtain⟨y0,y1,y2,y3,y4,y5,I,y7,y8,y9⟩:=al.cells;obtain⟨t,Q⟩:=nm f.id;obtain⟨G,R⟩:=nm f.dl;obtain⟨S,an⟩:=nm c.now;obtain⟨z,T⟩:=nm c.most;obtain⟨SN,ao⟩:=nm V.sn;obtain⟨L0,U⟩:=nm c.seen;obtain⟨SL,X⟩:=nm L0.length;obtain⟨hs,ap⟩:=nm ((L0.any fun p=>p.1==t));obtain⟨dr,aE⟩:=nm (c.drops f);have q1:=ok.most;have q2:=ok.id;have q3:=ok.dl;have q4:=ok.now;have q5:=ok.len;rw[T]at q1;rw[Q]at q2;rw[R]at q3;rw[an]at q4;rw[U,X]at q5;unfold zD at q1 q2 q3 q4;have aV:Hid ((hs||decide (G<S)||(decide (0<SL)&&(decide (32≤z)&&decide (t≤z-32))))=dr):=zb (by
  rw[←aE];unfold CS.drops old;rw[U,Q,R,an,T,ap,X])
 have aq:zbq W1.drew SN L0:=by rw[←ao,←U];exact(h1.mod0 (Mod.refl NoB W1).drew).sn
 obtain⟨lv,Y⟩:=aq.look (x:=t) (by omega);have s:=(show zbq W1.drew.drew SN L0 from aq).len;rw[ap]at Y;rw[X]at s;have c3:W1.cell? ⟨b,3,none⟩=some (.int .u64 (S:Int)):=by rw[←an];exact h1.hd (j:=3) rfl
 have C:W1.cell? ⟨b,241,none⟩=some (.map (some SN)):=by rw[←ao];exact h1.tl (j:=8) rfl
 have E:W1.cell? ⟨b,242,none⟩=some (.int .u64 (z:Int)):=by rw[←T];exact h1.tl (j:=9) rfl
 have fz:=h1.fz;rw[Q]at I;rw[R]at y7;have aW:=zb ap;have R0:=zb r0;have aF:=zb Q;have aX:=zb R;have be:=zb T;have B:=zb ao;have ar:=zb U;have bf:=zb X;have HD:=zb aE;have aG:=zb ok;have HSA:=zb aq;have bh:=zb ak;have bi:=zb aD;clear h ht hi h1 r0 m1 al am y0 y1 y2 y3 y4 y5 y9 Q R an T ao U X ap aE ok aq ak aD;go_enter func160,ntmps160;go_upto_region 1 with fail;rw[bh.out,bi.out]
 go_cut [5] (fun ov A=>ov = .bool hs∧A=W1.drew)
 case first=>as_aux_lemma =>
  refine zB ?_;refine zm 12 (fun w'=>w'.cell? ⟨b,241,none⟩=some (.map (some SN))∧w'.cell? ⟨fb,6,none⟩=some (.int .u64 (t:Int))∧w'=W1.drew) (⟨C,I,rfl⟩) ?_;refine GI 0 ?_;iterate 12
   refine GS rfl ?_ ?_ ?_;rotate_left
   ·(intro A d;obtain⟨u,O,rfl⟩:=d;go_simp;try with_reducible rfl)
   try simp only[PS]
  refine zo ?_;refine⟨rfl,?_⟩;go_wp2_with fail;go_meet;exact⟨rfl,rfl⟩
 case rest =>
 obtain⟨rfl,hw⟩:=hcut;obtain⟨WA,aH⟩:=nn wc;subst aH;subst hw;clear Y;go_upto_region 2 with fail
 go_cut [51] (fun dv A=>dv = .bool dr∧A=W1.drew.drew)
 case first=>as_aux_lemma =>
  have hD:=aV.out;subst hD;by_cases e1:hs=true
  ·subst e1;refine zB ?_;refine zm 35 (fun w'=>w'.cell? ⟨b,241,none⟩=some (.map (some SN))∧w'.cell? ⟨fb,6,none⟩=some (.int .u64 (t:Int))∧w'.cell? ⟨fb,7,none⟩=some (.int .u64 (G:Int))∧w'.cell? ⟨b,3,none⟩=some (.int .u64 (S:Int))∧w'.cell? ⟨b,242,none⟩=some (.int .u64 (z:Int))∧(∀ty,(Builtin.len_ #[124] ty #[.map (some SN)]).run prog w' = .ok (.int .i64 (SL:Int)) w')) (⟨C,I,y7,c3,E,s⟩) ?_;refine GI 0 ?_;iterate 2
    refine GS rfl ?_ ?_ ?_;rotate_left
    ·(intro A d;obtain⟨u,O,Z,f3,f42,fl⟩:=d;go_simp;try with_reducible rfl)
    try simp only[PS]
   refine GI 2 ?_;iterate 7
    refine GU rfl (fun _ _ _ h=>nomatch h.1) ?_;try simp only[PS]
   refine GI 9 ?_;iterate 2
    refine GS rfl ?_ ?_ ?_;rotate_left
    ·(intro A d;obtain⟨u,O,Z,f3,f42,fl⟩:=d;go_simp;try with_reducible rfl)
    try simp only[PS]
   refine GI 11 ?_;iterate 23
    refine GU rfl (fun _ _ _ h=>nomatch h.1) ?_;try simp only[PS]
   refine GI 34 ?_;refine GS rfl ?_ ?_ ?_;rotate_left
   ·(intro A d;obtain⟨u,O,Z,f3,f42,fl⟩:=d;go_simp;try with_reducible rfl)
   try simp only[PS]
   refine zo ?_;refine⟨rfl,?_⟩;go_wp2_with fail;go_meet;exact⟨by simp,rfl⟩
  ·have e1:hs=false:=by simpa using e1
   subst e1;by_cases e2:G<S
   ·have aI:(G:Int)<S:=by omega
    refine zB ?_;refine zm 35 (fun w'=>w'.cell? ⟨b,241,none⟩=some (.map (some SN))∧w'.cell? ⟨fb,6,none⟩=some (.int .u64 (t:Int))∧w'.cell? ⟨fb,7,none⟩=some (.int .u64 (G:Int))∧w'.cell? ⟨b,3,none⟩=some (.int .u64 (S:Int))∧w'.cell? ⟨b,242,none⟩=some (.int .u64 (z:Int))∧(∀ty,(Builtin.len_ #[124] ty #[.map (some SN)]).run prog w' = .ok (.int .i64 (SL:Int)) w')) (⟨C,I,y7,c3,E,s⟩) ?_;refine GI 0 ?_;iterate 11
     refine GS rfl ?_ ?_ ?_;rotate_left
     ·(intro A d;obtain⟨u,O,Z,f3,f42,fl⟩:=d;go_simp;try with_reducible rfl)
     try simp only[PS]
    refine GI 11 ?_;iterate 23
     refine GU rfl (fun _ _ _ h=>nomatch h.1) ?_;try simp only[PS]
    refine GI 34 ?_;refine GS rfl ?_ ?_ ?_;rotate_left
    ·(intro A d;obtain⟨u,O,Z,f3,f42,fl⟩:=d;go_simp;try with_reducible rfl)
    try simp only[PS]
    refine zo ?_;refine⟨rfl,?_⟩;go_wp2_with fail;go_meet;exact⟨by simp[e2],rfl⟩
   ·have aI:¬(G:Int)<S:=by omega
    by_cases e3:0<SL
    ·have bj:(0:Int)<SL:=by omega
     by_cases e4:32≤z
     ·have bk:(32:Int)≤z:=by omega
      have w4:=wu ((z:Int)-32) (by omega);by_cases e5:t≤z-32
      ·have bm:(t:Int)≤(z:Int)-32:=by omega
       refine zB ?_;refine zm 35 (fun w'=>w'.cell? ⟨b,241,none⟩=some (.map (some SN))∧w'.cell? ⟨fb,6,none⟩=some (.int .u64 (t:Int))∧w'.cell? ⟨fb,7,none⟩=some (.int .u64 (G:Int))∧w'.cell? ⟨b,3,none⟩=some (.int .u64 (S:Int))∧w'.cell? ⟨b,242,none⟩=some (.int .u64 (z:Int))∧(∀ty,(Builtin.len_ #[124] ty #[.map (some SN)]).run prog w' = .ok (.int .i64 (SL:Int)) w')) (⟨C,I,y7,c3,E,s⟩) ?_;refine GI 0 ?_;iterate 35
        refine GS rfl ?_ ?_ ?_;rotate_left
        ·(intro A d;obtain⟨u,O,Z,f3,f42,fl⟩:=d;go_simp;try with_reducible rfl)
        try simp only[PS]
       refine zo ?_;refine⟨rfl,?_⟩;go_wp2_with fail;go_meet;exact⟨by simp[e2,e3,e4,e5],rfl⟩
      ·have bm:¬(t:Int)≤(z:Int)-32:=by omega
       refine zB ?_;refine zm 35 (fun w'=>w'.cell? ⟨b,241,none⟩=some (.map (some SN))∧w'.cell? ⟨fb,6,none⟩=some (.int .u64 (t:Int))∧w'.cell? ⟨fb,7,none⟩=some (.int .u64 (G:Int))∧w'.cell? ⟨b,3,none⟩=some (.int .u64 (S:Int))∧w'.cell? ⟨b,242,none⟩=some (.int .u64 (z:Int))∧(∀ty,(Builtin.len_ #[124] ty #[.map (some SN)]).run prog w' = .ok (.int .i64 (SL:Int)) w')) (⟨C,I,y7,c3,E,s⟩) ?_;refine GI 0 ?_;iterate 35
        refine GS rfl ?_ ?_ ?_;rotate_left
        ·(intro A d;obtain⟨u,O,Z,f3,f42,fl⟩:=d;go_simp;try with_reducible rfl)
        try simp only[PS]
       refine zo ?_;refine⟨rfl,?_⟩;go_wp2_with fail;go_meet;exact⟨by simp[e2,e3,e4,e5],rfl⟩
     ·have bk:¬(32:Int)≤z:=by omega
      refine zB ?_;refine zm 35 (fun w'=>w'.cell? ⟨b,241,none⟩=some (.map (some SN))∧w'.cell? ⟨fb,6,none⟩=some (.int .u64 (t:Int))∧w'.cell? ⟨fb,7,none⟩=some (.int .u64 (G:Int))∧w'.cell? ⟨b,3,none⟩=some (.int .u64 (S:Int))∧w'.cell? ⟨b,242,none⟩=some (.int .u64 (z:Int))∧(∀ty,(Builtin.len_ #[124] ty #[.map (some SN)]).run prog w' = .ok (.int .i64 (SL:Int)) w')) (⟨C,I,y7,c3,E,s⟩) ?_;refine GI 0 ?_;iterate 25
       refine GS rfl ?_ ?_ ?_;rotate_left
       ·(intro A d;obtain⟨u,O,Z,f3,f42,fl⟩:=d;go_simp;try with_reducible rfl)
       try simp only[PS]
      refine GI 25 ?_;iterate 8
       refine GU rfl (fun _ _ _ h=>nomatch h.1) ?_;try simp only[PS]
      refine GI 33 ?_;iterate 2
       refine GS rfl ?_ ?_ ?_;rotate_left
       ·(intro A d;obtain⟨u,O,Z,f3,f42,fl⟩:=d;go_simp;try with_reducible rfl)
       try simp only[PS]
      refine zo ?_;refine⟨rfl,?_⟩;go_wp2_with fail;go_meet;exact⟨by simp[e2,e3,e4],rfl⟩
    ·have bj:¬(0:Int)<SL:=by omega
     refine zB ?_;refine zm 35 (fun w'=>w'.cell? ⟨b,241,none⟩=some (.map (some SN))∧w'.cell? ⟨fb,6,none⟩=some (.int .u64 (t:Int))∧w'.cell? ⟨fb,7,none⟩=some (.int .u64 (G:Int))∧w'.cell? ⟨b,3,none⟩=some (.int .u64 (S:Int))∧w'.cell? ⟨b,242,none⟩=some (.int .u64 (z:Int))∧(∀ty,(Builtin.len_ #[124] ty #[.map (some SN)]).run prog w' = .ok (.int .i64 (SL:Int)) w')) (⟨C,I,y7,c3,E,s⟩) ?_;refine GI 0 ?_;iterate 18
      refine GS rfl ?_ ?_ ?_;rotate_left
      ·(intro A d;obtain⟨u,O,Z,f3,f42,fl⟩:=d;go_simp;try with_reducible rfl)
      try simp only[PS]
     refine GI 18 ?_;iterate 5
      refine GU rfl (fun _ _ _ h=>nomatch h.1) ?_;try simp only[PS]
     refine GI 23 ?_;iterate 2
      refine GS rfl ?_ ?_ ?_;rotate_left
      ·(intro A d;obtain⟨u,O,Z,f3,f42,fl⟩:=d;go_simp;try with_reducible rfl)
      try simp only[PS]
     refine GI 25 ?_;iterate 8
      refine GU rfl (fun _ _ _ h=>nomatch h.1) ?_;try simp only[PS]
     refine GI 33 ?_;iterate 2
      refine GS rfl ?_ ?_ ?_;rotate_left
      ·(intro A d;obtain⟨u,O,Z,f3,f42,fl⟩:=d;go_simp;try with_reducible rfl)
      try simp only[PS]
     refine zo ?_;refine⟨rfl,?_⟩;go_wp2_with fail;go_meet;exact⟨by simp[e2,e3],rfl⟩
 case rest =>
 obtain⟨rfl,hw⟩:=hcut;obtain⟨WA,aH⟩:=nn wc;subst aH;subst hw;clear s;cases dr with
 | true =>
  go_wp2_with fail
  first|go_ret|go_end0
  rw[zhL HD.out];exact⟨rfl,ay.out (R0.out.mod0 (Mod.refl NoB W1).drew.drew)⟩
 | false =>
 have aa:hs=false:=by
  have:=aV.out;cases hs
  ·rfl
  ·simp at this
 obtain⟨v,aY⟩:=nm (max z t);have ez:(if z<t then(t:Int)else(z:Int))=(v:Int):=by split<;>omega
 have q6:v≤4611686018427387903:=by omega
 obtain⟨W2,au⟩:=nm (W1.setCell ⟨b,242,none⟩ (.int .u64 (v:Int)));have m2:Mod (fun q=>q=b) W1 W2:=by rw[←au];exact(Mod.refl (fun q=>q=b) W1).setCell (p:=⟨b,_,none⟩) (.inl rfl) _
 have r2:zt tag i b W1 V { c with most:=v } tag V W2:=by
  rw[←au];exact R0.out.store (233+9) _ (zaj c { c with most:=v } V V (j:=9) _ rfl rfl rfl rfl) ⟨rfl,fun _ _=>⟨rfl,rfl,rfl⟩,fun _ _=>⟨rfl,rfl⟩,rfl,rfl,rfl,rfl⟩
 have az:zbq W2.drew.drew.drew.drew SN L0:=by
  have:=(r2.mod0 (Mod.refl NoB W2).drew.drew.drew.drew).c.sn;rw[B.out]at this;rw[←ar.out];exact this
 obtain⟨W3,aA,aJ,m3⟩:=az.put (x:=t) (y:=G) (by omega) (by omega) (by rw[aW.out];exact aa) (by rw[bf.out];exact q5);have r3:zt tag i b W1 V { c with most:=v,seen:=L0++[(t,G)] } tag V W3:=by
  have:=(r2.mod0 (Mod.refl NoB W2).drew.drew.drew.drew).seen (W'':=W3) (l:=L0++[(t,G)]) (by rw[B.out];exact m3) (by rw[B.out];exact aJ);exact this
 obtain⟨z0,z1,z2,z3,z4,z5,z6,z7,z8,z9⟩:=(aT.out r2).cells;rw[aF.out]at z6;rw[aX.out]at z7;have aZ:W2.cell? ⟨b,241,none⟩=some (.map (some SN)):=by rw[←B.out];exact r2.c.tl (j:=8) rfl
 have f42:=fz 242;have bn:=zb aY;have bo:=zb au;have HU:=zb aA;have R3:=zb r3;have a0:=zb aJ;have a1:=zb aa;clear r2 r3 aJ aA aY au az m2 m3 z0 z1 z2 z3 z4 z5 z8 z9 aa;go_upto_region 3 with fail;refine zB ?_;refine zm 10 (fun w'=>w'.cell? ⟨b,242,none⟩=some (.int .u64 (z:Int))∧w'.frozen? ⟨b,242,none⟩=false∧w'.cell? ⟨fb,6,none⟩=some (.int .u64 (t:Int))) (⟨E,f42,I⟩) ?_;refine GI 0 ?_;iterate 10
  refine GS rfl ?_ ?_ ?_;rotate_left
  ·(intro A d;obtain⟨f0,f1,f2⟩:=d;go_simp;try with_reducible rfl)
  try simp only[PS]
 refine zW rfl (fun K J=>?_);go_simp;try simp only[ez]
 refine J.out _ _ ?_;clear J K;try simp only[PS]
 refine zo ?_;refine⟨rfl,?_⟩;go_upto_region 4 with fail;rw[bo.out];refine zB ?_;refine zm 8 (fun w'=>w'.cell? ⟨b,241,none⟩=some (.map (some SN))∧w'.cell? ⟨fb,6,none⟩=some (.int .u64 (t:Int))∧w'.cell? ⟨fb,7,none⟩=some (.int .u64 (G:Int))) (⟨aZ,z6,z7⟩) ?_;refine GI 0 ?_;iterate 8
  refine GS rfl ?_ ?_ ?_;rotate_left
  ·(intro A d;obtain⟨f0,f1,f2⟩:=d;go_simp;try with_reducible rfl)
  try simp only[PS]
 refine zW rfl (fun K J=>?_);have hu:=HU.out;go_simp;refine J.out _ _ ?_;clear J K;try simp only[PS]
 refine zo ?_;refine⟨rfl,?_⟩;obtain⟨L,hL⟩:=nm (L0++[(t,G)]);rw[hL]at R3 a0;obtain⟨N,hN⟩:=nm L.length;obtain⟨D,ho,a2,aB⟩:=a0.out;have aK:∀p∈L,p.1≤zD:=fun p hp=>by
  rw[←hL]at hp;rcases List.mem_append.1 hp with x|x
  ·exact aG.out.ids p (by rw[ar.out];exact x)
  ·have:p=(t,G):=by simpa using x
   rw[this];unfold zD;exact q2
 have a3:(L.map (·.1)).Nodup:=by
  rw[←hL,List.map_append,List.nodup_append];refine⟨by rw[←ar.out];exact aG.out.nd,by simp,fun a ha b' bp e=>?_⟩;have bq:b'=t:=by simpa using bp
  obtain⟨p,hp,bt⟩:=List.mem_map.1 ha;have h1:=aW.out;rw[a1.out]at h1;have h2:=List.any_eq_false.1 h1 p hp;simp at h2;exact h2 (by rw[bt,e,bq])
 have j0:=zev.start (w:=W3) (b:=SN) (M:=v) aB a2 aK;rw[hN]at ho;have bu:W3.cell? ⟨b,241,none⟩=some (.map (some SN)):=by rw[←B.out];exact R3.out.c.tl (j:=8) rfl
 have J0:=zb j0;have a4:=zb aK;have bv:=zb a3;have bw:=zb hL;have HNE:=zb hN;clear aB a2 aK a3 hL hN j0 c3 C E f42 fz I y7 aZ z6 z7;go_wp2_with (first|(at_range;refine wpList_range_own _ rfl _ 124 rfl 43 43 zcv underlying124 _ SN N D rfl ho ?_;intro w0 ab a5 a6)|fail);obtain⟨RB,aL⟩:=nm W3.heap.size;rw[aL]at ab a6 ⊢;have m0:Mod (fun q=>q=SN) W3 w0:=(Mod.refl _ W3).grown a5 (fun k hk=>by cases hk);have aM:=zb aL;clear ho a5 a6 aL bu
 go_frame
 go_loopw [] (fun wr=>∃(left:Lit→Bool) (a7:Nat) (D:DataW Unit) (del:Nat→Bool),wr.ranges (H:=Unit) prog 43 (plainElem prog 43) SN RB N D left a7∧Hid (zev L v left D del∧Mod (fun q=>q=SN) W3 wr)) (fun wr=>wr.rangeLeft SN RB)
 case atStart=>exact⟨_,_,D,_,ab,zb ⟨J0.out,m0⟩⟩
 case round =>
  clear ab m0 J0;obtain⟨left,a7,D1,del,ac,HJ⟩:=hrel;have a8:¬b=SN:=fun e=>by
   have h1:=R3.out.c.tsn;rw[B.out,←e,R3.out.c.tb]at h1;simp at h1
  go_wp2_with (first|(at_next;refine wpList_next_ranges_ii _ rfl _ rfl 43 43 .u64 .u64 zcv underlying43 underlying43 SN RB N _ _ _ rfl ac ?_ ?_)|fail)
  ·intro bz a9;have ba:=HJ.out.1.fin a9 ac.owns;have r5:=R3.out.seen (by rw[B.out];exact HJ.out.2) (by rw[B.out];exact ba);have bA:Hid (({ ({ c with most:=v,seen:=L }:CS)with seen:=L.filter fun p => !Go.Proofs.YtddfdpbaiedcjaaGreatDoor.old v p.1 }:CS)={ c with most:=v,seen:=L.filter fun p => !Go.Proofs.YtddfdpbaiedcjaaGreatDoor.old v p.1 }):=zb rfl;rw[bA.out]at r5;obtain⟨ca,cc,ad,bB,bC,_⟩:=zi r5.c.cm;obtain⟨CL,ae⟩:=nm c.came.length;have q7:=aG.out.cm;rw[ae]at q7;have ad:V.cm = .slice ca CL cc:=by rw[ad];simp only[ae]
   obtain⟨DT,aN⟩:=nm f.data;obtain⟨v',W6,happ,av,aO,bb⟩:=zrd wr.drew V.cm c.came t DT (by exact r5.c.cm) (by rw[ae];exact q7);have m5:Mod NoB wr (wr.drew.alloc (.cells #[.int .u64 (t:Int),.string (zq DT)] 154)):=((Mod.refl NoB wr).drew).alloc _;have af:(c.came++[(t,DT)]).length=c.came.length+1:=by simp
   rw[←af]at av;obtain⟨⟨bI,V6,r6⟩,x6,O⟩:=r5.cmApp m5 av aO bb;obtain⟨va,vc,rfl,_⟩:=zi av;rw[af,ae]at happ r6;rw[ad]at happ x6;obtain⟨y0,y1,y2,y3,y4,y5,I,y7,y8,y9⟩:=(aT.out r5).cells;rw[aF.out]at I;rw[aN]at y8;have bc:wr.cell? ⟨b,243,none⟩=some (.slice ca CL cc):=by rw[←ad];exact r5.c.tl (j:=10) rfl
   have m6:Mod (fun g=>V.cm.ownBlock=some g) wr W6:=(m5.mono (fun _ x=>x.elim)).trans ((Mod.refl _ _).grown aO (fun g hg=>.inl hg));have ah:¬V.cm.ownBlock=some fb:=fun e=>by
    have h1:=r5.c.tcm fb e;exact aU.out (zbk h1 (by decide))
   have p6:=m6.cell (a:=⟨fb,6,none⟩) ah I;have p8:=m6.cell (a:=⟨fb,8,none⟩) ah y8;have HA:=zb happ;have R6:=zb r6;have bD:=zb aN;have bE:=fun o=>(show(wr.drew.alloc o).cell? ⟨b,243,none⟩=some (.slice ca CL cc)∧(wr.drew.alloc o).cell? ⟨fb,6,none⟩=some (.int .u64 (t:Int))∧(wr.drew.alloc o).cell? ⟨fb,8,none⟩=some (.string (zq DT))from
    have m:=((Mod.refl NoB wr).drew).alloc o
    ⟨m.cell (a:=⟨b,_,none⟩) id bc,m.cell (a:=⟨fb,_,none⟩) id I,m.cell (a:=⟨fb,_,none⟩) id y8⟩)
   clear ac a9 bz ba r5 bB bC ae q7 ad av aO bb m5 af r6 happ aN m6 ah y0 y1 y2 y3 y4 y5 y7 y9;go_upto_region 10 with fail;refine zB ?_;refine zm 14 (fun w'=>w'.cell? ⟨b,243,none⟩=some (.slice ca CL cc)∧w'.cell? ⟨fb,6,none⟩=some (.int .u64 (t:Int))∧w'.cell? ⟨fb,8,none⟩=some (.string (zq DT))) (⟨bc,I,y8⟩) ?_;refine GI 0 ?_;iterate 10
    refine GS rfl ?_ ?_ ?_;rotate_left
    ·(intro A d;obtain⟨f0,f1,f2⟩:=d;go_simp;try with_reducible rfl)
    try simp only[PS]
   refine zz 10 rfl (fun K J=>?_);go_simp;refine J.out _ _ (bE _) ?_;clear J K;try simp only[PS]
   refine zz 11 rfl (fun K J=>?_);refine zO rfl _ _ _ _ rfl _ _ _ rfl rfl HA.out ?_;refine J.out _ _ ⟨x6,p6,p8⟩ ?_;clear J K;try simp only[PS]
   refine GI 12 ?_;iterate 2
    refine GS rfl ?_ ?_ ?_;rotate_left
    ·(intro A d;obtain⟨f0,f1,f2⟩:=d;go_simp;try with_reducible rfl)
    try simp only[PS]
   refine zW rfl (fun K J=>?_);go_simp;refine J.out _ _ ?_;clear J K;try simp only[PS]
   refine zo ?_;refine⟨rfl,?_⟩;go_wp2_with fail
   first|go_ret|go_end0
   rw[zhM HD.out,be.out,aF.out,bn.out,ar.out,aX.out,bw.out,bD.out];exact⟨rfl,ay.out R6.out⟩
  ·intro x cv w1 bJ aP hwc hlx bF F hlt aQ hs1 hen;obtain⟨P,rfl,aw⟩:∃P:Nat,x=(P:Int)∧P<18446744073709551616:=by
    have aP:(decide ((0:Int)≤x)&&decide (x≤18446744073709551615))=true:=aP;simp only[Bool.and_eq_true,decide_eq_true_eq]at aP;exact⟨x.toNat,by omega,by omega⟩
   have bK:w1.cell? ⟨b,242,none⟩=some (.int .u64 (v:Int)):=by
    have h1:=HJ.out.2.cell (a:=⟨b,242,none⟩) a8 (R3.out.c.tl (j:=9) rfl);have h2:Mod (fun q=>q=RB) wr w1:=(Mod.refl _ wr).grown aQ (fun k hk=>.inl (by cases hk;rfl));exact h2.cell (a:=⟨b,242,none⟩) (by
     show ¬b=RB;have h3:=zk (R3.out.c.tl (j:=9) rfl);have h4:=aM.out;omega) h1
   have bL:w1.cell? ⟨b,241,none⟩=some (.map (some SN)):=by
    have h1:=HJ.out.2.cell (a:=⟨b,241,none⟩) a8 (R3.out.c.tl (j:=8) rfl);rw[B.out]at h1;have h2:Mod (fun q=>q=RB) wr w1:=(Mod.refl _ wr).grown aQ (fun k hk=>.inl (by cases hk;rfl));exact h2.cell (a:=⟨b,241,none⟩) (by
     show ¬b=RB;have h3:=zk (R3.out.c.tl (j:=9) rfl);have h4:=aM.out;omega) h1
   have mw:Mod (fun q=>q=SN) W3 w1:=HJ.out.2.then ((Mod.refl (fun q=>q=RB) wr).grown aQ (fun k hk=>.inl (by cases hk;rfl))) (fun q hq=>.inr (by
    have h4:=aM.out;have:q=RB:=hq;omega))
   have ax:Maps.has D1 (.int .u64 (P:Int))=true:=Maps.has_true_of_atKey bF;have MW:=zb mw;have bG:=zb ax;have aR:=ac.left_eq;by_cases e1:32≤v
   ·have bH:(32:Int)≤v:=by omega
    have w4:=wu ((v:Int)-32) (by omega);by_cases e2:P≤v-32
    ·have aI:(P:Int)≤(v:Int)-32:=by omega
     have ai:Hid (Go.Proofs.YtddfdpbaiedcjaaGreatDoor.old v P=true):=zb (by unfold Go.Proofs.YtddfdpbaiedcjaaGreatDoor.old;simp[e1,e2]);clear mw ax e2 e1;go_wp2_with (first|(at_delete;refine wpList_delete_ranges _ rfl _ _ 124 43 rfl 43 zcv underlying124 _ SN RB N _ _ _ rfl F (.int .u64 (P:Int)) (.int .u64 (P:Int)) rfl (zhN aw) ?_;intro w2 bM aj bN aS)|fail);rw[Maps.strike_twice]at aj
     go_frame
     go_roundw
     case rel=>exact⟨_,_,_,_,aj,zb ⟨HJ.out.1.strike aw ai.out bv.out bG.out (ac.owns.tidy zcv),MW.out.trans ((Mod.refl _ w1).grown aS.grown (fun k hk=>.inl (by cases hk;rfl)))⟩⟩
     case measure=>rw[aj.left_eq,aR];omega
    ·have aI:¬(P:Int)≤(v:Int)-32:=by omega
     have ai:Hid (Go.Proofs.YtddfdpbaiedcjaaGreatDoor.old v P=false):=zb (by unfold Go.Proofs.YtddfdpbaiedcjaaGreatDoor.old;simp[e2]);clear mw ax e2 e1;go_wp2_with fail;go_roundw
     case rel=>exact⟨_,_,_,_,F,zb ⟨HJ.out.1.keep aw ai.out a4.out,MW.out⟩⟩
     case measure=>rw[F.left_eq,aR];omega
   ·have bH:¬(32:Int)≤v:=by omega
    have ai:Hid (Go.Proofs.YtddfdpbaiedcjaaGreatDoor.old v P=false):=zb (by unfold Go.Proofs.YtddfdpbaiedcjaaGreatDoor.old;simp[e1]);clear mw ax e1;go_wp2_with fail;go_roundw
    case rel=>exact⟨_,_,_,_,F,zb ⟨HJ.out.1.keep aw ai.out a4.out,MW.out⟩⟩
    case measure=>rw[F.left_eq,aR];omega
structure zkf(c:CS)(f:Frm):Prop where
 ack:f.kind=2→0<f.rngs.length∧f.rngs.length≤1099511627776∧c.flight.length≤1099511627776∧(¬c.next≤hiAt f.rngs 0→ze8 { c with largest:=max c.largest (hiAt f.rngs 0) } f.rngs∧ze7 (c.ackedTo f.rngs))
 reset:f.kind=3→∃k:Nat,k<8∧f.stream=(k:Int)
 data:f.kind=4→∃k,znb c f k
 ms:f.kind=6→∃k:Nat,k<8∧f.stream=(k:Int)
 msg:f.kind=7→zrc c f
theorem znh(h:zg tag i b c V W)(p:zR tag W)(hi:0<i)(f:Frm)(q:Option Addr)(rn d:Nat)(h2:¬f.kind=2)(h3:¬f.kind=3)(h4:¬f.kind=4)(v:¬f.kind=5)(w:¬f.kind=6)(y:¬f.kind=7)(z:¬f.kind=8):Calls prog 89 #[.pointer (some ⟨b,0,none⟩),.agg (zj f (.slice q rn d))] W (zbC tag i b W (.int .i64 0) c):=by
 obtain⟨W1,a⟩:=nm (W.alloc (.cells (zj f (.slice q rn d)) 65));have m1:Mod NoB W W1:=by rw[←a];exact(Mod.refl _ _).alloc _
 have j:zh W1 W.heap.size f (.slice q rn d):=by rw[←a];exact heap_alloc_new W _
 have h1:=h.mod0 m1;have n:zR tag W1:=p.mod m1;have A:zt tag i b W1 V c tag V W1:=⟨h1,Ext.same n (Mod.refl NoB W1),Mod.refl _ _,hi,⟨rfl,rfl⟩⟩;have o:Hid (∀{c':CS} {tag':Nat→Nat×Nat} {V':CV} {W':World},zt tag i b W1 V c' tag' V' W'→zbo tag i b W c' W'):=zb (fun r =>
  ⟨_,_,r.c,zaU p m1 r.e,(m1.mono (fun _ x=>x.elim)).then r.m.ofC (fun g hg=>.inl hg)⟩)
 have s:Hid (∀{c':CS} {W':World},zbo tag i b W1 c' W'→zbo tag i b W c' W'):=zb (fun l=>l.from0 p hi m1);obtain⟨fb,k⟩:=nm W.heap.size;rw[k]at j;obtain⟨y0,y1,y2,y3,y4,y5,y6,y7,y8,y9⟩:=j.cells;have g2:(f.kind==2)=false:=by simpa using h2
 have g3:(f.kind==3)=false:=by simpa using h3
 have g4:(f.kind==4)=false:=by simpa using h4
 have g5:(f.kind==5)=false:=by simpa using v
 have g6:(f.kind==6)=false:=by simpa using w
 have g7:(f.kind==7)=false:=by simpa using y
 have g8:(f.kind==8)=false:=by simpa using z
 have R0:=zb A;have t:=zb a;have u:=zb k;clear h p hi m1 j h1 n A a k y1 y2 y3 y4 y5 y6 y7 y8 y9 h2 h3 h4 v w y z;go_enter func89,ntmps89;go_upto_region 1 with fail;rw[t.out,u.out];go_wp2_with fail;go_ret;exact⟨rfl,o.out R0.out⟩
theorem zni(h:zg tag i b c V W)(p:zR tag W)(hi:0<i)(f:Frm)(q:Option Addr)(rn d:Nat)(v:f.kind=8):Calls prog 89 #[.pointer (some ⟨b,0,none⟩),.agg (zj f (.slice q rn d))] W (zbC tag i b W (.int .i64 13) c):=by
 obtain⟨W1,a⟩:=nm (W.alloc (.cells (zj f (.slice q rn d)) 65));have m1:Mod NoB W W1:=by rw[←a];exact(Mod.refl _ _).alloc _
 have j:zh W1 W.heap.size f (.slice q rn d):=by rw[←a];exact heap_alloc_new W _
 have h1:=h.mod0 m1;have n:zR tag W1:=p.mod m1;have w:zt tag i b W1 V c tag V W1:=⟨h1,Ext.same n (Mod.refl NoB W1),Mod.refl _ _,hi,⟨rfl,rfl⟩⟩;have o:Hid (∀{c':CS} {tag':Nat→Nat×Nat} {V':CV} {W':World},zt tag i b W1 V c' tag' V' W'→zbo tag i b W c' W'):=zb (fun r =>
  ⟨_,_,r.c,zaU p m1 r.e,(m1.mono (fun _ x=>x.elim)).then r.m.ofC (fun g hg=>.inl hg)⟩)
 have s:Hid (∀{c':CS} {W':World},zbo tag i b W1 c' W'→zbo tag i b W c' W'):=zb (fun l=>l.from0 p hi m1);obtain⟨fb,k⟩:=nm W.heap.size;rw[k]at j;obtain⟨y0,y1,y2,y3,y4,y5,y6,y7,y8,y9⟩:=j.cells;rw[v]at y0;have R0:=zb w;have t:=zb a;have u:=zb k;clear h p hi m1 j h1 n w a k y1 y2 y3 y4 y5 y6 y7 y8 y9 v;go_enter func89,ntmps89;go_upto_region 1 with fail;rw[t.out,u.out];go_wp2_with fail;go_ret;exact⟨rfl,o.out R0.out⟩
theorem znj(h:zg tag i b c V W)(v:zR tag W)(hi:0<i)(f:Frm)(w:Option Addr)(rn d:Nat)(H:f.kind=5):Calls prog 89 #[.pointer (some ⟨b,0,none⟩),.agg (zj f (.slice w rn d))] W (zbC tag i b W (.int .i64 0) { c with credit:=max c.credit f.lim }):=by
 obtain⟨W1,a⟩:=nm (W.alloc (.cells (zj f (.slice w rn d)) 65));have m1:Mod NoB W W1:=by rw[←a];exact(Mod.refl _ _).alloc _
 have k:zh W1 W.heap.size f (.slice w rn d):=by rw[←a];exact heap_alloc_new W _
 have h1:=h.mod0 m1;have s:zR tag W1:=v.mod m1;have y:zt tag i b W1 V c tag V W1:=⟨h1,Ext.same s (Mod.refl NoB W1),Mod.refl _ _,hi,⟨rfl,rfl⟩⟩;have t:Hid (∀{c':CS} {tag':Nat→Nat×Nat} {V':CV} {W':World},zt tag i b W1 V c' tag' V' W'→zbo tag i b W c' W'):=zb (fun r =>
  ⟨_,_,r.c,zaU v m1 r.e,(m1.mono (fun _ x=>x.elim)).then r.m.ofC (fun g hg=>.inl hg)⟩)
 have z:Hid (∀{c':CS} {W':World},zbo tag i b W1 c' W'→zbo tag i b W c' W'):=zb (fun l=>l.from0 v hi m1);obtain⟨fb,n⟩:=nm W.heap.size;rw[n]at k;obtain⟨y0,y1,y2,y3,I,y5,y6,y7,y8,y9⟩:=k.cells;rw[H]at y0;have u:W1.cell? ⟨b,233,none⟩=some (.int .u64 (c.credit:Int)):=h1.tl (j:=0) rfl;have A:=h1.fz 233;obtain⟨B,o⟩:=nm (max c.credit f.lim);have J:=y.store (233+0) (.int .u64 (B:Int)) (zaj c { c with credit:=B } V V (j:=0) _ rfl rfl rfl rfl) ⟨rfl,fun _ _=>⟨rfl,rfl,rfl⟩,fun _ _=>⟨rfl,rfl⟩,rfl,rfl,rfl,rfl⟩;rw[o];obtain⟨C,p⟩:=nm c.credit;obtain⟨D,q⟩:=nm f.lim;rw[p,q]at o;rw[p]at u;rw[q]at I;have ez:(if C<D then(D:Int)else(C:Int))=(B:Int):=by split<;>omega
 have HS:=zb J;have R0:=zb y;have E:=zb a;have F:=zb n;clear h v hi m1 k h1 s y a n y1 y2 y3 y5 y6 y7 y8 y9 H J o p q;go_enter func89,ntmps89;go_upto_region 1 with fail;rw[E.out,F.out];go_upto_region 14 with fail;refine zB ?_;refine zm 10 (fun w'=>w'.cell? ⟨b,233,none⟩=some (.int .u64 (C:Int))∧w'.frozen? ⟨b,233,none⟩=false∧w'.cell? ⟨fb,4,none⟩=some (.int .u64 (D:Int))) (⟨u,A,I⟩) ?_;refine GI 0 ?_;iterate 10
  refine GS rfl ?_ ?_ ?_;rotate_left
  ·(intro wx G;obtain⟨f0,f1,f2⟩:=G;go_simp;try with_reducible rfl)
  try simp only[PS]
 refine zW rfl (fun K L=>?_);go_simp;try simp only[ez]
 refine L.out _ _ ?_;clear L K;try simp only[PS]
 refine zo ?_;refine⟨rfl,?_⟩;go_wp2_with fail;go_ret;exact⟨rfl,t.out (HS.out.mod0 (Mod.refl NoB _).drew)⟩
theorem znk(h:zg tag i b c V W)(B:zR tag W)(hi:0<i)(f:Frm)(C:Option Addr)(rn d:Nat)(N:f.kind=6)(k:Nat)(hk:k<8)(u:f.stream=(k:Int)):Calls prog 89 #[.pointer (some ⟨b,0,none⟩),.agg (zj f (.slice C rn d))] W (zbC tag i b W (.int .i64 0) { c with ws:=upd c.ws k { c.ws k with credit:=max (c.ws k).credit f.lim } }):=by
 obtain⟨W1,a⟩:=nm (W.alloc (.cells (zj f (.slice C rn d)) 65));have m1:Mod NoB W W1:=by rw[←a];exact(Mod.refl _ _).alloc _
 have n:zh W1 W.heap.size f (.slice C rn d):=by rw[←a];exact heap_alloc_new W _
 have h1:=h.mod0 m1;have v:zR tag W1:=B.mod m1;have D:zt tag i b W1 V c tag V W1:=⟨h1,Ext.same v (Mod.refl NoB W1),Mod.refl _ _,hi,⟨rfl,rfl⟩⟩;have y:Hid (∀{c':CS} {tag':Nat→Nat×Nat} {V':CV} {W':World},zt tag i b W1 V c' tag' V' W'→zbo tag i b W c' W'):=zb (fun r =>
  ⟨_,_,r.c,zaU B m1 r.e,(m1.mono (fun _ x=>x.elim)).then r.m.ofC (fun g hg=>.inl hg)⟩)
 have E:Hid (∀{c':CS} {W':World},zbo tag i b W1 c' W'→zbo tag i b W c' W'):=zb (fun l=>l.from0 B hi m1);obtain⟨fb,o⟩:=nm W.heap.size;rw[o]at n;obtain⟨y0,O,y2,y3,P,y5,y6,y7,y8,y9⟩:=n.cells;rw[N]at y0;rw[u]at O;have z:W1.cell? ⟨b,9+k*15+14,none⟩=some (.int .u64 ((c.ws k).credit:Int)):=by rw[Nat.mul_comm k 15];exact h1.w (j:=14) hk rfl
 have F:=h1.fz (9+k*15+14);obtain⟨G,p⟩:=nm (max (c.ws k).credit f.lim);have A:({ c with ws:=upd c.ws k (c.ws k) }:CS)=c:=by rw[zaB]
 have H:=(D.same A.symm).storeW hk 14 (by decide) (.int .u64 (G:Int)) { c.ws k with credit:=G } rfl rfl rfl rfl;rw[Nat.mul_comm 15 k]at H;rw[p];obtain⟨I,q⟩:=nm ((c.ws k).credit);obtain⟨J,s⟩:=nm f.lim;rw[q,s]at p;rw[q]at z;rw[s]at P;have ez:(if I<J then(J:Int)else(I:Int))=(G:Int):=by split<;>omega
 have dk0:(0:Int)≤k:=by omega
 have dk8:(k:Int)<8:=by omega
 have HS:=zb H;have R0:=zb D;have L:=zb a;have M:=zb o;clear h B hi m1 n h1 v D a o y2 y3 y5 y6 y7 y8 y9 N H p q s u A;go_enter func89,ntmps89;go_upto_region 1 with fail;rw[L.out,M.out];go_upto_region 16 with fail;refine zB ?_;refine zm 7 (fun w'=>w'.cell? ⟨fb,1,none⟩=some (.int .i64 (k:Int))) (O) ?_;refine GI 0 ?_;iterate 7
  refine GS rfl ?_ ?_ ?_;rotate_left
  ·(intro wx t;(try dsimp only at t);go_simp;try with_reducible rfl)
  try simp only[PS]
 refine zo ?_;refine⟨rfl,?_⟩;go_upto_region 17 with fail;refine zB ?_;refine zm 10 (fun w'=>w'.cell? ⟨b,9+k*15+14,none⟩=some (.int .u64 (I:Int))∧w'.frozen? ⟨b,9+k*15+14,none⟩=false∧w'.cell? ⟨fb,4,none⟩=some (.int .u64 (J:Int))) (⟨z,F,P⟩) ?_;refine GI 0 ?_;iterate 10
  refine GS rfl ?_ ?_ ?_;rotate_left
  ·(intro wx t;obtain⟨f0,f1,f2⟩:=t;go_simp;try with_reducible rfl)
  try simp only[PS]
 refine zW rfl (fun K Q=>?_);go_simp;try simp only[ez]
 refine Q.out _ _ ?_;clear Q K;try simp only[PS]
 refine zo ?_;refine⟨rfl,?_⟩;go_wp2_with fail;go_ret;exact⟨rfl,y.out (HS.out.mod0 (Mod.refl NoB _).drew.drew)⟩
theorem znl(h:zg tag i b c V W)(u:zR tag W)(hi:0<i)(f:Frm)(k:Option Addr)(rn a:Nat)(h2:f.kind=2)(v:rn=f.rngs.length)(w:RR W (.slice k rn a) f.rngs)(n:∀g,Value.blk (.slice k rn a)=some g→(tag g).1≠i)(ok:zkf c f):Calls prog 89 #[.pointer (some ⟨b,0,none⟩),.agg (zj f (.slice k rn a))] W (zbC tag i b W (.int .i64 ((c.acked f.rngs).1:Int)) (c.acked f.rngs).2):=by
 obtain⟨W1,d⟩:=nm (W.alloc (.cells (zj f (.slice k rn a)) 65));have m1:Mod NoB W W1:=by rw[←d];exact(Mod.refl _ _).alloc _
 have o:zh W1 W.heap.size f (.slice k rn a):=by rw[←d];exact heap_alloc_new W _
 have h1:=h.mod0 m1;have j:zR tag W1:=u.mod m1;have D:zt tag i b W1 V c tag V W1:=⟨h1,Ext.same j (Mod.refl NoB W1),Mod.refl _ _,hi,⟨rfl,rfl⟩⟩;have E:Hid (∀{c':CS} {tag':Nat→Nat×Nat} {V':CV} {W':World},zt tag i b W1 V c' tag' V' W'→zbo tag i b W c' W'):=zb (fun r =>
  ⟨_,_,r.c,zaU u m1 r.e,(m1.mono (fun _ x=>x.elim)).then r.m.ofC (fun g hg=>.inl hg)⟩)
 have p:Hid (∀{c':CS} {W':World},zbo tag i b W1 c' W'→zbo tag i b W c' W'):=zb (fun l=>l.from0 u hi m1);obtain⟨fb,q⟩:=nm W.heap.size;rw[q]at o;obtain⟨y0,y1,y2,y3,y4,y5,y6,y7,y8,y9⟩:=o.cells;subst v;obtain⟨o1,y,F,z⟩:=ok.ack h2;have A:Calls prog 158 #[.pointer (some ⟨b,0,none⟩),.slice k f.rngs.length a] W1 (zbC tag i b W1 (.int .i64 ((c.acked f.rngs).1:Int)) (c.acked f.rngs).2):=by
  by_cases s:c.next≤hiAt f.rngs 0
  ·have e:c.acked f.rngs=(11,c):=by unfold CS.acked;rw[if_pos s]
   rw[e];exact zlg h1 j hi f.rngs k a (w.mod m1 (za2.no _)) n o1 y s
  ·rw[zeE c f.rngs s];exact zlh h1 j hi f.rngs k a (w.mod m1 (za2.no _)) n o1 y s F (z s).1 (z s).2
 rw[h2]at y0;obtain⟨RL,t⟩:=nm f.rngs.length;rw[t]at A y9 d ⊢;have KA:=zb A;have R0:=zb D;have B:=zb d;have C:=zb q;clear h u hi m1 o h1 j D d q y1 y2 y3 y4 y5 y6 y7 y8 h2 w n ok A o1 y F z t;go_enter func89,ntmps89;go_upto_region 1 with fail;rw[B.out,C.out];go_upto_region 3 with fail;go_wp2_with fail;refine(KA.out).mono ?_;rintro e W6 ⟨rfl,G⟩;have L6:=zb G;clear G;go_wp2_with fail;go_ret;exact⟨rfl,p.out L6.out⟩
theorem znm(h:zg tag i b c V W)(q:zR tag W)(hi:0<i)(f:Frm)(s:Option Addr)(rn a:Nat)(hk:f.kind=4)(k:Nat)(ok:znb c f k):Calls prog 89 #[.pointer (some ⟨b,0,none⟩),.agg (zj f (.slice s rn a))] W (zbC tag i b W (.int .i64 ((c.data f).1:Int)) (c.data f).2):=by
 obtain⟨W1,d⟩:=nm (W.alloc (.cells (zj f (.slice s rn a)) 65));have m1:Mod NoB W W1:=by rw[←d];exact(Mod.refl _ _).alloc _
 have j:zh W1 W.heap.size f (.slice s rn a):=by rw[←d];exact heap_alloc_new W _
 have h1:=h.mod0 m1;have n:zR tag W1:=q.mod m1;have w:zt tag i b W1 V c tag V W1:=⟨h1,Ext.same n (Mod.refl NoB W1),Mod.refl _ _,hi,⟨rfl,rfl⟩⟩;have y:Hid (∀{c':CS} {tag':Nat→Nat×Nat} {V':CV} {W':World},zt tag i b W1 V c' tag' V' W'→zbo tag i b W c' W'):=zb (fun r =>
  ⟨_,_,r.c,zaU q m1 r.e,(m1.mono (fun _ x=>x.elim)).then r.m.ofC (fun g hg=>.inl hg)⟩)
 have o:Hid (∀{c':CS} {W':World},zbo tag i b W1 c' W'→zbo tag i b W c' W'):=zb (fun l=>l.from0 q hi m1);obtain⟨fb,p⟩:=nm W.heap.size;rw[p]at j;obtain⟨y0,y1,y2,y3,y4,y5,y6,y7,y8,y9⟩:=j.cells;have t:=zne h1 n hi f (.slice s rn a) k ok ⟨_,_,_,rfl⟩;rw[hk]at y0;unfold zj at t;rw[hk]at t;have KA:=zb t;have R0:=zb w;have u:=zb d;have v:=zb p;clear h q hi m1 j h1 n w d p t ok;have HK:=zb hk;clear hk;go_enter func89,ntmps89;go_upto_region 1 with fail;rw[u.out,v.out];go_upto_region 12 with fail;go_wp2_with fail;refine(KA.out).mono ?_;rintro e W6 ⟨rfl,z⟩;have L6:=zb z;clear z;go_wp2_with fail;go_ret;exact⟨rfl,o.out L6.out⟩
theorem znn(h:zg tag i b c V W)(p:zR tag W)(hi:0<i)(f:Frm)(q:Option Addr)(rn a:Nat)(hk:f.kind=7)(ok:zrc c f):Calls prog 89 #[.pointer (some ⟨b,0,none⟩),.agg (zj f (.slice q rn a))] W (zbC tag i b W (.int .i64 0) (c.message f)):=by
 obtain⟨W1,d⟩:=nm (W.alloc (.cells (zj f (.slice q rn a)) 65));have m1:Mod NoB W W1:=by rw[←d];exact(Mod.refl _ _).alloc _
 have j:zh W1 W.heap.size f (.slice q rn a):=by rw[←d];exact heap_alloc_new W _
 have h1:=h.mod0 m1;have k:zR tag W1:=p.mod m1;have v:zt tag i b W1 V c tag V W1:=⟨h1,Ext.same k (Mod.refl NoB W1),Mod.refl _ _,hi,⟨rfl,rfl⟩⟩;have w:Hid (∀{c':CS} {tag':Nat→Nat×Nat} {V':CV} {W':World},zt tag i b W1 V c' tag' V' W'→zbo tag i b W c' W'):=zb (fun r =>
  ⟨_,_,r.c,zaU p m1 r.e,(m1.mono (fun _ x=>x.elim)).then r.m.ofC (fun g hg=>.inl hg)⟩)
 have n:Hid (∀{c':CS} {W':World},zbo tag i b W1 c' W'→zbo tag i b W c' W'):=zb (fun l=>l.from0 p hi m1);obtain⟨fb,o⟩:=nm W.heap.size;rw[o]at j;obtain⟨y0,y1,y2,y3,y4,y5,y6,y7,y8,y9⟩:=j.cells;have s:=zhO h1 k hi f (.slice q rn a) ok ⟨_,_,_,rfl⟩;rw[hk]at y0;unfold zj at s;rw[hk]at s;have KA:=zb s;have R0:=zb v;have t:=zb d;have u:=zb o;clear h p hi m1 j h1 k v d o s ok;have HK:=zb hk;clear hk;go_enter func89,ntmps89;go_upto_region 1 with fail;rw[t.out,u.out];go_upto_region 19 with fail;go_wp2_with fail;refine(KA.out).mono ?_;rintro e W6 ⟨rfl,y⟩;have L6:=zb y;clear y;go_wp2_with fail;go_ret;exact⟨rfl,n.out L6.out⟩
theorem zno(h:zg tag i b c V W)(U:zR tag W)(hi:0<i)(f:Frm)(ra:Option Addr)(rn w:Nat)(h3:f.kind=3)(k:Nat)(hk:k<8)(F:f.stream=(k:Int)):Calls prog 89 #[.pointer (some ⟨b,0,none⟩),.agg (zj f (.slice ra rn w))] W (zbC tag i b W (.int .i64 ((c.resetAt f).1:Int)) (c.resetAt f).2):=by
 obtain⟨W1,y⟩:=nm (W.alloc (.cells (zj f (.slice ra rn w)) 65));have m1:Mod NoB W W1:=by rw[←y];exact(Mod.refl _ _).alloc _
 have z:zh W1 W.heap.size f (.slice ra rn w):=by rw[←y];exact heap_alloc_new W _
 have h1:=h.mod0 m1;have X:zR tag W1:=U.mod m1;have r0:zt tag i b W1 V c tag V W1:=⟨h1,Ext.same X (Mod.refl NoB W1),Mod.refl _ _,hi,⟨rfl,rfl⟩⟩;have C:Hid (∀{c':CS} {tag':Nat→Nat×Nat} {V':CV} {W':World},zt tag i b W1 V c' tag' V' W'→zbo tag i b W c' W'):=zb (fun r =>
  ⟨_,_,r.c,zaU U m1 r.e,(m1.mono (fun _ x=>x.elim)).then r.m.ofC (fun g hg=>.inl hg)⟩)
 have ad:Hid (∀{c':CS} {W':World},zbo tag i b W1 c' W'→zbo tag i b W c' W'):=zb (fun l=>l.from0 U hi m1);obtain⟨fb,A⟩:=nm W.heap.size;rw[A]at z;obtain⟨y0,y1,G,y3,y4,y5,y6,y7,y8,y9⟩:=z.cells;rw[h3]at y0;rw[F]at y1;have H:Hid (∀{c':CS} {tag':Nat→Nat×Nat} {V':CV} {W':World},zt tag i b W1 V c' tag' V' W'→zh W' fb f (.slice ra rn w)):=zb (fun r=>z.mod r.m (fun x=>by
  have h1:=x.1;rw[←A,U _ (Nat.le_refl _)]at h1;simp at h1;omega))
 obtain⟨x,D⟩:=nm (c.rs k);obtain⟨en,I⟩:=nm x.ended;obtain⟨cu,J⟩:=nm x.cut;obtain⟨t,L⟩:=nm x.fin;obtain⟨S,M⟩:=nm x.high;obtain⟨u,B⟩:=nm x.keep;obtain⟨n,p⟩:=nm f.off;obtain⟨RL,N⟩:=nm f.rel;have r4:W1.cell? ⟨b,129+k*13+4,none⟩=some (.int .u64 (S:Int)):=by rw[←M,←D,Nat.mul_comm k 13];exact h1.r (j:=4) hk rfl
 have r5:W1.cell? ⟨b,129+k*13+5,none⟩=some (.int .u64 (t:Int)):=by rw[←L,←D,Nat.mul_comm k 13];exact h1.r (j:=5) hk rfl
 have r6:W1.cell? ⟨b,129+k*13+6,none⟩=some (.bool en):=by rw[←I,←D,Nat.mul_comm k 13];exact h1.r (j:=6) hk rfl
 have r7:W1.cell? ⟨b,129+k*13+7,none⟩=some (.bool cu):=by rw[←J,←D,Nat.mul_comm k 13];exact h1.r (j:=7) hk rfl
 have r8:W1.cell? ⟨b,129+k*13+8,none⟩=some (.int .u64 (u:Int)):=by rw[←B,←D,Nat.mul_comm k 13];exact h1.r (j:=8) hk rfl
 have fz:=h1.fz;rw[p]at G;rw[N]at y3;have Y:c={ c with rs:=upd c.rs k x }:=by rw[←D,zaB]
 have RX:=zb (r0.same Y);have q:Hid (c.resetAt f=if (en&&t != n)||decide (n<S)then(10,c)else(0,{ c with rs:=upd c.rs k (x.resetAt f) })):=zb (by
  unfold CS.resetAt;rw[F];simp only[Int.toNat_natCast,D,I,L,p,M])
 have Z:Hid (x.resetAt f={ x with keep:=if !cu||decide (RL<u)then RL else u,cut:=true,ended:=true,fin:=n }):=zb (by
  unfold RS.resetAt;rw[J,N,B,p])
 have ae:=zb B;have O:=zb p;have dk0:(0:Int)≤k:=by omega
 have dk8:(k:Int)<8:=by omega
 have R0:=zb r0;have af:=zb y;have ah:=zb A;obtain⟨bad,s⟩:=nm (((en&&t != n)||decide (n<S)));rw[s]at q;have aa:=zb s;obtain⟨T,P⟩:=nm ((!cu||decide (RL<u)));rw[P]at Z;have ai:=zb P;clear h U hi m1 z h1 X r0 y A y4 y5 y6 y7 y8 y9 h3 F D I J L M B p N Y s P;go_enter func89,ntmps89;go_upto_region 1 with fail;rw[af.out,ah.out];go_upto_region 5 with fail;refine zB ?_;refine zm 7 (fun w'=>w'.cell? ⟨fb,1,none⟩=some (.int .i64 (k:Int))) (y1) ?_;refine GI 0 ?_;iterate 7
  refine GS rfl ?_ ?_ ?_;rotate_left
  ·(intro d a;(try dsimp only at a);go_simp;try with_reducible rfl)
  try simp only[PS]
 refine zo ?_;refine⟨rfl,?_⟩;go_upto_region 6 with fail
 go_cut [44] (fun bv d=>bv = .bool bad∧d=W1.drew.drew)
 case first=>as_aux_lemma =>
  have hB:=aa.out;subst hB;cases en
  ·refine zB ?_;refine zm 22 (fun w'=>w'.cell? ⟨b,129+k*13+6,none⟩=some (.bool false)∧w'.cell? ⟨b,129+k*13+5,none⟩=some (.int .u64 (t:Int))∧w'.cell? ⟨b,129+k*13+4,none⟩=some (.int .u64 (S:Int))∧w'.cell? ⟨fb,2,none⟩=some (.int .u64 (n:Int))) (⟨r6,r5,r4,G⟩) ?_;refine GI 0 ?_;iterate 5
    refine GS rfl ?_ ?_ ?_;rotate_left
    ·(intro d a;obtain⟨f6,f5,f4,f2⟩:=a;go_simp;try with_reducible rfl)
    try simp only[PS]
   refine GI 5 ?_;iterate 7
    refine GU rfl (fun _ _ _ h=>nomatch h.1) ?_;try simp only[PS]
   refine GI 12 ?_;iterate 10
    refine GS rfl ?_ ?_ ?_;rotate_left
    ·(intro d a;obtain⟨f6,f5,f4,f2⟩:=a;go_simp;try with_reducible rfl)
    try simp only[PS]
   refine zo ?_;refine⟨rfl,?_⟩;go_wp2_with fail;go_meet;exact⟨by simp,rfl⟩
  ·by_cases e1:t=n
   ·subst e1;refine zB ?_;refine zm 22 (fun w'=>w'.cell? ⟨b,129+k*13+6,none⟩=some (.bool true)∧w'.cell? ⟨b,129+k*13+5,none⟩=some (.int .u64 (t:Int))∧w'.cell? ⟨b,129+k*13+4,none⟩=some (.int .u64 (S:Int))∧w'.cell? ⟨fb,2,none⟩=some (.int .u64 (t:Int))) (⟨r6,r5,r4,G⟩) ?_;refine GI 0 ?_;iterate 22
     refine GS rfl ?_ ?_ ?_;rotate_left
     ·(intro d a;obtain⟨f6,f5,f4,f2⟩:=a;go_simp;try with_reducible rfl)
     try simp only[PS]
    refine zo ?_;refine⟨rfl,?_⟩;go_wp2_with fail;go_meet;exact⟨by simp,rfl⟩
   ·have aj:((t:Int)==(n:Int))=false:=by rw[zd7];simpa using e1
    have e1d:((t:Int) != (n:Int))=true:=by simp only[bne,aj];rfl
    have E1:=zb e1;clear e1;refine zB ?_;refine zm 22 (fun w'=>w'.cell? ⟨b,129+k*13+6,none⟩=some (.bool true)∧w'.cell? ⟨b,129+k*13+5,none⟩=some (.int .u64 (t:Int))∧w'.cell? ⟨b,129+k*13+4,none⟩=some (.int .u64 (S:Int))∧w'.cell? ⟨fb,2,none⟩=some (.int .u64 (n:Int))) (⟨r6,r5,r4,G⟩) ?_;refine GI 0 ?_;iterate 14
     refine GS rfl ?_ ?_ ?_;rotate_left
     ·(intro d a;obtain⟨f6,f5,f4,f2⟩:=a;go_simp;try with_reducible rfl)
     try simp only[PS]
    refine GI 14 ?_;iterate 7
     refine GU rfl (fun _ _ _ h=>nomatch h.1) ?_;try simp only[PS]
    refine GI 21 ?_;refine GS rfl ?_ ?_ ?_;rotate_left
    ·(intro d a;obtain⟨f6,f5,f4,f2⟩:=a;go_simp;try with_reducible rfl)
    try simp only[PS]
    refine zo ?_;refine⟨rfl,?_⟩;go_wp2_with fail;go_meet;exact⟨by simp[E1.out],rfl⟩
 case rest =>
 obtain⟨rfl,hw⟩:=hcut;obtain⟨WA,Q⟩:=nn wc;subst Q;subst hw;clear r4 r5 r6;cases bad with
 | true =>
  have o:=q.out;simp only[if_true]at o;have R:=zb o;clear o;go_wp2_with fail;go_ret;rw[R.out];exact⟨rfl,C.out (R0.out.mod0 (Mod.refl NoB W1).drew.drew)⟩
 | false =>
 have o:=q.out;simp only[Bool.false_eq_true,if_false]at o;have R:=zb o;clear o;go_upto_region 8 with fail
 go_cut [58] (fun bv d=>bv = .bool T∧d=W1.drew.drew.drew)
 case first=>as_aux_lemma =>
  have hB:=ai.out;subst hB;cases cu
  ·refine zB ?_;refine zm 14 (fun w'=>w'.cell? ⟨b,129+k*13+7,none⟩=some (.bool false)∧w'.cell? ⟨b,129+k*13+8,none⟩=some (.int .u64 (u:Int))∧w'.cell? ⟨fb,3,none⟩=some (.int .u64 (RL:Int))) (⟨r7,r8,y3⟩) ?_;refine GI 0 ?_;iterate 6
    refine GS rfl ?_ ?_ ?_;rotate_left
    ·(intro d a;obtain⟨f7,f8,f3⟩:=a;go_simp;try with_reducible rfl)
    try simp only[PS]
   refine GI 6 ?_;iterate 7
    refine GU rfl (fun _ _ _ h=>nomatch h.1) ?_;try simp only[PS]
   refine GI 13 ?_;refine GS rfl ?_ ?_ ?_;rotate_left
   ·(intro d a;obtain⟨f7,f8,f3⟩:=a;go_simp;try with_reducible rfl)
   try simp only[PS]
   refine zo ?_;refine⟨rfl,?_⟩;go_wp2_with fail;go_meet;exact⟨by simp,rfl⟩
  ·refine zB ?_;refine zm 14 (fun w'=>w'.cell? ⟨b,129+k*13+7,none⟩=some (.bool true)∧w'.cell? ⟨b,129+k*13+8,none⟩=some (.int .u64 (u:Int))∧w'.cell? ⟨fb,3,none⟩=some (.int .u64 (RL:Int))) (⟨r7,r8,y3⟩) ?_;refine GI 0 ?_;iterate 14
    refine GS rfl ?_ ?_ ?_;rotate_left
    ·(intro d a;obtain⟨f7,f8,f3⟩:=a;go_simp;try with_reducible rfl)
    try simp only[PS]
   refine zo ?_;refine⟨rfl,?_⟩;go_wp2_with fail;go_meet;exact⟨by simp,rfl⟩
 case rest =>
 obtain⟨rfl,hw⟩:=hcut;obtain⟨WA,Q⟩:=nn wc;subst Q;subst hw;have rk:=(RX.out.mod0 (Mod.refl NoB W1).drew.drew.drew).storeR hk 8 (by decide) (.int .u64 (RL:Int)) { x with keep:=RL } (by rfl) rfl rfl;rw[Nat.mul_comm 13 k]at rk;have f8:=fz (129+k*13+8);have RK:=zb rk;clear rk;go_upto_if 58 with fail
 go_cut [] (fun d=>Hid (zt tag i b W1 V { c with rs:=upd c.rs k { x with keep:=if T then RL else u } } tag V d))
 case first=>as_aux_lemma =>
  cases T
  ·go_wp2_with fail;go_meet;exact zb ((RX.out.mod0 (Mod.refl NoB W1).drew.drew.drew).same (by rw[←ae.out];simp))
  ·go_wp2_with fail;go_meet;exact zb (RK.out.same (by simp))
 case rest =>
 obtain⟨WB,ak⟩:=nn wc;subst ak;have RB:=hcut;clear hcut RK y1 G y3 r7 r8 f8 fz;have G:WB.cell? ⟨fb,2,none⟩=some (.int .u64 (n:Int)):=by rw[←O.out];exact(H.out RB.out).cells.2.2.1
 have fzb:=RB.out.c.fz;obtain⟨u7,c7⟩:∃v,WB.cell? ⟨b,129+k*13+7,none⟩=some v:=⟨_,by rw[Nat.mul_comm k 13];exact RB.out.c.r (j:=7) hk rfl⟩;have r1:=RB.out.storeR hk 7 (by decide) (.bool true) { x with keep:=if T then RL else u,cut:=true } (by rfl) rfl rfl;have r2:=r1.storeR hk 6 (by decide) (.bool true) { x with keep:=if T then RL else u,cut:=true,ended:=true } (by rfl) rfl rfl;have r3:=r2.storeR hk 5 (by decide) (.int .u64 (n:Int)) { x with keep:=if T then RL else u,cut:=true,ended:=true,fin:=n } (by rfl) rfl rfl;have ab:(WB.setCell ⟨b,129+13*k+7,none⟩ (.bool true)).cell? ⟨fb,2,none⟩=some (.int .u64 (n:Int)):=by rw[←O.out];exact(H.out r1).cells.2.2.1
 have ac:((WB.setCell ⟨b,129+13*k+7,none⟩ (.bool true)).setCell ⟨b,129+13*k+6,none⟩ (.bool true)).cell? ⟨fb,2,none⟩=some (.int .u64 (n:Int)):=by rw[←O.out];exact(H.out r2).cells.2.2.1
 have al:=r1.c.fz;have am:=r2.c.fz;obtain⟨u6,c6⟩:∃v,(WB.setCell ⟨b,129+13*k+7,none⟩ (.bool true)).cell? ⟨b,129+k*13+6,none⟩=some v:=⟨_,by rw[Nat.mul_comm k 13];exact r1.c.r (j:=6) hk rfl⟩;obtain⟨u5,c5⟩:∃v,((WB.setCell ⟨b,129+13*k+7,none⟩ (.bool true)).setCell ⟨b,129+13*k+6,none⟩ (.bool true)).cell? ⟨b,129+k*13+5,none⟩=some v:=⟨_,by rw[Nat.mul_comm k 13];exact r2.c.r (j:=5) hk rfl⟩;rw[Nat.mul_comm 13 k]at r3 ab ac al am c6 c5;have R3:=zb (r3.same (c':={ c with rs:=upd c.rs k (x.resetAt f) }) (by rw[Z.out]));clear r1 r2 r3;go_upto_region 10 with fail;refine zB ?_;refine zm 13 (fun w'=>w'.cell? ⟨fb,2,none⟩=some (.int .u64 (n:Int))) (G) ?_;refine GI 0 ?_;iterate 7
  refine GS rfl ?_ ?_ ?_;rotate_left
  ·(intro d a;(try dsimp only at a);go_simp;try with_reducible rfl)
  try simp only[PS]
 refine zz 7 rfl (fun K E=>?_);go_simp;go_simp;refine E.out _ _ ab ?_;clear E K;try simp only[PS]
 refine GI 8 ?_;iterate 2
  refine GS rfl ?_ ?_ ?_;rotate_left
  ·(intro d a;(try dsimp only at a);go_simp;try with_reducible rfl)
  try simp only[PS]
 refine zz 10 rfl (fun K E=>?_);go_simp;go_simp;refine E.out _ _ ac ?_;clear E K;try simp only[PS]
 refine GI 11 ?_;iterate 2
  refine GS rfl ?_ ?_ ?_;rotate_left
  ·(intro d a;(try dsimp only at a);go_simp;try with_reducible rfl)
  try simp only[PS]
 refine zW rfl (fun K E=>?_);go_simp;refine E.out _ _ ?_;clear E K;try simp only[PS]
 refine zo ?_;refine⟨rfl,?_⟩;go_wp2_with fail;go_ret;rw[R.out];exact⟨rfl,C.out (R3.out.mod0 (Mod.refl NoB _).drew)⟩
theorem znp(h:zg tag i b c V W)(j:zR tag W)(hi:0<i)(f:Frm)(r:Value)(t:RR W r f.rngs)(s:∀g,Value.blk r=some g→(tag g).1≠i)(ok:zkf c f):Calls prog 89 #[.pointer (some ⟨b,0,none⟩),.agg (zj f r)] W (zbC tag i b W (.int .i64 ((c.take f).1:Int)) (c.take f).2):=by
 obtain⟨l,a,e,_,_,_⟩:=id t;subst e;unfold CS.take;by_cases h2:f.kind=2
 ·rw[if_pos h2];exact znl h j hi f l _ a h2 rfl t s ok
 rw[if_neg h2];by_cases h3:f.kind=3
 ·rw[if_pos h3];obtain⟨k,hk,d⟩:=ok.reset h3;exact zno h j hi f l _ a h3 k hk d
 rw[if_neg h3];by_cases h4:f.kind=4
 ·rw[if_pos h4];obtain⟨k,o⟩:=ok.data h4;exact znm h j hi f l _ a h4 k o
 rw[if_neg h4];by_cases p:f.kind=5
 ·rw[if_pos p];exact znj h j hi f l _ a p
 rw[if_neg p];by_cases m:f.kind=6
 ·rw[if_pos m];obtain⟨k,hk,d⟩:=ok.ms m;have:=znk h j hi f l f.rngs.length a m k hk d;rw[d];exact this
 rw[if_neg m];by_cases n:f.kind=7
 ·rw[if_pos n];exact znn h j hi f l _ a n (ok.msg n)
 rw[if_neg n];by_cases q:f.kind=8
 ·rw[if_pos q];exact zni h j hi f l _ a q
 rw[if_neg q];exact znh h j hi f l _ a h2 h3 h4 p m n q
def zjm(w0 w:World)(ev:Value)(n:Nat)(at_:Int):Prop :=
 (at_ = -1∧ev=zdV n)∨∃fa,ev = .iface 162 (.pointer (some ⟨fa,0,none⟩))∧w.heap[fa]?=some (.cells #[.int .i64 (n:Int),.int .i64 at_] 167 (0,0))∧w0.heap.size≤fa
def zdO(tag:Nat→Nat×Nat)(i b:Nat)(W:World)(n:Nat)(at_:Int)(c':CS)(e:Ending)(W':World):Prop :=
 ∃ev,e = .returned ev∧zjm W W' ev n at_∧zbo tag i b W c' W'
def zfc:List Frm→CS→Prop
 | [],_=>True
 | f::fs,c=>zkf c f∧((c.take f).1=0→zfc fs { (c.take f).2 with answer:=(c.take f).2.answer||f.kind != 2 })
theorem zrh(h:zg tag i b c V W)(ht:zR tag W)(hi:0<i)(m:c.got.Ok)(lo a:Nat)(n:a≤zD){e:Ending}(ha:zq3 c.got V.g 0 lo a V.gv W e W'):e = .returned (.tuple #[])∧zbo tag i b W { c with got:=c.got.add lo a } W':=by
 obtain⟨v',rfl,h1,h2,h3,h4⟩:=ha;refine⟨rfl,?_⟩;have p:∀{g r:Nat},tag g=(i,r)→g<W.heap.size:=fun hg=>zaD ht hg hi
 have q:∀g,(g=V.g∨V.gv.ownBlock=some g)→∃r,(r=2∨r=3)∧tag g=(i,r):=fun g hg=>by
  rcases hg with hg|hg
  ·exact⟨2,.inl rfl,by rw[hg];exact h.tg⟩
  ·exact⟨3,.inr rfl,h.tgv g hg⟩
 have d:∀g,(tag g).1=i→retag tag W W' (i,3) g=tag g:=fun g hg=>zy (p (r:=(tag g).2) (by rw[←hg]))
 have hb:¬(b=V.g∨V.gv.ownBlock=some b):=fun x=>by
  obtain⟨r,hr,e⟩:=q b x;rw[h.tb]at e;have:=congrArg Prod.snd e;simp at this;omega
 refine⟨retag tag W W' (i,3),{ V with gv:=v' },h.build (R:=fun r=>r=2∨r=3) h3 q d (h3.obj hb h.obj) (.inr ⟨?_,?_,fun g hg=>?_⟩) (fun k hk=>.inl ⟨rfl,rfl,by omega⟩) (fun k hk=>.inl ⟨rfl,rfl,by omega⟩) (fun k hk=>.inl ⟨rfl,rfl,by omega⟩) (fun k hk=>.inl ⟨rfl,rfl,by omega⟩) (fun k hk=>.inl ⟨rfl,rfl,by omega⟩) (.inl ⟨rfl,rfl,rfl,by omega,by omega⟩) (.inl ⟨rfl,rfl,by omega⟩) (.inl ⟨rfl,rfl,by omega⟩) (.inl ⟨rfl,rfl,by omega⟩),zbw h3.size,h3.mono (fun g hg=>.inl ?_)⟩
 ·have hm:(c.got.add lo a).most=c.got.most:=zbm _ _ _;obtain⟨cs,T,l,hc⟩:∃cs T l,W.heap[V.g]?=some (.cells cs T l):=by
   have:=h.got.cl;unfold World.cell? at this;split at this
   ·rename_i o ho;exact⟨_,_,_,ho⟩
   ·cases this
  have f:W'.heap[V.g]?=some (.cells ((cs.setIfInBounds 0 v').setIfInBounds (0+1) (.int .u64 ((c.got.add lo a).fl:Int))) T l):=by
   rw[h2,zc (zc hc)]
  have hsz:2<cs.size:=by
   have:=h.got.cm;unfold World.cell? at this;simp only[hc]at this;exact(Array.getElem?_eq_some_iff.1 (by simpa using this)).1
  refine⟨za f (by rw[Array.getElem?_setIfInBounds_ne (by omega),Array.getElem?_setIfInBounds_self_of_lt (by omega)]),za f (by rw[Array.getElem?_setIfInBounds_self_of_lt (by simp;omega)]),?_,h1,?_,fun j=>?_⟩
  ·refine za f ?_;have:=h.got.cm;unfold World.cell? at this;simp only[hc]at this;simp[Array.getElem?_setIfInBounds];rw[hm];simpa using this
  ·have hk:=m.add lo n;have:=hk.rl;have:=hk.most.2;show(c.got.add lo a).rs.length≤_;omega
  ·have:=h.got.fz j;unfold World.frozen? at this ⊢;simp only[hc]at this;simp only[f];exact this
 ·rw[d _ (by rw[h.tg]),h.tg]
 ·rcases h4 g hg with y|y
  ·rw[d _ (by rw[h.tgv g y]),h.tgv g y]
  ·exact zav y (zE h1 g hg)
 ·obtain⟨r,_,e⟩:=q g hg;rw[e]
variable{m:Nat}{rs:zA}
theorem has_eq{fl:Nat}(hw:WF rs)(h:zab rs.length (zqA rs n) m):(decide (n<fl)||decide (m<rs.length)&&decide (loAt rs m≤n))=zp9 rs fl n:=by
 unfold zp9
 congr 1
 rw[Bool.eq_iff_iff,←Bool.decide_and,decide_eq_true_eq,zq2 hw h,List.any_eq_true];constructor
 ·rintro⟨i,hi,h1,h2⟩;refine⟨rs[i],List.getElem_mem hi,?_⟩;have e:rs.getD i (0,0)=rs[i]:=by simp[List.getD,hi]
  unfold loAt at h1;unfold hiAt at h2;rw[e]at h1 h2;simp[h1,h2]
 ·rintro⟨r,hr,h1⟩;obtain⟨i,hi,rfl⟩:=List.mem_iff_getElem.1 hr;have e:rs.getD i (0,0)=rs[i]:=by simp[List.getD,hi]
  simp only[Bool.and_eq_true,decide_eq_true_eq]at h1;refine⟨i,hi,?_,?_⟩
  ·unfold loAt;rw[e];exact h1.1
  ·unfold hiAt;rw[e];exact h1.2
theorem zri(s:zaI)(b o n:Nat)(v:Value)(w:World)(h:zbA w b o v s.rs s.fl s.most)(hw:WF s.rs):Calls prog 87 #[.pointer (some ⟨b,o,none⟩),.int .u64 (n:Int)] w (fun e w'=>e = .returned (.bool (zp9 s.rs s.fl n))∧Mod NoB w w'):=by
 refine(zon s.rs s.fl s.most b o n v w h).mono ?_;rintro e w' ⟨m,hm,rfl,hb⟩;exact⟨by rw[has_eq hw hm],Mod.of_below hb⟩
theorem eq_sum(w:World):(binOp .eql 98 (.iface 57 (.int .i64 7)) (.iface 57 (.int .i64 7))).run prog w = .ok (.bool true) w:=by kernel_rfl
theorem zpE(p:Addr)(w:World):(binOp .eql 98 (.iface 162 (.pointer (some p))) (.iface 57 (.int .i64 7))).run prog w = .ok (.bool false) w:=by kernel_rfl
theorem eq_nil(w:World):(binOp .eql 98 .nilIface (.iface 57 (.int .i64 7))).run prog w = .ok (.bool false) w:=by kernel_rfl
def zki(c:CS)(bs:List UInt8):Prop:=c.closed=0→∀n fs,dec bs = .ok n fs→c.got.Ok∧n≤zD∧(zp9 c.got.rs c.got.fl n=false→zfc fs { c with got:=c.got.add n n })
theorem zjn(bs:List UInt8)(h:c.closed≠0):c.receive bs=((12,-1),c):=by
 unfold CS.receive;rw[if_pos h]
theorem zlk(h:zg tag i b c V W)(d:zR tag W)(v:Value)(bs:List UInt8)(hc:c.closed≠0):Calls prog 51 #[.pointer (some ⟨b,0,none⟩),v] W (zdO tag i b W 12 (-1) c):=by
 have c4:W.cell? ⟨b,4,none⟩=some (.int .i64 (c.closed:Int)):=h.hd (j:=4) rfl;have hb:((c.closed:Int)==0)=false:=beq_eq_false_iff_ne.2 (by omega);have HL:=zb (h.left d (Mod.refl _ _));obtain⟨cl,a⟩:=nm c.closed;rw[a]at c4 hb;clear h d hc a;go_enter func51,ntmps51;go_wp2_with fail;go_ret;exact⟨_,rfl,.inl ⟨rfl,rfl⟩,HL.out⟩
theorem zll(h:zg tag i b c V W)(g:zR tag W)(v:Value)(bs:List UInt8)(d:BR W v bs)(a:Tab W)(hl:bs.length<1099511627776)(hc:c.closed=0)(hd:dec bs = .sum):Calls prog 51 #[.pointer (some ⟨b,0,none⟩),v] W (zdO tag i b W 7 (-1) c):=by
 have f:=zcn v bs W d a hl;rw[hd]at f;have c4:W.cell? ⟨b,4,none⟩=some (.int .i64 (c.closed:Int)):=h.hd (j:=4) rfl;rw[hc]at c4;have HH:=zb h;have HT:=zb g;have KD:=zb f;obtain⟨va,vc,rfl,_⟩:=d;clear h g hc f a;go_enter func51,ntmps51;go_wp2_with fail;refine(KD.out).mono ?_;rintro e W2 ⟨k,rfl⟩;have l:=zb k;clear k;have hE:=eq_sum;go_wp2_with fail;go_ret;exact⟨_,rfl,.inl ⟨rfl,rfl⟩,((HH.out.mod0 l.out).mod0 ((Mod.refl NoB _).alloc _)).left HT.out ((l.out.alloc _).mono (fun _ x=>x.elim))⟩
theorem zlm(h:zg tag i b c V W)(s:zR tag W)(hi:0<i)(v:Value)(bs:List UInt8)(at_:Nat)(m:BR W v bs)(f:Tab W)(hl:bs.length<1099511627776)(hc:c.closed=0)(hd:dec bs = .bad at_):Calls prog 51 #[.pointer (some ⟨b,0,none⟩),v] W (zdO tag i b W 8 at_ { c with closed:=8 }):=by
 have t:=zcn v bs W m f hl;rw[hd]at t;have c4:W.cell? ⟨b,4,none⟩=some (.int .i64 (c.closed:Int)):=h.hd (j:=4) rfl;rw[hc]at c4;have z:=zb h;have HT:=zb s;have KD:=zb t;have hbW:b<W.heap.size:=zaD s h.tb hi;obtain⟨va,vc,rfl,_⟩:=m;clear h s hc t f;go_enter func51,ntmps51;go_wp2_with fail;refine(KD.out).mono ?_;rintro e W2 ⟨A,o,rfl,n,u⟩;obtain⟨l,d⟩:=nm (W2.alloc (.cells #[.int .u64 0,.slice none 0 0] 56));have r:Mod NoB W l:=by rw[←d];exact A.alloc _
 have c3:=z.out.mod0 r;have fz:=c3.fz 4;have c4':=r.cell (a:=⟨b,4,none⟩) id c4;have B:zg tag i b { c with closed:=8 } V (l.setCell ⟨b,4,none⟩ (.int .i64 8)):=c3.store 4 _ (za7 _ _ _ _ _ (by decide) rfl rfl rfl rfl) ⟨rfl,fun _ _=>⟨rfl,rfl,rfl⟩,fun _ _=>⟨rfl,rfl⟩,rfl,rfl,rfl,rfl⟩;have C:Mod (fun q=>q=b) W (l.setCell ⟨b,4,none⟩ (.int .i64 8)):=Mod.setCell (S:=fun q=>q=b) (r.mono (fun _ x=>x.elim)) (p:=⟨b,4,none⟩) (.inl rfl) _;have g:l.heap[o]?=some (.cells #[.int .i64 8,.int .i64 (at_:Int)] 167 (0,0)):=by
  have:Mod NoB W2 l:=by rw[←d];exact(Mod.refl _ _).alloc _
  exact this.obj (fun x=>x) n
 have k:(l.setCell ⟨b,4,none⟩ (.int .i64 8)).heap[o]?=some (.cells #[.int .i64 8,.int .i64 (at_:Int)] 167 (0,0)):=((Mod.refl (fun q=>q=b) l).setCell (p:=⟨b,4,none⟩) (.inl rfl) _).obj (by show ¬o=b;omega) g;have HF:=zb k;have w:=zb u;have HL:=zb (B.left HT.out (z.out.modb C));have y:=zb d;clear A n r c3 B C g k d;have hE:=zpE;go_upto_region 4 with fail;rw[y.out];go_wp2_with fail;go_ret;exact⟨_,rfl,.inr ⟨o,rfl,HF.out,w.out⟩,HL.out⟩
variable{X w1:World}
theorem zc0{d:World}{c2:CS}(hi:0<i)(c:Ext i tag tag' W w1)(m1:Mod (fun g=>(tag g).1=i) W w1)(mx:Mod NoB w1 X)(h2:zbo tag' i b X c2 d):zbo tag i b W c2 d:=by
 obtain⟨tag2,V2,a,b',c'⟩:=h2.from0 c.out hi mx;refine⟨tag2,V2,a,c.trans b' m1.size,m1.then c' (fun g hg=>?_)⟩;by_cases q:g<W.heap.size
 ·exact .inl (by rw[←c.old g q];exact hg)
 ·exact .inr (by omega)
variable{c':CS}
theorem zd9(h:zbo tag i b W c W')(hi:0<i)(j:Nat)(v:Value)(hc:∀V,(zr c V).set j v=zr c' V)(s:zbH c c'):zbo tag i b W c' (W'.setCell ⟨b,j,none⟩ v):=by
 obtain⟨tag',a,h1,h2,h3⟩:=h;have m:Mod (fun q=>q=b) W' (W'.setCell ⟨b,j,none⟩ v):=(Mod.refl (fun q=>q=b) _).setCell (p:=⟨b,j,none⟩) (.inl rfl) _;refine⟨tag',a,h1.store j v (hc a) s,⟨h2.old,h2.new,h2.out.mod m⟩,h3.then m (fun g hg=>?_)⟩;have hg:g=b:=hg;by_cases q:g<W.heap.size
 ·exact .inl (by rw[←h2.old g q,hg,h1.tb])
 ·exact .inr (by omega)
variable{fs:List Frm}
theorem zrj(hc:c.closed=0)(hd:dec bs = .ok n fs):c.receive bs=if zp9 c.got.rs c.got.fl n then((0,-1),c)else(((CS.takes fs { c with got:=c.got.add n n }).1,-1),(CS.takes fs { c with got:=c.got.add n n }).2):=by
 unfold CS.receive;rw[if_neg (by omega),hd]
theorem zln(h:(c.take f).1=0):CS.takes (f::fs) c=CS.takes fs { (c.take f).2 with answer:=(c.take f).2.answer||f.kind != 2 }:=by
 rw[CS.takes,if_neg (by rw[h];simp)]
theorem zlo(h:(c.take f).1≠0):CS.takes (f::fs) c=((c.take f).1,{ (c.take f).2 with closed:=(c.take f).1,said:=(c.take f).1==13 }):=by
 rw[CS.takes,if_pos h]
theorem zlp(h:zg tag i b c V W)(ht:zR tag W)(hi:0<i)(v:Value)(bs:List UInt8)(n:Nat)(fs:List Frm)(ay:BR W v bs)(aa:Tab W)(hl:bs.length<1099511627776)(hc:c.closed=0)(hd:dec bs = .ok n fs)(ok:zki c bs)(a7:fs.length≤1099511627776):Calls prog 51 #[.pointer (some ⟨b,0,none⟩),v] W (zdO tag i b W (c.receive bs).1.1 (c.receive bs).1.2 (c.receive bs).2):=by
 have kd:=zcn v bs W ay aa hl;rw[hd]at kd;obtain⟨o1,o2,o3⟩:=ok hc n fs hd;rw[zrj hc hd];have c4:W.cell? ⟨b,4,none⟩=some (.int .i64 (c.closed:Int)):=h.hd (j:=4) rfl;rw[hc]at c4;obtain⟨hb,ad⟩:=nm (zp9 c.got.rs c.got.fl n);rw[ad]at o3 ⊢;obtain⟨R,hR⟩:∃o,(if hb=true then((0,-1),c)else(((CS.takes fs { c with got:=c.got.add n n }).1,-1),(CS.takes fs { c with got:=c.got.add n n }).2):(Nat×Int)×CS)=o:=⟨_,rfl⟩;rw[hR];have HR:=zb hR;clear hR;have HH:=zb h;have O:=zb ht;have y:=zb hi;have P:=zb kd;have O1:=zb o1;have O2:=zb o2;have O3:=zb o3;have a8:=zb ad;have q2:=o2;unfold zD at q2;obtain⟨va,vc,rfl,_⟩:=ay;clear h ht hc kd aa ok hd o1 o2 o3 ad;go_enter func51,ntmps51;go_wp2_with fail;refine(P.out).mono ?_;rintro e W2 ⟨m2,fv,z,rfl,D,E,ae,az⟩;obtain⟨fa,fc,rfl,q3,q4,_⟩:=zi D.1;have af:z.length=fs.length:=by rw[←E,List.length_map]
 obtain⟨N,hN⟩:=nm fs.length;rw[hN]at a7;rw[af,hN]at D ae q3 ⊢;unfold maxLen at q4;obtain⟨C,F⟩:=nm (W2.alloc (.cells #[.int .u64 (n:Int),.slice fa N fc] 56));have m3:Mod NoB W C:=by rw[←F];exact m2.alloc _
 have ah:Mod NoB W2 C:=by rw[←F];exact(Mod.refl _ _).alloc _
 have oP:C.heap[W2.heap.size]?=some (.cells #[.int .u64 (n:Int),.slice fa N fc] 56 (0,0)):=by rw[←F];exact heap_alloc_new W2 _
 obtain⟨A,Q⟩:=nm W2.heap.size;rw[Q]at oP;have p0:=za (o:=0) oP rfl;have p1:C.cell? ⟨A,1,none⟩=some (.slice fa N fc):=za (o:=1) oP rfl;have h3:=HH.out.mod0 m3;have c7:C.cell? ⟨b,7,none⟩=some (.pointer (some ⟨V.g,0,none⟩)):=h3.hd (j:=7) rfl;have kh:=zri c.got V.g 0 n V.gv C.drew (h3.got.mod (Mod.refl NoB C).drew (fun x=>x) (fun _ _ x=>x)) O1.out.wf;rw[a8.out]at kh;have ab:W.heap.size≤A:=by rw[←Q];exact m2.size
 have w:zet C (.slice fa N fc) z:=(zis.frs D).mod0 ah;have KH:=zb kh;have H3:=zb h3;have G:=zb m3;have a9:=zb ah;have aA:=zb w;have ba:=zb ae;have aB:=zb az;have bb:Hid (∀x∈z,∀g,x.2.ownBlock=some g→g<W2.heap.size):=zb (fun x hx g hg=>zE (D.2 x hx).1 g hg);have bc:=zb E;have bd:=zb af;have HN:=zb hN;have be:=zb F;have bf:=zb Q;have bh:=zb ab;have hE:=eq_nil;clear m2 m3 ah oP h3 kh ab w D ae az E af hN F Q;go_upto_region 9 with fail;rw[be.out,bf.out];refine zB ?_;refine zm 8 (fun w'=>w'.cell? ⟨b,7,none⟩=some (.pointer (some ⟨V.g,0,none⟩))∧w'.cell? ⟨A,0,none⟩=some (.int .u64 (n:Int))) (⟨c7,p0⟩) ?_;refine GI 0 ?_;iterate 6
  refine GS rfl ?_ ?_ ?_;rotate_left
  ·(intro wx H;obtain⟨f7,f0⟩:=H;go_simp;try with_reducible rfl)
  try simp only[PS]
 refine zz 6 rfl (fun K hK=>?_);go_simp;go_simp
 with_reducible refine(KH.out).mono ?_
 rintro e p ⟨rfl,m4⟩;have M4:=zb m4;have aC:p.cell? ⟨b,7,none⟩=some (.pointer (some ⟨V.g,0,none⟩))∧p.cell? ⟨A,0,none⟩=some (.int .u64 (n:Int)):=⟨m4.cell (a:=⟨b,7,none⟩) id c7,m4.cell (a:=⟨A,0,none⟩) id p0⟩;clear m4;go_simp;refine hK.out _ _ aC ?_;clear aC;clear hK K;try simp only[PS]
 refine GI 7 ?_;refine GS rfl ?_ ?_ ?_;rotate_left
 ·(intro wx H;obtain⟨f7,f0⟩:=H;go_simp;try with_reducible rfl)
 try simp only[PS]
 refine zo ?_;refine⟨rfl,?_⟩;cases hb with
 | true =>
  go_wp2_with fail;go_ret;rw[←HR.out];simp only[if_true];exact⟨_,rfl,.inl ⟨rfl,rfl⟩,(H3.out.mod0 ((Mod.refl NoB C).drew.trans M4.out)).left O.out ((G.out.trans ((Mod.refl NoB C).drew.trans M4.out)).mono (fun _ x=>x.elim))⟩
 | false =>
 have t:Mod NoB C p:=(Mod.refl NoB C).drew.trans M4.out;have h4:=H3.out.mod0 t;have aD:zR tag p:=O.out.mod (G.out.trans t);have hm:=O1.out.most;have aE:=O1.out.rl;have ac:=O1.out.fl;unfold zD at ac;have aF:V.gv.ownBlock≠some V.g:=fun e=>by
  have h5:=h4.tgv V.g e;rw[h4.tg]at h5;have:=congrArg Prod.snd h5;simp at this
 have S:=zco c.got V.g 0 n n V.gv p.drew (h4.got.mod (Mod.refl NoB p).drew (fun x=>x) (fun _ _ x=>x)) O1.out.wf (by omega) (by omega) (by omega) aF hm.1 (by omega);have aG:=S.mono (fun e w' x=>zrh (h4.mod0 (Mod.refl NoB p).drew) (aD.mod (Mod.refl NoB p).drew) y.out O1.out n n O2.out x);have KA:=zb aG;have d7:=t.cell (a:=⟨b,7,none⟩) id c7;have d0:=t.cell (a:=⟨A,0,none⟩) id p0;have d1:=t.cell (a:=⟨A,1,none⟩) id p1;have d:=zb t;clear S aG h4 aD hm aE ac aF t p0 p1 c7 c4 hE;go_upto_region 11 with fail;refine zB ?_;refine zm 8 (fun w'=>w'.cell? ⟨b,7,none⟩=some (.pointer (some ⟨V.g,0,none⟩))∧w'.cell? ⟨A,0,none⟩=some (.int .u64 (n:Int))) (⟨d7,d0⟩) ?_;refine GI 0 ?_;iterate 8
  refine GS rfl ?_ ?_ ?_;rotate_left
  ·(intro wx H;obtain⟨f7,f0⟩:=H;go_simp;try with_reducible rfl)
  try simp only[PS]
 refine zW rfl (fun K hK=>?_);go_simp
 with_reducible refine(KA.out).mono ?_
 rintro e W5 ⟨rfl,l5⟩;have L5:=zb l5;clear l5;go_simp;refine hK.out _ _ ?_;clear hK K;try simp only[PS]
 refine zo ?_;refine⟨rfl,?_⟩;have ai:tag A=(0,0):=O.out A bh.out;have bi:W5.cell? ⟨A,1,none⟩=some (.slice fa N fc):=by
  obtain⟨bq,V5,_,_,q⟩:=L5.out;exact q.cell (a:=⟨A,1,none⟩) (by
   show ¬(tag A).1=i;rw[ai];have:=y.out;simp;omega) d1
 have ai:=zb ai;clear d7 d0 d1;go_wp2_with fail;obtain⟨c0,aj⟩:∃o,({ c with got:=c.got.add n n }:CS)=o:=⟨_,rfl⟩;have aH:Hid (R=(((CS.takes fs c0).1,-1),(CS.takes fs c0).2)):=zb (by
  have:=HR.out;rw[if_neg (by simp),aj]at this;exact this.symm)
 have O4:=zb (O3.out trivial);rw[aj]at L5 O4;clear HR O3 aj;have aI:=L5.out.from0 (W:=p) (O.out.mod (G.out.trans d.out)) y.out (Mod.refl NoB p).drew;have aJ:=zb aI;have HSZ:Hid (W.heap.size≤p.heap.size):=zb (Nat.le_trans G.out.size d.out.size);have aK:Hid (W2.heap.size≤p.heap.size):=zb (Nat.le_trans a9.out.size d.out.size);have HT4:=zb (O.out.mod (G.out.trans d.out));have bj:=zb (aA.out.mod0 d.out);clear aI L5 aA
 go_loopw [53] (fun iv wr=>∃(k:Nat) (c':CS),k≤N∧iv = .int .i64 (k:Int)∧Hid (zbo tag i b p c' wr∧CS.takes (fs.drop k) c'=CS.takes fs c0∧zfc (fs.drop k) c')) (fun iv _=>N-(intOf iv).toNat)
 case atStart=>exact⟨0,c0,Nat.zero_le _,rfl,zb ⟨aJ.out,by simp,by simpa using O4.out⟩⟩
 case round =>
  clear aJ O4 bi;obtain⟨k,c1,hk,rfl,HQ⟩:=hrel;by_cases aL:k<N
  ·obtain⟨I,V1,h1,e1,m1⟩:=HQ.out.1;have T:∀g,W.heap.size≤g→(tag g).1≠i:=fun g hg x=>by
    rw[O.out g hg]at x;have:=y.out;simp at x;omega
   have w:=bj.out.mod m1 (fun g o n' c' e x=>by
    cases e;exact T g (ba.out g rfl) x) (fun fr B g o n' c' e x=>T g (aB.out fr B g (by rw[e];rfl)) x)
   obtain⟨a',aM,aN,_,_,aO⟩:=w;have aP:k<z.length:=by rw[bd.out,HN.out];exact aL
   obtain⟨⟨f,rv⟩,B⟩:∃fr,z[k]?=some fr:=⟨z[k],List.getElem?_eq_getElem aP⟩;have ak:fs[k]?=some f:=by rw[←bc.out,List.getElem?_map,B];rfl
   obtain⟨⟨g2,o2,bk,al⟩,J⟩:=aO k (f,rv) B;have bm:a'=fa∧aM=fc:=by cases aN;exact⟨rfl,rfl⟩
   obtain⟨rfl,rfl⟩:=bm;subst bk;simp only at al J;have L:=List.mem_of_getElem? B;have aQ:∀g,Value.blk rv=some g→(I g).1≠i:=fun g hg=>by
    have aR:rv.ownBlock=some g:=by
     obtain⟨ra,rc,e,_⟩:=id J;subst e;cases ra with
     | none=>cases hg
     | some a=>exact hg
    have h5:=aB.out (f,rv) L g aR;have h6:=bb.out (f,rv) L g aR;rw[e1.old g (Nat.lt_of_lt_of_le h6 aK.out)];exact T g h5
   obtain⟨x0,x1,x2,x3,x4,x5,x6,x7,x8,x9⟩:=zbX al;obtain⟨ra,rc,aS,_⟩:=id J;subst aS;have aT:fs.drop k=f::fs.drop (k+1):=by
    have aU:k<fs.length:=by rw[HN.out];exact aL
    rw[List.drop_eq_getElem_cons aU];rw[List.getElem?_eq_getElem aU]at ak;rw[Option.some.inj ak]
   have am:=HQ.out.2.1;have aV:=HQ.out.2.2;rw[aT]at am aV;obtain⟨aW,aX⟩:=aV;obtain⟨Y,hY⟩:=nm (wr.alloc (.cells (zj f (.slice ra f.rngs.length rc)) 65));have mY:Mod NoB wr Y:=by rw[←hY];exact(Mod.refl _ _).alloc _
   have bn:Y.heap.size=wr.heap.size+1:=by rw[←hY];simp
   have aY:zh Y wr.heap.size f (.slice ra f.rngs.length rc):=by rw[←hY];exact heap_alloc_new wr _
   have S:=znp (h1.mod0 mY) (e1.out.mod mY) y.out f (.slice ra f.rngs.length rc) (J.mod mY (za2.no _)) aQ aW;have aZ:I wr.heap.size=(0,0):=e1.out _ (Nat.le_refl _);obtain⟨y0,y1,y2,y3,y4,y5,y6,y7,y8,y9⟩:=aY.cells;have M:Hid (∀W6 c2,zbo I i b Y c2 W6→zbo tag i b p c2 W6∧W6.heap[wr.heap.size]?=Y.heap[wr.heap.size]?):=zb (fun W6 c2 l=>⟨zc0 y.out e1 m1 mY l,by
    obtain⟨a0,V6,_,_,m6⟩:=l;refine m6.block _ (by omega) (fun x=>?_);rw[aZ]at x;have:=y.out;simp at x;omega⟩)
   obtain⟨yb,ao⟩:=nm wr.heap.size;rw[ao]at M y0 y1 y2 y3 y4 y5 y6 y7 y8 y9;obtain⟨RL,a1⟩:=nm f.rngs.length;rw[a1]at x9 hY y9 S;obtain⟨P,ap⟩:=nm f.kind;unfold zj at hY S;rw[ap]at x0 y0 hY S;obtain⟨r,aq⟩:=nm ((c1.take f).1);obtain⟨u,ar⟩:=nm ((c1.take f).2);rw[aq,ar]at S;have KA:=zb S;have a2:=zb ap;have U:=zb aq;have au:=zb ar;have av:=zb am;have a3:=zb aX;have HY:=zb hY;have bo:=zb ao;clear aO B al J mY bn aY S aZ aQ L ak aN aW aX am hY ao a1 ap aq ar h1 e1 m1 T aP aT;go_upto_region 15 with fail;rw[HY.out,bo.out];go_wp2_with fail;refine(KA.out).mono ?_;rintro e W6 ⟨rfl,l6⟩;obtain⟨l7,a4⟩:=M.out W6 u l6;have u0:W6.cell? ⟨yb,0,none⟩=some (.int .i64 P):=(World.cell?_of_block a4).trans y0;obtain⟨a0,V6,h6,e6,m6⟩:=id l7;have L7:=zb l7;clear KA M l6 l7 a4 x0 x1 x2 x3 x4 x5 x6 x7 x8 x9 y0 y1 y2 y3 y4 y5 y6 y7 y8 y9 e6 m6;by_cases hz:r=0
   ·subst hz;obtain⟨an,X⟩:=nm u.answer;have c8:W6.cell? ⟨b,8,none⟩=some (.bool an):=by rw[←X];exact h6.hd (j:=8) rfl
    have f8:=h6.fz 8;have aw:Hid (∀x:Bool,zbo tag i b p { u with answer:=x } (W6.setCell ⟨b,8,none⟩ (.bool x))):=zb (fun x=>zd9 L7.out y.out 8 _ (fun V=>za7 u { u with answer:=x } V V (j:=8) _ (by decide) rfl rfl rfl rfl) ⟨rfl,fun _ _=>⟨rfl,rfl,rfl⟩,fun _ _=>⟨rfl,rfl⟩,rfl,rfl,rfl,rfl⟩);have ax:Hid (∀x:Bool,x=(an||P != 2)→CS.takes (fs.drop (k+1)) { u with answer:=x }=CS.takes fs c0∧zfc (fs.drop (k+1)) { u with answer:=x }):=zb (fun x hx=>by
     have h5:=av.out;have h7:=a3.out U.out;rw[zln U.out,au.out,X,a2.out,←hx]at h5;rw[au.out,X,a2.out,←hx]at h7;exact⟨h5,h7⟩)
    clear h6 X a3 av;cases an with
    | true =>
     go_wp2_with fail;go_roundw
     case rel=>exact⟨k+1,{ u with answer:=true },by omega,by go_num,zb ⟨aw.out true,ax.out true (by simp)⟩⟩
     case measure=>simp[intOf];omega
    | false =>
     by_cases a5:P=2
     ·subst a5;go_wp2_with fail;go_roundw
      case rel=>exact⟨k+1,{ u with answer:=false },by omega,by go_num,zb ⟨aw.out false,ax.out false (by simp)⟩⟩
      case measure=>simp[intOf];omega
     ·have hk3:(P==2)=false:=by simpa using a5
      go_wp2_with fail;go_roundw
      case rel=>exact⟨k+1,{ u with answer:=P != 2 },by omega,by go_num,zb ⟨aw.out (P != 2),ax.out (P != 2) (by simp)⟩⟩
      case measure=>simp[intOf];omega
   ·have hz1:((r:Int)==0)=false:=by rw[beq_eq_false_iff_ne];omega
    have c4:∃v,W6.cell? ⟨b,4,none⟩=some v:=⟨_,h6.hd (j:=4) rfl⟩;obtain⟨u4,c4⟩:=c4;have f4:=h6.fz 4;have l8:=zd9 L7.out y.out 4 (.int .i64 (r:Int)) (c':={ u with closed:=r }) (fun V=>za7 u { u with closed:=r } V V (j:=4) _ (by decide) rfl rfl rfl rfl) ⟨rfl,fun _ _=>⟨rfl,rfl,rfl⟩,fun _ _=>⟨rfl,rfl⟩,rfl,rfl,rfl,rfl⟩;obtain⟨bt,V8,h8,_,_⟩:=id l8;obtain⟨u5,c5⟩:∃v,(W6.setCell ⟨b,4,none⟩ (.int .i64 (r:Int))).cell? ⟨b,5,none⟩=some v:=⟨_,h8.hd (j:=5) rfl⟩;have f5:=h8.fz 5;have l9:=zd9 l8 y.out 5 (.bool (r==13)) (c':={ u with closed:=r,said:=r==13 }) (fun V=>za7 _ _ V V (j:=5) _ (by decide) rfl rfl rfl rfl) ⟨rfl,fun _ _=>⟨rfl,rfl,rfl⟩,fun _ _=>⟨rfl,rfl⟩,rfl,rfl,rfl,rfl⟩;have L9:=zb l9;have m:Hid (R=((r,-1),{ u with closed:=r,said:=r==13 })):=zb (by
     rw[aH.out,←av.out,zlo (by rw[U.out];exact hz),U.out,au.out])
    have HZ:=zb hz;clear h6 h8 l8 l9 hz;by_cases Z:r=13
    ·have a6:((r:Int)==13)=true:=by rw[beq_iff_eq];omega
     have s:(r==13)=true:=by simpa using Z
     rw[s]at L9 m;clear Z s;go_wp2_with fail;go_ret;rw[m.out];exact⟨_,rfl,.inl ⟨rfl,by rw[zbZ HZ.out];rfl⟩,zc0 y.out (Ext.same O.out (G.out.trans d.out)) ((G.out.trans d.out).mono (fun _ x=>x.elim)) (Mod.refl NoB p) L9.out⟩
    ·have a6:((r:Int)==13)=false:=by rw[beq_eq_false_iff_ne];omega
     have s:(r==13)=false:=by simpa using Z
     rw[s]at L9 m;clear Z s;go_wp2_with fail;go_ret;rw[m.out];exact⟨_,rfl,.inl ⟨rfl,by rw[zbZ HZ.out];rfl⟩,zc0 y.out (Ext.same O.out (G.out.trans d.out)) ((G.out.trans d.out).mono (fun _ x=>x.elim)) (Mod.refl NoB p) L9.out⟩
  ·have bp:k=N:=by omega
   have m:Hid (R=((0,-1),c1)):=zb (by
    rw[aH.out,←HQ.out.2.1,List.drop_eq_nil_of_le (by rw[HN.out];omega)];rfl)
   clear bp;go_wp2_with fail;go_ret;rw[m.out];exact⟨_,rfl,.inl ⟨rfl,rfl⟩,zc0 y.out (Ext.same O.out (G.out.trans d.out)) ((G.out.trans d.out).mono (fun _ x=>x.elim)) (Mod.refl NoB p) HQ.out.1⟩
theorem zhS(h:zg tag i b c V W)(f:zR tag W)(hi:0<i)(v:Value)(bs:List UInt8)(d:BR W v bs)(a:Tab W)(hl:bs.length<1099511627776)(ok:zki c bs)(g:∀n fs,dec bs = .ok n fs→fs.length≤1099511627776):Calls prog 51 #[.pointer (some ⟨b,0,none⟩),v] W (zdO tag i b W (c.receive bs).1.1 (c.receive bs).1.2 (c.receive bs).2):=by
 by_cases hc:c.closed=0
 ·cases hd:dec bs with
  | sum =>
   have e:c.receive bs=((7,-1),c):=by unfold CS.receive;rw[if_neg (by omega),hd]
   rw[e];exact zll h f v bs d a hl hc hd
  | bad p =>
   have e:c.receive bs=((8,(p:Int)),{ c with closed:=8 }):=by unfold CS.receive;rw[if_neg (by omega),hd]
   rw[e];exact zlm h f hi v bs p d a hl hc hd
  | ok n fs=>exact zlp h f hi v bs n fs d a hl hc hd ok (g n fs hd)
 ·rw[zjn bs hc];exact zlk h f v bs hc
theorem zrk{w0:World}{ev:Value}{at_:Int}(h:zjm w0 w ev n at_)(hg:zei w):Calls prog 43 #[ev] w (zfW w (n:Int) at_):=by
 rcases h with⟨rfl,rfl⟩|⟨fa,rfl,a,_⟩
 ·by_cases b:n=0
  ·subst b;exact zgD w
  ·rw[zbZ b];exact zmq (n:Int) w hg
 ·exact zqg fa (n:Int) at_ w hg (za a rfl) (za a rfl)
theorem zjm.shape{w0:World}{ev:Value}{at_:Int}(h:zjm w0 w ev n at_):ev = .nilIface∨∃t u,ev = .iface t u:=by
 rcases h with⟨_,rfl⟩|⟨fa,rfl,_⟩
 ·unfold zdV;split
  ·exact .inl rfl
  ·exact .inr ⟨_,_,rfl⟩
 ·exact .inr ⟨_,_,rfl⟩
variable{S:Nat→Prop}{w':World}
theorem zjm.mod{a:World}{ev:Value}{at_:Int}(h:zjm a w ev n at_)(m:Mod S w w')(hS:∀g,S g→g<a.heap.size):zjm a w' ev n at_:=by
 rcases h with h|⟨b,rfl,ho,hl⟩
 ·exact .inl h
 ·exact .inr ⟨b,rfl,m.obj (fun x=>by have:=hS b x;omega) ho,hl⟩
theorem zhT(h:zg tag i b c V W)(E:Env i tag W)(s:List UInt8)(u:s.length<1099511627776)(ok:zki c s)(k:∀n fs,dec s = .ok n fs→fs.length≤1099511627776):Calls prog 28 #[.pointer (some ⟨b,0,none⟩),.string (zq s)] W (zbC tag i b W (.tuple #[.int .i64 ((c.receive s).1.1:Int),.int .i64 (c.receive s).1.2]) (c.receive s).2):=by
 obtain⟨cap,W1,v,a,m1,l,m⟩:=zfY W s (by omega);have w:=zhS (h.mod0 m1) (E.ok.mod m1) E.pos _ s a (E.mod0 m1).tab u ok k;have y:s.length≤cap∧cap≤maxLen:=by
  obtain⟨_,_,e,z,t,_⟩:=a;cases e;exact⟨z,t⟩
 obtain⟨hc1,A⟩:=y;unfold maxLen at A;have d:=zb E;have K:=zb m1;have HB:=zb m;have L:=zb l;obtain⟨R,hR⟩:=nm (c.receive s);rw[hR]at w ⊢;have M:=zb w;clear h E a m1 m l ok k w;go_enter func28,ntmps28;go_wp2_with fail;refine(M.out).mono ?_;rintro _ W2 ⟨ev,rfl,o,B⟩;clear M;obtain⟨tag',V',z,t,C⟩:=id B;have N:Env i tag' W2:=(d.out.mod0 K.out).left t C;have q:zbs W2 W.heap.size s.length:=HB.out.mod C (fun x=>by
  have:=d.out.ok W.heap.size (Nat.le_refl _);rw[this]at x;have:=d.out.pos;simp at x;omega)
 have HL:=zb B;have D:=zb q;have r:=zb o;have F:=zb N;clear B z t C N q v o;rcases r.out.shape with rfl|⟨et,eu,rfl⟩;all_goals
  go_wp2_with fail
  go_loopw [16] (fun G wr=>∃j:Nat,j≤s.length∧G = .int .i64 j∧Hid (zbs wr W.heap.size s.length∧Mod (fun g=>g=W.heap.size) W2 wr)) (fun G _=>s.length-(intOf G).toNat)
  case atStart=>exact⟨0,Nat.zero_le _,rfl,zb ⟨D.out,Mod.refl _ _⟩⟩
  case round =>
   obtain⟨j,hj,rfl,f⟩:=hrel;by_cases I:j<s.length
   ·obtain⟨⟨v0,e0⟩,z0⟩:=f.out.1.cell I;have J:=zb (f.out.1.set j (.int .u8 33));have HM:=zb (f.out.2.setCell (p:=⟨W.heap.size,j,none⟩) (.inl rfl) (.int .u8 33));go_wp2_with fail;go_roundw
    case rel=>exact⟨j+1,by omega,by go_num,zb ⟨J.out,HM.out⟩⟩
    case measure=>simp[intOf];omega
   ·have O:∀g,g=W.heap.size→g<W1.heap.size:=fun g hg=>by rw[hg,L.out];omega
    have P:=zrk (r.out.mod f.out.2 O) (F.out.err.mod f.out.2 (fun x=>by
     have x:0=W.heap.size:=x;have:=d.out.tab.lt;omega))
    have KT:=zb P;clear P O;go_wp2_with fail;refine(KT.out).mono ?_;rintro _ W4 ⟨rfl,Q⟩;have H:=zb ((HL.out.thenS d.out.ok d.out.pos K.out f.out.2 (fun g hg=>by
     have hg:g=W.heap.size:=hg;have:=L.out;omega)).then0 Q)
    clear Q;go_wp2_with fail;go_ret2;exact⟨rfl,H.out⟩
end Go.Proofs.YtddfdpbaiedcjaaGreatDoor
