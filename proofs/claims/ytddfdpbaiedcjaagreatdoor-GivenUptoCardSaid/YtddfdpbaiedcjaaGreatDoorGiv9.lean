/- A part of Given's proof. Conditions: none. Part 9 of 15. -/
import Derived.Test.YtddfdpbaiedcjaaGreatDoorGiv8
import Derived.Lib.BufferWrite
set_option maxRecDepth 100000
set_option maxHeartbeats 16000000
set_option linter.all false
namespace Go.Proofs.YtddfdpbaiedcjaaGreatDoor
section
open Go.RowKit Go.Proofs.Tryz
def CS.mS(c:CS)(rs:zE):CS:=(({ c with lI:=max c.lI (DP rs 0) }:CS).mT rs c.kx).mC (c.kx.filter λp => !Dw rs p)
def Ou(c:CS)(rs:zE)(h:¬c.next<=DP rs 0):c.ln rs=(0,(c.mS rs).nF):=Ov c rs h
variable{W W1 W2:rq}{t:Nat}
def J2{x y:rt}{u:Nat}(c:W.alloc (.cells #[x] t)=W1)(d:W1.alloc (.cells #[y] u)=W2):DO DQ W W2/\W2 W=some x/\W2 (W.heap.size+1,0)=some y:=by
 have f:=AB c;have e:=AB d;have h:W1.heap.size=W.heap.size+1:=by rw[<-c];simp
 refine⟨f.trans e,?_,?_⟩
 .refine e.cell (a:=⟨_,0,none⟩) id ?_;rw[<-c];exact za (heap_alloc_new W _) rfl
 rw[<-h,<-d];exact za (heap_alloc_new W1 _) rfl
variable{V:CV}{b i:Nat}{c:CS}{tag:rD}
def fe(h:zi tag i b c V W)(T:Dm tag W)(hi:0<i)(rs:zE)(e:rE)(a:Nat)(z:RR W (.slice e rs.length a) rs)(X:∀g,Value.mu (.slice e rs.length a)=some g->(tag g).1≠i)(h0:0<rs.length)(Y:rs.length<=1099511627776)(hn:c.next<=DP rs 0):rT 158 #[(b,0),.slice e rs.length a] W (EI tag i b W (.int .i64 11) c):=by
 obtain⟨N,f⟩:=nm<|W.alloc<|.cells #[(b,0)] 69;obtain⟨W1,d⟩:=nm<|N.alloc<|.cells #[.slice e rs.length a] 63;obtain⟨A,B,t⟩:=J2 f d;have l:=AC f;have E:W1.heap.size=W.heap.size+2:=by rw[<-d];simp[l]
 have q:=z.mod A<|Dj.no _;obtain⟨N,s,u,q1,q2,h3⟩:=id q;obtain⟨g,o,K,e1,O,b1,b2⟩:=h3 0 h0;have O:W1 (g,o+1)=some (.int .u64 (DP rs 0:Int)):=rB O;have p:e=some ⟨g,o,none⟩:=by cases u;exact K
 have v:s=a:=by cases u;rfl
 subst p;subst v;have Z:=h.lK A;have aa:=T.mod A;obtain⟨RL,p⟩:=nm rs.length;obtain⟨cb,a⟩:=nm W.heap.size;obtain⟨N,e⟩:=nm<|DP rs 0;obtain⟨nx,v⟩:=nm c.next;have c:0<RL:=I;have c:(nx:Int)<=N:=by rw[<-v,<-e];omega
 rw[a]at B t l E;rw[p]at t;rw[e]at O b2;have c6:W1 (b,6)=some (.int .u64 nx):=by rw[<-v];exact Z.hd (j:=6) rfl
 have H0:=zb<|Z.lK (DO.refl DQ W1).drew;have HM:=zb A;have HT:=zb T;rw[p]at d;have c:=zb f;have ab:=zb d;have ac:=zb l;have ad:=zb a;rw[p];clear h T Z aa z q X h0 h3 K u q1 q2 e1 b1 f d l E p e v a A hn Y hi;go_enter func158,ntmps158;go_upto_region 1 with fail;rw[c.z,ab.z,ad.z];try rw[ac.z]
 refine zH ?_;refine zn 9 (λw'=>w' cb=some (.pointer b)/\w' (U (cb+1) 0)=some (.slice (g,o) RL s)/\w' (g,o+1)=some (.int .u64 N)/\w' (U b 6)=some (.int .u64 nx)) (⟨B,t,O,c6⟩) ?_;refine GI 0 ?_;iterate 9
  refine GV rfl ?_;try simp only[PS]
 refine zq ?_;refine⟨rfl,?_⟩;go_wp2_with fail;go_ret;exact⟨rfl,H0.z.left HT.z<|HM.z.drew.mono rm⟩
def fd(h:zi tag i b c V W)(ht:Dm tag W)(hi:0<i)(rs:zE)(la:rE)(d:Nat)(ao:RR W (.slice la rs.length d) rs)(ap:∀g,Value.mu (.slice la rs.length d)=some g->(tag g).1≠i)(h0:0<rs.length)(aq:rs.length<=1099511627776)(hn:¬c.next<=DP rs 0)(hb:c.kx.length<=1099511627776)(ok:Mz { c with lI:=max c.lI (DP rs 0) } rs)(ar:Kg (c.mS rs)):rT 158 #[(b,0),.slice la rs.length d] W (EI tag i b W (.int .i64 0) (c.mS rs).nF):=by
 obtain⟨W0,ab⟩:=nm<|W.alloc<|.cells #[(b,0)] 69;obtain⟨W1,v⟩:=nm<|W0.alloc<|.cells #[.slice la rs.length d] 63;obtain⟨m1,z,u⟩:=J2 ab v;have ac:=AC ab;have au:W1.heap.size=W.heap.size+2:=by rw[<-v];simp[ac]
 have A:=ao.mod m1<|Dj.no _;obtain⟨a',B,ag,q1,q2,h3⟩:=id A;obtain⟨g,o,av,e1,e2,b1,b2⟩:=h3 0 h0;have e2:W1 (g,o+1)=some (.int .u64 (DP rs 0:Int)):=rB e2;have aI:la=some ⟨g,o,none⟩:=by cases ag;exact av
 have aJ:B=d:=by cases ag;rfl
 subst aI;subst aJ;have h1:=h.lK m1;have aw:=ht.mod m1;obtain⟨RL,E⟩:=nm rs.length;obtain⟨t,O⟩:=nm W.heap.size;obtain⟨T,X⟩:=nm<|DP rs 0;obtain⟨nx,ah⟩:=nm c.next;have d:0<RL:=I;have d:¬(nx:Int)<=T:=by rw[<-ah,<-X];omega
 rw[O]at z u ac au;rw[E]at u;rw[X]at e2 b2;have c6:W1 (b,6)=some (.int .u64 nx):=by rw[<-ah];exact h1.hd (j:=6) rfl
 have ai:W1 (b,237)=some (.int .u64 c.lI):=h1.tl (j:=4) rfl;have ax:=h1.fz 237;obtain⟨lg,ay⟩:=nm c.lI;obtain⟨L2,aj⟩:=nm<|max c.lI<|DP rs 0;rw[aj]at ok;have ez:(if lg<T then(T:Int)else(lg:Int))=(L2:Int):=by split<;>omega
 rw[ay]at ai;obtain⟨W2,ad⟩:=nm<|W1.setCell (U b 237)<|.int .u64 L2;have m2:DO (λq=>q=b) W1 W2:=by rw[<-ad];exact(DO.refl (λq=>q=b) W1).setCell (p:=⟨b,_,none⟩) rj _
 have h2:zi tag i b { c with lI:=L2 } V W2:=by
  rw[<-ad];exact h1.store (233+4) _ (GA c { c with lI:=L2 } V V (j:=4) _ rfl rfl rfl rfl) ⟨rfl,λ_ _=>⟨rfl,rfl,rfl⟩,λ_ _=>⟨rfl,rfl⟩,rfl,rfl,rfl,rfl⟩
 have az:=aw.mod m2;have Y:∀q,t<=q->¬Dr i tag q:=λq hq x=>by
  have d:=x.1;rw[ht q I]at d;simp at d;omega
 have ak:∀q,t<=q->q≠b:=λq hq e=>Y q hq<|by rw[e];exact EU h.tb lc
 have Z:=m2.cell (a:=t) (ak _ ro) z;have ae:=m2.cell (a:=U (t+1) 0) (ak _<|by show t<=t+1;omega) u;have al:=ap g rfl;have am:¬g=b:=λe=>al<|by rw[e,h.tb]
 have af:=A.mod m2 (λg' o' n' c' e x=>by cases e;exact am x);obtain⟨a,aa,hv,_⟩:=zk h2.ft;obtain⟨N,hN⟩:=nm c.kx.length;have hv:V.ft=.slice a N aa:=by rw[hv];simp only[hN]
 have aA:=zm<|m2.cell (a:=⟨g,_,none⟩) am e2;have kd:=de h2 az hi ok hb Z (Y _ ro) (by rw[E];exact ae) (Y _ I) af (λg' o' n' c' e x=>by cases e;exact al x.1) (λg' o' n' c' e=>by cases e;exact aA) aq ((DO.refl DQ W2).drew.drew.drew) hv hN;have aB:W2 (b,236)=some (.slice a N aa):=by rw[<-hv];exact h2.tl (j:=3) rfl
 have fz:=h2.fz 236;have d:(c.kx.zip V.mr).length=N:=by rw[Cv,h.fl,CY,hN]
 have aC:(c.kx.zip V.mr).map (·.1)=c.kx:=DC<|Az h.fl.symm;have aD:c.mS rs=(({ c with lI:=L2 }:CS).mT rs c.kx).mC (c.kx.filter λp => !Dw rs p):=by unfold CS.mS;rw[aj]
 have MW:AA (DO (Dr i tag) W W2):=zb ((m1.mono rm).trans (m2.mono (λq hq=>.inl (EU (r:=1) (by rw[show q=b from hq];exact h.tb) lc))));have KD:=zb kd;have HT:=zb ht;have HI:=zb hi;have aE:=zb Y;have an:=zb Z;have HZ:=zb<|And.intro d aC;have HN:=zb hN;have q:=zb ad;have aF:=zb ar;have HB:=zb hb;have aK:=zb aD;rw[E]at v;have aL:=zb ab;have aM:=zb v;have aN:=zb ac;have aO:=zb O;rw[E];clear h ht h1 aw ao A af ap h0 h3 av ag q1 q2 e1 b1 ab v ad ac au E X ah O m1 m2 hn aq hi h2 az ay aj ok ar hb Y ak Z ae al am aA kd d aC aD hN hv;go_enter func158,ntmps158;go_upto_region 1 with fail;rw[aL.z,aM.z,aO.z];try rw[aN.z]
 refine zH ?_;refine zn 9 (λw'=>w' t=some (.pointer b)/\w' (U (t+1) 0)=some (.slice (g,o) RL B)/\w' (g,o+1)=some (.int .u64 T)/\w' (U b 6)=some (.int .u64 nx)) (⟨z,u,e2,c6⟩) ?_;refine GI 0 ?_;iterate 9
  refine GV rfl ?_;try simp only[PS]
 refine zq ?_;refine⟨rfl,?_⟩;go_upto_region 3 with fail;refine zH ?_;refine zn 12 (λw'=>w' t=some (.pointer b)/\w' (U (t+1) 0)=some (.slice (g,o) RL B)/\w' (g,o+1)=some (.int .u64 T)/\w' (U b 237)=some (.int .u64 lg)/\w'.frozen? ⟨b,237,none⟩=false) (⟨z,u,e2,ai,ax⟩) ?_;refine GI 0 ?_;iterate 12
  refine GV rfl ?_;try simp only[PS]
 refine zY rfl (λK hK=>?_);go_simp;try simp only[ez]
 refine hK.z _ _ ?_;clear hK K;try simp only[PS]
 refine zq ?_;refine⟨rfl,?_⟩;go_upto_region 4 with fail;rw[q.z];refine zH ?_;refine zn 9 (λw'=>w' t=some (.pointer b)/\w' (U b 236)=some (.slice a N aa)/\w'.frozen? ⟨b,236,none⟩=false) (⟨an.z,aB,fz⟩) ?_;refine GI 0 ?_;iterate 6
  refine GV rfl ?_;try simp only[PS]
 refine zz 6 rfl (λK hK=>?_);go_simp
 with_reducible refine(KD.z).mono ?_
 rintro e w6 ⟨n,R,rfl,aG,hj,hR⟩;have q:=zb<|And.intro aG<|And.intro hj hR;have h:w6 t=some (.pointer b)/\w6 (b,236)=some (.slice a N aa)/\w6.frozen? ⟨b,236,none⟩=false:=by
  obtain⟨v,ky,d,r,o,A⟩:=hj;exact⟨r.m.cell (a:=t) (aE.z _ ro) an.z,by rw[<-o];exact r.c.tl (j:=3) rfl,r.c.fz 236⟩
 clear hj aG hR;go_simp;refine hK.z _ _ h ?_;obtain⟨p0,p1,p2⟩:=h;clear hK K;try simp only[PS]
 refine GI 7 ?_;iterate 2
  refine GV rfl ?_;try simp only[PS]
 refine zY rfl (λK hK=>?_);go_simp;refine hK.z _ _ ?_;clear hK K;try simp only[PS]
 refine zq ?_;refine⟨rfl,?_⟩;obtain⟨Z,h⟩:=nm<|w6.setCell (U b 236)<|.slice a n aa;have s:∃ky d,zA tag i b W2 d (c.mS rs) ky d Z:=by
  obtain⟨d,o,v⟩:=q.z;rw[HZ.z.1]at d o;have hR:(R.take n).map (·.1)=c.kx.filter λp => !Dw rs p:=by
   rw[v];have e:=List.filter_map (f:=λx:DW×rt=>x.1) (p:=λp => !Dw rs p) (l:=c.kx.zip V.mr);rw[HZ.z.2]at e;exact e.symm
  have:=o.done d;rw[h,hR]at this;rw[aK.z];unfold Iw at this;rw[<-HN.z,Ab ro]at this;exact this
 obtain⟨d,l,f⟩:=s;have d:(c.mS rs).kx.length<=1099511627776:=AK (Ck _ _) HB.z;have c:=T9 f.c f.e.z HI.z aF.z d;have l:=f.m.cell (a:=t) (aE.z _ ro) an.z;have a:=zb c;have R7:=zb f;clear c f p0 p1 p2 aB fz z u e2 ai ax c6 d;try rw[h]
 clear h;go_wp2_with fail;refine(a.z).mono ?_;rintro e a ⟨rfl,aH,V9,r1,r2,r3⟩;have a:=zb<|And.intro r1<|And.intro r2 r3;clear r1 r2 r3;go_wp2_with fail;go_ret;refine⟨rfl,aH,V9,a.z.1,?_,?_⟩
 .have c:Di i tag tag W W2:=Di.same HT.z MW.z;exact(c.trans R7.z.e MW.z.size).trans a.z.2.1 (AK MW.z.size R7.z.m.size)
 refine(MW.z.trans R7.z.m).oL.then a.z.2.2 (λg a=>?_);by_cases c:g<W2.heap.size
 .rw[R7.z.e.mL g c]at a;exact .inl a
 exact .inr<|AK MW.z.size I
variable{k:Nat}
def zi.oa(h:zi tag i b c V W)(a:k<8)(d:(c.rs k).lC.rs.length<=1099511627776):Eh W b (129+13*k+1) (V.rc k) (c.rs k).lC.rs (c.rs k).lC.fl (c.rs k).lC.most :=
 ⟨h.r (j:=1) a rfl,h.r (j:=2) a rfl,h.r (j:=3) a rfl,h.rc k a,d,λj=>h.fz j⟩
variable{V' V0:CV}{W' W'' W0:rq}{s:Df}{ky:rD}{v':rt}
def zA.qJ(h:zA tag i b W0 V0 c ky V' W')(o:k<8)(t:Mq s b (129+13*k+1) (V'.rc k) W' W'' v')(A:s.most=(c.rs k).lC.most):∃tag2 e,zA tag i b W0 V0 { c with rs:=ze c.rs k { c.rs k with lC:=s } } tag2 e W''/\∀g,g<W'.heap.size->tag2 g=ky g:=by
 obtain⟨f,l,e,u⟩:=t;have v:=h.p;have p:∀{g r:Nat},ky g=(i,r)->g<W'.heap.size:=λd=>EZ h.e.z d v
 have t:∀g,(ky g).1=i->zQ ky W' W'' (i,50+k) g=ky g:=λg d=>zD<|p (r:=(ky g).2)<|by rw[<-d]
 have z:∀g,(g=b\/(V'.rc k).ownBlock=some g)->∃r,(r=1\/r=50+k)/\ky g=(i,r):=λg d=>by
  rcases d with d|d
  .exact⟨1,.inl rfl,by rw[d,h.c.tb]⟩
  exact⟨50+k,.inr rfl,h.c.oK k o g d⟩
 refine⟨zQ ky W' W'' (i,50+k),{ V' with rc:=ze V'.rc k v' },⟨?_,h.e.trans (JA e.size) h.m.size,Er h.e h.m<|e.mono<|λg d=>.inl ?_,v,h.ft⟩,λg d=>zD d⟩
 .refine h.c.build (R:=λr=>r=1\/r=50+k) e z t ?_ rY (λq e=>.inl rW) (λq e=>.inl rW) (λq e=>.inl rW) (λq e=>.inl ⟨?_,rfl,I⟩) (λq e=>?_) rY rV rV rV
  .rw[l,zc (zc h.c.obj)];simp only[Ao];have B:=Kx c c V' { V' with rc:=ze V'.rc k v' } (k:=k) (j:=1) v' o lc (λq _=>by
    by_cases a:q=k
    .subst a;simp only[zf,A9];rfl
    simp only[zd _ _ a,AH a]) rfl rfl rfl
   rw[B];have E:=Kx c { c with rs:=ze c.rs k { c.rs k with lC:=s } } { V' with rc:=ze V'.rc k v' } { V' with rc:=ze V'.rc k v' } (k:=k) (j:=2) (.int .u64 s.fl) o lc (λq _=>by
    by_cases a:q=k
    .subst a;simp only[zf,A9,Gi,A];rfl
    simp only[zd _ _ a,AH a]) rfl rfl rfl
   rw[show 129+13*k+1+1=129+13*k+2 from rfl,E]
  .by_cases a:q=k
   .subst a;simp only[zf]
   simp only[zd _ _ a]
  by_cases a:q=k
  .subst a;simp only[zf];refine .inr ⟨f,λg d=>?_⟩;rcases u g d with y|y
   .rw[zD (p<|h.c.oK q o g y),h.c.oK q o g y]
   exact GM y<|zK f g d
  exact .inl ⟨by simp only[zd _ _ a],by simp only[zd _ _ a],I⟩
 obtain⟨r,a,e⟩:=z g d;exact EU e I
variable{bs:rC}
def zA.ou(h:zA tag i b W0 V0 c ky V' W')(s:k<8)(f:OB W'' v' bs)(l:W''.heap[b]?=(W'.setCell (b,129+13*k) v').heap[b]?)(e:DO (λq=>q=b\/(V'.rb k).ownBlock=some q) W' W'')(t:D4 W' (V'.rb k) v'):∃tag2 p,zA tag i b W0 V0 { c with rs:=ze c.rs k { c.rs k with b:=bs } } tag2 p W''/\∀g,g<W'.heap.size->tag2 g=ky g:=by
 have u:=h.p;have o:∀{g r:Nat},ky g=(i,r)->g<W'.heap.size:=λd=>EZ h.e.z d u
 have p:∀g,(ky g).1=i->zQ ky W' W'' (i,40+k) g=ky g:=λg d=>zD<|o (r:=(ky g).2)<|by rw[<-d]
 have v:∀g,(g=b\/(V'.rb k).ownBlock=some g)->∃r,(r=1\/r=40+k)/\ky g=(i,r):=λg d=>by
  rcases d with d|d
  .exact⟨1,.inl rfl,by rw[d,h.c.tb]⟩
  exact⟨40+k,.inr rfl,h.c.oM k s g d⟩
 refine⟨zQ ky W' W'' (i,40+k),{ V' with rb:=ze V'.rb k v' },⟨?_,h.e.trans (JA e.size) h.m.size,Er h.e h.m<|e.mono<|λg d=>.inl ?_,u,h.ft⟩,λg d=>zD d⟩
 .refine h.c.build (R:=λr=>r=1\/r=40+k) e v p ?_ rY (λq e=>.inl rW) (λq e=>.inl rW) (λq e=>.inl rW) (λq e=>?_) (λq e=>.inl ⟨?_,rfl,I⟩) rY rV rV rV
  .rw[l,zc h.c.obj];simp only[Ao];rw[show 129+13*k=129+13*k+0 from rfl,Kx c { c with rs:=ze c.rs k { c.rs k with b:=bs } } V' { V' with rb:=ze V'.rb k v' } (k:=k) (j:=0) v' s lc (λq _=>by
    by_cases a:q=k
    .subst a;simp only[zf,A9];rfl
    simp only[zd _ _ a,AH a]) rfl rfl rfl]
  .by_cases a:q=k
   .subst a;simp only[zf];refine .inr ⟨f,λg d=>?_⟩;rcases t g d with y|y
    .rw[zD (o<|h.c.oM q s g y),h.c.oM q s g y]
    exact GM y<|zK f g d
   exact .inl ⟨by simp only[zd _ _ a],by simp only[zd _ _ a],I⟩
  by_cases a:q=k
  .subst a;simp only[zf]
  simp only[zd _ _ a]
 obtain⟨r,a,e⟩:=v g d;exact EU e I
def zA.pI(h:zA tag i b W0 V0 c ky V' W')(d:k<8)(a:(c.rs k).lC.Ok)(lo hi:Nat)(l:lo<=zF)(o:hi<=zF):rT 88 #[(b,129+13*k+1),lo,hi] W' (Pw tag i b W0 V0 { c with rs:=ze c.rs k { c.rs k with lC:=(c.rs k).lC.add lo hi } } ky W'):=by
 have s:=a.most;have p:=a.rl;have p:=a.fl;have v:=h.p;unfold zF at l o p;have l:(V'.rc k).ownBlock≠some b:=λe=>by
  have f:=h.c.oK k d b e;rw[h.c.tb]at f;have:=A8 Prod.snd f;simp only at this;omega
 refine(Ks (c.rs k).lC b (129+13*k+1) lo hi (V'.rc k) W' (h.c.oa d I) a.wf I I I l s.1 I).mono ?_;rintro e a ⟨c,rfl,f,t,q,u⟩;refine⟨rfl,?_,λg a c=>q.block g a<|λx=>?_⟩
 .obtain⟨tag2,a,r,c⟩:=h.qJ d ⟨f,t,q,u⟩<|IK _ _ _;exact⟨tag2,a,r,c⟩
 rcases x with x|x
 .have a:=h.c.tb;rw[<-x,c]at a;have:=A8 Prod.snd a;simp at this
 have a:=h.c.oK k d g x;rw[c]at a;have:=A8 Prod.snd a;simp at this;omega
theorem NN(rs:zE):∀a e,a<e->(Dd rs a e).1<e->a<=(Dd rs a e).1/\(Dd rs a e).1<(Dd rs a e).2:=by
 induction rs with
 | nil=>intro a e h _;exact⟨AF _,h⟩
 | cons r l ih =>
  intro a e d h;unfold Dd at h ⊢;by_cases c:r.2<a
  .rw[AM c]at h ⊢;exact ih a e d h
  rw[AH c]at h ⊢;by_cases c:a<r.1
  .rw[AM c]at h ⊢;exact⟨AF _,Nat.lt_min.2 ⟨d,c⟩⟩
  rw[AH c]at h ⊢;have f:∀(l:zE) a e,(Dd l a e).1<e->a<e:=by
   intro l
   induction l with
   | nil=>intro a e h;exact h
   | cons q l ih2 =>
    intro a e h;unfold Dd at h;by_cases c:q.2<a
    .rw[AM c]at h;exact ih2 _ _ h
    rw[AH c]at h;by_cases c:a<q.1
    .rw[AM c]at h;exact h
    rw[AH c]at h;have:=ih2 _ _ h;omega
  have:=f _ _ _ h;obtain⟨a,b⟩:=ih (r.2+1) e this h;exact⟨I,b⟩
def PT(l:rC)(a b:Nat):(zu l).extract a b=zu ((l.drop a).take (b-a)):=by
 rw[Lib.extract_eq,Ip];rfl
def NT(b:rC)(i:Nat)(s:rC)(h:i+s.length<=b.length):(IW b i s).length=b.length:=by
 unfold IW;simp only[AG,AU,Ag];omega
variable{cap g lo:Nat}{w:rq}
def WW{s:rC}(h:OB w (.slice g bs.length cap) bs)(l:lo+s.length<=bs.length)(f o:Nat)(hd:s.length<=f):∃w',(∀c,(Builtin.copy_ #[60,9] c #[.slice (g,lo) f o,.string (zu s)]).run prog w=.ok (goInt s.length) w')/\OB w' (.slice g bs.length cap) (IW bs lo s)/\DO (λq=>q=g) w w':=by
 rcases h.2 with⟨e,_⟩|⟨q,h,a,e,_,p,u,v,z,d⟩
 .cases e
 cases e;have e:a.size=cap:=rB z;have d:a.toList.take bs.length=zW bs:=rB d;have e:∀c,_:=λc=>Lib.run_copy_row_string (P:=prog) w 60 9 c 5 g lo f o (zu s) a _ underlying60 kw p (by rw[zG];exact hd)<|by rw[zG];omega
 rw[zG]at e;refine⟨_,e,?_,PL w g _⟩;unfold OB;rw[NT bs lo s l];refine⟨?_,.inr ⟨g,cap,_,rfl,AN _,setRow_heap w g a _ _ _ p,u,v,?_,?_⟩⟩
 .rw[JF,NT bs lo s l,DG]
 .simp only[An,AG,AU,Ag,B7,Lib.byteCells_length,Ip];omega
 simp only[DG,Ip,IW,NU];have c:Lib.byteCells s=zW s:=rfl;have e:zW (bs.take lo)=a.toList.take lo:=by
  have:zW (bs.take lo)=(zW bs).take lo:=by simp[zW,List.map_take]
  rw[this,<-d,Be,BY I]
 have f:zW (bs.drop<|lo+s.length)=(a.toList.drop<|lo+s.length).take (bs.length-(lo+s.length)):=by
  have:zW (bs.drop<|lo+s.length)=(zW bs).drop (lo+s.length):=by simp[zW,List.map_drop]
  rw[this,<-d,C4]
 rw[e,f,c,Ap];have t:(a.toList.take lo).length=lo:=by rw[AU,B7];omega
 generalize a.toList.take lo=A at t ⊢;generalize a.toList.drop (lo+s.length)=B;have a:A.take bs.length=A:=Ab I;have c:(zW s).take (bs.length-lo)=zW s:=Ab (by rw[JF];omega);rw[List.take_append,t,a,List.take_append,JF,c,(I:bs.length-lo-s.length=bs.length-(lo+s.length))]
def zA.qK(h:zA tag i b W0 V0 c ky V' W')(c:k<8):¬(V'.rb k).ownBlock=some b:=λe=>by
 have a:=h.c.oM k c b e;rw[h.c.tb]at a;have:=A8 Prod.snd a;simp only at this;omega
def zA.qh{s:rC}(h:zA tag i b W0 V0 c ky V' W')(l:k<8)(e:Ds W' (V'.rb k) (c.rs k).b s v' W2):(∃tag2 o,zA tag i b W0 V0 { c with rs:=ze c.rs k { c.rs k with b:=(c.rs k).b++s } } tag2 o (W2.setCell (b,129+13*k) v'))/\W2 (b,129+13*k)=some (V'.rb k)/\W2.frozen? ⟨b,129+13*k,none⟩=false:=by
 have hb:=h.qK l;have f:=(DO.refl _ W').grown e.grown<|λg d=>.inl d;have u:=f.obj hb h.c.obj;have v:DO (λg=>g=b) W2 (W2.setCell (b,129+13*k) v'):=(DO.refl (λg=>g=b) _).setCell (p:=(b,129+13*k)) rj _;have q:=EZ h.e.z h.c.tb h.p;have t:∀g,v'.ownBlock=some g->¬g=b:=λg d x=>by
  subst x;rcases e.at_ g d with y|y
  .exact hb y
  omega
 obtain⟨tag2,o,r,_⟩:=h.ou l (v.owns e.own t) (NX (f.block b q hb) _ _) ((f.mono<|λg d=>.inl<|.inr d).setCell (p:=⟨b,_,none⟩) (.inl rj) _) e.at_;exact⟨⟨tag2,o,r⟩,f.cell (a:=⟨b,_,none⟩) hb<|h.c.r (j:=0) l rfl,zg u⟩
def zA.qH{n:Nat}(h:zA tag i b W0 V0 c ky V' W')(a:k<8)(d:V'.rb k=.slice g n cap)(l:OB W2 (.slice g n cap) bs)(m:DO (λq=>q=g) W' W2):∃tag2 f,zA tag i b W0 V0 { c with rs:=ze c.rs k { c.rs k with b:=bs } } tag2 f W2:=by
 have hb:=h.qK a;have c:¬b=g:=λe=>hb<|by rw[d,e];rfl
 have c0:W' (b,129+13*k)=some (V'.rb k):=h.c.r (j:=0) a rfl;obtain⟨tag2,f,r,_⟩:=h.ou a (v':=V'.rb k) (by rw[d];exact l) (by rw[NY c0];exact m.block b (EZ h.e.z h.c.tb h.p) c) (m.mono<|λq a=>.inl<|.inr<|by rw[d,show q=g from a];rfl)<|D4.refl _ _;exact⟨tag2,f,r⟩
structure Pv(c:CS)(f:DV)(k:Nat):Prop where
 lt:k<8
 st:f.stream=(k:Int)
 high:∀j,j<8->(c.rs j).high<=1099511627776
 kz:(c.rs k).kz<=1099511627776
 px:c.kz<=zF
 fin:(c.rs k).fin<=zF
 end_:f.end_<=zF
 dl:f.data.length<=1099511627776
 lC:(c.rs k).lC.Ok
 bl:(c.rs k).b.length<=(c.rs k).high
variable{B:Nat}
theorem T8{rs:Nat->RS}(h:∀j,j<8->(rs j).high<=B):∀n,n<=8->Fq rs n<=n*B
 | 0,_=>by simp[Fq]
 | n+1,hn=>by
  have:=T8 h n I;have:=h n I;rw[Nat.succ_mul];show Fq rs n+(rs n).high<=_;omega
def dd(a:Nat)(data:rC)(e n lo:Nat)(b:rC)(s:Df)(h:lo<e)(c:(Dd s.rs lo e).1<e):En a data e (n+1) lo b s=En a data e n (Dd s.rs lo e).2 (IW b (Dd s.rs lo e).1 ((data.drop ((Dd s.rs lo e).1-a)).take ((Dd s.rs lo e).2-(Dd s.rs lo e).1))) (s.add (Dd s.rs lo e).1 ((Dd s.rs lo e).2-1)):=by
 rw[En,AM h,AH I]
theorem Yk(a:Nat)(data:rC)(e n lo:Nat)(b:rC)(s:Df)(h:¬lo<e):En a data e n lo b s=(b,s):=by
 cases n with
 | zero=>rfl
 | succ n=>rw[En,AH h]
theorem da(a:Nat)(data:rC)(e n lo:Nat)(b:rC)(s:Df)(h:lo<e)(c:¬(Dd s.rs lo e).1<e)(d:0<n):En a data e n lo b s=(b,s):=by
 cases n with
 | zero=>omega
 | succ n=>rw[En,AM h,AM I]
variable{f:DV}
def Yj(a:f.stream=(k:Int))(h:(c.rs k).nG f=true):c.data f=(10,c):=by
 unfold CS.data;rw[a];simp[h]
def UK(a:f.stream=(k:Int))(h:(c.rs k).nG f=false)(d:(c.rs k).high<f.end_/\((c.rs k).kz<f.end_\/c.kz<f.end_-(c.rs k).high+Fq c.rs 8)):c.data f=(9,c):=by
 unfold CS.data;rw[a];simp only[Ad,h,BT,BZ];rw[AM d]
def UJ(a:f.stream=(k:Int))(h:(c.rs k).nG f=false)(d:¬((c.rs k).high<f.end_/\((c.rs k).kz<f.end_\/c.kz<f.end_-(c.rs k).high+Fq c.rs 8))):c.data f=(0,{ c with rs:=ze c.rs k ((c.rs k).data f) }):=by
 unfold CS.data;rw[a];simp only[Ad,h,BT,BZ];rw[AH d]
theorem dZ(h:zi tag i b c V W)(ht:Dm tag W)(hi:0<i)(f:DV)(rv:rt)(k:Nat)(ok:Pv c f k)(bA:∃a n bB,rv=.slice a n bB):rT 159 #[(b,0),.agg (zj f rv)] W (EI tag i b W (.int .i64 ((c.data f).1:Int)) (c.data f).2):=by
 have B:=ok.lt;have aO:=ok.st;obtain⟨ra,rn,q,rfl⟩:=bA;obtain⟨W1,aw⟩:=nm<|W.alloc<|.cells (zj f<|.slice ra rn q) 65;have m1:=AB aw;have ax:zl W1 W.heap.size f (.slice ra rn q):=by rw[<-aw];exact heap_alloc_new W _
 have aP:¬Dr i tag W.heap.size:=λx=>by
  have h1:=x.1;rw[ht _ ro]at h1;simp at h1;omega
 have h1:=h.lK m1;have r0:zA tag i b W1 V c tag V W1:=⟨h1,Di.same (ht.mod m1)<|DO.refl DQ W1,DO.refl _ _,hi,⟨rfl,rfl⟩⟩;have T:AA (∀{c':CS} {ky:rD} {V':CV} {W':rq},zA tag i b W1 V c' ky V' W'->Dk tag i b W c' W'):=zb (λr =>
  ⟨_,_,r.c,IJ ht m1 r.e,(m1.mono rm).then r.m.oL<|λg hg=>.inl hg⟩)
 obtain⟨fb,aQ⟩:=nm W.heap.size;rw[aQ]at ax aP;have aR:AA (∀{c':CS} {ky:rD} {V':CV} {W':rq},zA tag i b W1 V c' ky V' W'->zl W' fb f (.slice ra rn q)):=zb<|λr=>ax.mod r.m aP;obtain⟨y0,y1,y2,y3,y4,y5,y6,y7,y8,y9⟩:=ax.cells;rw[aO]at y1;obtain⟨x,hx⟩:=nm<|c.rs k;obtain⟨d,af⟩:=nm f.off;obtain⟨l,q⟩:=nm f.data;obtain⟨DL,ah⟩:=nm l.length;obtain⟨E,hE⟩:=nm f.end_;obtain⟨fi,ay⟩:=nm f.fin;obtain⟨en,az⟩:=nm x.ended;obtain⟨FN,ai⟩:=nm x.fin;obtain⟨Y,aj⟩:=nm x.high;obtain⟨GR,aA⟩:=nm x.kz;obtain⟨CG,aB⟩:=nm c.kz;obtain⟨aS,ak⟩:=nm<|x.nG f;have al:E=d+DL:=by rw[<-hE,<-af,<-ah,<-q];rfl
 have a7:AA (((en&&(decide (FN<E)||(fi&&E != FN)))||(fi&&decide (E<Y)))=aS):=zb (by
  rw[<-ak];unfold RS.nG;rw[az,ai,hE,ay,aj])
 have q1:=ok.high k B;have q2:=ok.kz;have q3:=ok.px;have q4:=ok.fin;have q5:=ok.end_;have q6:=ok.dl;have q7:=ok.bl;have q8:=T8 ok.high;rw[hx]at q1 q2 q4 q7;rw[aj]at q1 q7;rw[aA]at q2;rw[ai]at q4;rw[aB]at q3;rw[hE]at q5;rw[q,ah]at q6;unfold zF at q3 q4 q5;have r4:W1 (b,129+k*13+4)=some (.int .u64 Y):=by rw[<-aj,<-hx,AL];exact h1.r (j:=4) B rfl
 have r5:W1 (b,129+k*13+5)=some (.int .u64 FN):=by rw[<-ai,<-hx,AL];exact h1.r (j:=5) B rfl
 have r6:W1 (b,129+k*13+6)=some (.bool en):=by rw[<-az,<-hx,AL];exact h1.r (j:=6) B rfl
 have bC:W1 (b,129+k*13+11)=some (.int .u64 GR):=by rw[<-aA,<-hx,AL];exact h1.r (j:=11) B rfl
 have bD:W1 (b,234)=some (.int .u64 CG):=by rw[<-aB];exact h1.tl (j:=1) rfl
 have fz:=h1.fz;have bE:AA (∀j,j<8->W1 ⟨b,129+j*13+4,none⟩=some (.int .u64 ((c.rs j).high:Int))):=zb (λj hj=>by rw[AL];exact h1.r (j:=4) hj rfl);have a8:=zb q8;rw[af]at y2;rw[ay]at y5;rw[q]at y8;have b2:(zu l).size=DL:=by rw[zG,ah]
 have w1:IntKind.u64.wrap (DL:Int)=(DL:Int):=by rw[IntKind.wrap_u64];omega
 have w2:IntKind.u64.wrap ((d:Int)+DL)=(E:Int):=by rw[IntKind.wrap_u64];omega
 have b3:(0:Int)<=k:=I;have b4:(k:Int)<8:=I;have R0:=zb r0;have am:=zb al;have HX:=zb hx;have an:=zb af;have aJ:=zb q;have a9:=zb ah;have HE:=zb hE;have ba:=zb ay;have bb:=zb az;have bc:=zb ai;have aa:=zb aj;have aT:=zb aA;have aU:=zb aB;have HB:=zb ak;have bF:=zb ok;have ao:=zb aO;have bG:=zb aw;have bH:=zb aQ;clear h ht hi h1 r0 m1 ax aP y0 y3 y4 y6 y7 y9 hx af q ah hE ay az ai aj aA aB ak ok aO aw aQ q8 al;go_enter func159,ntmps159;go_upto_region 1 with fail;rw[bG.z,bH.z];refine zH ?_;refine zn 7 (λw'=>w' (U fb 1)=some (.int .i64 k)) (y1) ?_;refine GI 0 ?_;iterate 7
  refine GV rfl ?_;try simp only[PS]
 refine zq ?_;refine⟨rfl,?_⟩;go_upto_region 2 with fail
 go_cut [6] (λq wx=>q=.int .u64 E/\wx=W1.drew)
 case first=>as_aux_lemma =>
  go_wp2_with fail;go_meet;have al:=am.z;exact⟨by(congr 1<;>omega),rfl⟩
 case rest =>
 obtain⟨rfl,hw⟩:=hcut;obtain⟨WA,aV⟩:=nn wc;subst aV;subst hw;clear w1 w2;go_upto_region 3 with fail
 go_cut [59] (λq wx=>q=.bool aS/\wx=W1.drew)
 case first=>as_aux_lemma =>
  have hB:=a7.z;subst hB;cases en
  .cases fi
   .go_wp2_with fail;go_meet;exact rZ
   by_cases d2:(E:Int)<Y
   .have ac:E<Y:=I;go_wp2_with fail;go_meet;exact⟨by simp[ac],rfl⟩
   have ac:¬E<Y:=I;go_wp2_with fail;go_meet;exact⟨by simp[ac],rfl⟩
  by_cases q:(FN:Int)<E
  .have aC:FN<E:=I;go_wp2_with fail;go_meet;exact⟨by simp[aC],rfl⟩
  have aC:¬FN<E:=I;cases fi
  .go_wp2_with fail;go_meet;exact⟨by simp[aC],rfl⟩
  by_cases d3:E=FN
  .subst d3;by_cases d2:(E:Int)<Y
   .have ac:E<Y:=I;go_wp2_with fail;go_meet;exact⟨by simp[ac],rfl⟩
   have ac:¬E<Y:=I;go_wp2_with fail;go_meet;exact⟨by simp[ac],rfl⟩
  have q:((E:Int)==(FN:Int))=false:=by rw[MS];simpa using d3
  go_wp2_with fail;go_meet;exact⟨by simp[aC,d3],rfl⟩
 case rest =>
 obtain⟨rfl,hw⟩:=hcut;obtain⟨WA,aV⟩:=nn wc;subst aV;cases hbv:aS with
 | true =>
  rw[hbv]at HB;go_wp2_with fail;go_ret;have hd:=Yj (c:=c) (f:=f) ao.z (by rw[HX.z];exact HB.z);rw[hd];exact⟨rfl,T.z<|R0.z.lK<|by rw[hw];exact(DO.refl DQ W1).drew⟩
 | false =>
 rw[hbv]at HB;have aD:AA ((c.rs k).nG f=false):=zb (by rw[HX.z];exact HB.z);subst hw;go_upto_if 65 with fail;obtain⟨u,aW⟩:=nm<|max Y E;have X:=zb aW
 go_cut [] (λwx=>AA<|zA tag i b W1 V { c with rs:=ze c.rs k { x with high:=u } } tag V wx/\(¬(Y<E/\(GR<E\/CG<E-Y+Fq c.rs 8)))/\u<=1099511627776)
 case first=>as_aux_lemma =>
  have be:AA (c={ c with rs:=ze c.rs k x }):=zb (by rw[<-HX.z,Fd]);by_cases q:(Y:Int)<E
  .have q:=wu ((E:Int)-Y) I;go_wp2_with fail
   go_loopw [7,72] (λtv q wr=>∃j:Nat,j<=8/\q=.int .i64 j/\tv=.int .u64 ((E:Int)-Y+(Fq c.rs j:Nat))/\wr=W1.drew) (λ_ q _=>8-(intOf q).toNat)
   case atStart=>exact⟨0,I,rfl,by simp[Fq],rfl⟩
   case round =>
    obtain⟨j,hj,rfl,rfl,rfl⟩:=hrel;have aX:=a8.z j hj;by_cases N:j<8
    .have cj:=bE.z j N;have bI:=a8.z (j+1) I;have q:Fq c.rs (j+1)=Fq c.rs j+(c.rs j).high:=rfl;obtain⟨S,hS⟩:=nm<|Fq c.rs j;obtain⟨bJ,aY⟩:=nm<|(c.rs j).high;rw[hS,aY]at q;rw[hS]at aX;rw[aY]at cj;have bK:=zb q;have w4:=wu ((E:Int)-Y+(S:Int)+bJ) I;have b5:(0:Int)<=j:=I;have b6:(j:Int)<8:=I;rw[hS];clear aX bI q hS aY;go_wp2_with fail;go_roundw
     case rel=>exact⟨j+1,I,by go_num,by rw[bK.z];go_num,trivial⟩
     simp[intOf];omega
    have bL:j=8:=I;subst bL;obtain⟨S,hS⟩:=nm<|Fq c.rs 8;have q:=zb hS;rw[hS]at aX;rw[hS];clear hS;by_cases g1:(GR:Int)<E
    .go_wp2_with fail;go_ret;have hd:=UK (c:=c) (f:=f) ao.z aD.z (by rw[HX.z,aa.z,HE.z,aT.z];exact⟨I,.inl I⟩);rw[hd];exact⟨rfl,T.z<|R0.z.lK (DO.refl DQ W1).drew⟩
    by_cases g2:(CG:Int)<(E:Int)-Y+S
    .go_wp2_with fail;go_ret;have hd:=UK (c:=c) (f:=f) ao.z aD.z (by rw[HX.z,aa.z,HE.z,aU.z,q.z];exact⟨I,.inr I⟩);rw[hd];exact⟨rfl,T.z<|R0.z.lK (DO.refl DQ W1).drew⟩
    have hz:=(((R0.z.lK (DO.refl DQ W1).drew).same be.z).mq B 4 lc (.int .u64 E) { x with high:=u } (by rw[<-X.z,Nat.max_eq_right I];rfl) rfl rfl);rw[AL 13 k]at hz;have Y:=zb hz;have f4:=fz<|129+k*13+4;clear hz;go_wp2_with fail;go_meet;exact zb ⟨Y.z,by rw[q.z];omega,by rw[<-X.z];omega⟩
  go_wp2_with fail;go_meet;refine zb ⟨((R0.z.lK (DO.refl DQ W1).drew).same be.z).same ?_,I,by rw[<-X.z];omega⟩;rw[<-X.z,Nat.max_eq_left I,<-aa.z]
 case rest =>
 obtain⟨WB,bM⟩:=nn wc;subst bM;have bf:=hcut;clear hcut;obtain⟨rb,q,Y⟩:=id bf.z;have z5:WB (fb,5)=some (.bool fi):=by rw[<-ba.z];exact(aR.z rb).cells.2.2.2.2.2.1
 have bg:=zb q;obtain⟨x1,bh⟩:∃x1:RS,{ x with high:=u,ended:=en||fi,fin:=if fi then E else FN }=x1:=⟨_,rfl⟩;have ad:=zb bh;have RB:=zb rb;have bN:=rb.c.fz;have Y:=rb.mq B 6 lc (.bool true) { x with high:=u,ended:=true } (by rfl) rfl rfl;have aZ:=Y.mq B 5 lc (.int .u64 E) { x with high:=u,ended:=true,fin:=E } (by rfl) rfl rfl;have aK:=Y.c.fz;have aL:=Y;rw[AL 13 k]at Y aZ aK;have bi:=zb aZ;obtain⟨u5,bO⟩:∃v,WB (b,129+k*13+5)=some v:=⟨_,by rw[AL k 13];exact rb.c.r (j:=5) B rfl⟩;obtain⟨u6,bP⟩:∃v,WB (b,129+k*13+6)=some v:=⟨_,by rw[AL k 13];exact rb.c.r (j:=6) B rfl⟩;obtain⟨u7,bQ⟩:∃v,(WB.setCell (b,129+k*13+6)<|.bool true) (b,129+k*13+5)=some v:=⟨_,by rw[AL k 13];exact aL.c.r (j:=5) B rfl⟩;clear rb Y aL aZ q bh r4 r5 r6 bC bD fz y1 y2 y5 y8;go_upto_if 104 with fail
 go_cut [] (λwx=>AA<|zA tag i b W1 V { c with rs:=ze c.rs k x1 } tag V wx)
 case first=>as_aux_lemma =>
  cases fi with
  | true =>
   go_wp2_with fail;go_meet;refine zb<|bi.z.same ?_;rw[<-ad.z];simp
  | false =>
   go_wp2_with fail;go_meet;refine zb<|RB.z.same ?_;rw[<-ad.z,<-bb.z,<-bc.z];simp
 case rest =>
 obtain⟨q,bR⟩:=nn wc;subst bR;have Y:=hcut;clear hcut bN aK z5 RB bi bf bO bP bQ;obtain⟨Z,q⟩:=nm x.b.length;have a0:=zb q;have q:AA (x1.b=x.b):=zb (by rw[<-ad.z]);have bj:AA (x1.high=u):=zb (by rw[<-ad.z]);have q:Z<=u:=by rw[<-a0.z,<-X.z];omega
 go_wp2_with fail
 go_loopw [] (λwr=>∃(n:Nat) (ky:rD) (V':CV),Z+n<=u/\AA (zA tag i b W1 V { c with rs:=ze c.rs k { x1 with b:=x.b++List.replicate n 0 } } ky V' wr)) (λwr=>u-(match wr (b,129+k*13)with|some (.slice _ n _)=>n|_=>0))
 case atStart=>exact⟨0,tag,V,I,zb<|Y.z.same<|by rw[<-ad.z];simp⟩
 case round =>
  obtain⟨n,bk,V1,q,HR⟩:=hrel;have hR:=HR.z;obtain⟨bs,q⟩:=nm<|x.b++List.replicate n 0;rw[q]at hR HR;have Y:bs.length=Z+n:=by rw[<-q];simp[a0.z]
  have a1:OB wr (V1.rb k) bs:=by have:=hR.c.rb k B;simpa only[zf]using this
  obtain⟨sa,ap,hv,bS,bT,a2⟩:=zk a1;rw[Y]at hv bS a2;unfold maxLen at bT;have v0:wr (b,129+k*13)=some (.slice sa (Z+n) ap):=by rw[<-hv,AL];exact hR.c.r (j:=0) B rfl
  have v4:wr (b,129+k*13+4)=some (.int .u64 u):=by
   have:=hR.c.r (j:=4) (v:=.int .u64 u) B (by simp only[zf];rw[<-bj.z];rfl);rw[AL];exact this
  have w5:=wu ((Z:Int)+n) I;have bm:=zb q;have ag:=zb Y;have bU:=zb a1;have HV:=zb hv;have b7:=zb a2;clear HR;have HR:=zb hR;clear hR q Y a1 hv a2;by_cases N:Z+n<u
  .have aM:(Z:Int)+n<u:=I;obtain⟨Wc,a3⟩:=nm<|wr.alloc<|.cells #[.int .u8 0] 5;have mc:=AB a3;have oc:=AD a3;have bn:BR Wc.drew (.slice wr [(0:UInt8)].length 1) [(0:UInt8)] :=
    ⟨_,_,rfl,lm,lw,λq Y hq=>⟨_,_,rfl,by
     have bV:q=0:=by
      have:=(AO.1 hq).1;simp at this;omega
     subst bV;simp at hq;subst hq;exact za (o:=0+0) oc rfl⟩⟩
   have aN:bs.length + [(0:UInt8)].length<=140737488355328:=by rw[ag.z];simp;omega
   have a4:=mc.drew;obtain⟨v',W2,DY,ha⟩:=P8 Wc.drew (V1.rb k) bs ⟨wr.heap.size,0,none⟩ 1 [0] (a4.owns bU.z<|λ_ _ x=>x) bn aN;obtain⟨⟨tag2,V2,r2⟩,x2,f2⟩:=(HR.z.lK a4).qh B (s:=[0]) (v':=v') (W2:=W2) (by simp only[zf];exact ha);obtain⟨va,vc,rfl,_⟩:=zk ha.own;have bW:=r2;have e2:=r2.c.rb k B;obtain⟨o,q,he,_⟩:=zk e2;have e3:=r2.c.r (j:=0) B rfl;rw[he]at e3;have aq:((({ ({ c with rs:=ze c.rs k { x1 with b:=bs } }:CS)with rs:=ze (ze c.rs k { x1 with b:=bs }) k { (ze c.rs k { x1 with b:=bs }) k with b:=((ze c.rs k { x1 with b:=bs }) k).b++[0] } }:CS).rs k).b).length=Z+n+1:=by
    simp only[zf,AG,ag.z];rfl
   rw[aq]at e3;rw[AL 13 k]at x2 f2 r2 e3;rw[AG,ag.z]at DY;rw[HV.z]at DY x2;have e3:(W2.setCell (b,129+k*13)<|.slice va (bs++[0]).length vc) (b,129+k*13)=some (.slice o (Z+n+1) q):=e3;have bo:=zb e3;have R2:=zb r2;have aE:[(0:UInt8)].length=1:=rfl;rw[aE]at DY;rw[AG,ag.z,aE]at R2;rw[AG,ag.z,aE]at bo;subst a3;clear ha r2 bW e2 he e3 aq a4 aN bn oc mc;go_upto_region 17 with fail;refine zH ?_;refine zn 11 (λw'=>w' (b,129+k*13)=some (.slice sa (Z+n) ap)/\w' (b,129+k*13+4)=some (.int .u64 u)) (⟨v0,v4⟩) ?_;refine GI 0 ?_;iterate 11
    refine GV rfl ?_;try simp only[PS]
   refine zq ?_;refine⟨rfl,?_⟩;go_wp2_with (at_builtin;refine zo rfl _ _ _ _ rfl _ _ _ rfl rfl DY ?_);go_roundw
   case rel =>
    refine⟨n+1,tag2,V2,I,zb<|R2.z.same ?_⟩;simp only[zf,Qb,<-bm.z,Ap,Cq]
   case measure =>
    have e3:=bo.z;simp only[v0];rw[e3];show u-(Z+n+1)<u-(Z+n);omega
  have o:Z+n=u:=I;have bp:AA (bs=JW x.b u):=zb (by
   rw[<-bm.z];unfold JW;rw[a0.z,(I:u-Z=n)])
  have aM:¬(Z:Int)+n<u:=I;obtain⟨y0,y1,y2,y3,y4,y5,y6,y7,y8,y9⟩:=(aR.z HR.z).cells;rw[an.z]at y2;have bq:=zb bF.z.lC;have bX:=zb o;clear o N;go_upto_region 17 with fail;refine zH ?_;refine zn 11 (λw'=>w' (b,129+k*13)=some (.slice sa (Z+n) ap)/\w' (b,129+k*13+4)=some (.int .u64 u)) (⟨v0,v4⟩) ?_;refine GI 0 ?_;iterate 11
   refine GV rfl ?_;try simp only[PS]
  refine zq ?_;refine⟨rfl,?_⟩;clear y0 y1 y3 y4 y5 y6 y7 y9;go_upto_region 19 with fail
  go_cut [9] (λo wx=>o=.int .u64 d/\wx=wr.drew)
  case first=>as_aux_lemma =>
   go_wp2_with fail;go_meet;exact rZ
  case rest =>
  obtain⟨rfl,hw⟩:=hcut;obtain⟨o,bY⟩:=nn wc;subst bY;subst hw;have al:=am.z;have q:AA (En d l E (DL+1) d bs x.lC=x.nT f):=zb (by
   unfold RS.nT;rw[an.z,aJ.z,a9.z,HE.z,aa.z,X.z,bp.z])
  have o:AA (x1.lC=x.lC):=zb (by rw[<-ad.z]);have bt:AA ({ x1 with b:=(x.nT f).1,lC:=(x.nT f).2 }=x.data f):=zb (by
   rw[<-ad.z];unfold RS.data;rw[HE.z,aa.z,X.z,ba.z,bb.z,bc.z])
  have aF:AA (E<=u):=zb (by rw[<-X.z];exact Cm _ _);have X:d<=E:=I;clear al aM v0 v4 y2 y8;go_wp2_with fail
  go_loopw [9] (λY Z=>∃(lo m:Nat) (p:rC) (s:Df) (ky:rD) (V':CV),Y=.int .u64 lo/\d<=lo/\lo<=E/\AA (zA tag i b W1 V { c with rs:=ze c.rs k { x1 with b:=p,lC:=s } } ky V' Z/\p.length=u/\s.Ok/\E<lo+m/\En d l E m lo p s=x.nT f)) (λY _=>E-(intOf Y).toNat)
  case atStart=>exact⟨d,DL+1,bs,x.lC,bk,V1,rfl,AF _,X,zb ⟨(HR.z.lK (DO.refl DQ wr).drew).same<|by rw[<-o.z],by rw[ag.z];exact bX.z,by rw[<-HX.z];exact bq.z,pp am.z,q.z⟩⟩
  case round =>
   obtain⟨lo,m,p,s,o,V3,rfl,aE,q,O⟩:=hrel;have a5:=zb O.z.2.2.2.2;by_cases N:lo<E
   .have aG:=O.z.1;have a6:OB wr (V3.rb k) p:=by have:=aG.c.rb k B;simpa only[zf]using this
    obtain⟨X,z,aH,o,q,ar⟩:=zk a6;rw[O.z.2.1]at aH o ar;unfold maxLen at q;have aW:0<u:=pp aF.z;obtain⟨g3,rfl⟩:=ar aW;have v0:=aG.c.r (k:=k) (j:=0) (v:=V3.rb k) B rfl;rw[aH,AL 13 k,B5]at v0;have au:=aG.c.oa B (by simp only[zf];have:=O.z.2.2.1.rl;have:=O.z.2.2.1.most.2;omega);simp only[zf]at au;have kg:=QR s.rs s.fl s.most b (129+13*k+1) lo E (V3.rc k) wr au I (λj hj=>by have:=O.z.2.2.1.hi j hj;unfold zF at this;omega);rw[AL 13 k]at kg;have bZ:=TE s.rs (λr hr=>by
     obtain⟨j,hj,rfl⟩:=Cs.1 hr;have o:=O.z.2.2.1.hi j hj;have e:s.rs.getD j (0,0)=s.rs[j]:=by simp[List.getD,hj]
     unfold DP at o;rw[e]at o;unfold zF at o;omega) lo E I
    have q:=If s.rs lo E;have aI:=NN s.rs lo E N;have K:=zb<|λn=>dd d l E n lo p s N;have ae:=zb<|λh=>da d l E m lo p s N h<|pp O.z.2.2.2.1;obtain⟨t,h⟩:=nm<|(Dd s.rs lo E).1;obtain⟨A,o⟩:=nm<|(Dd s.rs lo E).2;rw[h]at bZ aI kg K ae;rw[o]at q aI kg K;have KG:=zb kg;have bu:=zb aH;have b0:=zb a6;have bw:(lo:Int)<E:=I;clear kg au aH a6 h o aG ar N;by_cases h:(E:Int)<=t
    .have av:AA ((p,s)=x.nT f):=zb (by rw[<-a5.z,ae.z I]);clear aI;go_wp2_with (go_at_call 91;refine KG.z.mono ?_;rintro _ W3 ⟨rfl,m3⟩;have M3:=zb m3;clear m3);go_ret;have hd:=UJ (c:=c) (f:=f) ao.z aD.z (by rw[HX.z,aa.z,HE.z,aT.z,aU.z];exact bg.z);rw[hd];refine⟨rfl,T.z<|(O.z.1.lK M3.z).same ?_⟩;rw[HX.z,<-bt.z,<-av.z]
    obtain⟨h,o⟩:=aI I;have h:0<m:=pp O.z.2.2.2.1;have bx:AA (En d l E (m-1) A (IW p t<|(l.drop<|t-d).take<|A-t) (s.add t<|A-1)=x.nT f):=zb (by
     rw[<-K.z (m-1) I,(I:m-1+1=m)];exact a5.z)
    clear K ae;go_upto_region 24 with(go_at_call 91;refine KG.z.mono ?_;rintro _ W3 ⟨rfl,m3⟩;have M3:=zb m3;clear m3);have Z:=zb<|O.z.1.lK M3.z;obtain⟨y0,y1,y2,y3,y4,y5,y6,y7,y8,y9⟩:=(aR.z Z.z).cells;rw[an.z]at y2;rw[aJ.z]at y8;have v3:=M3.z.cell (a:=⟨b,_,none⟩) id v0;have q:OB W3.drew (.slice g3 p.length z) p:=by
     have:=(M3.z.drew).owns b0.z<|λ_ _ x=>x;rw[bu.z,<-O.z.2.1]at this;exact this
    have a:((l.drop<|t-d).take<|A-t).length=A-t:=by
     rw[AU,Ag,a9.z];have:=am.z;omega
    obtain⟨v,h,o,K⟩:=WW (lo:=t) (s:=(l.drop<|t-d).take<|A-t) q (by rw[a,O.z.2.1];have:=aF.z;omega) (A-t) (z-t) (by rw[a];exact AF _);have s1:(t:Int)<=A:=I;have s2:(A:Int)<=z:=pp aF.z;have s3:¬z=t:=I;have s4:=wu ((t:Int)-d) I;have s5:=wu ((A:Int)-d) I;have s6:(t:Int)-d<=(A:Int)-d:=I;have s7:(A:Int)-d<=DL:=pp am.z;have s8:0<=(t:Int)-d:=I;have v:d<=t:=I;have v:d<=A:=I;obtain⟨S,hS⟩:=nm<|(l.drop<|t-d).take<|A-t;have v:(zu l).extract (t-d) (A-d)=zu S:=by rw[PT,(I:A-d-(t-d)=A-t),hS]
    rw[hS]at h o a bx;rw[a]at h;have X:=zb hS;clear hS;have X:=zb h;have Y:=zb o;have M4:=zb K;clear h o K q;refine zH ?_;refine zn 18 (λw'=>w' (b,129+k*13)=some (.slice g3 u z)/\w' (U fb 2)=some (.int .u64 d)/\w' (U fb 8)=some (.string<|zu l)) (⟨v3,y2,y8⟩) ?_;refine GI 0 ?_;iterate 18
     refine GV rfl ?_;try simp only[PS]
    refine zY rfl (λK d=>?_);try rw[v]
    have h:=X.z;go_simp;refine d.z _ _ ?_;clear d K;try simp only[PS]
    refine zq ?_;refine⟨rfl,?_⟩;obtain⟨d,h,r4⟩:=(Z.z.lK (DO.refl DQ W3).drew).qH B bu.z (by have:=Y.z;rw[O.z.2.1]at this;exact this) M4.z;have d:=r4.pI B (by simp only[zf];exact O.z.2.2.1) t (A-1) (by unfold zF;omega) (by unfold zF;omega);have hz:((A-1:Nat):Int)=(A:Int)-1:=I;have h:=wu ((A:Int)-1) I;rw[hz,AL 13 k]at d;have h:=zb d;have b1:=zb a;clear d r4 hz v v0 v3 y0 y1 y2 y3 y4 y5 y6 y7 y8 y9 s1 s2 s3 s4 s5 s6 s7 s8;go_wp2_with fail;refine(h.z).mono ?_;rintro e a ⟨rfl,⟨bz,V6,r6,_⟩,_⟩;have a:=zb r6;clear r6;go_wp2_with fail;go_roundw
    case rel =>
     refine⟨A,m-1,IW p t S,s.add t<|A-1,bz,V6,rfl,I,I,zb ⟨a.z.same ?_,?_,O.z.2.2.1.add _<|by unfold zF;omega,pp O.z.2.2.2.1,bx.z⟩⟩
     .simp only[zf,Qb]
     rw[NT _ _ _ (by rw[b1.z,O.z.2.1];have:=aF.z;omega)];exact O.z.2.1
    simp[intOf];omega
   have a:lo=E:=I;have av:AA ((p,s)=x.nT f):=zb (by rw[<-a5.z,Yk _ _ _ _ _ _ _ N]);have bw:¬(lo:Int)<E:=I;clear N a;go_wp2_with fail;go_ret;have hd:=UJ (c:=c) (f:=f) ao.z aD.z (by rw[HX.z,aa.z,HE.z,aT.z,aU.z];exact bg.z);rw[hd];refine⟨rfl,T.z<|O.z.1.same ?_⟩;rw[HX.z,<-bt.z,<-av.z]
structure Pp(c:CS)(f:DV):Prop where
 most:c.most<=zF
 id:f.id<=zF
 dl:f.dl<=zF
 now:c.now<=zF
 nd:(c.seen.map (·.1)).Nodup
 ids:∀p∈c.seen,p.1<=zF
 len:c.seen.length<=1099511627776
 cm:c.lC.length<=1099511627776
def CS.n7(c:CS)(f:DV):Bool:=(c.seen.any λp=>p.1==f.id)||decide (f.dl<c.now)||(decide (0<c.seen.length)&&D9 c.most f.id)
def jf(h:c.n7 f=true):c.message f=c:=by
 unfold CS.message;unfold CS.n7 at h;rw[AM h]
def je(h:c.n7 f=false):c.message f={ c with most:=max c.most f.id,seen:=(c.seen++[(f.id,f.dl)]).filter (λp => !D9 (max c.most f.id) p.1),lC:=c.lC++[(f.id,f.data)] }:=by
 unfold CS.message;unfold CS.n7 at h;rw[AH (by rw[h];simp)]
def Pu{x:Nat}(h:x<18446744073709551616):(Lit.int .u64 x).wf=true:=by
 show(decide ((0:Int)<=x)&&decide ((x:Int)<=18446744073709551615))=true;rw[Au I,Au I];rfl
def OW{x y:Nat}(h:x≠y):(Lit.int .u64 x)≠(Lit.int .u64 y):=λe=>by
 cases e;exact h I
def I6:Go.Maps.Keyed prog 43:=Go.Maps.int_keyed underlying43
def Mo{x:Nat}(h:x<18446744073709551616):keyOf prog 43 (.int .u64 x)=some (.int .u64 x):=Go.Maps.keyOf_int_mk underlying43 (Pu h)
def LA{x:Nat}(h:x<18446744073709551616):plainElem (H:=Unit) prog 43 (.int .u64 x)=some (.lit (.int .u64 x),[]):=plainElem_int underlying43 (Pu h)
def Yi(w:rq):(zeroValue 43).run prog w=.ok (.int .u64 0) w:=kw
def dY{n:Nat}{D:DataW Unit}(h:w.ownsMap prog 43 (plainElem prog 43) b n D):w.ownsMap prog 43 (plainElem prog 43) b (Go.Maps.size D) D:=by
 obtain⟨c,a,d,e,f,rfl⟩:=h;refine⟨c,a,d,e,?_,rfl⟩;simp[Go.Maps.size,length_sorted]
def Fs.look{l:List (Nat×Nat)}(h:Fs w b l){x:Nat}(a:x<18446744073709551616):∃v,(Instr.lookup 124 (.map (some b)) (.int .u64 x) true).run prog w=.ok (.tuple #[v,.bool (l.any λp=>p.1==x)]) w:=by
 obtain⟨D,d,_,e⟩:=h;obtain⟨v,f,c,_⟩:=d.look_ok I6 underlying124 (Yi w) (plainElem_int (H:=Unit) underlying43<|Pu (x:=0) I)<|Mo a;rw[e x a]at c;exact⟨v,c⟩
def Fs.len{l:List (Nat×Nat)}(h:Fs w b l)(a:TypeId):(Builtin.len_ #[124] a #[.map (some b)]).run prog w=.ok (.int .i64 l.length) w:=by
 obtain⟨D,c,d,_⟩:=h;have:=c.len underlying124 a;rw[d]at this;exact this
def Fs.put{l:List (Nat×Nat)}(h:Fs w b l){x y:Nat}(a:x<18446744073709551616)(o:y<18446744073709551616)(s:l.any (λp=>p.1==x)=false)(d:l.length<=1099511627776):∃w',(Instr.mapUpdate 124 (.map (some b)) (.int .u64 x) (.int .u64 y)).run prog w=.ok () w'/\Fs w' b (l++[(x,y)])/\DO (λq=>q=b) w w':=by
 obtain⟨D,c,t,f⟩:=h;obtain⟨w',h,d,l⟩:=c.update I6 underlying124 lw (Mo a)<|LA o;refine⟨w',h,⟨_,by rw[AG];exact d,?_,λz u=>?_⟩,(DO.refl _ w).grown l<|λk v=>.inl<|by cases v;rfl⟩
 .rw[Go.Maps.size_put (c.tidy I6),f x a,s,AG,t];rfl
 rw[List.any_append];by_cases e:z=x
 .subst e;rw[Go.Maps.has_put_same c.isMap (I6.key<|Mo a)];simp
 rw[Go.Maps.has_put_other (OW e),f z u];have:¬x=z:=λy=>e y.symm
 simp[this]
structure Hx(L:List (Nat×Nat))(M:Nat)(left:Lit->Bool)(D:DataW Unit)(del:Nat->Bool):Prop where
 has:∀x:Nat,x<18446744073709551616->Maps.has D (.int .u64 x)=(L.filter λp => !del p.1).any λp=>p.1==x
 sz:Maps.size D=(L.filter λp => !del p.1).length
 mL:∀x,del x=true->D9 M x=true
 done:∀p∈L,left (.int .u64 p.1)=false->del p.1=D9 M p.1
def VV(L:List (Nat×Nat))(del:Nat->Bool)(x:Nat):(L.filter λp => !(del p.1||p.1==x))=(L.filter λp => !del p.1).filter λp => !(p.1==x):=by
 rw[List.filter_filter];congr 1;funext p;cases del p.1<;>simp
theorem VC:∀(L:List (Nat×Nat)) (x:Nat),(L.map (·.1)).Nodup->L.any (λp=>p.1==x)=true->(L.filter λp => !(p.1==x)).length+1=L.length
 | [],x,_,h=>by simp at h
 | p::L,x,hn,h=>by
  simp only[Bq,List.nodup_cons]at hn;by_cases e:p.1=x
  .have a:∀q∈L,¬q.1=x:=λq c d=>hn.1<|by rw[e,<-d];exact List.mem_map_of_mem c
   have:(p::L).filter (λp => !(p.1==x))=L:=by
    rw[List.filter_cons_of_neg (by simp[e]),CN];intro q c;simp[a q c]
   rw[this];rfl
  have a:L.any (λp=>p.1==x)=true:=by simpa [e]using h
  rw[List.filter_cons_of_pos (by simp[e])];simp only[AS];have:=VC L x hn.2 a;omega
def Hx.start{w:rq}{b:Nat}{L:List (Nat×Nat)}{M:Nat}{D:DataW Unit}(d:∀x:Nat,x<18446744073709551616->Maps.has D (.int .u64 x)=L.any λp=>p.1==x)(f:Maps.size D=L.length)(hb:∀p∈L,p.1<=zF):Hx L M (Maps.has D) D (λ_=>false):=by
 have e:(L.filter λ_ => !false)=L:=lm;refine⟨λx a=>by rw[e,d x a],by rw[e,f],λx a=>by simp at a,λp a c=>?_⟩;have e:=hb p a;unfold zF at e;rw[d p.1 I]at c;have:L.any (λq=>q.1==p.1)=true:=Bg.2 ⟨p,a,lm⟩;rw[this]at c;cases c
theorem Hx.lG{L:List (Nat×Nat)}{M:Nat}{left:Lit->Bool}{D:DataW Unit}{del:Nat->Bool}(h:Hx L M left D del){x:Nat}(f:x<18446744073709551616)(a:D9 M x=false)(hb:∀p∈L,p.1<=zF):Hx L M (λz=>left z && !z.sameKey (.int .u64 x)) D del:=by
 refine⟨h.has,h.sz,h.mL,λp d c=>?_⟩;by_cases e:p.1=x
 .rw[e,a];cases hd:del x with
  | false=>rfl
  | true =>
   have:=h.mL x hd;rw[a]at this;cases this
 refine h.done p d ?_;rw[Go.Maps.sameKey_ne (OW e)]at c;simpa using c
def Hx.ps{L:List (Nat×Nat)}{M:Nat}{left:Lit->Bool}{D:DataW Unit}{del:Nat->Bool}(h:Hx L M left D del){x:Nat}(f:x<18446744073709551616)(o:D9 M x=true)(s:(L.map (·.1)).Nodup)(hd:Go.Maps.has D (.int .u64 x)=true)(t:Go.Maps.Tidy D):Hx L M (λz=>left z && !z.sameKey (.int .u64 x)) (D.del (.int .u64 x)) (λz=>del z||z==x):=by
 have u:=I6.key<|Mo f;have d:(L.filter λp => !del p.1).any (λp=>p.1==x)=true:=by rw[<-h.has x f];exact hd
 have l:((L.filter λp => !del p.1).map (·.1)).Nodup:=s.sublist<|List.filter_sublist.map _;refine⟨λz a=>?_,?_,λz a=>?_,λp c q=>?_⟩
 .rw[VV];by_cases e:z=x
  .subst e;rw[Go.Maps.has_del_same]
   symm
   rw[CT];intro p c;have:=(BI.1 c).2;simpa using this
  rw[Go.Maps.has_del_other (OW e),h.has z a];rw[Cw,Bg,Bg];constructor
  .rintro⟨p,c,f⟩;refine⟨p,BI.2 ⟨c,?_⟩,f⟩;have:p.1=z:=rB f;simp[this,e]
  rintro⟨p,c,f⟩;exact⟨p,(BI.1 c).1,f⟩
 .rw[VV];have f:=VC _ x l d;have d:=Go.Maps.size_del (k:=.int .u64 x) t;rw[hd]at d;simp only[A9]at d;have d:=h.sz;omega
 .rcases Bool.or_eq_true_iff.1 a with a|a
  .exact h.mL z a
  have:z=x:=rB a;rw[this];exact o
 by_cases e:p.1=x
 .simp[e,o]
 have:=h.done p c (by rw[Go.Maps.sameKey_ne (OW e)]at q;simpa using q);simp[e,this]
def Hx.fin{n:Nat}{L:List (Nat×Nat)}{M:Nat}{left:Lit->Bool}{D:DataW Unit}{del:Nat->Bool}(h:Hx L M left D del)(a:∀c,left c=false)(d:w.ownsMap prog 43 (plainElem prog 43) b n D):Fs w b (L.filter λp => !D9 M p.1):=by
 have e:(L.filter λp => !del p.1)=L.filter λp => !D9 M p.1:=by
  apply List.filter_congr;intro p c;rw[h.done p c (a _)]
 have c:=h.has;have a:=h.sz;rw[e]at a;refine⟨D,by rw[<-a];exact dY d,a,λx a=>?_⟩;rw[c x a,e]
def zA.seen{l:List (Nat×Nat)}(h:zA tag i b W0 V0 c ky V' W')(m:DO (λq=>q=V'.sn) W' W'')(d:Fs W'' V'.sn l):zA tag i b W0 V0 { c with seen:=l } ky V' W'':=by
 have hb:¬b=V'.sn:=λe=>by
  have a:=h.c.oJ;rw[<-e,h.c.tb]at a;simp at a
 refine⟨h.c.build (R:=λr=>r=7) m (λq c=>⟨7,rfl,by rw[show q=V'.sn from c];exact h.c.oJ⟩) (λ_ _=>rfl) (m.obj hb h.c.obj) rY (λk a=>.inl rW) (λk a=>.inl rW) (λk a=>.inl rW) (λk a=>.inl rW) (λk a=>.inl rW) rY rV (.inr ⟨d,h.c.oJ⟩) rV,⟨h.e.mL,h.e.new,h.e.z.mod m⟩,Er h.e h.m<|m.mono<|λq c=>.inl<|EU (r:=7) (by rw[show q=V'.sn from c];exact h.c.oJ) lc,h.p,h.ft⟩
def Yh:(prog.info? 154).map (λi=>(i.zero,i.size,i.bytes))=some (some (.agg #[.int .u64 0,.string ⟨#[]⟩]),2,24):=kw
def XR(w:rq)(v:rt)(l:List (Nat×rC))(id:Nat)(s:rC)(h:w.ownsRow 0 154 2 v l.length (E1 l))(c:l.length<=1099511627776):∃a w',(∀c,(Builtin.append_ #[125,125] c #[v,.slice w 1 1]).run prog (w.alloc (.cells #[id,.string (zu s)] 154))=.ok a w')/\w'.ownsRow 0 154 2 a (l.length+1) (E1 (l++[(id,s)]))/\(w.alloc (.cells #[id,.string (zu s)] 154)).grownBy w' v.ownBlock/\D4 w v a:=by
 obtain⟨o,f⟩:=nm<|(Obj.cells #[id,.string (zu s)] 154 (0,0));obtain⟨i,c,q,d,e⟩:=info_parts Yh;have t:∀(j:Nat) u,(E1 [(id,s)])[j]?=some u->(w.alloc o) ((⟨w.heap.size,0,none⟩:Addr).add j)=some u:=λj u z=>by
  rw[zX,<-f];refine za (heap_alloc_new w _) ?_;rw[Aw,<-Array.getElem?_toList];exact z
 obtain⟨a,w',A,B,E,K⟩:=zN (P:=prog) (w.alloc o) 125 154 i _ 2 24 underlying125 c q d e rfl lc v l.length (E1 l) (((DO.refl DQ w).alloc o).owns h<|λ_ _ x=>x)
  ⟨w.heap.size,0,none⟩ 1 1 (E1 [(id,s)]) rfl t (by
   intro u p;simp[E1]at p;rcases p with rfl|rfl<;>rfl) lw I
 have e:E1 (l++[(id,s)])=E1 l++E1 [(id,s)]:=by simp[E1]
 rw[f,e];refine⟨a,w',A,B,E,λg a=>?_⟩;rcases K g a with x|x
 .exact .inl x
 refine .inr ?_;simp at x;omega
def zA.qX{l:List (Nat×rC)}(h:zA tag i b W0 V0 c ky V' W')(m0:DO DQ W' W1)(f:W2.ownsRow 0 154 2 v' l.length (E1 l))(d:W1.grownBy W2 V'.cm.ownBlock)(u:D4 W' V'.cm v'):(∃tag2 z,zA tag i b W0 V0 { c with lC:=l } tag2 z (W2.setCell (b,243) v'))/\W2 (b,243)=some V'.cm/\W2.frozen? ⟨b,243,none⟩=false:=by
 have v:=h.p;have o:∀{g r:Nat},ky g=(i,r)->g<W'.heap.size:=λd=>EZ h.e.z d v
 have hb:¬V'.cm.ownBlock=some b:=λe=>by
  have z:=h.c.oE b e;rw[h.c.tb]at z;simp at z
 have q:=(m0.mono rm).trans<|(DO.refl _ W1).grown d<|λg d=>.inl d;have A:=q.obj hb h.c.obj;have s:DO (λg=>V'.cm.ownBlock=some g\/g=b) W' (W2.setCell (U b 243) v'):=(q.mono<|λg d=>.inl<|.inl d).setCell (p:=U b 243) (.inl<|.inr rfl) _;have B:DO (λg=>g=b) W2 (W2.setCell (U b 243) v'):=(DO.refl (λg=>g=b) _).setCell (p:=U b 243) rj _;have p:=o h.c.tb;have t:∀g,v'.ownBlock=some g->¬g=b:=λg d x=>by
  subst x;rcases u g d with y|y
  .exact hb y
  omega
 have z:∀g,(V'.cm.ownBlock=some g\/g=b)->∃r,(r=1\/r=8)/\ky g=(i,r):=λg d=>by
  rcases d with d|d
  .exact⟨8,.inr rfl,h.c.oE g d⟩
  exact⟨1,.inl rfl,by rw[d,h.c.tb]⟩
 have p:∀g,(ky g).1=i->zQ ky W' (W2.setCell (b,243) v') (i,8) g=ky g:=λg d=>zD<|o (r:=(ky g).2)<|by rw[<-d]
 refine⟨⟨zQ ky W' (W2.setCell (U b 243) v') (i,8),{ V' with cm:=v' },?_,h.e.trans (JA s.size) h.m.size,Er h.e h.m<|s.mono<|λg d=>.inl ?_,v,h.ft⟩,q.cell (a:=⟨b,_,none⟩) hb<|h.c.tl (j:=10) rfl,zg A⟩
 .refine h.c.build (R:=λr=>r=1\/r=8) s z p ?_ rY (λk a=>.inl rW) (λk a=>.inl rW) (λk a=>.inl rW) (λk a=>.inl rW) (λk a=>.inl rW) rY rV rV (.inr ⟨B.owns f t,λg d=>?_⟩)
  .rw[zc A,Ao];rw[show(243:Nat)=233+10 from rfl,GA c { c with lC:=l } V' { V' with cm:=v' } _ rfl rfl rfl rfl]
  rcases u g d with y|y
  .rw[zD (o<|h.c.oE g y),h.c.oE g y]
  exact GM y (by have:=zK f g d;simpa using this)
 obtain⟨r,a,e⟩:=z g d;exact EU e I
theorem jd(h:zi tag i b c V W)(ht:Dm tag W)(hi:0<i)(f:DV)(rv:rt)(ok:Pp c f)(a6:∃a n a7,rv=.slice a n a7):rT 160 #[(b,0),.agg (zj f rv)] W (EI tag i b W (.tuple #[]) (c.message f)):=by
 obtain⟨ra,rn,aC,rfl⟩:=a6;obtain⟨W1,ao⟩:=nm<|W.alloc<|.cells (zj f<|.slice ra rn aC) 65;have m1:=AB ao;have ap:zl W1 W.heap.size f (.slice ra rn aC):=by rw[<-ao];exact heap_alloc_new W _
 have aq:¬Dr i tag W.heap.size:=λx=>by
  have z:=x.1;rw[ht _ ro]at z;simp at z;omega
 have z:=h.lK m1;have r0:zA tag i b W1 V c tag V W1:=⟨z,Di.same (ht.mod m1)<|DO.refl DQ W1,DO.refl _ _,hi,⟨rfl,rfl⟩⟩;have aB:AA (∀{c':CS} {ky:rD} {V':CV} {W':rq},zA tag i b W1 V c' ky V' W'->Dk tag i b W c' W'):=zb (λr =>
  ⟨_,_,r.c,IJ ht m1 r.e,(m1.mono rm).then r.m.oL<|λg hg=>.inl hg⟩)
 obtain⟨u,aD⟩:=nm W.heap.size;rw[aD]at ap aq;have aR:AA (∀{c':CS} {ky:rD} {V':CV} {W':rq},zA tag i b W1 V c' ky V' W'->zl W' u f (.slice ra rn aC)):=zb<|λr=>ap.mod r.m aq;have aS:=zb aq;obtain⟨y0,y1,y2,y3,y4,y5,y6,y7,y8,y9⟩:=ap.cells;obtain⟨s,aa⟩:=nm f.id;obtain⟨Z,ab⟩:=nm f.dl;obtain⟨NW,ar⟩:=nm c.now;obtain⟨B,ac⟩:=nm c.most;obtain⟨SN,au⟩:=nm V.sn;obtain⟨L0,ad⟩:=nm c.seen;obtain⟨SL,ae⟩:=nm L0.length;obtain⟨hs,av⟩:=nm<|(L0.any λp=>p.1==s);obtain⟨dr,aE⟩:=nm<|c.n7 f;have q1:=ok.most;have q2:=ok.id;have q3:=ok.dl;have q4:=ok.now;have q5:=ok.len;rw[ac]at q1;rw[aa]at q2;rw[ab]at q3;rw[ar]at q4;rw[ad,ae]at q5;unfold zF at q1 q2 q3 q4;have aT:AA ((hs||decide (Z<NW)||(decide (0<SL)&&(decide (32<=B)&&decide (s<=B-32))))=dr):=zb (by
  rw[<-aE];unfold CS.n7 D9;rw[ad,aa,ab,ar,ac,av,ae])
 have aw:Fs W1.drew SN L0:=by rw[<-au,<-ad];exact(z.lK (DO.refl DQ W1).drew).sn
 obtain⟨lv,af⟩:=aw.look (x:=s) I;have o:=(show Fs W1.drew.drew SN L0 from aw).len;rw[av]at af;rw[ae]at o;have c3:W1 (b,3)=some (.int .u64 NW):=by rw[<-ar];exact z.hd (j:=3) rfl
 have T:W1 (b,241)=some (.map<|some SN):=by rw[<-au];exact z.tl (j:=8) rfl
 have X:W1 (b,242)=some (.int .u64 B):=by rw[<-ac];exact z.tl (j:=9) rfl
 have fz:=z.fz;rw[aa]at y6;rw[ab]at y7;have aU:=zb av;have R0:=zb r0;have aF:=zb aa;have aV:=zb ab;have a8:=zb ac;have O:=zb au;have ax:=zb ad;have a9:=zb ae;have HD:=zb aE;have aG:=zb ok;have bt:=zb aw;have ba:=zb ao;have bb:=zb aD;clear h ht hi z r0 m1 ap aq y0 y1 y2 y3 y4 y5 y9 aa ab ar ac au ad ae av aE ok aw ao aD;go_enter func160,ntmps160;go_upto_region 1 with fail;rw[ba.z,bb.z]
 go_cut [5] (λov E=>ov=.bool hs/\E=W1.drew)
 case first=>as_aux_lemma =>
  refine zH ?_;refine zn 12 (λw'=>w' (U b 241)=some (.map<|some SN)/\w' (U u 6)=some (.int .u64 s)/\w'=W1.drew) (⟨T,y6,rfl⟩) ?_;refine GI 0 ?_;iterate 12
   refine GV rfl ?_;try simp only[PS]
  refine zq ?_;refine⟨rfl,?_⟩;go_wp2_with fail;go_meet;exact rZ
 case rest =>
 obtain⟨rfl,hw⟩:=hcut;obtain⟨WA,aH⟩:=nn wc;subst aH;subst hw;clear af;go_upto_region 2 with fail
 go_cut [51] (λdv E=>dv=.bool dr/\E=W1.drew.drew)
 case first=>as_aux_lemma =>
  have hD:=aT.z;subst hD;by_cases e1:hs=true
  .subst e1;refine zH ?_;refine zn 35 (λw'=>w' (U b 241)=some (.map<|some SN)/\w' (U u 6)=some (.int .u64 s)/\w' (U u 7)=some (.int .u64 Z)/\w' (U b 3)=some (.int .u64 NW)/\w' (U b 242)=some (.int .u64 B)/\(∀ty,(Builtin.len_ #[124] ty #[.map (some SN)]).run prog w'=.ok (.int .i64 SL) w')) (⟨T,y6,y7,c3,X,o⟩) ?_;refine GI 0 ?_;iterate 2
    refine GV rfl ?_;try simp only[PS]
   refine GI 2 ?_;iterate 7
    refine GU rfl (λ_ _ _ h=>nomatch h.1) ?_;try simp only[PS]
   refine GI 9 ?_;iterate 2
    refine GV rfl ?_;try simp only[PS]
   refine GI 11 ?_;iterate 23
    refine GU rfl (λ_ _ _ h=>nomatch h.1) ?_;try simp only[PS]
   refine GI 34 ?_;refine GV rfl ?_;try simp only[PS]
   refine zq ?_;refine⟨rfl,?_⟩;go_wp2_with fail;go_meet;exact⟨lm,rfl⟩
  have e1:hs=false:=rB e1;subst e1;by_cases e2:Z<NW
  .have aI:(Z:Int)<NW:=I;refine zH ?_;refine zn 35 (λw'=>w' (U b 241)=some (.map<|some SN)/\w' (U u 6)=some (.int .u64 s)/\w' (U u 7)=some (.int .u64 Z)/\w' (U b 3)=some (.int .u64 NW)/\w' (U b 242)=some (.int .u64 B)/\(∀ty,(Builtin.len_ #[124] ty #[.map (some SN)]).run prog w'=.ok (.int .i64 SL) w')) (⟨T,y6,y7,c3,X,o⟩) ?_;refine GI 0 ?_;iterate 11
    refine GV rfl ?_;try simp only[PS]
   refine GI 11 ?_;iterate 23
    refine GU rfl (λ_ _ _ h=>nomatch h.1) ?_;try simp only[PS]
   refine GI 34 ?_;refine GV rfl ?_;try simp only[PS]
   refine zq ?_;refine⟨rfl,?_⟩;go_wp2_with fail;go_meet;exact⟨by simp[e2],rfl⟩
  have aI:¬(Z:Int)<NW:=I;by_cases e3:0<SL
  .have bc:(0:Int)<SL:=I;by_cases e4:32<=B
   .have be:(32:Int)<=B:=I;have w4:=wu ((B:Int)-32) I;by_cases e5:s<=B-32
    .have bf:(s:Int)<=(B:Int)-32:=I;refine zH ?_;refine zn 35 (λw'=>w' (U b 241)=some (.map<|some SN)/\w' (U u 6)=some (.int .u64 s)/\w' (U u 7)=some (.int .u64 Z)/\w' (U b 3)=some (.int .u64 NW)/\w' (U b 242)=some (.int .u64 B)/\(∀ty,(Builtin.len_ #[124] ty #[.map (some SN)]).run prog w'=.ok (.int .i64 SL) w')) (⟨T,y6,y7,c3,X,o⟩) ?_;refine GI 0 ?_;iterate 35
      refine GV rfl ?_;try simp only[PS]
     refine zq ?_;refine⟨rfl,?_⟩;go_wp2_with fail;go_meet;exact⟨by simp[e2,e3,e4,e5],rfl⟩
    have bf:¬(s:Int)<=(B:Int)-32:=I;refine zH ?_;refine zn 35 (λw'=>w' (U b 241)=some (.map<|some SN)/\w' (U u 6)=some (.int .u64 s)/\w' (U u 7)=some (.int .u64 Z)/\w' (U b 3)=some (.int .u64 NW)/\w' (U b 242)=some (.int .u64 B)/\(∀ty,(Builtin.len_ #[124] ty #[.map (some SN)]).run prog w'=.ok (.int .i64 SL) w')) (⟨T,y6,y7,c3,X,o⟩) ?_;refine GI 0 ?_;iterate 35
     refine GV rfl ?_;try simp only[PS]
    refine zq ?_;refine⟨rfl,?_⟩;go_wp2_with fail;go_meet;exact⟨by simp[e2,e3,e4,e5],rfl⟩
   have be:¬(32:Int)<=B:=I;refine zH ?_;refine zn 35 (λw'=>w' (U b 241)=some (.map<|some SN)/\w' (U u 6)=some (.int .u64 s)/\w' (U u 7)=some (.int .u64 Z)/\w' (U b 3)=some (.int .u64 NW)/\w' (U b 242)=some (.int .u64 B)/\(∀ty,(Builtin.len_ #[124] ty #[.map (some SN)]).run prog w'=.ok (.int .i64 SL) w')) (⟨T,y6,y7,c3,X,o⟩) ?_;refine GI 0 ?_;iterate 25
    refine GV rfl ?_;try simp only[PS]
   refine GI 25 ?_;iterate 8
    refine GU rfl (λ_ _ _ h=>nomatch h.1) ?_;try simp only[PS]
   refine GI 33 ?_;iterate 2
    refine GV rfl ?_;try simp only[PS]
   refine zq ?_;refine⟨rfl,?_⟩;go_wp2_with fail;go_meet;exact⟨by simp[e2,e3,e4],rfl⟩
  have bc:¬(0:Int)<SL:=I;refine zH ?_;refine zn 35 (λw'=>w' (U b 241)=some (.map<|some SN)/\w' (U u 6)=some (.int .u64 s)/\w' (U u 7)=some (.int .u64 Z)/\w' (U b 3)=some (.int .u64 NW)/\w' (U b 242)=some (.int .u64 B)/\(∀ty,(Builtin.len_ #[124] ty #[.map (some SN)]).run prog w'=.ok (.int .i64 SL) w')) (⟨T,y6,y7,c3,X,o⟩) ?_;refine GI 0 ?_;iterate 18
   refine GV rfl ?_;try simp only[PS]
  refine GI 18 ?_;iterate 5
   refine GU rfl (λ_ _ _ h=>nomatch h.1) ?_;try simp only[PS]
  refine GI 23 ?_;iterate 2
   refine GV rfl ?_;try simp only[PS]
  refine GI 25 ?_;iterate 8
   refine GU rfl (λ_ _ _ h=>nomatch h.1) ?_;try simp only[PS]
  refine GI 33 ?_;iterate 2
   refine GV rfl ?_;try simp only[PS]
  refine zq ?_;refine⟨rfl,?_⟩;go_wp2_with fail;go_meet;exact⟨by simp[e2,e3],rfl⟩
 case rest =>
 obtain⟨rfl,hw⟩:=hcut;obtain⟨WA,aH⟩:=nn wc;subst aH;subst hw;clear o;cases dr with
 | true =>
  go_wp2_with fail
  first|go_ret|go_end0
  rw[jf HD.z];exact⟨rfl,aB.z<|R0.z.lK (DO.refl DQ W1).drew.drew⟩
 | false =>
 have ag:hs=false:=by
  have:=aT.z;cases hs
  .rfl
  simp at this
 obtain⟨A,aW⟩:=nm<|max B s;have ez:(if B<s then(s:Int)else(B:Int))=(A:Int):=by split<;>omega
 have h:A<=4611686018427387903:=I;obtain⟨W2,h⟩:=nm<|W1.setCell (U b 242)<|.int .u64 A;have m2:DO (λq=>q=b) W1 W2:=by rw[<-h];exact(DO.refl (λq=>q=b) W1).setCell (p:=⟨b,_,none⟩) rj _
 have r2:zA tag i b W1 V { c with most:=A } tag V W2:=by
  rw[<-h];exact R0.z.store (233+9) _ (GA c { c with most:=A } V V (j:=9) _ rfl rfl rfl rfl) ⟨rfl,λ_ _=>⟨rfl,rfl,rfl⟩,λ_ _=>⟨rfl,rfl⟩,rfl,rfl,rfl,rfl⟩
 have o:Fs W2.drew.drew.drew.drew SN L0:=by
  have:=(r2.lK (DO.refl DQ W2).drew.drew.drew.drew).c.sn;rw[O.z]at this;rw[<-ax.z];exact this
 obtain⟨W3,v,aJ,m3⟩:=o.put (x:=s) (y:=Z) I I (by rw[aU.z];exact ag) (by rw[a9.z];exact q5);have r3:zA tag i b W1 V { c with most:=A,seen:=L0++[(s,Z)] } tag V W3:=by
  have:=(r2.lK (DO.refl DQ W2).drew.drew.drew.drew).seen (W'':=W3) (l:=L0++[(s,Z)]) (by rw[O.z];exact m3) (by rw[O.z];exact aJ);exact this
 obtain⟨z0,z1,z2,z3,z4,z5,z6,z7,z8,z9⟩:=(aR.z r2).cells;rw[aF.z]at z6;rw[aV.z]at z7;have aX:W2 (b,241)=some (.map<|some SN):=by rw[<-O.z];exact r2.c.tl (j:=8) rfl
 have t:=fz 242;have bg:=zb aW;have bh:=zb h;have HU:=zb v;have R3:=zb r3;have l:=zb aJ;have aY:=zb ag;clear r2 r3 aJ v aW h o m2 m3 z0 z1 z2 z3 z4 z5 z8 z9 ag;go_upto_region 3 with fail;refine zH ?_;refine zn 10 (λw'=>w' (U b 242)=some (.int .u64 B)/\w'.frozen? ⟨b,242,none⟩=false/\w' (U u 6)=some (.int .u64 s)) (⟨X,t,y6⟩) ?_;refine GI 0 ?_;iterate 10
  refine GV rfl ?_;try simp only[PS]
 refine zY rfl (λK hK=>?_);go_simp;try simp only[ez]
 refine hK.z _ _ ?_;clear hK K;try simp only[PS]
 refine zq ?_;refine⟨rfl,?_⟩;go_upto_region 4 with fail;rw[bh.z];refine zH ?_;refine zn 8 (λw'=>w' (U b 241)=some (.map<|some SN)/\w' (U u 6)=some (.int .u64 s)/\w' (U u 7)=some (.int .u64 Z)) (⟨aX,z6,z7⟩) ?_;refine GI 0 ?_;iterate 8
  refine GV rfl ?_;try simp only[PS]
 refine zY rfl (λK hK=>?_);have h:=HU.z;go_simp;refine hK.z _ _ ?_;clear hK K;try simp only[PS]
 refine zq ?_;refine⟨rfl,?_⟩;obtain⟨L,o⟩:=nm<|L0++[(s,Z)];rw[o]at R3 l;obtain⟨N,hN⟩:=nm L.length;obtain⟨D,ho,v,h⟩:=l.z;have l:∀p∈L,p.1<=zF:=λp hp=>by
  rw[<-o]at hp;rcases Ak.1 hp with x|x
  .exact aG.z.ids p (by rw[ax.z];exact x)
  have:p=(s,Z):=rB x;rw[this];unfold zF;exact q2
 have B:(L.map (·.1)).Nodup:=by
  rw[<-o,BX,C7];refine⟨by rw[<-ax.z];exact aG.z.nd,lm,λa ha b' Z e=>?_⟩;have bi:b'=s:=rB Z;obtain⟨p,hp,Z⟩:=BL.1 ha;have z:=aU.z;rw[aY.z]at z;have h2:=CT.1 z p hp;simp at h2;exact h2<|by rw[Z,e,bi]
 have Z:=Hx.start (w:=W3) (b:=SN) (M:=A) h v l;rw[hN]at ho;have bj:W3 (b,241)=some (.map<|some SN):=by rw[<-O.z];exact R3.z.c.tl (j:=8) rfl
 have J0:=zb Z;have aZ:=zb l;have bk:=zb B;have bl:=zb o;have bu:=zb hN;clear h v l B o hN Z c3 T X t fz y6 y7 aX z6 z7;go_wp2_with (first|(at_range;refine wpList_range_own _ rfl _ 124 rfl 43 43 I6 underlying124 _ SN N D rfl ho ?_;intro h ah a0 a1)|fail);obtain⟨RB,aK⟩:=nm W3.heap.size;rw[aK]at ah a1 ⊢;have m0:DO (λq=>q=SN) W3 h:=(DO.refl _ W3).grown a0 (λk hk=>by cases hk);have aL:=zb aK;clear ho a0 a1 aK bj
 go_frame
 go_loopw [] (λwr=>∃(left:Lit->Bool) (oU:Nat) (D:DataW Unit) (del:Nat->Bool),wr.ranges (H:=Unit) prog 43 (plainElem prog 43) SN RB N D left oU/\AA (Hx L A left D del/\DO (λq=>q=SN) W3 wr)) (λwr=>wr.rangeLeft SN RB)
 case atStart=>exact⟨_,_,D,_,ah,zb ⟨J0.z,m0⟩⟩
 case round =>
  clear ah m0 J0;obtain⟨left,oU,h,del,ai,HJ⟩:=hrel;have a2:¬b=SN:=λe=>by
   have z:=R3.z.c.oJ;rw[O.z,<-e,R3.z.c.tb]at z;simp at z
  go_wp2_with (first|(at_next;refine wpList_next_ranges_ii _ rfl _ rfl 43 43 .u64 .u64 I6 underlying43 underlying43 SN RB N _ _ _ rfl ai ?_ ?_)|fail)
  .intro bm a3;have a4:=HJ.z.1.fin a3 ai.owns;have r5:=R3.z.seen (by rw[O.z];exact HJ.z.2) (by rw[O.z];exact a4);have h:AA (({ ({ c with most:=A,seen:=L }:CS)with seen:=L.filter λp => !D9 A p.1 }:CS)={ c with most:=A,seen:=L.filter λp => !D9 A p.1 }):=zb rfl;rw[h.z]at r5;obtain⟨ca,cc,aj,bn,bo,_⟩:=zk r5.c.cm;obtain⟨CL,ak⟩:=nm c.lC.length;have q7:=aG.z.cm;rw[ak]at q7;have aj:V.cm=.slice ca CL cc:=by rw[aj];simp only[ak]
   obtain⟨DT,aM⟩:=nm f.data;obtain⟨f,h,DY,ay,aN,a5⟩:=XR wr.drew V.cm c.lC s DT (by exact r5.c.cm) (by rw[ak];exact q7);have m5:DO DQ wr (wr.drew.alloc<|.cells #[s,.string (zu DT)] 154):=((DO.refl DQ wr).drew).alloc _;have al:(c.lC++[(s,DT)]).length=c.lC.length+1:=lm;rw[<-al]at ay;obtain⟨⟨c,f,r6⟩,x6,f6⟩:=r5.qX m5 ay aN a5;obtain⟨c,f,rfl,_⟩:=zk ay;rw[al,ak]at DY r6;rw[aj]at DY x6;obtain⟨y0,y1,y2,y3,y4,y5,y6,y7,y8,y9⟩:=(aR.z r5).cells;rw[aF.z]at y6;rw[aM]at y8;have f:wr (b,243)=some (.slice ca CL cc):=by rw[<-aj];exact r5.c.tl (j:=10) rfl
   have h:=(m5.mono rm).trans<|rp.grown aN<|λg hg=>.inl hg;have c:¬V.cm.ownBlock=some u:=λe=>by
    have z:=r5.c.oE u e;exact aS.z<|EU z lc
   have p:=h.cell (a:=U u 6) c y6;have t:=h.cell (a:=U u 8) c y8;have v:=zb DY;have B:=zb r6;have e:=zb aM;have l:=λo=>(show(wr.drew.alloc o).cell? (U b 243)=some (.slice ca CL cc)/\(wr.drew.alloc o) (U u 6)=some (.int .u64 s)/\(wr.drew.alloc o) (U u 8)=some (.string<|zu DT)from
    have m:=((DO.refl DQ wr).drew).alloc o
    ⟨m.cell (a:=⟨b,_,none⟩) id f,m.cell (a:=⟨u,_,none⟩) id y6,m.cell (a:=⟨u,_,none⟩) id y8⟩)
   clear ai a3 bm a4 r5 bn bo ak q7 aj ay aN a5 m5 al r6 DY aM h c y0 y1 y2 y3 y4 y5 y7 y9;go_upto_region 10 with fail;refine zH ?_;refine zn 14 (λw'=>w' (U b 243)=some (.slice ca CL cc)/\w' (U u 6)=some (.int .u64 s)/\w' (U u 8)=some (.string<|zu DT)) (⟨f,y6,y8⟩) ?_;refine GI 0 ?_;iterate 10
    refine GV rfl ?_;try simp only[PS]
   refine zz 10 rfl (λK hK=>?_);go_simp;refine hK.z _ _ (l _) ?_;clear hK K;try simp only[PS]
   refine zz 11 rfl (λK hK=>?_);refine zL rfl _ _ _ _ rfl _ _ _ rfl rfl v.z ?_;refine hK.z _ _ ⟨x6,p,t⟩ ?_;clear hK K;try simp only[PS]
   refine GI 12 ?_;iterate 2
    refine GV rfl ?_;try simp only[PS]
   refine zY rfl (λK hK=>?_);go_simp;refine hK.z _ _ ?_;clear hK K;try simp only[PS]
   refine zq ?_;refine⟨rfl,?_⟩;go_wp2_with fail
   first|go_ret|go_end0
   rw[je HD.z,a8.z,aF.z,bg.z,ax.z,aV.z,bl.z,e.z];exact⟨rfl,aB.z B.z⟩
  intro x o w1 c aO d e bp Y f aP h l;obtain⟨xn,rfl,az⟩:∃xn:Nat,x=(xn:Int)/\xn<18446744073709551616:=by
   have aO:(decide ((0:Int)<=x)&&decide (x<=18446744073709551615))=true:=aO;simp only[AZ,Ah]at aO;exact⟨x.toNat,I,I⟩
  have c:w1 (b,242)=some (.int .u64 A):=by
   have z:=HJ.z.2.cell (a:=U b 242) a2<|R3.z.c.tl (j:=9) rfl;have h2:DO (λq=>q=RB) wr w1:=(DO.refl _ wr).grown aP (λk hk=>.inl (by cases hk;rfl));exact h2.cell (a:=U b 242) (by
    show ¬b=RB;have h3:=zm<|R3.z.c.tl (j:=9) rfl;have h4:=aL.z;omega) z
  have c:w1 (b,241)=some (.map<|some SN):=by
   have z:=HJ.z.2.cell (a:=U b 241) a2<|R3.z.c.tl (j:=8) rfl;rw[O.z]at z;have h2:DO (λq=>q=RB) wr w1:=(DO.refl _ wr).grown aP (λk hk=>.inl (by cases hk;rfl));exact h2.cell (a:=U b 241) (by
    show ¬b=RB;have h3:=zm<|R3.z.c.tl (j:=9) rfl;have h4:=aL.z;omega) z
  have mw:=HJ.z.2.then ((DO.refl (λq=>q=RB) wr).grown aP<|λk hk=>.inl<|by cases hk;rfl) (λq a=>.inr (by
   have h4:=aL.z;have:=a;omega))
  have aA:=Maps.has_true_of_atKey bp;have MW:=zb mw;have c:=zb aA;have aQ:=ai.left_eq;by_cases e1:32<=A
  .have bq:(32:Int)<=A:=I;have w4:=wu ((A:Int)-32) I;by_cases e2:xn<=A-32
   .have aI:(xn:Int)<=(A:Int)-32:=I;have am:AA (D9 A xn=true):=zb (by unfold D9;simp[e1,e2]);clear mw aA e2 e1;go_wp2_with (first|(at_delete;refine wpList_delete_ranges _ rfl _ _ 124 43 rfl 43 I6 underlying124 _ SN RB N _ _ _ rfl Y (.int .u64 xn) (.int .u64 xn) rfl (Mo az) ?_;intro f d an e a)|fail);rw[Maps.strike_twice]at an
    go_frame
    go_roundw
    case rel=>exact⟨_,_,_,_,an,zb ⟨HJ.z.1.ps az am.z bk.z c.z<|ai.owns.tidy I6,MW.z.trans<|(DO.refl _ w1).grown a.grown<|λk hk=>.inl<|by cases hk;rfl⟩⟩
    rw[an.left_eq,aQ];omega
   have aI:¬(xn:Int)<=(A:Int)-32:=I;have am:AA (D9 A xn=false):=zb (by unfold D9;simp[e2]);clear mw aA e2 e1;go_wp2_with fail;go_roundw
   case rel=>exact⟨_,_,_,_,Y,zb ⟨HJ.z.1.lG az am.z aZ.z,MW.z⟩⟩
   rw[Y.left_eq,aQ];omega
  have bq:¬(32:Int)<=A:=I;have am:AA (D9 A xn=false):=zb (by unfold D9;simp[e1]);clear mw aA e1;go_wp2_with fail;go_roundw
  case rel=>exact⟨_,_,_,_,Y,zb ⟨HJ.z.1.lG az am.z aZ.z,MW.z⟩⟩
  rw[Y.left_eq,aQ];omega
structure OV(c:CS)(f:DV):Prop where
 pK:f.kind=2->0<f.lF.length/\f.lF.length<=1099511627776/\c.kx.length<=1099511627776/\(¬c.next<=DP f.lF 0->Mz { c with lI:=max c.lI (DP f.lF 0) } f.lF/\Kg (c.mS f.lF))
 reset:f.kind=3->∃k:Nat,k<8/\f.stream=(k:Int)
 data:f.kind=4->∃k,Pv c f k
 ms:f.kind=6->∃k:Nat,k<8/\f.stream=(k:Int)
 msg:f.kind=7->Pp c f
def dX(h:zi tag i b c V W)(q:Dm tag W)(hi:0<i)(f:DV)(l:rE)(p d:Nat)(s:¬f.kind=2)(t:¬f.kind=3)(u:¬f.kind=4)(v:¬f.kind=5)(z:¬f.kind=6)(A:¬f.kind=7)(B:¬f.kind=8):rT 89 #[(b,0),.agg (zj f (.slice l p d))] W (EI tag i b W (.int .i64 0) c):=by
 obtain⟨W1,a⟩:=nm<|W.alloc<|.cells (zj f<|.slice l p d) 65;have o:=AB a;have e:zl W1 W.heap.size f (.slice l p d):=by rw[<-a];exact heap_alloc_new W _
 have E:=h.lK o;have d:=q.mod o;have K:zA tag i b W1 V c tag V W1:=⟨E,Di.same d<|DO.refl DQ W1,DO.refl _ _,hi,⟨rfl,rfl⟩⟩;have p:AA (∀{c:CS} {ky:rD} {l:CV} {W':rq},zA tag i b W1 V c ky l W'->Dk tag i b W c W'):=zb (λr =>
  ⟨_,_,r.c,IJ q o r.e,(o.mono rm).then r.m.oL<|λg l=>.inl l⟩)
 have l:AA (∀{c:CS} {W':rq},Dk tag i b W1 c W'->Dk tag i b W c W'):=zb<|λl=>l.mG q hi o;obtain⟨l,c⟩:=nm W.heap.size;rw[c]at e;obtain⟨l,N,O,T,X,Y,Z,y7,y8,y9⟩:=e.cells;have l:(f.kind==2)=false:=rB s;have l:(f.kind==3)=false:=rB t;have l:(f.kind==4)=false:=rB u;have l:(f.kind==5)=false:=rB v;have l:(f.kind==6)=false:=rB z;have l:(f.kind==7)=false:=rB A;have l:(f.kind==8)=false:=rB B;have R0:=zb K;have f:=zb a;have l:=zb c;clear h q hi o e E d K a c N O T X Y Z y7 y8 y9 s t u v z A B;go_enter func89,ntmps89;go_upto_region 1 with fail;rw[f.z,l.z];go_wp2_with fail;go_ret;exact⟨rfl,p.z R0.z⟩
def dW(h:zi tag i b c V W)(p:Dm tag W)(hi:0<i)(f:DV)(l:rE)(q d:Nat)(s:f.kind=8):rT 89 #[(b,0),.agg (zj f (.slice l q d))] W (EI tag i b W (.int .i64 13) c):=by
 obtain⟨W1,a⟩:=nm<|W.alloc<|.cells (zj f<|.slice l q d) 65;have o:=AB a;have e:zl W1 W.heap.size f (.slice l q d):=by rw[<-a];exact heap_alloc_new W _
 have t:=h.lK o;have d:=p.mod o;have u:zA tag i b W1 V c tag V W1:=⟨t,Di.same d<|DO.refl DQ W1,DO.refl _ _,hi,⟨rfl,rfl⟩⟩;have f:AA (∀{c:CS} {ky:rD} {l:CV} {W':rq},zA tag i b W1 V c ky l W'->Dk tag i b W c W'):=zb (λr =>
  ⟨_,_,r.c,IJ p o r.e,(o.mono rm).then r.m.oL<|λg l=>.inl l⟩)
 have l:AA (∀{c:CS} {W':rq},Dk tag i b W1 c W'->Dk tag i b W c W'):=zb<|λl=>l.mG p hi o;obtain⟨l,c⟩:=nm W.heap.size;rw[c]at e;obtain⟨l,v,z,A,B,E,K,N,O,T⟩:=e.cells;rw[s]at l;have X:=zb u;have l:=zb a;have q:=zb c;clear h p hi o e t d u a c v z A B E K N O T s;go_enter func89,ntmps89;go_upto_region 1 with fail;rw[l.z,q.z];go_wp2_with fail;go_ret;exact⟨rfl,f.z X.z⟩
def dV(h:zi tag i b c V W)(u:Dm tag W)(hi:0<i)(f:DV)(l:rE)(o d:Nat)(N:f.kind=5):rT 89 #[(b,0),.agg (zj f (.slice l o d))] W (EI tag i b W (.int .i64 0) { c with lA:=max c.lA f.mF }):=by
 obtain⟨W1,a⟩:=nm<|W.alloc<|.cells (zj f<|.slice l o d) 65;have p:=AB a;have e:zl W1 W.heap.size f (.slice l o d):=by rw[<-a];exact heap_alloc_new W _
 have v:=h.lK p;have q:=u.mod p;have z:zA tag i b W1 V c tag V W1:=⟨v,Di.same q<|DO.refl DQ W1,DO.refl _ _,hi,⟨rfl,rfl⟩⟩;have s:AA (∀{d:CS} {ky:rD} {l:CV} {W':rq},zA tag i b W1 V d ky l W'->Dk tag i b W d W'):=zb (λr =>
  ⟨_,_,r.c,IJ u p r.e,(p.mono rm).then r.m.oL<|λg l=>.inl l⟩)
 have l:AA (∀{d:CS} {W':rq},Dk tag i b W1 d W'->Dk tag i b W d W'):=zb<|λl=>l.mG u hi p;obtain⟨X,d⟩:=nm W.heap.size;rw[d]at e;obtain⟨l,Y,Z,y3,O,y5,y6,y7,y8,y9⟩:=e.cells;rw[N]at l;have t:W1 (b,233)=some (.int .u64 c.lA):=v.tl (j:=0) rfl;have A:=v.fz 233;obtain⟨B,l⟩:=nm<|max c.lA f.mF;have T:=z.store (233+0) (.int .u64 B) (GA c { c with lA:=B } V V (j:=0) _ rfl rfl rfl rfl) ⟨rfl,λ_ _=>⟨rfl,rfl,rfl⟩,λ_ _=>⟨rfl,rfl⟩,rfl,rfl,rfl,rfl⟩;rw[l];obtain⟨E,o⟩:=nm c.lA;obtain⟨K,c⟩:=nm f.mF;rw[o,c]at l;rw[o]at t;rw[c]at O;have ez:(if E<K then(K:Int)else(E:Int))=(B:Int):=by split<;>omega
 have HS:=zb T;have f:=zb z;have f:=zb a;have B:=zb d;clear h u hi p e v q z a d Y Z y3 y5 y6 y7 y8 y9 N T l o c;go_enter func89,ntmps89;go_upto_region 1 with fail;rw[f.z,B.z];go_upto_region 14 with fail;refine zH ?_;refine zn 10 (λw'=>w' (U b 233)=some (.int .u64 E)/\w'.frozen? ⟨b,233,none⟩=false/\w' (U X 4)=some (.int .u64 K)) (⟨t,A,O⟩) ?_;refine GI 0 ?_;iterate 10
  refine GV rfl ?_;try simp only[PS]
 refine zY rfl (λK a=>?_);go_simp;try simp only[ez]
 refine a.z _ _ ?_;clear a K;try simp only[PS]
 refine zq ?_;refine⟨rfl,?_⟩;go_wp2_with fail;go_ret;exact⟨rfl,s.z<|HS.z.lK (DO.refl DQ _).drew⟩
def dU(h:zi tag i b c V W)(z:Dm tag W)(hi:0<i)(f:DV)(l:rE)(o d:Nat)(X:f.kind=6)(k:Nat)(O:k<8)(q:f.stream=(k:Int)):rT 89 #[(b,0),.agg (zj f (.slice l o d))] W (EI tag i b W (.int .i64 0) { c with ws:=ze c.ws k { c.ws k with lA:=max (c k).lA f.mF } }):=by
 obtain⟨W1,a⟩:=nm<|W.alloc<|.cells (zj f<|.slice l o d) 65;have p:=AB a;have e:zl W1 W.heap.size f (.slice l o d):=by rw[<-a];exact heap_alloc_new W _
 have A:=h.lK p;have s:=z.mod p;have B:zA tag i b W1 V c tag V W1:=⟨A,Di.same s<|DO.refl DQ W1,DO.refl _ _,hi,⟨rfl,rfl⟩⟩;have t:AA (∀{d:CS} {ky:rD} {l:CV} {W':rq},zA tag i b W1 V d ky l W'->Dk tag i b W d W'):=zb (λr =>
  ⟨_,_,r.c,IJ z p r.e,(p.mono rm).then r.m.oL<|λg l=>.inl l⟩)
 have l:AA (∀{d:CS} {W':rq},Dk tag i b W1 d W'->Dk tag i b W d W'):=zb<|λl=>l.mG z hi p;obtain⟨Y,d⟩:=nm W.heap.size;rw[d]at e;obtain⟨l,Z,y2,y3,y4,y5,y6,y7,y8,y9⟩:=e.cells;rw[X]at l;rw[q]at Z;have u:W1 (b,9+k*15+14)=some (.int .u64 ((c k).lA:Int)):=by rw[AL k 15];exact A.w (j:=14) O rfl
 have E:=A.fz<|9+k*15+14;obtain⟨K,l⟩:=nm<|max (c k).lA f.mF;have v:({ c with ws:=ze c.ws k (c k) }:CS)=c:=by rw[Fd]
 have N:=(B.same v.symm).nL O 14 lc (.int .u64 K) { c.ws k with lA:=K } rfl rfl rfl rfl;rw[AL 15 k]at N;rw[l];obtain⟨O,o⟩:=nm<|(c k).lA;obtain⟨T,c⟩:=nm f.mF;rw[o,c]at l;rw[o]at u;rw[c]at y4;have ez:(if O<T then(T:Int)else(O:Int))=(K:Int):=by split<;>omega
 have f:(0:Int)<=k:=I;have f:(k:Int)<8:=I;have HS:=zb N;have f:=zb B;have f:=zb a;have K:=zb d;clear h z hi p e A s B a d y2 y3 y5 y6 y7 y8 y9 X N l o c q v;go_enter func89,ntmps89;go_upto_region 1 with fail;rw[f.z,K.z];go_upto_region 16 with fail;refine zH ?_;refine zn 7 (λw'=>w' (U Y 1)=some (.int .i64 k)) (Z) ?_;refine GI 0 ?_;iterate 7
  refine GV rfl ?_;try simp only[PS]
 refine zq ?_;refine⟨rfl,?_⟩;go_upto_region 17 with fail;refine zH ?_;refine zn 10 (λw'=>w' (b,9+k*15+14)=some (.int .u64 O)/\w'.frozen? ⟨b,9+k*15+14,none⟩=false/\w' (U Y 4)=some (.int .u64 T)) (⟨u,E,y4⟩) ?_;refine GI 0 ?_;iterate 10
  refine GV rfl ?_;try simp only[PS]
 refine zY rfl (λK a=>?_);go_simp;try simp only[ez]
 refine a.z _ _ ?_;clear a K;try simp only[PS]
 refine zq ?_;refine⟨rfl,?_⟩;go_wp2_with fail;go_ret;exact⟨rfl,t.z<|HS.z.lK (DO.refl DQ _).drew.drew⟩
def dT(h:zi tag i b c V W)(z:Dm tag W)(hi:0<i)(f:DV)(p:rE)(l a:Nat)(B:f.kind=2)(E:l=f.lF.length)(K:RR W (.slice p l a) f.lF)(s:∀g,Value.mu (.slice p l a)=some g->(tag g).1≠i)(ok:OV c f):rT 89 #[(b,0),.agg (zj f (.slice p l a))] W (EI tag i b W (.int .i64 ((c.ln f.lF).1:Int)) (c.ln f.lF).2):=by
 obtain⟨W1,d⟩:=nm<|W.alloc<|.cells (zj f<|.slice p l a) 65;have q:=AB d;have t:zl W1 W.heap.size f (.slice p l a):=by rw[<-d];exact heap_alloc_new W _
 have A:=h.lK q;have o:=z.mod q;have X:zA tag i b W1 V c tag V W1:=⟨A,Di.same o<|DO.refl DQ W1,DO.refl _ _,hi,⟨rfl,rfl⟩⟩;have N:AA (∀{l:CS} {ky:rD} {O:CV} {W':rq},zA tag i b W1 V l ky O W'->Dk tag i b W l W'):=zb (λr =>
  ⟨_,_,r.c,IJ z q r.e,(q.mono rm).then r.m.oL<|λg N=>.inl N⟩)
 have u:AA (∀{l:CS} {W':rq},Dk tag i b W1 l W'->Dk tag i b W l W'):=zb<|λl=>l.mG z hi q;obtain⟨l,v⟩:=nm W.heap.size;rw[v]at t;obtain⟨y0,y1,y2,y3,y4,y5,y6,y7,y8,y9⟩:=t.cells;subst E;obtain⟨E,N,Y,O⟩:=ok.pK B;have T:rT 158 #[(b,0),.slice p f.lF.length a] W1 (EI tag i b W1 (.int .i64 ((c.ln f.lF).1:Int)) (c.ln f.lF).2):=by
  by_cases l:c.next<=DP f.lF 0
  .have e:c.ln f.lF=(11,c):=by unfold CS.ln;rw[AM l]
   rw[e];exact fe A o hi f.lF p a (K.mod q<|Dj.no _) s E N l
  rw[Ou c f.lF l];exact fd A o hi f.lF p a (K.mod q<|Dj.no _) s E N l Y (O l).1 (O l).2
 rw[B]at y0;obtain⟨RL,a⟩:=nm f.lF.length;rw[a]at T y9 d ⊢;have l:=zb T;have c:=zb X;have c:=zb d;have f:=zb v;clear h z hi q t A o X d v y1 y2 y3 y4 y5 y6 y7 y8 B K s ok T E N Y O a;go_enter func89,ntmps89;go_upto_region 1 with fail;rw[c.z,f.z];go_upto_region 3 with fail;go_wp2_with fail;refine(l.z).mono ?_;rintro e a ⟨rfl,Z⟩;have a:=zb Z;clear Z;go_wp2_with fail;go_ret;exact⟨rfl,u.z a.z⟩
def dS(h:zi tag i b c V W)(s:Dm tag W)(hi:0<i)(f:DV)(t:rE)(u a:Nat)(v:f.kind=4)(k:Nat)(ok:Pv c f k):rT 89 #[(b,0),.agg (zj f (.slice t u a))] W (EI tag i b W (.int .i64 ((c.data f).1:Int)) (c.data f).2):=by
 obtain⟨W1,d⟩:=nm<|W.alloc<|.cells (zj f<|.slice t u a) 65;have q:=AB d;have e:zl W1 W.heap.size f (.slice t u a):=by rw[<-d];exact heap_alloc_new W _
 have z:=h.lK q;have o:=s.mod q;have A:zA tag i b W1 V c tag V W1:=⟨z,Di.same o<|DO.refl DQ W1,DO.refl _ _,hi,⟨rfl,rfl⟩⟩;have l:AA (∀{c:CS} {ky:rD} {E:CV} {W':rq},zA tag i b W1 V c ky E W'->Dk tag i b W c W'):=zb (λr =>
  ⟨_,_,r.c,IJ s q r.e,(q.mono rm).then r.m.oL<|λg l=>.inl l⟩)
 have p:AA (∀{c:CS} {W':rq},Dk tag i b W1 c W'->Dk tag i b W c W'):=zb<|λl=>l.mG s hi q;obtain⟨l,c⟩:=nm W.heap.size;rw[c]at e;obtain⟨E,l,K,N,O,T,X,Y,Z,y9⟩:=e.cells;have l:=dZ z o hi f (.slice t u a) k ok ⟨_,_,_,rfl⟩;rw[v]at E;unfold zj at l;rw[v]at l;have t:=zb l;have a:=zb A;have a:=zb d;have f:=zb c;clear h s hi q e z o A d c l ok;have c:=zb v;clear v;go_enter func89,ntmps89;go_upto_region 1 with fail;rw[a.z,f.z];go_upto_region 12 with fail;go_wp2_with fail;refine(t.z).mono ?_;rintro e a ⟨rfl,B⟩;have a:=zb B;clear B;go_wp2_with fail;go_ret;exact⟨rfl,p.z a.z⟩
def dR(h:zi tag i b c V W)(s:Dm tag W)(hi:0<i)(f:DV)(t:rE)(u a:Nat)(v:f.kind=7)(ok:Pp c f):rT 89 #[(b,0),.agg (zj f (.slice t u a))] W (EI tag i b W (.int .i64 0) (c.message f)):=by
 obtain⟨W1,d⟩:=nm<|W.alloc<|.cells (zj f<|.slice t u a) 65;have q:=AB d;have e:zl W1 W.heap.size f (.slice t u a):=by rw[<-d];exact heap_alloc_new W _
 have z:=h.lK q;have o:=s.mod q;have A:zA tag i b W1 V c tag V W1:=⟨z,Di.same o<|DO.refl DQ W1,DO.refl _ _,hi,⟨rfl,rfl⟩⟩;have l:AA (∀{c:CS} {ky:rD} {E:CV} {W':rq},zA tag i b W1 V c ky E W'->Dk tag i b W c W'):=zb (λr =>
  ⟨_,_,r.c,IJ s q r.e,(q.mono rm).then r.m.oL<|λg l=>.inl l⟩)
 have p:AA (∀{c:CS} {W':rq},Dk tag i b W1 c W'->Dk tag i b W c W'):=zb<|λl=>l.mG s hi q;obtain⟨l,c⟩:=nm W.heap.size;rw[c]at e;obtain⟨E,l,K,N,O,T,X,Y,Z,y9⟩:=e.cells;have l:=jd z o hi f (.slice t u a) ok ⟨_,_,_,rfl⟩;rw[v]at E;unfold zj at l;rw[v]at l;have t:=zb l;have a:=zb A;have a:=zb d;have f:=zb c;clear h s hi q e z o A d c l ok;have c:=zb v;clear v;go_enter func89,ntmps89;go_upto_region 1 with fail;rw[a.z,f.z];go_upto_region 19 with fail;go_wp2_with fail;refine(t.z).mono ?_;rintro e a ⟨rfl,B⟩;have a:=zb B;clear B;go_wp2_with fail;go_ret;exact⟨rfl,p.z a.z⟩
theorem dQ(h:zi tag i b c V W)(ht:Dm tag W)(hi:0<i)(f:DV)(E:rE)(K t:Nat)(h3:f.kind=3)(k:Nat)(o:k<8)(O:f.stream=(k:Int)):rT 89 #[(b,0),.agg (zj f (.slice E K t))] W (EI tag i b W (.int .i64 ((c.lq f).1:Int)) (c.lq f).2):=by
 obtain⟨W1,v⟩:=nm<|W.alloc<|.cells (zj f<|.slice E K t) 65;have m1:=AB v;have A:zl W1 W.heap.size f (.slice E K t):=by rw[<-v];exact heap_alloc_new W _
 have p:=h.lK m1;have ah:=ht.mod m1;have r0:zA tag i b W1 V c tag V W1:=⟨p,Di.same ah<|DO.refl DQ W1,DO.refl _ _,hi,⟨rfl,rfl⟩⟩;have N:AA (∀{c':CS} {ky:rD} {Y:CV} {W':rq},zA tag i b W1 V c' ky Y W'->Dk tag i b W c' W'):=zb (λr =>
  ⟨_,_,r.c,IJ ht m1 r.e,(m1.mono rm).then r.m.oL<|λg l=>.inl l⟩)
 have l:AA (∀{c':CS} {W':rq},Dk tag i b W1 c' W'->Dk tag i b W c' W'):=zb<|λl=>l.mG ht hi m1;obtain⟨q,B⟩:=nm W.heap.size;rw[B]at A;obtain⟨l,y1,T,y3,y4,y5,y6,y7,y8,y9⟩:=A.cells;rw[h3]at l;rw[O]at y1;have X:AA (∀{c':CS} {ky:rD} {Y:CV} {W':rq},zA tag i b W1 V c' ky Y W'->zl W' q f (.slice E K t)):=zb (λr=>A.mod r.m (λx=>by
  have p:=x.1;rw[<-B,ht _ ro]at p;simp at p;omega))
 obtain⟨x,K⟩:=nm<|c.rs k;obtain⟨en,Y⟩:=nm x.ended;obtain⟨cu,Z⟩:=nm x.cut;obtain⟨u,aa⟩:=nm x.fin;obtain⟨HI,ab⟩:=nm x.high;obtain⟨z,E⟩:=nm x.lG;obtain⟨e,l⟩:=nm f.off;obtain⟨RL,ac⟩:=nm f.rel;have r4:W1 (b,129+k*13+4)=some (.int .u64 HI):=by rw[<-ab,<-K,AL k 13];exact p.r (j:=4) o rfl
 have r5:W1 (b,129+k*13+5)=some (.int .u64 u):=by rw[<-aa,<-K,AL k 13];exact p.r (j:=5) o rfl
 have r6:W1 (b,129+k*13+6)=some (.bool en):=by rw[<-Y,<-K,AL k 13];exact p.r (j:=6) o rfl
 have r7:W1 (b,129+k*13+7)=some (.bool cu):=by rw[<-Z,<-K,AL k 13];exact p.r (j:=7) o rfl
 have r8:W1 (b,129+k*13+8)=some (.int .u64 z):=by rw[<-E,<-K,AL k 13];exact p.r (j:=8) o rfl
 have fz:=p.fz;rw[l]at T;rw[ac]at y3;have ai:c={ c with rs:=ze c.rs k x }:=by rw[<-K,Fd]
 have RX:=zb<|r0.same ai;have s:AA (c.lq f=if (en&&u != e)||decide (e<HI)then(10,c)else(0,{ c with rs:=ze c.rs k (x.lq f) })):=zb (by
  unfold CS.lq;rw[O];simp only[Ad,K,Y,aa,l,ab])
 have aj:AA (x.lq f={ x with lG:=if !cu||decide (RL<z)then RL else z,cut:=true,ended:=true,fin:=e }):=zb (by
  unfold RS.lq;rw[Z,ac,E,l])
 have am:=zb E;have ad:=zb l;have t:(0:Int)<=k:=I;have t:(k:Int)<8:=I;have R0:=zb r0;have an:=zb v;have ao:=zb B;obtain⟨ak,t⟩:=nm<|((en&&u != e)||decide (e<HI));rw[t]at s;have al:=zb t;obtain⟨kb,ae⟩:=nm<|(!cu||decide (RL<z));rw[ae]at aj;have ap:=zb ae;clear h ht hi m1 A p ah r0 v B y4 y5 y6 y7 y8 y9 h3 O K Y Z aa ab E l ac ai t ae;go_enter func89,ntmps89;go_upto_region 1 with fail;rw[an.z,ao.z];go_upto_region 5 with fail;refine zH ?_;refine zn 7 (λw'=>w' (U q 1)=some (.int .i64 k)) (y1) ?_;refine GI 0 ?_;iterate 7
  refine GV rfl ?_;try simp only[PS]
 refine zq ?_;refine⟨rfl,?_⟩;go_upto_region 6 with fail
 go_cut [44] (λbv d=>bv=.bool ak/\d=W1.drew.drew)
 case first=>as_aux_lemma =>
  have hB:=al.z;subst hB;cases en
  .refine zH ?_;refine zn 22 (λw'=>w' (b,129+k*13+6)=some (.bool false)/\w' (b,129+k*13+5)=some (.int .u64 u)/\w' (b,129+k*13+4)=some (.int .u64 HI)/\w' (U q 2)=some (.int .u64 e)) (⟨r6,r5,r4,T⟩) ?_;refine GI 0 ?_;iterate 5
    refine GV rfl ?_;try simp only[PS]
   refine GI 5 ?_;iterate 7
    refine GU rfl (λ_ _ _ h=>nomatch h.1) ?_;try simp only[PS]
   refine GI 12 ?_;iterate 10
    refine GV rfl ?_;try simp only[PS]
   refine zq ?_;refine⟨rfl,?_⟩;go_wp2_with fail;go_meet;exact⟨lm,rfl⟩
  by_cases e1:u=e
  .subst e1;refine zH ?_;refine zn 22 (λw'=>w' (b,129+k*13+6)=some (.bool true)/\w' (b,129+k*13+5)=some (.int .u64 u)/\w' (b,129+k*13+4)=some (.int .u64 HI)/\w' (U q 2)=some (.int .u64 u)) (⟨r6,r5,r4,T⟩) ?_;refine GI 0 ?_;iterate 22
    refine GV rfl ?_;try simp only[PS]
   refine zq ?_;refine⟨rfl,?_⟩;go_wp2_with fail;go_meet;exact⟨lm,rfl⟩
  have l:((u:Int)==(e:Int))=false:=by rw[MS];simpa using e1
  have p:((u:Int) != (e:Int))=true:=by simp only[bne,l];rfl
  have l:=zb e1;clear e1;refine zH ?_;refine zn 22 (λw'=>w' (b,129+k*13+6)=some (.bool true)/\w' (b,129+k*13+5)=some (.int .u64 u)/\w' (b,129+k*13+4)=some (.int .u64 HI)/\w' (U q 2)=some (.int .u64 e)) (⟨r6,r5,r4,T⟩) ?_;refine GI 0 ?_;iterate 14
   refine GV rfl ?_;try simp only[PS]
  refine GI 14 ?_;iterate 7
   refine GU rfl (λ_ _ _ h=>nomatch h.1) ?_;try simp only[PS]
  refine GI 21 ?_;refine GV rfl ?_;try simp only[PS]
  refine zq ?_;refine⟨rfl,?_⟩;go_wp2_with fail;go_meet;exact⟨by simp[l.z],rfl⟩
 case rest =>
 obtain⟨rfl,hw⟩:=hcut;obtain⟨WA,af⟩:=nn wc;subst af;subst hw;clear r4 r5 r6;cases ak with
 | true =>
  have l:=s.z;simp only[A9]at l;have ag:=zb l;clear l;go_wp2_with fail;go_ret;rw[ag.z];exact⟨rfl,N.z<|R0.z.lK (DO.refl DQ W1).drew.drew⟩
 | false =>
 have l:=s.z;simp only[BT,BZ]at l;have ag:=zb l;clear l;go_upto_region 8 with fail
 go_cut [58] (λbv d=>bv=.bool kb/\d=W1.drew.drew.drew)
 case first=>as_aux_lemma =>
  have hB:=ap.z;subst hB;cases cu
  .refine zH ?_;refine zn 14 (λw'=>w' (b,129+k*13+7)=some (.bool false)/\w' (b,129+k*13+8)=some (.int .u64 z)/\w' (U q 3)=some (.int .u64 RL)) (⟨r7,r8,y3⟩) ?_;refine GI 0 ?_;iterate 6
    refine GV rfl ?_;try simp only[PS]
   refine GI 6 ?_;iterate 7
    refine GU rfl (λ_ _ _ h=>nomatch h.1) ?_;try simp only[PS]
   refine GI 13 ?_;refine GV rfl ?_;try simp only[PS]
   refine zq ?_;refine⟨rfl,?_⟩;go_wp2_with fail;go_meet;exact⟨lm,rfl⟩
  refine zH ?_;refine zn 14 (λw'=>w' (b,129+k*13+7)=some (.bool true)/\w' (b,129+k*13+8)=some (.int .u64 z)/\w' (U q 3)=some (.int .u64 RL)) (⟨r7,r8,y3⟩) ?_;refine GI 0 ?_;iterate 14
   refine GV rfl ?_;try simp only[PS]
  refine zq ?_;refine⟨rfl,?_⟩;go_wp2_with fail;go_meet;exact⟨lm,rfl⟩
 case rest =>
 obtain⟨rfl,hw⟩:=hcut;obtain⟨WA,af⟩:=nn wc;subst af;subst hw;have h:=(RX.z.lK (DO.refl DQ W1).drew.drew.drew).mq o 8 lc (.int .u64 RL) { x with lG:=RL } (by rfl) rfl rfl;rw[AL 13 k]at h;have f8:=fz<|129+k*13+8;have RK:=zb h;clear h;go_upto_if 58 with fail
 go_cut [] (λd=>AA<|zA tag i b W1 V { c with rs:=ze c.rs k { x with lG:=if kb then RL else z } } tag V d)
 case first=>as_aux_lemma =>
  cases kb
  .go_wp2_with fail;go_meet;exact zb<|(RX.z.lK (DO.refl DQ W1).drew.drew.drew).same<|by rw[<-am.z];simp
  go_wp2_with fail;go_meet;exact zb<|RK.z.same lm
 case rest =>
 obtain⟨WB,aq⟩:=nn wc;subst aq;have RB:=hcut;clear hcut RK y1 T y3 r7 r8 f8 fz;have T:WB (q,2)=some (.int .u64 e):=by rw[<-ad.z];exact(X.z RB.z).cells.2.2.1
 have h:=RB.z.c.fz;obtain⟨h,l⟩:∃v,WB (b,129+k*13+7)=some v:=⟨_,by rw[AL k 13];exact RB.z.c.r (j:=7) o rfl⟩;have h:=RB.z.mq o 7 lc (.bool true) { x with lG:=if kb then RL else z,cut:=true } (by rfl) rfl rfl;have l:=h.mq o 6 lc (.bool true) { x with lG:=if kb then RL else z,cut:=true,ended:=true } (by rfl) rfl rfl;have t:=l.mq o 5 lc (.int .u64 e) { x with lG:=if kb then RL else z,cut:=true,ended:=true,fin:=e } (by rfl) rfl rfl;have p:(WB.setCell (b,129+13*k+7)<|.bool true) (q,2)=some (.int .u64 e):=by rw[<-ad.z];exact(X.z h).cells.2.2.1
 have s:((WB.setCell (b,129+13*k+7)<|.bool true).setCell (b,129+13*k+6)<|.bool true) (q,2)=some (.int .u64 e):=by rw[<-ad.z];exact(X.z l).cells.2.2.1
 have u:=h.c.fz;have z:=l.c.fz;obtain⟨B,A⟩:∃v,(WB.setCell (b,129+13*k+7)<|.bool true) (b,129+k*13+6)=some v:=⟨_,by rw[AL k 13];exact h.c.r (j:=6) o rfl⟩;obtain⟨E,B⟩:∃v,((WB.setCell (b,129+13*k+7)<|.bool true).setCell (b,129+13*k+6)<|.bool true) (b,129+k*13+5)=some v:=⟨_,by rw[AL k 13];exact l.c.r (j:=5) o rfl⟩;rw[AL 13 k]at t p s u z A B;have o:=zb (t.same (c':={ c with rs:=ze c.rs k (x.lq f) }) (by rw[aj.z]));clear h l t;go_upto_region 10 with fail;refine zH ?_;refine zn 13 (λw'=>w' (U q 2)=some (.int .u64 e)) (T) ?_;refine GI 0 ?_;iterate 7
  refine GV rfl ?_;try simp only[PS]
 refine zz 7 rfl (λK c=>?_);go_simp;go_simp;refine c.z _ _ p ?_;clear c K;try simp only[PS]
 refine GI 8 ?_;iterate 2
  refine GV rfl ?_;try simp only[PS]
 refine zz 10 rfl (λK c=>?_);go_simp;go_simp;refine c.z _ _ s ?_;clear c K;try simp only[PS]
 refine GI 11 ?_;iterate 2
  refine GV rfl ?_;try simp only[PS]
 refine zY rfl (λK c=>?_);go_simp;refine c.z _ _ ?_;clear c K;try simp only[PS]
 refine zq ?_;refine⟨rfl,?_⟩;go_wp2_with fail;go_ret;rw[ag.z];exact⟨rfl,N.z<|o.z.lK (DO.refl DQ _).drew⟩
def dP(h:zi tag i b c V W)(d:Dm tag W)(hi:0<i)(f:DV)(o:rt)(s:RR W o f.lF)(p:∀g,Value.mu o=some g->(tag g).1≠i)(ok:OV c f):rT 89 #[(b,0),.agg (zj f o)] W (EI tag i b W (.int .i64 ((c.take f).1:Int)) (c.take f).2):=by
 obtain⟨l,a,e,_,_,_⟩:=id s;subst e;unfold CS.take;by_cases q:f.kind=2
 .rw[AM q];exact dT h d hi f l _ a q rfl s p ok
 rw[AH q];by_cases e:f.kind=3
 .rw[AM e];obtain⟨k,t,c⟩:=ok.reset e;exact dQ h d hi f l _ a e k t c
 rw[AH e];by_cases p:f.kind=4
 .rw[AM p];obtain⟨k,o⟩:=ok.data p;exact dS h d hi f l _ a p k o
 rw[AH p];by_cases s:f.kind=5
 .rw[AM s];exact dV h d hi f l _ a s
 rw[AH s];by_cases o:f.kind=6
 .rw[AM o];obtain⟨k,t,c⟩:=ok.ms o;have:=dU h d hi f l f.lF.length a o k t c;rw[c];exact this
 rw[AH o];by_cases c:f.kind=7
 .rw[AM c];exact dR h d hi f l _ a c<|ok.msg c
 rw[AH c];by_cases t:f.kind=8
 .rw[AM t];exact dW h d hi f l _ a t
 rw[AH t];exact dX h d hi f l _ a q e p s o c t
def Kd(d w:rq)(c:rt)(n:Nat)(at_:Int):Prop :=
 (at_ = -1/\c=EJ n)\/∃a,c=.iface 162 (.pointer<|some ⟨a,0,none⟩)/\w.heap[a]?=some (.cells #[[n],[at_]] 167 (0,0))/\d.heap.size<=a
def NH(tag:rD)(i b:Nat)(W:rq)(n:Nat)(at_:Int)(c':CS)(e:Ending)(W':rq):Prop :=
 ∃a,e=.returned a/\Kd W W' a n at_/\Dk tag i b W c' W'
def My:List DV->CS->Prop
 | [],_=>True
 | f::fs,c=>OV c f/\((c.take f).1=0->My fs { (c.take f).2 with answer:=(c.take f).2.answer||f.kind != 2 })
def XO(h:zi tag i b c V W)(B:Dm tag W)(hi:0<i)(t:c.lQ.Ok)(lo d:Nat)(u:d<=zF){e:Ending}(o:Pj c.lQ V.g 0 lo d V.gv W e W'):e=.returned (.tuple #[])/\Dk tag i b W { c with lQ:=c.lQ.add lo d } W':=by
 obtain⟨z,rfl,A,E,l,K⟩:=o;refine⟨rfl,?_⟩;have o:∀{g r:Nat},tag g=(i,r)->g<W.heap.size:=λa=>EZ B a hi
 have v:∀g,(g=V.g\/V.gv.ownBlock=some g)->∃r,(r=2\/r=3)/\tag g=(i,r):=λg a=>by
  rcases a with a|a
  .exact⟨2,.inl rfl,by rw[a];exact h.tg⟩
  exact⟨3,.inr rfl,h.oN g a⟩
 have f:∀g,(tag g).1=i->zQ tag W W' (i,3) g=tag g:=λg a=>zD<|o (r:=(tag g).2)<|by rw[<-a]
 have hb:¬(b=V.g\/V.gv.ownBlock=some b):=λx=>by
  obtain⟨r,o,e⟩:=v b x;rw[h.tb]at e;have:=A8 Prod.snd e;simp at this;omega
 refine⟨zQ tag W W' (i,3),{ V with gv:=z },h.build (R:=λr=>r=2\/r=3) l v f (l.obj hb h.obj) (.inr ⟨?_,?_,λg a=>?_⟩) (λk p=>.inl rW) (λk p=>.inl rW) (λk p=>.inl rW) (λk p=>.inl rW) (λk p=>.inl rW) rY rV rV rV,JA l.size,l.mono<|λg a=>.inl ?_⟩
 .have N:(c.lQ.add lo d).most=c.lQ.most:=IK _ _ _;obtain⟨cs,T,q,s⟩:∃cs T q,W.heap[V.g]?=some (.cells cs T q):=by
   have:=h.lQ.cl;unfold World.cell? at this;split at this
   .rename_i o l;exact⟨_,_,_,l⟩
   cases this
  have l:W'.heap[V.g]?=some (.cells ((cs.setIfInBounds 0 z).setIfInBounds (0+1)<|.int .u64 ((c.lQ.add lo d).fl:Int)) T q):=by
   rw[E,zc (zc s)]
  have o:2<cs.size:=by
   have:=h.lQ.cm;unfold World.cell? at this;simp only[s]at this;exact(AI.1<|rB this).1
  refine⟨za l<|by rw[Cj I,DF I],za l<|by rw[DF ls],?_,A,?_,λj=>?_⟩
  .refine za l ?_;have:=h.lQ.cm;unfold World.cell? at this;simp only[s]at this;simp[BV];rw[N];simpa using this
  .have p:=t.add lo u;have:=p.rl;have:=p.most.2;show(c.lQ.add lo d).rs.length<=_;omega
  have:=h.lQ.fz j;unfold World.frozen? at this ⊢;simp only[s]at this;simp only[l];exact this
 .rw[f _ (by rw[h.tg]),h.tg]
 .rcases K g a with y|y
  .rw[f _ (by rw[h.oN g y]),h.oN g y]
  exact GM y<|zK A g a
 obtain⟨r,_,e⟩:=v g a;rw[e]
variable{m:Nat}{rs:zE}
def LP{fl n:Nat}(d:WF rs)(h:E3 rs.length (KX rs n) m):(decide (n<fl)||decide (m<rs.length)&&decide (DU rs m<=n))=Hg rs fl n:=by
 unfold Hg;congr 1;rw[Cw,<-Bool.decide_and,Ah,Wf d h,Bg];constructor
 .rintro⟨i,c,a,d⟩;refine⟨rs[i],DD c,?_⟩;have e:rs.getD i (0,0)=rs[i]:=by simp[List.getD,c]
  unfold DU at a;unfold DP at d;rw[e]at a d;simp[a,d]
 rintro⟨r,f,a⟩;obtain⟨i,c,rfl⟩:=Cs.1 f;have e:rs.getD i (0,0)=rs[i]:=by simp[List.getD,c]
 simp only[AZ,Ah]at a;refine⟨i,c,?_,?_⟩
 .unfold DU;rw[e];exact a.1
 unfold DP;rw[e];exact a.2
def XN(s:Df)(b o n:Nat)(v:rt)(w:rq)(h:Eh w b o v s.rs s.fl s.most)(a:WF s.rs):rT 87 #[(b,o),n] w (λe w'=>e=.returned (.bool (Hg s.rs s.fl n))/\DO DQ w w'):=by
 refine(cy s.rs s.fl s.most b o n v w h).mono ?_;rintro e w' ⟨m,c,rfl,hb⟩;exact⟨by rw[LP a c],DO.oz hb⟩
def LZ(w:rq):(binOp .eql 98 (.iface 57 (.int .i64 7)) (.iface 57 (.int .i64 7))).run prog w=.ok (.bool true) w:=kw
def YZ(p:Addr)(w:rq):(binOp .eql 98 (.iface 162 (.pointer (some p))) (.iface 57 (.int .i64 7))).run prog w=.ok (.bool false) w:=kw
def La(w:rq):(binOp .eql 98 .nilIface (.iface 57 (.int .i64 7))).run prog w=.ok (.bool false) w:=kw
def OR(c:CS)(bs:rC):Prop:=c.closed=0->∀n a,dec bs=.ok n a->c.lQ.Ok/\n<=zF/\(Hg c.lQ.rs c.lQ.fl n=false->My a { c with lQ:=c.lQ.add n n })
def jS(bs:rC)(h:c.closed≠0):c.lM bs=((12,-1),c):=by
 unfold CS.lM;rw[AM h]
def fX(h:zi tag i b c V W)(d:Dm tag W)(v:rt)(bs:rC)(e:c.closed≠0):rT 51 #[(b,0),v] W (NH tag i b W 12 (-1) c):=by
 have c4:=h.hd (j:=4) rfl;have hb:((c.closed:Int)==0)=false:=AR.2 I;have f:=zb<|h.left d rp;obtain⟨l,a⟩:=nm c.closed;rw[a]at c4 hb;clear h d e a;go_enter func51,ntmps51;go_wp2_with fail;go_ret;exact⟨_,rfl,.inl ⟨rfl,rfl⟩,f.z⟩
def fW(h:zi tag i b c V W)(f:Dm tag W)(v:rt)(bs:rC)(d:BR W v bs)(a:Fw W)(p:bs.length<1099511627776)(l:c.closed=0)(hd:dec bs=.sum):rT 51 #[(b,0),v] W (NH tag i b W 7 (-1) c):=by
 have e:=PX v bs W d a p;rw[hd]at e;have c4:=h.hd (j:=4) rfl;rw[l]at c4;have q:=zb h;have s:=zb f;have t:=zb e;obtain⟨c,p,rfl,_⟩:=d;clear h f l e a;go_enter func51,ntmps51;go_wp2_with fail;refine(t.z).mono ?_;rintro e a ⟨o,rfl⟩;have a:=zb o;clear o;have c:=LZ;go_wp2_with fail;go_ret;exact⟨_,rfl,.inl ⟨rfl,rfl⟩,((q.z.lK a.z).lK<|(DO.refl DQ _).alloc _).left s.z<|(a.z.alloc _).mono rm⟩
def fV(h:zi tag i b c V W)(o:Dm tag W)(hi:0<i)(v:rt)(bs:rC)(at_:Nat)(e:BR W v bs)(d:Fw W)(B:bs.length<1099511627776)(t:c.closed=0)(hd:dec bs=.bad at_):rT 51 #[(b,0),v] W (NH tag i b W 8 at_ { c with closed:=8 }):=by
 have q:=PX v bs W e d B;rw[hd]at q;have c4:=h.hd (j:=4) rfl;rw[t]at c4;have u:=zb h;have E:=zb o;have K:=zb q;have v:=EZ o h.tb hi;obtain⟨v,B,rfl,_⟩:=e;clear h o t q d;go_enter func51,ntmps51;go_wp2_with fail;refine(K.z).mono ?_;rintro e z ⟨A,l,rfl,f,s⟩;obtain⟨e,d⟩:=nm<|z.alloc<|.cells #[.int .u64 0,.slice none 0 0] 56;have h:DO DQ W e:=by rw[<-d];exact A.alloc _
 have c3:=u.z.lK h;have fz:=c3.fz 4;have o:=h.cell (a:=U b 4) id c4;have t:zi tag i b { c with closed:=8 } V (e.setCell (U b 4)<|.int .i64 8):=c3.store 4 _ (Ku _ _ _ _ _ lc rfl rfl rfl rfl) ⟨rfl,λ_ _=>⟨rfl,rfl,rfl⟩,λ_ _=>⟨rfl,rfl⟩,rfl,rfl,rfl,rfl⟩;have v:DO (λq=>q=b) W (e.setCell (U b 4)<|.int .i64 8):=DO.setCell (S:=λq=>q=b) (h.mono rm) (p:=U b 4) rj _;have a:e.heap[l]?=some (.cells #[.int .i64 8,[at_]] 167 (0,0)):=by
  have:DO DQ z e:=by rw[<-d];exact rp.alloc _
  exact this.obj rk f
 have c:(e.setCell (b,4)<|.int .i64 8).heap[l]?=some (.cells #[.int .i64 8,[at_]] 167 (0,0)):=((DO.refl (λq=>q=b) e).setCell (p:=U b 4) rj _).obj (by show ¬l=b;omega) a;have p:=zb c;have e:=zb s;have q:=zb<|t.left E.z<|u.z.o5 v;have o:=zb d;clear A f h c3 t v a c d;have a:=YZ;go_upto_region 4 with fail;rw[o.z];go_wp2_with fail;go_ret;exact⟨_,rfl,.inr ⟨l,rfl,p.z,e.z⟩,q.z⟩
variable{X w1:rq}{c2:CS}
def PJ{a:rq}(hi:0<i)(c:Di i tag ky W w1)(m1:DO (λg=>(tag g).1=i) W w1)(d:DO DQ w1 X)(e:Dk ky i b X c2 a):Dk tag i b W c2 a:=by
 obtain⟨tag2,f,a,h,l⟩:=e.mG c.z hi d;refine⟨tag2,f,a,c.trans h m1.size,m1.then l<|λg a=>?_⟩;by_cases q:g<W.heap.size
 .exact .inl (by rw[<-c.mL g q];exact a)
 exact .inr I
variable{c':CS}
def Ra(h:Dk tag i b W c W')(hi:0<i)(j:Nat)(v:rt)(e:∀V,(zx c V).set j v=zx c' V)(s:JC c c'):Dk tag i b W c' (W'.setCell (b,j) v):=by
 obtain⟨ky,c,d,a,f⟩:=h;have m:DO (λq=>q=b) W' (W'.setCell (b,j) v):=(DO.refl (λq=>q=b) _).setCell (p:=(b,j)) rj _;refine⟨ky,c,d.store j v (e c) s,⟨a.mL,a.new,a.z.mod m⟩,f.then m<|λg c=>?_⟩;have c:=c;by_cases q:g<W.heap.size
 .exact .inl (by rw[<-a.mL g q,c,d.tb])
 exact .inr I
variable{fs:List DV}
def XM{n:Nat}(a:c.closed=0)(hd:dec bs=.ok n fs):c.lM bs=if Hg c.lQ.rs c.lQ.fl n then((0,-1),c)else(((CS.lk fs { c with lQ:=c.lQ.add n n }).1,-1),(CS.lk fs { c with lQ:=c.lQ.add n n }).2):=by
 unfold CS.lM;rw[AH I,hd]
def fU(h:(c.take f).1=0):CS.lk (f::fs) c=CS.lk fs { (c.take f).2 with answer:=(c.take f).2.answer||f.kind != 2 }:=by
 rw[CS.lk,AH (by rw[h];simp)]
def fT(h:(c.take f).1≠0):CS.lk (f::fs) c=((c.take f).1,{ (c.take f).2 with closed:=(c.take f).1,said:=(c.take f).1==13 }):=by
 rw[CS.lk,AM h]
theorem fS(h:zi tag i b c V W)(ht:Dm tag W)(hi:0<i)(v:rt)(bs:rC)(n:Nat)(p:List DV)(au:BR W v bs)(ae:Fw W)(hl:bs.length<1099511627776)(hc:c.closed=0)(hd:dec bs=.ok n p)(ok:OR c bs)(aR:p.length<=1099511627776):rT 51 #[(b,0),v] W (NH tag i b W (c.lM bs).1.1 (c.lM bs).1.2 (c.lM bs).2):=by
 have kd:=PX v bs W au ae hl;rw[hd]at kd;obtain⟨o1,o2,o3⟩:=ok hc n p hd;rw[XM hc hd];have c4:=h.hd (j:=4) rfl;rw[hc]at c4;obtain⟨hb,ah⟩:=nm<|Hg c.lQ.rs c.lQ.fl n;rw[ah]at o3 ⊢;obtain⟨R,hR⟩:∃o,(if hb=true then((0,-1),c)else(((CS.lk p { c with lQ:=c.lQ.add n n }).1,-1),(CS.lk p { c with lQ:=c.lQ.add n n }).2):(Nat×Int)×CS)=o:=⟨_,rfl⟩;rw[hR];have HR:=zb hR;clear hR;have HH:=zb h;have HT:=zb ht;have z:=zb hi;have KD:=zb kd;have O1:=zb o1;have O2:=zb o2;have O3:=zb o3;have aS:=zb ah;have q2:=o2;unfold zF at q2;obtain⟨va,vc,rfl,_⟩:=au;clear h ht hc kd ae ok hd o1 o2 o3 ah;go_enter func51,ntmps51;go_wp2_with fail;refine(KD.z).mono ?_;rintro e W2 ⟨m2,h,Y,rfl,q,E,ai,av⟩;obtain⟨fa,fc,rfl,q3,q4,_⟩:=zk q.1;have aj:Y.length=p.length:=by rw[<-E,BD]
 obtain⟨N,hN⟩:=nm p.length;rw[hN]at aR;rw[aj,hN]at q ai q3 ⊢;unfold maxLen at q4;obtain⟨W3,h⟩:=nm<|W2.alloc<|.cells #[n,.slice fa N fc] 56;have m3:DO DQ W W3:=by rw[<-h];exact m2.alloc _
 have ak:=AB h;have oP:=AD h;obtain⟨B,ab⟩:=nm W2.heap.size;rw[ab]at oP;have p0:=za (o:=0) oP rfl;have p1:W3 (B,1)=some (.slice fa N fc):=za (o:=1) oP rfl;have h3:=HH.z.lK m3;have c7:=h3.hd (j:=7) rfl;have kh:=XN c.lQ V.g 0 n V.gv W3.drew (h3.lQ.mod (DO.refl DQ W3).drew rk<|λ_ _ x=>x) O1.z.wf;rw[aS.z]at kh;have af:W.heap.size<=B:=by rw[<-ab];exact m2.size
 have l:=(GY.qA q).lK ak;have KH:=zb kh;have H3:=zb h3;have O:=zb m3;have aT:=zb ak;have aw:=zb l;have aU:=zb ai;have ax:=zb av;have aV:=zb<|λx hx g hg=>zK (q.2 x hx).1 g hg;have aW:=zb E;have aX:=zb aj;have HN:=zb hN;have aY:=zb h;have aZ:=zb ab;have a0:=zb af;have hE:=La;clear m2 m3 ak oP h3 kh af l q ai av E aj hN h ab;go_upto_region 9 with fail;rw[aY.z,aZ.z];refine zH ?_;refine zn 8 (λw'=>w' (U b 7)=some (.pointer V.g)/\w' B=some (.int .u64 n)) (⟨c7,p0⟩) ?_;refine GI 0 ?_;iterate 6
  refine GV rfl ?_;try simp only[PS]
 refine zz 6 rfl (λK hK=>?_);go_simp;go_simp
 with_reducible refine(KH.z).mono ?_
 rintro e u ⟨rfl,m4⟩;have M4:=zb m4;have h:u (b,7)=some (.pointer V.g)/\u B=some (.int .u64 n):=⟨m4.cell (a:=U b 7) id c7,m4.cell (a:=B) id p0⟩;clear m4;go_simp;refine hK.z _ _ h ?_;clear h;clear hK K;try simp only[PS]
 refine GI 7 ?_;refine GV rfl ?_;try simp only[PS]
 refine zq ?_;refine⟨rfl,?_⟩;cases hb with
 | true =>
  go_wp2_with fail;go_ret;rw[<-HR.z];simp only[A9];exact⟨_,rfl,.inl ⟨rfl,rfl⟩,(H3.z.lK<|(DO.refl DQ W3).drew.trans M4.z).left HT.z<|(O.z.trans<|(DO.refl DQ W3).drew.trans M4.z).mono rm⟩
 | false =>
 have h:=(DO.refl DQ W3).drew.trans M4.z;have E:=H3.z.lK h;have ay:=HT.z.mod<|O.z.trans h;have hm:=O1.z.most;have az:=O1.z.rl;have q:=O1.z.fl;unfold zF at q;have aA:V.gv.ownBlock≠some V.g:=λe=>by
  have h5:=E.oN V.g e;rw[E.tg]at h5;have:=A8 Prod.snd h5;simp at this
 have ka:=Ks c.lQ V.g 0 n n V.gv u.drew (E.lQ.mod (DO.refl DQ u).drew rk<|λ_ _ x=>x) O1.z.wf I I I aA hm.1 I;have aB:=ka.mono<|λe w' x=>XO (E.lK (DO.refl DQ u).drew) (ay.mod (DO.refl DQ u).drew) z.z O1.z n n O2.z x;have KA:=zb aB;have d7:=h.cell (a:=U b 7) id c7;have d0:=h.cell (a:=B) id p0;have d1:=h.cell (a:=U B 1) id p1;have d:=zb h;clear ka aB E ay hm az q aA h p0 p1 c7 c4 hE;go_upto_region 11 with fail;refine zH ?_;refine zn 8 (λw'=>w' (U b 7)=some (.pointer V.g)/\w' B=some (.int .u64 n)) (⟨d7,d0⟩) ?_;refine GI 0 ?_;iterate 8
  refine GV rfl ?_;try simp only[PS]
 refine zY rfl (λK hK=>?_);go_simp
 with_reducible refine(KA.z).mono ?_
 rintro e W5 ⟨rfl,l5⟩;have E:=zb l5;clear l5;go_simp;refine hK.z _ _ ?_;clear hK K;try simp only[PS]
 refine zq ?_;refine⟨rfl,?_⟩;have h:=HT.z B a0.z;have K:W5 (B,1)=some (.slice fa N fc):=by
  obtain⟨T,V5,_,_,q⟩:=E.z;exact q.cell (a:=U B 1) (by
   show ¬(tag B).1=i;rw[h];have:=z.z;simp;omega) d1
 have h:=zb h;clear d7 d0 d1;go_wp2_with fail;obtain⟨c0,h⟩:∃o,({ c with lQ:=c.lQ.add n n }:CS)=o:=⟨_,rfl⟩;have aC:=zb (by
  have:=HR.z;rw[AH lm,h]at this;exact this.symm)
 have q:=zb<|O3.z trivial;rw[h]at E q;clear HR O3 h;have c:=E.z.mG (W:=u) (HT.z.mod<|O.z.trans d.z) z.z (DO.refl DQ u).drew;have h:=zb c;have B:=zb<|AK O.z.size d.z.size;have aD:=zb<|AK aT.z.size d.z.size;have B:=zb<|HT.z.mod<|O.z.trans d.z;have a1:=zb<|aw.z.lK d.z;clear c E aw
 go_loopw [53] (λc wr=>∃(k:Nat) (c':CS),k<=N/\c=.int .i64 k/\AA (Dk tag i b u c' wr/\CS.lk (p.drop k) c'=CS.lk p c0/\My (p.drop k) c')) (λc _=>N-(intOf c).toNat)
 case atStart=>exact⟨0,c0,AN _,rfl,zb ⟨h.z,lm,rB q.z⟩⟩
 case round =>
  clear h q K;obtain⟨k,c1,c,rfl,HQ⟩:=hrel;by_cases aE:k<N
  .obtain⟨ag,c,h1,e1,m1⟩:=HQ.z.1;have ac:∀g,W.heap.size<=g->(tag g).1≠i:=λg hg x=>by
    rw[HT.z g hg]at x;have:=z.z;simp at x;omega
   have l:=a1.z.mod m1 (λg o n' c' e x=>by
    cases e;exact ac g (aU.z g rfl) x) (λh A g o n' c' e x=>ac g (ax.z h A g<|by rw[e];rfl) x)
   obtain⟨o,c,aF,_,_,aG⟩:=l;have aH:k<Y.length:=by rw[aX.z,HN.z];exact aE
   obtain⟨⟨f,rv⟩,A⟩:∃h,Y[k]?=some h:=⟨Y[k],AJ aH⟩;have al:p[k]?=some f:=by rw[<-aW.z,Bc,A];rfl
   obtain⟨⟨h,o2,a2,am⟩,X⟩:=aG k (f,rv) A;have a3:o=fa/\c=fc:=by cases aF;exact rZ
   obtain⟨rfl,rfl⟩:=a3;subst a2;simp only at am X;have Z:=AW A;have aI:∀g,Value.mu rv=some g->(ag g).1≠i:=λg hg=>by
    have aJ:rv.ownBlock=some g:=by
     obtain⟨ra,rc,e,_⟩:=id X;subst e;cases ra with
     | none=>cases hg
     | some a=>exact hg
    have h5:=ax.z (f,rv) Z g aJ;have h6:=aV.z (f,rv) Z g aJ;rw[e1.mL g (A7 h6 aD.z)];exact ac g h5
   obtain⟨x0,x1,x2,x3,x4,x5,x6,x7,x8,x9⟩:=Ji am;obtain⟨ra,rc,aK,_⟩:=id X;subst aK;have B:p.drop k=f::p.drop (k+1):=by
    have a:k<p.length:=by rw[HN.z];exact aE
    rw[CH a];rw[AJ a]at al;rw[Bt al]
   have c:=HQ.z.2.1;have a:=HQ.z.2.2;rw[B]at c a;obtain⟨E,K⟩:=a;obtain⟨Y,a⟩:=nm<|wr.alloc<|.cells (zj f<|.slice ra f.lF.length rc) 65;have T:=AB a;have a4:=AC a;have aL:zl Y wr.heap.size f (.slice ra f.lF.length rc):=by rw[<-a];exact heap_alloc_new wr _
   have ka:=dP (h1.lK T) (e1.z.mod T) z.z f (.slice ra f.lF.length rc) (X.mod T<|Dj.no _) aI E;have aM:=e1.z _ ro;obtain⟨y0,y1,y2,y3,y4,y5,y6,y7,y8,y9⟩:=aL.cells;have aa:AA (∀W6 c2,Dk ag i b Y c2 W6->Dk tag i b u c2 W6/\W6.heap[wr.heap.size]?=Y.heap[wr.heap.size]?):=zb (λW6 c2 l=>⟨PJ z.z e1 m1 T l,by
    obtain⟨aN,V6,_,_,m6⟩:=l;refine m6.block _ I<|λx=>?_;rw[aM]at x;have:=z.z;simp at x;omega⟩)
   obtain⟨l,h⟩:=nm wr.heap.size;rw[h]at aa y0 y1 y2 y3 y4 y5 y6 y7 y8 y9;obtain⟨RL,Y⟩:=nm f.lF.length;rw[Y]at x9 a y9 ka;obtain⟨KD,l⟩:=nm f.kind;unfold zj at a ka;rw[l]at x0 y0 a ka;obtain⟨s,o⟩:=nm<|(c1.take f).1;obtain⟨t,q⟩:=nm<|(c1.take f).2;rw[o,q]at ka;have KA:=zb ka;have aO:=zb l;have ad:=zb o;have ao:=zb q;have ap:=zb c;have aP:=zb K;have HY:=zb a;have f:=zb h;clear aG A am X T a4 aL ka aM aI Z al aF E K c a h Y l o q h1 e1 m1 ac aH B;go_upto_region 15 with fail;rw[HY.z,f.z];go_wp2_with fail;refine(KA.z).mono ?_;rintro e W6 ⟨rfl,l6⟩;obtain⟨c,a⟩:=aa.z W6 t l6;have e:=(World.cell?_of_block a).trans y0;obtain⟨aN,V6,h6,e,m6⟩:=id c;have L7:=zb c;clear KA aa l6 c a x0 x1 x2 x3 x4 x5 x6 x7 x8 x9 y0 y1 y2 y3 y4 y5 y6 y7 y8 y9 e m6;by_cases hz:s=0
   .subst hz;obtain⟨an,a⟩:=nm t.answer;have c:W6 (b,8)=some (.bool an):=by rw[<-a];exact h6.hd (j:=8) rfl
    have c:=h6.fz 8;have aq:AA (∀x:Bool,Dk tag i b u { t with answer:=x }<|W6.setCell (U b 8)<|.bool x):=zb<|λx=>Ra L7.z z.z 8 _ (λV=>Ku t { t with answer:=x } V V (j:=8) _ lc rfl rfl rfl rfl) ⟨rfl,λ_ _=>⟨rfl,rfl,rfl⟩,λ_ _=>⟨rfl,rfl⟩,rfl,rfl,rfl,rfl⟩;have ar:AA (∀x:Bool,x=(an||KD != 2)->CS.lk (p.drop<|k+1) { t with answer:=x }=CS.lk p c0/\My (p.drop<|k+1) { t with answer:=x }):=zb (λx hx=>by
     have h5:=ap.z;have c:=aP.z ad.z;rw[fU ad.z,ao.z,a,aO.z,<-hx]at h5;rw[ao.z,a,aO.z,<-hx]at c;exact⟨h5,c⟩)
    clear h6 a aP ap;cases an with
    | true =>
     go_wp2_with fail;go_roundw
     case rel=>exact⟨k+1,{ t with answer:=true },I,by go_num,zb ⟨aq.z true,ar.z true lm⟩⟩
     simp[intOf];omega
    | false =>
     by_cases aQ:KD=2
     .subst aQ;go_wp2_with fail;go_roundw
      case rel=>exact⟨k+1,{ t with answer:=false },I,by go_num,zb ⟨aq.z false,ar.z false lm⟩⟩
      simp[intOf];omega
     have a:(KD==2)=false:=rB aQ;go_wp2_with fail;go_roundw
     case rel=>exact⟨k+1,{ t with answer:=KD != 2 },I,by go_num,zb ⟨aq.z<|KD != 2,ar.z (KD != 2) lm⟩⟩
     simp[intOf];omega
   have a:((s:Int)==0)=false:=by rw[AR];omega
   have c4:∃v,W6 (b,4)=some v:=⟨_,h6.hd (j:=4) rfl⟩;obtain⟨a,c4⟩:=c4;have a:=h6.fz 4;have c:=Ra L7.z z.z 4 (.int .i64 s) (c':={ t with closed:=s }) (λV=>Ku t { t with closed:=s } V V (j:=4) _ lc rfl rfl rfl rfl) ⟨rfl,λ_ _=>⟨rfl,rfl,rfl⟩,λ_ _=>⟨rfl,rfl⟩,rfl,rfl,rfl,rfl⟩;obtain⟨a,f,e,_,_⟩:=id c;obtain⟨a,f⟩:∃v,(W6.setCell (U b 4)<|.int .i64 s) (U b 5)=some v:=⟨_,e.hd (j:=5) rfl⟩;have a:=e.fz 5;have f:=Ra c z.z 5 (.bool<|s==13) (c':={ t with closed:=s,said:=s==13 }) (λV=>Ku _ _ V V (j:=5) _ lc rfl rfl rfl rfl) ⟨rfl,λ_ _=>⟨rfl,rfl,rfl⟩,λ_ _=>⟨rfl,rfl⟩,rfl,rfl,rfl,rfl⟩;have h:=zb f;have a:AA (R=((s,-1),{ t with closed:=s,said:=s==13 })):=zb (by
    rw[aC.z,<-ap.z,fT<|by rw[ad.z];exact hz,ad.z,ao.z])
   have l:=zb hz;clear h6 e c f hz;by_cases e:s=13
   .have f:((s:Int)==13)=true:=by rw[Ce];omega
    have c:(s==13)=true:=rB e;rw[c]at h a;clear e c;go_wp2_with fail;go_ret;rw[a.z];exact⟨_,rfl,.inl ⟨rfl,by rw[JD l.z];rfl⟩,PJ z.z (Di.same HT.z<|O.z.trans d.z) ((O.z.trans d.z).mono rm) (DO.refl DQ u) h.z⟩
   have f:((s:Int)==13)=false:=by rw[AR];omega
   have c:(s==13)=false:=rB e;rw[c]at h a;clear e c;go_wp2_with fail;go_ret;rw[a.z];exact⟨_,rfl,.inl ⟨rfl,by rw[JD l.z];rfl⟩,PJ z.z (Di.same HT.z<|O.z.trans d.z) ((O.z.trans d.z).mono rm) (DO.refl DQ u) h.z⟩
  have c:k=N:=I;have a:AA (R=((0,-1),c1)):=zb (by
   rw[aC.z,<-HQ.z.2.1,B9 (by rw[HN.z];omega)];rfl)
  clear c;go_wp2_with fail;go_ret;rw[a.z];exact⟨_,rfl,.inl ⟨rfl,rfl⟩,PJ z.z (Di.same HT.z<|O.z.trans d.z) ((O.z.trans d.z).mono rm) (DO.refl DQ u) HQ.z.1⟩
theorem jb(h:zi tag i b c V W)(o:Dm tag W)(hi:0<i)(v:rt)(bs:rC)(d:BR W v bs)(a:Fw W)(q:bs.length<1099511627776)(ok:OR c bs)(s:∀n f,dec bs=.ok n f->f.length<=1099511627776):rT 51 #[(b,0),v] W (NH tag i b W (c.lM bs).1.1 (c.lM bs).1.2 (c.lM bs).2):=by
 by_cases l:c.closed=0
 .cases hd:dec bs with
  | sum =>
   have e:c.lM bs=((7,-1),c):=by unfold CS.lM;rw[AH I,hd]
   rw[e];exact fW h o v bs d a q l hd
  | bad p =>
   have e:c.lM bs=((8,(p:Int)),{ c with closed:=8 }):=by unfold CS.lM;rw[AH I,hd]
   rw[e];exact fV h o hi v bs p d a q l hd
  | ok n f=>exact fS h o hi v bs n f d a q l hd ok<|s n f hd
 rw[jS bs l];exact fX h o v bs l
def XL{f:rq}{a:rt}{n:Nat}{at_:Int}(h:Kd f w a n at_)(c:E7 w):rT 43 #[a] w (MI w (n:Int) at_):=by
 rcases h with⟨rfl,rfl⟩|⟨l,rfl,d,_⟩
 .by_cases e:n=0
  .subst e;exact Qo w
  rw[JD e];exact P9 (n:Int) w c
 exact Sg l (n:Int) at_ w c (za d rfl)<|za d rfl
def Kd.shape{c:rq}{a:rt}{n:Nat}{at_:Int}(h:Kd c w a n at_):a=.nilIface\/∃t u,a=.iface t u:=by
 rcases h with⟨_,rfl⟩|⟨a,rfl,_⟩
 .unfold EJ;split
  .exact .inl rfl
  exact .inr ⟨_,_,rfl⟩
 exact .inr ⟨_,_,rfl⟩
variable{S:Nat->Prop}{w':rq}
def Kd.mod{a:rq}{c:rt}{n:Nat}{at_:Int}(h:Kd a w c n at_)(m:DO S w w')(e:∀g,S g->g<a.heap.size):Kd a w' c n at_:=by
 rcases h with h|⟨d,rfl,f,l⟩
 .exact .inl h
 exact .inr ⟨d,rfl,m.obj (λx=>pp<|e d x) f,l⟩
def ja(h:zi tag i b c V W)(E:D0 i tag W)(s:rC)(K:s.length<1099511627776)(ok:OR c s)(l:∀n o,dec s=.ok n o->o.length<=1099511627776):rT 28 #[(b,0),.string (zu s)] W (EI tag i b W (.tuple #[.int .i64 ((c.lM s).1.1:Int),.int .i64 (c.lM s).1.2]) (c.lM s).2):=by
 obtain⟨o,W1,N,a,q,t,u⟩:=RF W s I;have O:=jb (h.lK q) (E.ok.mod q) E.pos _ s a (E.lK q).tab K ok l;have T:s.length<=o/\o<=maxLen:=by
  obtain⟨_,_,e,X,A,_⟩:=a;cases e;exact⟨X,A⟩
 obtain⟨o,e⟩:=T;unfold maxLen at e;have d:=zb E;have M1:=zb q;have HB:=zb u;have HS:=zb t;obtain⟨R,e⟩:=nm<|c.lM s;rw[e]at O ⊢;have K1:=zb O;clear h E a q u t ok l O;go_enter func28,ntmps28;go_wp2_with fail;refine(K1.z).mono ?_;rintro _ W2 ⟨a,rfl,v,Y⟩;clear K1;obtain⟨ky,a,X,A,c⟩:=id Y;have e:=(d.z.lK M1.z).left A c;have a:=HB.z.mod c (λx=>by
  have:=d.z.ok W.heap.size ro;rw[this]at x;have:=d.z.pos;simp at x;omega)
 have HL:=zb Y;have Z:=zb a;have z:=zb v;have aa:=zb e;clear Y X A c e a N v;rcases z.z.shape with rfl|⟨a,c,rfl⟩;all_goals
  go_wp2_with fail
  go_loopw [16] (λa wr=>∃j:Nat,j<=s.length/\a=.int .i64 j/\AA (H8 wr W.heap.size s.length/\DO (λg=>g=W.heap.size) W2 wr)) (λa _=>s.length-(intOf a).toNat)
  case atStart=>exact⟨0,AN _,rfl,zb ⟨Z.z,DO.refl _ _⟩⟩
  case round =>
   obtain⟨j,a,rfl,f⟩:=hrel;by_cases a:j<s.length
   .obtain⟨⟨c,e⟩,h⟩:=f.z.1.cell a;have a:=zb<|f.z.1.set j<|.int .u8 33;have c:=zb<|f.z.2.setCell (p:=(W.heap.size,j)) rj<|.int .u8 33;go_wp2_with fail;go_roundw
    case rel=>exact⟨j+1,I,by go_num,zb ⟨a.z,c.z⟩⟩
    simp[intOf];omega
   have a:∀g,g=W.heap.size->g<W1.heap.size:=λg B=>by rw[B,HS.z];omega
   have c:=XL (z.z.mod f.z.2 a) (aa.z.err.mod f.z.2 (λx=>by
    have x:=x;have:=d.z.tab.lt;omega))
   have e:=zb c;clear c a;go_wp2_with fail;refine(e.z).mono ?_;rintro _ a ⟨rfl,m4⟩;have H:=zb ((HL.z.thenS d.z.ok d.z.pos M1.z f.z.2 (λg B=>by
    have B:=B;have:=HS.z;omega)).mf m4)
   clear m4;go_wp2_with fail;go_ret2;exact⟨rfl,H.z⟩
end
end Go.Proofs.YtddfdpbaiedcjaaGreatDoor
