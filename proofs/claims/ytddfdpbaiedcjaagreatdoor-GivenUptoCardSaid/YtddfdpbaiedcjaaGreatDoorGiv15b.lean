/- A part of Given's proof. Conditions: none. Part 15 of 15. -/
import Derived.Test.YtddfdpbaiedcjaaGreatDoorGiv15
set_option maxRecDepth 100000
set_option maxHeartbeats 16000000
set_option linter.all false
namespace Go.Proofs.YtddfdpbaiedcjaaGreatDoor
section
open Go.RowKit Go.Proofs.Tryz
variable{M:NV}{W w:rq}{n:NS}{nb t:Nat}{tag:rD}
def gD{a f:NS}{e:Nat}(q:OZ n a f t e)(h:DZ w tag nb a M W)(v:e+t*lR+12*lR+1<=Db):rT 19 #[(nb,0)] W (λe W'=>e=.returned (.bool true)/\∃n',zw w tag nb W n' W'):=by
 have a:=AK (Bv _) v;have z:=Q4 h q.inv1 q.qw (t:=12) a;rw[q.quiet]at z;have e:=q.inv2;have t:=q.qv;have A:=e.flush a (I:0<2);have B:=NS.Up.flush a e t (I:0<2);have d:AA (∀tag M W,DZ w tag nb f M W->rT 22 #[(nb,0),.int .i64 0] W (EX w tag nb W<|f.flush 0)):=zb λtag M W h=>PP h e a t (i:=0) I
 have c:AA (∀tag M W,DZ w tag nb (f.flush 0).2 M W->rT 22 #[(nb,0),.int .i64 1] W (EX w tag nb W<|(f.flush 0).2.flush 1)):=zb λtag M W h=>PP h A v B (i:=1) I
 have f0:=q.f0;have l:=q.f1;have o:=q.lP;clear q h e t A B v a;obtain⟨a,p⟩:=nm<|f.flush 0;rw[p]at d c f0 l o;obtain⟨f,e⟩:=a;obtain⟨a,s⟩:=nm<|e.flush 1;simp only at c f0 l o;rw[s]at c l o;obtain⟨e,E⟩:=a;simp only at l o;subst f0 l;clear p s;go_enter func19,ntmps19;go_upto_region 2 with(go_at_call 17;refine z.mono ?_;rintro _ W1 ⟨rfl,a,e,K,N,O⟩);have T:=d.z _ _ _ K;have X:=zb N;have Y:=zb O;clear z K N O d;go_upto_region 5 with(go_at_call 22;refine T.mono ?_;rintro _ W2 ⟨rfl,t2,a,Z,o2,m2⟩);have k1:=c.z _ _ _ Z;have X2:AA (∀n' W',zw w t2 nb W2 n' W'->zw w tag nb W n' W'):=zb λn' W' l=>zw.trans X.z Y.z<|zw.trans o2 m2 l
 clear T Z o2 m2 c X Y;go_upto_region 6 with(go_at_call 22;refine k1.mono ?_;rintro _ W3 ⟨rfl,t3,M3,u,o3,m3⟩);obtain⟨c,d,a,-⟩:=zk u.o.bg.own;have c:W3 (nb,8)=some M3.bg:=u.o.obj.cell (j:=8) rfl;rw[a,o]at c;have c:=zb<|X2.z E W3 ⟨t3,M3,u,o3,m3⟩;clear k1 u o3 m3 X2 a;go_wp2_with fail;go_ret;exact⟨rfl,E,c.z⟩
def ia(d:List Int)(l:List Dh)(a b c:Int)(e:l.length<=8192)(o:Q2 d l):∃n' f h,NS.mv d l (NS.build a b c)=some n'/\n'.Inv 3284992/\n'.Up/\OZ n' f h n'.mD 3284992:=by
 have e:=zU a 337 I;have e:=zU b 300 I;obtain⟨n',e,s,i,k⟩:=Va d l (T:=0) (B:=3284992) o (NS.Safe.new ⟨I,I⟩) (NS.Inv.build a b c) (NS.Links.new I) I lc;obtain⟨f,h,q⟩:=iO s i k;exact⟨n',f,h,e,i,s.up,q⟩
structure R8(w:rq)(nb:Nat)(n:NS)(e:Nat):Prop where
 mD:∀tag M W,DZ w tag nb n M W->rT 16 #[(nb,0)] W (λx W'=>x=.returned (.int .i64 e)/\DO DQ W W')
 fair:∀tag M W W',DZ w tag nb n M W->DO DQ W W'->rT 17 #[(nb,0),[e]] W' (λx W'=>x=.returned (.bool true)/\DO DQ w W'/\rT 18 #[.pointer nb] W' (λx W2=>x=.returned (.bool true)/\DO DQ w W2/\rT 19 #[.pointer nb] W2 (λx W3=>x=.returned (.bool true)/\DO DQ w W3)))
def Xc{a e:NS}(hI:n.Inv 3284992)(f:n.Up)(q:OZ n a e n.mD 3284992):R8 w nb n n.mD:=by
 have d:3284992+n.mD*lR+12*lR+1<=Db:=by
  have:=(Qy hI).2.2;have:n.mD*lR<=6206*lR:=Bm _ this;unfold lR Db at *;omega
 have a:3284992+n.mD*lR<=Db:=AK I d;refine⟨λtag M W h=>iN h hI,λtag M W W' h m=>?_⟩;have l:=h.free m rm;have e:=Q4 l hI f a;rw[q.fair]at e;refine e.mono ?_;rintro _ W1 ⟨rfl,a,e,c,_,_⟩;refine⟨rfl,c.mod,(jr c q.inv1 q.po).mono ?_⟩;rintro _ a ⟨rfl,o⟩;have a:=c.free o rm;refine⟨rfl,a.mod,(gD q a d).mono ?_⟩;rintro _ a ⟨rfl,n',c,d,p,_⟩;exact⟨rfl,p.mod⟩
variable{T:Nat}
def iZ(h:DZ w tag nb n M W)(hI:n.Inv T)(hT:T<=Db){s:Dh}(hs:s.Ok)(hk:s.kind=3):rT 21 #[(nb,0),.agg s.cells] W (EX w tag nb W (n.reset (DR s.side 2) (DR s.a 8) s.b)):=by
 obtain⟨W1,sb,i,k,e,q,aa,c,Z,m1,E,B,v,f,ab,ac,ad,an,b1,⟨b2,b3⟩,b4⟩:=Jp h hs;have c:=hs.s;rw[ab];rw[ac];obtain⟨g,O,q,e,a1,⟨a2,a3⟩,a4,⟨a5,a6⟩,a7⟩:=Z.o.ny (i:=i) (k:=k) v f;obtain⟨c0,c1,c2,c3,c4⟩:=E;rw[hk]at c0;obtain⟨e,q⟩:=nm s.s;rw[q]at c4 c;have z:=zb aa;have O:=Z.o.oH (i:=i) (k:=k) v f;have T:=(hI.e i v k f).wl;have hb:=hs.b;have ae:∀k,k<8->(n i k).b.length<=1099511627776/\(n i k).high<=zF:=λk hk=>by
  have w:=(hI.c i v).ws k hk;have:=w.len;have:=w.high;unfold zF;omega
 have hq:=zU s.b ((n.e i k).wrote.length+1)<|Nat.succ_pos _;have c:∀E,rT 24 #[[s.b],.int .i64 ((n.e i k).wrote.length+1:Nat)] E (λe w'=>e=.returned (.int .i64 (DR s.b ((n.e i k).wrote.length+1):Int))/\E=w'):=λE=>H4 s.b _ E hb.1 hb.2 (Nat.succ_pos _) I
 unfold NS.reset NS.nk;obtain⟨u,af⟩:=nm<|DR s.b<|(n.e i k).wrote.length+1;rw[af]at hq c ⊢;have N:=iC ((Z.cn i v).lK<|(DO.refl DQ W1).drew) ((Z.env.to (j:=i+1) I).lK<|(DO.refl DQ W1).drew) (k:Int) (u:Int) ae;obtain⟨R,hR⟩:=nm<|(n i).reset k u;rw[hR]at N ⊢;obtain⟨cd,c'⟩:=R;simp only at N ⊢;obtain⟨o,ho⟩:=nm<|n.e i k;rw[ho]at O T hq c ⊢;have HO:=zb ho;obtain⟨x0,-,-,-,-,-,-⟩:=O;obtain⟨wl,O⟩:=nm o.wrote.length;have ao:(zu o.wrote).size=wl:=by rw[<-O];exact zG o.wrote
 rw[O]at T hq c;obtain⟨ow,ag⟩:=nm o.wrote;rw[ag]at x0 ao;obtain⟨sc,T⟩:=nm s.b;rw[T]at c3 c;have s:=wi ((wl:Int)+1) I;have c:∀E,rT 24 #[[sc],.int .i64 ((wl:Int)+1)] E (λe w'=>e=.returned (.int .i64 u)/\E=w'):=c;have ah:=zb c;obtain⟨RR,e⟩:∃RR:Bool×NS,(cd==0,(n.lS i c').nC i k { o with lG:=if !o.cut||decide (u<o.lG)then u else o.lG,cut:=true })=RR:=⟨_,rfl⟩;rw[e];have ai:=zb e;clear e c af O ag hb ae;have HN:=zb<|Z.free ((DO.refl DQ W1).drew) rm;have aj:=zb<|m1.trans<|(DO.refl DQ W1).drew;have q0:((cd:Int)==0)=(cd==0):=Gj cd 0;unfold Dh.cells at z ⊢;rw[hk,q,T]at z ⊢;clear q T h hI Z m1 aa hs hk ab ac hR ho hT;go_enter func21,ntmps21;go_upto_region 1 with fail;rw[z.z];go_upto_region 24 with(first|(go_at_call 24;refine ad.mono ?_;rintro _ _ ⟨rfl,rfl⟩;clear ad)|(go_at_call 24;refine an.mono ?_;rintro _ _ ⟨rfl,rfl⟩));refine zn 10 (λw'=>w' (U sb 3)=some (.int .i64 sc)/\w' (U (M.eb i k) 0)=some (.string<|zu ow)) (⟨c3,x0⟩) ?_;refine GI 0 ?_;iterate 8
  refine GV rfl ?_;try simp only[PS]
 refine zz 8 rfl (λK hK=>?_);go_simp;refine(ah.z _).mono ?_;rintro _ _ ⟨rfl,rfl⟩;refine hK.z _ _ ⟨c3,x0⟩ ?_;clear hK K;try simp only[PS]
 refine GI 9 ?_;refine GV rfl ?_;try simp only[PS]
 refine zq ?_;have ak:=zb N;clear N;have N:=ak.z;go_upto_region 26 with(go_at_call 39;refine N.mono ?_;rintro _ d ⟨rfl,hL⟩);obtain⟨ky,c,e,q,m2⟩:=HN.z.conn v hL;have s:=e.o.oH v f;have c:=m2.cell (a:=U sb 4) (λx=>by
  have x:(tag sb).1=i+1:=x;rw[B]at x;simp at x) c4
 have c:(n.lS i c').e i k=o:=HO.z;rw[c]at s;obtain⟨s,e1,e2,e3,e4,e5,O⟩:=s;obtain⟨S,T⟩:=nm<|n.lS i c';rw[T]at e c;have h:∀{n':NS} {W':rq},zw w ky nb d n' W'->zw w tag nb W n' W':=λE=>zw.mG aj.z<|zw.trans q (m2.mono<|λg X=>.inl<|λx=>by rw[x]at X;simp at X) E
 have K:AA (∀W',DO DQ d W'->zw w tag nb W (n.lS i c') W'):=zb λW' m=>by rw[T];exact h<|zw.mf e.left m
 have K:ky (M.eb i k)≠(0,0):=λx=>by
  have a:=(e.o.en i v k f).tag;have a:ky (M.eb i k)=_:=a;rw[x]at a;simp at a
 have a:=(e.o.en i v k f).obj;rw[c]at a;have l:AA (∀(Z:EN) W3 W',DO (λg=>g=M.eb i k) d W3->W3.heap[M.eb i k]?=some (.cells (Fh Z) 89 (0,0))->DO DQ W3 W'->zw w tag nb W ((n.lS i c').nC i k Z) W'):=zb λZ W3 W' m3 ho m'=>by
  rw[T];have N3:=e.oi v f Z m3 ho;exact h<|zw.mf ⟨ky,_,N3,λ_ _=>rfl,m3.mono<|λg X=>.inl<|by rw[show g=M.eb i k from X];exact K⟩ m'
 obtain⟨eb,f⟩:=nm<|M.eb i k;dsimp only at s e1 e2 e3 e4 e5 O a;rw[f]at s e1 e2 e3 e4 e5 O a l;try rw[f]
 have Y:=zb a;clear q m2 e h K a HN aj hL c T f;clear N ak ah x0 a1 a2 a3 a4 a5 a6 a7 b1 b2 b3 b4 c0 c1 c2 c3 c4 B z HO;obtain⟨ok,a⟩:=nm o.lG;obtain⟨cu,c⟩:=nm o.cut;rw[a]at e3;rw[c]at e2;have t:=ai.z;rw[a,c]at t;have HR:=zb t;have e:=zb a;clear a c t ai;have a:=O 2;have a:=O 3;have dq:decide ((u:Int)<(ok:Int))=decide (u<ok):=DA.2 I;have al:AA (∀d:rq,d.heap[eb]?=some (.cells (Fh o) 89 (0,0))->((d.setCell (eb,3)<|.int .i64 u).setCell (eb,2)<|.bool true).heap[eb]?=some (.cells (Fh { o with lG:=u,cut:=true }) 89 (0,0))):=zb λd E=>by
  rw[zc (zc E)];rfl
 have am:AA (∀d:rq,d.heap[eb]?=some (.cells (Fh o) 89 (0,0))->(d.setCell (eb,2)<|.bool true).heap[eb]?=some (.cells (Fh { o with lG:=ok,cut:=true }) 89 (0,0))):=zb λd E=>by
  rw[<-e.z,zc E];rfl
 have MD:AA (DO (λg=>g=eb) d<|(d.setCell (U eb 3)<|.int .i64 u).setCell (U eb 2)<|.bool true):=zb<|((DO.refl (λg=>g=eb) d).setCell (p:=U eb 3) rj _).setCell (p:=U eb 2) rj _;have ap:AA (DO (λg=>g=eb) d<|d.setCell (U eb 2)<|.bool true):=zb<|(DO.refl (λg=>g=eb) d).setCell (p:=U eb 2) rj _;cases cu
 .have t:=HR.z;simp only[Bool.not_false,Bool.true_or,A9]at t;subst t;clear HR;go_wp2_with fail;go_ret;exact⟨by first|rfl|simp only[q0],l.z _ _ _ MD.z (al.z _ Y.z) rp⟩
 by_cases A:u<ok
 .have t:=HR.z;rw[AM (by rw[Au A];rfl)]at t;subst t;rw[Au A]at dq;clear HR;go_wp2_with fail;go_ret;exact⟨by first|rfl|simp only[q0],l.z _ _ _ MD.z (al.z _ Y.z) rp⟩
 have t:=HR.z;rw[AH (by rw[As A];simp)]at t;subst t;rw[As A]at dq;clear HR;go_wp2_with fail;go_ret;exact⟨by first|rfl|simp only[q0],l.z _ _ _ ap.z (am.z _ Y.z) rp⟩
variable{i:Nat}
def jt(h:DZ w tag nb n M W)(hI:n.Inv T)(hT:T<=Db)(hi:i<2){s:Dh}(hs:s.Ok):rT 40 #[(nb,0),[i],.agg s.cells] W (EX w tag nb W (n.lH i s)):=by
 obtain⟨W1,ab⟩:=nm<|W.alloc<|.cells s.cells 37;have h1:DZ w tag nb n M W1:=by rw[<-ab];exact h.alloc _
 have m1:=AB ab;obtain⟨A,aL⟩:=nm W.heap.size;have sA:Hh W1 A s:=Hh.of (by rw[<-ab,<-aL];exact heap_alloc_new W _);have ai:=h.env.ok A I;have au:=hs.a;have ac:=hs.b;have aA:=hs.s;obtain⟨c0,c1,c2,c3,c4⟩:=sA;obtain⟨gx,cx,b1,⟨b2,b3⟩,b4⟩:=h1.o.nJ (i:=i) hi;obtain⟨aT,aU,aB,_,_,aq⟩:=h1.o.x.form I;obtain⟨B,cn,aV,n1,⟨n2,n3⟩,n4,n5,av⟩:=h1.o.qN hi;have N:=h1.o.obj.tag;have aC:tag gx=(3,1):=by
  have x:W1 nb=some M.x:=h1.o.obj.cell (j:=0) rfl;rw[b1,aB]at x;cases x;exact aq
 have p4:W1 (nb,4)=some (.int .u64 n.now):=h1.o.obj.cell (j:=4) rfl;have p5:W1 (nb,5)=some (.int .i64 n.lZ):=h1.o.obj.cell (j:=5) rfl;have aM:=hI.lZ;have aN:=hI.now;have aO:=hI.next i hi;have aj:=hI.gl i hi;have aw:=hI.c i hi;have aW:T<=268435455:=hT;obtain⟨mt,aD⟩:=nm n.lZ;obtain⟨nw,aE⟩:=nm n.now;obtain⟨id,ax⟩:=nm<|n.next i;obtain⟨t,ay⟩:=nm s.s;obtain⟨sa,ak⟩:=nm s.a;obtain⟨sc,al⟩:=nm s.b;obtain⟨b0,am⟩:=nm<|M.b i;obtain⟨p,ep⟩:=nm<|DR s.a 9;obtain⟨r,er⟩:=nm<|DR s.b 3;have aX:p<9:=by rw[<-ep];exact zU _ _ I
 have aY:r<3:=by rw[<-er];exact zU _ _ I
 obtain⟨RR,f⟩:=nm<|n.lH i s;rw[f];unfold NS.lH at f;rw[aD]at aM p5 f;rw[aE]at aN p4 f;rw[ax]at aO n4 f;rw[ay]at c4 aA f;rw[am]at b4;rw[ep,er]at f;have aZ:=zG t;have a0:(i:Int)<2:=I;have a1:(0:Int)<=(i:Int):=I;have aF:AA (∀l,rT 24 #[[sa],.int .i64 9] l (λe w'=>e=.returned (.int .i64 p)/\l=w')):=zb λl=>by
  rw[<-ep,<-ak];exact H4 s.a 9 l au.1 au.2 I I
 have aG:AA (∀l,rT 24 #[[sc],.int .i64 3] l (λe w'=>e=.returned (.int .i64 r)/\l=w')):=zb λl=>by
  rw[<-er,<-al];exact H4 s.b 3 l ac.1 ac.2 I I
 have ad:AA (∀(l:rq) (E:Nat),DO DQ W1 l->rT 72 #[(b0,0),id,E,.string (zu t)] l (EI tag (i+1) b0 l (.int .i64 (((n i).lH id E t).1:Int)) ((n i).lH id E t).2)):=zb λl E m=>by
  rw[<-am];exact jw ((h1.cn i hi).lK m) ((h1.env.to (j:=i+1) I).lK m) id E t aw.lZ.2 aA<|pp aw.waits.2
 have u:AA (∀g,(tag g).1=3->(tag g).1=i+1->False):=zb λg a b=>I
 have ae:AA (∀g,tag g=(0,0)->(tag g).1=i+1->False):=zb λg a b=>by rw[a]at b;simp at b
 have HN:=zb h1;have aH:=zb m1;have af:=zb ab;have s:=zb N;have aI:=zb am;have aP:=zb ax;rw[ak]at c2;rw[al]at c3;unfold Dh.cells at af ⊢;rw[ay,ak,al]at af ⊢;clear ax am h h1 m1 ab hs hI aw aB aq aD aE ay ak al ep er au ac hT;by_cases ar:mt<t.length+40
 .have db:decide ((mt:Int)-40<(t.length:Int))=true:=Au I;rw[AM ar]at f;have aQ:=ad;obtain⟨R,hR⟩:=nm<|(n i).lH id nw t;have v:AA (∀l,DO DQ W1 l->rT 72 #[(b0,0),id,nw,.string (zu t)] l (EI tag (i+1) b0 l (.int .i64 R.1) R.2)):=zb λl m=>by
   rw[<-hR];exact ad.z l nw m
  rw[hR]at f;obtain⟨Y,c'⟩:=R;simp only at v f;subst f;have q6:((Y:Int)==6)=(Y==6):=Gj Y 6;clear aQ ad hR;go_enter func40,ntmps40;go_upto_region 1 with fail;rw[af.z];go_quiet (fail);go_upto_region 2 with fail;have NA:=zb<|HN.z.free (((DO.refl DQ W1).drewN nq).drew) rm;have KD:=zb<|v.z _<|((DO.refl DQ W1).drewN nq).drew;refine zn 22 (λw'=>w' nb=some (.slice gx 2 cx)/\w' (gx,i)=some (.pointer b0)/\w' (U nb 3)=some (.slice B 2 cn)/\w' (B,i)=some (.int .u64 id)/\w' (U nb 4)=some (.int .u64 nw)/\w' (U A 4)=some (.string<|zu t)) (⟨b1,b4,n1,n4,p4,c4⟩) ?_;refine GI 0 ?_;iterate 20
   refine GV rfl ?_;try simp only[PS]
  refine zz 20 rfl (λK o=>?_);go_simp;refine(KD.z).mono ?_;rintro _ W3 ⟨rfl,hL⟩;rw[<-aI.z]at hL;obtain⟨c,V3,N3,q,z⟩:=NA.z.conn hi hL;have G0:=z.cell (a:=nb) (λx=>u.z nb (by rw[N]) x) b1;have G1:=z.cell (a:=(gx,i)) (λx=>u.z gx (by rw[aC]) x) b4;have G2:=z.cell (a:=U nb 3) (λx=>u.z nb (by rw[N]) x) n1;have G3:=z.cell (a:=(B,i)) (λx=>u.z B (by rw[av]) x) n4;have G4:=z.cell (a:=U nb 4) (λx=>u.z nb (by rw[N]) x) p4;have G5:=z.cell (a:=U A 4) (λx=>ae.z A ai x) c4;refine o.z _ _ ⟨G0,G1,G2,G3,G4,G5⟩ ?_;clear o K;try simp only[PS]
  refine GI 21 ?_;refine GV rfl ?_;try simp only[PS]
  refine zq ?_;have az:AA (∀W',DO DQ W3 W'->zw w tag nb W (n.lS i c') W'):=zb λW' m=>zw.mG (aH.z.trans<|((DO.refl DQ W1).drewN nq).drew)<|zw.trans q (z.mono<|λg hg=>.inl<|λx=>by rw[x]at hg;simp at hg)<|zw.mf N3.left m
  clear N3 q z hL NA KD;go_wp2_with fail;go_ret;exact⟨by first|rfl|simp only[q6],az.z _ rp⟩
 have db:decide ((mt:Int)-40<(t.length:Int))=false:=As I;rw[AH ar]at f;have s:nw+p<=536870911:=I;have h:IntKind.u64.wrap (p:Int)=(p:Int):=by rw[IntKind.wrap_u64];omega
 have x6:(nw:Int)+(p:Int)=((nw+p:Nat):Int):=I;obtain⟨E,h⟩:=nm<|nw+p;rw[h]at f s x6;have s:IntKind.u64.wrap (E:Int)=(E:Int):=by rw[IntKind.wrap_u64];omega
 obtain⟨R,hR⟩:=nm<|(n i).lH id E t;have v:AA (∀l,DO DQ W1 l->rT 72 #[(b0,0),id,E,.string (zu t)] l (EI tag (i+1) b0 l (.int .i64 R.1) R.2)):=zb λl m=>by
  rw[<-hR];exact ad.z l E m
 rw[hR]at f;obtain⟨Y,c'⟩:=R;simp only at v f;have s:((Y:Int)==3)=(Y==3):=Gj Y 3;have s:((Y:Int) != 0)=(Y != 0):=QJ Y 0;have an:=zb f;clear ad hR h f;go_enter func40,ntmps40;go_upto_region 1 with fail;rw[af.z];go_quiet (fail);go_upto_region 4 with fail;have f:=zb<|aF.z (W1.drewN nq).drew;refine zn 10 (λw'=>w' (U nb 4)=some (.int .u64 nw)/\w' (U A 2)=some (.int .i64 sa)) (⟨p4,c2⟩) ?_;refine GI 0 ?_;iterate 6
  refine GV rfl ?_;try simp only[PS]
 refine zz 6 rfl (λK o=>?_);go_simp;refine(f.z).mono ?_;rintro _ _ ⟨rfl,rfl⟩;refine o.z _ _ ⟨p4,c2⟩ ?_;clear o K;try simp only[PS]
 refine GI 7 ?_;iterate 3
  refine GV rfl ?_;try simp only[PS]
 refine zq ?_;go_upto_region 5 with fail;have NA:=zb<|HN.z.free ((((DO.refl DQ W1).drewN nq).drew).drew) rm;have KD:=zb<|v.z _<|(((DO.refl DQ W1).drewN nq).drew).drew;refine zn 19 (λw'=>w' nb=some (.slice gx 2 cx)/\w' (gx,i)=some (.pointer b0)/\w' (U nb 3)=some (.slice B 2 cn)/\w' (B,i)=some (.int .u64 id)/\w' (U nb 4)=some (.int .u64 nw)/\w' (U A 4)=some (.string<|zu t)) (⟨b1,b4,n1,n4,p4,c4⟩) ?_;refine GI 0 ?_;iterate 17
  refine GV rfl ?_;try simp only[PS]
 refine zz 17 rfl (λK o=>?_);go_simp;refine(KD.z).mono ?_;rintro _ W3 ⟨rfl,hL⟩;rw[<-aI.z]at hL;obtain⟨c,V3,N3,q,z⟩:=NA.z.conn hi hL;have G0:=z.cell (a:=nb) (λx=>u.z nb (by rw[N]) x) b1;have G1:=z.cell (a:=(gx,i)) (λx=>u.z gx (by rw[aC]) x) b4;have G2:=z.cell (a:=U nb 3) (λx=>u.z nb (by rw[N]) x) n1;have G3:=z.cell (a:=(B,i)) (λx=>u.z B (by rw[av]) x) n4;have G4:=z.cell (a:=U nb 4) (λx=>u.z nb (by rw[N]) x) p4;have G5:=z.cell (a:=U A 4) (λx=>ae.z A ai x) c4;refine o.z _ _ ⟨G0,G1,G2,G3,G4,G5⟩ ?_;clear o K;try simp only[PS]
 refine GI 18 ?_;refine GV rfl ?_;try simp only[PS]
 refine zq ?_;have ao:AA (∀{n':NS} {W':rq},zw w c nb W3 n' W'->zw w tag nb W n' W'):=zb λf=>zw.mG (aH.z.trans<|(((DO.refl DQ W1).drewN nq).drew).drew)<|zw.trans q (z.mono<|λg hg=>.inl<|λx=>by rw[x]at hg;simp at hg) f
 obtain⟨f,h⟩:∃x:NV,({ M with V:=V3 }:NV)=x:=⟨_,rfl⟩;obtain⟨S,f⟩:=nm<|n.lS i c';rw[h,f]at N3;rw[f]at an;have Z:S.g=n.g:=by rw[<-f];rfl
 have aR:S.next i=id:=by rw[<-f];exact aP.z
 have ag:c A=(0,0):=by
  have s:=zm c4;rw[q A s,ai]
 have aJ:c B=(3,4):=by
  have s:=zm n4;rw[q B s,av]
 have d3:=z.cell (a:=U A 3) (λx=>ae.z A ai x) c3;have O:=zb N3;have HS:=zb f;clear N3 q z hL NA KD b1 b4 n1 n4 p4 p5 c0 c1 c2 c3 c4 af v h f db;by_cases aa:Y=3
 .have e3:(Y==3)=true:=by rw[aa];rfl
  have hr:=an.z;rw[AM aa]at hr;subst hr;obtain⟨gg,cg,ga,ca,y1,⟨y2,y3⟩,y4,⟨y5,y6⟩,-⟩:=O.z.o.pC hi;have ah:(S.g i).length<=T:=by rw[Z];exact aj
  have f:=zb Z;obtain⟨GL,X⟩:=nm<|(S.g i).length;rw[X]at y4 y5 ah;rw[f.z]at X;have f:=zb X;have h:decide ((16:Int)<=(GL:Int))=decide (16<=GL):=DA.2 I;clear Z X aj aa;go_wp2_with fail;go_ret;exact⟨by rw[f.z];rfl,ao.z<|zw.mf O.z.left rp⟩
 have e3:=AR.2 aa;by_cases ap:Y=0;rotate_left
 .have e0:=Cd.2 ap;have hr:=an.z;rw[AH aa,AM ap]at hr;subst hr;go_wp2_with fail;go_ret;exact⟨rfl,ao.z<|zw.mf O.z.left rp⟩
 have e0:(Y != 0)=false:=by simp[ap]
 have hr:=an.z;rw[AH aa,AH (by simp[ap])]at hr;subst hr;obtain⟨gg,cg,ga,ca,a7,h,W7,u1,⟨q,u⟩,N,f,s,z,⟨v,Y⟩,m7,H7⟩:=(O.z.free ((DO.refl DQ W3).drew) rm).oT hi ⟨id,E,t,false⟩ (by rw[Z];omega);have ah:(S.g i).length<=T:=by rw[Z];exact aj
 obtain⟨GL,X⟩:=nm<|(S.g i).length;rw[X]at N s H7 ah;have u:AA (∀l,DO (λq=>c q=(3,9+i)) W3 l->l.cell? (U nb 2)=some (.slice gg 2 cg)/\l.cell? (gg,i)=some (.slice ga GL ca)/\l.cell? (U nb 3)=some (.slice B 2 cn)/\l.cell? (B,i)=some (.int .u64 id)/\l.cell? (U A 4)=some (.string<|zu t)):=zb λl m =>
  ⟨m.cell (a:=U nb 2) (λx=>by have x:c nb=(3,9+i):=x;rw[O.z.o.obj.tag]at x;have x:=A8 Prod.snd x;simp only at x;omega) u1,
   m.cell (a:=(gg,i)) (λx=>by have x:c gg=(3,9+i):=x;rw[f]at x;simp at x;omega) N,
   m.cell (a:=U nb 3) (λx=>by have x:c nb=(3,9+i):=x;rw[O.z.o.obj.tag]at x;have x:=A8 Prod.snd x;simp only at x;omega) G2,
   m.cell (a:=(B,i)) (λx=>by have x:c B=(3,9+i):=x;rw[aJ]at x;simp at x;omega) G3,
   m.cell (a:=U A 4) (λx=>by have x:c A=(3,9+i):=x;rw[ag]at x;simp at x) G5⟩
 have M7:=zb m7;have T:=zb s;have Z7:=zb z;have Z8:=zb Y;have v:=zb H7;unfold Kl at T;have aS:=zb ag;clear m7 s z Y H7 G0 G1 aJ ag X Z aj;go_upto_region 10 with fail;refine zn 27 (λw'=>w' (U nb 2)=some (.slice gg 2 cg)/\w' (gg,i)=some (.slice ga GL ca)/\w' (U nb 3)=some (.slice B 2 cn)/\w' (B,i)=some (.int .u64 id)/\w' (U A 4)=some (.string<|zu t)) (u.z _<|(DO.refl _ W3).drew) ?_;refine GI 0 ?_;iterate 23
  refine GV rfl ?_;try simp only[PS]
 refine zz 23 rfl (λK o=>?_);go_simp;refine o.z _ _ (u.z _<|((DO.refl (λq=>c q=(3,9+i)) W3).drew).alloc _) ?_;clear o K;try simp only[PS]
 refine zz 24 rfl (λK o=>?_);go_simp;refine o.z _ _ (u.z _<|(((DO.refl (λq=>c q=(3,9+i)) W3).drew).alloc _).alloc _) ?_;clear o K;try simp only[PS]
 refine zz 25 rfl (λK o=>?_);refine zL rfl _ _ _ _ rfl _ _ _ rfl rfl T.z ?_;refine o.z _ _ (u.z _<|((DO.refl (λq=>c q=(3,9+i)) W3).drew).trans M7.z) ?_;clear o K;try simp only[PS]
 refine GI 26 ?_;refine GV rfl ?_;try simp only[PS]
 refine zY rfl (λK o=>?_);have z:=Z7.z;have Y:=Z8.z;go_simp;refine o.z _ _ ?_;clear o K;try simp only[PS]
 refine zq ?_;obtain⟨f,l⟩:=nm<|W7.setCell (gg,i)<|.slice a7 (GL+1) h;obtain⟨B,M8,X,h,s⟩:=v.z f (by rw[l];exact DO.refl _ _);try rw[l]
 obtain⟨c,Y,Z,y1,⟨y2,y3⟩,y4,y5,y6⟩:=X.o.qN hi;have y4:f (c,i)=some (.int .u64 id):=by
  have z:f (c,i)=some (.int .u64 (S.next i:Int)):=y4;rw[aR]at z;exact z
 have aK:=s.cell (a:=U A 3) (λx=>x aS.z) d3;have z:=(X.free ((DO.refl DQ f).drew) rm).qi hi (id+1+r) Z;have a:((id+1+r:Nat):Int)=(id:Int)+1+(r:Int):=I;rw[a]at z;have a:IntKind.u64.wrap (r:Int)=(r:Int):=by rw[IntKind.wrap_u64];omega
 have a:=wu ((id:Int)+1) I;have a:=wu ((id:Int)+1+(r:Int)) I;have m9:DO (λq=>q=c) f (f.drew.setCell (c,i)<|.int .u64<|(id:Int)+1+(r:Int)):=((DO.refl (λq=>q=c) f).drew).setCell (p:=(c,i)) rj _;have az:AA (∀W',DO DQ (f.drew.setCell (c,i)<|.int .u64<|(id:Int)+1+(r:Int)) W'->zw w tag nb W { S with g:=ze n.g i<|n.g i++[⟨id,E,t,false⟩],next:=ze n.next i (id+1+r) } W'):=by
  refine zb λW' a=>ao.z<|zw.mG ((DO.refl DQ W3).drew)<|zw.trans h s<|zw.mf ⟨B,M8,?_,λ_ _=>rfl,m9.mono<|λg hg=>.inl<|by rw[show g=c from hg,y6];simp⟩ a
  have e:({ ({ S with g:=ze S.g i (S.g i++[⟨id,E,t,false⟩]) }:NS)with next:=ze ({ S with g:=ze S.g i (S.g i++[⟨id,E,t,false⟩]) }:NS).next i (id+1+r) }:NS)={ S with g:=ze n.g i<|n.g i++[⟨id,E,t,false⟩],next:=ze n.next i (id+1+r) }:=by rw[<-HS.z];rfl
  rw[e]at z;exact z
 have a:=zb<|aG.z f.drew;clear X h s z m9 l Z v T M7 Z7 Z8 u u1 N O ao;go_upto_region 11 with fail;refine zn 19 (λw'=>w' (U nb 3)=some (.slice c 2 Y)/\w' (c,i)=some (.int .u64 id)/\w' (U A 3)=some (.int .i64 sc)) (⟨y1,y4,aK⟩) ?_;refine GI 0 ?_;iterate 15
  refine GV rfl ?_;try simp only[PS]
 refine zz 15 rfl (λK o=>?_);go_simp;refine(a.z).mono ?_;rintro _ _ ⟨rfl,rfl⟩;refine o.z _ _ ⟨y1,y4,aK⟩ ?_;clear o K;try simp only[PS]
 refine GI 16 ?_;iterate 3
  refine GV rfl ?_;try simp only[PS]
 refine zY rfl (λK o=>?_);go_simp;refine o.z _ _ ?_;clear o K;try simp only[PS]
 refine zq ?_;go_wp2_with fail;go_ret;exact⟨rfl,az.z _ ⟨rfl,rfl,rfl,AF _,λ_ _ _=>rfl⟩⟩
def kS(h:DZ w tag nb n M W)(hI:n.Inv T)(A:T<=Db){s:Dh}(q:s.Ok)(t:s.kind=4):rT 21 #[(nb,0),.agg s.cells] W (EX w tag nb W (n.lH (DR s.side 2) s)):=by
 obtain⟨W1,p,i,k,T,X,e,a,B,E,d,f,K,c,l,u,o,v,Y,⟨Z,b3⟩,b4⟩:=Jp h q;have c:=q.s;rw[l];obtain⟨c0,c1,c2,c3,c4⟩:=d;rw[t]at c0;obtain⟨d,a⟩:=nm s.s;rw[a]at c4 c;have d:=zb e;have c:AA (∀p,DO DQ W1 p->rT 40 #[(nb,0),[i],.agg s.cells] p (EX w tag nb p<|n.lH i s)):=zb λp m=>jt (B.free m rm) hI A K q
 have z:=zb E;obtain⟨RR,p⟩:=nm<|n.lH i s;rw[p]at c ⊢;unfold Dh.cells at d c ⊢;rw[t,a]at d c ⊢;clear a h hI B E e q t l u A p f;have N:=c.z W1 rp;go_enter func21,ntmps21;go_upto_region 1 with fail;rw[d.z];go_wp2_with (first|(go_at_call 24;refine o.mono ?_;rintro _ _ ⟨rfl,rfl⟩;clear o)|(go_at_call 24;refine v.mono ?_;rintro _ _ ⟨rfl,rfl⟩)|(go_at_call 40;refine N.mono ?_;rintro _ a ⟨rfl,O⟩));go_ret;exact⟨rfl,zw.mG z.z O⟩
def cC(h:DZ w tag nb n M W)(hI:n.Inv T)(t:T+401<=Db)(d:n.Up){s:Dh}(c:s.Ok):rT 21 #[(nb,0),.agg s.cells] W (EX w tag nb W (n.step s)):=by
 have a:=AK (DN T 401) t;unfold NS.step;by_cases e:s.kind=1
 .rw[AM e];exact U7 h hI a c e
 rw[AH e];by_cases f:s.kind=2
 .rw[AM f];exact Vg h hI a c f
 rw[AH f];by_cases l:s.kind=3
 .rw[AM l];exact iZ h hI a c l
 rw[AH l];by_cases o:s.kind=4
 .rw[AM o];exact kS h hI a c o
 rw[AH o];by_cases p:s.kind=5
 .rw[AM p];exact U6 h hI a c p<|λtag' M' W' q=>VL q hI.tick t c
 rw[AH p];by_cases q:s.kind=6
 .rw[AM q];exact iM h hI a d c q
 rw[AH q];by_cases d:s.kind=10
 .rw[AM d];exact gM h hI a c d
 rw[AH d];exact iL h hI (AK (Bv _) t) c ⟨e,f,l,o,p,q,d⟩
variable{k:Nat}
theorem NS.Safe.reset(h:n.Safe)(hi:i<2)(a:k<8)(b:Int):(n.reset i k b).1=true/\(n.reset i k b).2.Safe:=by
 have d:=(h.d i hi).k k a;have f:=PG h hi a;have o:=h.so i hi;have p:=zU b ((n.e i k).wrote.length+1)<|Nat.succ_pos _;unfold NS.reset NS.nk;generalize DR b ((n.e i k).wrote.length+1)=q at *;rw[d.wr]at p;have p:(n i).reset k q=(0,{ n.c i with ws:=ze (n i).ws k ((n i k).nM q) }):=by
  unfold CS.reset;rw[AH (by rw[f];simp),Ad,Ad,BY I]
 rw[p];have f:=d.hl;have l:Fj (n i k) ((n i k).nM q):=by
  refine⟨Cn _,λ_=>rfl,AF _,d.hl,id,λe=>⟨rfl,?_,?_⟩,λp s f _=>?_⟩
  .unfold WS.nM;simp only[e,A9]
  .unfold WS.nM;simp only[e,Bool.not_true,Cc,Ah];split<;>omega
  unfold WS.nM;simp only[f,BT,BZ];omega
 have f:=o.kf k a;have c:((n i k).nM q).lG<=((n i k).nM q).final:=by
  unfold WS.nM;cases e:(n i k).cut with
  | true =>
   simp only[Bool.not_true,Cc,A9,Ah];split<;>omega
  | false =>
   simp only[Bool.not_false,Bool.true_or,A9,BT,BZ];omega
 refine⟨rfl,h.writer hi a l rfl (d.qD l d.bl d.hc d.cg (λ_=>?_) d.wr d.fi rfl (λ_=>?_) rfl rfl) c⟩
 .show(n i k).high<=(if (n i k).cut then(n i k).final else max (n i k).high q);split
  .rename_i e;exact d.hf e
  omega
 show(if !(n.e i k).cut||decide (q<(n.e i k).lG)then q else(n.e i k).lG)=(if !(n i k).cut||decide (q<(n i k).lG)then q else(n i k).lG);rw[d.cu];cases e:(n i k).cut with
 | true=>rw[d.ke e]
 | false=>rfl
def NS.Safe.lH(h:n.Safe)(hI:n.Inv T)(e:T<=Db)(hi:i<2)(s:Dh):(n.lH i s).1=true/\(n.lH i s).2.Safe:=by
 have Y:1-i<2:=I;have a:1-(1-i)=i:=I;have u:=h.up i hi;have O:=h.lZ i hi;have Z:=h.now i hi;have E:=h.so i hi;have K:=h.dg i hi;have T:=h.gr i hi;have B:=h.gr (1-i) Y;rw[a]at B;have f:=h.d (1-i) Y;rw[a]at f;have a:=hI.next i hi;have a:=hI.now;have a:=zU s.a 9 I;have d:∀a,a<=n.now+8->¬(zF<n.next i\/zF<a\/((n i).mI=true/\n.next i<=(n i).l8)):=by
  intro a hd;unfold Db at e;rintro(x|x|⟨x,y⟩)
  .unfold zF at x;omega
  .unfold zF at x;omega
  have:=K.id x;omega
 unfold NS.lH;by_cases a:n.lZ<s.s.length+40
 .have e:(n i).lH (n.next i) n.now s.s=(6,n.c i):=by
   unfold CS.lH;rw[AH (by rw[u];simp),AH<|d _ I,AM (by rw[O];exact a)]
  rw[AM a,e,NS.nK];exact⟨rfl,h⟩
 rw[AH a];by_cases p:(n i).waits.length=16
 .have e:(n i).lH (n.next i) (n.now+DR s.a 9) s.s=(3,n.c i):=by
   unfold CS.lH;rw[AH (by rw[u];simp),AH<|d _ I,AH<|by rw[O];exact a,AM p]
  rw[e,AM rfl,NS.nK];have:=K.wl;exact⟨by simp only[Ah];omega,h⟩
 have e:(n i).lH (n.next i) (n.now+DR s.a 9) s.s=(0,{ n.c i with mI:=true,l8:=n.next i,waits:=(n i).waits++[Gs (n.next i) (n.now+DR s.a 9) s.s] }):=by
  unfold CS.lH;rw[AH (by rw[u];simp),AH<|d _ I,AH<|by rw[O];exact a,AH p,AM (by rw[Z];omega)]
 rw[e,AH lm,AH lm];refine⟨rfl,?_⟩;obtain⟨c2,c⟩:∃c2,c2=({ n.c i with mI:=true,l8:=n.next i,waits:=(n i).waits++[Gs (n.next i) (n.now+DR s.a 9) s.s] }:CS):=⟨_,rfl⟩;obtain⟨l,t⟩:∃l,l=(⟨n.next i,n.now+DR s.a 9,s.s,false⟩:SN):=⟨_,rfl⟩;show NS.Safe { n.lS i _ with g:=ze n.g i<|n.g i++[_],next:=ze n.next i (n.next i+1+DR s.b 3) };rw[<-c,<-t];have a:({ n.lS i c2 with g:=ze n.g i<|n.g i++[l],next:=ze n.next i (n.next i+1+DR s.b 3) }:NS).c i=c2:=NS.nH n i c2;have v:ze n.g i (n.g i++[l]) i=n.g i++[l]:=zf _ _ _;have z:ze n.g i (n.g i++[l]) (1-i)=n.g (1-i):=zd _ _ I;have N:GC (n.g i) (n.g i++[l]):=λx d=>⟨x,Br _ d,rfl,rfl,rfl⟩
 refine h.mz (n':={ n.lS i c2 with g:=ze n.g i<|n.g i++[l],next:=ze n.next i (n.next i+1+DR s.b 3) }) hi ⟨NS.nQ n hi _,?_,?_,?_,?_,?_,?_,?_,?_,?_,?_,?_,?_,?_,⟨?_,rfl⟩,⟨?_,rfl⟩,⟨?_,rfl⟩,?_,λp X=>.inl X,?_⟩;all_goals try rw[a]
 .rw[c];have r:=EQ.refl E;exact⟨r.ws,r.kz,r.rg⟩
 .rw[c];exact AF _
 .rw[c];have d:=h.d i hi;exact⟨d.k,d.cr⟩
 .rw[c];exact⟨f.k,f.cr⟩
 .show Dq c2 (ze n.g i (n.g i++[l]) i);rw[v,c];refine⟨E.w,E.kf,E.sp,λf a=>?_⟩;rcases Ak.1 a with x|x
  .obtain⟨a,b,A,o,e⟩:=E.wt f x;exact⟨a,b,A,Br _ o,e⟩
  rw[Af.1 x];refine⟨rfl,?_,l,List.mem_append_right _ lm,?_⟩
  .show(n i).now<=n.now+DR s.a 9;rw[Z];omega
  rw[t];exact ri
 .show GC (n.g i) (ze n.g i (n.g i++[l]) i);rw[v];exact N
 .show GC (n.g<|1-i) (ze n.g i (n.g i++[l])<|1-i);rw[z];exact GC.refl _
 .show _=(ze n.g i (n.g i++[l])<|1-i).length;rw[z]
 .show JJ c2 (ze n.g i (n.g i++[l])<|1-i);rw[z,c];exact⟨T.ok.same ⟨rfl,rfl,rfl⟩ rfl,T.cm,T.sm⟩
 .show Ho (n<|1-i) (ze n.g i (n.g i++[l]) i);rw[v];refine⟨?_,λA o q=>?_,λp X=>?_,B.ok.cn,B.ok.kn⟩
  .rw[BX,C7];refine⟨B.ok.nd,lm,λa ha b hb e=>?_⟩;obtain⟨A,o,rfl⟩:=BL.1 ha;have hb:b=n.next i:=by rw[t]at hb;simpa using hb
   have:=K.gi A o;omega
  .rcases Ak.1 o with x|x
   .exact B.ok.se A x q
   rw[Af.1 x,t]at q;cases q
  rw[B.cm]at X;cases X
 .show JK c2 (ze n.g i (n.g i++[l]) i) (ze n.next i (n.next i+1+DR s.b 3) i);rw[v,zf,c];refine⟨λ_=>?_,λA o=>?_,?_⟩
  .show n.next i<_;omega
  .rcases Ak.1 o with x|x
   .have:=K.gi A x;omega
   rw[Af.1 x,t];show n.next i<_;omega
  show((n i).waits++[_]).length<=_;rw[AG,AG];have:=K.wl;simp only[Ac];omega
 .show ∀x∈ze n.g i (n.g i++[l]) (1-i),x.id<ze n.next i (n.next i+1+DR s.b 3) (1-i);rw[z,zd _ _ (I:1-i≠i)];exact(h.dg (1-i) Y).gi
 .show ze n.next i (n.next i+1+DR s.b 3) (1-i)=_;rw[zd _ _ (I:1-i≠i)]
 .rw[c];exact Z
 .rw[c];exact O
 .rw[c];exact h.ct i hi
 .rw[c];exact h.lQ i hi
 rw[c];exact u
def NS.Safe.step(h:n.Safe)(hI:n.Inv T)(a:T+401<=Db)(s:Dh):(n.step s).1=true/\(n.step s).2.Safe:=by
 unfold NS.step;split
 .exact h.send (GF _) (OM _) _
 split
 .exact h.finish (GF _) (OM _)
 split
 .exact h.reset (GF _) (OM _) _
 split
 .exact h.lH hI I (GF _) s
 split
 .exact h.tick.carry (hI.tick) s
 split
 .exact h.flush hI I (GF _)
 split
 .exact h.read (GF _) (OM _) _
 exact h.carry hI s
def kgiven_any(l:List Dh)(v:rt)(a b c:Int)(t : -9223372036854775808<=a/\a<=9223372036854775807)(hb : -9223372036854775808<=b/\b<=9223372036854775807)(hc : -9223372036854775808<=c/\c<=9223372036854775807)(w:rq)(E:D0 1 (λ_=>(0,0)) w)(h:KY w v l)(o:l.length<=1048576/\∀s∈l,s.s.length<=1048576):rT 7 #[v,[a],[b],[c]] w (Ix w true):=by
 have p:=gI l v w h o;have d:=zb λW1 m=>gK W1<|E.lK m
 by_cases e:l.length+MA l<=8192;rotate_left
 .have A:=As e;rw[A]at p;go_enter func7,ntmps7;go_upto_region 2 with(go_at_call 13;refine p.mono ?_;rintro _ W1 ⟨rfl,f⟩);have K:=d.z W1 f;have N:=zb f;go_wp2_with (go_at_call 14;refine K.mono ?_;rintro _ Y ⟨rfl,O⟩);go_ret;exact⟨rfl,N.z.trans O⟩
 have A:=Au e;rw[A]at p;obtain⟨n',T,n2,hp,hI,X,q⟩:=ia [] l a b c I<|λs _ _ T n a b c=>a.step b c s;have u:AA (∀W1,DO DQ w W1->rT 15 #[v,.slice none 0 0,.int .i64 a,.int .i64 b,.int .i64 c] W1 (Ud W1<|some n')):=zb λW1 m=>by
  rw[<-hp];refine gE l v [] _ a b c t hb hc W1 (E.lK m) (h.lK m) ⟨none,0,rfl,AF _,lw,λi s a=>by simp at a⟩ lc (B:=3284992) lc I<|λs c _ w tag nb n M W T z hI l X=>?_;obtain⟨_,_,_,_,_,q⟩:=h;obtain⟨i,a⟩:=Ct c;exact cC z hI (AK l lc) X (q i s a).2
 have Z:=zb fun(w:rq) nb=>Xc (w:=w) (nb:=nb) hI X q
 obtain⟨t,a⟩:=nm n'.mD;rw[a]at Z;clear hp h o e A hI X q a;go_enter func7,ntmps7;go_upto_region 2 with(go_at_call 13;refine p.mono ?_;rintro _ W1 ⟨rfl,f⟩);have K:=d.z W1 f;have N:=zb f;clear p d f;go_upto_region 5 with(go_at_call 14;refine K.mono ?_;rintro _ Y ⟨rfl,O⟩);have M2:=zb<|N.z.trans O;clear K O N;have kp:=u.z Y M2.z;clear u;go_upto_region 8 with(go_at_call 15;refine kp.mono ?_;rintro _ W3 ⟨nb,tag,M,rfl,z⟩);have a:=Z.z Y nb;have ke:=a.mD tag M W3 z;have HF:=zb λW' m=>a.fair tag M W3 W' z m
 clear kp Z a z;go_upto_region 9 with(go_at_call 16;refine ke.mono ?_;rintro _ W4 ⟨rfl,m4⟩);have kf:=HF.z W4 m4;clear ke HF m4;go_upto_region 12 with(go_at_call 17;refine kf.mono ?_;rintro _ a ⟨rfl,m5,kt⟩);clear kf m5;go_upto_region 13 with(go_at_call 18;refine kt.mono ?_;rintro _ a ⟨rfl,m6,kq⟩);clear kt m6;go_wp2_with (go_at_call 19;refine kq.mono ?_;rintro _ a ⟨rfl,m7⟩);go_ret;exact⟨rfl,M2.z.trans m7⟩
end
section
open Go.ChangeShapes Go.WideShapes Go.ChangeAt Go.RowKit Go.Deep
open Go.Proofs.Tryz
def VY:prog.cellsOf 37=5:=kw
section
variable {H:Type} {enc:TypeId×rt->H} {W:rq} {base:Nat} {spare:Nat->Bool} {held:Bool} {fuel:Nat} {cs:rF} {x:DataW H×List MemPlace}
theorem cB(d:DataW H):1<=Rows.uptoBulk d:=by
 cases d with
 | lit l=>cases l<;>simp[Rows.uptoBulk]
 | nil=>simp[Rows.uptoBulk]
 | ptr d=>simp[Rows.uptoBulk]
 | slice elems spare=>simp[Rows.uptoBulk]
 | agg parts=>simp[Rows.uptoBulk]
 | iface t d=>simp[Rows.uptoBulk]
 | map entries=>simp[Rows.uptoBulk]
 | held h=>simp[Rows.uptoBulk]
def O9{c:rt}{t:TypeId}(a:prog.underlying t=some (.int .i64))(h:DataW.trod enc prog W base spare held fuel t [c]=some x):∃n:Int,c=.int .i64 n /\ -9223372036854775808<=n/\n<=9223372036854775807:=by
 obtain⟨n,e,_,d⟩:=DataW.trod_int a h;cases e;have a:(decide ((-9223372036854775808:Int)<=n)&&decide (n<=9223372036854775807))=true:=d;simp only[AZ,Ah]at a;exact⟨n,rfl,a.1,a.2⟩
variable{k:Nat}{v:rt}
def iY{a:Addr}(h:W ((a.add (0*k)).add 0)=some v):∃g o,a=⟨g,o,none⟩:=by
 obtain⟨b,d,c⟩:=a;have e:c=none:=by simpa [Addr.add]using World.cell?_spot h
 subst e;exact⟨b,d,rfl⟩
variable{base:Nat}
def SI{a:Addr}{n:Nat}{cs:rF}(h:W.cells? base a n=some cs):cs.length=n/\∀i,i<n->W (a.add i)=cs[i]?:=by
 obtain⟨_,a,c⟩:=World.cells?_some h;exact⟨a,c⟩
theorem gC(h:DataW.trod enc prog W base spare held fuel 37 cs=some x)(hb:Rows.uptoBulk x.1<=1048576):∃o:Dh,cs=o.cells.toList/\o.Ok/\o.s.length<=Rows.uptoBulk x.1:=by
 obtain⟨t,n,_,rfl,q,l,c⟩:=DataW.trod_struct underlying37 h;rw[VY]at q;have h':prog.cellsOf 3=1:=kw;have o:prog.cellsOf 9=1:=kw
 match cs,q,t,l with
 | [c0,c1,c2,c3,c4],_,[x0,x1,x2,x3,x4],_ =>
  have f0:DataW.trod enc prog W base spare held n 3 [c0]=some x0:=by
   have q:DataW.trod enc prog W base spare held n 3 (([c0,c1,c2,c3,c4].drop 0).take<|prog.cellsOf 3)=some x0:=c 0 _ rfl;rw[h']at q;exact q
  have u:DataW.trod enc prog W base spare held n 3 [c1]=some x1:=by
   have q:DataW.trod enc prog W base spare held n 3 (([c0,c1,c2,c3,c4].drop 1).take<|prog.cellsOf 3)=some x1:=c 1 _ rfl;rw[h']at q;exact q
  have v:DataW.trod enc prog W base spare held n 3 [c2]=some x2:=by
   have q:DataW.trod enc prog W base spare held n 3 (([c0,c1,c2,c3,c4].drop 2).take<|prog.cellsOf 3)=some x2:=c 2 _ rfl;rw[h']at q;exact q
  have z:DataW.trod enc prog W base spare held n 3 [c3]=some x3:=by
   have q:DataW.trod enc prog W base spare held n 3 (([c0,c1,c2,c3,c4].drop 3).take<|prog.cellsOf 3)=some x3:=c 3 _ rfl;rw[h']at q;exact q
  have A:DataW.trod enc prog W base spare held n 9 [c4]=some x4:=by
   have q:DataW.trod enc prog W base spare held n 9 (([c0,c1,c2,c3,c4].drop 4).take<|prog.cellsOf 9)=some x4:=c 4 _ rfl;rw[o]at q;exact q
  obtain⟨k,rfl,B,E⟩:=O9 underlying3 f0;obtain⟨s,rfl,K,N⟩:=O9 underlying3 u;obtain⟨a,rfl,O,T⟩:=O9 underlying3 v;obtain⟨b,rfl,X,Y⟩:=O9 underlying3 z;obtain⟨d,Z,p,_⟩:=DataW.trod_string underlying9 A;cases Z;have e:x4=(.lit<|.string d.data.toList,[]):=rB p;have f:d.data.toList.length<=Rows.uptoBulk (DataW.agg<|([x0,x1,x2,x3,x4]:List (DataW H×List MemPlace)).map (·.1)):=by
   subst e;simp only[Bq,C1,Rows.uptoBulk,Rows.uptoBulkAll];omega
  have c:Rows.uptoBulk (DataW.agg<|([x0,x1,x2,x3,x4]:List (DataW H×List MemPlace)).map (·.1))<=1048576:=hb;refine⟨⟨k,s,a,b,d.data.toList⟩,?_,⟨⟨B,E⟩,⟨K,N⟩,⟨O,T⟩,⟨X,Y⟩,by show d.data.toList.length<=_;omega⟩,f⟩;have hd:zu d.data.toList=d:=by simp[zu]
  show _=[Value.int .i64 k,.int .i64 s,.int .i64 a,.int .i64 b,.string (zu d.data.toList)];rw[hd]
instance:Inhabited Dh:=⟨⟨0,0,0,0,[]⟩⟩
theorem Ti{x:DataW H}:∀{l:List (DataW H)},x∈l->Rows.uptoBulk x<=Rows.uptoBulkAll l
 | y::l,h=>by
  simp only[Rows.uptoBulkAll];rcases Ay.1 h with rfl|h
  .omega
  have:=Ti h;omega
theorem VJ:∀(l:List (DataW H)),l.length<=Rows.uptoBulkAll l
 | []=>AN _
 | x::l=>by
  have:=VJ l;have:=cB x;simp only[Rows.uptoBulkAll,AS];omega
def open_kscript(h:DataW.trod enc prog W base spare held fuel 26 cs=some x)(hb:Rows.uptoBulk x.1<=1048576):∃v l,cs=[v]/\KY W v l/\l.length<=1048576/\∀s∈l,s.s.length<=1048576:=by
 rcases open_slice underlying26 h with⟨rfl,rfl⟩|⟨a,len,t,m,n,D,l,rfl,h,O,T,f,rfl,K⟩
 .exact⟨_,[],rfl,⟨none,0,rfl,AF _,AN _,λi h d=>by simp at d⟩,AN _,λs u=>(by cases u)⟩
 have h:len<=m:=by rw[f];split<;>omega
 have e:Rows.uptoBulkAll ((List.range len).map D)<=1048576:=by
  simp only[Rows.uptoBulk]at hb;omega
 have f:=VJ<|(List.range len).map D;rw[BD,CK]at f;have z:∀i,i<len->∃o:Dh,(∃g c,a=⟨g,c,none⟩/\∀(j:Nat) y,o.cells[j]?=some y->W ⟨g,c+i*5+j,none⟩=some y)/\o.Ok/\o.s.length<=1048576:=by
  intro i d;obtain⟨h,f,X⟩:=K i I;obtain⟨l,h,_⟩:=K 0 I;rw[VY]at f h;obtain⟨l,Y⟩:=SI f;obtain⟨f,A⟩:=SI h;obtain⟨g,c,rfl⟩:∃g c,a=⟨g,c,none⟩:=by
   have f:=A 0 I;rw[AJ I]at f;exact iY f
  have p:=AK (Ti<|BL.2 ⟨i,Bn.2 d,rfl⟩) e;obtain⟨o,rfl,Z,B⟩:=gC X p;refine⟨o,⟨g,c,rfl,λj y e=>?_⟩,Z,AK B p⟩;have f:j<5:=(AI.1 e).1;have:=Y j f;rw[zX,zX,Bk]at this;rw[this];exact e
 obtain⟨F,N⟩:=choose_lt (α := Dh) z;refine⟨_,(List.range len).map F,rfl,⟨some a,t,lm,rB O,T,λi o d=>?_⟩,ls,λs u=>?_⟩
 .have q:i<len:=by
   have:=(AO.1 d).1;simpa using this
  have E:o=F i:=by
   simp[q]at d;exact d.symm
  subst E;obtain⟨⟨g,c,rfl,q1⟩,q2,_⟩:=N i q;exact⟨⟨g,c,rfl,q1⟩,q2⟩
 obtain⟨i,d,rfl⟩:=BL.1 u;exact(N i<|Bn.1 d).2.2
end
end
section
open Go.ChangeShapes Go.WideShapes Go.ChangeAt Go.RowKit
open Go.Proofs.Tryz
variable{P:Program}{W W':rq}
theorem UD{H:Type}{enc:TypeId×rt->H}(d:laidOutB P=true)(hb:Below W.heap.size W W'):∀{a:List TypeId} {f:rF} {h:List (DataW H)} {c:List MemPlace},(∀t∈a,P.readableRec t=true/\t<P.types.size) ->
   DataW.TrodAll enc P W 0 (λ_=>true) true a f h c->(∀x∈c,x.block<W.heap.size)->DataW.TrodAll enc P W' 0 (λb=>decide<|b<W.heap.size) true a f h c
 | [],[],[],_,_,h,_=>h
 | t::_,_::_,_::_,_,hT,⟨p,q,h1,h2,e⟩,hs =>
  ⟨p,q,Below.trod d (hT t<|Ay.2<|Or.inl rfl).1 (hT t<|Ay.2<|Or.inl rfl).2 h1 hb<|λx a=>hs x<|by rw[e];exact Br _ a,
   UD d hb (λt c=>hT t<|Ay.2<|Or.inr c) h2 (λx a=>hs x<|by rw[e];exact List.mem_append_right _ a),e⟩
def post_true{H:Type}{enc:TypeId×rt->H}{f:Func}{s:ChangeSpec}{apart d a:Bool}{args:Array rt}{l q:List (DataW H)}{c:List MemPlace}{O:TypeId}
  (u:DataW.Whole enc P f.params.toList s.vars apart W args.toList l q c) (Y:laidOutB P=true) (v:∀t∈f.params.toList,P.readableRec t=true/\t<P.types.size)
  (T:s.vars=[]) (o:(s.fn H<|l++q).results=[.lit (.bool true)]) (e:(s.fn H<|l++q).args=l) (z:(s.fn H<|l++q).vars=[])
  (A:f.resultTypes=#[O]) (B:P.underlying O=some .bool) (hb:Below W.heap.size W W') :
  s.post enc P f apart d a false W args (.bool true) W':=by
 have E:=λx K=>rB<|u.lt x K
 have N:=u;obtain⟨p,q,Z,X,rfl,a,c⟩:=u;rw[T]at X;obtain⟨rfl,rfl⟩:=trodVars_none X;refine⟨l,[],p++[],[],p,[],N,?_,?_,?_,hb.frame _,λh=>by cases h⟩
 .rw[o,A];exact trodAll_mk1<|shut_bool B true
 .rw[e];exact UD Y hb v Z<|λx K=>E x<|Br _ K
 rw[T,z];exact rfl
end
end Go.Proofs.YtddfdpbaiedcjaaGreatDoor
