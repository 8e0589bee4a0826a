/- Streamed. Part 12 of 17. -/
import Derived.Test.YtddfdpbaiedcjabGreatDoorStr10
import Derived.Test.YtddfdpbaiedcjabGreatDoorStr11
import Derived.ProofKit
import Derived.OpenShut
import Derived.Deep.Slices
import Derived.LaidHandle
import Derived.Lib.LaidTab
import Derived.Deep.DeepHandedRow
set_option maxRecDepth 100000
set_option maxHeartbeats 16000000
set_option linter.all false
namespace Go.Proofs.YtddfdpbaiedcjabGreatDoor
section
open Go.RowKit Go.Proofs.Tryz
def Jj(w0 w:rT)(e:rU)(n:Nat)(at_:Int):Prop :=
 (at_ = -1/\e=Dw n)\/∃a,e=.iface 178 (.pointer<|some ⟨a,0,none⟩)/\w.heap[a]?=some (.cells #[[n],[at_]] 183 (0,0))/\w0.heap.size<=a
def Mp(tag:qr)(i b:Nat)(W:rT)(n:Nat)(at_:Int)(c':CS)(e:Ending)(W':rT):Prop :=
 ∃a,e=.returned a/\Jj W W' a n at_/\Dv tag i b W c' W'
def lX:List DF->CS->Prop
 | [],_=>True
 | f::fs,c=>mb c f/\((c.take f).1=0->lX fs { (c.take f).2 with answer:=(c.take f).2.answer||f.kind != 2 })
variable{V:CV}{W W':rT}{b i:Nat}{c:CS}{tag:qr}
def VL(h:zn tag i b c V W)(K:zL tag W)(hi:0<i)(A:c.kN.Ok)(lo m:Nat)(B:m<=zG){e:Ending}(C:PB c.kN V.g 0 lo m V.gv W e W'):e=.returned (.tuple #[])/\Dv tag i b W { c with kN:=c.kN.add lo m } W':=by
 obtain⟨E,rfl,G,L,q,M⟩:=C;refine⟨rfl,?_⟩;have C:∀{g r:Nat},tag g=(i,r)->g<W.heap.size:=λa=>Ds K a hi
 have D:∀g,(g=V.g\/V.gv.ownBlock=some g)->∃r,(r=2\/r=3)/\tag g=(i,r):=λg a=>by
  rcases a with a|a
  .exact⟨2,.inl rfl,by rw[a];exact h.tg⟩
  exact⟨3,.inr rfl,h.nW g a⟩
 have n:∀g,(tag g).1=i->zT tag W W' (i,3) g=tag g:=λg a=>zx<|C (r:=(tag g).2)<|by rw[<-a]
 have hb:¬(b=V.g\/V.gv.ownBlock=some b):=λx=>by
  obtain⟨r,C,e⟩:=D b x;rw[h.tb]at e;have:=Ax Prod.snd e;simp at this;omega
 refine⟨zT tag W W' (i,3),{ V with gv:=E },h.build (R:=λr=>r=2\/r=3) q D n (q.obj hb h.obj) (.inr ⟨?_,?_,λg a=>?_⟩) (λk u=>.inl rK) (λk u=>.inl rK) (λk u=>.inl rK) (λk u=>.inl rK) (λk u=>.inl rK) rL rJ rJ rJ,Gf q.size,q.mono<|λg a=>.inl ?_⟩
 .have N:(c.kN.add lo m).most=c.kN.most:=Hl _ _ _;obtain⟨cs,T,y,z⟩:∃cs T y,W.heap[V.g]?=some (.cells cs T y):=by
   have:=h.kN.cl;unfold World.cell? at this;split at this
   .rename_i o q;exact⟨_,_,_,q⟩
   cases this
  have q:W'.heap[V.g]?=some (.cells ((cs.setIfInBounds 0 E).setIfInBounds (0+1)<|.int .u64 ((c.kN.add lo m).fl:Int)) T y):=by
   rw[L,zc (zc z)]
  have y:2<cs.size:=by
   have:=h.kN.cm;unfold World.cell? at this;simp only[z]at this;exact(AJ.1<|qp this).1
  refine⟨za q<|by rw[CT I,Cw I],za q<|by rw[Cw ol],?_,G,?_,λj=>?_⟩
  .refine za q ?_;have:=h.kN.cm;unfold World.cell? at this;simp only[z]at this;simp[BN];rw[N];simpa using this
  .have u:=A.add lo B;have:=u.rl;have:=u.most.2;show(c.kN.add lo m).rs.length<=_;omega
  have:=h.kN.fz j;unfold World.frozen? at this ⊢;simp only[z]at this;simp only[q];exact this
 .rw[n _ (by rw[h.tg]),h.tg]
 .rcases M g a with y|y
  .rw[n _ (by rw[h.nW g y]),h.nW g y]
  exact FH y<|zI G g a
 obtain⟨r,_,e⟩:=D g a;rw[e]
variable{fl m n:Nat}{rs:zE}
def Kw(q:WF rs)(h:zU rs.length (Je rs n) m):(decide (n<fl)||decide (m<rs.length)&&decide (DE rs m<=n))=G9 rs fl n:=by
 unfold G9;congr 1;rw[Cv,<-Bool.decide_and,AW,Vf q h,Bi];constructor
 .rintro⟨i,g,a,h⟩;refine⟨rs[i],Cq g,?_⟩;have e:rs.getD i (0,0)=rs[i]:=by simp[List.getD,g]
  unfold DE at a;unfold DB at h;rw[e]at a h;simp[a,h]
 rintro⟨r,u,a⟩;obtain⟨i,g,rfl⟩:=Cc.1 u;have e:rs.getD i (0,0)=rs[i]:=by simp[List.getD,g]
 simp only[AV,AW]at a;refine⟨i,g,?_,?_⟩
 .unfold DE;rw[e];exact a.1
 unfold DB;rw[e];exact a.2
def VK(s:DO)(b o n:Nat)(v:rU)(w:rT)(h:Ed w b o v s.rs s.fl s.most)(a:WF s.rs):rH 40 #[(b,o),n] w (λe w'=>e=.returned (.bool (G9 s.rs s.fl n))/\C9 DA w w'):=by
 refine(cD s.rs s.fl s.most b o n v w h).mono ?_;rintro e w' ⟨m,g,rfl,hb⟩;exact⟨by rw[Kw a g],C9.oU hb⟩
def K8(w:rT):(binOp .eql 80 (.iface 41 (.int .i64 7)) (.iface 41 (.int .i64 7))).run prog w=.ok (.bool true) w:=kw
def WN(p:Addr)(w:rT):(binOp .eql 80 (.iface 178 (.pointer (some p))) (.iface 41 (.int .i64 7))).run prog w=.ok (.bool false) w:=kw
def K9(w:rT):(binOp .eql 80 .nilIface (.iface 41 (.int .i64 7))).run prog w=.ok (.bool false) w:=kw
def mJ(c:CS)(e:qq):Prop:=c.closed=0->∀n a,dec e=.ok n a->c.kN.Ok/\n<=zG/\(G9 c.kN.rs c.kN.fl n=false->lX a { c with kN:=c.kN.add n n })
def iU(a:qq)(h:c.closed≠0):c.kL a=((12,-1),c):=by
 unfold CS.kL;rw[AL h]
def fo(h:zn tag i b c V W)(e:zL tag W)(v:rU)(a:qq)(g:c.closed≠0):rH 90 #[(b,0),v] W (Mp tag i b W 12 (-1) c):=by
 have m:=h.hd (j:=4) rfl;have hb:((c.closed:Int)==0)=false:=AM.2 I;have n:=zb<|h.left e rS;obtain⟨q,a⟩:=nm c.closed;rw[a]at m hb;clear h e g a;go_enter func90,ntmps90;go_wp2;go_ret;exact⟨_,rfl,.inl ⟨rfl,rfl⟩,n.z⟩
def fm(h:zn tag i b c V W)(n:zL tag W)(v:rU)(g:qq)(e:BR W v g)(a:Fb W)(y:g.length<1099511627776)(q:c.closed=0)(hd:dec g=.sum):rH 90 #[(b,0),v] W (Mp tag i b W 7 (-1) c):=by
 have m:=Qm v g W e a y;rw[hd]at m;have g:=h.hd (j:=4) rfl;rw[q]at g;have z:=zb h;have A:=zb n;have B:=zb m;obtain⟨g,y,rfl,_⟩:=e;clear h n q m a;go_enter func90,ntmps90;go_wp2_with fail;refine(B.z).mono ?_;rintro e W2 ⟨u,rfl⟩;have a:=zb u;clear u;have e:=K8;go_wp2;go_ret;exact⟨_,rfl,.inl ⟨rfl,rfl⟩,((z.z.kI a.z).kI<|(C9.refl DA _).alloc _).left A.z<|(a.z.alloc _).mono rQ⟩
def fk(h:zn tag i b c V W)(q:zL tag W)(hi:0<i)(v:rU)(n:qq)(at_:Nat)(g:BR W v n)(e:Fb W)(E:n.length<1099511627776)(A:c.closed=0)(hd:dec n=.bad at_):rH 90 #[(b,0),v] W (Mp tag i b W 8 at_ { c with closed:=8 }):=by
 have y:=Qm v n W g e E;rw[hd]at y;have B:=h.hd (j:=4) rfl;rw[A]at B;have C:=zb h;have G:=zb q;have K:=zb y;have n:=Ds q h.tb hi;obtain⟨n,E,rfl,_⟩:=g;clear h q A y e;go_enter func90,ntmps90;go_wp2_with fail;refine(K.z).mono ?_;rintro e W2 ⟨D,u,rfl,m,z⟩;obtain⟨h,e⟩:=nm<|W2.alloc<|.cells #[.int .u64 0,.slice none 0 0] 37;have n:C9 DA W h:=by rw[<-e];exact D.alloc _
 have y:=C.z.kI n;have fz:=y.fz 4;have g:=n.cell (a:=U b 4) id B;have A:zn tag i b { c with closed:=8 } V (h.setCell (U b 4)<|.int .i64 8):=y.store 4 _ (IN _ _ _ _ _ lc rfl rfl rfl rfl) ⟨rfl,λ_ _=>⟨rfl,rfl,rfl⟩,λ_ _=>⟨rfl,rfl⟩,rfl,rfl,rfl,rfl⟩;have B:C9 (λq=>q=b) W (h.setCell (U b 4)<|.int .i64 8):=C9.setCell (S:=λq=>q=b) (n.mono rQ) (p:=U b 4) rO _;have a:h.heap[u]?=some (.cells #[.int .i64 8,[at_]] 183 (0,0)):=by
  have:C9 DA W2 h:=by rw[<-e];exact rS.alloc _
  exact this.obj rP m
 have g:(h.setCell (b,4)<|.int .i64 8).heap[u]?=some (.cells #[.int .i64 8,[at_]] 183 (0,0)):=((C9.refl (λq=>q=b) h).setCell (p:=U b 4) rO _).obj (by show ¬u=b;omega) a;have E:=zb g;have h:=zb z;have z:=zb<|A.left G.z<|C.z.ni B;have q:=zb e;clear D m n y A B a g e;have a:=WN;go_upto_region 4 with fail;rw[q.z];go_wp2;go_ret;exact⟨_,rfl,.inr ⟨u,rfl,E.z,h.z⟩,z.z⟩
variable{X w1:rT}{tag':qr}
def Of{a:rT}{c2:CS}(hi:0<i)(h:DK i tag tag' W w1)(m1:C9 (λg=>(tag g).1=i) W w1)(m:C9 DA w1 X)(n:Dv tag' i b X c2 a):Dv tag i b W c2 a:=by
 obtain⟨e,q,a,u,y⟩:=n.lJ h.z hi m;refine⟨e,q,a,h.trans u m1.size,m1.then y<|λg a=>?_⟩;by_cases q:g<W.heap.size
 .exact .inl (by rw[<-h.lH g q];exact a)
 exact .inr I
variable{c':CS}
def Qc(h:Dv tag i b W c W')(hi:0<i)(j:Nat)(v:rU)(e:∀V,(zA c V).set j v=zA c' V)(s:Ib c c'):Dv tag i b W c' (W'.setCell (b,j) v):=by
 obtain⟨tag',V',n,a,g⟩:=h;have m:C9 (λq=>q=b) W' (W'.setCell (b,j) v):=(C9.refl (λq=>q=b) _).setCell (p:=(b,j)) rO _;refine⟨tag',V',n.store j v (e V') s,⟨a.lH,a.new,a.z.mod m⟩,g.then m<|λg e=>?_⟩;have e:=e;by_cases q:g<W.heap.size
 .exact .inl (by rw[<-a.lH g q,e,n.tb])
 exact .inr I
variable{bs:qq}{fs:List DF}
def VJ(a:c.closed=0)(hd:dec bs=.ok n fs):c.kL bs=if G9 c.kN.rs c.kN.fl n then((0,-1),c)else(((CS.kV fs { c with kN:=c.kN.add n n }).1,-1),(CS.kV fs { c with kN:=c.kN.add n n }).2):=by
 unfold CS.kL;rw[AH I,hd]
variable{f:DF}
def T5(h:(c.take f).1=0):CS.kV (f::fs) c=CS.kV fs { (c.take f).2 with answer:=(c.take f).2.answer||f.kind != 2 }:=by
 rw[CS.kV,AH (by rw[h];simp)]
def T4(h:(c.take f).1≠0):CS.kV (f::fs) c=((c.take f).1,{ (c.take f).2 with closed:=(c.take f).1,said:=(c.take f).1==13 }):=by
 rw[CS.kV,AL h]
theorem fj(h:zn tag i b c V W)(ht:zL tag W)(hi:0<i)(v:rU)(bs:qq)(n:Nat)(u:List DF)(ar:BR W v bs)(ad:Fb W)(hl:bs.length<1099511627776)(hc:c.closed=0)(hd:dec bs=.ok n u)(ok:mJ c bs)(aR:u.length<=1099511627776):rH 90 #[(b,0),v] W (Mp tag i b W (c.kL bs).1.1 (c.kL bs).1.2 (c.kL bs).2):=by
 have kd:=Qm v bs W ar ad hl;rw[hd]at kd;obtain⟨o1,o2,o3⟩:=ok hc n u hd;rw[VJ hc hd];have c4:=h.hd (j:=4) rfl;rw[hc]at c4;obtain⟨hb,ag⟩:=nm<|G9 c.kN.rs c.kN.fl n;rw[ag]at o3 ⊢;obtain⟨R,hR⟩:∃o,(if hb=true then((0,-1),c)else(((CS.kV u { c with kN:=c.kN.add n n }).1,-1),(CS.kV u { c with kN:=c.kN.add n n }).2):(Nat×Int)×CS)=o:=⟨_,rfl⟩;rw[hR];have HR:=zb hR;clear hR;have HH:=zb h;have HT:=zb ht;have C:=zb hi;have KD:=zb kd;have O1:=zb o1;have O2:=zb o2;have O3:=zb o3;have aS:=zb ag;have q2:=o2;unfold zG at q2;obtain⟨va,vc,rfl,_⟩:=ar;clear h ht hc kd ad ok hd o1 o2 o3 ag;go_enter func90,ntmps90;go_wp2_with fail;refine(KD.z).mono ?_;rintro e W2 ⟨m2,h,Y,rfl,q,G,ah,au⟩;obtain⟨fa,fc,rfl,q3,q4,_⟩:=zi q.1;have ai:Y.length=u.length:=by rw[<-G,Az]
 obtain⟨N,hN⟩:=nm u.length;rw[hN]at aR;rw[ai,hN]at q ah q3 ⊢;unfold maxLen at q4;obtain⟨W3,h⟩:=nm<|W2.alloc<|.cells #[n,.slice fa N fc] 37;have m3:C9 DA W W3:=by rw[<-h];exact m2.alloc _
 have aj:=AB h;have oP:=AD h;obtain⟨E,aa⟩:=nm W2.heap.size;rw[aa]at oP;have p0:=za (o:=0) oP rfl;have p1:W3 (E,1)=some (.slice fa N fc):=za (o:=1) oP rfl;have h3:=HH.z.kI m3;have c7:=h3.hd (j:=7) rfl;have kh:=VK c.kN V.g 0 n V.gv W3.drew (h3.kN.mod (C9.refl DA W3).drew rP<|λ_ _ x=>x) O1.z.wf;rw[aS.z]at kh;have ae:W.heap.size<=E:=by rw[<-aa];exact m2.size
 have A:=(EV.qO q).kI aj;have KH:=zb kh;have H3:=zb h3;have L:=zb m3;have aT:=zb aj;have av:=zb A;have aU:=zb ah;have aw:=zb au;have aV:=zb<|λx hx g hg=>zI (q.2 x hx).1 g hg;have aW:=zb G;have aX:=zb ai;have HN:=zb hN;have aY:=zb h;have aZ:=zb aa;have a0:=zb ae;have hE:=K9;clear m2 m3 aj oP h3 kh ae A q ah au G ai hN h aa;go_upto_region 9 with fail;rw[aY.z,aZ.z];refine zN ?_;refine zr 8 (λw'=>w' (U b 7)=some (.pointer V.g)/\w' E=some (.int .u64 n)) (⟨c7,p0⟩) ?_;refine GI 0 ?_;iterate 6
  refine GV rfl ?_;try simp only[PS]
 refine zD 6 rfl (λK hK=>?_);go_simp;go_simp
 with_reducible refine(KH.z).mono ?_
 rintro e B ⟨rfl,m4⟩;have M4:=zb m4;have h:B (b,7)=some (.pointer V.g)/\B E=some (.int .u64 n):=⟨m4.cell (a:=U b 7) id c7,m4.cell (a:=E) id p0⟩;clear m4;go_simp;refine hK.z _ _ h ?_;clear h;clear hK K;try simp only[PS]
 refine GI 7 ?_;refine GV rfl ?_;try simp only[PS]
 refine zt ?_;refine⟨rfl,?_⟩;cases hb with
 | true =>
  go_wp2;go_ret;rw[<-HR.z];simp only[Aq];exact⟨_,rfl,.inl ⟨rfl,rfl⟩,(H3.z.kI<|(C9.refl DA W3).drew.trans M4.z).left HT.z<|(L.z.trans<|(C9.refl DA W3).drew.trans M4.z).mono rQ⟩
 | false =>
 have h:=(C9.refl DA W3).drew.trans M4.z;have G:=H3.z.kI h;have ax:=HT.z.mod<|L.z.trans h;have hm:=O1.z.most;have ay:=O1.z.rl;have q:=O1.z.fl;unfold zG at q;have aA:V.gv.ownBlock≠some V.g:=λe=>by
  have h5:=G.nW V.g e;rw[G.tg]at h5;have:=Ax Prod.snd h5;simp at this
 have ka:=Jw c.kN V.g 0 n n V.gv B.drew (G.kN.mod (C9.refl DA B).drew rP<|λ_ _ x=>x) O1.z.wf I I I aA hm.1 I;have aB:=ka.mono<|λe w' x=>VL (G.kI (C9.refl DA B).drew) (ax.mod (C9.refl DA B).drew) C.z O1.z n n O2.z x;have KA:=zb aB;have d7:=h.cell (a:=U b 7) id c7;have d0:=h.cell (a:=E) id p0;have d1:=h.cell (a:=U E 1) id p1;have m:=zb h;clear ka aB G ax hm ay q aA h p0 p1 c7 c4 hE;go_upto_region 11 with fail;refine zN ?_;refine zr 8 (λw'=>w' (U b 7)=some (.pointer V.g)/\w' E=some (.int .u64 n)) (⟨d7,d0⟩) ?_;refine GI 0 ?_;iterate 8
  refine GV rfl ?_;try simp only[PS]
 refine Dt rfl (λK hK=>?_);go_simp
 with_reducible refine(KA.z).mono ?_
 rintro e W5 ⟨rfl,l5⟩;have G:=zb l5;clear l5;go_simp;refine hK.z _ _ ?_;clear hK K;try simp only[PS]
 refine zt ?_;refine⟨rfl,?_⟩;have h:=HT.z E a0.z;have K:W5 (E,1)=some (.slice fa N fc):=by
  obtain⟨M,V5,_,_,q⟩:=G.z;exact q.cell (a:=U E 1) (by
   show ¬(tag E).1=i;rw[h];have:=C.z;simp;omega) d1
 have h:=zb h;clear d7 d0 d1;go_wp2_with fail;obtain⟨c0,h⟩:∃o,({ c with kN:=c.kN.add n n }:CS)=o:=⟨_,rfl⟩;have aC:=zb (by
  have:=HR.z;rw[AH nl,h]at this;exact this.symm)
 have q:=zb<|O3.z trivial;rw[h]at G q;clear HR O3 h;have h:=G.z.lJ (W:=B) (HT.z.mod<|L.z.trans m.z) C.z (C9.refl DA B).drew;have n:=zb h;have E:=zb<|AR L.z.size m.z.size;have aD:=zb<|AR aT.z.size m.z.size;have E:=zb<|HT.z.mod<|L.z.trans m.z;have a1:=zb<|av.z.kI m.z;clear h G av
 go_loopw [53] (λh wr=>∃(k:Nat) (c':CS),k<=N/\h=.int .i64 k/\AA (Dv tag i b B c' wr/\CS.kV (u.drop k) c'=CS.kV u c0/\lX (u.drop k) c')) (λh _=>N-(intOf h).toNat)
 case atStart=>exact⟨0,c0,AK _,rfl,zb ⟨n.z,nl,qp q.z⟩⟩
 case round =>
  clear n q K;obtain⟨k,c1,h,rfl,HQ⟩:=hrel;by_cases aE:k<N
  .obtain⟨af,h,h1,e1,m1⟩:=HQ.z.1;have ab:∀g,W.heap.size<=g->(tag g).1≠i:=λg hg x=>by
    rw[HT.z g hg]at x;have:=C.z;simp at x;omega
   have A:=a1.z.mod m1 (λg o n' c' e x=>by
    cases e;exact ab g (aU.z g rfl) x) (λfr D g o n' c' e x=>ab g (aw.z fr D g<|by rw[e];rfl) x)
   obtain⟨n,h,aF,_,_,aG⟩:=A;have aH:k<Y.length:=by rw[aX.z,HN.z];exact aE
   obtain⟨⟨f,rv⟩,D⟩:∃fr,Y[k]?=some fr:=⟨Y[k],AG aH⟩;have ak:u[k]?=some f:=by rw[<-aW.z,Ad,D];rfl
   obtain⟨⟨q,o2,a2,al⟩,O⟩:=aG k (f,rv) D;have a3:n=fa/\h=fc:=by cases aF;exact rM
   obtain⟨rfl,rfl⟩:=a3;subst a2;simp only at al O;have X:=AZ D;have aI:∀g,Value.kr rv=some g->(af g).1≠i:=λg hg=>by
    have aJ:rv.ownBlock=some g:=by
     obtain⟨ra,rc,e,_⟩:=id O;subst e;cases ra with
     | none=>cases hg
     | some a=>exact hg
    have h5:=aw.z (f,rv) X g aJ;have h6:=aV.z (f,rv) X g aJ;rw[e1.lH g (Au h6 aD.z)];exact ab g h5
   obtain⟨x0,x1,x2,x3,x4,x5,x6,x7,x8,x9⟩:=GC al;obtain⟨ra,rc,aK,_⟩:=id O;subst aK;have E:u.drop k=f::u.drop (k+1):=by
    have a:k<u.length:=by rw[HN.z];exact aE
    rw[B5 a];rw[AG a]at ak;rw[Bc ak]
   have g:=HQ.z.2.1;have a:=HQ.z.2.2;rw[E]at g a;obtain⟨G,K⟩:=a;obtain⟨Y,a⟩:=nm<|wr.alloc<|.cells (ze f<|.slice ra f.kC.length rc) 48;have M:=AB a;have a4:=AC a;have aL:zp Y wr.heap.size f (.slice ra f.kC.length rc):=by rw[<-a];exact heap_alloc_new wr _
   have ka:=dd (h1.kI M) (e1.z.mod M) C.z f (.slice ra f.kC.length rc) (O.mod M<|DN.no _) aI G;have aM:=e1.z _<|AI _;obtain⟨y0,y1,y2,y3,y4,y5,y6,y7,y8,y9⟩:=aL.cells;have Z:AA (∀W6 c2,Dv af i b Y c2 W6->Dv tag i b B c2 W6/\W6.heap[wr.heap.size]?=Y.heap[wr.heap.size]?):=zb (λW6 c2 l=>⟨Of C.z e1 m1 M l,by
    obtain⟨aN,V6,_,_,m6⟩:=l;refine m6.block _ I<|λx=>?_;rw[aM]at x;have:=C.z;simp at x;omega⟩)
   obtain⟨n,h⟩:=nm wr.heap.size;rw[h]at Z y0 y1 y2 y3 y4 y5 y6 y7 y8 y9;obtain⟨n,Y⟩:=nm f.kC.length;rw[Y]at x9 a y9 ka;obtain⟨KD,n⟩:=nm f.kind;unfold ze at a ka;rw[n]at x0 y0 a ka;obtain⟨y,q⟩:=nm<|(c1.take f).1;obtain⟨z,A⟩:=nm<|(c1.take f).2;rw[q,A]at ka;have KA:=zb ka;have aO:=zb n;have ac:=zb q;have am:=zb A;have ao:=zb g;have aP:=zb K;have HY:=zb a;have a5:=zb h;clear aG D al O M a4 aL ka aM aI X ak aF G K g a h Y n q A h1 e1 m1 ab aH E;go_upto_region 15 with fail;rw[HY.z,a5.z];go_wp2_with fail;refine(KA.z).mono ?_;rintro e W6 ⟨rfl,l6⟩;obtain⟨e,a⟩:=Z.z W6 z l6;have g:=(World.cell?_of_block a).trans y0;obtain⟨aN,V6,h6,g,m6⟩:=id e;have L7:=zb e;clear KA Z l6 e a x0 x1 x2 x3 x4 x5 x6 x7 x8 x9 y0 y1 y2 y3 y4 y5 y6 y7 y8 y9 g m6;by_cases hz:y=0
   .subst hz;obtain⟨an,a⟩:=nm z.answer;have e:W6 (b,8)=some (.bool an):=by rw[<-a];exact h6.hd (j:=8) rfl
    have e:=h6.fz 8;have ap:AA (∀x:Bool,Dv tag i b B { z with answer:=x }<|W6.setCell (U b 8)<|.bool x):=zb<|λx=>Qc L7.z C.z 8 _ (λV=>IN z { z with answer:=x } V V (j:=8) _ lc rfl rfl rfl rfl) ⟨rfl,λ_ _=>⟨rfl,rfl,rfl⟩,λ_ _=>⟨rfl,rfl⟩,rfl,rfl,rfl,rfl⟩;have aq:AA (∀x:Bool,x=(an||KD != 2)->CS.kV (u.drop<|k+1) { z with answer:=x }=CS.kV u c0/\lX (u.drop<|k+1) { z with answer:=x }):=zb (λx hx=>by
     have h5:=ao.z;have e:=aP.z ac.z;rw[T5 ac.z,am.z,a,aO.z,<-hx]at h5;rw[am.z,a,aO.z,<-hx]at e;exact⟨h5,e⟩)
    clear h6 a aP ao;cases an with
    | true =>
     go_wp2;go_roundw
     case rel=>exact⟨k+1,{ z with answer:=true },I,by go_num,zb ⟨ap.z true,aq.z true nl⟩⟩
     simp[intOf];omega
    | false =>
     by_cases aQ:KD=2
     .subst aQ;go_wp2;go_roundw
      case rel=>exact⟨k+1,{ z with answer:=false },I,by go_num,zb ⟨ap.z false,aq.z false nl⟩⟩
      simp[intOf];omega
     have a:(KD==2)=false:=qp aQ;go_wp2;go_roundw
     case rel=>exact⟨k+1,{ z with answer:=KD != 2 },I,by go_num,zb ⟨ap.z<|KD != 2,aq.z (KD != 2) nl⟩⟩
     simp[intOf];omega
   have a:((y:Int)==0)=false:=by rw[AM];omega
   have c4:∃v,W6 (b,4)=some v:=⟨_,h6.hd (j:=4) rfl⟩;obtain⟨a,c4⟩:=c4;have a:=h6.fz 4;have e:=Qc L7.z C.z 4 (.int .i64 y) (c':={ z with closed:=y }) (λV=>IN z { z with closed:=y } V V (j:=4) _ lc rfl rfl rfl rfl) ⟨rfl,λ_ _=>⟨rfl,rfl,rfl⟩,λ_ _=>⟨rfl,rfl⟩,rfl,rfl,rfl,rfl⟩;obtain⟨a,h,g,_,_⟩:=id e;obtain⟨a,h⟩:∃v,(W6.setCell (U b 4)<|.int .i64 y) (U b 5)=some v:=⟨_,g.hd (j:=5) rfl⟩;have a:=g.fz 5;have h:=Qc e C.z 5 (.bool<|y==13) (c':={ z with closed:=y,said:=y==13 }) (λV=>IN _ _ V V (j:=5) _ lc rfl rfl rfl rfl) ⟨rfl,λ_ _=>⟨rfl,rfl,rfl⟩,λ_ _=>⟨rfl,rfl⟩,rfl,rfl,rfl,rfl⟩;have n:=zb h;have a:AA (R=((y,-1),{ z with closed:=y,said:=y==13 })):=zb (by
    rw[aC.z,<-ao.z,T4<|by rw[ac.z];exact hz,ac.z,am.z])
   have q:=zb hz;clear h6 g e h hz;by_cases g:y=13
   .have h:((y:Int)==13)=true:=by rw[Ch];omega
    have e:(y==13)=true:=qp g;rw[e]at n a;clear g e;go_wp2;go_ret;rw[a.z];exact⟨_,rfl,.inl ⟨rfl,by rw[Ic q.z];rfl⟩,Of C.z (DK.same HT.z<|L.z.trans m.z) ((L.z.trans m.z).mono rQ) (C9.refl DA B) n.z⟩
   have h:((y:Int)==13)=false:=by rw[AM];omega
   have e:(y==13)=false:=qp g;rw[e]at n a;clear g e;go_wp2;go_ret;rw[a.z];exact⟨_,rfl,.inl ⟨rfl,by rw[Ic q.z];rfl⟩,Of C.z (DK.same HT.z<|L.z.trans m.z) ((L.z.trans m.z).mono rQ) (C9.refl DA B) n.z⟩
  have e:k=N:=I;have a:AA (R=((0,-1),c1)):=zb (by
   rw[aC.z,<-HQ.z.2.1,BX (by rw[HN.z];omega)];rfl)
  clear e;go_wp2;go_ret;rw[a.z];exact⟨_,rfl,.inl ⟨rfl,rfl⟩,Of C.z (DK.same HT.z<|L.z.trans m.z) ((L.z.trans m.z).mono rQ) (C9.refl DA B) HQ.z.1⟩
theorem jb(h:zn tag i b c V W)(y:zL tag W)(hi:0<i)(v:rU)(a:qq)(m:BR W v a)(g:Fb W)(z:a.length<1099511627776)(ok:mJ c a)(A:∀n q,dec a=.ok n q->q.length<=1099511627776):rH 90 #[(b,0),v] W (Mp tag i b W (c.kL a).1.1 (c.kL a).1.2 (c.kL a).2):=by
 by_cases u:c.closed=0
 .cases hd:dec a with
  | sum =>
   have e:c.kL a=((7,-1),c):=by unfold CS.kL;rw[AH I,hd]
   rw[e];exact fm h y v a m g z u hd
  | bad p =>
   have e:c.kL a=((8,(p:Int)),{ c with closed:=8 }):=by unfold CS.kL;rw[AH I,hd]
   rw[e];exact fk h y hi v a p m g z u hd
  | ok n q=>exact fj h y hi v a n q m g z u hd ok<|A n q hd
 rw[iU a u];exact fo h y v a u
variable{w:rT}
def VI{w0:rT}{a:rU}{at_:Int}(h:Jj w0 w a n at_)(e:Ex w):rH 70 #[a] w (MS w (n:Int) at_):=by
 rcases h with⟨rfl,rfl⟩|⟨q,rfl,g,_⟩
 .by_cases m:n=0
  .subst m;exact Sb w
  rw[Ic m];exact RO (n:Int) w e
 exact Kl q (n:Int) at_ w e (za g rfl)<|za g rfl
def Jj.shape{w0:rT}{a:rU}{at_:Int}(h:Jj w0 w a n at_):a=.nilIface\/∃t u,a=.iface t u:=by
 rcases h with⟨_,rfl⟩|⟨a,rfl,_⟩
 .unfold Dw;split
  .exact .inl rfl
  exact .inr ⟨_,_,rfl⟩
 exact .inr ⟨_,_,rfl⟩
variable{S:Nat->Prop}{w':rT}
def Jj.mod{w0:rT}{a:rU}{at_:Int}(h:Jj w0 w a n at_)(m:C9 S w w')(q:∀g,S g->g<w0.heap.size):Jj w0 w' a n at_:=by
 rcases h with h|⟨e,rfl,u,y⟩
 .exact .inl h
 exact .inr ⟨e,rfl,m.obj (λx=>qm<|q e x) u,y⟩
def ja(h:zn tag i b c V W)(E:Dn i tag W)(s:qq)(K:s.length<1099511627776)(ok:mJ c s)(u:∀n R,dec s=.ok n R->R.length<=1099511627776):rH 48 #[(b,0),.string (zy s)] W (EN tag i b W (.tuple #[.int .i64 ((c.kL s).1.1:Int),.int .i64 (c.kL s).1.2]) (c.kL s).2):=by
 obtain⟨n,W1,L,a,y,z,A⟩:=QV W s I;have M:=jb (h.kI y) (E.ok.mod y) E.pos _ s a (E.kI y).tab K ok u;have N:s.length<=n/\n<=maxLen:=by
  obtain⟨_,_,e,O,D,_⟩:=a;cases e;exact⟨O,D⟩
 obtain⟨n,e⟩:=N;unfold maxLen at e;have m:=zb E;have M1:=zb y;have HB:=zb A;have HS:=zb z;obtain⟨R,e⟩:=nm<|c.kL s;rw[e]at M ⊢;have K1:=zb M;clear h E a y A z ok u M;go_enter func48,ntmps48;go_wp2_with fail;refine(K1.z).mono ?_;rintro _ W2 ⟨a,rfl,B,X⟩;clear K1;obtain⟨tag',V',O,D,e⟩:=id X;have h:=(m.z.kI M1.z).left D e;have a:=HB.z.mod e (λx=>by
  have:=m.z.ok W.heap.size<|AI _;rw[this]at x;have:=m.z.pos;simp at x;omega)
 have HL:=zb X;have Y:=zb a;have C:=zb B;have Z:=zb h;clear X O D e h a L B;rcases C.z.shape with rfl|⟨a,e,rfl⟩;all_goals
  go_wp2_with fail
  go_loopw [16] (λa wr=>∃j:Nat,j<=s.length/\a=.int .i64 j/\AA (G0 wr W.heap.size s.length/\C9 (λg=>g=W.heap.size) W2 wr)) (λa _=>s.length-(intOf a).toNat)
  case atStart=>exact⟨0,AK _,rfl,zb ⟨Y.z,C9.refl _ _⟩⟩
  case round =>
   obtain⟨j,a,rfl,q⟩:=hrel;by_cases a:j<s.length
   .obtain⟨⟨e,h⟩,n⟩:=q.z.1.cell a;have a:=zb<|q.z.1.set j<|.int .u8 33;have e:=zb<|q.z.2.setCell (p:=(W.heap.size,j)) rO<|.int .u8 33;go_wp2;go_roundw
    case rel=>exact⟨j+1,I,by go_num,zb ⟨a.z,e.z⟩⟩
    simp[intOf];omega
   have a:∀g,g=W.heap.size->g<W1.heap.size:=λg G=>by rw[G,HS.z];omega
   have e:=VI (C.z.mod q.z.2 a) (Z.z.err.mod q.z.2 (λx=>by
    have x:=x;have:=m.z.tab.lt;omega))
   have h:=zb e;clear e a;go_wp2_with fail;refine(h.z).mono ?_;rintro _ a ⟨rfl,m4⟩;have H:=zb ((HL.z.thenS m.z.ok m.z.pos M1.z q.z.2 (λg G=>by
    have G:=G;have:=HS.z;omega)).lR m4)
   clear m4;go_wp2;go_ret2;exact⟨rfl,H.z⟩
theorem Fg.shape{r:FK}{e:Ending}(h:Fg w r e w'):∃x g u q y,e=.returned (.tuple #[.agg #[.int .u64 x,.slice g u q],y]):=by
 cases r with
 | sum=>exact⟨_,_,_,_,_,h.2⟩
 | bad a=>obtain⟨_,g,m,_⟩:=h;exact⟨_,_,_,_,_,m⟩
 | ok n fs =>
  obtain⟨_,e,a,m,z,_⟩:=h;obtain⟨g,q,rfl,_⟩:=zi z.1;exact⟨_,_,_,_,_,m⟩
theorem Fg.from{r:FK}{e:Ending}(m:C9 DA w X)(h:Fg X r e w'):Fg w r e w':=by
 refine⟨m.trans h.1,?_⟩;have e:=m.size;cases r with
 | sum=>exact h.2
 | bad a =>
  obtain⟨_,g,a,e,m⟩:=h;exact⟨g,a,e,I⟩
 | ok n fs =>
  obtain⟨_,m,g,a,e,n,q,u⟩:=h;exact⟨m,g,a,e,n,λg a=>qm<|q g a,λx e g a=>qm<|u x e g a⟩
def Hx(w:rT)(r:FK)(e:Ending)(w':rT):Prop :=
 C9 DA w w'/\match r with
 | .sum=>e=.returned (.tuple #[.agg #[.int .u64 0,.slice none 0 0],.int .i64 7,.int .i64 (-1)])
 | .bad at_=>e=.returned (.tuple #[.agg #[.int .u64 0,.slice none 0 0],.int .i64 8,[at_]])
 | .ok num fs=>∃h a,e=.returned (.tuple #[.agg #[.int .u64 num,h],.int .i64 0,.int .i64 (-1)])/\EV w' h a/\a.map (·.1)=fs/\(∀g,h.ownBlock=some g->w.heap.size<=g)/\∀x∈a,∀g,x.2.ownBlock=some g->w.heap.size<=g
theorem Hx.from{r:FK}{e:Ending}(m:C9 DA w X)(h:Hx X r e w'):Hx w r e w':=by
 refine⟨m.trans h.1,?_⟩;have e:=m.size;cases r with
 | sum=>exact h.2
 | bad a=>exact h.2
 | ok n fs =>
  obtain⟨_,e,a,g,m,n,q,u⟩:=h;exact⟨e,a,g,m,n,λg a=>qm<|q g a,λx e g a=>qm<|u x e g a⟩
theorem Tx(h:bs.length=n+4):bs.take n++EP (Dz (bs.take n))=bs↔Gr bs n=Dz (bs.take n):=by
 have g:(bs.take n).length=n:=ol;constructor
 .intro e;have:=Rx (bs.take n) (Dz<|bs.take n)<|Lf _;rw[g,e]at this;exact this
 intro e;rw[<-e];have hd:=(BZ n bs).symm;have h:(bs.drop n).length=4:=ol;have g:∀i,bs.getD (n+i) 0=(bs.drop n).getD i 0:=λi=>by simp[AQ]
 have m:=g 0;have q:=g 1;have u:=g 2;have y:=g 3;rw[Bb]at m;unfold Gr DQ;rw[m,q,u,y]
 conv=>rhs;rw[hd]
 congr 1
 match bs.drop n,h with
 | [a,b,c,d],_ =>
  have g:=a.toNat_lt;have hb:=b.toNat_lt;have g:=c.toNat_lt;have hd:=d.toNat_lt;have e:∀(x:UInt8) (m:Nat),m % 256=x.toNat->UInt8.ofNat m=x:=λx m g=>by
   apply Cd.1;rw[BH];exact g
  simp only[EP,List.getD_cons_zero,List.getD_cons_succ];rw[e a _ I,e b _ I,e c _ I,e d _ I]
def Sj(l:qq):(zy l).toList=l:=by simp[zy]
variable{rv v:rU}
def Ye{m:rT}{u:rU}{a:List (DF×rU)}(h:EV W v a)(y:Dj W rv f.kC)
  (A:m.ownsRow 0 48 10 u (a.length+1) (E0<|a++[(f,rv)])) (B:W.grownBy m v.ownBlock):EV m u (a++[(f,rv)]):=by
 have z:=rS.grown B<|λk a=>.inl a;refine⟨qp A,λx e=>?_⟩;rcases Ap.1 e with e|e
 .exact(h.2 x e).mod z (λg n q=>OP h.1 (h.2 x e).1 lc q n)
 simp only[As]at e;subst e;exact y.mod z<|λg n q=>OP h.1 y.1 lc q n
def Oj(a:Array rU)(w:rT)(e:Nat)(n g:rU)(h:a.getD 2 undef=.pointer e)
  (c0:w e=some n) (c1:w (e,1)=some g) :
  (results f8 a).run prog w=.ok (.tuple #[.agg #[n,g],a.getD 3 undef,a.getD 4 undef]) w:=by
 have g:a[2]?.getD undef=.pointer e:=by rw[<-h];simp
 simp[results,results8,go_sem,g,c0,c1]
def Gs(w:rT)(a:Nat):Prop:=w.heap[a]?=some (.cells #[.int .u64 0,.slice none 0 0] 37 (0,0))
def PG(w wr:rT)(g m:Nat)(v:rU)(bd:qq)(num:Nat)(R:FK):Prop :=
 ∃fuel a h e,Dm wr g v a false/\Fo wr m num h/\Gs wr w.heap.size/\EV wr h e/\(∀g,h.ownBlock=some g->w.heap.size<=g)/\(∀x∈e,∀g,x.2.ownBlock=some g->w.heap.size<=g) /\
  a<=bd.length/\bd.length-a<fuel/\e.length<=a/\C9 DA w wr/\BR wr v bd/\R=Fu bd fuel num a (e.map (·.1))
def MQ(w:rT)(a:Nat):Nat:=match w (a,1)with
 | some (.int _ n)=>n.toNat
 | _=>0
variable{bad:Bool}{pos rb:Nat}
def TK(h:Dm w rb v pos bad):MQ w rb=pos:=by
 unfold MQ;rw[h.c1];simp
variable{q:Nat}
def Gs.set(h:Gs W q):Gs ((W.setCell q (.int .u64 0)).setCell (q,1) (.slice none 0 0)) q:=by
 unfold Gs at h ⊢;rw[zc (zc h)];simp
def N8(W:rT)(q:Nat)(x y:rU):C9 (λk=>k=q) W ((W.setCell q x).setCell (q,1) y) :=
 ((C9.refl (λk=>k=q) W).setCell (p:=q) rO _).setCell (p:=U q 1) rO _
def QC(w:rT):Gs (w.alloc (.cells #[.int .u64 0,.slice none 0 0] 37)) w.heap.size:=heap_alloc_new w _
def fS(v:rU)(e:qq)(w:rT)(hb:BR w v e)(a:e.length<4):rH 8 #[v] w (Hx w .sum):=by
 obtain⟨a,g,rfl,n,h,m⟩:=hb;unfold maxLen at h;have d:(e.length:Int)<4:=I;have a:=QC w;have e:C9 DA w (w.alloc<|.cells #[.int .u64 0,.slice none 0 0] 37):=rS.alloc _;obtain⟨W0,g⟩:=nm<|w.alloc<|.cells #[.int .u64 0,.slice none 0 0] 37;rw[g]at a e;have g:W0 w=some (.int .u64 0):=za a rfl;have g:W0 (w,1)=some (.slice none 0 0):=za a rfl;have g:W0.frozen? ⟨w.heap.size,0,none⟩=false:=zd a;have g:W0.frozen? ⟨w.heap.size,1,none⟩=false:=zd a;have g:=zb a;have h:=zb e;clear m a e;go_enter func8,ntmps8;go_wp2_with fail;have a:=g.z.set;refine bodyPost_ret (Oj _ _ w.heap.size (.int .u64 0) (.slice none 0 0) rfl (za a rfl) (za a rfl)) rfl ?_;exact⟨h.z.then (N8 _ _ _ _)<|λk a=>.inr (by have a:=a;omega),rfl⟩
def Ws(v:rU)(g:qq)(n:Nat)(w:rT)(hb:BR w v g)(G:g.length=n+4)(q:g.length<=549755813888)(K:Gr g n≠Dz (g.take n)):rH 8 #[v] w (Hx w .sum):=by
 have HB:=zb hb;obtain⟨a,u,rfl,q,m,M⟩:=id hb;unfold maxLen at m;have d:¬(g.length:Int)<4:=I;have m:IntKind.i64.wrap ((g.length:Int)-4)=(n:Int):=by rw[(I:(g.length:Int)-4=n)];exact IntWalk.i64_in _ I
 have C:=QC w;have A:C9 DA w (w.alloc<|.cells #[.int .u64 0,.slice none 0 0] 37):=rS.alloc _;obtain⟨W0,q⟩:=nm<|w.alloc<|.cells #[.int .u64 0,.slice none 0 0] 37;rw[q]at C A;have m:=(hb.pre (n:=n) I).mod A<|DN.no _;have y:(g.take n).length=n:=ol;have D:=OY (.slice a n u) (g.take n) W0 m I;have a:¬g.take n++EP (Dz<|g.take n)=g:=λe=>K<|(Tx G).1 e
 have N:((zy<|g.take n++EP (Dz<|g.take n)).toList==(zy g).toList)=false:=by
  rw[Sj,Sj,AM];exact a
 obtain⟨R,y⟩:=nm<|g.take n++EP (Dz<|g.take n);rw[y]at D N;have O:=zb C;have L:=zb A;have g:=zb q;have N:n<=u:=I;clear M C A hb q m K y G a;go_enter func8,ntmps8;go_wp2_with fail;rw[g.z];refine D.mono ?_;clear D;rintro e z ⟨e,rfl,E,B,a⟩;have c1:=FZ E.br;have c2:=FZ<|(HB.z.mod L.z<|DN.no _).mod B<|DN.no _;have h:=B.obj rP O.z;obtain⟨a,e,rfl,_⟩:=zi E;have a:z w=some (.int .u64 0):=za h rfl;have a:z (w,1)=some (.slice none 0 0):=za h rfl;have a:z.frozen? ⟨w.heap.size,0,none⟩=false:=zd h;have a:z.frozen? ⟨w.heap.size,1,none⟩=false:=zd h;have a:AA (Gs z w.heap.size):=h;have g:=zb<|L.z.trans B;clear h B E;go_wp2_with fail;have e:=a.z.set;refine bodyPost_ret (Oj _ _ w.heap.size (.int .u64 0) (.slice none 0 0) rfl (za e rfl) (za e rfl)) rfl ?_;exact⟨g.z.then (N8 _ _ _ _)<|λk a=>.inr (by have a:=a;omega),rfl⟩
def P9{at_:Nat}{tmps:Array rU}(m:C9 DA w X)(e:Gs X w.heap.size)(g:tmps.getD 2 undef=.pointer w)(h:tmps.getD 3 undef=.int .i64 8)(n:tmps.getD 4 undef=.int .i64 at_):bodyPost prog f8 (Hx w (.bad at_)) .ret { tmps:=tmps,defers:=[] } ((X.setCell w.heap.size (.int .u64 0)).setCell (w.heap.size,1) (.slice none 0 0)):=by
 have a:=e.set;refine bodyPost_ret (Oj _ _ w.heap.size (.int .u64 0) (.slice none 0 0) g (za a rfl)<|za a rfl) rfl ?_;refine⟨m.then (N8 _ _ _ _)<|λk a=>.inr (by have a:=a;omega),?_⟩;show _=_;rw[h,n]
def Yd(v:rU)(N:qq)(n:Nat)(w:rT)(hb:BR w v N)(hn:N.length=n+4)(a:N.length<=549755813888)(hs:Gr N n=Dz (N.take n)):rH 8 #[v] w (Hx w (ER (N.take n))):=by
 have HB:=zb hb;obtain⟨a,y,rfl,h1,h2,h3⟩:=id hb;unfold maxLen at h2;obtain⟨g,o,rfl,kk⟩:=hb.byte (i:=n) I;have a:=zo kk;have d:¬(N.length:Int)<4:=I;have a:IntKind.i64.wrap ((N.length:Int)-4)=(n:Int):=by rw[(I:(N.length:Int)-4=n)];exact IntWalk.i64_in _ I
 have oQ:=QC w;have m0:C9 DA w (w.alloc<|.cells #[.int .u64 0,.slice none 0 0] 37):=rS.alloc _;obtain⟨W0,ad⟩:=nm<|w.alloc<|.cells #[.int .u64 0,.slice none 0 0] 37;rw[ad]at oQ m0;have a:=AC ad;have a:=(hb.pre (n:=n) I).mod m0<|DN.no _;have a6:(N.take n).length=n:=ol;have ks:=OY (.slice (g,o) n y) (N.take n) W0 a I;rw[(Tx hn).2 hs]at ks;have HP:=zb a;have HQ:=zb oQ;have M0:=zb m0;have a8:=zb ad;have bk:n<=y:=I;have bl:n<=549755813884:=I;obtain⟨bd,an⟩:=nm<|N.take n;rw[an]at HP a6;rw[an];obtain⟨R,N⟩:=nm<|ER bd;have ao:=zb N;rw[N];clear N;clear h3 oQ m0 hb ad a hs hn kk an;go_enter func8,ntmps8;go_wp2_with fail;rw[a8.z];refine ks.mono ?_;clear ks;rintro e q ⟨a,rfl,ho,m1,ae⟩;have c1:=FZ ho.br;have c2:=FZ<|(HB.z.mod M0.z<|DN.no _).mod m1<|DN.no _;obtain⟨a,N,rfl,_⟩:=zi ho;have a:=m1.size;have af:Dm (q.alloc<|.cells #[.slice (g,o) n y,.int .i64 0,false] 52) q.heap.size (.slice (g,o) n y) 0 false:=heap_alloc_new q _;have m2:C9 DA q (q.alloc<|.cells #[.slice (g,o) n y,.int .i64 0,false] 52):=rS.alloc _;have ap:=m2.obj rP<|m1.obj rP HQ.z;have ag:=(HP.z.mod m1<|DN.no _).mod m2<|DN.no _;obtain⟨W2,aq⟩:=nm<|q.alloc<|.cells #[.slice (g,o) n y,.int .i64 0,false] 52;rw[aq]at af m2 ap ag;have M:AA (DN (DY q.heap.size)<|.slice (g,o) n y):=by
  intro g' o' n' c' e A;cases e;have A:g=q.heap.size:=A;omega
 have N:=If q.heap.size 0 (.slice (g,o) n y) bd false W2 af ag M.z (AK _) I;have a:=zb aq;have a9:AA (Gs W2 w.heap.size):=ap;have M2:=zb<|(M0.z.trans m1).trans m2;have ba:=zb ag;have bm:w.heap.size<q.heap.size:=I;have bn:=zo af.c0;clear ap m1 m2 ho af aq ae ag;go_wp2_with fail;rw[a.z];refine N.mono ?_;clear N;rintro e u ⟨num,p,bad,rfl,aI,N,bb,a,m3,aJ⟩;have a:=m3.size;have m4:C9 DA u (u.alloc<|.cells #[num,.slice none 0 0] 37):=rS.alloc _;have oP:Fo (u.alloc<|.cells #[num,.slice none 0 0] 37) u.heap.size num (.slice none 0 0):=heap_alloc_new u _;have r4:=aI.mod m4 rP;have a:Gs (u.alloc<|.cells #[num,.slice none 0 0] 37) w.heap.size:=m4.obj rP (m3.obj (λe=>by have e:w.heap.size=q.heap.size:=e;omega) a9.z);have M4:AA (C9 DA w<|u.alloc<|.cells #[num,.slice none 0 0] 37):=(M2.z.then m3<|λk h=>.inr (by have h:k=q.heap.size:=h;omega)).trans m4;have b4:=(ba.z.mod m3 M.z).mod m4<|DN.no _;obtain⟨W4,N⟩:=nm<|u.alloc<|.cells #[num,.slice none 0 0] 37;rw[N]at m4 oP r4 a M4 b4;have ar:=zb N;have bc:=zb r4;have be:=zb oP;have au:=zb a;have bf:=zb b4;have aK:=zb aJ;have t0:=r4.c0;have t1:=r4.c1;have t2:=r4.c2;have y0:W4 w=some (.int .u64 0):=za a rfl;have y1:W4 (w,1)=some (.slice none 0 0):=za a rfl;have av:W4.frozen? ⟨w.heap.size,0,none⟩=false:=zd a;have aw:W4.frozen? ⟨w.heap.size,1,none⟩=false:=zd a;have bo:q.heap.size<u.heap.size:=I;clear aI m3 m4 oP r4 a N aJ b4;cases bad
 .have aL:ER bd=if p=bd.length then .bad 0 else Fu bd (bd.length+1) num p []:=by
   unfold ER;rcases aK.z with⟨_,e⟩|⟨e,_⟩
   .rw[e]
   cases e
  have a:=zb aL;clear aL;by_cases N:p=n
  .have O:AA (ER bd=.bad 0):=by show _=_;rw[a.z,AL I]
   have hd:decide ((p:Int)=n)=true:=Ah I;go_wp2_with fail;rw[ar.z];go_quiet (fail);go_wp2_with fail;rw[<-ao.z,O.z];refine P9 (at_:=0) (M4.z.drewN nq) au.z ?_ ?_ ?_<;>rfl
  have O:AA (ER bd=Fu bd (bd.length+1) num p []):=by show _=_;rw[a.z,AH I]
  have a:((p:Int)==n)=false:=by rw[AM];omega
  go_wp2_with fail;rw[ar.z];go_quiet (fail);go_wp2_with fail;have ax:AA (PG w (W4.drewN nq) q.heap.size u.heap.size (.slice (g,o) n y) bd num<|ER bd):=by
   have md:C9 DA W4 (W4.drewN nq):=rS.drewN nq;exact⟨bd.length+1,p,.slice none 0 0,[],bc.z.mod md rP,be.z,au.z,EV.nil _,(λg hg=>by cases hg),(λx A=>by cases A),bb,I,AK _,M4.z.trans md,bf.z.mod md<|DN.no _,O.z⟩
  obtain⟨N,a⟩:=nm<|W4.drewN nq;rw[a]at ax;rw[a];clear t0 t1 t2 y0 y1 av aw a;rw[ao.z]at ax
  go_loopw [8] (λ_ wr=>PG w wr q.heap.size u.heap.size (.slice (g,o) n y) bd num R) (λ_ wr=>bd.length-MQ wr q.heap.size)
  case atStart=>exact ax.z
  case round =>
   obtain⟨fuel,z,fv,m,hr,aM,hz,ay,ae,aN,a,N,bp,hm,aO,hR⟩:=hrel;obtain⟨Y,Z,rfl,_⟩:=zi ay.1;have aA:=zb hr;have aB:=zb aM;have HZ:=zb hz;have aP:=zb ay;have ah:=zb ae;have aQ:=zb aN;have HM:=zb hm;have aR:=zb aO;have aS:=zb hR;have t0:=hr.c0;have t1:=hr.c1;clear hr aM hz ay ae aN hm aO hR;by_cases aC:z<bd.length
   .have dl:decide ((z:Int)<n)=true:=Ah I;obtain⟨t,N⟩:∃t,bd[z]?=some t:=⟨bd[z],AG aC⟩;go_wp2;go_quiet (fail);obtain⟨q1,a⟩:=nm nq;rw[a];clear a;have a:=fT q.heap.size z (.slice (g,o) n y) bd t (wr.drewN q1) (aA.z.mod (S:=DA) (rS.drewN q1) rP) (aR.z.mod (S:=DA) (rS.drewN q1)<|DN.no _) M.z N I;go_wp2_with fail;refine a.mono ?_;clear a;rintro e w5 ⟨f,rv,p5,aT,rfl,aD,aU,aV,a,bg,N,bq,m5,j5⟩;obtain⟨B,C,rfl,_⟩:=zi aD.1;have a:=HM.z.size;have a:=zo t0;have mf:C9 DA w5 (w5.alloc<|.cells (ze f<|.slice B f.kC.length C) 48):=rS.alloc _;have ai:zp (w5.alloc<|.cells (ze f<|.slice B f.kC.length C) 48) w5.heap.size f (.slice B f.kC.length C):=heap_alloc_new w5 _;have a:∀k,DY q.heap.size k->w.heap.size<=k:=λk h=>by have h:k=q.heap.size:=h;omega
    have G:=((C9.refl (DY q.heap.size) wr).drewN q1).trans m5;have aE:=(HM.z.then G<|λk h=>.inr<|a k h).trans mf;have aj:=aV.mod mf rP;have ak:Fo (w5.alloc<|.cells (ze f<|.slice B f.kC.length C) 48) u.heap.size num (.slice Y m.length Z):=mf.obj rP (G.obj (λe=>by have e:u.heap.size=q.heap.size:=e;omega) aB.z);have K:Gs (w5.alloc<|.cells (ze f<|.slice B f.kC.length C) 48) w.heap.size:=mf.obj rP (G.obj (λe=>by have e:w.heap.size=q.heap.size:=e;omega) HZ.z);have X:=(aR.z.mod G M.z).mod mf<|DN.no _;have aa :=
     EV.mod (EV.mod aP.z G<|λk h=>.inr (by have h:k=q.heap.size:=h;subst h;exact⟨_,_,_,aA.z,lc,lc⟩)) mf rQ
    have M:=aD.mod mf<|λ_ _ x=>x;have N:=G.size;obtain⟨W6,a⟩:=nm<|w5.alloc<|.cells (ze f<|.slice B f.kC.length C) 48;rw[a]at mf ai aE aj ak K X aa M;have bh:=mf.size;obtain⟨e0,e1,e2,e3,e4,e5,e6,e7,e8,e9⟩:=ai.cells;have p1:W6 (u,1)=some (.slice Y m.length Z):=za ak rfl;have b2:=aj.c2;have y0:W6 w=some (.int .u64 0):=za K rfl;have y1:W6 (w,1)=some (.slice none 0 0):=za K rfl;have av:W6.frozen? ⟨w.heap.size,0,none⟩=false:=zd K;have aw:W6.frozen? ⟨w.heap.size,1,none⟩=false:=zd K;have aW:=zb aj;have aX:=zb ak;have aF:=zb K;have aY:=zb X;have D:=zb aa;have aZ:=zb M;have bt:=zb ai;have a0:=zb aE;have a1:=zb j5;have bi:=zb aU;have bj:=AR N bh;unfold ze at a ⊢;have a2:=zb a;clear aj ak K X aa M ai aE mf G aV aD m5 j5 aU a;have a:∀X,FI bd z=X->R=match X with|none=>.bad z|some r=>Fu bd (fuel-1) num r.2 (m.map (·.1)++[r.1]):=by
     intro X G;rw[aS.z,(I:fuel=(fuel-1)+1)]
     conv=>lhs;unfold Fu
     rw[AL aC,G];rfl
    have a3:=zb a;clear a;cases aT
    .have E:R=Fu bd (fuel-1) num p5 (m.map (·.1)++[f]):=by
      rcases a1.z with⟨_,e⟩|⟨e,_⟩
      .exact a3.z _ e
      cases e
     have ab:=zb E;clear E;obtain⟨G,a,al,am,aG,a4⟩:=P7 W6 (.slice Y m.length Z) m f B f.kC.length C D.z.1 I;have aH:=Ye D.z aZ.z am aG;have m7:=rS.grown aG<|λk h=>.inl h;have ac:Fo a u.heap.size num (.slice Y m.length Z):=m7.obj (λA=>Gm D.z.1 aX.z lc A) aX.z;have K:a (u,1)=some (.slice Y m.length Z):=za ac rfl;have K:a.frozen? ⟨u.heap.size,1,none⟩=false:=zd ac;have L:AA (PG w (a.setCell (u.heap.size,1) G) q.heap.size u.heap.size (.slice (g,o) n y) bd num R/\MQ (a.setCell (u.heap.size,1) G) q.heap.size=p5):=by
      have m8:C9 (λk=>k=u.heap.size) a (a.setCell (U u 1) G):=(C9.refl (λk=>k=u.heap.size) a).setCell (p:=U u.heap.size 1) rO _;have a:=aW.z.mod m7<|λA=>Gm D.z.1 aW.z lc A;have r8:=a.mod m8 (λe=>by have e:=e;omega);refine⟨⟨fuel-1,p5,G,m++[(f,.slice B f.kC.length C)],r8,?_,?_,EV.mod aH m8<|λk h=>.inr (by have h:=h;subst h;exact⟨_,_,_,ac,lc,lc⟩),λk h=>?_,λx A k h=>?_,bg,I,ol,?_,?_,?_⟩,TK r8⟩
      .unfold Fo;rw[zc ac];simp
      .exact m8.obj (λe=>by have e:=e;omega) (m7.obj (λA=>Gm D.z.1 aF.z lc A) aF.z)
      .rcases a4 k h with x|x
       .exact ah.z k x
       omega
      .rcases Ap.1 A with A|A
       .exact aQ.z x A k h
       simp only[As]at A;subst A;have:=bi.z k h;simp only[World.drewN]at this;omega
      .exact(a0.z.then m7<|λk h=>.inr<|ah.z k h).then m8 (λk h=>.inr (by have h:=h;omega))
      .refine(aY.z.mod m7<|λg' o' n' c' e A=>?_).mod m8 (λg' o' n' c' e A=>?_)
       .cases e;have:=ah.z g A;omega
       cases e;have A:=A;omega
      rw[ab.z,A9];rfl
     have a5:AA (MQ wr q.heap.size=z):=TK aA.z;unfold ze at al;obtain⟨a,g,rfl,_⟩:=zi aH.1;obtain⟨g,a⟩:=nm<|(m++[(f,Value.slice B f.kC.length C)]).length;rw[a]at al L;clear am aG a4 aH m7 ac a;go_upto_region 13 with fail;rw[a2.z];go_wp2_with (at_builtin;refine zm rfl _ _ _ _ rfl _ _ _ rfl rfl al ?_;clear al);go_roundw
     case rel=>exact L.z.1
     case measure =>
      rw[L.z.2,a5.z];omega
    have E:R=.bad z:=by
     rcases a1.z with⟨e,_⟩|⟨_,e⟩
     .cases e
     exact a3.z _ e
    have ab:=zb E;clear E;go_upto_region 13 with fail;rw[a2.z];go_wp2_with fail;rw[ab.z];refine P9 (at_:=z) a0.z aF.z ?_ ?_ ?_<;>rfl
   have dl:decide ((z:Int)<n)=false:=A8 I;have E:R=.ok num (m.map (·.1)):=by
    rw[aS.z,(I:fuel=(fuel-1)+1)];unfold Fu;rw[AH aC]
   have ab:=zb E;clear E;have a:wr u=some (.int .u64 num):=za aB.z rfl;have p1:wr (u,1)=some (.slice Y m.length Z):=za aB.z rfl;have y0:wr w=some (.int .u64 0):=za HZ.z rfl;have y1:wr (w,1)=some (.slice none 0 0):=za HZ.z rfl;have av:wr.frozen? ⟨w.heap.size,0,none⟩=false:=zd HZ.z;have aw:wr.frozen? ⟨w.heap.size,1,none⟩=false:=zd HZ.z;go_wp2;go_quiet (fail);go_wp2_with fail;have a:(((wr.drewN nq).setCell w.heap.size<|.int .u64 num).setCell (w.heap.size,1)<|.slice Y m.length Z).heap[w.heap.size]?=some (.cells #[num,.slice Y m.length Z] 37 (0,0)):=by
    have hz:Gs (wr.drewN nq) w.heap.size:=HZ.z;unfold Gs at hz;rw[zc (zc hz)];simp
   refine bodyPost_ret (Oj _ _ w.heap.size (.int .u64 num) (.slice Y m.length Z) rfl (za a rfl) (za a rfl)) rfl ?_;have a:=N8 (wr.drewN nq) w.heap.size (.int .u64 num)<|.slice Y m.length Z;rw[ab.z];refine⟨(HM.z.drewN nq).then a<|λk h=>.inr (by have h:=h;omega),.slice Y m.length Z,m,rfl,?_,rfl,ah.z,aQ.z⟩;refine EV.mod (EV.mod aP.z ((C9.refl DA wr).drewN nq) rQ) a<|λk h=>.inr ?_;have h:=h;subst h;exact⟨_,_,_,HZ.z,lc,lc⟩
 have O:AA (ER bd=.bad 0):=by
  show _=_;unfold ER;rcases aK.z with⟨e,_⟩|⟨_,e⟩
  .cases e
  rw[e]
 go_wp2_with fail;rw[ar.z];go_quiet (fail);go_wp2_with fail;rw[<-ao.z,O.z];refine P9 (at_:=0) (M4.z.drewN nq) au.z ?_ ?_ ?_<;>rfl
def Mt(v:rU)(a:qq)(w:rT)(hb:BR w v a)(g:a.length<=549755813888):rH 8 #[v] w (Hx w (dec a)):=by
 unfold dec;by_cases e:a.length<4
 .rw[AL e];exact fS v a w hb e
 rw[AH e];obtain⟨n,h⟩:∃n,a.length=n+4:=⟨a.length-4,I⟩;rw[(I:a.length-4=n)];by_cases e:Gr a n=Dz (a.take n)
 .rw[AL e];exact Yd v a n w hb h g e
 rw[AH e];exact Ws v a n w hb h g e
end
section
open Go.Proofs.Tryz
open Go.RowKit
open Go.RowKit
end
section
open Go.RowKit Go.Proofs.Tryz
def fR(v:rU)(l:qq)(f:DF)(a:qs)(cap:Nat)(w:rT)(g:zH f=true)(h:OB w v l)(m:0<f.kC.length->DN (λk=>v.ownBlock=some k) (.slice a f.kC.length cap))(u:RR w (.slice a f.kC.length cap) f.kC)(y:f.kC.length<=1099511627776)(hd:f.data.length<=35184372088832)(z:l.length<=8796093022208):rH 51 #[v,.agg (ze f (.slice a f.kC.length cap))] w (Gv w v l (zC f)):=by
 have hb:f.Bounds:=KN g hd;have e:1<=f.kind/\f.kind<=8:=by
  rcases Decidable.em (1<=f.kind/\f.kind<=8)with q|q
  .exact q
  exfalso;have:zP f=false:=by
   unfold zP;rw[AH I,AH I,AH I];simp;omega
  rw[zH,this,Bool.and_false]at g;cases g
 by_cases e:f.kind=2
 .have n:EQ f.kC=true:=by
   unfold zH zP at g;rw[AL e]at g;simp only[AV]at g;exact g.2
  have g:0<f.kC.length:=by
   unfold EQ at n;simp only[AV,AW]at n;omega
  exact Ww v l f a cap w e u n y (m g) h z
 exact Wx v l f _ w h I hb I
variable{n:Nat}
def gO{a:List (DF×rU)}(h:a.length=0):Ht n a=false:=by simp[Ht,h]
def gN{a:List (DF×rU)}(h:4611686018427387903<n):Ht n a=false:=by
 have:decide (n<=4611686018427387903)=false:=ol;rw[Ht,this,Bool.and_false,Bool.false_and]
def gM(n:Nat)(g:List (DF×rU))(a:qs)(cap:Nat)(w:rT)(y:cap<=maxLen)(z:g.length<=cap)(h:g.length=0\/4611686018427387903<n):rH 23 #[.agg #[.int .u64 n,.slice a g.length cap]] w λe w'=>e=.returned (.tuple #[.slice none 0 0,.int .i64 8])/\C9 DA w w':=by
 unfold maxLen at y;have e:C9 DA w (w.alloc<|.cells #[n,.slice a g.length cap] 37):=rS.alloc _;have u:=zb e;clear e;by_cases q:g.length=0
 .rw[q]at z u;rw[q];clear h q;go_enter func23,ntmps23;go_wp2_with fail
  go_loopw [4,5] (λm i wr=>m=.bool false/\i=.int .i64 0/\wr=w.alloc (.cells #[n,.slice a 0 cap] 37)) (λ_ _ _=>0)
  case atStart=>exact rN
  case round =>
   obtain⟨rfl,rfl,rfl⟩:=hrel;go_wp2;go_ret2;exact⟨rfl,u.z⟩
 have d:decide ((n:Int)<=4611686018427387903)=false:=ol;have e:(0:Int)<g.length:=I;clear h q;go_enter func23,ntmps23;go_wp2_with fail
 go_loopw [4,5] (λm i wr=>m=.bool false/\i=.int .i64 0/\wr=w.alloc (.cells #[n,.slice a g.length cap] 37)) (λ_ _ _=>0)
 case atStart=>exact rN
 case round =>
  obtain⟨rfl,rfl,rfl⟩:=hrel;go_wp2;go_ret2;exact⟨rfl,u.z⟩
def UD(n:Nat)(u:List (DF×rU))(v:rU)(w:rT)(h:FE w v u)(hb:(Fe n (u.map (·.1))).length<=8796093022208)
  (hd:∀fr∈u,fr.1.data.length<=35184372088832/\fr.1.kC.length<=1099511627776) :
  rH 23 #[.agg #[.int .u64 n,v]] w (Q8 w n<|u.map (·.1)):=by
 obtain⟨a,X,rfl,h1,h2,Y⟩:=id h;by_cases C:u.length=0\/4611686018427387903<n
 .refine(gM n u a X w h2 h1 C).mono ?_;rintro e w' ⟨rfl,m⟩;refine⟨m,.inr ⟨?_,rfl⟩⟩;rw[<-N1];rcases C with q|q
  .exact gO q
  exact gN q
 unfold maxLen at h2;clear Y;have m:(0:Int)<u.length:=I;have m:(n:Int)<=4611686018427387903:=I;have EO:AA (Ht n u=He u u.length):=by
  have m:decide (n<=4611686018427387903)=true:=Ah I;have q:decide (0<u.length)=true:=Ah I;show _=_;rw[Ht,m,q,CH,CH]
 rw[<-UX]at hb;have Hb:=zb hb;have Hd:=zb hd;have H:=zb h;clear hb hd h C;have hv:=λw=>KI rV [] n w (OB.nil w) nl I
 obtain⟨W0,h⟩:=nm<|w.alloc<|.cells #[n,.slice a u.length X] 37;have q:=AB h;have c0:W0 w=some (.int .u64 n):=by rw[<-h];exact za (heap_alloc_new w _) rfl
 have c1:W0 (w,1)=some (.slice a u.length X):=by rw[<-h];exact za (heap_alloc_new w _) rfl
 have A:=zb q;have aC:=zb c0;have aD:=zb c1;have m:=zb h;clear q c0 c1 h;go_enter func23,ntmps23;go_wp2_with fail;rw[m.z]
 go_loopw [4,5] (λh i wr=>∃k:Nat,k<=u.length/\i=.int .i64 k/\C9 DA W0 wr/\∃b,h=.bool b/\AA (b=true->He u k=true)/\AA (b=false->Ht n u=false)) (λ_ i _=>u.length-(intOf i).toNat)
 case atStart=>exact⟨0,AK _,rfl,C9.refl _ _,true,rfl,zb λ_=>rfl,zb<|λe=>by cases e⟩
 case round =>
  obtain⟨k,h,rfl,hm,b,rfl,D,C⟩:=hrel;have c1:=hm.cell (a:=U w.heap.size 1) id aD.z;have c0:=hm.cell (a:=w.heap.size) id aC.z;have Z:=zb hm;clear hm;cases b
  .have K:=zb<|C.z rfl;by_cases L:k<u.length
   .go_wp2;go_ret2;refine⟨A.z.trans Z.z,.inr ⟨?_,rfl⟩⟩;rw[<-N1];exact K.z
   go_wp2;go_ret2;refine⟨A.z.trans Z.z,.inr ⟨?_,rfl⟩⟩;rw[<-N1];exact K.z
  by_cases L:k<u.length
  .obtain⟨fr,y⟩:∃fr,u[k]?=some fr:=⟨u[k],AG L⟩;have M:=(H.z.kI A.z).kI Z.z;obtain⟨a',ao,aa,_,_,Y⟩:=M;cases aa;obtain⟨f,rv⟩:=fr;obtain⟨⟨g,o,rfl,hc⟩,z⟩:=Y k (f,rv) y;simp only at hc z;obtain⟨ra,rc,rfl,_⟩:=id z;obtain⟨ac,ad,ae,af,ag,ah,ai,aj,ak,al⟩:=GC hc;have aE:=zb<|gR u k _ y;have aF:=zb<|Uq u k _ y;obtain⟨E,G⟩:=Hd.z _<|AZ y;have m:=Ty f ra rc wr z G E;unfold ze at m;clear hc z Y E G;obtain⟨sb,h⟩:=nm<|zH f;have aq:=zb h;rw[h]at m;clear h;go_wp2_with fail;refine m.mono ?_;clear m;rintro e w2 ⟨rfl,m2⟩;have m:AA (sb=true->He u (k+1)=true):=zb (λe=>by rw[aE.z,D.z pm,aq.z,e];rfl);have K:AA (sb=false->Ht n u=false):=zb (λe=>by rw[EO.z];exact aF.z (by rw[aq.z,e]));have h:=zb<|Z.z.trans m2;clear m2 c0 c1 ac ad ae af ag ah ai aj ak al;go_wp2;go_roundw
   case rel=>exact⟨k+1,I,by go_num,h.z,sb,rfl,m,K⟩
   simp[intOf];omega
  have h:k=u.length:=I;have HO:AA (Ht n u=true):=by
   show _=_;rw[EO.z,<-h];exact D.z rfl
  have aG:AA (He u u.length=true):=by show _=_;rw[<-h];exact D.z pm
  clear h;obtain⟨WB,aH⟩:=nn wr;subst aH;go_wp2_with (go_at_call 50;refine(hv _).mono ?_;rintro e h ⟨m,rfl,ap⟩;have h:=zb ap;have aI:=ap.kI.cell (a:=U w.heap.size 1) id c1;clear ap)
  go_loopw [6,7] (λm i wr=>∃j:Nat,j<=u.length/\i=.int .i64 j/\DX WB rV [] (zV n++GA u j) m wr) (λ_ i _=>u.length-(intOf i).toNat)
  case atStart=>exact⟨0,AK _,rfl,by simpa [GA]using h.z⟩
  case round =>
   obtain⟨j,h,rfl,hA⟩:=hrel;have HA:=zb hA;have M:=((H.z.kI A.z).kI Z.z).kI hA.kI;have N:0<([]++(zV n++GA u j):qq).length:=by
    have:=Xf n;simp;omega
   have cq:=hA.kI.cell (a:=U w.heap.size 1) id c1;obtain⟨a,h,O,_,_,ar⟩:=zi hA.own;obtain⟨a,rfl⟩:=ar N;clear ar c1 c0 aI;by_cases L:j<u.length
   .obtain⟨fr,y⟩:∃fr,u[j]?=some fr:=⟨u[j],AG L⟩;obtain⟨a',ao,aa,_,_,Y⟩:=M;cases aa;obtain⟨f,rv⟩:=fr;obtain⟨⟨g,o,rfl,hc⟩,z⟩:=Y j (f,rv) y;simp only at hc z;obtain⟨ra,rc,rfl,_⟩:=id z;have au:RR w (.slice ra f.kC.length rc) f.kC:=by
     obtain⟨_,_,_,_,_,a⟩:=H.z;exact(a j _ y).2
    obtain⟨ac,ad,ae,af,ag,ah,ai,aj,ak,al⟩:=GC hc;have Hs:=zb<|i5 u j _ y;obtain⟨E,G⟩:=Hd.z _<|AZ y;have aJ:=dp u j;have av:=Hb.z;have aw:zH f=true:=by
     cases hq:zH f
     .have:=Uq u j _ y hq;rw[aG.z]at this;cases this
     rfl
    have am:=fR u6 ([]++(zV n++GA u j)) f ra rc wr aw hA.own (λax g' a h m hv hx=>?_) z G E (by
     simp only[body,BV,AF]at av ⊢;omega)
    .clear hA hc z E G aJ av Y aw au;unfold ze at am;obtain⟨Ln,B⟩:=nm<|([]++(zV n++GA u j):qq).length;rw[B]at O N;have HL:AA (0<Ln/\([]++(zV n++GA u j):qq).length=Ln):=⟨N,B⟩;clear B;subst O;go_wp2_with fail;refine am.mono ?_;rintro e w2 ⟨v2,rfl,ay⟩;have A2:=HA.z.trans ay;obtain⟨a,h,rfl,_,_,R⟩:=zi A2.own;obtain⟨a,rfl⟩:=R (by simp;have:=HL.z;simp at this;omega);have h:=zb A2;obtain⟨m,a⟩:=nm<|([]++((zV n++GA u j)++zC f):qq).length;rw[a]at h;rw[a];clear A2 ay am R a cq ac ad ae af ag ah ai aj ak al;go_wp2;go_roundw
     case rel=>exact⟨j+1,I,by go_num,by rw[Hs.z,<-List.append_assoc];exact h.z⟩
     simp[intOf];omega
    cases hv;obtain⟨_,_,aK,_,_,aL⟩:=au;cases aK;obtain⟨_,_,e,aA,_⟩:=aL 0 ax;cases e;have a:=zo aA;have hx:(u6:rU).ownBlock=some g':=hx;rcases HA.z.at_ _ hx with h1|h1
    .cases h1
    have:=(A.z.trans Z.z).size;omega
   have h:j=u.length:=I;have a:DX WB rV [] (body n u) u6 wr:=by
    have:=HA.z
    rwa [h]at this
   have an:=OY u6 (body n u) wr a.own.br<|qm Hb.z;have aM:=zb a;obtain⟨Ln,B⟩:=nm<|([]++(zV n++GA u j):qq).length;rw[B]at O;clear a h M N HA hA B;subst O;go_wp2_with (go_at_call 10;refine an.mono ?_;rintro e w2 ⟨v2,rfl,ho,m2,aB⟩;have a:=zb ho;have e:=zb aB;have h:=zb m2;clear ho aB m2);go_ret2;have m:=(A.z.trans Z.z).trans aM.z.kI;refine⟨m.trans h.z,.inl ⟨?_,_,rfl,?_,λg h=>?_⟩⟩
   .rw[<-N1];exact HO.z
   .rw[<-UX];exact a.z
   have:=e.z g h;have:=m.size;omega
def Io:FK->Nat
 | .ok n _=>n
 | _=>0
def Iq:FK->List DF
 | .ok _ fs=>fs
 | _=>[]
def Qw:FK->Int
 | .ok _ _=>0
 | .sum=>7
 | .bad _=>8
def kA:FK->Int
 | .bad a=>a
 | _ => -1
variable{w w':rT}
theorem Hx.shape{R:FK}{e:Ending}(h:Hx w R e w'):C9 DA w w'/\∃m q g,e=.returned (.tuple #[.agg #[.int .u64 (Io R:Int),.slice m g.length q],.int .i64 (Qw R),.int .i64 (kA R)])/\EV w' (.slice m g.length q) g/\g.map (·.1)=Iq R:=by
 refine⟨h.1,?_⟩;cases R with
 | sum=>exact⟨none,0,[],h.2,EV.nil w',rfl⟩
 | bad a=>exact⟨none,0,[],h.2,EV.nil w',rfl⟩
 | ok n fs =>
  obtain⟨_,a,g,y,u,z,_⟩:=h;obtain⟨m,q,rfl,_⟩:=zi u.1;exact⟨m,q,g,y,u,z⟩
def CS.nB(c:CS):Nat:=if c.closed=12 then 0 else c.closed
def RW(a:n<=zG):(FQ n).Fits:=by
 refine⟨?_,rfl,by simp[FQ],AR (KK _ rfl)<|by simp[FQ]⟩;simp[zH,D8,nums,D6,zP,FQ];unfold zG at a;omega
variable{c:CS}
def UA(h:c.said=false){a:CS}(e:{ c with said:=true }=a):c.kY=([Fs ((a.kJ.add (FQ c.nB)).getD a.kJ).b],{ a with next:=a.next+1 }):=by
 subst e;unfold CS.kY CS.nB;rw[h];rfl
def U9(w:rT)(x:rU)(e:TypeId):(w.alloc (.cells #[x] e)).ownsRow 0 e 1 (.slice w 1 1) 1 [x] :=
 ⟨rfl,.inr ⟨w.heap.size,1,#[x],rfl,AK _,heap_alloc_new w _,AI _,pi,nl,nl⟩⟩
variable{V:CV}{W:rT}{b i:Nat}{tag:qr}
theorem ij(h:zn tag i b c V W)(E:Dn i tag W)(nd:FV i tag)(hm:c.kj<=65536)(hn:c.next<zG)(hc:c.closed<=1099511627776):rH 82 #[(b,0)] W (I3 tag i b W c.kY.1 c.kY.2):=by
 have q:W (b,5)=some (.bool c.said):=h.hd (j:=5) rfl;have z:=h.fz 5;have h0:FM tag i b W c [] [] tag V [] (.slice none 0 0) (.slice none 0 0) W:=⟨h,DK.same E.ok<|C9.refl DA W,C9.refl _ _,Fd.nil _ _ _,⟨⟨none,0,rfl,AI _,AK _,λi hi=>absurd hi<|Al i⟩,λg y=>by simp[Value.kr]at y⟩,E.pos⟩;by_cases hs:c.said=true
 .rw[hs]at q;have H:AA (I3 tag i b W c.kY.1 c.kY.2 (.returned rV) W):=by
   have e:c.kY=([],c):=by unfold CS.kY;rw[AL hs]
   rw[e];exact h0.post nd
  clear h E nd hm hn hc h0 hs;go_enter func82,ntmps82;go_wp2;go_ret;exact H.z
 have X:c.said=false:=qp hs;rw[X]at q;obtain⟨m,q⟩:∃m,{ c with said:=true }=m:=⟨_,rfl⟩;have G:=zb<|UA X q;obtain⟨W1,L⟩:=nm<|W.setCell (U b 5)<|.bool true;have m1:C9 (λg=>g=b) W W1:=by rw[<-L];exact(C9.refl (λg=>g=b) _).setCell (p:=U b 5) rO _
 have z:zn tag i b m V W1:=by
  rw[<-L,<-q];exact h.store 5 _ (IN _ _ _ _ _ lc rfl rfl rfl rfl) ⟨rfl,λ_ _=>⟨rfl,rfl,rfl⟩,λ_ _=>⟨rfl,rfl⟩,rfl,rfl,rfl,rfl⟩
 have HH:AA (FM tag i b W m [] [] tag V [] (.slice none 0 0) (.slice none 0 0) W1) :=
  zb ⟨z,DK.same E.ok m1,m1.mono<|λg y=>.inl<|EM (r:=1) (by rw[show g=b from y];exact h.tb) lc,Fd.nil _ _ _,⟨⟨none,0,rfl,AI _,AK _,λi hi=>absurd hi<|Al i⟩,λg y=>by simp[Value.kr]at y⟩,E.pos⟩
 have Y:m.next<zG:=by rw[<-q];exact hn
 have ae:m.kj<=65536:=by rw[<-q];exact hm
 have af:m.closed=c.closed:=by rw[<-q]
 have c4:W1 (b,4)=some (.int .i64 m.closed):=z.hd (j:=4) rfl;have c6:W1 (b,6)=some (.int .u64 m.next):=z.hd (j:=6) rfl;have c0:W1 b=some (.int .i64 m.kj):=z.hd (j:=0) rfl;have kv:=II rV [] m.next W1.drew (World.ownsRow_nil _ 0 _ 1) (AK _) (by unfold zG at Y;omega);have KV:=zb kv;have ao:=zb L;have EE:=zb E;have ND:=zb nd;have aq:=zb ae;have ar:=zb Y;have au:=zb hc;obtain⟨D,A⟩:=nm m.next;obtain⟨mt,Z⟩:=nm m.kj;obtain⟨cl,M⟩:=nm c.closed;rw[A]at c6 KV;rw[Z]at c0;rw[af,M]at c4;have B:=zb A;have ag:=zb Z;have C:=zb M;have ah:cl<=1099511627776:=by rw[<-M];exact hc
 clear h E nd hm hn hc h0 hs X kv m1 z L A Z M q Y ae af;go_enter func82,ntmps82;go_upto_region 4 with fail;rw[ao.z];go_upto_if 21 with fail
 go_cut [3] (λq wx=>q=.int .u64 c.nB/\wx=W1)
 case first =>
  by_cases aa:cl=12
  .subst aa;have q:c.nB=0:=by unfold CS.nB;rw[AL C.z]
   have z:=zb q;clear q C;go_wp2;go_meet;exact⟨by rw[z.z];rfl,rfl⟩
  have hb:((cl:Int)==12)=false:=AM.2 I;have q:c.nB=cl:=by
   unfold CS.nB;rw[C.z,AH aa]
  have z:=zb q;clear q C aa;go_wp2;go_meet;exact⟨by rw[z.z],rfl⟩
 case rest =>
 obtain⟨rfl,rfl⟩:=hcut;obtain⟨wy,q⟩:=nm c.nB;have z:=zb q;have ai:AA (wy<=zG):=by
  show _<=_;rw[<-q];have:=au.z;unfold CS.nB zG;split<;>omega
 rw[q]at G ⊢;clear q c4 ah C;go_upto_region 7 with fail;refine zr 13 (λw'=>w' (U b 6)=some (.int .u64 D)/\w' b=some (.int .i64 mt)) (⟨c6,c0⟩) ?_;refine GI 0 ?_;iterate 4
  refine GV rfl ?_;try simp only[PS]
 refine GI 5 ?_;iterate 5
  refine GV rfl ?_;try simp only[PS]
 refine zD 4 rfl (λK hK=>?_);go_simp;refine KV.z.mono ?_;rintro e W2 ⟨q,rfl,u⟩;obtain⟨ab,ac,aj,_⟩:=zi u.own;rw[BV]at aj;subst aj;have z:C9 DA wc W2:=((C9.refl DA wc).drew).trans ((C9.refl DA wc.drew).grown u.grown (λg y=>by simp[Value.ownBlock]at y));have C:=zb u;have q:=zb<|show W2 (U b 6)=some (.int .u64 D)/\W2 b=some (.int .i64 mt)from⟨z.cell (a:=U b 6) id c6,z.cell (a:=b) id c0⟩;refine hK.z _ _ q.z ?_;clear u z;clear hK K;try simp only[PS]
 refine Gl (i:=10) (v:=.agg #[.slice ab (zV D).length ac,.slice none 0 0,.int .i64 mt,.bool false,.bool false]) rfl kw (λ_ _ _ h=>h) (Or.inl ⟨by rfl,?_⟩) ?_
 ·(intro wx n;(try dsimp only at n);go_simp;try with_reducible rfl)
 try simp only[PS]
 refine zD 11 rfl (λK hK=>?_);go_simp;have h:=λo=>(show(W2.alloc o).cell? (U b 6)=some (.int .u64 D)/\(W2.alloc o) b=some (.int .i64 mt)from⟨((C9.refl DA W2).alloc o).cell (a:=U b 6) id q.z.1,((C9.refl DA W2).alloc o).cell (a:=b) id q.z.2⟩)
 refine hK.z _ _ (h _) ?_;clear hK K;try simp only[PS]
 refine GI 12 ?_;refine GV rfl ?_;try simp only[PS]
 refine zt ?_;obtain⟨E,z⟩:=nm<|W2.alloc<|.cells #[.slice ab (zV D).length ac,.slice none 0 0,[mt],false,false] 162;obtain⟨db,A⟩:=nm W2.heap.size;obtain⟨R,a⟩:=nm m.kJ;have h:R.b.length<=8/\R.fs.length=0/\R.room<=65536:=by
  rw[<-a];exact⟨zK _,rfl,aq.z⟩
 obtain⟨n,HM⟩:∃n,AA (Eo tag i b db W m R [] [] n V (.slice ab (zV D).length ac) (.slice none 0 0) [] [] (.slice none 0 0) (.slice none 0 0) E):=by
  have u:=C.z;rw[<-B.z]at u;obtain⟨n,h1⟩:=HH.z.pT ((C9.refl DA wc).drew) u;rw[B.z,ag.z,z,A,a]at h1;exact⟨n,h1⟩
 have ak:=zb a;try rw[z]
 try rw[A]
 have n:=Lz HM.z.s.d HM.z.s.ok HM.z.s.p (FQ wy) (RW ai.z) I I;have KA:=zb n;have al:=zb h;clear a z A q C HH c6 c0 KV n h ag ai;go_upto_region 9 with(go_at_call 113;refine KA.z.mono ?_;intro e W4 hp;obtain⟨rfl,am,N,av,l4,h4⟩:=HM.z.s.add hp;have H4:=zb h4;clear hp h4);obtain⟨D4,O⟩:=nm<|(R.add<|FQ wy).getD R;rw[O]at H4;have an:D4.b.length<=70368744177664:=by
  rw[<-O];cases ha:R.add (FQ wy)with
  | none=>show R.b.length<=_;have:=al.z.1;omega
  | some d' =>
   have a:=(DJ.lz ha).2.2.2.2.2;have:=al.z.2.2;show d'.b.length<=_;omega
 rw[ak.z]at G;have aw:AA (c.kY=([Fs D4.b],{ m with next:=m.next+1 })):=by
  show _=_;rw[G.z,O]
 have q:W4 (b,6)=some (.int .u64 m.next):=H4.z.c.hd (j:=6) rfl;have a:=H4.z.c.fz 6;have n:D+1<18446744073709551616:=by
  have h1:=ar.z;have a:=B.z;unfold zG at h1;omega
 obtain⟨W5,h⟩:=nm<|W4.setCell (U b 6)<|.int .u64<|(D:Int)+1;have H5:AA (Eo tag i b db W { m with next:=m.next+1 } D4 [] [] am V N av l4 [] (.slice none 0 0) (.slice none 0 0) W5):=by
  rw[<-h,<-B.z];exact⟨H4.z.store 6 _ (IN m { m with next:=m.next+1 } V V (j:=6) _ lc rfl rfl rfl rfl) ⟨rfl,λ_ _=>⟨rfl,rfl,rfl⟩,λ_ _=>⟨rfl,rfl⟩,rfl,rfl,rfl,rfl⟩,Fd.nil _ _ _,⟨⟨none,0,rfl,AI _,AK _,λi hi=>absurd hi<|Al i⟩,λg y=>by simp[Value.kr]at y⟩⟩
 have z:W5 db=some N:=za H5.z.s.d.obj rfl;have m:=Sw N D4.b W5 H5.z.s.d.ob an (H5.z.env EE.z).tab;obtain⟨A,C,a,_⟩:=zi H5.z.s.d.ob;have ax:=zb a;rw[a]at m z;have z:=zb m;rw[B.z]at q;have q:IntKind.u64.wrap ((D:Int)+1)=((D+1:Nat):Int):=by rw[IntKind.wrap_u64];omega
 have q:=zb h;clear O an m a h H4 HM KA ak G n;go_upto_region 10 with fail;rw[q.z];go_wp2_with (go_at_call 87;refine z.z.mono ?_;rintro e W6 ⟨sv,rfl,u⟩;have u:=(show DX W5 N D4.b (EP<|Dz D4.b) sv W6 by rw[ax.z];exact u);obtain⟨a,h,e,ad⟩:∃a h e,sv=.slice a h e:=(by obtain⟨a,e,ad,_⟩:=zi u.own;exact⟨_,_,_,ad⟩);have ay:=zb u;clear u;subst ad);go_ret;rw[aw.z];obtain⟨a,e⟩:=H5.z.ml ND.z ay.z (U9 W6 _ _) ⟨rfl,rfl,rfl,nl,λk a _=>Below.heap_alloc W6 _ k a⟩ (λg y=>.inr (by simp[Value.ownBlock]at y;omega));have a:=e.h.post ND.z;exact a
end
section
open Go.ChangeShapes Go.WideShapes Go.ChangeAt Go.RowKit Go.Deep
open Go.Proofs.Tryz
def J9:prog.cellsOf 34=1:=kw
def iL:prog.cellsOf 110=2:=kw
def T9:prog.cellsOf 48=10:=kw
def UZ:prog.cellsOf 37=2:=kw
section
variable {H:Type} {enc:TypeId×rU->H} {W:rT} {base:Nat} {spare:Nat->Bool} {held:Bool} {fuel:Nat} {cs:qt} {x:DataW H×List MemPlace}
theorem P8(d:DataW H):1<=Rows.uptoBulk d:=by
 cases d with
 | lit l=>cases l<;>simp[Rows.uptoBulk]
 | nil=>simp[Rows.uptoBulk]
 | ptr d=>simp[Rows.uptoBulk]
 | slice elems spare=>simp[Rows.uptoBulk]
 | agg parts=>simp[Rows.uptoBulk]
 | iface t d=>simp[Rows.uptoBulk]
 | map entries=>simp[Rows.uptoBulk]
 | held h=>simp[Rows.uptoBulk]
theorem XQ(l:List (DataW H)):l.length<=Rows.uptoBulkAll l:=by
 induction l with
 | nil=>simp[Rows.uptoBulkAll]
 | cons x r ih=>have:=P8 x;simp only[Rows.uptoBulkAll,Aa];omega
def I7{c:rU}(h:DataW.trod enc prog W base spare held fuel 34 [c]=some x):∃n:Nat,c=.int .u64 n/\n<18446744073709551616:=by
 obtain⟨n,e,_,g⟩:=DataW.trod_int underlying34 h;cases e;have a:(decide ((0:Int)<=n)&&decide (n<=18446744073709551615))=true:=g;simp only[AV,AW]at a;exact⟨n.toNat,by rw[Int.toNat_of_nonneg a.1],I⟩
def Lr{c:rU}{t:TypeId}(a:prog.underlying t=some (.int .i64))(h:DataW.trod enc prog W base spare held fuel t [c]=some x):∃n:Int,c=.int .i64 n /\ -9223372036854775808<=n/\n<=9223372036854775807:=by
 obtain⟨n,e,_,g⟩:=DataW.trod_int a h;cases e;have a:(decide ((-9223372036854775808:Int)<=n)&&decide (n<=9223372036854775807))=true:=g;simp only[AV,AW]at a;exact⟨n,rfl,a.1,a.2⟩
variable{k:Nat}{v:rU}
def QJ{a:Addr}(h:W ((a.add (0*k)).add 0)=some v):∃g o,a=⟨g,o,none⟩:=by
 obtain⟨b,m,e⟩:=a;have n:e=none:=by simpa [Addr.add]using World.cell?_spot h
 subst n;exact⟨b,m,rfl⟩
variable{base n:Nat}
def Lu{a:Addr}{cs:qt}(h:W.cells? base a n=some cs):cs.length=n/\∀i,i<n->W (a.add i)=cs[i]?:=by
 obtain⟨_,a,e⟩:=World.cells?_some h;exact⟨a,e⟩
theorem iK(h:DataW.trod enc prog W base spare held fuel 46 cs=some x):∃v n,cs=[v]/\RR W v n/\n.length<=Rows.uptoBulk x.1:=by
 rcases open_slice underlying46 h with⟨rfl,rfl⟩|⟨a,len,z,m,n,D,h,rfl,hb,N,O,A,rfl,M⟩
 .exact⟨_,[],rfl,⟨none,0,rfl,AI _,AK _,λi e=>absurd e<|Al i⟩,AK _⟩
 have h:len<=m:=by rw[A];split<;>omega
 have B:∀i,i<len->∃r:Nat×Nat,∃g o,a=⟨g,o,none⟩/\W ⟨g,o+i*2,none⟩=some (.int .u64 r.1)/\W ⟨g,o+i*2+1,none⟩=some (.int .u64 r.2)/\r.1<18446744073709551616/\r.2<18446744073709551616:=by
  intro i e;obtain⟨C,h,E⟩:=M i I;obtain⟨n,m,_⟩:=M 0 I;rw[iL]at h m;obtain⟨q,y⟩:=Lu h;obtain⟨h,G⟩:=Lu m;obtain⟨g,o,rfl⟩:∃g o,a=⟨g,o,none⟩:=by
   have h:=G 0 I;rw[AG I]at h;exact QJ h
  match C,q,E,y with
  | [c0,c1],_,E,y =>
   obtain⟨h,m,n,_,_,K,u⟩:=trod_struct2 underlying110 E;simp only[CR,List.drop_succ_cons]at K u;rw[J9]at K u;obtain⟨X,rfl,Y⟩:=I7 K;obtain⟨L,rfl,b1⟩:=I7 u;have h:=y 0 I;have m:=y 1 I;simp only[EU]at h m;exact⟨(X,L),g,o,rfl,h,m,Y,b1⟩
 obtain⟨R,Z⟩:=choose_lt (α := Nat×Nat) B;refine⟨_,(List.range len).map R,rfl,⟨some a,z,nl,qp N,O,λi e=>?_⟩,?_⟩
 .have e:i<len:=qp e;obtain⟨g,o,rfl,q1,q2,q3,q4⟩:=Z i e;have u:DE ((List.range len).map R) i=(R i).1:=by simp[DE,List.getD,e]
  have a:DB ((List.range len).map R) i=(R i).2:=by simp[DB,List.getD,e]
  rw[u,a];exact⟨g,o,rfl,q1,q2,q3,q4⟩
 have:=XQ<|(List.range len).map D;simp only[Rows.uptoBulk];simp only[Az,Bp]at this ⊢;omega
theorem gE(h:DataW.trod enc prog W base spare held fuel 48 cs=some x):∃f rv,cs=(ze f rv).toList/\RR W rv f.kC/\f.data.length+f.kC.length+1<=Rows.uptoBulk x.1:=by
 obtain⟨xs,n,_,rfl,hl,e,a⟩:=DataW.trod_struct underlying48 h;rw[T9]at hl;have j:prog.cellsOf 3=1:=kw;have cB:prog.cellsOf 4=1:=kw;have cS:prog.cellsOf 9=1:=kw;have cR:prog.cellsOf 46=1:=kw
 match cs,hl,xs,e with
 | [c0,c1,c2,c3,c4,c5,c6,c7,c8,c9],_,[x0,x1,x2,x3,x4,x5,x6,x7,x8,x9],_ =>
  have f0:DataW.trod enc prog W base spare held n 3 [c0]=some x0:=by
   have q:DataW.trod enc prog W base spare held n 3 (([c0,c1,c2,c3,c4,c5,c6,c7,c8,c9].drop 0).take<|prog.cellsOf 3)=some x0:=a 0 _ rfl;rw[j]at q;exact q
  have f1:DataW.trod enc prog W base spare held n 3 [c1]=some x1:=by
   have q:DataW.trod enc prog W base spare held n 3 (([c0,c1,c2,c3,c4,c5,c6,c7,c8,c9].drop 1).take<|prog.cellsOf 3)=some x1:=a 1 _ rfl;rw[j]at q;exact q
  have f2:DataW.trod enc prog W base spare held n 34 [c2]=some x2:=by
   have q:DataW.trod enc prog W base spare held n 34 (([c0,c1,c2,c3,c4,c5,c6,c7,c8,c9].drop 2).take<|prog.cellsOf 34)=some x2:=a 2 _ rfl;rw[J9]at q;exact q
  have f3:DataW.trod enc prog W base spare held n 34 [c3]=some x3:=by
   have q:DataW.trod enc prog W base spare held n 34 (([c0,c1,c2,c3,c4,c5,c6,c7,c8,c9].drop 3).take<|prog.cellsOf 34)=some x3:=a 3 _ rfl;rw[J9]at q;exact q
  have f4:DataW.trod enc prog W base spare held n 34 [c4]=some x4:=by
   have q:DataW.trod enc prog W base spare held n 34 (([c0,c1,c2,c3,c4,c5,c6,c7,c8,c9].drop 4).take<|prog.cellsOf 34)=some x4:=a 4 _ rfl;rw[J9]at q;exact q
  have f5:DataW.trod enc prog W base spare held n 4 [c5]=some x5:=by
   have q:DataW.trod enc prog W base spare held n 4 (([c0,c1,c2,c3,c4,c5,c6,c7,c8,c9].drop 5).take<|prog.cellsOf 4)=some x5:=a 5 _ rfl;rw[cB]at q;exact q
  have f6:DataW.trod enc prog W base spare held n 34 [c6]=some x6:=by
   have q:DataW.trod enc prog W base spare held n 34 (([c0,c1,c2,c3,c4,c5,c6,c7,c8,c9].drop 6).take<|prog.cellsOf 34)=some x6:=a 6 _ rfl;rw[J9]at q;exact q
  have f7:DataW.trod enc prog W base spare held n 34 [c7]=some x7:=by
   have q:DataW.trod enc prog W base spare held n 34 (([c0,c1,c2,c3,c4,c5,c6,c7,c8,c9].drop 7).take<|prog.cellsOf 34)=some x7:=a 7 _ rfl;rw[J9]at q;exact q
  have f8:DataW.trod enc prog W base spare held n 9 [c8]=some x8:=by
   have q:DataW.trod enc prog W base spare held n 9 (([c0,c1,c2,c3,c4,c5,c6,c7,c8,c9].drop 8).take<|prog.cellsOf 9)=some x8:=a 8 _ rfl;rw[cS]at q;exact q
  have f9:DataW.trod enc prog W base spare held n 46 [c9]=some x9:=by
   have q:DataW.trod enc prog W base spare held n 46 (([c0,c1,c2,c3,c4,c5,c6,c7,c8,c9].drop 9).take<|prog.cellsOf 46)=some x9:=a 9 _ rfl;rw[cR]at q;exact q
  obtain⟨k,rfl,_,_⟩:=Lr underlying3 f0;obtain⟨s,rfl,_,_⟩:=Lr underlying3 f1;obtain⟨n2,rfl,_⟩:=I7 f2;obtain⟨n3,rfl,_⟩:=I7 f3;obtain⟨l,rfl,_⟩:=I7 f4;obtain⟨b,e5,_⟩:=DataW.trod_bool underlying4 f5;obtain⟨m,rfl,_⟩:=I7 f6;obtain⟨o,rfl,_⟩:=I7 f7;obtain⟨d,e8,g,_⟩:=DataW.trod_string underlying9 f8;obtain⟨rv,rs,e9,i,hbr⟩:=iK f9;cases e5;cases e8;cases e9;have c:x8=(.lit<|.string d.data.toList,[]):=qp g;have hx9:(some x9).get rfl=x9:=rfl;refine⟨{ kind:=k,stream:=s,off:=n2,rel:=n3,lF:=l,fin:=b,id:=m,dl:=o,data:=d.data.toList,kC:=rs },c9,?_,i,?_⟩
  .have hd:zy d.data.toList=d:=by simp[zy]
   show _=[Value.int .i64 k,.int .i64 s,.int .u64 n2,.int .u64 n3,.int .u64 l,.bool b,.int .u64 m,.int .u64 o,.string<|zy d.data.toList,c9];rw[hd]
  have:=P8 x0.1;subst c;simp only[BO,B8,Rows.uptoBulk,Rows.uptoBulkAll];omega
def FO(a:List (DF×rU)):Nat:=(a.map λfr=>fr.1.data.length+fr.1.kC.length+1).sum
instance:Inhabited DF:=⟨{ kind:=0,stream:=0,off:=0,rel:=0,lF:=0,fin:=false,id:=0,dl:=0,data:=[],kC:=[] }⟩
instance (priority:=1):Inhabited rU:=⟨.nilIface⟩
theorem iJ(h:DataW.trod enc prog W base spare held fuel 35 cs=some x):∃v n,cs=[v]/\FE W v n/\FO n<=Rows.uptoBulk x.1:=by
 rcases open_slice underlying35 h with⟨rfl,rfl⟩|⟨a,len,u,m,n,D,h,rfl,hb,R,X,z,rfl,M⟩
 .exact⟨_,[],rfl,⟨none,0,rfl,AI _,AK _,λi fr e=>by simp at e⟩,AK _⟩
 have h:len<=m:=by rw[z];split<;>omega
 have A:∀i,i<len->∃fr:DF×rU,(∃g o,a=⟨g,o,none⟩/\∀j y,(ze fr.1 fr.2)[j]?=some y->W ⟨g,o+i*10+j,none⟩=some y)/\RR W fr.2 fr.1.kC/\fr.1.data.length+fr.1.kC.length+1<=Rows.uptoBulk (D i):=by
  intro i e;obtain⟨h,B,N⟩:=M i I;obtain⟨h,m,_⟩:=M 0 I;rw[T9]at B m;obtain⟨h,Y⟩:=Lu B;obtain⟨h,C⟩:=Lu m;obtain⟨g,o,rfl⟩:∃g o,a=⟨g,o,none⟩:=by
   have h:=C 0 I;rw[AG I]at h;exact QJ h
  obtain⟨f,Z,rfl,E,G⟩:=gE N;refine⟨(f,Z),⟨g,o,rfl,λj y h=>?_⟩,E,G⟩;have m:j<10:=(AJ.1 h).1;have:=Y j m;rw[EU,EU,Ba]at this;rw[this];exact h
 obtain⟨F,O⟩:=choose_lt (α := DF×rU) A;refine⟨_,(List.range len).map F,rfl,⟨some a,u,nl,qp R,X,λi fr e=>?_⟩,?_⟩
 .have q:i<len:=by
   have:=(AO.1 e).1;simpa using this
  have K:fr=F i:=by
   simp[q]at e;exact e.symm
  subst K;obtain⟨⟨g,o,rfl,q1⟩,q2,_⟩:=O i q;exact⟨⟨g,o,rfl,q1⟩,q2⟩
 have:∀k,k<=len->(((List.range k).map F).map λfr=>fr.1.data.length+fr.1.kC.length+1).sum<=Rows.uptoBulkAll ((List.range k).map D):=by
  have L:∀l r:List (DataW H),Rows.uptoBulkAll (l++r)=Rows.uptoBulkAll l+Rows.uptoBulkAll r:=by
   intro l r
   induction l with
   | nil=>simp[Rows.uptoBulkAll]
   | cons x l ih=>simp only[List.cons_append,Rows.uptoBulkAll,ih];omega
  intro k
  induction k with
  | zero=>intro _;simp[Rows.uptoBulkAll]
  | succ k ih =>
   intro a;have B:=ih I;have N:=(O k I).2.2;simp only[BK,A9,List.sum_append,L,BO,B8,List.sum_cons,List.sum_nil,Rows.uptoBulkAll];omega
 have:=this len<|AI _;simp only[Rows.uptoBulk,FO];omega
theorem iI(h:DataW.trod enc prog W base spare held fuel 37 cs=some x):∃(n:Nat) (v:rU) (a:List (DF×rU)),cs=[.int .u64 n,v]/\n<18446744073709551616/\FE W v a/\FO a<=Rows.uptoBulk x.1:=by
 obtain⟨z,A,B,rfl,m,q,u⟩:=trod_struct2 underlying37 h;rw[UZ]at m;have h:prog.cellsOf 35=1:=kw
 match cs,m with
 | [c0,c1],_ =>
  simp only[CR,List.drop_succ_cons,h,J9,Bt,B0]at q u;obtain⟨n,rfl,y⟩:=I7 q;obtain⟨v,a,e,g,h⟩:=iJ u;cases e;refine⟨n,_,a,rfl,y,g,?_⟩;simp only[Rows.uptoBulk,Rows.uptoBulkAll];omega
end
def eC(f:DF):(zC f).length<=32*(f.data.length+f.kC.length+1):=by
 have a:=Jy;unfold zC;repeat' split
 all_goals simp only[Fa,IF,ID,IK,IG,IE,Fy,AF,Aa,Aw]
 .omega
 .have e:=a<|DB f.kC 0;have g:=a<|f.kC.length-1;have h:=a<|DB f.kC 0-DE f.kC 0;have m:=Mu f.kC<|f.kC.length-1;omega
 all_goals
  have e:=a f.stream.toNat;have g:=a f.off;have h:=a f.rel;have m:=a f.lF;have e:=a f.id;have e:=a f.dl;have e:=a f.data.length;omega
theorem Rd(a:List (DF×rU)):((a.map (·.1)).flatMap zC).length<=32*FO a/\a.length<=FO a/\∀fr∈a,fr.1.data.length<=FO a/\fr.1.kC.length<=FO a:=by
 unfold FO
 induction a with
 | nil=>simp
 | cons f a ih =>
  obtain⟨a,h,g⟩:=ih;have:=eC f.1;simp only[BO,CQ,AF,Aa,List.sum_cons];refine⟨I,I,λfr e=>?_⟩;rcases Be.1 e with rfl|e
  .omega
  have:=g fr e;omega
structure EF where
 kind:Int
 a:Int
 b:Int
 c:Int
 s:qq
 n:Nat
 fs:List (DF×rU)
 fv:rU
def ED(o:EF):Array rU:=#[.int .i64 o.kind,.int .i64 o.a,.int .i64 o.b,.int .i64 o.c,.string (zy o.s),.int .u64 o.n,o.fv]
def EF.Wf(o:EF):Prop := -9223372036854775808<=o.a/\o.a<=9223372036854775807 /\ -9223372036854775808<=o.b/\o.b<=9223372036854775807 /\ -9223372036854775808<=o.c/\o.c<=9223372036854775807/\o.n<18446744073709551616
def GX(l:List EF):Nat:=(l.map λo=>o.s.length+FO o.fs+1).sum
def Ix(w:rT)(v:rU)(l:List EF):Prop :=
 ∃a e,v=.slice a l.length e/\l.length<=e/\e<=maxLen/\∀i o,l[i]?=some o ->
  (∃g e,a=some ⟨g,e,none⟩/\∀j x,(ED o)[j]?=some x->w ⟨g,e+i*7+j,none⟩=some x)/\FE w o.fv o.fs/\o.Wf
variable{v:rU}{w w':rT}
def Ix.kI{l:List EF}(h:Ix w v l)(m:C9 DA w w'):Ix w' v l:=by
 obtain⟨a,e,rfl,q,u,y⟩:=h;refine⟨a,e,rfl,q,u,λi o z=>?_⟩;obtain⟨⟨g,n,rfl,A⟩,B,C⟩:=y i o z;exact⟨⟨g,n,rfl,λj x e=>m.cell (a:=⟨g,_,none⟩) id<|A j x e⟩,B.kI m,C⟩
variable{b g:Nat}
def Sd{o:EF}(h:∀j x,(ED o)[j]?=some x->w ⟨g,b+j,none⟩=some x):w (g,b)=some (.int .i64 o.kind)/\w (g,b+1)=some (.int .i64 o.a)/\w (g,b+2)=some (.int .i64 o.b)/\w (g,b+3)=some (.int .i64 o.c) /\
  w (g,b+4)=some (.string<|zy o.s)/\w (g,b+5)=some (.int .u64 o.n)/\w (g,b+6)=some o.fv :=
 ⟨h 0 _ rfl,h 1 _ rfl,h 2 _ rfl,h 3 _ rfl,h 4 _ rfl,h 5 _ rfl,h 6 _ rfl⟩
def Tv:prog.cellsOf 39=7:=kw
section
variable {H:Type} {enc:TypeId×rU->H} {W:rT} {base:Nat} {spare:Nat->Bool} {held:Bool} {fuel:Nat} {cs:qt} {x:DataW H×List MemPlace}
theorem Y0(h:DataW.trod enc prog W base spare held fuel 39 cs=some x):∃o:EF,cs=(ED o).toList/\FE W o.fv o.fs/\o.Wf/\o.s.length+FO o.fs+1<=Rows.uptoBulk x.1:=by
 obtain⟨xs,n,_,rfl,hl,i,e⟩:=DataW.trod_struct underlying39 h;rw[Tv]at hl;have g:prog.cellsOf 3=1:=kw;have cS:prog.cellsOf 9=1:=kw
 match cs,hl,xs,i with
 | [c0,c1,c2,c3,c4,c5,c6],_,[x0,x1,x2,x3,x4,x5],_ =>
  have f0:DataW.trod enc prog W base spare held n 3 [c0]=some x0:=by
   have q:DataW.trod enc prog W base spare held n 3 (([c0,c1,c2,c3,c4,c5,c6].drop 0).take<|prog.cellsOf 3)=some x0:=e 0 _ rfl;rw[g]at q;exact q
  have f1:DataW.trod enc prog W base spare held n 3 [c1]=some x1:=by
   have q:DataW.trod enc prog W base spare held n 3 (([c0,c1,c2,c3,c4,c5,c6].drop 1).take<|prog.cellsOf 3)=some x1:=e 1 _ rfl;rw[g]at q;exact q
  have f2:DataW.trod enc prog W base spare held n 3 [c2]=some x2:=by
   have q:DataW.trod enc prog W base spare held n 3 (([c0,c1,c2,c3,c4,c5,c6].drop 2).take<|prog.cellsOf 3)=some x2:=e 2 _ rfl;rw[g]at q;exact q
  have f3:DataW.trod enc prog W base spare held n 3 [c3]=some x3:=by
   have q:DataW.trod enc prog W base spare held n 3 (([c0,c1,c2,c3,c4,c5,c6].drop 3).take<|prog.cellsOf 3)=some x3:=e 3 _ rfl;rw[g]at q;exact q
  have f4:DataW.trod enc prog W base spare held n 9 [c4]=some x4:=by
   have q:DataW.trod enc prog W base spare held n 9 (([c0,c1,c2,c3,c4,c5,c6].drop 4).take<|prog.cellsOf 9)=some x4:=e 4 _ rfl;rw[cS]at q;exact q
  have f5:DataW.trod enc prog W base spare held n 37 [c5,c6]=some x5:=by
   have q:DataW.trod enc prog W base spare held n 37 (([c0,c1,c2,c3,c4,c5,c6].drop 5).take<|prog.cellsOf 37)=some x5:=e 5 _ rfl;rw[UZ]at q;exact q
  obtain⟨k,rfl,_,_⟩:=Lr underlying3 f0;obtain⟨a,rfl,a1,a2⟩:=Lr underlying3 f1;obtain⟨b,rfl,b1,b2⟩:=Lr underlying3 f2;obtain⟨c,rfl,c1,c2⟩:=Lr underlying3 f3;obtain⟨d,e4,j,_⟩:=DataW.trod_string underlying9 f4;obtain⟨m,v,fs,e5,hm,l,hbk⟩:=iI f5;cases e4;cases e5;have f:x4=(.lit<|.string d.data.toList,[]):=qp j;refine⟨{ kind:=k,a:=a,b:=b,c:=c,s:=d.data.toList,n:=m,fs:=fs,fv:=c6 },?_,l,⟨a1,a2,b1,b2,c1,c2,hm⟩,?_⟩
  .have hd:zy d.data.toList=d:=by simp[zy]
   show _=[Value.int .i64 k,.int .i64 a,.int .i64 b,.int .i64 c,.string<|zy d.data.toList,.int .u64 m,c6];rw[hd]
  have:=P8 x0.1;subst f;simp only[BO,B8,Rows.uptoBulk,Rows.uptoBulkAll];omega
instance:Inhabited EF:=⟨{ kind:=0,a:=0,b:=0,c:=0,s:=[],n:=0,fs:=[],fv:=.nilIface }⟩
theorem open_script(h:DataW.trod enc prog W base spare held fuel 22 cs=some x):∃v l,cs=[v]/\Ix W v l/\GX l<=Rows.uptoBulk x.1:=by
 rcases open_slice underlying22 h with⟨rfl,rfl⟩|⟨a,len,z,m,n,D,h,rfl,hb,R,X,A,rfl,M⟩
 .exact⟨_,[],rfl,⟨none,0,rfl,AI _,AK _,λi fr q=>by simp at q⟩,AK _⟩
 have h:len<=m:=by rw[A];split<;>omega
 have B:∀i,i<len->∃o:EF,(∃g e,a=⟨g,e,none⟩/\∀j y,(ED o)[j]?=some y->W ⟨g,e+i*7+j,none⟩=some y)/\FE W o.fv o.fs/\o.Wf/\o.s.length+FO o.fs+1<=Rows.uptoBulk (D i):=by
  intro i q;obtain⟨h,C,N⟩:=M i I;obtain⟨h,m,_⟩:=M 0 I;rw[Tv]at C m;obtain⟨h,Y⟩:=Lu C;obtain⟨h,E⟩:=Lu m;obtain⟨g,e,rfl⟩:∃g e,a=⟨g,e,none⟩:=by
   have h:=E 0 I;rw[AG I]at h;exact QJ h
  obtain⟨o,rfl,Z,hw,G⟩:=Y0 N;refine⟨o,⟨g,e,rfl,λj y h=>?_⟩,Z,hw,G⟩;have m:j<7:=(AJ.1 h).1;have:=Y j m;rw[EU,EU,Ba]at this;rw[this];exact h
 obtain⟨F,O⟩:=choose_lt (α := EF) B;refine⟨_,(List.range len).map F,rfl,⟨some a,z,nl,qp R,X,λi o q=>?_⟩,?_⟩
 .have u:i<len:=by
   have:=(AO.1 q).1;simpa using this
  have K:o=F i:=by
   simp[u]at q;exact q.symm
  subst K;obtain⟨⟨g,e,rfl,q1⟩,q2,q3,_⟩:=O i u;exact⟨⟨g,e,rfl,q1⟩,q2,q3⟩
 have:∀k,k<=len->(((List.range k).map F).map λo=>o.s.length+FO o.fs+1).sum<=Rows.uptoBulkAll ((List.range k).map D):=by
  have L:∀l r:List (DataW H),Rows.uptoBulkAll (l++r)=Rows.uptoBulkAll l+Rows.uptoBulkAll r:=by
   intro l r
   induction l with
   | nil=>simp[Rows.uptoBulkAll]
   | cons x l ih=>simp only[List.cons_append,Rows.uptoBulkAll,ih];omega
  intro k
  induction k with
  | zero=>intro _;simp[Rows.uptoBulkAll]
  | succ k ih =>
   intro a;have C:=ih I;have N:=(O k I).2.2.2;simp only[BK,A9,List.sum_append,L,BO,B8,List.sum_cons,List.sum_nil,Rows.uptoBulkAll];omega
 have:=this len<|AI _;simp only[Rows.uptoBulk,GX];omega
end
theorem Mn(l:List EF):l.length<=GX l/\∀o∈l,o.s.length<=GX l/\FO o.fs<=GX l:=by
 unfold GX
 induction l with
 | nil=>simp
 | cons x l ih =>
  obtain⟨g,e⟩:=ih;simp only[BO,Aa,List.sum_cons];refine⟨I,λo a=>?_⟩;rcases Be.1 a with rfl|a
  .omega
  have:=e o a;omega
end
section
open Go.RowKit Go.Proofs.Tryz
def La(k:Int):Bool := !(k==3||k==7||k==8)
def Hh(l:List DF):Bool:=l.all λf=>La f.kind
def Js(a:List (DF×rU))(k:Nat):Bool:=(a.take k).all λfr=>La fr.1.kind
def ie(a:List (DF×rU))(k:Nat)(fr:DF×rU)(h:a[k]?=some fr):Js a (k+1)=(Js a k&&La fr.1.kind):=by
 unfold Js;rw[Ai,h];simp
def Yv(a:List (DF×rU)):Hh (a.map (·.1))=Js a a.length:=by
 unfold Hh Js;rw[List.take_length,List.all_map];rfl
def ia(a:List (DF×rU))(k:Nat)(fr:DF×rU)(h:a[k]?=some fr)(e:La fr.1.kind=false):Hh (a.map (·.1))=false:=by
 unfold Hh;cases hq:(a.map (·.1)).all λf=>La f.kind
 .rfl
 rw[By]at hq;have:=hq fr.1<|List.mem_map_of_mem<|AZ h;rw[e]at this;cases this
def TH(n:Nat)(e:List (DF×rU))(v:rU)(w:rT)(h:FE w v e):rH 7 #[.agg #[.int .u64 n,v]] w (EX w (Hh (e.map (·.1)))):=by
 obtain⟨a,A,rfl,K,g,B⟩:=id h;unfold maxLen at g;have H:=zb h;obtain⟨W0,g⟩:=nm<|w.alloc<|.cells #[n,.slice a e.length A] 37;have X:=AB g;have c1:W0 (w,1)=some (.slice a e.length A):=by rw[<-g];exact za (heap_alloc_new w _) rfl
 have q:=zb X;have G:=zb c1;have n:=zb g;obtain⟨E,K⟩:=nm<|Hh<|e.map (·.1);have C:=zb K;rw[K];clear X c1 g B h K;go_enter func7,ntmps7;go_wp2_with fail;rw[n.z]
 go_loopw [3] (λi wr=>∃k:Nat,k<=e.length/\i=.int .i64 k/\C9 DA W0 wr/\AA (Js e k=true)) (λi _=>e.length-(intOf i).toNat)
 case atStart=>exact⟨0,AK _,rfl,C9.refl _ _,zb rfl⟩
 case round =>
  obtain⟨k,g,rfl,m,Y⟩:=hrel;have M:=zb m;have g:=m.cell (a:=U w.heap.size 1) id G.z;by_cases g:k<e.length
  .obtain⟨fr,u⟩:∃fr,e[k]?=some fr:=⟨e[k],AG g⟩;have g:FE wr (.slice a e.length A) e:=(H.z.kI q.z).kI m;obtain⟨h,a,L,_,_,B⟩:=g;cases L;obtain⟨⟨g,o,rfl,Z⟩,_⟩:=B k fr u;obtain⟨a,_⟩:=GC Z;have HS:=zb<|ie e k fr u;have D:=zb<|ia e k fr u;obtain⟨z,g⟩:=nm fr.1.kind;rw[g]at a HS D;clear g Z B m u;by_cases N:z=3
   .subst N;have y:=zb<|D.z rfl;go_wp2;go_ret;refine⟨?_,q.z.trans M.z⟩;rw[<-C.z,y.z];rfl
   by_cases O:z=7
   .subst O;have y:=zb<|D.z rfl;go_wp2;go_ret;refine⟨?_,q.z.trans M.z⟩;rw[<-C.z,y.z];rfl
   by_cases R:z=8
   .subst R;have y:=zb<|D.z rfl;go_wp2;go_ret;refine⟨?_,q.z.trans M.z⟩;rw[<-C.z,y.z];rfl
   have a:(z==3)=false:=AM.2 N;have g:(z==7)=false:=AM.2 O;have h:(z==8)=false:=AM.2 R;have y:AA (Js e (k+1)=true):=by
    show _=_;rw[HS.z,Y.z,La,a,g,h];rfl
   clear N O R;go_wp2;go_roundw
   case rel=>exact⟨k+1,I,by go_num,M.z,y⟩
   simp[intOf];omega
  have a:k=e.length:=I;have y:AA (E=true):=by
   show _=_;rw[<-C.z,Yv,<-a];exact Y.z
  clear m a;go_wp2;go_ret;refine⟨?_,q.z.trans M.z⟩;rw[y.z];rfl
def VS(w:rT)(n:Nat)(e:Ending)(w':rT):Prop:=∃b,EX w b e w'/\(b=true->n<=65536)
def Yu(l:List EF)(v:rU)(w:rT)(h:Ix w v l)(hb:GX l<=1048576):rH 6 #[v] w (VS w l.length):=by
 obtain⟨a,aa,rfl,h1,h2,C⟩:=id h;unfold maxLen at h2;have H:=zb h;have HB:=zb<|Mn l;have E:=zb hb;have ab:l.length<=1048576:=qm<|(Mn l).1;clear h C hb;go_enter func6,ntmps6;go_wp2_with fail
 go_loopw [3,4] (λG i wr=>∃k:Nat,∃n:Int,k<=l.length/\G=.int .i64 n/\(l.length:Int)<=n/\n<=4194304/\i=.int .i64 k/\C9 DA w wr) (λ_ i _=>l.length-(intOf i).toNat)
 case atStart=>exact⟨0,l.length,AK _,rfl,I,I,rfl,C9.refl _ _⟩
 case round =>
  obtain⟨k,n,hk,rfl,h,ac,rfl,m⟩:=hrel;have M:=zb m;by_cases h:n<=65536
  .by_cases z:k<l.length
   .obtain⟨o,Y⟩:∃o,l[k]?=some o:=⟨l[k],AG z⟩;obtain⟨a',h,K,_,_,C⟩:=H.z.kI m;cases K;obtain⟨⟨g,h,rfl,Z⟩,L,_⟩:=C k o Y;obtain⟨h,K,ad,ae,af,ag,A⟩:=Sd Z;obtain⟨b1,b2⟩:=HB.z.2 o<|AZ Y;obtain⟨_,Y,K⟩:=Rd o.fs;have h:=E.z;obtain⟨fa,N,B,E,f2,D⟩:=id L;have HF:=zb L;rw[B]at A;have hd:∀fr∈o.fs,fr.1.data.length<=1048576/\fr.1.kC.length<=1048576:=λfr u=>qm<|K fr u
    have HD:=zb hd;have ah:o.s.length<=1048576:=I;have ai:o.fs.length<=1048576:=I;clear hd Z C b1 b2 Y K h E f2 D L m;obtain⟨WB,O⟩:=nn wr;subst O;have h:wrap64 (n+o.s.length)=n+o.s.length:=IntWalk.wrap64_in _ I;have C:wrap64 (n+o.s.length+o.fs.length)=n+o.s.length+o.fs.length:=IntWalk.wrap64_in _ I;go_wp2;go_quiet (fail);go_wp2_with fail
    go_loopw [3,5] (λG j wr=>∃q:Nat,∃n:Int,q<=o.fs.length/\G=.int .i64 n/\(l.length:Int)<=n/\n<=4194304/\j=.int .i64 q/\C9 DA WB wr) (λ_ j _=>o.fs.length-(intOf j).toNat)
    case atStart=>exact⟨0,n+o.s.length+o.fs.length,AK _,by rw[zM,show wrap64 (n+(o.s.length:Int))=n+o.s.length from h,show wrap64 (n+(o.s.length:Int)+(o.fs.length:Int))=n+o.s.length+o.fs.length from C],I,I,rfl,rS.drewN _⟩
    case round =>
     obtain⟨q,e,C,rfl,h,n,rfl,m⟩:=hrel;have h:=m.cell (a:=⟨g,_,none⟩) id A;have M2:=zb<|M.z.trans m;have R:=zb m;by_cases a:q<o.fs.length
     .obtain⟨fr,u⟩:∃fr,o.fs[q]?=some fr:=⟨o.fs[q],AG a⟩;obtain⟨a,g,y,_,_,D⟩:=HF.z.kI m;rw[B]at y;cases y;obtain⟨⟨a,g,rfl,N⟩,X⟩:=D q fr u;obtain⟨a,g,h,n,y,A,B,C,G,E⟩:=GC N;obtain⟨K,L,G,_⟩:=X;rw[G]at E;obtain⟨E,G⟩:=HD.z fr<|AZ u;clear m N D u a g h n y A B C;by_cases a:e<=65536
      .have a:wrap64 (e+fr.1.data.length)=e+fr.1.data.length:=IntWalk.wrap64_in _ I;have g:wrap64 (e+fr.1.data.length+fr.1.kC.length)=e+fr.1.data.length+fr.1.kC.length:=IntWalk.wrap64_in _ I;go_wp2;go_quiet (fail);go_wp2;go_roundw
       case rel=>exact⟨q+1,e+fr.1.data.length+fr.1.kC.length,I,by rw[zM,show wrap64 (e+(fr.1.data.length:Int))=e+fr.1.data.length from a,show wrap64 (e+(fr.1.data.length:Int)+(fr.1.kC.length:Int))=e+fr.1.data.length+fr.1.kC.length from g],I,I,by go_num,R.z.drewN _⟩
       simp[intOf];omega
      go_wp2;go_roundw
      case rel=>exact⟨k+1,e,I,rfl,I,I,by go_num,M2.z⟩
      simp[intOf];omega
     clear m;go_wp2;go_roundw
     case rel=>exact⟨k+1,e,I,rfl,I,I,by go_num,M2.z⟩
     simp[intOf];omega
   clear m;go_wp2;go_ret;exact⟨_,⟨rfl,M.z⟩,λ_=>I⟩
  clear m;by_cases z:k<l.length
  .go_wp2;go_ret;exact⟨_,⟨rfl,M.z⟩,λx=>by first|cases x|(have:=CI x;omega)⟩
  go_wp2;go_ret;exact⟨_,⟨rfl,M.z⟩,λx=>by first|cases x|(have:=CI x;omega)⟩
end
section
open Go.ChangeShapes Go.WideShapes Go.ChangeAt Go.RowKit
open Go.Proofs.Tryz
def O0 {H : Type} : List (String × DataW H) := [("errors.errorType", Rows.laid_errors_errorType), ("mediawire/wire.table", Rows.laid_mediawire_wire_table)]
def Qv : prog.globalNamed "errors.errorType" = some 0 := kw
def NX : prog.globalNamed "mediawire/wire.table" = some 1 := kw
def NC:(prog.globals[1]?).map (·.type)=some 255:=kw
def Yp:prog.cellsOf 255=16:=kw
def Yo:prog.cellsOf 72=1:=kw
def Yn : (prog.cutTypes.find? (·.1 == "internal/reflectlite.rtype")).map (·.2) = some 261 := kw
def Ym:((List.range prog.types.size).filter λt=>prog.rowNamed t [101,114,114,111,114])=[80]:=kw
def eA:typeHandle prog 80=.pointer (some ⟨2,80,none⟩):=kw
def MK:List Int:=[0,498536548,997073096,651767980,1994146192,1802195444,1303535960,1342533948,3988292384,4027552580,3604390888,3412177804,2607071920,2262029012,2685067896,3183342108]
variable{W:rT}
def tab_of(h:laidMetH prog O0 W):Fb W:=by
 have a : laidMet prog [("mediawire/wire.table", Lib.tabData .u32 MK)] W /\ handlesMet prog [("errors.errorType", Rows.laid_errors_errorType)] W := h;have e:=Lib.tabIs_of_head (rest:=[]) NX NC underlying255 underlying72 Yo Yp a.1;intro i a;have:=e.cell NX i (by simpa [MK]using a);rw[this];have e:∀j:Fin 16,MK.getD j.val 0=(ct j.val:Int):=lc
 rw[e ⟨i,a⟩]
theorem errT_of(h:laidMetH prog O0 W):Ex W:=by
 have m : laidMet prog [("mediawire/wire.table", Lib.tabData .u32 MK)] W /\ handlesMet prog [("errors.errorType", Rows.laid_errors_errorType)] W := h;obtain⟨a,u,n,h,q,y,z,e⟩:=m.2 _ (As.2 rfl);have A:a=[101,114,114,111,114]:=(Bc h).symm;subst A;obtain rfl:=Bc (Yn.symm.trans q);have g:n∈(List.range prog.types.size).filter λt=>prog.rowNamed t [101,114,114,111,114]:=Bh.2 ⟨CJ.2 y,z⟩
 rw[Ym]at g;obtain rfl:=As.1 g;rw[eA]at e;unfold Ex;simpa using World.var?_cell Qv e 0
noncomputable def laidWorld(os:Os):rT :=
 let w0:=World.holding prog os ⟨#[],#[],[]⟩
 let w1:rT:={ w0 with heap:=w0.heap.modify 0 fun
   | .cells _ t frozen=>.cells #[.iface 261 (.agg #[.pointer (some ⟨2,80,none⟩)])] t frozen
   | o=>o }
 {w1 with heap:=w1.heap.modify 1 fun
   | .cells _ t frozen=>.cells (MK.map λz=>Value.int .u32 z).toArray t frozen
   | o=>o }
def laid_met(a:Os)(args:Array rU):laidMetH prog O0 ((laidWorld a).forCall (λ_ _=>0) ⟨#[],args,[]⟩).memory :=
 laidMetH_of_parts (laidMet_of_run' 8 kw kw) kw
variable{P:Program}{W':rT}
theorem TG{H:Type}{enc:TypeId×rU->H}(m:laidOutB P=true)(hb:Below W.heap.size W W'):∀{a:List TypeId} {h:qt} {n:List (DataW H)} {g:List MemPlace},(∀t∈a,P.readableRec t=true/\t<P.types.size) ->
   DataW.TrodAll enc P W 0 (λ_=>true) true a h n g->(∀x∈g,x.block<W.heap.size)->DataW.TrodAll enc P W' 0 (λb=>decide<|b<W.heap.size) true a h n g
 | [],[],[],_,_,h,_=>h
 | t::_,_::_,_::_,_,hT,⟨p,q,h1,h2,e⟩,hs =>
  ⟨p,q,Below.trod m (hT t<|Be.2<|Or.inl rfl).1 (hT t<|Be.2<|Or.inl rfl).2 h1 hb<|λx a=>hs x<|by rw[e];exact List.mem_append_left _ a,
   TG m hb (λt g=>hT t<|Be.2<|Or.inr g) h2 (λx a=>hs x<|by rw[e];exact List.mem_append_right _ a),e⟩
def post_true{H:Type}{enc:TypeId×rU->H}{f:Func}{s:ChangeSpec}{apart g a:Bool}{args:Array rU}{n q:List (DataW H)}{e:List MemPlace}{tb:TypeId}
  (y:DataW.Whole enc P f.params.toList s.vars apart W args.toList n q e) (M:laidOutB P=true) (z:∀t∈f.params.toList,P.readableRec t=true/\t<P.types.size)
  (K:s.vars=[]) (u:(s.fn H<|n++q).results=[.lit (.bool true)]) (m:(s.fn H<|n++q).args=n) (A:(s.fn H<|n++q).vars=[])
  (B:f.resultTypes=#[tb]) (C:P.underlying tb=some .bool) (hb:Below W.heap.size W W') :
  s.post enc P f apart g a false W args (.bool true) W':=by
 have D:=λx E=>qp<|y.lt x E
 have G:=y;obtain⟨p,q,N,L,rfl,a,e⟩:=y;rw[K]at L;obtain⟨rfl,rfl⟩:=trodVars_none L;refine⟨n,[],p++[],[],p,[],G,?_,?_,?_,hb.frame _,λh=>by cases h⟩
 .rw[u,B];exact trodAll_mk1<|shut_bool C true
 .rw[m];exact TG M hb z N<|λx E=>D x<|List.mem_append_left _ E
 rw[K,A];exact rfl
end
end Go.Proofs.YtddfdpbaiedcjabGreatDoor
