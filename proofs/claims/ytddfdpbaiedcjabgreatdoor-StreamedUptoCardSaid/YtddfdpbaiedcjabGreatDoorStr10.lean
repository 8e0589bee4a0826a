/- Streamed. Part 10 of 17. -/
import Derived.Test.YtddfdpbaiedcjabGreatDoorStr9
import Derived.Lib.BufferWrite
set_option maxRecDepth 100000
set_option maxHeartbeats 16000000
set_option linter.all false
namespace Go.Proofs.YtddfdpbaiedcjabGreatDoor
section
open Go.RowKit Go.Proofs.Tryz
def CS.lE(c:CS)(l:List DI):CS:={ c with kB:=l }
def dM(c:CS)(l:List DI)(f:DF):(c.lE l).again f=(c.again f).lE l:=by
 unfold CS.again CS.lE;split
 .rfl
 split
 .rfl
 split
 .rfl
 split<;>rfl
theorem Qd:∀(a:List DF) (c:CS) (l:List DI),(c.lE l).lG a=(c.lG a).lE l
 | [],_,_=>rfl
 | f::a,c,l=>by
  show((c.lE l).again f).lG a=((c.again f).lG a).lE l;rw[dM,Qd a]
def ej(c:CS)(f:DF)(p:DI):(c.again f).late p=c.late p:=by
 unfold CS.again CS.late;split
 .rfl
 split
 .rfl
 split
 .rfl
 split<;>rfl
theorem QS:∀(a:List DF) (c:CS) (p:DI),(c.lG a).late p=c.late p
 | [],_,_=>rfl
 | f::a,c,p=>by
  show((c.again f).lG a).late p=_;rw[QS a,ej]
def CS.ll(c:CS)(p:DI):CS:=if c.late p then c.lG p.fs else c
def CS.ld(c:CS)(l:List DI):CS:=l.foldl CS.ll c
def ei(c:CS)(p q:DI):(c.ll p).late q=c.late q:=by
 unfold CS.ll;split
 .exact QS _ _ _
 rfl
theorem UT:∀(l:List DI) (c:CS) (q:DI),(c.ld l).late q=c.late q
 | [],_,_=>rfl
 | p::l,c,q=>by
  show((c.ll p).ld l).late q=_;rw[UT l,ei]
def dL(c:CS)(l:List DI)(p:DI):(c.lE l).ll p=(c.ll p).lE l:=by
 unfold CS.ll;rw[show(c.lE l).late p=c.late p from rfl];split
 .exact Qd _ _ _
 rfl
def ed(c:CS)(l:List DI)(k:Nat)(p:DI)(h:l[k]?=some p):c.ld (l.take (k+1))=(c.ld (l.take k)).ll p:=by
 unfold CS.ld;rw[Ai,h,Cj];rfl
theorem Lm(c:CS):c.mF=(c.ld c.kB).lE (c.kB.filter λp => !c.late p):=by
 have h:∀(l:List DI) (d:CS),(∀q,d.late q=c.late q)->l.foldl (λc p=>if c.late p then c.lG p.fs else c) d=d.ld l:=by
  intro l
  induction l with
  | nil=>intro d _;rfl
  | cons p l ih =>
   intro d hd;show l.foldl _ (if d.late p then d.lG p.fs else d)=(d.ll p).ld l;exact ih _ (λq=>by
    split
    .rw[QS,hd]
    exact hd q)
 unfold CS.mF;rw[h c.kB c (λ_=>rfl)];rfl
variable{c:CS}{f:DF}
def I0.lE(h:I0 c f)(l:List DI):I0 (c.lE l) f :=
 ⟨λe=>⟨(h.k4 e).lt,(h.k4 e).st,(h.k4 e).kH,(h.k4 e).kG,(h.k4 e).end_,(h.k4 e).dl⟩,h.k3,h.k6⟩
def Wj(c:CS)(l:List DI)(f:DF):(c.lE l).kP f=(c.kP f).lE l:=by
 unfold CS.kP CS.lE;split<;>rfl
theorem QE:∀(a:List DF) (c:CS) (l:List DI),a.foldl CS.kP (c.lE l)=(a.foldl CS.kP c).lE l
 | [],_,_=>rfl
 | f::a,c,l=>by
  show a.foldl CS.kP ((c.lE l).kP f)=(a.foldl CS.kP<|c.kP f).lE l;rw[Wj,QE a]
def Wi(c:CS)(rs:zE)(l:List DI)(p:DI):(c.lE l).mM rs p=(c.mM rs p).lE l:=by
 unfold CS.mM;split
 .exact QE _ _ _
 rfl
def CS.mW(c:CS)(rs:zE)(l:List DI):CS:=l.foldl (λc p=>c.mM rs p) c
def dK(c:CS)(rs:zE)(l:List DI)(k:Nat)(p:DI)(h:l[k]?=some p):c.mW rs (l.take (k+1))=(c.mW rs (l.take k)).mM rs p:=by
 unfold CS.mW;rw[Ai,h,Cj];rfl
def gq(c:CS)(f:DF):(c.kP f).kB=c.kB:=by
 unfold CS.kP;split<;>rfl
theorem Uh:∀(a:List DF) (c:CS),(a.foldl CS.kP c).kB=c.kB
 | [],_=>rfl
 | f::a,c=>by
  show(a.foldl CS.kP<|c.kP f).kB=_;rw[Uh a,gq]
variable{fs:List DF}{k:Nat}
def gD(h:fs[k]?=some f):(fs.take (k+1)).foldl CS.kP c=((fs.take k).foldl CS.kP c).kP f:=by
 rw[Ai,h,Cj];rfl
def Wh(c:CS)(rs:zE)(h:¬c.next<=DB rs 0):c.lC rs=(0,(((({ c with kO:=max c.kO (DB rs 0) }:CS).mW rs c.kB).lE (c.kB.filter λp => !FW rs p)).mF)):=by
 unfold CS.lC;rw[AH h];rfl
structure MU(c:CS)(f:DF):Prop where
 st:∃k:Nat,k<8/\f.stream=(k:Int)
 a:f.kind=4->f.data≠[]->∃k,LQ c f k
variable{l:qq}
theorem Wg(h:l≠[]):(zy l).toList.isEmpty=false:=by
 rw[ByteArray.toList_eq,KY];cases l with
 | nil=>exact absurd rfl h
 | cons a l=>rfl
def We:(zy []).toList.isEmpty=true:=by
 rw[ByteArray.toList_eq,KY];rfl
variable{q:Nat}{rs:zE}
def gC{p:DI}(h:q<rs.length)(a:DE rs q<=p.n)(g:p.n<=DB rs q):FW rs p=true:=by
 unfold FW;rw[Bi];refine⟨rs[q],Cq h,?_⟩;have e:rs.getD q (0,0)=rs[q]:=by simp[List.getD,h]
 unfold DE at a;unfold DB at g;rw[e]at a g;simp[a,g]
def gp{p:DI}(h:∀j,j<rs.length->¬(DE rs j<=p.n/\p.n<=DB rs j)):FW rs p=false:=by
 unfold FW;rw[Ck];intro r a;obtain⟨j,g,rfl⟩:=Cc.1 a;have a:=h j g;have e:rs.getD j (0,0)=rs[j]:=by simp[List.getD,g]
 unfold DE DB at a;rw[e]at a;simpa using a
def VR(tag:qr)(i b:Nat)(W0:rT)(a:CV)(c:CS)(rs:zE)(p:DI)(e:Ending)(W':rT):Prop :=
 e=.returned (.bool<|FW rs p)/\∃tag' V',zJ tag i b W0 a (c.mM rs p) tag' V' W'
def P0{α : Type}(f:Nat -> α)(k:Nat)(x y : α):zh (zh f k x) k y=zh f k y:=by
 funext j;by_cases h:j=k
 .rw[h,zf,zf]
 rw[zl _ _ h,zl _ _ h,zl _ _ h]
def PQ(tag:qr)(i b:Nat)(W0:rT)(g:CV)(c2:CS)(tag':qr)(W':rT)(e:Ending)(W'':rT):Prop :=
 e=.returned (.tuple #[])/\(∃a e,zJ tag i b W0 g c2 a e W''/\∀g,g<W'.heap.size->a g=tag' g)/\∀g,g<W'.heap.size->tag' g=(0,0)->W''.heap[g]?=W'.heap[g]?
variable{V' V0:CV}{W' W0:rT}{b i:Nat}{tag tag':qr}
def zJ.pJ(h:zJ tag i b W0 V0 c tag' V' W')(m:k<8)(a:(c k).kG.Ok)(lo hi:Nat)(g:lo<=zG)(q:hi<=zG):rH 38 #[(b,9+15*k+4),lo,hi] W' (PQ tag i b W0 V0 { c with ws:=zh c.ws k { c.ws k with kG:=(c k).kG.add lo hi } } tag' W'):=by
 have z:=a.most;have u:=a.rl;have u:=a.fl;have C:=h.p;unfold zG at g q u;have g:(V'.wc k).ownBlock≠some b:=λe=>by
  have n:=h.c.nJ k m b e;rw[h.c.tb]at n;have:=Ax Prod.snd n;simp only at this;omega
 refine(Jw (c k).kG b (9+15*k+4) lo hi (V'.wc k) W' (h.c.px m I) a.wf I I I g z.1 I).mono ?_;rintro e a ⟨e,rfl,n,A,y,B⟩;refine⟨rfl,?_,λg a e=>y.block g a<|λx=>?_⟩
 .obtain⟨a,q,r,e⟩:=h.kG m ⟨n,A,y,B⟩<|Hl _ _ _;exact⟨a,q,r,e⟩
 rcases x with x|x
 .have a:=h.c.tb;rw[<-x,e]at a;have:=Ax Prod.snd a;simp at this
 have a:=h.c.nJ k m g x;rw[e]at a;have:=Ax Prod.snd a;simp at this;omega
def zJ.pI(h:zJ tag i b W0 V0 c tag' V' W')(m:k<8)(a:(c k).kH.Ok)(lo hi:Nat)(g:lo<=zG)(q:hi<=zG):rH 38 #[(b,9+15*k+1),lo,hi] W' (PQ tag i b W0 V0 { c with ws:=zh c.ws k { c.ws k with kH:=(c k).kH.add lo hi } } tag' W'):=by
 have z:=a.most;have u:=a.rl;have u:=a.fl;have C:=h.p;unfold zG at g q u;have g:(V' k).ownBlock≠some b:=λe=>by
  have n:=h.c.nC k m b e;rw[h.c.tb]at n;have:=Ax Prod.snd n;simp only at this;omega
 refine(Jw (c k).kH b (9+15*k+1) lo hi (V' k) W' (h.c.nP m I) a.wf I I I g z.1 I).mono ?_;rintro e a ⟨e,rfl,n,A,y,B⟩;refine⟨rfl,?_,λg a e=>y.block g a<|λx=>?_⟩
 .obtain⟨a,q,r,e⟩:=h.kH m ⟨n,A,y,B⟩<|Hl _ _ _;exact⟨a,q,r,e⟩
 rcases x with x|x
 .have a:=h.c.tb;rw[<-x,e]at a;have:=Ax Prod.snd a;simp at this
 have a:=h.c.nC k m g x;rw[e]at a;have:=Ax Prod.snd a;simp at this;omega
def VQ(c:CS)(f:DF)(k:Nat)(a:f.stream=(k:Int))(g:f.kind=4)(hd:f.data≠[]){c2 e:CS}(h:c2={ c with ws:=zh c.ws k { c.ws k with kG:=(c k).kG.add f.off (f.off+f.data.length-1) } })(m:e={ c2 with ws:=zh c2.ws k { c2.ws k with kH:=(c2 k).kH.add f.off (f.off+f.data.length-1) } }):e=c.kP f:=by
 subst m h;unfold CS.kP WS.lC;rw[AL ⟨g,hd⟩,a];simp only[Am,zf];rw[P0]
def Ti(c:CS)(f:DF)(h:¬(f.kind=4/\f.data≠[])):c.kP f=c:=by
 unfold CS.kP;rw[AH h]
variable{V:CV}{W:rT}{lO:qr}
def gB(h:zJ tag i b W0 V0 c lO V W)(cb lb:Nat)(rs:zE)(la:qs)(g:Nat)
  (aF:W0 cb=some (.pointer b)) (aG:¬Da i tag cb) (aH:W0 lb=some (.slice la rs.length g)) (O:¬Da i tag lb)
  (an:RR W0 (.slice la rs.length g) rs) (L:DN (Da i tag) (.slice la rs.length g)) (aY:rs.length<=1099511627776)
  (p:DI) (v:rU) (hp:(p,v)∈c.kB.zip V0.lh) (aI:FW rs p=true->∀k f,p.fs[k]?=some f->MU ((p.fs.take k).foldl CS.kP c) f) (aZ:p.fs.length<=1099511627776) :
  rH 190 #[.agg #[.int .u64 p.n,.int .u64 p.at_,v],(lb,0),(cb,0)] W (VR tag i b W0 V0 c rs p):=by
 have aJ:AA (∀{c':CS} {tag':qr} {V':CV} {W':rT},zJ tag i b W0 V0 c' tag' V' W'->W' cb=some (.pointer b)):=zb<|λr=>r.m.cell (a:=cb) aG aF;have aK:AA (∀{c':CS} {tag':qr} {V':CV} {W':rT},zJ tag i b W0 V0 c' tag' V' W'->W' lb=some (.slice la rs.length g)):=zb<|λr=>r.m.cell (a:=lb) O aH;have aL:AA (∀{c':CS} {tag':qr} {V':CV} {W':rT},zJ tag i b W0 V0 c' tag' V' W'->RR W' (.slice la rs.length g) rs):=zb<|λr=>an.mod r.m L;have a0:rs.length<=g/\g<=maxLen:=by
  obtain⟨_,_,e,q1,q2,_⟩:=an;cases e;exact⟨q1,q2⟩
 obtain⟨aM,aN⟩:=a0;unfold maxLen at aN;have HP:=zb hp;have aO:=zb aI;obtain⟨pn,R⟩:=nm p.n;obtain⟨pa,ae⟩:=nm p.at_;obtain⟨E,ac⟩:=nm p.fs;rw[ac]at aO aZ;rw[R,ae];have ao:=zb R;have FT:=h.c.fs (p,v) (by rw[h.ft.2];exact hp);obtain⟨l,hl,aP,-,-⟩:=FT;simp only at hl aP;rw[ac]at hl;obtain⟨a,X,rfl,q1,q2,-⟩:=aP;have af:l.length=E.length:=by rw[<-hl,Az]
 rw[af]at HP q1 ⊢;have aQ:=zb ac;have a1:=aJ.z h;have aR:=aK.z h;obtain⟨W1,ad⟩:=nm<|W.alloc<|.cells #[pn,pa,.slice a E.length X] 166;have m1:=AB ad;have R1:=zb<|h.kI m1;have o1:=AD ad;obtain⟨pb,ap⟩:=nm W.heap.size;rw[ap]at o1;have aS:=zb o1;have z0:=za (o:=0) o1 rfl;have z2:W1 (pb,2)=some (.slice a E.length X):=za (o:=2) o1 rfl;have aT:=m1.cell (a:=⟨lb,_,none⟩) id aR;have a2:=zb ad;have a3:=zb ap;obtain⟨RN,aq⟩:=nm rs.length;have ar:=zb aq;rw[aq]at aT aY aM aK aL;clear h hp R ae ac m1 o1 a1 aR ad ap hl af q1 q2 aF aG aH O an L aI aq;go_enter func190,ntmps190;go_upto_region 1 with fail;rw[a2.z,a3.z];go_wp2_with fail
 go_loopw [12] (λiv wr=>∃q:Nat,q<=RN/\iv=.int .i64 q/\AA ((∀j,j<q->¬(DE rs j<=pn/\pn<=DB rs j))/\zJ tag i b W0 V0 c lO V wr/\C9 DA W1 wr)) (λiv _=>RN-(intOf iv).toNat)
 case atStart=>exact⟨0,AK _,rfl,zb ⟨λj hj=>absurd hj<|Al j,R1.z,C9.refl _ _⟩⟩
 case round =>
  clear z0 z2 aT R1;obtain⟨q,h,rfl,y⟩:=hrel;by_cases O:q<RN
  .obtain⟨a',ag,Z,_,_,h3⟩:=aL.z y.z.2.1;have a4:ag=g/\a'=la:=by cases Z;exact rM
   obtain⟨rfl,rfl⟩:=a4;obtain⟨g,o,a5,e1,e2,b1,b2⟩:=h3 q (by rw[ar.z];exact O);subst a5;have z0:=za (o:=0) (y.z.2.2.obj rP aS.z) rfl;have z2:wr (pb,2)=some (.slice a E.length X):=za (o:=2) (y.z.2.2.obj rP aS.z) rfl;have HQ:AA (q<rs.length):=zb (by rw[ar.z];exact O);obtain⟨R,L⟩:=nm<|DE rs q;obtain⟨hi,g⟩:=nm<|DB rs q;rw[L]at e1 b1;rw[g]at e2 b2;have au:=zb L;have av:=zb g;have O:=zo z0;have a6:=zo e1;obtain⟨Y,hY⟩:=nm<|wr.alloc<|.cells #[R,hi] 110;have mY:=AB hY;have oY:=AD hY;have MY:=zb mY;have u0:=za (o:=0) oY rfl;have u1:=za (o:=1) oY rfl;have v0:=mY.cell (a:=pb) id z0;have v2:=mY.cell (a:=U pb 2) id z2;obtain⟨yb,h⟩:=nm wr.heap.size;rw[h]at u0 u1;have HY:=zb hY;have A:=zb h;clear h3 Z L g oY mY hY h;by_cases g:(R:Int)<=pn
   .by_cases g:(pn:Int)<=hi
    .have aw:=zb (gC HQ.z (by rw[au.z,ao.z];omega) (by rw[av.z,ao.z];omega));have RY:=zb<|y.z.2.1.kI MY.z;have g:=zb<|y.z.2.2.trans MY.z;clear y;go_upto_region 4 with fail;rw[HY.z,A.z];go_wp2_with fail
     go_loopw [31] (λiv wr=>∃(k:Nat) (tag':qr) (V':CV),k<=E.length/\iv=.int .i64 k/\AA (zJ tag i b W0 V0 ((E.take k).foldl CS.kP c) tag' V' wr)) (λiv _=>E.length-(intOf iv).toNat)
     case atStart=>exact⟨0,lO,V,AK _,rfl,RY⟩
     case round =>
      clear z0 z2 e1 e2 u0 u1 v0 v2 RY O a6 MY HY A g;obtain⟨k,G,V1,g,rfl,y⟩:=hrel;by_cases g:k<E.length
      .obtain⟨l1,aa,g,-,-⟩:=y.z.c.fs (p,.slice a E.length X) (by rw[Uh,y.z.ft.2];exact HP.z);simp only at aa g;rw[aQ.z]at aa;obtain⟨a',ag,Z,_,_,h3⟩:=g;have ah:l1.length=E.length:=by rw[<-aa,Az]
       rw[ah]at Z;cases Z;obtain⟨⟨f,rv⟩,ax⟩:∃fr,l1[k]?=some fr:=⟨l1[k],AG I⟩;have ay:E[k]?=some f:=by rw[<-aa,Ad,ax];rfl
       obtain⟨⟨a,g,rfl,hc⟩,aA⟩:=h3 k (f,rv) ax;simp only at hc aA;obtain⟨ra,rc,rfl,_⟩:=id aA;obtain⟨a,g,L,O,R,X,Z,bh,bi,h⟩:=GC hc;obtain⟨Y,hY⟩:=nm<|wr.alloc<|.cells (ze f<|.slice ra f.kC.length rc) 48;have mY:=AB hY;have O:=AC hY;have X:zp Y wr.heap.size f (.slice ra f.kC.length rc):=by rw[<-hY];exact heap_alloc_new wr _
       obtain⟨y0,y1,y2,y3,y4,y5,y6,y7,y8,y9⟩:=X.cells;have ok:=aO.z aw.z k f ay;have HT:=zb<|gD (c:=c) ay;obtain⟨c1,g⟩:=nm<|(E.take k).foldl CS.kP c;rw[g]at ok HT y;have a:=y.z.e.z _<|AI _;have RY:=zb<|y.z.kI mY;have aB:=aJ.z RY.z;obtain⟨m,aU,M⟩:=ok.st;rw[M]at y1;obtain⟨fb,R⟩:=nm wr.heap.size;rw[R]at a y0 y1 y2 y8 O;have a7:=zb a;have a8:=zb O;have L:(0:Int)<=m:=I;have L:(m:Int)<8:=I;obtain⟨L,Z⟩:=nm f.kC.length;rw[Z]at h hY;have HY:=zb hY;have A:=zb R;obtain⟨u,h⟩:=nm f.off;obtain⟨n,L⟩:=nm f.data;rw[h]at y2;rw[L]at y8;have ai:=zb h;have B:=zb L;have bj:=zb g;unfold ze at HY;clear h3 ax hc aA mY X ay aa Z y hY R g a O y3 y4 y5 y6 y7 y9 h L ah;by_cases C:f.kind=4
       .by_cases D:f.data=[]
        .have a9:n=[]:=by rw[<-B.z];exact D
         subst a9;have HE:=zb (Ti c1 f (by simp[D]));rw[C]at y0;have a:=zb D;have ba:=We;clear C M D ok;go_upto_region 8 with fail;rw[HY.z,A.z];refine zN ?_;refine zr 7 (λw'=>w' cb=some (.pointer b)/\w' (U fb 1)=some (.int .i64 m)) (⟨aB,y1⟩) ?_;refine GI 0 ?_;iterate 7
          refine GV rfl ?_;try simp only[PS]
         refine zt ?_;refine⟨rfl,?_⟩;go_wp2;go_roundw
         case rel=>exact⟨k+1,G,V1,I,by go_num,zb<|by rw[HT.z,HE.z];exact RY.z.kI (C9.refl DA Y).drew⟩
         simp[intOf];omega
        obtain⟨a,N⟩:=ok.a C D;have bb:m=a:=by
         have a:=N.st;rw[M]at a;omega
        subst bb;have b1:=N.end_;have b2:=N.dl;have a:n≠[]:=by rw[<-B.z];exact D
        have g:=Bu.2 a;rw[ai.z,B.z]at b1;rw[B.z]at b2;have ab:=RY.z.kI<|(C9.refl DA Y).drew.drew;have g:=ab.pJ aU N.kG u (u+n.length-1) I I;have hz:((u+n.length-1:Nat):Int)=(u:Int)+n.length-1:=I;rw[hz,AN 15 m]at g;have h:=zb g;have aV:=zb N;have bc:=zb D;have be:=zb M;have bf:=zb C;rw[C]at y0;unfold zG at b1;have L:=zM n;have L:IntKind.u64.wrap (n.length:Int)=(n.length:Int):=by rw[IntKind.wrap_u64];omega
        have L:=wu ((u:Int)+n.length) I;have L:=wu ((u:Int)+n.length-1) I;have ba:=Wg a;clear g ab ok N M C D hz;go_upto_region 8 with fail;rw[HY.z,A.z];refine zN ?_;refine zr 7 (λw'=>w' cb=some (.pointer b)/\w' (U fb 1)=some (.int .i64 m)) (⟨aB,y1⟩) ?_;refine GI 0 ?_;iterate 7
         refine GV rfl ?_;try simp only[PS]
        refine zt ?_;refine⟨rfl,?_⟩;go_upto_region 10 with fail;refine zN ?_;refine zr 13 (λw'=>w' (U fb 2)=some (.int .u64 u)/\w' (U fb 8)=some (.string<|zy n)) (⟨y2,y8⟩) ?_;refine GI 0 ?_;iterate 13
         refine GV rfl ?_;try simp only[PS]
        refine Dt rfl (λK hK=>?_);go_simp
        with_reducible refine(h.z).mono ?_
        rintro e aW ⟨rfl,⟨a,g,ab,aj⟩,ak⟩;have g:=zb ab;have a:=zb aj;have a:=zb ak;clear ab aj ak;go_simp;refine hK.z _ _ ?_;clear hK K;try simp only[PS]
        refine zt ?_;refine⟨rfl,?_⟩;have h:aW.heap[fb]?=Y.heap[fb]?:=a.z fb (by show fb<Y.heap.size;rw[a8.z];omega) a7.z;have D:=(World.cell?_of_block h).trans y2;have L:=(World.cell?_of_block h).trans y8;have a:=(g.z.kI (C9.refl DA aW).drew).pI aU (by simp only[zf];exact aV.z.kH) u (u+n.length-1) (by unfold zG;omega) (by unfold zG;omega);have hz:((u+n.length-1:Nat):Int)=(u:Int)+n.length-1:=I;rw[hz,AN 15 m]at a;have g:=zb a;clear a h hz;go_upto_region 11 with fail;refine zN ?_;refine zr 13 (λw'=>w' (U fb 2)=some (.int .u64 u)/\w' (U fb 8)=some (.string<|zy n)) (⟨D,L⟩) ?_;refine GI 0 ?_;iterate 13
         refine GV rfl ?_;try simp only[PS]
        refine Dt rfl (λK hK=>?_);go_simp
        with_reducible refine(g.z).mono ?_
        rintro e a ⟨rfl,⟨aC,bg,aX,al⟩,am⟩;have a:=zb aX;have e:=zb al;have e:=zb am;clear aX al am;go_simp;refine hK.z _ _ ?_;clear hK K;try simp only[PS]
        refine zt ?_;refine⟨rfl,?_⟩;go_wp2;go_roundw
        case rel =>
         refine⟨k+1,aC,bg,I,by go_num,zb ?_⟩;rw[HT.z,<-VQ c1 f m be.z bf.z bc.z rfl rfl,ai.z,B.z];exact a.z
        simp[intOf];omega
       have HE:=zb (Ti c1 f (by simp[C]));have a:(f.kind==4)=false:=qp C;clear M ok;go_upto_region 8 with fail;rw[HY.z,A.z];refine zN ?_;refine zr 7 (λw'=>w' cb=some (.pointer b)/\w' (U fb 1)=some (.int .i64 m)) (⟨aB,y1⟩) ?_;refine GI 0 ?_;iterate 7
        refine GV rfl ?_;try simp only[PS]
       refine zt ?_;refine⟨rfl,?_⟩;go_wp2;go_roundw
       case rel=>exact⟨k+1,G,V1,I,by go_num,zb<|by rw[HT.z,HE.z];exact RY.z.kI (C9.refl DA Y).drew⟩
       simp[intOf];omega
      have a:E.length=k:=I;have aD:AA (zJ tag i b W0 V0 (c.mM rs p) G V1 wr):=zb (by
       have:=y.z;rw[AS I]at this;unfold CS.mM;rw[AL aw.z,aQ.z];exact this)
      go_wp2;go_ret;exact⟨by rw[aw.z];rfl,G,V1,aD.z⟩
    go_upto_region 4 with fail;rw[HY.z,A.z];go_wp2;go_roundw
    case rel =>
     refine⟨q+1,I,by go_num,zb ⟨λj hj x=>?_,y.z.2.1.kI MY.z,y.z.2.2.trans MY.z⟩⟩;by_cases aE:j=q
     .subst aE;rw[au.z,av.z]at x;omega
     exact y.z.1 j I x
    simp[intOf];omega
   go_upto_region 4 with fail;rw[HY.z,A.z];go_wp2;go_roundw
   case rel =>
    refine⟨q+1,I,by go_num,zb ⟨λj hj x=>?_,y.z.2.1.kI MY.z,y.z.2.2.trans MY.z⟩⟩;by_cases aE:j=q
    .subst aE;rw[au.z,av.z]at x;omega
    exact y.z.1 j I x
   simp[intOf];omega
  have a:q=RN:=I;have e:=zb (gp (λj hj=>by
   rw[ao.z];exact y.z.1 j<|by rw[ar.z]at hj;omega))
  have aD:AA (zJ tag i b W0 V0 (c.mM rs p) lO V wr):=zb (by
   unfold CS.mM;rw[AH (by rw[e.z];simp)];exact y.z.2.1)
  clear a;go_wp2;go_ret;exact⟨by rw[e.z];rfl,lO,V,aD.z⟩
structure Jo(c:CS):Prop where
 sz:∀p∈c.kB,p.n<=zG/\p.at_<=zG/\p.fs.length<=1099511627776
 ag:∀(k:Nat) p,c.kB[k]?=some p->c.late p=true->∀(j:Nat) f,p.fs[j]?=some f->I0 ((c.ld<|c.kB.take k).lG<|p.fs.take j) f
def Ey(tag:qr)(i b:Nat)(W0:rT)(c:CS)(a:qs)(N cap:Nat)(k:Nat)(R:List (DI×rU))(w:rT):Prop :=
 R.length=N/\∃tag' V',zJ tag i b W0 V' ((c.ld<|c.kB.take k).lE<|R.map (·.1)) tag' V' w/\V'.ft=.slice a N cap/\V'.lh=R.map (·.2)
variable{N cap:Nat}{R:List (DI×rU)}{a:qs}{w:rT}
def Ey.row(h:Ey tag i b W0 c a N cap k R w):w.ownsRow 0 166 3 (.slice a N cap) N (zF R):=by
 obtain⟨a,tag',V',r,e,g⟩:=h;have:=r.c.ft;rw[e,g]at this;simp only[CS.lE,Az,Fw,a]at this;exact this
variable{w':rT}
def Ey.kI(h:Ey tag i b W0 c a N cap k R w)(m:C9 DA w w'):Ey tag i b W0 c a N cap k R w':=by
 obtain⟨a,tag',V',r,e,g⟩:=h;exact⟨a,tag',V',r.kI m,e,g⟩
variable{g:Nat}
def Ey.del(n:0<N->a=some ⟨g,0,none⟩):LT (Ey tag i b W0 c a N cap) N g:=by
 refine⟨λk R w w' h m=>h.kI m,λk R w h=>h.1,λk R w h j x a=>?_⟩;have g:0<N:=by
  have:=(AO.1 a).1;have:=h.1;omega
 have e:=h.row;rw[n g]at e;exact UU e h.1 j x a
variable{cb:Nat}{w1:rT}
def Ey.ask(h:Ey tag i b W0 c a N cap k R w)(ok:Jo c)(y:W0 cb=some (.pointer b))(g:¬Da i tag cb)(m:C9 DA w w1)(x:DI×rU)(D:R[k]?=some x)(A:c.kB[k]?=some x.1):rH 134 #[.agg #[.int .u64 x.1.n,.int .u64 x.1.at_,x.2],(cb,0)] w1 (λe w'=>e=.returned (.bool (c.late x.1))/\Ey tag i b W0 c a N cap (k+1) R w'/\∀q,w.heap.size<=q->q<w1.heap.size->w'.heap[q]?=w1.heap[q]?):=by
 obtain⟨E,tag',V',r,G,C⟩:=h;have B:=r.kI m;have m:=zo y;have h:=B.m.cell (a:=cb) g y;have a:¬Da i tag' cb:=by unfold Da at g ⊢;rw[r.e.lH cb m];exact g
 have g:=AZ A;obtain⟨m,y,K⟩:=ok.sz _ g;have n:∀q,((c.ld<|c.kB.take k).lE<|R.map (·.1)).late q=c.late q:=λq=>UT (c.kB.take k) c q
 have g:=dN B.refl cb h a x.1 x.2 (by rw[C];simp only[CS.lE,Fw];exact AZ D) m y (λe j f a=>by
  rw[n]at e;rw[Qd];exact(ok.ag k x.1 A e j f a).lE _) K
 refine g.mono ?_;rintro e w' ⟨rfl,z,L,u⟩;rw[n]at u ⊢;have a:(if c.late x.1=true then((c.ld<|c.kB.take k).lE<|R.map (·.1)).lG x.1.fs else(c.ld<|c.kB.take k).lE (R.map (·.1)))=(c.ld<|c.kB.take<|k+1).lE (R.map (·.1)):=by
  rw[ed c c.kB k x.1 A,<-dL];unfold CS.ll;rw[n]
 rw[a]at u;refine⟨rfl,⟨E,z,L,B.trans u,u.ft.1.trans G,u.ft.2.trans C⟩,λq e a=>?_⟩;refine u.m.block q a<|λa=>?_;have:=a.1;rw[r.e.z q e]at this;have A:=r.p;simp at this;omega
def SJ(w:rT):(zeroValue 166).run prog w=.ok (.agg #[.int .u64 0,.int .u64 0,.slice none 0 0]) w:=kw
def Jf:DI×rU:=(⟨0,0,[]⟩,.slice none 0 0)
def GQ.none(tag:qr)(t:Nat×Nat)(w:rT):GQ tag t w rV [] :=
 ⟨[],rfl,⟨Option.none,0,rfl,AI _,pi,λi fr h=>by simp at h⟩,λg h=>by simp[Value.kr]at h,λfr h=>by simp at h⟩
theorem US(n:Nat):(Builtin.zeroCells (Value.agg #[.int .u64 0,.int .u64 0,.slice none 0 0]).cells n).toList=zF (List.replicate n Jf):=by
 have h:∀n,(Builtin.zeroCells (Value.agg #[.int .u64 0,.int .u64 0,.slice none 0 0]).cells n).toList=(List.range<|n*3).map (λi=>(#[Value.int .u64 0,Value.int .u64 0,Value.slice none 0 0]:Array rU)[i % 3]!):=λn=>by
  simp[Builtin.zeroCells,Value.cells]
 rw[h];clear h
 induction n with
 | zero=>rfl
 | succ n ih =>
  rw[List.replicate_succ,KW,<-ih,(I:(n+1)*3=3+n*3),List.range_add,A9,Cu];have e:((λi=>(#[Value.int .u64 0,Value.int .u64 0,Value.slice none 0 0]:Array rU)[i % 3]!) ∘ λx=>3+x)=λi=>(#[Value.int .u64 0,Value.int .u64 0,Value.slice none 0 0]:Array rU)[i % 3]!:=by
   funext q;simp only[Function.comp,Nat.add_mod_left]
  rw[e];rfl
def Og(w:rT)(g:Nat)(cs:Array rU):C9 (λq=>q=g) w (w.setRow g cs):=by
 refine⟨rfl,rfl,rfl,by simp[World.setRow],λq e a=>?_⟩;have a:¬g=q:=λe=>a e.symm
 simp[World.setRow,B4,a]
def Ey.lq{R':List (DI×rU)}(h:Ey tag i b W0 c (some ⟨g,0,none⟩) N cap k R w)(m:C9 (λq=>q=g) w w')(y:R'.length=N)(a:w'.ownsRow 0 166 3 (.slice g N cap) N (zF R'))(A:∀p∈R',p∈R\/p=Jf):Ey tag i b W0 c (some ⟨g,0,none⟩) N cap k R' w':=by
 obtain⟨B,tag',V',r,e,C⟩:=h;have z:V'.ft.ownBlock=some g:=by rw[e];rfl
 have n:=r.c.nF g z;have u:∀p∈R',GQ tag' (i,5) w p.2 p.1.fs:=λp h=>by
  rcases A p h with x|x
  .exact r.c.fs p (by rw[C];simp only[CS.lE,Fw];exact x)
  subst x;exact GQ.none _ _ _
 have c1:=r.c.lE m z (R':=R') (by rw[e,y];exact a) u;exact⟨y,tag',{ V' with lh:=R'.map (·.2) },⟨c1,⟨r.e.lH,r.e.new,r.e.z.mod m⟩,Ek r.e r.m<|m.mono<|λq a=>.inl<|EM (r:=4) (by rw[show q=g from a];exact n) lc,r.p,⟨rfl,rfl⟩⟩,e,rfl⟩
def Ey.pv(D:0<N->a=some ⟨g,0,none⟩)(e:N<=cap):Ir (Ey tag i b W0 c a N cap) N g cap:=by
 refine⟨λk R w C h=>?_,λk R w x h E=>?_,λk R w j x h q E=>?_,λk R w j h q=>?_⟩
 .have a:=h.row;rw[D C]at a;obtain⟨m,B,_⟩:=IW a;exact⟨m,B⟩
 .obtain⟨a,tag',V',r,B,G⟩:=h;obtain⟨l,_,⟨X,a,e,_⟩,_,_⟩:=r.c.fs x (by rw[G];simp only[CS.lE,Fw];exact E);exact⟨_,_,_,e⟩
 .have C:0<N:=I;have u:=D C;subst u;have a:=SK x h.row h.1 q;refine h.lq ?_ (by rw[BL];exact h.1) a (λp K=>?_)
  .exact(((C9.refl (λq=>q=g) w).setCell (p:=⟨g,_,none⟩) rO _).setCell (p:=⟨g,_,none⟩) rO _).setCell (p:=⟨g,_,none⟩) rO _
  rcases List.mem_or_eq_of_mem_set K with y|y
  .exact .inl y
  exact .inl<|y ▸ E
 have C:0<N:=I;have u:=D C;subst u;obtain⟨m,B,G,q,u,a⟩:=IW h.row;have e:w.heap[g]?=some (.cells m.toList.toArray 166 (0,0)):=qp B;have a:m.toList.length=cap*3:=qp u;have z:(zF<|List.replicate (N-j) Jf).length=(N-j)*3:=by rw[Ih,Ay]
 refine⟨_,R.take j++List.replicate (N-j) Jf,λu=>MF (P:=prog) w 145 u 166 (.agg #[.int .u64 0,.int .u64 0,.slice none 0 0]) 3 underlying145 SJ rfl (by simp[Value.cells,Value.oneCell']) g (j*3) (N-j) _ m.toList _ e (by rw[a];omega),?_,?_⟩
 .rw[US];have A:(R.take j).length=j:=by rw[AU,h.1];omega
  refine h.lq ?_ (by rw[AF,A,Ay];omega) ?_<|λp K=>?_
  .exact Og w g _
  .refine⟨by rw[Ih,AF,A,Ay];omega,.inr ⟨g,cap,_,rfl,AK _,setRow_heap w g _ _ _ _ B,G,q,?_,?_⟩⟩
   .rw[BS,length_splice _ _ _<|by rw[z,a];omega,a]
   have M:m.toList.take (j*3)=zF (R.take j):=by
    have:=(QF h.row h.1 (n:=j) I);obtain⟨a,L,_,_,_,O⟩:=IW this;rw[B]at L;cases L;exact O
   unfold splice;rw[M,Qo];have a:(zF<|R.take j).length=j*3:=by rw[Ih,A]
   rw[<-List.append_assoc];simp only[C6];rw[BG (by rw[AF,a,z];omega),AS (by rw[AF,a,z];omega)]
  rcases Ap.1 K with y|y
  .exact .inl (Bn y)
  exact .inr<|List.eq_of_mem_replicate y
 rw[BG (by rw[AU,h.1];omega),BY,CM]
variable{n:Nat}
def Rl(h:w.ownsRow 0 166 3 (.slice a N cap) N (zF R))(m:R.length=N)(q:n<=N):w.ownsRow 0 166 3 (.slice a n cap) n (zF (R.take n)):=by
 by_cases a:N=0
 .have a:n=N:=I;rw[a,AS I];exact h
 obtain⟨g,a,e,_,_,u⟩:=zi h;cases e;obtain⟨g,rfl⟩:=u I;exact QF h m q
def Ey.done(h:Ey tag i b W0 c a N cap N R w)(A:c.kB.length=N)(e:n<=N)(B:(R.take n).map (·.1)=c.kB.filter λp => !c.late p):∃tag' V',zJ tag i b W0 V' c.mF tag' V' (w.setCell (b,236) (.slice a n cap)):=by
 have y:=Rl h.row h.1 e;obtain⟨C,tag',V',r,e,D⟩:=h;rw[AS I]at r;have m:C9 (λq=>q=b) w (w.setCell (U b 236)<|.slice a n cap):=(C9.refl (λq=>q=b) w).setCell (p:=⟨b,_,none⟩) rO _;have u:∀g,(Value.slice a n cap).ownBlock=some g->tag' g=(i,4):=λg z=>r.c.nF g<|by rw[e];cases a<;>exact z
 have A:∀g,(Value.slice a n cap).ownBlock=some g->¬g=b:=λg z e=>by
  have h:=u g z;rw[e,r.c.tb]at h;simp at h
 have g:(R.take n).length=n:=by rw[AU,C];omega
 rw[Lm,<-B];refine⟨tag',{ V' with ft:=.slice a n cap,lh:=(R.take n).map (·.2) },⟨?_,⟨r.e.lH,r.e.new,r.e.z.mod m⟩,Ek r.e r.m<|m.mono<|λq h=>.inl<|EM (r:=1) (by rw[show q=b from h];exact r.c.tb) lc,r.p,⟨rfl,rfl⟩⟩⟩;refine r.c.build (R:=λr=>r=1) m (λq h=>⟨1,rfl,by rw[show q=b from h];exact r.c.tb⟩) (λ_ _=>rfl) ?_ rL (λk z=>.inl rK) (λk z=>.inl rK) (λk z=>.inl rK) (λk z=>.inl rK) (λk z=>.inl rK) (.inr ⟨?_,?_,?_,?_⟩) rJ rJ rJ
 .rw[zc r.c.obj];simp only[Ab];rw[show(236:Nat)=233+3 from rfl,Fv (j:=3) ((c.ld c.kB).lE<|R.map (·.1)) ((c.ld c.kB).lE<|(R.take n).map (·.1)) V' { V' with ft:=.slice a n cap,lh:=(R.take n).map (·.2) } (.slice a n cap) rfl rfl rfl rfl]
 .simp only[CS.lE,Az,Fw,g];exact m.owns y A
 .simp[CS.lE]
 .simp only[CS.lE,Fw];intro p a;refine(r.c.fs p<|by rw[D];simp only[CS.lE,Fw];exact Bn a).mod m (λq h e=>?_) (λ_ e=>e);rw[show q=b from h,r.c.tb]at e;simp at e
 exact u
variable{W1:rT}
def Wb(h:zn tag i b c V W)(E:zL tag W)(hi:0<i)(ok:Jo c)(hb:c.kB.length<=1099511627776)(q:W cb=some (.pointer b))(u:¬Da i tag cb)(m:C9 DA W W1)(B:V.ft=.slice a N cap)(n:c.kB.length=N):rH 133 #[.slice a N cap,.func (.func 134) #[] #[.pointer cb]] W1 (Nr (Ey tag i b W c a N cap) c.late (c.kB.zip V.lh) a cap):=by
 have y:(c.kB.zip V.lh).length=N:=by rw[Cf,h.fl,CM,n]
 have z:(c.kB.zip V.lh).map (·.1)=c.kB:=Cp<|CD h.fl.symm;have A:(c.kB.zip V.lh).map (·.2)=V.lh:=List.map_snd_zip<|CD h.fl;have g:=h.ft;rw[B,n]at g;obtain⟨D,n,e,C,G,K⟩:=zi g;cases e;have D:∀(k:Nat) (x:DI×rU),(c.kB.zip V.lh)[k]?=some x->c.kB[k]?=some x.1:=λk x n=>by
  have:=Ax (λl=>l[k]?) z;simp only[Ad,n]at this;exact this.symm
 have g:zJ tag i b W V c tag V W:=⟨h,DK.same E<|C9.refl DA W,C9.refl _ _,hi,⟨rfl,rfl⟩⟩;have E:Ey tag i b W c a N cap 0 (c.kB.zip V.lh) W:=⟨y,tag,V,by rw[z];exact g,B,A.symm⟩;obtain⟨g,h⟩:∃g,0<N->a=some ⟨g,0,none⟩:=by
  by_cases z:0<N
  .obtain⟨g,h⟩:=K z;exact⟨g,λ_=>h⟩
  exact⟨0,λx=>absurd x z⟩
 refine gu (Ey tag i b W c a N cap) c.late (c.kB.zip V.lh) N g cap cb a y I C G h (Ey.del h) (Ey.pv h C) (λk w x a n=>?_) (λk R w o x a n g=>?_) W1<|E.kI m
 .exact(a.ask ok q u (C9.refl DA w) x n<|D k x n).mono (λe w' p=>⟨p.1,p.2.1⟩)
 exact(a.ask ok q u ((C9.refl DA w).alloc o) x n<|D k x g).mono (λe w' p=>⟨p.1,p.2.1,p.2.2 _ (AI _) nl⟩)
def OW(e:zL tag W)(m:C9 DA W W0)(h:DK i tag tag' W0 W'):DK i tag tag' W W':=by
 refine⟨λg a=>h.lH g<|Au a m.size,λg a=>?_,h.z⟩;by_cases q:g<W0.heap.size
 .exact .inr (by rw[h.lH g q];exact e g a)
 exact h.new g I
def SH(h:zn tag i b c V W)(M:zL tag W)(hi:0<i)(ok:Jo c)(hb:c.kB.length<=1099511627776):rH 101 #[(b,0)] W (EN tag i b W (.tuple #[]) c.mF):=by
 obtain⟨a,y,Z,_⟩:=zi h.ft;obtain⟨N,C⟩:=nm c.kB.length;rw[C]at Z;obtain⟨W1,m⟩:=nm<|W.alloc<|.cells #[(b,0)] 57;have O:=AB m;have q:W1 W=some (.pointer b):=by rw[<-m];exact za (heap_alloc_new W _) rfl
 have u:¬Da i tag W.heap.size:=λx=>by
  have g:=x.1;rw[M _ (AI _)]at g;simp at g;omega
 have g:=h.kI O;have D:=M.mod O;have X:=Wb g D hi ok hb q u (C9.refl DA W1).drew Z C;have z:(c.kB.zip V.lh).length=N:=by rw[Cf,h.fl,CM,C]
 have A:(c.kB.zip V.lh).map (·.1)=c.kB:=Cp<|CD h.fl.symm;obtain⟨L,hL⟩:=nm<|c.kB.zip V.lh;rw[hL]at X z A;obtain⟨cb,e⟩:=nm W.heap.size;rw[e]at X q u;have L:W1 (b,236)=some (.slice a N y):=by rw[<-Z];exact g.tl (j:=3) rfl
 have fz:=g.fz 236;have KD:=zb X;have HT:=zb M;have Z:=zb hi;have E:=zb O;have aa:=zb u;have ab:=zb q;have HZ:=zb<|And.intro z A;have HN:=zb C;have Z:=zb m;have ac:=zb e;clear X M hi O u z A C h g D ok hb hL m e;go_enter func101,ntmps101;go_upto_region 1 with fail;try rw[Z.z]
 try rw[ac.z]
 refine zN ?_;refine zr 9 (λw'=>w' cb=some (.pointer b)/\w' (U b 236)=some (.slice a N y)/\w'.frozen? ⟨b,236,none⟩=false) (⟨q,L,fz⟩) ?_;refine GI 0 ?_;iterate 6
  refine GV rfl ?_;try simp only[PS]
 refine zD 6 rfl (λK G=>?_);go_simp
 with_reducible refine(KD.z).mono ?_
 rintro e w6 ⟨n,R,rfl,hn,hj,Y⟩;have h:=zb<|And.intro hn<|And.intro hj Y;have e:w6 cb=some (.pointer b)/\w6 (b,236)=some (.slice a N y)/\w6.frozen? ⟨b,236,none⟩=false:=by
  obtain⟨q,tag',V',r,m,u⟩:=hj;exact⟨r.m.cell (a:=cb) aa.z ab.z,by rw[<-m];exact r.c.tl (j:=3) rfl,r.c.fz 236⟩
 clear hj hn Y;go_simp;refine G.z _ _ e ?_;obtain⟨a,m,q⟩:=e;clear G K;try simp only[PS]
 refine GI 7 ?_;iterate 2
  refine GV rfl ?_;try simp only[PS]
 refine Dt rfl (λK G=>?_);go_simp;refine G.z _ _ ?_;clear G K;try simp only[PS]
 refine zt ?_;refine⟨rfl,?_⟩;go_wp2_with fail
 go_end0
 refine⟨rfl,?_⟩;obtain⟨g,a,e⟩:=h.z;rw[HZ.z.1]at g a;have Y:(R.take n).map (·.1)=c.kB.filter λp => !c.late p:=by
  rw[e,<-HZ.z.2,List.filter_map];rfl
 obtain⟨tag',V',r⟩:=a.done HN.z g Y;exact⟨tag',V',r.c,OW HT.z E.z r.e,(E.z.mono rQ).then r.m.pF<|λg a=>.inl a⟩
def E9(tag:qr)(i b:Nat)(W0:rT)(G:Nat->CS)(a:qs)(N cap:Nat)(k:Nat)(R:List (DI×rU))(w:rT):Prop :=
 R.length=N/\∃tag' V',zJ tag i b W0 V' ((G k).lE<|R.map (·.1)) tag' V' w/\V'.ft=.slice a N cap/\V'.lh=R.map (·.2)
def E9.row{G:Nat->CS}(h:E9 tag i b W0 G a N cap k R w):w.ownsRow 0 166 3 (.slice a N cap) N (zF R):=by
 obtain⟨a,tag',V',r,e,g⟩:=h;have:=r.c.ft;rw[e,g]at this;simp only[CS.lE,Az,Fw,a]at this;exact this
def E9.kI{G:Nat->CS}(h:E9 tag i b W0 G a N cap k R w)(m:C9 DA w w'):E9 tag i b W0 G a N cap k R w':=by
 obtain⟨a,tag',V',r,e,g⟩:=h;exact⟨a,tag',V',r.kI m,e,g⟩
def E9.del{G:Nat->CS}(n:0<N->a=some ⟨g,0,none⟩):LT (E9 tag i b W0 G a N cap) N g:=by
 refine⟨λk R w w' h m=>h.kI m,λk R w h=>h.1,λk R w h j x a=>?_⟩;have g:0<N:=by
  have:=(AO.1 a).1;have:=h.1;omega
 have e:=h.row;rw[n g]at e;exact UU e h.1 j x a
def E9.lq{G:Nat->CS}{R':List (DI×rU)}(h:E9 tag i b W0 G (some ⟨g,0,none⟩) N cap k R w)(m:C9 (λq=>q=g) w w')(y:R'.length=N)(a:w'.ownsRow 0 166 3 (.slice g N cap) N (zF R'))(A:∀p∈R',p∈R\/p=Jf):E9 tag i b W0 G (some ⟨g,0,none⟩) N cap k R' w':=by
 obtain⟨B,tag',V',r,e,C⟩:=h;have z:V'.ft.ownBlock=some g:=by rw[e];rfl
 have n:=r.c.nF g z;have u:∀p∈R',GQ tag' (i,5) w p.2 p.1.fs:=λp h=>by
  rcases A p h with x|x
  .exact r.c.fs p (by rw[C];simp only[CS.lE,Fw];exact x)
  subst x;exact GQ.none _ _ _
 have c1:=r.c.lE m z (R':=R') (by rw[e,y];exact a) u;exact⟨y,tag',{ V' with lh:=R'.map (·.2) },⟨c1,⟨r.e.lH,r.e.new,r.e.z.mod m⟩,Ek r.e r.m<|m.mono<|λq a=>.inl<|EM (r:=4) (by rw[show q=g from a];exact n) lc,r.p,⟨rfl,rfl⟩⟩,e,rfl⟩
def E9.pv{G:Nat->CS}(D:0<N->a=some ⟨g,0,none⟩)(e:N<=cap):Ir (E9 tag i b W0 G a N cap) N g cap:=by
 refine⟨λk R w C h=>?_,λk R w x h E=>?_,λk R w j x h q E=>?_,λk R w j h q=>?_⟩
 .have a:=h.row;rw[D C]at a;obtain⟨m,B,_⟩:=IW a;exact⟨m,B⟩
 .obtain⟨a,tag',V',r,B,K⟩:=h;obtain⟨l,_,⟨G,a,e,_⟩,_,_⟩:=r.c.fs x (by rw[K];simp only[CS.lE,Fw];exact E);exact⟨_,_,_,e⟩
 .have C:0<N:=I;have u:=D C;subst u;have a:=SK x h.row h.1 q;refine h.lq ?_ (by rw[BL];exact h.1) a (λp L=>?_)
  .exact(((C9.refl (λq=>q=g) w).setCell (p:=⟨g,_,none⟩) rO _).setCell (p:=⟨g,_,none⟩) rO _).setCell (p:=⟨g,_,none⟩) rO _
  rcases List.mem_or_eq_of_mem_set L with y|y
  .exact .inl y
  exact .inl<|y ▸ E
 have C:0<N:=I;have u:=D C;subst u;obtain⟨m,B,K,q,u,a⟩:=IW h.row;have e:w.heap[g]?=some (.cells m.toList.toArray 166 (0,0)):=qp B;have a:m.toList.length=cap*3:=qp u;have z:(zF<|List.replicate (N-j) Jf).length=(N-j)*3:=by rw[Ih,Ay]
 refine⟨_,R.take j++List.replicate (N-j) Jf,λu=>MF (P:=prog) w 145 u 166 (.agg #[.int .u64 0,.int .u64 0,.slice none 0 0]) 3 underlying145 SJ rfl (by simp[Value.cells,Value.oneCell']) g (j*3) (N-j) _ m.toList _ e (by rw[a];omega),?_,?_⟩
 .rw[US];have A:(R.take j).length=j:=by rw[AU,h.1];omega
  refine h.lq ?_ (by rw[AF,A,Ay];omega) ?_<|λp L=>?_
  .exact Og w g _
  .refine⟨by rw[Ih,AF,A,Ay];omega,.inr ⟨g,cap,_,rfl,AK _,setRow_heap w g _ _ _ _ B,K,q,?_,?_⟩⟩
   .rw[BS,length_splice _ _ _<|by rw[z,a];omega,a]
   have O:m.toList.take (j*3)=zF (R.take j):=by
    have:=(QF h.row h.1 (n:=j) I);obtain⟨a,M,_,_,_,X⟩:=IW this;rw[B]at M;cases M;exact X
   unfold splice;rw[O,Qo];have a:(zF<|R.take j).length=j*3:=by rw[Ih,A]
   rw[<-List.append_assoc];simp only[C6];rw[BG (by rw[AF,a,z];omega),AS (by rw[AF,a,z];omega)]
  rcases Ap.1 L with y|y
  .exact .inl (Bn y)
  exact .inr<|List.eq_of_mem_replicate y
 rw[BG (by rw[AU,h.1];omega),BY,CM]
def E9.done{G:Nat->CS}(h:E9 tag i b W0 G a N cap N R w)(e:n<=N):∃tag' V',zJ tag i b W0 V' ((G N).lE ((R.take n).map (·.1))) tag' V' (w.setCell (b,236) (.slice a n cap)):=by
 have y:=Rl h.row h.1 e;obtain⟨B,tag',V',r,e,C⟩:=h;have m:C9 (λq=>q=b) w (w.setCell (U b 236)<|.slice a n cap):=(C9.refl (λq=>q=b) w).setCell (p:=⟨b,_,none⟩) rO _;have u:∀g,(Value.slice a n cap).ownBlock=some g->tag' g=(i,4):=λg z=>r.c.nF g<|by rw[e];cases a<;>exact z
 have A:∀g,(Value.slice a n cap).ownBlock=some g->¬g=b:=λg z e=>by
  have h:=u g z;rw[e,r.c.tb]at h;simp at h
 have g:(R.take n).length=n:=by rw[AU,B];omega
 refine⟨tag',{ V' with ft:=.slice a n cap,lh:=(R.take n).map (·.2) },⟨?_,⟨r.e.lH,r.e.new,r.e.z.mod m⟩,Ek r.e r.m<|m.mono<|λq h=>.inl<|EM (r:=1) (by rw[show q=b from h];exact r.c.tb) lc,r.p,⟨rfl,rfl⟩⟩⟩;refine r.c.build (R:=λr=>r=1) m (λq h=>⟨1,rfl,by rw[show q=b from h];exact r.c.tb⟩) (λ_ _=>rfl) ?_ rL (λk z=>.inl rK) (λk z=>.inl rK) (λk z=>.inl rK) (λk z=>.inl rK) (λk z=>.inl rK) (.inr ⟨?_,?_,?_,?_⟩) rJ rJ rJ
 .rw[zc r.c.obj];simp only[Ab];rw[show(236:Nat)=233+3 from rfl,Fv (j:=3) ((G N).lE<|R.map (·.1)) ((G N).lE<|(R.take n).map (·.1)) V' { V' with ft:=.slice a n cap,lh:=(R.take n).map (·.2) } (.slice a n cap) rfl rfl rfl rfl]
 .simp only[CS.lE,Az,Fw,g];exact m.owns y A
 .simp[CS.lE]
 .simp only[CS.lE,Fw];intro p a;refine(r.c.fs p<|by rw[C];simp only[CS.lE,Fw];exact Bn a).mod m (λq h e=>?_) (λ_ e=>e);rw[show q=b from h,r.c.tb]at e;simp at e
 exact u
structure Mh(c:CS)(rs:zE):Prop where
 sz:∀p∈c.kB,p.fs.length<=1099511627776
 ag:∀(k:Nat) p,c.kB[k]?=some p->FW rs p=true->∀(j:Nat) f,p.fs[j]?=some f->MU ((p.fs.take j).foldl CS.kP<|c.mW rs<|c.kB.take k) f
def MU.lE(h:MU c f)(l:List DI):MU (c.lE l) f :=
 ⟨h.st,λa hd=>by
  obtain⟨k,o⟩:=h.a a hd;exact⟨k,⟨o.lt,o.st,o.kH,o.kG,o.end_,o.dl⟩⟩⟩
def IP(c:CS)(rs:zE)(k:Nat):CS:=c.mW rs (c.kB.take k)
def Rk{lb:Nat}{A:qs}{u:Nat}(h:E9 tag i b W0 (IP c rs) a N cap k R w)(ok:Mh c rs)(B:W0 cb=some (.pointer b))(y:¬Da i tag cb)(C:W0 lb=some (.slice A rs.length u))(z:¬Da i tag lb)
  (O:RR W0 (.slice A rs.length u) rs) (D:DN (Da i tag) (.slice A rs.length u)) (X:∀g o n L,Value.slice A rs.length u=.slice (some ⟨g,o,none⟩) n L->g<W0.heap.size) (Y:rs.length<=1099511627776) (m:C9 DA w w1) (x:DI×rU) (hx:R[k]?=some x) (M:c.kB[k]?=some x.1) :
  rH 190 #[.agg #[.int .u64 x.1.n,.int .u64 x.1.at_,x.2],(lb,0),(cb,0)] w1 (λe w'=>e=.returned (.bool<|FW rs x.1)/\E9 tag i b W0 (IP c rs) a N cap (k+1) R w'/\∀q,w.heap.size<=q->q<w1.heap.size->w'.heap[q]?=w1.heap[q]?):=by
 obtain⟨hl,tag',V',r,h1,h2⟩:=h;have E:=r.kI m;have N:=zo B;have Z:=zo C;have h:=E.m.cell (a:=cb) y B;have m:=E.m.cell (a:=lb) z C;have a:¬Da i tag' cb:=by unfold Da at y ⊢;rw[r.e.lH cb N];exact y
 have y:¬Da i tag' lb:=by unfold Da at z ⊢;rw[r.e.lH lb Z];exact z
 have z:DN (Da i tag') (.slice A rs.length u):=by
  intro g o n L e x;unfold Da at x;rw[r.e.lH g (X g o n L e)]at x;exact D g o n L e x
 have g:=AZ M;have n:=ok.sz _ g;have g:=gB E.refl cb lb rs A u h a m y (O.mod E.m D) z Y x.1 x.2 (by rw[h2];simp only[CS.lE,Fw];exact AZ hx) (λe j f a=>by
  rw[QE];exact(ok.ag k x.1 M e j f a).lE _) n
 refine g.mono ?_;rintro e w' ⟨rfl,G,V2,K⟩;have a:((IP c rs k).lE<|R.map (·.1)).mM rs x.1=(IP c rs<|k+1).lE (R.map (·.1)):=by
  unfold IP;rw[dK c rs c.kB k x.1 M,Wi]
 rw[a]at K;refine⟨rfl,⟨hl,G,V2,E.trans K,K.ft.1.trans h1,K.ft.2.trans h2⟩,λq e a=>?_⟩;refine K.m.block q a<|λa=>?_;have:=a.1;rw[r.e.z q e]at this;have M:=r.p;simp at this;omega
def dJ{lb:Nat}{L:qs}{q:Nat}(h:zn tag i b c V W)(X:zL tag W)(hi:0<i)(ok:Mh c rs)(hb:c.kB.length<=1099511627776)(u:W cb=some (.pointer b))(y:¬Da i tag cb)(z:W lb=some (.slice L rs.length q))(A:¬Da i tag lb)
  (B:RR W (.slice L rs.length q) rs) (C:DN (Da i tag) (.slice L rs.length q)) (D:∀g o n Y,Value.slice L rs.length q=.slice (some ⟨g,o,none⟩) n Y->g<W.heap.size) (E:rs.length<=1099511627776) (m:C9 DA W W1) (O:V.ft=.slice a N cap) (q:c.kB.length=N) :
  rH 133 #[.slice a N cap,.func (.func 190) #[] #[.pointer lb,.pointer cb]] W1 (Nr (E9 tag i b W (IP c rs) a N cap) (FW rs) (c.kB.zip V.lh) a cap):=by
 have G:(c.kB.zip V.lh).length=N:=by rw[Cf,h.fl,CM,q]
 have K:(c.kB.zip V.lh).map (·.1)=c.kB:=Cp<|CD h.fl.symm;have M:(c.kB.zip V.lh).map (·.2)=V.lh:=List.map_snd_zip<|CD h.fl;have n:=h.ft;rw[O,q]at n;obtain⟨L,q,e,R,Z,q3⟩:=zi n;cases e;have q:∀(k:Nat) (x:DI×rU),(c.kB.zip V.lh)[k]?=some x->c.kB[k]?=some x.1:=λk x n=>by
  have:=Ax (λl=>l[k]?) K;simp only[Ad,n]at this;exact this.symm
 have L:zJ tag i b W V c tag V W:=⟨h,DK.same X<|C9.refl DA W,C9.refl _ _,hi,⟨rfl,rfl⟩⟩;have X:E9 tag i b W (IP c rs) a N cap 0 (c.kB.zip V.lh) W:=⟨G,tag,V,by rw[K];exact L,O,M.symm⟩;obtain⟨g,h⟩:∃g,0<N->a=some ⟨g,0,none⟩:=by
  by_cases K:0<N
  .obtain⟨g,h⟩:=q3 K;exact⟨g,λ_=>h⟩
  exact⟨0,λx=>absurd x K⟩
 refine jT (E9 tag i b W (IP c rs) a N cap) (FW rs) (c.kB.zip V.lh) N g cap lb cb a G I R Z h (E9.del h) (E9.pv h R) (λk w x a n=>?_) (λk R w o x a n g=>?_) W1<|X.kI m
 .exact(Rk a ok u y z A B C D E (C9.refl DA w) x n<|q k x n).mono (λe w' p=>⟨p.1,p.2.1⟩)
 exact(Rk a ok u y z A B C D E ((C9.refl DA w).alloc o) x n<|q k x g).mono (λe w' p=>⟨p.1,p.2.1,p.2.2 _ (AI _) nl⟩)
def CS.lV(c:CS)(rs:zE):CS:=(({ c with kO:=max c.kO (DB rs 0) }:CS).mW rs c.kB).lE (c.kB.filter λp => !FW rs p)
def Pz(c:CS)(rs:zE)(h:¬c.next<=DB rs 0):c.lC rs=(0,(c.lV rs).mF):=Wh c rs h
variable{W2:rT}{t:Nat}
def JR{x y:rU}{u:Nat}(e:W.alloc (.cells #[x] t)=W1)(g:W1.alloc (.cells #[y] u)=W2):C9 DA W W2/\W2 W=some x/\W2 (W.heap.size+1,0)=some y:=by
 have m:=AB e;have h:=AB g;have n:W1.heap.size=W.heap.size+1:=by rw[<-e];simp
 refine⟨m.trans h,?_,?_⟩
 .refine h.cell (a:=⟨_,0,none⟩) id ?_;rw[<-e];exact za (heap_alloc_new W _) rfl
 rw[<-n,<-g];exact za (heap_alloc_new W1 _) rfl
def gA(h:zn tag i b c V W)(O:zL tag W)(hi:0<i)(rs:zE)(m:qs)(a:Nat)(D:RR W (.slice m rs.length a) rs)(R:∀g,Value.kr (.slice m rs.length a)=some g->(tag g).1≠i)(h0:0<rs.length)(X:rs.length<=1099511627776)(hn:c.next<=DB rs 0):rH 161 #[(b,0),.slice m rs.length a] W (EN tag i b W (.int .i64 11) c):=by
 obtain⟨W0,n⟩:=nm<|W.alloc<|.cells #[(b,0)] 57;obtain⟨W1,e⟩:=nm<|W0.alloc<|.cells #[.slice m rs.length a] 46;obtain⟨E,G,A⟩:=JR n e;have q:=AC n;have K:W1.heap.size=W.heap.size+2:=by rw[<-e];simp[q]
 have y:=D.mod E<|DN.no _;obtain⟨M,z,B,q1,q2,h3⟩:=id y;obtain⟨g,o,L,e1,N,b1,b2⟩:=h3 0 h0;have N:W1 (g,o+1)=some (.int .u64 (DB rs 0:Int)):=qp N;have u:m=some ⟨g,o,none⟩:=by cases B;exact L
 have C:z=a:=by cases B;rfl
 subst u;subst C;have Y:=h.kI E;have Z:=O.mod E;obtain⟨RL,u⟩:=nm rs.length;obtain⟨cb,a⟩:=nm W.heap.size;obtain⟨M,m⟩:=nm<|DB rs 0;obtain⟨nx,C⟩:=nm c.next;have d0:0<RL:=I;have d1:(nx:Int)<=M:=by rw[<-C,<-m];omega
 rw[a]at G A q K;rw[u]at A;rw[m]at N b2;have c6:W1 (b,6)=some (.int .u64 nx):=by rw[<-C];exact Y.hd (j:=6) rfl
 have H0:=zb<|Y.kI (C9.refl DA W1).drew;have HM:=zb E;have HT:=zb O;rw[u]at e;have aa:=zb n;have ab:=zb e;have ac:=zb q;have ad:=zb a;rw[u];clear h O Y Z D y R h0 h3 L B q1 q2 e1 b1 n e q K u m C a E hn X hi;go_enter func161,ntmps161;go_upto_region 1 with fail;rw[aa.z,ab.z,ad.z];try rw[ac.z]
 refine zN ?_;refine zr 9 (λw'=>w' cb=some (.pointer b)/\w' (U (cb+1) 0)=some (.slice (g,o) RL z)/\w' (g,o+1)=some (.int .u64 M)/\w' (U b 6)=some (.int .u64 nx)) (⟨G,A,N,c6⟩) ?_;refine GI 0 ?_;iterate 9
  refine GV rfl ?_;try simp only[PS]
 refine zt ?_;refine⟨rfl,?_⟩;go_wp2;go_ret;exact⟨rfl,H0.z.left HT.z<|HM.z.drew.mono rQ⟩
def fy(h:zn tag i b c V W)(ht:zL tag W)(hi:0<i)(rs:zE)(la:qs)(m:Nat)(am:RR W (.slice la rs.length m) rs)(an:∀g,Value.kr (.slice la rs.length m)=some g->(tag g).1≠i)(h0:0<rs.length)(ao:rs.length<=1099511627776)(hn:¬c.next<=DB rs 0)(hb:c.kB.length<=1099511627776)(ok:Mh { c with kO:=max c.kO (DB rs 0) } rs)(ap:Jo (c.lV rs)):rH 161 #[(b,0),.slice la rs.length m] W (EN tag i b W (.int .i64 0) (c.lV rs).mF):=by
 obtain⟨W0,Z⟩:=nm<|W.alloc<|.cells #[(b,0)] 57;obtain⟨W1,A⟩:=nm<|W0.alloc<|.cells #[.slice la rs.length m] 46;obtain⟨m1,B,z⟩:=JR Z A;have aa:=AC Z;have aq:W1.heap.size=W.heap.size+2:=by rw[<-A];simp[aa]
 have C:=am.mod m1<|DN.no _;obtain⟨a',D,ae,q1,q2,h3⟩:=id C;obtain⟨g,o,ar,e1,e2,b1,b2⟩:=h3 0 h0;have e2:W1 (g,o+1)=some (.int .u64 (DB rs 0:Int)):=qp e2;have aH:la=some ⟨g,o,none⟩:=by cases ae;exact ar
 have aI:D=m:=by cases ae;rfl
 subst aH;subst aI;have h1:=h.kI m1;have au:=ht.mod m1;obtain⟨RL,E⟩:=nm rs.length;obtain⟨y,G⟩:=nm W.heap.size;obtain⟨L,M⟩:=nm<|DB rs 0;obtain⟨nx,af⟩:=nm c.next;have m:0<RL:=I;have m:¬(nx:Int)<=L:=by rw[<-af,<-M];omega
 rw[G]at B z aa aq;rw[E]at z;rw[M]at e2 b2;have c6:W1 (b,6)=some (.int .u64 nx):=by rw[<-af];exact h1.hd (j:=6) rfl
 have ag:W1 (b,237)=some (.int .u64 c.kO):=h1.tl (j:=4) rfl;have av:=h1.fz 237;obtain⟨lg,aw⟩:=nm c.kO;obtain⟨L2,ah⟩:=nm<|max c.kO<|DB rs 0;rw[ah]at ok;have ez:(if lg<L then(L:Int)else(lg:Int))=(L2:Int):=by split<;>omega
 rw[aw]at ag;obtain⟨W2,ab⟩:=nm<|W1.setCell (U b 237)<|.int .u64 L2;have m2:C9 (λq=>q=b) W1 W2:=by rw[<-ab];exact(C9.refl (λq=>q=b) W1).setCell (p:=⟨b,_,none⟩) rO _
 have h2:zn tag i b { c with kO:=L2 } V W2:=by
  rw[<-ab];exact h1.store (233+4) _ (Fv c { c with kO:=L2 } V V (j:=4) _ rfl rfl rfl rfl) ⟨rfl,λ_ _=>⟨rfl,rfl,rfl⟩,λ_ _=>⟨rfl,rfl⟩,rfl,rfl,rfl,rfl⟩
 have ax:=au.mod m2;have O:∀q,y<=q->¬Da i tag q:=λq hq x=>by
  have m:=x.1;rw[ht q I]at m;simp at m;omega
 have ai:∀q,y<=q->q≠b:=λq hq e=>O q hq<|by rw[e];exact EM h.tb lc
 have X:=m2.cell (a:=y) (ai _<|AI _) B;have ac:=m2.cell (a:=U (y+1) 0) (ai _<|by show y<=y+1;omega) z;have aj:=an g rfl;have ak:¬g=b:=λe=>aj<|by rw[e,h.tb]
 have ad:=C.mod m2 (λg' o' n' c' e x=>by cases e;exact ak x);obtain⟨a,Y,hv,_⟩:=zi h2.ft;obtain⟨N,hN⟩:=nm c.kB.length;have hv:V.ft=.slice a N Y:=by rw[hv];simp only[hN]
 have ay:=zo<|m2.cell (a:=⟨g,_,none⟩) ak e2;have kd:=dJ h2 ax hi ok hb X (O _<|AI _) (by rw[E];exact ac) (O _ I) ad (λg' o' n' c' e x=>by cases e;exact aj x.1) (λg' o' n' c' e=>by cases e;exact ay) ao ((C9.refl DA W2).drew.drew.drew) hv hN;have aA:W2 (b,236)=some (.slice a N Y):=by rw[<-hv];exact h2.tl (j:=3) rfl
 have fz:=h2.fz 236;have m:(c.kB.zip V.lh).length=N:=by rw[Cf,h.fl,CM,hN]
 have aB:(c.kB.zip V.lh).map (·.1)=c.kB:=Cp<|CD h.fl.symm;have aC:c.lV rs=(({ c with kO:=L2 }:CS).mW rs c.kB).lE (c.kB.filter λp => !FW rs p):=by unfold CS.lV;rw[ah]
 have MW:AA (C9 (Da i tag) W W2):=zb ((m1.mono rQ).trans (m2.mono (λq hq=>.inl (EM (r:=1) (by rw[show q=b from hq];exact h.tb) lc))));have KD:=zb kd;have HT:=zb ht;have HI:=zb hi;have aD:=zb O;have al:=zb X;have HZ:=zb<|And.intro m aB;have HN:=zb hN;have q:=zb ab;have aE:=zb ap;have HB:=zb hb;have aJ:=zb aC;rw[E]at A;have aK:=zb Z;have aL:=zb A;have aM:=zb aa;have aN:=zb G;rw[E];clear h ht h1 au am C ad an h0 h3 ar ae q1 q2 e1 b1 Z A ab aa aq E M af G m1 m2 hn ao hi h2 ax aw ah ok ap hb O ai X ac aj ak ay kd m aB aC hN hv;go_enter func161,ntmps161;go_upto_region 1 with fail;rw[aK.z,aL.z,aN.z];try rw[aM.z]
 refine zN ?_;refine zr 9 (λw'=>w' y=some (.pointer b)/\w' (U (y+1) 0)=some (.slice (g,o) RL D)/\w' (g,o+1)=some (.int .u64 L)/\w' (U b 6)=some (.int .u64 nx)) (⟨B,z,e2,c6⟩) ?_;refine GI 0 ?_;iterate 9
  refine GV rfl ?_;try simp only[PS]
 refine zt ?_;refine⟨rfl,?_⟩;go_upto_region 3 with fail;refine zN ?_;refine zr 12 (λw'=>w' y=some (.pointer b)/\w' (U (y+1) 0)=some (.slice (g,o) RL D)/\w' (g,o+1)=some (.int .u64 L)/\w' (U b 237)=some (.int .u64 lg)/\w'.frozen? ⟨b,237,none⟩=false) (⟨B,z,e2,ag,av⟩) ?_;refine GI 0 ?_;iterate 12
  refine GV rfl ?_;try simp only[PS]
 refine Dt rfl (λK hK=>?_);go_simp;try simp only[ez]
 refine hK.z _ _ ?_;clear hK K;try simp only[PS]
 refine zt ?_;refine⟨rfl,?_⟩;go_upto_region 4 with fail;rw[q.z];refine zN ?_;refine zr 9 (λw'=>w' y=some (.pointer b)/\w' (U b 236)=some (.slice a N Y)/\w'.frozen? ⟨b,236,none⟩=false) (⟨al.z,aA,fz⟩) ?_;refine GI 0 ?_;iterate 6
  refine GV rfl ?_;try simp only[PS]
 refine zD 6 rfl (λK hK=>?_);go_simp
 with_reducible refine(KD.z).mono ?_
 rintro e w6 ⟨n,R,rfl,aF,hj,hR⟩;have A:=zb<|And.intro aF<|And.intro hj hR;have h:w6 y=some (.pointer b)/\w6 (b,236)=some (.slice a N Y)/\w6.frozen? ⟨b,236,none⟩=false:=by
  obtain⟨q,tag',V',r,m,C⟩:=hj;exact⟨r.m.cell (a:=y) (aD.z _<|AI _) al.z,by rw[<-m];exact r.c.tl (j:=3) rfl,r.c.fz 236⟩
 clear hj aF hR;go_simp;refine hK.z _ _ h ?_;obtain⟨C,D,E⟩:=h;clear hK K;try simp only[PS]
 refine GI 7 ?_;iterate 2
  refine GV rfl ?_;try simp only[PS]
 refine Dt rfl (λK hK=>?_);go_simp;refine hK.z _ _ ?_;clear hK K;try simp only[PS]
 refine zt ?_;refine⟨rfl,?_⟩;obtain⟨Z,q⟩:=nm<|w6.setCell (U b 236)<|.slice a n Y;have u:∃tag' V',zJ tag i b W2 V' (c.lV rs) tag' V' Z:=by
  obtain⟨h,m,G⟩:=A.z;rw[HZ.z.1]at h m;have hR:(R.take n).map (·.1)=c.kB.filter λp => !FW rs p:=by
   rw[G];have e:=List.filter_map (f:=λx:DI×rU=>x.1) (p:=λp => !FW rs p) (l:=c.kB.zip V.lh);rw[HZ.z.2]at e;exact e.symm
  have:=m.done h;rw[q,hR]at this;rw[aJ.z];unfold IP at this;rw[<-HN.z,AS (AI _)]at this;exact this
 obtain⟨h,n,m⟩:=u;have h:(c.lV rs).kB.length<=1099511627776:=AR (Bf _ _) HB.z;have n:=SH m.c m.e.z HI.z aE.z h;have u:=m.m.cell (a:=y) (aD.z _<|AI _) al.z;have a:=zb n;have R7:=zb m;clear n m C D E aA fz B z e2 ag av c6 h;try rw[q]
 clear q;go_wp2_with fail;refine(a.z).mono ?_;rintro e a ⟨rfl,aG,V9,r1,r2,r3⟩;have a:=zb<|And.intro r1<|And.intro r2 r3;clear r1 r2 r3;go_wp2;go_ret;refine⟨rfl,aG,V9,a.z.1,?_,?_⟩
 .have e:DK i tag tag W W2:=DK.same HT.z MW.z;exact(e.trans R7.z.e MW.z.size).trans a.z.2.1 (AR MW.z.size R7.z.m.size)
 refine(MW.z.trans R7.z.m).pF.then a.z.2.2 (λg a=>?_);by_cases e:g<W2.heap.size
 .rw[R7.z.e.lH g e]at a;exact .inl a
 exact .inr<|AR MW.z.size I
def zn.n6(h:zn tag i b c V W)(a:k<8)(e:(c.rs k).kG.rs.length<=1099511627776):Ed W b (129+13*k+1) (V.rc k) (c.rs k).kG.rs (c.rs k).kG.fl (c.rs k).kG.most :=
 ⟨h.r (j:=1) a rfl,h.r (j:=2) a rfl,h.r (j:=3) a rfl,h.rc k a,e,λj=>h.fz j⟩
variable{W'':rT}{v':rU}
def zJ.qE{s:DO}(h:zJ tag i b W0 V0 c tag' V' W')(z:k<8)(y:MV s b (129+13*k+1) (V'.rc k) W' W'' v')(E:s.most=(c.rs k).kG.most):∃e u,zJ tag i b W0 V0 { c with rs:=zh c.rs k { c.rs k with kG:=s } } e u W''/\∀g,g<W'.heap.size->e g=tag' g:=by
 obtain⟨n,u,e,B⟩:=y;have C:=h.p;have A:∀{g r:Nat},tag' g=(i,r)->g<W'.heap.size:=λm=>Ds h.e.z m C
 have y:∀g,(tag' g).1=i->zT tag' W' W'' (i,50+k) g=tag' g:=λg m=>zx<|A (r:=(tag' g).2)<|by rw[<-m]
 have D:∀g,(g=b\/(V'.rc k).ownBlock=some g)->∃r,(r=1\/r=50+k)/\tag' g=(i,r):=λg m=>by
  rcases m with m|m
  .exact⟨1,.inl rfl,by rw[m,h.c.tb]⟩
  exact⟨50+k,.inr rfl,h.c.nU k z g m⟩
 refine⟨zT tag' W' W'' (i,50+k),{ V' with rc:=zh V'.rc k v' },⟨?_,h.e.trans (Gf e.size) h.m.size,Ek h.e h.m<|e.mono<|λg m=>.inl ?_,C,h.ft⟩,λg m=>zx m⟩
 .refine h.c.build (R:=λr=>r=1\/r=50+k) e D y ?_ rL (λq e=>.inl rK) (λq e=>.inl rK) (λq e=>.inl rK) (λq e=>.inl ⟨?_,rfl,I⟩) (λq e=>?_) rL rJ rJ rJ
  .rw[u,zc (zc h.c.obj)];simp only[Ab];have G:=KX c c V' { V' with rc:=zh V'.rc k v' } (k:=k) (j:=1) v' z lc (λq _=>by
    by_cases a:q=k
    .subst a;simp only[zf,Aq];rfl
    simp only[zl _ _ a,AH a]) rfl rfl rfl
   rw[G];have K:=KX c { c with rs:=zh c.rs k { c.rs k with kG:=s } } { V' with rc:=zh V'.rc k v' } { V' with rc:=zh V'.rc k v' } (k:=k) (j:=2) (.int .u64 s.fl) z lc (λq _=>by
    by_cases a:q=k
    .subst a;simp only[zf,Aq,GH,E];rfl
    simp only[zl _ _ a,AH a]) rfl rfl rfl
   rw[show 129+13*k+1+1=129+13*k+2 from rfl,K]
  .by_cases a:q=k
   .subst a;simp only[zf]
   simp only[zl _ _ a]
  by_cases a:q=k
  .subst a;simp only[zf];refine .inr ⟨n,λg m=>?_⟩;rcases B g m with y|y
   .rw[zx (A<|h.c.nU q z g y),h.c.nU q z g y]
   exact FH y<|zI n g m
  exact .inl ⟨by simp only[zl _ _ a],by simp only[zl _ _ a],I⟩
 obtain⟨r,a,e⟩:=D g m;exact EM e I
variable{bs:qq}
def zJ.oL(h:zJ tag i b W0 V0 c tag' V' W')(A:k<8)(n:OB W'' v' bs)(y:W''.heap[b]?=(W'.setCell (b,129+13*k) v').heap[b]?)(e:C9 (λq=>q=b\/(V'.rb k).ownBlock=some q) W' W'')(B:Dh W' (V'.rb k) v'):∃u C,zJ tag i b W0 V0 { c with rs:=zh c.rs k { c.rs k with b:=bs } } u C W''/\∀g,g<W'.heap.size->u g=tag' g:=by
 have C:=h.p;have z:∀{g r:Nat},tag' g=(i,r)->g<W'.heap.size:=λm=>Ds h.e.z m C
 have u:∀g,(tag' g).1=i->zT tag' W' W'' (i,40+k) g=tag' g:=λg m=>zx<|z (r:=(tag' g).2)<|by rw[<-m]
 have D:∀g,(g=b\/(V'.rb k).ownBlock=some g)->∃r,(r=1\/r=40+k)/\tag' g=(i,r):=λg m=>by
  rcases m with m|m
  .exact⟨1,.inl rfl,by rw[m,h.c.tb]⟩
  exact⟨40+k,.inr rfl,h.c.nV k A g m⟩
 refine⟨zT tag' W' W'' (i,40+k),{ V' with rb:=zh V'.rb k v' },⟨?_,h.e.trans (Gf e.size) h.m.size,Ek h.e h.m<|e.mono<|λg m=>.inl ?_,C,h.ft⟩,λg m=>zx m⟩
 .refine h.c.build (R:=λr=>r=1\/r=40+k) e D u ?_ rL (λq e=>.inl rK) (λq e=>.inl rK) (λq e=>.inl rK) (λq e=>?_) (λq e=>.inl ⟨?_,rfl,I⟩) rL rJ rJ rJ
  .rw[y,zc h.c.obj];simp only[Ab];rw[show 129+13*k=129+13*k+0 from rfl,KX c { c with rs:=zh c.rs k { c.rs k with b:=bs } } V' { V' with rb:=zh V'.rb k v' } (k:=k) (j:=0) v' A lc (λq _=>by
    by_cases a:q=k
    .subst a;simp only[zf,Aq];rfl
    simp only[zl _ _ a,AH a]) rfl rfl rfl]
  .by_cases a:q=k
   .subst a;simp only[zf];refine .inr ⟨n,λg m=>?_⟩;rcases B g m with y|y
    .rw[zx (z<|h.c.nV q A g y),h.c.nV q A g y]
    exact FH y<|zI n g m
   exact .inl ⟨by simp only[zl _ _ a],by simp only[zl _ _ a],I⟩
  by_cases a:q=k
  .subst a;simp only[zf]
  simp only[zl _ _ a]
 obtain⟨r,a,e⟩:=D g m;exact EM e I
def zJ.oo(h:zJ tag i b W0 V0 c tag' V' W')(m:k<8)(a:(c.rs k).kG.Ok)(lo hi:Nat)(g:lo<=zG)(q:hi<=zG):rH 38 #[(b,129+13*k+1),lo,hi] W' (PQ tag i b W0 V0 { c with rs:=zh c.rs k { c.rs k with kG:=(c.rs k).kG.add lo hi } } tag' W'):=by
 have z:=a.most;have u:=a.rl;have u:=a.fl;have C:=h.p;unfold zG at g q u;have g:(V'.rc k).ownBlock≠some b:=λe=>by
  have n:=h.c.nU k m b e;rw[h.c.tb]at n;have:=Ax Prod.snd n;simp only at this;omega
 refine(Jw (c.rs k).kG b (129+13*k+1) lo hi (V'.rc k) W' (h.c.n6 m I) a.wf I I I g z.1 I).mono ?_;rintro e a ⟨e,rfl,n,A,y,B⟩;refine⟨rfl,?_,λg a e=>y.block g a<|λx=>?_⟩
 .obtain⟨a,q,r,e⟩:=h.qE m ⟨n,A,y,B⟩<|Hl _ _ _;exact⟨a,q,r,e⟩
 rcases x with x|x
 .have a:=h.c.tb;rw[<-x,e]at a;have:=Ax Prod.snd a;simp at this
 have a:=h.c.nU k m g x;rw[e]at a;have:=Ax Prod.snd a;simp at this;omega
theorem OV(rs:zE):∀a e,a<e->(DP rs a e).1<e->a<=(DP rs a e).1/\(DP rs a e).1<(DP rs a e).2:=by
 induction rs with
 | nil=>intro a e h _;exact⟨AI _,h⟩
 | cons r l ih =>
  intro a e m h;unfold DP at h ⊢;by_cases g:r.2<a
  .rw[AL g]at h ⊢;exact ih a e m h
  rw[AH g]at h ⊢;by_cases g:a<r.1
  .rw[AL g]at h ⊢;exact⟨AI _,Nat.lt_min.2 ⟨m,g⟩⟩
  rw[AH g]at h ⊢;have n:∀(l:zE) a e,(DP l a e).1<e->a<e:=by
   intro l
   induction l with
   | nil=>intro a e h;exact h
   | cons q l ih2 =>
    intro a e h;unfold DP at h;by_cases g:q.2<a
    .rw[AL g]at h;exact ih2 _ _ h
    rw[AH g]at h;by_cases g:a<q.1
    .rw[AL g]at h;exact h
    rw[AH g]at h;have:=ih2 _ _ h;omega
  have:=n _ _ _ h;obtain⟨a,b⟩:=ih (r.2+1) e this h;exact⟨I,b⟩
def U1(l:qq)(a b:Nat):(zy l).extract a b=zy ((l.drop a).take (b-a)):=by
 rw[Lib.extract_eq,KY];rfl
def Mz(b:qq)(i:Nat)(s:qq)(h:i+s.length<=b.length):(Ha b i s).length=b.length:=by
 unfold Ha;simp only[AF,AU,Af];omega
variable{lo:Nat}
def VP{s:qq}(h:OB w (.slice g bs.length cap) bs)(y:lo+s.length<=bs.length)(u z:Nat)(hd:s.length<=u):∃w',(∀m,(Builtin.copy_ #[44,9] m #[.slice (g,lo) u z,.string (zy s)]).run prog w=.ok (goInt s.length) w')/\OB w' (.slice g bs.length cap) (Ha bs lo s)/\C9 (λq=>q=g) w w':=by
 rcases h.2 with⟨e,_⟩|⟨q,h,a,e,_,B,D,E,G,n⟩
 .cases e
 cases e;have e:a.size=cap:=qp G;have n:a.toList.take bs.length=zS bs:=qp n;have e:∀m,_:=λm=>Lib.run_copy_row_string (P:=prog) w 44 9 m 5 g lo u z (zy s) a _ underlying44 kw B (by rw[zM];exact hd)<|by rw[zM];omega
 rw[zM]at e;refine⟨_,e,?_,Og w g _⟩;unfold OB;rw[Mz bs lo s y];refine⟨?_,.inr ⟨g,cap,_,rfl,AK _,setRow_heap w g a _ _ _ B,D,E,?_,?_⟩⟩
 .rw[Ij,Mz bs lo s y,Cx]
 .simp only[BS,AF,AU,Af,Bw,Lib.byteCells_length,KY];omega
 simp only[Cx,KY,Ha,Mx];have e:Lib.byteCells s=zS s:=rfl;have g:zS (bs.take lo)=a.toList.take lo:=by
  have:zS (bs.take lo)=(zS bs).take lo:=by simp[zS,List.map_take]
  rw[this,<-n,BY,BU I]
 have h:zS (bs.drop<|lo+s.length)=(a.toList.drop<|lo+s.length).take (bs.length-(lo+s.length)):=by
  have:zS (bs.drop<|lo+s.length)=(zS bs).drop (lo+s.length):=by simp[zS,List.map_drop]
  rw[this,<-n,Ci]
 rw[g,h,e,BC];have C:(a.toList.take lo).length=lo:=by rw[AU,Bw];omega
 generalize a.toList.take lo=A at C ⊢;generalize a.toList.drop (lo+s.length)=B;have a:A.take bs.length=A:=AS I;have e:(zS s).take (bs.length-lo)=zS s:=AS (by rw[Ij];omega);rw[List.take_append,C,a,List.take_append,Ij,e,(I:bs.length-lo-s.length=bs.length-(lo+s.length))]
def zJ.qF(h:zJ tag i b W0 V0 c tag' V' W')(g:k<8):¬(V'.rb k).ownBlock=some b:=λe=>by
 have a:=h.c.nV k g b e;rw[h.c.tb]at a;have:=Ax Prod.snd a;simp only at this;omega
def zJ.qW{s:qq}(h:zJ tag i b W0 V0 c tag' V' W')(u:k<8)(n:DX W' (V'.rb k) (c.rs k).b s v' W2):(∃e z,zJ tag i b W0 V0 { c with rs:=zh c.rs k { c.rs k with b:=(c.rs k).b++s } } e z (W2.setCell (b,129+13*k) v'))/\W2 (b,129+13*k)=some (V'.rb k)/\W2.frozen? ⟨b,129+13*k,none⟩=false:=by
 have hb:=h.qF u;have q:=(C9.refl _ W').grown n.grown<|λg m=>.inl m;have C:=q.obj hb h.c.obj;have D:C9 (λg=>g=b) W2 (W2.setCell (b,129+13*k) v'):=(C9.refl (λg=>g=b) _).setCell (p:=(b,129+13*k)) rO _;have A:=Ds h.e.z h.c.tb h.p;have B:∀g,v'.ownBlock=some g->¬g=b:=λg m x=>by
  subst x;rcases n.at_ g m with y|y
  .exact hb y
  omega
 obtain⟨e,z,r,_⟩:=h.oL u (D.owns n.own B) (My (q.block b A hb) _ _) ((q.mono<|λg m=>.inl<|.inr m).setCell (p:=⟨b,_,none⟩) (.inl rO) _) n.at_;exact⟨⟨e,z,r⟩,q.cell (a:=⟨b,_,none⟩) hb<|h.c.r (j:=0) u rfl,zd C⟩
def zJ.qD(h:zJ tag i b W0 V0 c tag' V' W')(u:k<8)(y:V'.rb k=.slice g n cap)(A:OB W2 (.slice g n cap) bs)(m:C9 (λq=>q=g) W' W2):∃a n,zJ tag i b W0 V0 { c with rs:=zh c.rs k { c.rs k with b:=bs } } a n W2:=by
 have hb:=h.qF u;have z:¬b=g:=λe=>hb<|by rw[y,e];rfl
 have c0:W' (b,129+13*k)=some (V'.rb k):=h.c.r (j:=0) u rfl;obtain⟨a,n,r,_⟩:=h.oL u (v':=V'.rb k) (by rw[y];exact A) (by rw[M9 c0];exact m.block b (Ds h.e.z h.c.tb h.p) z) (m.mono<|λq e=>.inl<|.inr<|by rw[y,show q=g from e];rfl)<|Dh.refl _ _;exact⟨a,n,r⟩
structure PP(c:CS)(f:DF)(k:Nat):Prop where
 lt:k<8
 st:f.stream=(k:Int)
 high:∀j,j<8->(c.rs j).high<=1099511627776
 kE:(c.rs k).kE<=1099511627776
 pw:c.kE<=zG
 fin:(c.rs k).fin<=zG
 end_:f.end_<=zG
 dl:f.data.length<=1099511627776
 kG:(c.rs k).kG.Ok
 bl:(c.rs k).b.length<=(c.rs k).high
theorem SG{rs:Nat->RS}{B:Nat}(h:∀j,j<8->(rs j).high<=B):∀n,n<=8->Fq rs n<=n*B
 | 0,_=>by simp[Fq]
 | n+1,hn=>by
  have:=SG h n I;have:=h n I;rw[Nat.succ_mul];show Fq rs n+(rs n).high<=_;omega
def dI(off:Nat)(data:qq)(e n lo:Nat)(b:qq)(s:DO)(h:lo<e)(a:(DP s.rs lo e).1<e):EB off data e (n+1) lo b s=EB off data e n (DP s.rs lo e).2 (Ha b (DP s.rs lo e).1 ((data.drop ((DP s.rs lo e).1-off)).take ((DP s.rs lo e).2-(DP s.rs lo e).1))) (s.add (DP s.rs lo e).1 ((DP s.rs lo e).2-1)):=by
 rw[EB,AL h,AH I]
theorem Wa(off:Nat)(data:qq)(e n lo:Nat)(b:qq)(s:DO)(h:¬lo<e):EB off data e n lo b s=(b,s):=by
 cases n with
 | zero=>rfl
 | succ n=>rw[EB,AH h]
theorem dH(off:Nat)(data:qq)(e n lo:Nat)(b:qq)(s:DO)(h:lo<e)(a:¬(DP s.rs lo e).1<e)(g:0<n):EB off data e n lo b s=(b,s):=by
 cases n with
 | zero=>omega
 | succ n=>rw[EB,AL h,AL I]
def WZ(a:f.stream=(k:Int))(h:(c.rs k).lM f=true):c.data f=(10,c):=by
 unfold CS.data;rw[a];simp[h]
def Th(a:f.stream=(k:Int))(h:(c.rs k).lM f=false)(e:(c.rs k).high<f.end_/\((c.rs k).kE<f.end_\/c.kE<f.end_-(c.rs k).high+Fq c.rs 8)):c.data f=(9,c):=by
 unfold CS.data;rw[a];simp only[Am,h,BT,BE];rw[AL e]
def Tg(a:f.stream=(k:Int))(h:(c.rs k).lM f=false)(e:¬((c.rs k).high<f.end_/\((c.rs k).kE<f.end_\/c.kE<f.end_-(c.rs k).high+Fq c.rs 8))):c.data f=(0,{ c with rs:=zh c.rs k ((c.rs k).data f) }):=by
 unfold CS.data;rw[a];simp only[Am,h,BT,BE];rw[AH e]
theorem dG(h:zn tag i b c V W)(ht:zL tag W)(hi:0<i)(f:DF)(rv:rU)(k:Nat)(ok:PP c f k)(g:∃a n bu,rv=.slice a n bu):rH 162 #[(b,0),.agg (ze f rv)] W (EN tag i b W (.int .i64 ((c.data f).1:Int)) (c.data f).2):=by
 have G:=ok.lt;have aL:=ok.st;obtain⟨ra,rn,aM,rfl⟩:=g;obtain⟨W1,ar⟩:=nm<|W.alloc<|.cells (ze f<|.slice ra rn aM) 48;have m1:=AB ar;have au:zp W1 W.heap.size f (.slice ra rn aM):=by rw[<-ar];exact heap_alloc_new W _
 have aN:¬Da i tag W.heap.size:=λx=>by
  have h1:=x.1;rw[ht _ (AI _)]at h1;simp at h1;omega
 have h1:=h.kI m1;have r0:zJ tag i b W1 V c tag V W1:=⟨h1,DK.same (ht.mod m1)<|C9.refl DA W1,C9.refl _ _,hi,⟨rfl,rfl⟩⟩;have N:AA (∀{c':CS} {tag':qr} {V':CV} {W':rT},zJ tag i b W1 V c' tag' V' W'->Dv tag i b W c' W'):=zb (λr =>
  ⟨_,_,r.c,OW ht m1 r.e,(m1.mono rQ).then r.m.pF<|λg hg=>.inl hg⟩)
 obtain⟨fb,aO⟩:=nm W.heap.size;rw[aO]at au aN;have aP:AA (∀{c':CS} {tag':qr} {V':CV} {W':rT},zJ tag i b W1 V c' tag' V' W'->zp W' fb f (.slice ra rn aM)):=zb<|λr=>au.mod r.m aN;obtain⟨y0,y1,y2,y3,y4,y5,y6,y7,y8,y9⟩:=au.cells;rw[aL]at y1;obtain⟨x,hx⟩:=nm<|c.rs k;obtain⟨u,ac⟩:=nm f.off;obtain⟨y,g⟩:=nm f.data;obtain⟨DL,ae⟩:=nm y.length;obtain⟨E,hE⟩:=nm f.end_;obtain⟨fi,av⟩:=nm f.fin;obtain⟨en,aw⟩:=nm x.ended;obtain⟨FN,af⟩:=nm x.fin;obtain⟨q,ag⟩:=nm x.high;obtain⟨GR,ax⟩:=nm x.kE;obtain⟨CG,ay⟩:=nm c.kE;obtain⟨bad,ah⟩:=nm<|x.lM f;have ai:E=u+DL:=by rw[<-hE,<-ac,<-ae,<-g];rfl
 have a2:AA (((en&&(decide (FN<E)||(fi&&E != FN)))||(fi&&decide (E<q)))=bad):=zb (by
  rw[<-ah];unfold RS.lM;rw[aw,af,hE,av,ag])
 have q1:=ok.high k G;have q2:=ok.kE;have q3:=ok.pw;have q4:=ok.fin;have q5:=ok.end_;have q6:=ok.dl;have q7:=ok.bl;have q8:=SG ok.high;rw[hx]at q1 q2 q4 q7;rw[ag]at q1 q7;rw[ax]at q2;rw[af]at q4;rw[ay]at q3;rw[hE]at q5;rw[g,ae]at q6;unfold zG at q3 q4 q5;have r4:W1 (b,129+k*13+4)=some (.int .u64 q):=by rw[<-ag,<-hx,AN];exact h1.r (j:=4) G rfl
 have r5:W1 (b,129+k*13+5)=some (.int .u64 FN):=by rw[<-af,<-hx,AN];exact h1.r (j:=5) G rfl
 have r6:W1 (b,129+k*13+6)=some (.bool en):=by rw[<-aw,<-hx,AN];exact h1.r (j:=6) G rfl
 have bw:W1 (b,129+k*13+11)=some (.int .u64 GR):=by rw[<-ax,<-hx,AN];exact h1.r (j:=11) G rfl
 have bx:W1 (b,234)=some (.int .u64 CG):=by rw[<-ay];exact h1.tl (j:=1) rfl
 have fz:=h1.fz;have bz:AA (∀j,j<8->W1 ⟨b,129+j*13+4,none⟩=some (.int .u64 ((c.rs j).high:Int))):=zb (λj hj=>by rw[AN];exact h1.r (j:=4) hj rfl);have a3:=zb q8;rw[ac]at y2;rw[av]at y5;rw[g]at y8;have bX:(zy y).size=DL:=by rw[zM,ae]
 have w1:IntKind.u64.wrap (DL:Int)=(DL:Int):=by rw[IntKind.wrap_u64];omega
 have w2:IntKind.u64.wrap ((u:Int)+DL)=(E:Int):=by rw[IntKind.wrap_u64];omega
 have bY:(0:Int)<=k:=I;have bZ:(k:Int)<8:=I;have R0:=zb r0;have aj:=zb ai;have HX:=zb hx;have ak:=zb ac;have aH:=zb g;have a4:=zb ae;have HE:=zb hE;have a5:=zb av;have a6:=zb aw;have a7:=zb af;have X:=zb ag;have aQ:=zb ax;have aR:=zb ay;have HB:=zb ah;have bA:=zb ok;have al:=zb aL;have bB:=zb ar;have bC:=zb aO;clear h ht hi h1 r0 m1 au aN y0 y3 y4 y6 y7 y9 hx ac g ae hE av aw af ag ax ay ah ok aL ar aO q8 ai;go_enter func162,ntmps162;go_upto_region 1 with fail;rw[bB.z,bC.z];refine zN ?_;refine zr 7 (λw'=>w' (U fb 1)=some (.int .i64 k)) (y1) ?_;refine GI 0 ?_;iterate 7
  refine GV rfl ?_;try simp only[PS]
 refine zt ?_;refine⟨rfl,?_⟩;go_upto_region 2 with fail
 go_cut [6] (λg wx=>g=.int .u64 E/\wx=W1.drew)
 case first=>as_aux_lemma =>
  go_wp2;go_meet;have ai:=aj.z;exact⟨by(congr 1<;>omega),rfl⟩
 case rest =>
 obtain⟨rfl,hw⟩:=hcut;obtain⟨WA,aS⟩:=nn wc;subst aS;subst hw;clear w1 w2;go_upto_region 3 with fail
 go_cut [59] (λg wx=>g=.bool bad/\wx=W1.drew)
 case first=>as_aux_lemma =>
  have hB:=a2.z;subst hB;cases en
  .cases fi
   .go_wp2;go_meet;exact rM
   by_cases d2:(E:Int)<q
   .have Z:E<q:=I;go_wp2;go_meet;exact⟨by simp[Z],rfl⟩
   have Z:¬E<q:=I;go_wp2;go_meet;exact⟨by simp[Z],rfl⟩
  by_cases g:(FN:Int)<E
  .have aA:FN<E:=I;go_wp2;go_meet;exact⟨by simp[aA],rfl⟩
  have aA:¬FN<E:=I;cases fi
  .go_wp2;go_meet;exact⟨by simp[aA],rfl⟩
  by_cases d3:E=FN
  .subst d3;by_cases d2:(E:Int)<q
   .have Z:E<q:=I;go_wp2;go_meet;exact⟨by simp[Z],rfl⟩
   have Z:¬E<q:=I;go_wp2;go_meet;exact⟨by simp[Z],rfl⟩
  have g:((E:Int)==(FN:Int))=false:=by rw[Lo];simpa using d3
  go_wp2;go_meet;exact⟨by simp[aA,d3],rfl⟩
 case rest =>
 obtain⟨rfl,hw⟩:=hcut;obtain⟨WA,aS⟩:=nn wc;subst aS;cases hbv:bad with
 | true =>
  rw[hbv]at HB;go_wp2;go_ret;have hd:=WZ (c:=c) (f:=f) al.z (by rw[HX.z];exact HB.z);rw[hd];exact⟨rfl,N.z<|R0.z.kI<|by rw[hw];exact(C9.refl DA W1).drew⟩
 | false =>
 rw[hbv]at HB;have aB:AA ((c.rs k).lM f=false):=zb (by rw[HX.z];exact HB.z);subst hw;go_upto_if 65 with fail;obtain⟨B,aT⟩:=nm<|max q E;have O:=zb aT
 go_cut [] (λwx=>AA<|zJ tag i b W1 V { c with rs:=zh c.rs k { x with high:=B } } tag V wx/\(¬(q<E/\(GR<E\/CG<E-q+Fq c.rs 8)))/\B<=1099511627776)
 case first=>as_aux_lemma =>
  have a8:AA (c={ c with rs:=zh c.rs k x }):=zb (by rw[<-HX.z,Fx]);by_cases g:(q:Int)<E
  .have g:=wu ((E:Int)-q) I;go_wp2_with fail
   go_loopw [7,72] (λZ g wr=>∃j:Nat,j<=8/\g=.int .i64 j/\Z=.int .u64 ((E:Int)-q+(Fq c.rs j:Nat))/\wr=W1.drew) (λ_ g _=>8-(intOf g).toNat)
   case atStart=>exact⟨0,I,rfl,by simp[Fq],rfl⟩
   case round =>
    obtain⟨j,hj,rfl,rfl,rfl⟩:=hrel;have aU:=a3.z j hj;by_cases L:j<8
    .have cj:=bz.z j L;have bD:=a3.z (j+1) I;have g:Fq c.rs (j+1)=Fq c.rs j+(c.rs j).high:=rfl;obtain⟨S,hS⟩:=nm<|Fq c.rs j;obtain⟨bE,Z⟩:=nm<|(c.rs j).high;rw[hS,Z]at g;rw[hS]at aU;rw[Z]at cj;have bF:=zb g;have w4:=wu ((E:Int)-q+(S:Int)+bE) I;have b0:(0:Int)<=j:=I;have b3:(j:Int)<8:=I;rw[hS];clear aU bD g hS Z;go_wp2;go_roundw
     case rel=>exact⟨j+1,I,by go_num,by rw[bF.z];go_num,trivial⟩
     simp[intOf];omega
    have bG:j=8:=I;subst bG;obtain⟨S,hS⟩:=nm<|Fq c.rs 8;have g:=zb hS;rw[hS]at aU;rw[hS];clear hS;by_cases Z:(GR:Int)<E
    .go_wp2;go_ret;have hd:=Th (c:=c) (f:=f) al.z aB.z (by rw[HX.z,X.z,HE.z,aQ.z];exact⟨I,.inl I⟩);rw[hd];exact⟨rfl,N.z<|R0.z.kI (C9.refl DA W1).drew⟩
    by_cases Z:(CG:Int)<(E:Int)-q+S
    .go_wp2;go_ret;have hd:=Th (c:=c) (f:=f) al.z aB.z (by rw[HX.z,X.z,HE.z,aR.z,g.z];exact⟨I,.inr I⟩);rw[hd];exact⟨rfl,N.z<|R0.z.kI (C9.refl DA W1).drew⟩
    have hz:=(((R0.z.kI (C9.refl DA W1).drew).same a8.z).lZ G 4 lc (.int .u64 E) { x with high:=B } (by rw[<-O.z,Nat.max_eq_right I];rfl) rfl rfl);rw[AN 13 k]at hz;have q:=zb hz;have f4:=fz<|129+k*13+4;clear hz;go_wp2;go_meet;exact zb ⟨q.z,by rw[g.z];omega,by rw[<-O.z];omega⟩
  go_wp2;go_meet;refine zb ⟨((R0.z.kI (C9.refl DA W1).drew).same a8.z).same ?_,I,by rw[<-O.z];omega⟩;rw[<-O.z,Nat.max_eq_left I,<-X.z]
 case rest =>
 obtain⟨WB,bH⟩:=nn wc;subst bH;have a9:=hcut;clear hcut;obtain⟨rb,g,q⟩:=id a9.z;have z5:WB (fb,5)=some (.bool fi):=by rw[<-a5.z];exact(aP.z rb).cells.2.2.2.2.2.1
 have ba:=zb g;obtain⟨x1,bb⟩:∃x1:RS,{ x with high:=B,ended:=en||fi,fin:=if fi then E else FN }=x1:=⟨_,rfl⟩;have aa:=zb bb;have RB:=zb rb;have bI:=rb.c.fz;have q:=rb.lZ G 6 lc (.bool true) { x with high:=B,ended:=true } (by rfl) rfl rfl;have aV:=q.lZ G 5 lc (.int .u64 E) { x with high:=B,ended:=true,fin:=E } (by rfl) rfl rfl;have aI:=q.c.fz;have Z:=q;rw[AN 13 k]at q aV aI;have bc:=zb aV;obtain⟨u5,bJ⟩:∃v,WB (b,129+k*13+5)=some v:=⟨_,by rw[AN k 13];exact rb.c.r (j:=5) G rfl⟩;obtain⟨u6,bK⟩:∃v,WB (b,129+k*13+6)=some v:=⟨_,by rw[AN k 13];exact rb.c.r (j:=6) G rfl⟩;obtain⟨u7,bL⟩:∃v,(WB.setCell (b,129+k*13+6)<|.bool true) (b,129+k*13+5)=some v:=⟨_,by rw[AN k 13];exact Z.c.r (j:=5) G rfl⟩;clear rb q Z aV g bb r4 r5 r6 bw bx fz y1 y2 y5 y8;go_upto_if 104 with fail
 go_cut [] (λwx=>AA<|zJ tag i b W1 V { c with rs:=zh c.rs k x1 } tag V wx)
 case first=>as_aux_lemma =>
  cases fi with
  | true =>
   go_wp2;go_meet;refine zb<|bc.z.same ?_;rw[<-aa.z];simp
  | false =>
   go_wp2;go_meet;refine zb<|RB.z.same ?_;rw[<-aa.z,<-a6.z,<-a7.z];simp
 case rest =>
 obtain⟨g,bM⟩:=nn wc;subst bM;have q:=hcut;clear hcut bI aI z5 RB bc a9 bJ bK bL;obtain⟨R,g⟩:=nm x.b.length;have aW:=zb g;have g:AA (x1.b=x.b):=zb (by rw[<-aa.z]);have be:AA (x1.high=B):=zb (by rw[<-aa.z]);have g:R<=B:=by rw[<-aW.z,<-O.z];omega
 go_wp2_with fail
 go_loopw [] (λwr=>∃(n:Nat) (tag':qr) (V':CV),R+n<=B/\AA (zJ tag i b W1 V { c with rs:=zh c.rs k { x1 with b:=x.b++List.replicate n 0 } } tag' V' wr)) (λwr=>B-(match wr (b,129+k*13)with|some (.slice _ n _)=>n|_=>0))
 case atStart=>exact⟨0,tag,V,I,zb<|q.z.same<|by rw[<-aa.z];simp⟩
 case round =>
  obtain⟨n,bf,V1,g,HR⟩:=hrel;have hR:=HR.z;obtain⟨bs,g⟩:=nm<|x.b++List.replicate n 0;rw[g]at hR HR;have q:bs.length=R+n:=by rw[<-g];simp[aW.z]
  have Z:OB wr (V1.rb k) bs:=by have:=hR.c.rb k G;simpa only[zf]using this
  obtain⟨sa,am,hv,bN,bO,aX⟩:=zi Z;rw[q]at hv bN aX;unfold maxLen at bO;have v0:wr (b,129+k*13)=some (.slice sa (R+n) am):=by rw[<-hv,AN];exact hR.c.r (j:=0) G rfl
  have v4:wr (b,129+k*13+4)=some (.int .u64 B):=by
   have:=hR.c.r (j:=4) (v:=.int .u64 B) G (by simp only[zf];rw[<-be.z];rfl);rw[AN];exact this
  have w5:=wu ((R:Int)+n) I;have bg:=zb g;have ad:=zb q;have bP:=zb Z;have HV:=zb hv;have b4:=zb aX;clear HR;have HR:=zb hR;clear hR g q Z hv aX;by_cases L:R+n<B
  .have aJ:(R:Int)+n<B:=I;obtain⟨Wc,aY⟩:=nm<|wr.alloc<|.cells #[.int .u8 0] 5;have mc:=AB aY;have oc:=AD aY;have bh:BR Wc.drew (.slice wr [(0:UInt8)].length 1) [(0:UInt8)] :=
    ⟨_,_,rfl,nl,pi,λq g hq=>⟨_,_,rfl,by
     have bQ:q=0:=by
      have:=(AO.1 hq).1;simp at this;omega
     subst bQ;simp at hq;subst hq;exact za (o:=0+0) oc rfl⟩⟩
   have aK:bs.length + [(0:UInt8)].length<=140737488355328:=by rw[ad.z];simp;omega
   have aZ:=mc.drew;obtain⟨v',W2,DG,ha⟩:=PX Wc.drew (V1.rb k) bs ⟨wr.heap.size,0,none⟩ 1 [0] (aZ.owns bP.z<|λ_ _ x=>x) bh aK;obtain⟨⟨bi,V2,r2⟩,x2,f2⟩:=(HR.z.kI aZ).qW G (s:=[0]) (v':=v') (W2:=W2) (by simp only[zf];exact ha);obtain⟨va,vc,rfl,_⟩:=zi ha.own;have bR:=r2;have e2:=r2.c.rb k G;obtain⟨g,q,he,_⟩:=zi e2;have e3:=r2.c.r (j:=0) G rfl;rw[he]at e3;have an:((({ ({ c with rs:=zh c.rs k { x1 with b:=bs } }:CS)with rs:=zh (zh c.rs k { x1 with b:=bs }) k { (zh c.rs k { x1 with b:=bs }) k with b:=((zh c.rs k { x1 with b:=bs }) k).b++[0] } }:CS).rs k).b).length=R+n+1:=by
    simp only[zf,AF,ad.z];rfl
   rw[an]at e3;rw[AN 13 k]at x2 f2 r2 e3;rw[AF,ad.z]at DG;rw[HV.z]at DG x2;have e3:(W2.setCell (b,129+k*13)<|.slice va (bs++[0]).length vc) (b,129+k*13)=some (.slice g (R+n+1) q):=e3;have bj:=zb e3;have R2:=zb r2;have aC:[(0:UInt8)].length=1:=rfl;rw[aC]at DG;rw[AF,ad.z,aC]at R2;rw[AF,ad.z,aC]at bj;subst aY;clear ha r2 bR e2 he e3 an aZ aK bh oc mc;go_upto_region 17 with fail;refine zN ?_;refine zr 11 (λw'=>w' (b,129+k*13)=some (.slice sa (R+n) am)/\w' (b,129+k*13+4)=some (.int .u64 B)) (⟨v0,v4⟩) ?_;refine GI 0 ?_;iterate 11
    refine GV rfl ?_;try simp only[PS]
   refine zt ?_;refine⟨rfl,?_⟩;go_wp2_with (at_builtin;refine zm rfl _ _ _ _ rfl _ _ _ rfl rfl DG ?_);go_roundw
   case rel =>
    refine⟨n+1,bi,V2,I,zb<|R2.z.same ?_⟩;simp only[zf,P0,<-bg.z,BC,Ca]
   case measure =>
    have e3:=bj.z;simp only[v0];rw[e3];show B-(R+n+1)<B-(R+n);omega
  have g:R+n=B:=I;have bk:AA (bs=Fr x.b B):=zb (by
   rw[<-bg.z];unfold Fr;rw[aW.z,(I:B-R=n)])
  have aJ:¬(R:Int)+n<B:=I;obtain⟨y0,y1,y2,y3,y4,y5,y6,y7,y8,y9⟩:=(aP.z HR.z).cells;rw[ak.z]at y2;have bm:=zb bA.z.kG;have bS:=zb g;clear g L;go_upto_region 17 with fail;refine zN ?_;refine zr 11 (λw'=>w' (b,129+k*13)=some (.slice sa (R+n) am)/\w' (b,129+k*13+4)=some (.int .u64 B)) (⟨v0,v4⟩) ?_;refine GI 0 ?_;iterate 11
   refine GV rfl ?_;try simp only[PS]
  refine zt ?_;refine⟨rfl,?_⟩;clear y0 y1 y3 y4 y5 y6 y7 y9;go_upto_region 19 with fail
  go_cut [9] (λg wx=>g=.int .u64 u/\wx=wr.drew)
  case first=>as_aux_lemma =>
   go_wp2;go_meet;exact rM
  case rest =>
  obtain⟨rfl,hw⟩:=hcut;obtain⟨g,bT⟩:=nn wc;subst bT;subst hw;have ai:=aj.z;have q:AA (EB u y E (DL+1) u bs x.kG=x.mj f):=zb (by
   unfold RS.mj;rw[ak.z,aH.z,a4.z,HE.z,X.z,O.z,bk.z])
  have g:AA (x1.kG=x.kG):=zb (by rw[<-aa.z]);have bn:AA ({ x1 with b:=(x.mj f).1,kG:=(x.mj f).2 }=x.data f):=zb (by
   rw[<-aa.z];unfold RS.data;rw[HE.z,X.z,O.z,a5.z,a6.z,a7.z])
  have aD:AA (E<=B):=zb (by rw[<-O.z];exact Nat.le_max_right _ _);have O:u<=E:=I;clear ai aJ v0 v4 y2 y8;go_wp2_with fail
  go_loopw [9] (λR Z=>∃(lo m:Nat) (z:qq) (s:DO) (tag':qr) (V':CV),R=.int .u64 lo/\u<=lo/\lo<=E/\AA (zJ tag i b W1 V { c with rs:=zh c.rs k { x1 with b:=z,kG:=s } } tag' V' Z/\z.length=B/\s.Ok/\E<lo+m/\EB u y E m lo z s=x.mj f)) (λR _=>E-(intOf R).toNat)
  case atStart=>exact⟨u,DL+1,bs,x.kG,bf,V1,rfl,AI _,O,zb ⟨(HR.z.kI (C9.refl DA wr).drew).same<|by rw[<-g.z],by rw[ad.z];exact bS.z,by rw[<-HX.z];exact bm.z,qm aj.z,q.z⟩⟩
  case round =>
   obtain⟨lo,m,z,s,g,V3,rfl,aC,q,M⟩:=hrel;have a0:=zb M.z.2.2.2.2;by_cases L:lo<E
   .have aE:=M.z.1;have a1:OB wr (V3.rb k) z:=by have:=aE.c.rb k G;simpa only[zf]using this
    obtain⟨O,C,aF,g,q,ao⟩:=zi a1;rw[M.z.2.1]at aF g ao;unfold maxLen at q;have aT:0<B:=qm aD.z;obtain⟨g3,rfl⟩:=ao aT;have v0:=aE.c.r (k:=k) (j:=0) (v:=V3.rb k) G rfl;rw[aF,AN 13 k,Bb]at v0;have ap:=aE.c.n6 G (by simp only[zf];have:=M.z.2.2.1.rl;have:=M.z.2.2.1.most.2;omega);simp only[zf]at ap;have kg:=Pp s.rs s.fl s.most b (129+13*k+1) lo E (V3.rc k) wr ap I (λj hj=>by have:=M.z.2.2.1.hi j hj;unfold zG at this;omega);rw[AN 13 k]at kg;have bU:=Ri s.rs (λr hr=>by
     obtain⟨j,hj,rfl⟩:=Cc.1 hr;have g:=M.z.2.2.1.hi j hj;have e:s.rs.getD j (0,0)=s.rs[j]:=by simp[List.getD,hj]
     unfold DB at g;rw[e]at g;unfold zG at g;omega) lo E I
    have q:=Lp s.rs lo E;have aG:=OV s.rs lo E L;have K:=zb<|λn=>dI u y E n lo z s L;have ab:=zb<|λh=>dH u y E m lo z s L h<|qm M.z.2.2.2.1;obtain⟨A,g⟩:=nm<|(DP s.rs lo E).1;obtain⟨D,h⟩:=nm<|(DP s.rs lo E).2;rw[g]at bU aG kg K ab;rw[h]at q aG kg K;have KG:=zb kg;have bo:=zb aF;have bV:=zb a1;have bp:(lo:Int)<E:=I;clear kg ap aF a1 g h aE ao L;by_cases g:(E:Int)<=A
    .have aq:AA ((z,s)=x.mj f):=zb (by rw[<-a0.z,ab.z I]);clear aG;go_wp2_with (go_at_call 136;refine KG.z.mono ?_;rintro _ W3 ⟨rfl,m3⟩;have M3:=zb m3;clear m3);go_ret;have hd:=Tg (c:=c) (f:=f) al.z aB.z (by rw[HX.z,X.z,HE.z,aQ.z,aR.z];exact ba.z);rw[hd];refine⟨rfl,N.z<|(M.z.1.kI M3.z).same ?_⟩;rw[HX.z,<-bn.z,<-aq.z]
    obtain⟨g,h⟩:=aG I;have g:0<m:=qm M.z.2.2.2.1;have bq:AA (EB u y E (m-1) D (Ha z A<|(y.drop<|A-u).take<|D-A) (s.add A<|D-1)=x.mj f):=zb (by
     rw[<-K.z (m-1) I,(I:m-1+1=m)];exact a0.z)
    clear K ab;go_upto_region 24 with(go_at_call 136;refine KG.z.mono ?_;rintro _ W3 ⟨rfl,m3⟩;have M3:=zb m3;clear m3);have Z:=zb<|M.z.1.kI M3.z;obtain⟨y0,y1,y2,y3,y4,y5,y6,y7,y8,y9⟩:=(aP.z Z.z).cells;rw[ak.z]at y2;rw[aH.z]at y8;have v3:=M3.z.cell (a:=⟨b,_,none⟩) id v0;have n:OB W3.drew (.slice g3 z.length C) z:=by
     have:=(M3.z.drew).owns bV.z<|λ_ _ x=>x;rw[bo.z,<-M.z.2.1]at this;exact this
    have a:((y.drop<|A-u).take<|D-A).length=D-A:=by
     rw[AU,Af,a4.z];have:=aj.z;omega
    obtain⟨q,g,h,K⟩:=VP (lo:=A) (s:=(y.drop<|A-u).take<|D-A) n (by rw[a,M.z.2.1];have:=aD.z;omega) (D-A) (C-A) (by rw[a];exact AI _);have s1:(A:Int)<=D:=I;have s2:(D:Int)<=C:=qm aD.z;have s3:¬C=A:=I;have s4:=wu ((A:Int)-u) I;have s5:=wu ((D:Int)-u) I;have s6:(A:Int)-u<=(D:Int)-u:=I;have s7:(D:Int)-u<=DL:=qm aj.z;have s8:0<=(A:Int)-u:=I;have q:u<=A:=I;have q:u<=D:=I;obtain⟨S,hS⟩:=nm<|(y.drop<|A-u).take<|D-A;have q:(zy y).extract (A-u) (D-u)=zy S:=by rw[U1,(I:D-u-(A-u)=D-A),hS]
    rw[hS]at g h a bq;rw[a]at g;have O:=zb hS;clear hS;have O:=zb g;have R:=zb h;have M4:=zb K;clear g h K n;refine zN ?_;refine zr 18 (λw'=>w' (b,129+k*13)=some (.slice g3 B C)/\w' (U fb 2)=some (.int .u64 u)/\w' (U fb 8)=some (.string<|zy y)) (⟨v3,y2,y8⟩) ?_;refine GI 0 ?_;iterate 18
     refine GV rfl ?_;try simp only[PS]
    refine Dt rfl (λK h=>?_);try rw[q]
    have g:=O.z;go_simp;refine h.z _ _ ?_;clear h K;try simp only[PS]
    refine zt ?_;refine⟨rfl,?_⟩;obtain⟨g,h,r4⟩:=(Z.z.kI (C9.refl DA W3).drew).qD G bo.z (by have:=R.z;rw[M.z.2.1]at this;exact this) M4.z;have g:=r4.oo G (by simp only[zf];exact M.z.2.2.1) A (D-1) (by unfold zG;omega) (by unfold zG;omega);have hz:((D-1:Nat):Int)=(D:Int)-1:=I;have h:=wu ((D:Int)-1) I;rw[hz,AN 13 k]at g;have h:=zb g;have bW:=zb a;clear g r4 hz q v0 v3 y0 y1 y2 y3 y4 y5 y6 y7 y8 y9 s1 s2 s3 s4 s5 s6 s7 s8;go_wp2_with fail;refine(h.z).mono ?_;rintro e a ⟨rfl,⟨bt,V6,r6,_⟩,_⟩;have a:=zb r6;clear r6;go_wp2;go_roundw
    case rel =>
     refine⟨D,m-1,Ha z A S,s.add A<|D-1,bt,V6,rfl,I,I,zb ⟨a.z.same ?_,?_,M.z.2.2.1.add _<|by unfold zG;omega,qm M.z.2.2.2.1,bq.z⟩⟩
     .simp only[zf,P0]
     rw[Mz _ _ _ (by rw[bW.z,M.z.2.1];have:=aD.z;omega)];exact M.z.2.1
    simp[intOf];omega
   have a:lo=E:=I;have aq:AA ((z,s)=x.mj f):=zb (by rw[<-a0.z,Wa _ _ _ _ _ _ _ L]);have bp:¬(lo:Int)<E:=I;clear L a;go_wp2;go_ret;have hd:=Tg (c:=c) (f:=f) al.z aB.z (by rw[HX.z,X.z,HE.z,aQ.z,aR.z];exact ba.z);rw[hd];refine⟨rfl,N.z<|M.z.1.same ?_⟩;rw[HX.z,<-bn.z,<-aq.z]
structure Oz(c:CS)(f:DF):Prop where
 most:c.most<=zG
 id:f.id<=zG
 dl:f.dl<=zG
 now:c.now<=zG
 nd:(c.seen.map (·.1)).Nodup
 ids:∀p∈c.seen,p.1<=zG
 len:c.seen.length<=1099511627776
 cm:c.kG.length<=1099511627776
def CS.nL(c:CS)(f:DF):Bool:=(c.seen.any λp=>p.1==f.id)||decide (f.dl<c.now)||(decide (0<c.seen.length)&&D2 c.most f.id)
def jS(h:c.nL f=true):c.message f=c:=by
 unfold CS.message;unfold CS.nL at h;rw[AL h]
def jR(h:c.nL f=false):c.message f={ c with most:=max c.most f.id,seen:=(c.seen++[(f.id,f.dl)]).filter (λp => !D2 (max c.most f.id) p.1),kG:=c.kG++[(f.id,f.data)] }:=by
 unfold CS.message;unfold CS.nL at h;rw[AH (by rw[h];simp)]
def PO{x:Nat}(h:x<18446744073709551616):(Lit.int .u64 x).wf=true:=by
 show(decide ((0:Int)<=x)&&decide ((x:Int)<=18446744073709551615))=true;rw[Ah I,Ah I];rfl
def Nq{x y:Nat}(h:x≠y):(Lit.int .u64 x)≠(Lit.int .u64 y):=λe=>by
 cases e;exact h I
def IX:Go.Maps.Keyed prog 34:=Go.Maps.int_keyed underlying34
def MT{x:Nat}(h:x<18446744073709551616):keyOf prog 34 (.int .u64 x)=some (.int .u64 x):=Go.Maps.keyOf_int_mk underlying34 (PO h)
def Kg{x:Nat}(h:x<18446744073709551616):plainElem (H:=Unit) prog 34 (.int .u64 x)=some (.lit (.int .u64 x),[]):=plainElem_int underlying34 (PO h)
def WY(w:rT):(zeroValue 34).run prog w=.ok (.int .u64 0) w:=kw
def dF{D:DataW Unit}(h:w.ownsMap prog 34 (plainElem prog 34) b n D):w.ownsMap prog 34 (plainElem prog 34) b (Go.Maps.size D) D:=by
 obtain⟨e,a,g,m,n,rfl⟩:=h;refine⟨e,a,g,m,?_,rfl⟩;simp[Go.Maps.size,length_sorted]
def Fk.look{l:List (Nat×Nat)}(h:Fk w b l){x:Nat}(a:x<18446744073709551616):∃v,(Instr.lookup 136 (.map (some b)) (.int .u64 x) true).run prog w=.ok (.tuple #[v,.bool (l.any λp=>p.1==x)]) w:=by
 obtain⟨D,g,_,m⟩:=h;obtain⟨v,h,e,_⟩:=g.look_ok IX underlying136 (WY w) (plainElem_int (H:=Unit) underlying34<|PO (x:=0) I)<|MT a;rw[m x a]at e;exact⟨v,e⟩
def Fk.len{l:List (Nat×Nat)}(h:Fk w b l)(a:TypeId):(Builtin.len_ #[136] a #[.map (some b)]).run prog w=.ok (.int .i64 l.length) w:=by
 obtain⟨D,e,g,_⟩:=h;have:=e.len underlying136 a;rw[g]at this;exact this
def Fk.put{l:List (Nat×Nat)}(h:Fk w b l){x y:Nat}(a:x<18446744073709551616)(n:y<18446744073709551616)(u:l.any (λp=>p.1==x)=false)(B:l.length<=1099511627776):∃w',(Instr.mapUpdate 136 (.map (some b)) (.int .u64 x) (.int .u64 y)).run prog w=.ok () w'/\Fk w' b (l++[(x,y)])/\C9 (λq=>q=b) w w':=by
 obtain⟨D,g,A,m⟩:=h;obtain⟨w',q,h,B⟩:=g.update IX underlying136 pi (MT a)<|Kg n;refine⟨w',q,⟨_,by rw[AF];exact h,?_,λz C=>?_⟩,(C9.refl _ w).grown B<|λk E=>.inl<|by cases E;rfl⟩
 .rw[Go.Maps.size_put (g.tidy IX),m x a,u,AF,A];rfl
 rw[List.any_append];by_cases e:z=x
 .subst e;rw[Go.Maps.has_put_same g.isMap (IX.key<|MT a)];simp
 rw[Go.Maps.has_put_other (Nq e),m z C];have:¬x=z:=λy=>e y.symm
 simp[this]
structure Gw(L:List (Nat×Nat))(M:Nat)(left:Lit->Bool)(D:DataW Unit)(del:Nat->Bool):Prop where
 has:∀x:Nat,x<18446744073709551616->Maps.has D (.int .u64 x)=(L.filter λp => !del p.1).any λp=>p.1==x
 sz:Maps.size D=(L.filter λp => !del p.1).length
 lH:∀x,del x=true->D2 M x=true
 done:∀p∈L,left (.int .u64 p.1)=false->del p.1=D2 M p.1
def UF(L:List (Nat×Nat))(del:Nat->Bool)(x:Nat):(L.filter λp => !(del p.1||p.1==x))=(L.filter λp => !del p.1).filter λp => !(p.1==x):=by
 rw[List.filter_filter];congr 1;funext p;cases del p.1<;>simp
theorem UR:∀(L:List (Nat×Nat)) (x:Nat),(L.map (·.1)).Nodup->L.any (λp=>p.1==x)=true->(L.filter λp => !(p.1==x)).length+1=L.length
 | [],x,_,h=>by simp at h
 | p::L,x,hn,h=>by
  simp only[BO,List.nodup_cons]at hn;by_cases e:p.1=x
  .have a:∀q∈L,¬q.1=x:=λq g m=>hn.1<|by rw[e,<-m];exact List.mem_map_of_mem g
   have:(p::L).filter (λp => !(p.1==x))=L:=by
    rw[List.filter_cons_of_neg (by simp[e]),C7];intro q g;simp[a q g]
   rw[this];rfl
  have a:L.any (λp=>p.1==x)=true:=by simpa [e]using h
  rw[List.filter_cons_of_pos (by simp[e])];simp only[Aa];have:=UR L x hn.2 a;omega
def Gw.start{w:rT}{b:Nat}{L:List (Nat×Nat)}{M:Nat}{D:DataW Unit}(h:∀x:Nat,x<18446744073709551616->Maps.has D (.int .u64 x)=L.any λp=>p.1==x)(m:Maps.size D=L.length)(hb:∀p∈L,p.1<=zG):Gw L M (Maps.has D) D (λ_=>false):=by
 have e:(L.filter λ_ => !false)=L:=nl;refine⟨λx a=>by rw[e,h x a],by rw[e,m],λx a=>by simp at a,λp a g=>?_⟩;have e:=hb p a;unfold zG at e;rw[h p.1 I]at g;have:L.any (λq=>q.1==p.1)=true:=Bi.2 ⟨p,a,nl⟩;rw[this]at g;cases g
theorem Gw.kD{L:List (Nat×Nat)}{M:Nat}{left:Lit->Bool}{D:DataW Unit}{del:Nat->Bool}(h:Gw L M left D del){x:Nat}(n:x<18446744073709551616)(a:D2 M x=false)(hb:∀p∈L,p.1<=zG):Gw L M (λz=>left z && !z.sameKey (.int .u64 x)) D del:=by
 refine⟨h.has,h.sz,h.lH,λp m g=>?_⟩;by_cases e:p.1=x
 .rw[e,a];cases hd:del x with
  | false=>rfl
  | true =>
   have:=h.lH x hd;rw[a]at this;cases this
 refine h.done p m ?_;rw[Go.Maps.sameKey_ne (Nq e)]at g;simpa using g
def Gw.pe{L:List (Nat×Nat)}{M:Nat}{left:Lit->Bool}{D:DataW Unit}{del:Nat->Bool}(h:Gw L M left D del){x:Nat}(n:x<18446744073709551616)(u:D2 M x=true)(A:(L.map (·.1)).Nodup)(hd:Go.Maps.has D (.int .u64 x)=true)(B:Go.Maps.Tidy D):Gw L M (λz=>left z && !z.sameKey (.int .u64 x)) (D.del (.int .u64 x)) (λz=>del z||z==x):=by
 have C:=IX.key<|MT n;have m:(L.filter λp => !del p.1).any (λp=>p.1==x)=true:=by rw[<-h.has x n];exact hd
 have q:((L.filter λp => !del p.1).map (·.1)).Nodup:=A.sublist<|List.filter_sublist.map _;refine⟨λz a=>?_,?_,λz a=>?_,λp g y=>?_⟩
 .rw[UF];by_cases e:z=x
  .subst e;rw[Go.Maps.has_del_same]
   symm
   rw[Ck];intro p g;have:=(Bh.1 g).2;simpa using this
  rw[Go.Maps.has_del_other (Nq e),h.has z a];rw[Cv,Bi,Bi];constructor
  .rintro⟨p,g,n⟩;refine⟨p,Bh.2 ⟨g,?_⟩,n⟩;have:p.1=z:=qp n;simp[this,e]
  rintro⟨p,g,n⟩;exact⟨p,(Bh.1 g).1,n⟩
 .rw[UF];have n:=UR _ x q m;have m:=Go.Maps.size_del (k:=.int .u64 x) B;rw[hd]at m;simp only[Aq]at m;have m:=h.sz;omega
 .rcases Bool.or_eq_true_iff.1 a with a|a
  .exact h.lH z a
  have:z=x:=qp a;rw[this];exact u
 by_cases e:p.1=x
 .simp[e,u]
 have:=h.done p g (by rw[Go.Maps.sameKey_ne (Nq e)]at y;simpa using y);simp[e,this]
def Gw.fin{L:List (Nat×Nat)}{M:Nat}{left:Lit->Bool}{D:DataW Unit}{del:Nat->Bool}(h:Gw L M left D del)(a:∀e,left e=false)(g:w.ownsMap prog 34 (plainElem prog 34) b n D):Fk w b (L.filter λp => !D2 M p.1):=by
 have e:(L.filter λp => !del p.1)=L.filter λp => !D2 M p.1:=by
  apply List.filter_congr;intro p m;rw[h.done p m (a _)]
 have m:=h.has;have a:=h.sz;rw[e]at a;refine⟨D,by rw[<-a];exact dF g,a,λx a=>?_⟩;rw[m x a,e]
def zJ.seen{l:List (Nat×Nat)}(h:zJ tag i b W0 V0 c tag' V' W')(m:C9 (λq=>q=V'.sn) W' W'')(g:Fk W'' V'.sn l):zJ tag i b W0 V0 { c with seen:=l } tag' V' W'':=by
 have hb:¬b=V'.sn:=λe=>by
  have a:=h.c.nT;rw[<-e,h.c.tb]at a;simp at a
 refine⟨h.c.build (R:=λr=>r=7) m (λq e=>⟨7,rfl,by rw[show q=V'.sn from e];exact h.c.nT⟩) (λ_ _=>rfl) (m.obj hb h.c.obj) rL (λk a=>.inl rK) (λk a=>.inl rK) (λk a=>.inl rK) (λk a=>.inl rK) (λk a=>.inl rK) rL rJ (.inr ⟨g,h.c.nT⟩) rJ,⟨h.e.lH,h.e.new,h.e.z.mod m⟩,Ek h.e h.m<|m.mono<|λq e=>.inl<|EM (r:=7) (by rw[show q=V'.sn from e];exact h.c.nT) lc,h.p,h.ft⟩
def WX:(prog.info? 134).map (λi=>(i.zero,i.size,i.bytes))=some (some (.agg #[.int .u64 0,.string ⟨#[]⟩]),2,24):=kw
def VO(w:rT)(v:rU)(l:List (Nat×qq))(id:Nat)(s:qq)(h:w.ownsRow 0 134 2 v l.length (zZ l))(e:l.length<=1099511627776):∃a w',(∀e,(Builtin.append_ #[89,89] e #[v,.slice w 1 1]).run prog (w.alloc (.cells #[id,.string (zy s)] 134))=.ok a w')/\w'.ownsRow 0 134 2 a (l.length+1) (zZ (l++[(id,s)]))/\(w.alloc (.cells #[id,.string (zy s)] 134)).grownBy w' v.ownBlock/\Dh w v a:=by
 obtain⟨o,n⟩:=nm<|(Obj.cells #[id,.string (zy s)] 134 (0,0));obtain⟨i,e,y,g,m⟩:=info_parts WX;have z:∀(j:Nat) u,(zZ [(id,s)])[j]?=some u->(w.alloc o) ((⟨w.heap.size,0,none⟩:Addr).add j)=some u:=λj u A=>by
  rw[EU,<-n];refine za (heap_alloc_new w _) ?_;rw[An,<-Array.getElem?_toList];exact A
 obtain⟨a,w',B,C,D,E⟩:=zY (P:=prog) (w.alloc o) 89 134 i _ 2 24 underlying89 e y g m rfl lc v l.length (zZ l) (((C9.refl DA w).alloc o).owns h<|λ_ _ x=>x)
  ⟨w.heap.size,0,none⟩ 1 1 (zZ [(id,s)]) rfl z (by
   intro u q;simp[zZ]at q;rcases q with rfl|rfl<;>rfl) pi I
 have e:zZ (l++[(id,s)])=zZ l++zZ [(id,s)]:=by simp[zZ]
 rw[n,e];refine⟨a,w',B,C,D,λg a=>?_⟩;rcases E g a with x|x
 .exact .inl x
 refine .inr ?_;simp at x;omega
def zJ.qQ{l:List (Nat×qq)}(h:zJ tag i b W0 V0 c tag' V' W')(y:C9 DA W' W1)(n:W2.ownsRow 0 134 2 v' l.length (zZ l))(m:W1.grownBy W2 V'.cm.ownBlock)(D:Dh W' V'.cm v')(z:l≠[]):(∃u K,zJ tag i b W0 V0 { c with kG:=l } u K (W2.setCell (b,243) v'))/\W2 (b,243)=some V'.cm/\W2.frozen? ⟨b,243,none⟩=false:=by
 have E:=h.p;have q:∀{g r:Nat},tag' g=(i,r)->g<W'.heap.size:=λm=>Ds h.e.z m E
 have hb:¬V'.cm.ownBlock=some b:=λe=>by
  have u:=h.c.nN b e;rw[h.c.tb]at u;simp at u
 have A:=(y.mono rQ).trans<|(C9.refl _ W1).grown m<|λg m=>.inl m;have G:=A.obj hb h.c.obj;have B:C9 (λg=>V'.cm.ownBlock=some g\/g=b) W' (W2.setCell (U b 243) v'):=(A.mono<|λg m=>.inl<|.inl m).setCell (p:=U b 243) (.inl<|.inr rfl) _;have L:C9 (λg=>g=b) W2 (W2.setCell (U b 243) v'):=(C9.refl (λg=>g=b) _).setCell (p:=U b 243) rO _;have u:=q h.c.tb;have C:∀g,v'.ownBlock=some g->¬g=b:=λg m x=>by
  subst x;rcases D g m with y|y
  .exact hb y
  omega
 have K:∀g,(V'.cm.ownBlock=some g\/g=b)->∃r,(r=1\/r=8)/\tag' g=(i,r):=λg m=>by
  rcases m with m|m
  .exact⟨8,.inr rfl,h.c.nN g m⟩
  exact⟨1,.inl rfl,by rw[m,h.c.tb]⟩
 have u:∀g,(tag' g).1=i->zT tag' W' (W2.setCell (b,243) v') (i,8) g=tag' g:=λg m=>zx<|q (r:=(tag' g).2)<|by rw[<-m]
 refine⟨⟨zT tag' W' (W2.setCell (U b 243) v') (i,8),{ V' with cm:=v' },?_,h.e.trans (Gf B.size) h.m.size,Ek h.e h.m<|B.mono<|λg m=>.inl ?_,E,h.ft⟩,A.cell (a:=⟨b,_,none⟩) hb<|h.c.tl (j:=10) rfl,zd G⟩
 .refine h.c.build (R:=λr=>r=1\/r=8) B K u ?_ rL (λk a=>.inl rK) (λk a=>.inl rK) (λk a=>.inl rK) (λk a=>.inl rK) (λk a=>.inl rK) rL rJ rJ (.inr ⟨L.owns n C,λg m=>?_,λx=>absurd x z⟩)
  .rw[zc G,Ab];rw[show(243:Nat)=233+10 from rfl,Fv c { c with kG:=l } V' { V' with cm:=v' } _ rfl rfl rfl rfl]
  rcases D g m with y|y
  .rw[zx (q<|h.c.nN g y),h.c.nN g y]
  exact FH y (by have:=zI n g m;simpa using this)
 obtain⟨r,a,e⟩:=K g m;exact EM e I
theorem jQ(h:zn tag i b c V W)(ht:zL tag W)(hi:0<i)(f:DF)(rv:rU)(ok:Oz c f)(a7:∃a n a8,rv=.slice a n a8):rH 163 #[(b,0),.agg (ze f rv)] W (EN tag i b W (.tuple #[]) (c.message f)):=by
 obtain⟨ra,rn,aD,rfl⟩:=a7;obtain⟨W1,ao⟩:=nm<|W.alloc<|.cells (ze f<|.slice ra rn aD) 48;have m1:=AB ao;have ap:zp W1 W.heap.size f (.slice ra rn aD):=by rw[<-ao];exact heap_alloc_new W _
 have aq:¬Da i tag W.heap.size:=λx=>by
  have G:=x.1;rw[ht _ (AI _)]at G;simp at G;omega
 have G:=h.kI m1;have r0:zJ tag i b W1 V c tag V W1:=⟨G,DK.same (ht.mod m1)<|C9.refl DA W1,C9.refl _ _,hi,⟨rfl,rfl⟩⟩;have aC:AA (∀{n:CS} {tag':qr} {V':CV} {W':rT},zJ tag i b W1 V n tag' V' W'->Dv tag i b W n W'):=zb (λr =>
  ⟨_,_,r.c,OW ht m1 r.e,(m1.mono rQ).then r.m.pF<|λg hg=>.inl hg⟩)
 obtain⟨C,aE⟩:=nm W.heap.size;rw[aE]at ap aq;have aR:AA (∀{n:CS} {tag':qr} {V':CV} {W':rT},zJ tag i b W1 V n tag' V' W'->zp W' C f (.slice ra rn aD)):=zb<|λr=>ap.mod r.m aq;have aS:=zb aq;obtain⟨y0,y1,y2,y3,y4,y5,y6,y7,y8,y9⟩:=ap.cells;obtain⟨A,n⟩:=nm f.id;obtain⟨DL,ab⟩:=nm f.dl;obtain⟨NW,ar⟩:=nm c.now;obtain⟨M,ac⟩:=nm c.most;obtain⟨z,au⟩:=nm V.sn;obtain⟨L0,ad⟩:=nm c.seen;obtain⟨SL,ae⟩:=nm L0.length;obtain⟨hs,av⟩:=nm<|(L0.any λp=>p.1==A);obtain⟨dr,aF⟩:=nm<|c.nL f;have q1:=ok.most;have q2:=ok.id;have q3:=ok.dl;have q4:=ok.now;have q5:=ok.len;rw[ac]at q1;rw[n]at q2;rw[ab]at q3;rw[ar]at q4;rw[ad,ae]at q5;unfold zG at q1 q2 q3 q4;have aT:AA ((hs||decide (DL<NW)||(decide (0<SL)&&(decide (32<=M)&&decide (A<=M-32))))=dr):=zb (by
  rw[<-aF];unfold CS.nL D2;rw[ad,n,ab,ar,ac,av,ae])
 have aw:Fk W1.drew z L0:=by rw[<-au,<-ad];exact(G.kI (C9.refl DA W1).drew).sn
 obtain⟨lv,af⟩:=aw.look (x:=A) I;have m:=(show Fk W1.drew.drew z L0 from aw).len;rw[av]at af;rw[ae]at m;have c3:W1 (b,3)=some (.int .u64 NW):=by rw[<-ar];exact G.hd (j:=3) rfl
 have Y:W1 (b,241)=some (.map<|some z):=by rw[<-au];exact G.tl (j:=8) rfl
 have Z:W1 (b,242)=some (.int .u64 M):=by rw[<-ac];exact G.tl (j:=9) rfl
 have fz:=G.fz;rw[n]at y6;rw[ab]at y7;have aU:=zb av;have R0:=zb r0;have aG:=zb n;have aV:=zb ab;have a9:=zb ac;have X:=zb au;have ax:=zb ad;have ba:=zb ae;have HD:=zb aF;have aH:=zb ok;have bv:=zb aw;have bb:=zb ao;have bc:=zb aE;clear h ht hi G r0 m1 ap aq y0 y1 y2 y3 y4 y5 y9 n ab ar ac au ad ae av aF ok aw ao aE;go_enter func163,ntmps163;go_upto_region 1 with fail;rw[bb.z,bc.z]
 go_cut [5] (λn R=>n=.bool hs/\R=W1.drew)
 case first=>as_aux_lemma =>
  refine zN ?_;refine zr 12 (λw'=>w' (U b 241)=some (.map<|some z)/\w' (U C 6)=some (.int .u64 A)/\w'=W1.drew) (⟨Y,y6,rfl⟩) ?_;refine GI 0 ?_;iterate 12
   refine GV rfl ?_;try simp only[PS]
  refine zt ?_;refine⟨rfl,?_⟩;go_wp2;go_meet;exact rM
 case rest =>
 obtain⟨rfl,hw⟩:=hcut;obtain⟨WA,aI⟩:=nn wc;subst aI;subst hw;clear af;go_upto_region 2 with fail
 go_cut [51] (λn R=>n=.bool dr/\R=W1.drew.drew)
 case first=>as_aux_lemma =>
  have hD:=aT.z;subst hD;by_cases e1:hs=true
  .subst e1;refine zN ?_;refine zr 35 (λw'=>w' (U b 241)=some (.map<|some z)/\w' (U C 6)=some (.int .u64 A)/\w' (U C 7)=some (.int .u64 DL)/\w' (U b 3)=some (.int .u64 NW)/\w' (U b 242)=some (.int .u64 M)/\(∀ty,(Builtin.len_ #[136] ty #[.map (some z)]).run prog w'=.ok (.int .i64 SL) w')) (⟨Y,y6,y7,c3,Z,m⟩) ?_;refine GI 0 ?_;iterate 2
    refine GV rfl ?_;try simp only[PS]
   refine GI 2 ?_;iterate 7
    refine GU rfl (λ_ _ _ h=>(by cases h.1)) ?_;try simp only[PS]
   refine GI 9 ?_;iterate 2
    refine GV rfl ?_;try simp only[PS]
   refine GI 11 ?_;iterate 23
    refine GU rfl (λ_ _ _ h=>(by cases h.1)) ?_;try simp only[PS]
   refine GI 34 ?_;refine GV rfl ?_;try simp only[PS]
   refine zt ?_;refine⟨rfl,?_⟩;go_wp2;go_meet;exact⟨nl,rfl⟩
  have e1:hs=false:=qp e1;subst e1;by_cases e2:DL<NW
  .have aJ:(DL:Int)<NW:=I;refine zN ?_;refine zr 35 (λw'=>w' (U b 241)=some (.map<|some z)/\w' (U C 6)=some (.int .u64 A)/\w' (U C 7)=some (.int .u64 DL)/\w' (U b 3)=some (.int .u64 NW)/\w' (U b 242)=some (.int .u64 M)/\(∀ty,(Builtin.len_ #[136] ty #[.map (some z)]).run prog w'=.ok (.int .i64 SL) w')) (⟨Y,y6,y7,c3,Z,m⟩) ?_;refine GI 0 ?_;iterate 11
    refine GV rfl ?_;try simp only[PS]
   refine GI 11 ?_;iterate 23
    refine GU rfl (λ_ _ _ h=>(by cases h.1)) ?_;try simp only[PS]
   refine GI 34 ?_;refine GV rfl ?_;try simp only[PS]
   refine zt ?_;refine⟨rfl,?_⟩;go_wp2;go_meet;exact⟨by simp[e2],rfl⟩
  have aJ:¬(DL:Int)<NW:=I;by_cases n:0<SL
  .have be:(0:Int)<SL:=I;by_cases e4:32<=M
   .have bf:(32:Int)<=M:=I;have w4:=wu ((M:Int)-32) I;by_cases e5:A<=M-32
    .have bg:(A:Int)<=(M:Int)-32:=I;refine zN ?_;refine zr 35 (λw'=>w' (U b 241)=some (.map<|some z)/\w' (U C 6)=some (.int .u64 A)/\w' (U C 7)=some (.int .u64 DL)/\w' (U b 3)=some (.int .u64 NW)/\w' (U b 242)=some (.int .u64 M)/\(∀ty,(Builtin.len_ #[136] ty #[.map (some z)]).run prog w'=.ok (.int .i64 SL) w')) (⟨Y,y6,y7,c3,Z,m⟩) ?_;refine GI 0 ?_;iterate 35
      refine GV rfl ?_;try simp only[PS]
     refine zt ?_;refine⟨rfl,?_⟩;go_wp2;go_meet;exact⟨by simp[e2,n,e4,e5],rfl⟩
    have bg:¬(A:Int)<=(M:Int)-32:=I;refine zN ?_;refine zr 35 (λw'=>w' (U b 241)=some (.map<|some z)/\w' (U C 6)=some (.int .u64 A)/\w' (U C 7)=some (.int .u64 DL)/\w' (U b 3)=some (.int .u64 NW)/\w' (U b 242)=some (.int .u64 M)/\(∀ty,(Builtin.len_ #[136] ty #[.map (some z)]).run prog w'=.ok (.int .i64 SL) w')) (⟨Y,y6,y7,c3,Z,m⟩) ?_;refine GI 0 ?_;iterate 35
     refine GV rfl ?_;try simp only[PS]
    refine zt ?_;refine⟨rfl,?_⟩;go_wp2;go_meet;exact⟨by simp[e2,n,e4,e5],rfl⟩
   have bf:¬(32:Int)<=M:=I;refine zN ?_;refine zr 35 (λw'=>w' (U b 241)=some (.map<|some z)/\w' (U C 6)=some (.int .u64 A)/\w' (U C 7)=some (.int .u64 DL)/\w' (U b 3)=some (.int .u64 NW)/\w' (U b 242)=some (.int .u64 M)/\(∀ty,(Builtin.len_ #[136] ty #[.map (some z)]).run prog w'=.ok (.int .i64 SL) w')) (⟨Y,y6,y7,c3,Z,m⟩) ?_;refine GI 0 ?_;iterate 25
    refine GV rfl ?_;try simp only[PS]
   refine GI 25 ?_;iterate 8
    refine GU rfl (λ_ _ _ h=>(by cases h.1)) ?_;try simp only[PS]
   refine GI 33 ?_;iterate 2
    refine GV rfl ?_;try simp only[PS]
   refine zt ?_;refine⟨rfl,?_⟩;go_wp2;go_meet;exact⟨by simp[e2,n,e4],rfl⟩
  have be:¬(0:Int)<SL:=I;refine zN ?_;refine zr 35 (λw'=>w' (U b 241)=some (.map<|some z)/\w' (U C 6)=some (.int .u64 A)/\w' (U C 7)=some (.int .u64 DL)/\w' (U b 3)=some (.int .u64 NW)/\w' (U b 242)=some (.int .u64 M)/\(∀ty,(Builtin.len_ #[136] ty #[.map (some z)]).run prog w'=.ok (.int .i64 SL) w')) (⟨Y,y6,y7,c3,Z,m⟩) ?_;refine GI 0 ?_;iterate 18
   refine GV rfl ?_;try simp only[PS]
  refine GI 18 ?_;iterate 5
   refine GU rfl (λ_ _ _ h=>(by cases h.1)) ?_;try simp only[PS]
  refine GI 23 ?_;iterate 2
   refine GV rfl ?_;try simp only[PS]
  refine GI 25 ?_;iterate 8
   refine GU rfl (λ_ _ _ h=>(by cases h.1)) ?_;try simp only[PS]
  refine GI 33 ?_;iterate 2
   refine GV rfl ?_;try simp only[PS]
  refine zt ?_;refine⟨rfl,?_⟩;go_wp2;go_meet;exact⟨by simp[e2,n],rfl⟩
 case rest =>
 obtain⟨rfl,hw⟩:=hcut;obtain⟨WA,aI⟩:=nn wc;subst aI;subst hw;clear m;cases dr with
 | true =>
  go_wp2_with fail
  first|go_ret|go_end0
  rw[jS HD.z];exact⟨rfl,aC.z<|R0.z.kI (C9.refl DA W1).drew.drew⟩
 | false =>
 have ag:hs=false:=by
  have:=aT.z;cases hs
  .rfl
  simp at this
 obtain⟨O,aW⟩:=nm<|max M A;have ez:(if M<A then(A:Int)else(M:Int))=(O:Int):=by split<;>omega
 have h:O<=4611686018427387903:=I;obtain⟨W2,h⟩:=nm<|W1.setCell (U b 242)<|.int .u64 O;have m2:C9 (λq=>q=b) W1 W2:=by rw[<-h];exact(C9.refl (λq=>q=b) W1).setCell (p:=⟨b,_,none⟩) rO _
 have r2:zJ tag i b W1 V { c with most:=O } tag V W2:=by
  rw[<-h];exact R0.z.store (233+9) _ (Fv c { c with most:=O } V V (j:=9) _ rfl rfl rfl rfl) ⟨rfl,λ_ _=>⟨rfl,rfl,rfl⟩,λ_ _=>⟨rfl,rfl⟩,rfl,rfl,rfl,rfl⟩
 have m:Fk W2.drew.drew.drew.drew z L0:=by
  have:=(r2.kI (C9.refl DA W2).drew.drew.drew.drew).c.sn;rw[X.z]at this;rw[<-ax.z];exact this
 obtain⟨W3,n,E,m3⟩:=m.put (x:=A) (y:=DL) I I (by rw[aU.z];exact ag) (by rw[ba.z];exact q5);have r3:zJ tag i b W1 V { c with most:=O,seen:=L0++[(A,DL)] } tag V W3:=by
  have:=(r2.kI (C9.refl DA W2).drew.drew.drew.drew).seen (W'':=W3) (l:=L0++[(A,DL)]) (by rw[X.z];exact m3) (by rw[X.z];exact E);exact this
 obtain⟨z0,z1,z2,z3,z4,z5,z6,z7,z8,z9⟩:=(aR.z r2).cells;rw[aG.z]at z6;rw[aV.z]at z7;have y:W2 (b,241)=some (.map<|some z):=by rw[<-X.z];exact r2.c.tl (j:=8) rfl
 have B:=fz 242;have bh:=zb aW;have bi:=zb h;have HU:=zb n;have R3:=zb r3;have aX:=zb E;have aY:=zb ag;clear r2 r3 E n aW h m m2 m3 z0 z1 z2 z3 z4 z5 z8 z9 ag;go_upto_region 3 with fail;refine zN ?_;refine zr 10 (λw'=>w' (U b 242)=some (.int .u64 M)/\w'.frozen? ⟨b,242,none⟩=false/\w' (U C 6)=some (.int .u64 A)) (⟨Z,B,y6⟩) ?_;refine GI 0 ?_;iterate 10
  refine GV rfl ?_;try simp only[PS]
 refine Dt rfl (λK hK=>?_);go_simp;try simp only[ez]
 refine hK.z _ _ ?_;clear hK K;try simp only[PS]
 refine zt ?_;refine⟨rfl,?_⟩;go_upto_region 4 with fail;rw[bi.z];refine zN ?_;refine zr 8 (λw'=>w' (U b 241)=some (.map<|some z)/\w' (U C 6)=some (.int .u64 A)/\w' (U C 7)=some (.int .u64 DL)) (⟨y,z6,z7⟩) ?_;refine GI 0 ?_;iterate 8
  refine GV rfl ?_;try simp only[PS]
 refine Dt rfl (λK hK=>?_);have h:=HU.z;go_simp;refine hK.z _ _ ?_;clear hK K;try simp only[PS]
 refine zt ?_;refine⟨rfl,?_⟩;obtain⟨L,n⟩:=nm<|L0++[(A,DL)];rw[n]at R3 aX;obtain⟨N,hN⟩:=nm L.length;obtain⟨D,ho,E,h⟩:=aX.z;have m:∀p∈L,p.1<=zG:=λp M=>by
  rw[<-n]at M;rcases Ap.1 M with x|x
  .exact aH.z.ids p (by rw[ax.z];exact x)
  have:p=(A,DL):=qp x;rw[this];unfold zG;exact q2
 have aZ:(L.map (·.1)).Nodup:=by
  rw[<-n,A9,List.nodup_append];refine⟨by rw[<-ax.z];exact aH.z.nd,nl,λa ha b' bj e=>?_⟩;have bk:b'=A:=qp bj;obtain⟨p,M,bl⟩:=Ct.1 ha;have G:=aU.z;rw[aY.z]at G;have h2:=Ck.1 G p M;simp at h2;exact h2<|by rw[bl,e,bk]
 have j0:=Gw.start (w:=W3) (b:=z) (M:=O) h E m;rw[hN]at ho;have bm:W3 (b,241)=some (.map<|some z):=by rw[<-X.z];exact R3.z.c.tl (j:=8) rfl
 have J0:=zb j0;have a0:=zb m;have bn:=zb aZ;have bo:=zb n;have M:=zb hN;clear h E m aZ n hN j0 c3 Y Z B fz y6 y7 y z6 z7;go_wp2_with (first|(at_range;refine wpList_range_own _ rfl _ 136 rfl 34 34 IX underlying136 _ z N D rfl ho ?_;intro w0 ah a1 a2)|fail);obtain⟨RB,aK⟩:=nm W3.heap.size;rw[aK]at ah a2 ⊢;have m0:C9 (λq=>q=z) W3 w0:=(C9.refl _ W3).grown a1 (λk hk=>by cases hk);have aL:=zb aK;clear ho a1 a2 aK bm
 go_frame
 go_loopw [] (λwr=>∃(left:Lit->Bool) (h:Nat) (D:DataW Unit) (del:Nat->Bool),wr.ranges (H:=Unit) prog 34 (plainElem prog 34) z RB N D left h/\AA (Gw L O left D del/\C9 (λq=>q=z) W3 wr)) (λwr=>wr.rangeLeft z RB)
 case atStart=>exact⟨_,_,D,_,ah,zb ⟨J0.z,m0⟩⟩
 case round =>
  clear ah m0 J0;obtain⟨left,h,h,del,ai,HJ⟩:=hrel;have a3:¬b=z:=λe=>by
   have G:=R3.z.c.nT;rw[X.z,<-e,R3.z.c.tb]at G;simp at G
  go_wp2_with (first|(at_next;refine wpList_next_ranges_ii _ rfl _ rfl 34 34 .u64 .u64 IX underlying34 underlying34 z RB N _ _ _ rfl ai ?_ ?_)|fail)
  .intro bp a4;have a5:=HJ.z.1.fin a4 ai.owns;have r5:=R3.z.seen (by rw[X.z];exact HJ.z.2) (by rw[X.z];exact a5);have h:AA (({ ({ c with most:=O,seen:=L }:CS)with seen:=L.filter λp => !D2 O p.1 }:CS)={ c with most:=O,seen:=L.filter λp => !D2 O p.1 }):=zb rfl;rw[h.z]at r5;obtain⟨ca,cc,aj,bq,bs,_⟩:=zi r5.c.cm;obtain⟨CL,ak⟩:=nm c.kG.length;have q7:=aH.z.cm;rw[ak]at q7;have aj:V.cm=.slice ca CL cc:=by rw[aj];simp only[ak]
   obtain⟨DT,aM⟩:=nm f.data;obtain⟨h,m,DG,ay,aN,a6⟩:=VO wr.drew V.cm c.kG A DT (by exact r5.c.cm) (by rw[ak];exact q7);have m5:C9 DA wr (wr.drew.alloc<|.cells #[A,.string (zy DT)] 134):=((C9.refl DA wr).drew).alloc _;have al:(c.kG++[(A,DT)]).length=c.kG.length+1:=nl;rw[<-al]at ay;obtain⟨⟨h,m,r6⟩,x6,f6⟩:=r5.qQ m5 ay aN a6 nl;obtain⟨h,m,rfl,_⟩:=zi ay;rw[al,ak]at DG r6;rw[aj]at DG x6;obtain⟨y0,y1,y2,y3,y4,y5,y6,y7,y8,y9⟩:=(aR.z r5).cells;rw[aG.z]at y6;rw[aM]at y8;have h:wr (b,243)=some (.slice ca CL cc):=by rw[<-aj];exact r5.c.tl (j:=10) rfl
   have n:=(m5.mono rQ).trans<|rS.grown aN<|λg hg=>.inl hg;have g:¬V.cm.ownBlock=some C:=λe=>by
    have G:=r5.c.nN C e;exact aS.z<|EM G lc
   have B:=n.cell (a:=U C 6) g y6;have D:=n.cell (a:=U C 8) g y8;have E:=zb DG;have L:=zb r6;have e:=zb aM;have y:=λo=>(show(wr.drew.alloc o).cell? (U b 243)=some (.slice ca CL cc)/\(wr.drew.alloc o) (U C 6)=some (.int .u64 A)/\(wr.drew.alloc o) (U C 8)=some (.string<|zy DT)from
    have m:=((C9.refl DA wr).drew).alloc o
    ⟨m.cell (a:=⟨b,_,none⟩) id h,m.cell (a:=⟨C,_,none⟩) id y6,m.cell (a:=⟨C,_,none⟩) id y8⟩)
   clear ai a4 bp a5 r5 bq bs ak q7 aj ay aN a6 m5 al r6 DG aM n g y0 y1 y2 y3 y4 y5 y7 y9;go_upto_region 10 with fail;refine zN ?_;refine zr 14 (λw'=>w' (U b 243)=some (.slice ca CL cc)/\w' (U C 6)=some (.int .u64 A)/\w' (U C 8)=some (.string<|zy DT)) (⟨h,y6,y8⟩) ?_;refine GI 0 ?_;iterate 10
    refine GV rfl ?_;try simp only[PS]
   refine zD 10 rfl (λK hK=>?_);go_simp;refine hK.z _ _ (y _) ?_;clear hK K;try simp only[PS]
   refine zD 11 rfl (λK hK=>?_);refine zO rfl _ _ _ _ rfl _ _ _ rfl rfl E.z ?_;refine hK.z _ _ ⟨x6,B,D⟩ ?_;clear hK K;try simp only[PS]
   refine GI 12 ?_;iterate 2
    refine GV rfl ?_;try simp only[PS]
   refine Dt rfl (λK hK=>?_);go_simp;refine hK.z _ _ ?_;clear hK K;try simp only[PS]
   refine zt ?_;refine⟨rfl,?_⟩;go_wp2_with fail
   first|go_ret|go_end0
   rw[jR HD.z,a9.z,aG.z,bh.z,ax.z,aV.z,bo.z,e.z];exact⟨rfl,aC.z L.z⟩
  intro x y w1 e aO g h bt aa m aP n u;obtain⟨xn,rfl,aA⟩:∃xn:Nat,x=(xn:Int)/\xn<18446744073709551616:=by
   have aO:(decide ((0:Int)<=x)&&decide (x<=18446744073709551615))=true:=aO;simp only[AV,AW]at aO;exact⟨x.toNat,I,I⟩
  have e:w1 (b,242)=some (.int .u64 O):=by
   have G:=HJ.z.2.cell (a:=U b 242) a3<|R3.z.c.tl (j:=9) rfl;have h2:C9 (λq=>q=RB) wr w1:=(C9.refl _ wr).grown aP (λk hk=>.inl (by cases hk;rfl));exact h2.cell (a:=U b 242) (by
    show ¬b=RB;have h3:=zo<|R3.z.c.tl (j:=9) rfl;have h4:=aL.z;omega) G
  have e:w1 (b,241)=some (.map<|some z):=by
   have G:=HJ.z.2.cell (a:=U b 241) a3<|R3.z.c.tl (j:=8) rfl;rw[X.z]at G;have h2:C9 (λq=>q=RB) wr w1:=(C9.refl _ wr).grown aP (λk hk=>.inl (by cases hk;rfl));exact h2.cell (a:=U b 241) (by
    show ¬b=RB;have h3:=zo<|R3.z.c.tl (j:=9) rfl;have h4:=aL.z;omega) G
  have mw:=HJ.z.2.then ((C9.refl (λq=>q=RB) wr).grown aP<|λk hk=>.inl<|by cases hk;rfl) (λq a=>.inr (by
   have h4:=aL.z;have:=a;omega))
  have aB:=Maps.has_true_of_atKey bt;have MW:=zb mw;have e:=zb aB;have aQ:=ai.left_eq;by_cases e1:32<=O
  .have bu:(32:Int)<=O:=I;have w4:=wu ((O:Int)-32) I;by_cases e2:xn<=O-32
   .have aJ:(xn:Int)<=(O:Int)-32:=I;have am:AA (D2 O xn=true):=zb (by unfold D2;simp[e1,e2]);clear mw aB e2 e1;go_wp2_with (first|(at_delete;refine wpList_delete_ranges _ rfl _ _ 136 34 rfl 34 IX underlying136 _ z RB N _ _ _ rfl aa (.int .u64 xn) (.int .u64 xn) rfl (MT aA) ?_;intro m g an h a)|fail);rw[Maps.strike_twice]at an
    go_frame
    go_roundw
    case rel=>exact⟨_,_,_,_,an,zb ⟨HJ.z.1.pe aA am.z bn.z e.z<|ai.owns.tidy IX,MW.z.trans<|(C9.refl _ w1).grown a.grown<|λk hk=>.inl<|by cases hk;rfl⟩⟩
    rw[an.left_eq,aQ];omega
   have aJ:¬(xn:Int)<=(O:Int)-32:=I;have am:AA (D2 O xn=false):=zb (by unfold D2;simp[e2]);clear mw aB e2 e1;go_wp2;go_roundw
   case rel=>exact⟨_,_,_,_,aa,zb ⟨HJ.z.1.kD aA am.z a0.z,MW.z⟩⟩
   rw[aa.left_eq,aQ];omega
  have bu:¬(32:Int)<=O:=I;have am:AA (D2 O xn=false):=zb (by unfold D2;simp[e1]);clear mw aB e1;go_wp2;go_roundw
  case rel=>exact⟨_,_,_,_,aa,zb ⟨HJ.z.1.kD aA am.z a0.z,MW.z⟩⟩
  rw[aa.left_eq,aQ];omega
structure mb(c:CS)(f:DF):Prop where
 qc:f.kind=2->0<f.kC.length/\f.kC.length<=1099511627776/\c.kB.length<=1099511627776/\(¬c.next<=DB f.kC 0->Mh { c with kO:=max c.kO (DB f.kC 0) } f.kC/\Jo (c.lV f.kC))
 reset:f.kind=3->∃k:Nat,k<8/\f.stream=(k:Int)
 data:f.kind=4->∃k,PP c f k
 ms:f.kind=6->∃k:Nat,k<8/\f.stream=(k:Int)
 msg:f.kind=7->Oz c f
def JE(h:zn tag i b c V W)(e:zL tag W)(hi:0<i)(f:DF)(g:rU):∃W1 a,W.alloc (.cells (ze f g) 48)=W1/\W.heap.size=a/\C9 DA W W1/\zp W1 a f g/\zn tag i b c V W1/\zL tag W1/\zJ tag i b W1 V c tag V W1 /\
   AA (∀{a:CS} {tag':qr} {V':CV} {W':rT},zJ tag i b W1 V a tag' V' W'->Dv tag i b W a W')/\AA (∀{a:CS} {W':rT},Dv tag i b W1 a W'->Dv tag i b W a W'):=by
 have a:C9 DA W (W.alloc<|.cells (ze f g) 48):=rS.alloc _;exact⟨_,_,rfl,rfl,a,heap_alloc_new W _,h.kI a,e.mod a,⟨h.kI a,DK.same (e.mod a)<|C9.refl DA _,C9.refl _ _,hi,⟨rfl,rfl⟩⟩,zb (λr =>
  ⟨_,_,r.c,OW e a r.e,(a.mono rQ).then r.m.pF<|λg h=>.inl h⟩),zb<|λl=>l.lJ e hi a⟩
def dB(h:zn tag i b c V W)(y:zL tag W)(hi:0<i)(f:DF)(z:qs)(A a:Nat)(B:¬f.kind=2)(C:¬f.kind=3)(D:¬f.kind=4)(E:¬f.kind=5)(G:¬f.kind=6)(K:¬f.kind=7)(L:¬f.kind=8):rH 127 #[(b,0),.agg (ze f (.slice z A a))] W (EN tag i b W (.int .i64 0) c):=by
 obtain⟨W1,R,e,g,N,m,O,q,M,n,u⟩:=JE h y hi f<|.slice z A a;obtain⟨a,z,A,R,X,Y,Z,y7,y8,y9⟩:=m.cells;have a:(f.kind==2)=false:=qp B;have a:(f.kind==3)=false:=qp C;have a:(f.kind==4)=false:=qp D;have a:(f.kind==5)=false:=qp E;have a:(f.kind==6)=false:=qp G;have a:(f.kind==7)=false:=qp K;have a:(f.kind==8)=false:=qp L;have R0:=zb M;have a:=zb e;have u:=zb g;clear h y hi N m O q M e g z A R X Y Z y7 y8 y9 B C D E G K L;go_enter func127,ntmps127;go_upto_region 1 with fail;rw[a.z,u.z];go_wp2;go_ret;exact⟨rfl,n.z R0.z⟩
def dA(h:zn tag i b c V W)(y:zL tag W)(hi:0<i)(f:DF)(z:qs)(A a:Nat)(B:f.kind=8):rH 127 #[(b,0),.agg (ze f (.slice z A a))] W (EN tag i b W (.int .i64 13) c):=by
 obtain⟨W1,G,e,g,D,m,E,q,C,n,u⟩:=JE h y hi f<|.slice z A a;obtain⟨a,z,A,G,K,L,M,N,O,R⟩:=m.cells;rw[B]at a;have X:=zb C;have a:=zb e;have u:=zb g;clear h y hi D m E q C e g z A G K L M N O R B;go_enter func127,ntmps127;go_upto_region 1 with fail;rw[a.z,u.z];go_wp2;go_ret;exact⟨rfl,n.z X.z⟩
def cz(h:zn tag i b c V W)(L:zL tag W)(hi:0<i)(f:DF)(g:qs)(y a:Nat)(M:f.kind=5):rH 127 #[(b,0),.agg (ze f (.slice g y a))] W (EN tag i b W (.int .i64 0) { c with kF:=max c.kF f.lF }):=by
 obtain⟨W1,R,m,n,X,q,z,A,B,u,e⟩:=JE h L hi f<|.slice g y a;obtain⟨a,Y,Z,y3,N,y5,y6,y7,y8,y9⟩:=q.cells;rw[M]at a;have y:W1 (b,233)=some (.int .u64 c.kF):=z.tl (j:=0) rfl;have C:=z.fz 233;obtain⟨D,a⟩:=nm<|max c.kF f.lF;have O:=B.store (233+0) (.int .u64 D) (Fv c { c with kF:=D } V V (j:=0) _ rfl rfl rfl rfl) ⟨rfl,λ_ _=>⟨rfl,rfl,rfl⟩,λ_ _=>⟨rfl,rfl⟩,rfl,rfl,rfl,rfl⟩;rw[a];obtain⟨E,e⟩:=nm c.kF;obtain⟨G,g⟩:=nm f.lF;rw[e,g]at a;rw[e]at y;rw[g]at N;have ez:(if E<G then(G:Int)else(E:Int))=(D:Int):=by split<;>omega
 have HS:=zb O;have D:=zb B;have D:=zb m;have K:=zb n;clear h L hi X q z A B m n Y Z y3 y5 y6 y7 y8 y9 M O a e g;go_enter func127,ntmps127;go_upto_region 1 with fail;rw[D.z,K.z];go_upto_region 14 with fail;refine zN ?_;refine zr 10 (λw'=>w' (U b 233)=some (.int .u64 E)/\w'.frozen? ⟨b,233,none⟩=false/\w' (U R 4)=some (.int .u64 G)) (⟨y,C,N⟩) ?_;refine GI 0 ?_;iterate 10
  refine GV rfl ?_;try simp only[PS]
 refine Dt rfl (λK a=>?_);go_simp;try simp only[ez]
 refine a.z _ _ ?_;clear a K;try simp only[PS]
 refine zt ?_;refine⟨rfl,?_⟩;go_wp2;go_ret;exact⟨rfl,u.z<|HS.z.kI (C9.refl DA _).drew⟩
def cw(h:zn tag i b c V W)(O:zL tag W)(hi:0<i)(f:DF)(g:qs)(z a:Nat)(R:f.kind=6)(k:Nat)(L:k<8)(m:f.stream=(k:Int)):rH 127 #[(b,0),.agg (ze f (.slice g z a))] W (EN tag i b W (.int .i64 0) { c with ws:=zh c.ws k { c.ws k with kF:=max (c k).kF f.lF } }):=by
 obtain⟨W1,X,n,q,m1,u,B,C,D,y,e⟩:=JE h O hi f<|.slice g z a;obtain⟨a,Y,y2,y3,Z,y5,y6,y7,y8,y9⟩:=u.cells;rw[R]at a;rw[m]at Y;have z:W1 (b,9+k*15+14)=some (.int .u64 ((c k).kF:Int)):=by rw[AN k 15];exact B.w (j:=14) L rfl
 have E:=B.fz<|9+k*15+14;obtain⟨G,a⟩:=nm<|max (c k).kF f.lF;have A:({ c with ws:=zh c.ws k (c k) }:CS)=c:=by rw[Fx]
 have K:=(D.same A.symm).mN L 14 lc (.int .u64 G) { c.ws k with kF:=G } rfl rfl rfl rfl;rw[AN 15 k]at K;rw[a];obtain⟨L,e⟩:=nm<|(c k).kF;obtain⟨M,g⟩:=nm f.lF;rw[e,g]at a;rw[e]at z;rw[g]at Z;have ez:(if L<M then(M:Int)else(L:Int))=(G:Int):=by split<;>omega
 have G:(0:Int)<=k:=I;have G:(k:Int)<8:=I;have HS:=zb K;have G:=zb D;have G:=zb n;have N:=zb q;clear h O hi m1 u B C D n q y2 y3 y5 y6 y7 y8 y9 R K a e g m A;go_enter func127,ntmps127;go_upto_region 1 with fail;rw[G.z,N.z];go_upto_region 16 with fail;refine zN ?_;refine zr 7 (λw'=>w' (U X 1)=some (.int .i64 k)) (Y) ?_;refine GI 0 ?_;iterate 7
  refine GV rfl ?_;try simp only[PS]
 refine zt ?_;refine⟨rfl,?_⟩;go_upto_region 17 with fail;refine zN ?_;refine zr 10 (λw'=>w' (b,9+k*15+14)=some (.int .u64 L)/\w'.frozen? ⟨b,9+k*15+14,none⟩=false/\w' (U X 4)=some (.int .u64 M)) (⟨z,E,Z⟩) ?_;refine GI 0 ?_;iterate 10
  refine GV rfl ?_;try simp only[PS]
 refine Dt rfl (λK a=>?_);go_simp;try simp only[ez]
 refine a.z _ _ ?_;clear a K;try simp only[PS]
 refine zt ?_;refine⟨rfl,?_⟩;go_wp2;go_ret;exact⟨rfl,y.z<|HS.z.kI (C9.refl DA _).drew.drew⟩
def cv(h:zn tag i b c V W)(N:zL tag W)(hi:0<i)(f:DF)(m:qs)(z a:Nat)(C:f.kind=2)(D:z=f.kC.length)(E:RR W (.slice m z a) f.kC)(n:∀g,Value.kr (.slice m z a)=some g->(tag g).1≠i)(ok:mb c f):rH 127 #[(b,0),.agg (ze f (.slice m z a))] W (EN tag i b W (.int .i64 ((c.lC f.kC).1:Int)) (c.lC f.kC).2):=by
 obtain⟨W1,L,q,A,G,B,K,u,O,g,y⟩:=JE h N hi f<|.slice m z a;obtain⟨Y,Z,y2,y3,y4,y5,y6,y7,y8,y9⟩:=B.cells;subst D;obtain⟨z,D,R,L⟩:=ok.qc C;have M:rH 161 #[(b,0),.slice m f.kC.length a] W1 (EN tag i b W1 (.int .i64 ((c.lC f.kC).1:Int)) (c.lC f.kC).2):=by
  by_cases g:c.next<=DB f.kC 0
  .have e:c.lC f.kC=(11,c):=by unfold CS.lC;rw[AL g]
   rw[e];exact gA K u hi f.kC m a (E.mod G<|DN.no _) n z D g
  rw[Pz c f.kC g];exact fy K u hi f.kC m a (E.mod G<|DN.no _) n z D g R (L g).1 (L g).2
 rw[C]at Y;obtain⟨g,a⟩:=nm f.kC.length;rw[a]at M y9 q ⊢;have Y:=zb M;have g:=zb O;have g:=zb q;have m:=zb A;clear h N hi G B K u O q A Z y2 y3 y4 y5 y6 y7 y8 C E n ok M z D R L a;go_enter func127,ntmps127;go_upto_region 1 with fail;rw[g.z,m.z];go_upto_region 3 with fail;go_wp2_with fail;refine(Y.z).mono ?_;rintro e a ⟨rfl,X⟩;have a:=zb X;clear X;go_wp2;go_ret;exact⟨rfl,y.z a.z⟩
def ci(h:zn tag i b c V W)(B:zL tag W)(hi:0<i)(f:DF)(z:qs)(A a:Nat)(u:f.kind=4)(k:Nat)(ok:PP c f k):rH 127 #[(b,0),.agg (ze f (.slice z A a))] W (EN tag i b W (.int .i64 ((c.data f).1:Int)) (c.data f).2):=by
 obtain⟨W1,K,e,m,G,n,C,q,D,y,g⟩:=JE h B hi f<|.slice z A a;obtain⟨K,y,L,M,N,O,R,X,Y,Z⟩:=n.cells;have y:=dG C q hi f (.slice z A a) k ok ⟨_,_,_,rfl⟩;rw[u]at K;unfold ze at y;rw[u]at y;have A:=zb y;have a:=zb D;have a:=zb e;have z:=zb m;clear h B hi G n C q D e m y ok;have e:=zb u;clear u;go_enter func127,ntmps127;go_upto_region 1 with fail;rw[a.z,z.z];go_upto_region 12 with fail;go_wp2_with fail;refine(A.z).mono ?_;rintro e a ⟨rfl,E⟩;have a:=zb E;clear E;go_wp2;go_ret;exact⟨rfl,g.z a.z⟩
def cZ(h:zn tag i b c V W)(B:zL tag W)(hi:0<i)(f:DF)(z:qs)(A a:Nat)(u:f.kind=7)(ok:Oz c f):rH 127 #[(b,0),.agg (ze f (.slice z A a))] W (EN tag i b W (.int .i64 0) (c.message f)):=by
 obtain⟨W1,K,e,m,G,n,C,q,D,y,g⟩:=JE h B hi f<|.slice z A a;obtain⟨K,y,L,M,N,O,R,X,Y,Z⟩:=n.cells;have y:=jQ C q hi f (.slice z A a) ok ⟨_,_,_,rfl⟩;rw[u]at K;unfold ze at y;rw[u]at y;have A:=zb y;have a:=zb D;have a:=zb e;have z:=zb m;clear h B hi G n C q D e m y ok;have e:=zb u;clear u;go_enter func127,ntmps127;go_upto_region 1 with fail;rw[a.z,z.z];go_upto_region 19 with fail;go_wp2_with fail;refine(A.z).mono ?_;rintro e a ⟨rfl,E⟩;have a:=zb E;clear E;go_wp2;go_ret;exact⟨rfl,g.z a.z⟩
theorem cY(h:zn tag i b c V W)(ht:zL tag W)(hi:0<i)(f:DF)(z:qs)(D m:Nat)(h3:f.kind=3)(k:Nat)(n:k<8)(K:f.stream=(k:Int)):rH 127 #[(b,0),.agg (ze f (.slice z D m))] W (EN tag i b W (.int .i64 ((c.kZ f).1:Int)) (c.kZ f).2):=by
 obtain⟨W1,q,af,L,m1,M,A,aj,r0,E,G⟩:=JE h ht hi f<|.slice z D m;obtain⟨G,y1,N,y3,y4,y5,y6,y7,y8,y9⟩:=M.cells;rw[h3]at G;rw[K]at y1;have O:AA (∀{c':CS} {tag':qr} {V':CV} {W':rT},zJ tag i b W1 V c' tag' V' W'->zp W' q f (.slice z D m)):=zb (λr=>M.mod r.m (λx=>by
  have A:=x.1;rw[<-L,ht _ (AI _)]at A;simp at A;omega))
 obtain⟨x,G⟩:=nm<|c.rs k;obtain⟨en,R⟩:=nm x.ended;obtain⟨cu,X⟩:=nm x.cut;obtain⟨B,Y⟩:=nm x.fin;obtain⟨HI,Z⟩:=nm x.high;obtain⟨C,D⟩:=nm x.kD;obtain⟨g,m⟩:=nm f.off;obtain⟨u,aa⟩:=nm f.rel;have r4:W1 (b,129+k*13+4)=some (.int .u64 HI):=by rw[<-Z,<-G,AN k 13];exact A.r (j:=4) n rfl
 have r5:W1 (b,129+k*13+5)=some (.int .u64 B):=by rw[<-Y,<-G,AN k 13];exact A.r (j:=5) n rfl
 have r6:W1 (b,129+k*13+6)=some (.bool en):=by rw[<-R,<-G,AN k 13];exact A.r (j:=6) n rfl
 have r7:W1 (b,129+k*13+7)=some (.bool cu):=by rw[<-X,<-G,AN k 13];exact A.r (j:=7) n rfl
 have r8:W1 (b,129+k*13+8)=some (.int .u64 C):=by rw[<-D,<-G,AN k 13];exact A.r (j:=8) n rfl
 have fz:=A.fz;rw[m]at N;rw[aa]at y3;have ag:c={ c with rs:=zh c.rs k x }:=by rw[<-G,Fx]
 have RX:=zb<|r0.same ag;have y:AA (c.kZ f=if (en&&B != g)||decide (g<HI)then(10,c)else(0,{ c with rs:=zh c.rs k (x.kZ f) })):=zb (by
  unfold CS.kZ;rw[K];simp only[Am,G,R,Y,m,Z])
 have ah:AA (x.kZ f={ x with kD:=if !cu||decide (u<C)then u else C,cut:=true,ended:=true,fin:=g }):=zb (by
  unfold RS.kZ;rw[X,aa,D,m])
 have ak:=zb D;have ab:=zb m;have z:(0:Int)<=k:=I;have z:(k:Int)<8:=I;have R0:=zb r0;have al:=zb af;have am:=zb L;obtain⟨bad,z⟩:=nm<|((en&&B != g)||decide (g<HI));rw[z]at y;have ai:=zb z;obtain⟨kb,ac⟩:=nm<|(!cu||decide (u<C));rw[ac]at ah;have an:=zb ac;clear h ht hi m1 M A aj r0 af L y4 y5 y6 y7 y8 y9 h3 K G R X Y Z D m aa ag z ac;go_enter func127,ntmps127;go_upto_region 1 with fail;rw[al.z,am.z];go_upto_region 5 with fail;refine zN ?_;refine zr 7 (λw'=>w' (U q 1)=some (.int .i64 k)) (y1) ?_;refine GI 0 ?_;iterate 7
  refine GV rfl ?_;try simp only[PS]
 refine zt ?_;refine⟨rfl,?_⟩;go_upto_region 6 with fail
 go_cut [44] (λbv e=>bv=.bool bad/\e=W1.drew.drew)
 case first=>as_aux_lemma =>
  have hB:=ai.z;subst hB;cases en
  .refine zN ?_;refine zr 22 (λw'=>w' (b,129+k*13+6)=some (.bool false)/\w' (b,129+k*13+5)=some (.int .u64 B)/\w' (b,129+k*13+4)=some (.int .u64 HI)/\w' (U q 2)=some (.int .u64 g)) (⟨r6,r5,r4,N⟩) ?_;refine GI 0 ?_;iterate 5
    refine GV rfl ?_;try simp only[PS]
   refine GI 5 ?_;iterate 7
    refine GU rfl (λ_ _ _ h=>(by cases h.1)) ?_;try simp only[PS]
   refine GI 12 ?_;iterate 10
    refine GV rfl ?_;try simp only[PS]
   refine zt ?_;refine⟨rfl,?_⟩;go_wp2;go_meet;exact⟨nl,rfl⟩
  by_cases e1:B=g
  .subst e1;refine zN ?_;refine zr 22 (λw'=>w' (b,129+k*13+6)=some (.bool true)/\w' (b,129+k*13+5)=some (.int .u64 B)/\w' (b,129+k*13+4)=some (.int .u64 HI)/\w' (U q 2)=some (.int .u64 B)) (⟨r6,r5,r4,N⟩) ?_;refine GI 0 ?_;iterate 22
    refine GV rfl ?_;try simp only[PS]
   refine zt ?_;refine⟨rfl,?_⟩;go_wp2;go_meet;exact⟨nl,rfl⟩
  have m:((B:Int)==(g:Int))=false:=by rw[Lo];simpa using e1
  have z:((B:Int) != (g:Int))=true:=by simp only[bne,m];rfl
  have m:=zb e1;clear e1;refine zN ?_;refine zr 22 (λw'=>w' (b,129+k*13+6)=some (.bool true)/\w' (b,129+k*13+5)=some (.int .u64 B)/\w' (b,129+k*13+4)=some (.int .u64 HI)/\w' (U q 2)=some (.int .u64 g)) (⟨r6,r5,r4,N⟩) ?_;refine GI 0 ?_;iterate 14
   refine GV rfl ?_;try simp only[PS]
  refine GI 14 ?_;iterate 7
   refine GU rfl (λ_ _ _ h=>(by cases h.1)) ?_;try simp only[PS]
  refine GI 21 ?_;refine GV rfl ?_;try simp only[PS]
  refine zt ?_;refine⟨rfl,?_⟩;go_wp2;go_meet;exact⟨by simp[m.z],rfl⟩
 case rest =>
 obtain⟨rfl,hw⟩:=hcut;obtain⟨WA,ad⟩:=nn wc;subst ad;subst hw;clear r4 r5 r6;cases bad with
 | true =>
  have m:=y.z;simp only[Aq]at m;have ae:=zb m;clear m;go_wp2;go_ret;rw[ae.z];exact⟨rfl,E.z<|R0.z.kI (C9.refl DA W1).drew.drew⟩
 | false =>
 have m:=y.z;simp only[BT,BE]at m;have ae:=zb m;clear m;go_upto_region 8 with fail
 go_cut [58] (λbv e=>bv=.bool kb/\e=W1.drew.drew.drew)
 case first=>as_aux_lemma =>
  have hB:=an.z;subst hB;cases cu
  .refine zN ?_;refine zr 14 (λw'=>w' (b,129+k*13+7)=some (.bool false)/\w' (b,129+k*13+8)=some (.int .u64 C)/\w' (U q 3)=some (.int .u64 u)) (⟨r7,r8,y3⟩) ?_;refine GI 0 ?_;iterate 6
    refine GV rfl ?_;try simp only[PS]
   refine GI 6 ?_;iterate 7
    refine GU rfl (λ_ _ _ h=>(by cases h.1)) ?_;try simp only[PS]
   refine GI 13 ?_;refine GV rfl ?_;try simp only[PS]
   refine zt ?_;refine⟨rfl,?_⟩;go_wp2;go_meet;exact⟨nl,rfl⟩
  refine zN ?_;refine zr 14 (λw'=>w' (b,129+k*13+7)=some (.bool true)/\w' (b,129+k*13+8)=some (.int .u64 C)/\w' (U q 3)=some (.int .u64 u)) (⟨r7,r8,y3⟩) ?_;refine GI 0 ?_;iterate 14
   refine GV rfl ?_;try simp only[PS]
  refine zt ?_;refine⟨rfl,?_⟩;go_wp2;go_meet;exact⟨nl,rfl⟩
 case rest =>
 obtain⟨rfl,hw⟩:=hcut;obtain⟨WA,ad⟩:=nn wc;subst ad;subst hw;have h:=(RX.z.kI (C9.refl DA W1).drew.drew.drew).lZ n 8 lc (.int .u64 u) { x with kD:=u } (by rfl) rfl rfl;rw[AN 13 k]at h;have f8:=fz<|129+k*13+8;have RK:=zb h;clear h;go_upto_if 58 with fail
 go_cut [] (λe=>AA<|zJ tag i b W1 V { c with rs:=zh c.rs k { x with kD:=if kb then u else C } } tag V e)
 case first=>as_aux_lemma =>
  cases kb
  .go_wp2;go_meet;exact zb<|(RX.z.kI (C9.refl DA W1).drew.drew.drew).same<|by rw[<-ak.z];simp
  go_wp2;go_meet;exact zb<|RK.z.same nl
 case rest =>
 obtain⟨WB,ao⟩:=nn wc;subst ao;have m:=hcut;clear hcut RK y1 N y3 r7 r8 f8 fz;have N:WB (q,2)=some (.int .u64 g):=by rw[<-ab.z];exact(O.z m.z).cells.2.2.1
 have h:=m.z.c.fz;obtain⟨h,y⟩:∃v,WB (b,129+k*13+7)=some v:=⟨_,by rw[AN k 13];exact m.z.c.r (j:=7) n rfl⟩;have h:=m.z.lZ n 7 lc (.bool true) { x with kD:=if kb then u else C,cut:=true } (by rfl) rfl rfl;have m:=h.lZ n 6 lc (.bool true) { x with kD:=if kb then u else C,cut:=true,ended:=true } (by rfl) rfl rfl;have z:=m.lZ n 5 lc (.int .u64 g) { x with kD:=if kb then u else C,cut:=true,ended:=true,fin:=g } (by rfl) rfl rfl;have u:(WB.setCell (b,129+13*k+7)<|.bool true) (q,2)=some (.int .u64 g):=by rw[<-ab.z];exact(O.z h).cells.2.2.1
 have y:((WB.setCell (b,129+13*k+7)<|.bool true).setCell (b,129+13*k+6)<|.bool true) (q,2)=some (.int .u64 g):=by rw[<-ab.z];exact(O.z m).cells.2.2.1
 have A:=h.c.fz;have B:=m.c.fz;obtain⟨D,C⟩:∃v,(WB.setCell (b,129+13*k+7)<|.bool true) (b,129+k*13+6)=some v:=⟨_,by rw[AN k 13];exact h.c.r (j:=6) n rfl⟩;obtain⟨G,D⟩:∃v,((WB.setCell (b,129+13*k+7)<|.bool true).setCell (b,129+13*k+6)<|.bool true) (b,129+k*13+5)=some v:=⟨_,by rw[AN k 13];exact m.c.r (j:=5) n rfl⟩;rw[AN 13 k]at z u y A B C D;have n:=zb (z.same (c':={ c with rs:=zh c.rs k (x.kZ f) }) (by rw[ah.z]));clear h m z;go_upto_region 10 with fail;refine zN ?_;refine zr 13 (λw'=>w' (U q 2)=some (.int .u64 g)) (N) ?_;refine GI 0 ?_;iterate 7
  refine GV rfl ?_;try simp only[PS]
 refine zD 7 rfl (λK g=>?_);go_simp;go_simp;refine g.z _ _ u ?_;clear g K;try simp only[PS]
 refine GI 8 ?_;iterate 2
  refine GV rfl ?_;try simp only[PS]
 refine zD 10 rfl (λK g=>?_);go_simp;go_simp;refine g.z _ _ y ?_;clear g K;try simp only[PS]
 refine GI 11 ?_;iterate 2
  refine GV rfl ?_;try simp only[PS]
 refine Dt rfl (λK g=>?_);go_simp;refine g.z _ _ ?_;clear g K;try simp only[PS]
 refine zt ?_;refine⟨rfl,?_⟩;go_wp2;go_ret;rw[ae.z];exact⟨rfl,E.z<|n.z.kI (C9.refl DA _).drew⟩
def dd(h:zn tag i b c V W)(m:zL tag W)(hi:0<i)(f:DF)(q:rU)(z:RR W q f.kC)(u:∀g,Value.kr q=some g->(tag g).1≠i)(ok:mb c f):rH 127 #[(b,0),.agg (ze f q)] W (EN tag i b W (.int .i64 ((c.take f).1:Int)) (c.take f).2):=by
 obtain⟨n,a,e,_,_,_⟩:=id z;subst e;unfold CS.take;by_cases y:f.kind=2
 .rw[AL y];exact cv h m hi f n _ a y rfl z u ok
 rw[AH y];by_cases g:f.kind=3
 .rw[AL g];obtain⟨k,A,e⟩:=ok.reset g;exact cY h m hi f n _ a g k A e
 rw[AH g];by_cases q:f.kind=4
 .rw[AL q];obtain⟨k,o⟩:=ok.data q;exact ci h m hi f n _ a q k o
 rw[AH q];by_cases z:f.kind=5
 .rw[AL z];exact cz h m hi f n _ a z
 rw[AH z];by_cases u:f.kind=6
 .rw[AL u];obtain⟨k,A,e⟩:=ok.ms u;have:=cw h m hi f n f.kC.length a u k A e;rw[e];exact this
 rw[AH u];by_cases e:f.kind=7
 .rw[AL e];exact cZ h m hi f n _ a e<|ok.msg e
 rw[AH e];by_cases A:f.kind=8
 .rw[AL A];exact dA h m hi f n _ a A
 rw[AH A];exact dB h m hi f n _ a y g q z u e A
def Tu(f:DF)(n:rU)(b u g:Nat)(W:rT)(q:W u=some (.pointer b))(h:W (b,3)=some (.int .u64 g)):rH 100 #[.agg (ze f n),(u,0)] W (λe w'=>e=.returned (.bool (decide (f.dl<g)))/\w'=(W.alloc (.cells (ze f n) 48)).drew):=by
 obtain⟨W1,e⟩:=nm<|W.alloc<|.cells (ze f n) 48;have y:=AB e;have m:zp W1 W.heap.size f n:=by rw[<-e];exact heap_alloc_new W _
 obtain⟨D,n⟩:=nm W.heap.size;rw[n]at m;obtain⟨E,G,K,L,M,N,O,C,R,X⟩:=m.cells;have c1:=y.cell (a:=u) id q;have Y:=y.cell (a:=U b 3) id h;obtain⟨z,a⟩:=nm f.dl;rw[a]at C ⊢;have hd:decide ((z:Int)<(g:Int))=decide (z<g):=nl;have A:=zb e;have B:=zb n;have Z:=zb hd;rw[e];clear q h y m E G K L M N O R X a e n hd;go_enter func100,ntmps100;go_upto_region 1 with fail;rw[A.z,B.z];refine zN ?_;refine zr 8 (λw'=>w' (U D 7)=some (.int .u64 z)/\w' u=some (.pointer b)/\w' (U b 3)=some (.int .u64 g)) (⟨C,c1,Y⟩) ?_;refine GI 0 ?_;iterate 8
  refine GV rfl ?_;try simp only[PS]
 refine zt ?_;refine⟨rfl,?_⟩;go_wp2;go_ret;exact⟨by rw[<-Z.z];rfl,rfl⟩
structure LN(J:List DF->rT->Prop)(N g o b cb now:Nat):Prop where
 box:∀R w w',J R w->C9 DA w w'->J R w'
 len:∀R w,J R w->R.length=N
 cb:∀R w,J R w->w.cell? cb=some (.pointer b)
 now:∀R w,J R w->w.cell? (b,3)=some (.int .u64 now)
 rd:∀R w,J R w->∀(j:Nat) (f:DF),R[j]?=some f->∀q x,(ze f rV)[q]?=some x->w.cell? ⟨g,o+j*10+q,none⟩=some x
def LL(J:List DF->rT->Prop)(a:Nat)(L:List DF)(e:Ending)(w':rT):Prop :=
 (∃k:Nat,e=.returned (.int .i64 k)/\k<L.length/\(∀x∈L.take k,decide (x.dl<a)=false)/\(∀x,L[k]?=some x->decide (x.dl<a)=true)/\J L w') \/
 (e=.returned (.int .i64 (-1))/\(∀x∈L,decide (x.dl<a)=false)/\J L w')
theorem fu(J:List DF->rT->Prop)(L:List DF)(N g o cap b A e:Nat)(a:qs)(C:L.length=N)(O:N<=1099511627776)(D:0<N->a=some ⟨g,o,none⟩)(E:LN J N g o b A e)
  (w:rT) (g:J L w) :
  rH 132 #[.slice a N cap,.func (.func 100) #[] #[.pointer A]] w (LL J e L):=by
 have y:=zb E;have O:=zb g;have R:=zb D;have z:=zb C;clear E g D C;go_enter func132,ntmps132;go_wp2_with fail
 go_loopw [8] (λa wr=>∃k:Nat,k<=N/\a=.int .i64 k/\AA (J L wr/\∀x∈L.take k,decide (x.dl<e)=false)) (λa _=>N-(intOf a).toNat)
 case atStart=>exact⟨0,AK _,rfl,zb ⟨O.z,λx h=>by simp at h⟩⟩
 case round =>
  obtain⟨k,a,rfl,m⟩:=hrel;by_cases n:k<N
  .obtain⟨x,h⟩:∃x,L[k]?=some x:=⟨L[k]'(by rw[z.z];exact n),AG<|by rw[z.z];exact n⟩;obtain⟨a,g,C,D,E,O,X,Y,Z,aa⟩:=GC<|y.z.rd L wr m.z.1 k x h;have B:=R.z I;subst B;have g:=Tu x rV b A e wr (y.z.cb L wr m.z.1)<|y.z.now L wr m.z.1;unfold ze at g;have G:=zb h;obtain⟨dv,a⟩:=nm<|decide<|x.dl<e;rw[a]at g;have q:=zb a;have K:=zb g;clear g h a;go_wp2_with fail;refine(K.z).mono ?_;rintro e w6 ⟨rfl,u⟩;have M:AA (J L w6):=zb (by rw[u];exact y.z.box _ _ _ m.z.1<|((C9.refl DA wr).alloc _).drew);clear u K;cases dv with
   | true =>
    go_wp2;go_ret;exact .inl ⟨k,rfl,by rw[z.z];exact n,m.z.2,λx h=>by rw[G.z]at h;cases h;exact q.z,M.z⟩
   | false =>
    go_wp2;go_roundw
    case rel =>
     refine⟨k+1,I,by go_num,zb ⟨M.z,λx h=>?_⟩⟩;rw[Ai,G.z]at h;rcases Ap.1 h with h|h
     .exact m.z.2 x h
     simp at h;subst h;exact q.z
    simp[intOf];omega
  have a:k=N:=I;go_wp2;go_ret;exact .inr ⟨rfl,λx h=>m.z.2 x<|by rwa [AS (by rw[z.z];omega)],m.z.1⟩
end
end Go.Proofs.YtddfdpbaiedcjabGreatDoor
