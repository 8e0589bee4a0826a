/- Streamed. Part 9 of 17. -/
import Derived.StillTailTactics
import Derived.Test.YtddfdpbaiedcjabGreatDoorStr8
set_option maxRecDepth 100000
set_option maxHeartbeats 16000000
set_option linter.all false
namespace Go.Proofs.YtddfdpbaiedcjabGreatDoor
section
open Go.RowKit Go.Proofs.Tryz
def D5(f:DF):Nat:=f.off+f.data.length
def SI.lM(x:SI)(f:DF):Bool:=(x.ended&&(decide (x.end_<D5 f)||(f.fin&&D5 f != x.end_)))||(f.fin&&decide (D5 f<x.high))
def Hi(a:Nat->SI):Nat->Nat
 | 0=>0
 | k+1=>Hi a k+(a k).high
def Du(off:Nat)(data:qq)(d:qq)(t:List Bool):Nat->qq×List Bool
 | 0=>(d,t)
 | n+1=>if (Du off data d t n).2.getD (off+n) false then Du off data d t n else((Du off data d t n).1.set (off+n)<|data.getD n 0,(Du off data d t n).2.set (off+n) true)
def IQ(l:qq)(n:Nat):qq:=l++List.replicate (n-l.length) 0
def GP(l:List Bool)(n:Nat):List Bool:=l++List.replicate (n-l.length) false
def SI.head(x:SI)(f:DF):SI:={ x with high:=max x.high (D5 f),ended:=x.ended||f.fin,end_:=if f.fin then D5 f else x.end_ }
def SI.put(x:SI)(f:DF):SI:={ x.head f with data:=(Du f.off f.data (IQ x.data (max x.high (D5 f))) (GP x.there (max x.high (D5 f))) f.data.length).1,there:=(Du f.off f.data (IQ x.data (max x.high (D5 f))) (GP x.there (max x.high (D5 f))) f.data.length).2 }
def SS.over(s:SS)(k:Nat)(f:DF):Bool:=decide ((s.ins k).high<D5 f)&&(decide (s.kS k<D5 f)||decide (s.kE<D5 f-(s.ins k).high+Hi s.ins 8))
def SS.bytes(s:SS)(f:DF):Nat×SS :=
 if (s.ins f.stream.toNat).lM f then(10,s)else if s.over f.stream.toNat f then(9,s)else(0,{ s with ins:=zh s.ins f.stream.toNat ((s.ins f.stream.toNat).put f) })
section
variable {tag:qr} {i b:Nat} {s s':SS} {V V':SV} {W W1:rT}
variable{k:Nat}
theorem fL(h:zj tag i b s V W)(ht:zL tag W)(hi:0<i)(f:DF)(rv:rU)(m:k<8)(hs:f.stream=(k:Int))(cj:f.off<=4611686018427387903)(ck:f.data.length<=1099511627776)
  (bc:∀j,j<8->(s.ins j).high<=1099511627776) (aP:(s.ins k).there.length=(s.ins k).data.length) (be:s.kS k<=1099511627776) (aq:(s.ins k).data.length<=(s.ins k).high) :
  rH 129 #[zq b,.agg (ze f rv)] W (Ez tag i b W (.int .i64 ((s.bytes f).1:Int)) (s.bytes f).2):=by
 have m0:=(C9.refl DA W).alloc<|.cells (ze f rv) 48;have HT:=zb ht;have M0:=zb m0;obtain⟨W0,ar⟩:=nm<|W.alloc<|.cells (ze f rv) 48;have oF:=AD ar;rw[ar]at m0 M0;have h0:=h.kD m0;have H0:=zb h0;obtain⟨x,hx⟩:=nm<|s.ins k;have HX:=zb hx;obtain⟨g,cap,h1,h2,bf,hp⟩:=h0.qM;have cp:=hp k m;obtain⟨_,F1,F2,_,_,F5,_,_,F8,_⟩:=Ge oF;obtain⟨E,hE⟩:=nm<|D5 f;have HE:=zb hE;have cl:f.off+f.data.length=E:=by rw[<-hE];rfl
 have c2:W0 (V.ib k,2)=some (.int .u64 x.high):=by rw[<-hx];exact h0.ic m rfl
 have c3:W0 (V.ib k,3)=some (.int .u64 x.end_):=by rw[<-hx];exact h0.ic m rfl
 have c4:W0 (V.ib k,4)=some (.bool x.ended):=by rw[<-hx];exact h0.ic m rfl
 have bL:=zb ar;have OF:=zb oF;have au:=zb bc;have HP:=zb hp;obtain⟨r,hr⟩:=nm<|s.bytes f;rw[hr];obtain⟨bd,aQ⟩:=nm<|x.lM f;have HR:AA (r=if bd then(10,s)else if s.over k f then(9,s)else(0,{ s with ins:=zh s.ins k (x.put f) })):=by
  show _=_;rw[<-hr,<-aQ];unfold SS.bytes;rw[hs,Am,hx]
 rw[hs]at F1;unfold maxLen at h2;unfold zq;obtain⟨O,aR⟩:=nm<|V.ib k;rw[aR]at cp c2 c3 c4;have ak:=zb aR;have aS:=zb aQ;have cm:=zM f.data;have w1:IntKind.u64.wrap (f.data.length:Int)=(f.data.length:Int):=by rw[IntKind.wrap_u64];omega
 have w2:IntKind.u64.wrap ((f.off:Int)+f.data.length)=(E:Int):=by rw[IntKind.wrap_u64];omega
 rw[hx]at aP aq;have bM:=zb aP;clear h ht m0 h0 hx hp oF hr aR ar aQ hE bc aP;go_enter func129,ntmps129;go_upto_region 1 with fail;rw[bL.z];go_quiet (fail);obtain⟨WA,aT⟩:=nm<|W0.drewN nq;have h:C9 DA W0 WA:=by rw[<-aT];exact rS.drewN _
 rw[aT];have MA:=zb h;have F1:=h.cell (a:=U W.heap.size 1) id F1;have F2:=h.cell (a:=U W.heap.size 2) id F2;have F5:=h.cell (a:=U W.heap.size 5) id F5;have F8:=h.cell (a:=U W.heap.size 8) id F8;have c2:=h.cell (a:=U O 2) id c2;have c3:=h.cell (a:=U O 3) id c3;have c4:=h.cell (a:=U O 4) id c4;clear aT h bf cp;go_upto_region 3 with fail
 go_cut [61] (λh wx=>h=.bool bd/\wx=WA)
 case first=>as_aux_lemma =>
  obtain⟨en,h⟩:=nm x.ended;obtain⟨fi,ab⟩:=nm f.fin;obtain⟨xe,aU⟩:=nm x.end_;obtain⟨xh,ac⟩:=nm x.high;have HB:AA (bd=((en&&(decide (xe<E)||(fi&&E != xe)))||(fi&&decide (E<xh)))):=by
   show _=_;rw[<-aS.z];unfold SI.lM;rw[HE.z,h,ab,aU,ac]
  rw[h]at c4;rw[ab]at F5;rw[aU]at c3;rw[ac]at c2;obtain⟨ne,aV⟩:=nm<|(E != xe);have cn:((E:Int) != (xe:Int))=ne:=by rw[Pb,aV]
  rw[aV]at HB;clear h ab aU ac HR H0 HX au HP aS aq aV;cases en<;>cases fi<;>cases ne;all_goals
   go_wp2_with fail;all_goals
    go_meet;refine⟨?_,rfl⟩;rw[HB.z];simp[*];try omega
 case rest =>
 obtain⟨rfl,hw⟩:=hcut;replace hw:=hw.symm;subst hw;have aW:=zb<|(H0.z.left (HT.z.mod M0.z) MA.z).lJ HT.z hi M0.z;cases bd;rotate_left
 .have e:r=(10,s):=HR.z;subst e;go_wp2;go_ret;exact⟨rfl,aW.z⟩
 obtain⟨ov,h⟩:=nm<|s.over k f;have HR:AA (r=if ov then(9,s)else(0,{ s with ins:=zh s.ins k (x.put f) })):=by
  show _=_;rw[HR.z,h];rfl
 have ai:=zb h;have av:=zb<|H0.z.kD MA.z;obtain⟨aw,aX⟩:=nm<|s.kS k;obtain⟨xh,ac⟩:=nm x.high;have aj:=zb aX;have K:=zb ac;rw[ac]at c2 aq;rw[aX]at be;clear h aX ac;go_upto_if 67 with fail;obtain⟨u,aY⟩:=nm<|max xh E;have R:=zb aY;clear aY
 go_cut [] (λwx=>AA (zj tag i b { s with ins:=zh s.ins k { x with high:=u } } V wx)/\AA (C9 (λg=>(tag g).1=i) WA wx)/\AA (ov=false))
 case first=>as_aux_lemma =>
  have bg:zj tag i b { s with ins:=zh s.ins k x } V WA:=by rw[<-HX.z,Fx];exact av.z
  by_cases aZ:xh<E
  .have d1:(xh:Int)<E:=I;obtain⟨gg,gc,_,g1,g2,bN,_,h⟩:=av.z.oB (r:=9) (j:=12) rfl lc rfl;have cg:WA (gg,k)=some (.int .u64 aw):=by
    rw[<-aj.z];exact(h k _<|by unfold ES;rw[Ad,Ad,List.getElem?_range m];rfl).1
   unfold maxLen at g2;clear h;by_cases hG:aw<E
   .have d2:decide ((aw:Int)<(E:Int))=true:=Ah I;have eo:ov=true:=by
     rw[<-ai.z];unfold SS.over;rw[HX.z,K.z,HE.z,aj.z];simp[aZ,hG]
    have er:r=(9,s):=by rw[HR.z,eo];rfl
    subst er;go_wp2;go_quiet (fail);go_wp2;go_ret;exact⟨rfl,aW.z.lR<|rS.drewN _⟩
   have d2:decide ((aw:Int)<(E:Int))=false:=A8 I;go_wp2;go_quiet (fail);obtain⟨WB,a0⟩:=nm<|WA.drewN nq;have mB:C9 DA WA WB:=by rw[<-a0];exact rS.drewN _
   rw[a0];have MB:=zb mB;have c2:=mB.cell (a:=U O 2) id c2;have al:=av.z.kD mB;obtain⟨gi,h,i1,i2,bf,bh⟩:=al.qM;have h:=al.hd (j:=13) rfl;have h:∀j,j<8->WB ⟨gi,j,none⟩=some (.pointer<|some ⟨V.ib j,0,none⟩)/\WB ⟨V.ib j,2,none⟩=some (.int .u64 ((s.ins j).high:Int)):=λj hj=>⟨bh j hj,al.ic hj rfl⟩
   have HC:=zb h;have bi:=zb al;have w3:IntKind.u64.wrap ((E:Int)-xh)=((E-xh:Nat):Int):=by rw[IntKind.wrap_u64];omega
   unfold maxLen at i2;clear h bh al a0 mB d2 bN cg c3 c4 F1 F5;have bj:∀n,n<=8->Hi s.ins n<=n*1099511627776:=by
    intro n
    induction n with
    | zero=>intro _;exact AI _
    | succ n ih =>
     intro hn;have a:=ih I;have c:=au.z n I;unfold Hi;omega
   have bO:=zb bj;have h:E<=4611687117939015679:=I;clear bj;go_wp2_with fail
   go_loopw [7,8] (λtv jv wr=>∃j:Nat,j<=8/\jv=.int .i64 j/\tv=.int .u64 ((E-xh+Hi s.ins j:Nat):Int)/\wr=WB) (λ_ jv _=>8-(intOf jv).toNat)
   case atStart=>exact⟨0,I,rfl,by simp[Hi],rfl⟩
   case round =>
    obtain⟨j,hj,rfl,rfl,rfl⟩:=hrel;by_cases X:j<8
    .obtain⟨h,p2⟩:=HC.z j X;have hh:=au.z j X;have h:=bO.z j hj;obtain⟨z,hz⟩:=nm<|Hi s.ins j;obtain⟨y,hy⟩:=nm<|(s.ins j).high;have bP:AA (Hi s.ins (j+1)=z+y):=by show _=_;rw[<-hz,<-hy];rfl
     rw[hz]at h ⊢;rw[hy]at p2 hh;have h:IntKind.u64.wrap (((E-xh+z:Nat):Int)+y)=((E-xh+(z+y):Nat):Int):=by rw[IntKind.wrap_u64];omega
     clear hz hy;go_wp2;go_roundw
     case rel=>exact⟨j+1,I,by go_num,by rw[bP.z];congr 1;omega,trivial⟩
     simp[intOf];omega
    have e8:j=8:=I;subst e8;obtain⟨T,h⟩:=nm<|E-xh+Hi s.ins 8;have bk:=zb h;rw[h];clear h;by_cases a1:s.kE<T
    .have dT:(s.kE:Int)<T:=I;have eo:ov=true:=by
      rw[<-ai.z];unfold SS.over;rw[HX.z,K.z,HE.z,aj.z,bk.z];simp[aZ,a1]
     have er:r=(9,s):=by rw[HR.z,eo];rfl
     subst er;go_wp2;go_ret;exact⟨rfl,aW.z.lR MB.z⟩
    have dT:¬(s.kE:Int)<T:=I;have eo:ov=false:=by
     rw[<-ai.z];unfold SS.over;rw[HX.z,K.z,HE.z,aj.z,bk.z];simp[a1,hG]
    have h:u=E:=qm R.z;have f2:=bi.z.oE m 2;have q1:=(bg.kD MB.z).l8 (j:=2) m (v:=.int .u64 E) (x':={ x with high:=E }) rfl rfl rfl;have q2:=(MB.z.mono (S':=λg=>(tag g).1=i) rQ).trans<|show C9 (λg=>(tag g).1=i) wr _ from bi.z.mi m 2<|.int .u64 E;rw[ak.z]at f2 q1 q2;have Q1:=zb q1;have Q2:=zb q2;have bQ:=zb h;clear q1 q2 h a1 hG;go_wp2;go_meet;exact⟨by rw[bQ.z];exact Q1,Q2,zb eo⟩
  have d1:¬(xh:Int)<E:=I;have eo:ov=false:=by
   rw[<-ai.z];unfold SS.over;rw[HX.z,K.z,HE.z];simp[aZ]
  have h:u=xh:=qm R.z;have ex:({ x with high:=u }:SI)=x:=by rw[h,<-K.z]
  have bR:=zb ex;clear h ex;go_wp2;go_meet;exact⟨by rw[bR.z];exact zb bg,zb rS,zb eo⟩
 case rest =>
 obtain⟨HA,HM,am⟩:=hcut;obtain⟨WC,bS⟩:=nn wc;subst bS;have M:∀{j:Nat} {v:rU},WA (W,j)=some v->WC (W,j)=some v:=λhc=>HM.z.cell (a:=⟨W.heap.size,_,none⟩) (λy=>by
  have y:(tag W.heap.size).1=i:=y;rw[HT.z _ (AI _)]at y;simp at y;omega) hc
 have F1:=M F1;have F2:=M F2;have F5:=M F5;have F8:=M F8;have bT:AA (r=(0,{ s with ins:=zh s.ins k (x.put f) })):=by
  show _=_;rw[HR.z,am.z];rfl
 have c3:=zj.nI HA.z m (j:=3) (v:=.int .u64 x.end_) rfl;have c4:=zj.nI HA.z m (j:=4) (v:=.bool x.ended) rfl;have f3:=HA.z.oE m 3;have f4:=HA.z.oE m 4;rw[ak.z]at c3 c4 f3 f4;have aY:u<=1099511627776:=by
  have h1:=au.z k m;rw[HX.z,K.z]at h1;have h:=R.z;by_cases q:xh<E
  .have h2:=ai.z;rw[am.z]at h2;unfold SS.over at h2;rw[HX.z,K.z,HE.z,aj.z]at h2;simp[q]at h2;omega
  omega
 clear M c2 HR ai am av aj be aS HP;obtain⟨D,h⟩:=nm<|x.head f;have an:=zb h;clear h;obtain⟨fi,ab⟩:=nm f.fin;rw[ab]at F5;have h:=zb ab;clear ab;go_upto_if 111 with fail
 go_cut [] (λwx=>AA (zj tag i b { s with ins:=zh s.ins k D } V wx)/\AA (C9 (λg=>(tag g).1=i) WC wx))
 case first=>as_aux_lemma =>
  have ag:D={ x with high:=u,ended:=x.ended||fi,end_:=if fi then E else x.end_ }:=by
   rw[<-an.z];unfold SI.head;rw[HE.z,h.z,K.z,R.z]
  cases fi
  .have e:D={ x with high:=u }:=by rw[ag];simp
   subst e;clear ag;go_wp2;go_meet;exact⟨HA,zb rS⟩
  have e:D={ x with high:=u,ended:=true,end_:=E }:=by rw[ag];simp
  have q1:=HA.z.l8 (j:=4) m (v:=.bool true) (x':={ x with high:=u,ended:=true }) rfl rfl rfl;have n1:=HA.z.mi m 4<|.bool true;have q2:=q1.l8 (j:=3) m (v:=.int .u64 E) (x':={ x with high:=u,ended:=true,end_:=E }) rfl rfl rfl;have n2:=n1.trans<|show C9 (λg=>(tag g).1=i) _ _ from q1.mi m 3<|.int .u64 E;rw[<-e,ak.z]at q2;rw[ak.z]at n2;have Q2:=zb q2;have h:=zb n2;clear q1 n1 q2 n2 e ag;go_wp2;go_meet;exact⟨Q2,h⟩
 case rest =>
 obtain⟨HD,ax⟩:=hcut;obtain⟨WD,bU⟩:=nn wc;subst bU;have M:∀{j:Nat} {v:rU},WC (W,j)=some v->WD (W,j)=some v:=λhc=>ax.z.cell (a:=⟨W.heap.size,_,none⟩) (λy=>by
  have y:(tag W.heap.size).1=i:=y;rw[HT.z _ (AI _)]at y;simp at y;omega) hc
 have F2:=M F2;have F8:=M F8;have bl:WD.heap[W.heap.size]?=some (.cells (ze f rv) 48 (0,0)):=by
  refine((MA.z.mono (S':=λg=>(tag g).1=i) rQ).trans<|HM.z.trans ax.z).obj (λy=>?_) OF.z;have y:=y;rw[HT.z _ (AI _)]at y;simp at y;omega
 have bm:=zb bl;obtain⟨D0,e⟩:=nm x.data;obtain⟨T0,h⟩:=nm x.there;have aF:D.data=D0:=by rw[<-an.z,<-e];rfl
 have aG:D.there=T0:=by rw[<-an.z,<-h];rfl
 have aH:D.high=u:=by rw[<-an.z,<-R.z,<-K.z,<-HE.z];rfl
 have bn:T0.length=D0.length:=by rw[<-e,<-h];exact bM.z
 obtain⟨L,hL⟩:=nm D0.length;rw[e,hL]at aq;have co:L<=u:=qm R.z;have bV:=zb<|((HT.z.mod M0.z).mod MA.z).mod<|HM.z.trans ax.z;have bW:=zb (show zj tag i b { s with ins:=zh s.ins k { D with data:=D0++List.replicate 0 0,there:=T0++List.replicate 0 false } } V WD by
  rw[<-aF,<-aG];simpa using HD.z)
 have ay:=zb hL;have bo:=zb bn;have bp:=zb aH;have bX:=zb e;have bY:=zb h;clear M bl e h aF aG aH bn hL c3 c4 f3 f4;go_wp2_with fail
 go_loopw [] (λwr=>∃(n:Nat) (tag':qr) (V':SV),L+n<=u/\V'.ib k=O/\AA (zj tag' i b { s with ins:=zh s.ins k { D with data:=D0++List.replicate n 0,there:=T0++List.replicate n false } } V' wr)/\AA (DK i tag tag' WD wr)/\AA (C9 (λg=>(tag g).1=i) WD wr)) (λwr=>u-(match wr O with|some (.slice _ n _)=>n|_=>0))
 case atStart=>exact⟨0,tag,V,I,ak.z,bW,zb<|DK.same bV.z<|C9.refl DA WD,zb rS⟩
 case round =>
  obtain⟨n,A,V1,hn,e,HS,Y,aA⟩:=hrel;obtain⟨B,h⟩:=nm<|D0++List.replicate n 0;obtain⟨C,M⟩:=nm<|T0++List.replicate n false;have Z:B.length=L+n:=by rw[<-h];simp[ay.z]
  have aa:C.length=L+n:=by rw[<-M];simp[bo.z,ay.z]
  rw[h,M]at HS;have bq:=zb h;have bs:=zb M;have bt:OB wr (V1.dv k) B:=by have:=(HS.z.sd m).1;simpa only[zf]using this
  obtain⟨da,dc,aB,a2,aC,_⟩:=zi bt;clear bt;rw[Z]at aB a2;have d0:wr O=some (.slice da (L+n) dc):=by rw[<-e,<-aB];exact zj.nI HS.z m (j:=0) rfl
  have bu:=d0;have d2:wr (O,2)=some (.int .u64 u):=by rw[<-e,<-bp.z];exact zj.nI HS.z m (j:=2) rfl
  have w5:=wu ((L:Int)+n) I;unfold maxLen at aC;have ao:=zb aB;have G:=zb e;clear h M aB e;by_cases X:L+n<u
  .have e1:decide ((L:Int)+n<(u:Int))=true:=Ah I;go_wp2;go_quiet (fail);obtain⟨WE,aD⟩:=nm<|wr.drewN nq;have mE:C9 DA wr WE:=by rw[<-aD];exact rS.drewN _
   rw[aD];have d0:=mE.cell (a:=O) id d0;have bw:=HS.z.kD mE;obtain⟨_,W3,ah,L3,f0,⟨e,bx⟩,va,vc,rfl⟩:=zj.pE (x:={ D with data:=B,there:=C }) bw (Y.z.z.mod mE) hi m (by show B.length<=_;omega);obtain⟨bz,V2,a3,bZ,S2,E2,M2⟩:=L3;obtain⟨WF,ad⟩:=nm<|W3.setCell (U (V1.ib k) 0)<|.slice va (B.length+1) vc;have e:WF O=some (.slice va (L+n+1) vc):=by
    rw[<-ad,<-G.z,<-Z];exact World.cell?_setCell_same _ _ _ bx
   rw[ad]at S2 E2 M2;obtain⟨_,W4,N,L4,f1,⟨e,b0⟩,b3,b4,rfl⟩:=zj.oR (x:={ D with data:=B++[0],there:=C }) S2 E2.z hi m (by show C.length<=_;omega);obtain⟨aI,V3,a4,b5,S3,E3,M3⟩:=L4;simp only[aa]at E3 M3;rw[Z,ao.z]at ah;obtain⟨e,tc,aE,bA,bB,_⟩:=zi (zj.st S2 m).1;have aJ:(({ s with ins:=zh s.ins k { D with data:=B++[0],there:=C } }:SS).ins k).there.length=L+n:=by
    show(zh s.ins k _ k).there.length=_;rw[zf];exact aa
   rw[aJ]at aE bA;rw[aa,aE]at N;have h:WF (O,1)=some (.slice e (L+n) tc):=by
    rw[<-aE,<-G.z,<-a3];exact zj.nI S2 m (j:=1) rfl
   have e:V2.ib k=O:=by rw[a3,G.z]
   rw[e]at S3 E3 M3 f1 b0;rw[G.z]at f0 bx ad;rw[Z]at ad;have b6:WF.heap.size=W3.heap.size:=by rw[<-ad];simp
   have a5:WE.heap.size=wr.heap.size:=by rw[<-aD];rfl
   have a6:AA (zj aI i b { s with ins:=zh s.ins k { D with data:=D0++List.replicate (n+1) 0,there:=T0++List.replicate (n+1) false } } V3<|W4.setCell (U O 1)<|.slice b3 (C.length+1) b4):=by
    rw[Ca,Ca,<-List.append_assoc,<-List.append_assoc,bq.z,bs.z];exact S3
   obtain⟨h,M,fv,_⟩:=zi (show OB _ (V3.dv k) (B++[0])from by have:=(zj.sd S3 m).1;simpa only[zf]using this);have a7:=zj.nI S3 m (j:=0) (v:=V3.dv k) rfl;rw[show V3.ib k=O by rw[a4,e],fv,AF,Z,aa]at a7;rw[aa]at a6;have bC:DK i A bz wr WF:=⟨λg hg=>E2.lH g<|by rw[a5];exact hg,λg hg=>E2.new g<|by rw[a5];exact hg,E2.z⟩;have bD:=(mE.mono rQ).trans M2;have Z:=Y.z.trans bC aA.z.size;have a8:=I6 Y.z aA.z bD;have b7:=zb<|Z.trans E3 a8.size;have b8:=zb<|I6 Z a8 M3;obtain⟨M,h⟩:=nm<|WE.alloc<|.cells #[.int .u8 0] 5;obtain⟨cq,M⟩:=nm<|WF.alloc<|.cells #[false] 4;rw[h]at ah;rw[M]at N;have EG:=zb a7;have bE:=zb (show V3.ib k=O by rw[a4,e]);have bF:=zb h;have b9:=zb ad;have bG:=zb M;have ca:=zb a6;clear Z a8 bC bD E2 E3 M2 M3 S2 S3 a6 bw h M ad a7 fv aE mE aD aJ a3 bZ a4 b5 e a5 b6;go_upto_region 21 with(rw[bF.z];at_builtin;refine zm rfl _ _ _ _ rfl _ _ _ rfl rfl ah ?_;clear ah);rw[b9.z];go_wp2_with (rw[bG.z];at_builtin;refine zm rfl _ _ _ _ rfl _ _ _ rfl rfl N ?_;clear N);go_roundw
   case rel=>exact⟨n+1,aI,V3,I,bE.z,ca,b7,b8⟩
   case measure =>
    rw[EG.z,bu];show u-(L+n+1)<u-(L+n);omega
  have e1:decide ((L:Int)+n<(u:Int))=false:=A8 I;have cb:L+n=u:=I;have aK:B=IQ D0 u:=by
   rw[<-bq.z];unfold IQ;rw[ay.z,(I:u-L=n)]
  have aL:C=GP T0 u:=by
   rw[<-bs.z];unfold GP;rw[bo.z,ay.z,(I:u-L=n)]
  have e:E<=u:=qm R.z;have aM:∀j,(Du f.off f.data B C j).1.length=u/\(Du f.off f.data B C j).2.length=u:=by
   intro j
   induction j with
   | zero=>exact⟨by show B.length=_;omega,by show C.length=_;omega⟩
   | succ j ih =>
    unfold Du;split
    .exact ih
    exact⟨by rw[BL];exact ih.1,by rw[BL];exact ih.2⟩
  have aN:=zb aM;have bH:=zb aK;have bI:=zb aL;have n:=zb<|show zj A i b { s with ins:=zh s.ins k { D with data:=(Du f.off f.data B C 0).1,there:=(Du f.off f.data B C 0).2 } } V1 wr from HS.z;clear aM aK aL bu ao cb;go_wp2;go_quiet (fail);obtain⟨L,h⟩:=nm<|wr.drewN nq;have e:C9 DA wr L:=by rw[<-h];exact rS.drewN _
  rw[h];have MG:=zb e;have E:=zb<|n.z.kD e;have cc:=zb (((aA.z.trans<|by exact⟨e.os,e.tape,e.output,e.size,λa b c=>e.block a b rP⟩).obj (S:=λg=>(tag g).1=i) (λy=>by
   have y:=y;rw[HT.z _ (AI _)]at y;simp at y;omega) bm.z))
  clear h e d0 d2 a2 aC w5 e1 n;have a:A W.heap.size=(0,0):=by
   have X:=(AJ.1 bm.z).1;rw[Y.z.lH _ X,HT.z _ (AI _)]
  have cd:=zb a;clear a;go_wp2_with fail
  go_loopw [9] (λjv w2=>∃j:Nat,j<=f.data.length/\jv=.int .i64 j/\AA (zj A i b { s with ins:=zh s.ins k { D with data:=(Du f.off f.data B C j).1,there:=(Du f.off f.data B C j).2 } } V1 w2)/\AA (C9 (λg=>(A g).1=i) L w2)) (λjv _=>f.data.length-(intOf jv).toNat)
  case atStart=>exact⟨0,AK _,rfl,E,zb rS⟩
  case round =>
   obtain⟨j,hj,rfl,HQ,ap⟩:=hrel;obtain⟨WQ,ce⟩:=nn wr;subst ce;have oF:=ap.z.obj (λy=>by
    have y:=y;rw[cd.z]at y;simp at y;omega) cc.z
   obtain⟨_,_,F2,_,_,_,_,_,F8,_⟩:=Ge oF;obtain⟨dj,ae⟩:=nm<|(Du f.off f.data B C j).1;obtain⟨tj,af⟩:=nm<|(Du f.off f.data B C j).2;have a:dj.length=u:=by rw[<-ae];exact(aN.z j).1
   have e:tj.length=u:=by rw[<-af];exact(aN.z j).2
   rw[ae,af]at HQ;by_cases X:j<f.data.length
   .have e1:decide ((j:Int)<(f.data.length:Int))=true:=Ah I;obtain⟨p,hp⟩:=nm<|f.off+j;have h:=zb hp;have bJ:p<u:=I;have h:IntKind.u64.wrap (j:Int)=(j:Int):=by rw[IntKind.wrap_u64];omega
    have h:IntKind.u64.wrap ((f.off:Int)+j)=(p:Int):=by rw[IntKind.wrap_u64];omega
    obtain⟨od,_⟩:=zj.sd HQ.z m;obtain⟨ot,_⟩:=zj.st HQ.z m;simp only[zf]at od ot;unfold OB at od;rw[a]at od;rw[e]at ot;obtain⟨dg,dc,z,a2,aC⟩:=JA od I;obtain⟨tg,tc,tv,bA,bB⟩:=JA ot I;rw[z]at od;rw[tv]at ot;obtain⟨db,h⟩:=nm<|tj.getD p false;have E:=Gd (i:=p) (v:=.bool db) ot (by
     rw[<-h,AQ];show(List.map _ tj)[p]?=_;rw[Ad,AG I];rfl)
    have c0:WQ O=some (.slice dg u dc):=by rw[<-G.z,<-z];exact zj.nI HQ.z m (j:=0) rfl
    have c1:WQ (O,1)=some (.slice tg u tc):=by rw[<-G.z,<-tv];exact zj.nI HQ.z m (j:=1) rfl
    have cf:=E.1;have n:Du f.off f.data B C (j+1)=if db then(dj,tj)else(dj.set p<|f.data.getD j 0,tj.set p true):=by
     show(if (Du f.off f.data B C j).2.getD (f.off+j) false then Du f.off f.data B C j else((Du f.off f.data B C j).1.set (f.off+j)<|f.data.getD j 0,(Du f.off f.data B C j).2.set (f.off+j) true))=_;rw[hp,ae,af,h,<-ae,<-af]
    have bK:=zb n;have ao:=zb z;have a9:=zb tv;have ba:=zb a;have bb:=zb e;unfold maxLen at aC bB;clear n z tv hp ae af h od ot E a e oF;go_upto_region 25 with fail;go_upto_if 167 with fail;cases db;rotate_left
    .have n:AA (AA<|zj A i b { s with ins:=zh s.ins k { D with data:=(Du f.off f.data B C<|j+1).1,there:=(Du f.off f.data B C<|j+1).2 } } V1 WQ):=by
      show AA _;rw[bK.z];exact HQ
     go_wp2;go_roundw
     case rel=>exact⟨j+1,I,by go_num,n.z,ap⟩
     simp[intOf];omega
    obtain⟨c,hc⟩:=nm<|f.data.getD j 0;have a:j<(zy f.data).size:=by rw[zM];exact X
    have e:(zy f.data)[j]'a=c:=by
     rw[<-hc,AQ,AG X];rfl
    have HC:=zb hc;clear hc;go_upto_region 27 with fail
    go_still_tail 10,kw
    change wpList _ _ _ _ _ WQ.drew;obtain⟨L,a⟩:=nm WQ.drew;have z:C9 DA WQ L:=by rw[<-a];exact rS.drew
    rw[a];have e:=HQ.z.kD z;obtain⟨q1,n1⟩:=zj.pA (x:={ D with data:=dj,there:=tj }) (g:=dg) (cap:=dc) (j:=p) e m (by show V1.dv k=.slice _ dj.length _;rw[ba.z];exact ao.z) c;obtain⟨od,_⟩:=zj.sd e m;simp only[zf]at od;unfold OB at od;rw[ba.z,ao.z]at od;obtain⟨E,h⟩:=Gd (i:=p) (v:=.int .u8 ((dj.getD p 0).toNat:Int)) od (by
     rw[AQ];show(List.map _ dj)[p]?=_;rw[Ad,AG (by rw[ba.z];exact bJ)];rfl)
    obtain⟨WS,h⟩:=nm<|L.setCell (dg,p)<|.int .u8 (c.toNat:Int);rw[h]at q1 n1;have L:WS (O,1)=some (.slice tg u tc):=by rw[<-G.z,<-a9.z];exact zj.nI q1 m (j:=1) rfl
    obtain⟨q2,n2⟩:=zj.oI (x:={ D with data:=dj.set p c,there:=tj }) (g:=tg) (cap:=tc) (j:=p) q1 m (by show V1.tv k=.slice _ tj.length _;rw[bb.z];exact a9.z);obtain⟨ot,_⟩:=zj.st q1 m;simp only[zf]at ot;rw[bb.z,a9.z]at ot;obtain⟨m,u⟩:=Gd (i:=p) (v:=.bool<|tj.getD p false) ot (by
     rw[AQ];show(List.map _ tj)[p]?=_;rw[Ad,AG (by rw[bb.z];exact bJ)];rfl)
    have n:AA (AA<|zj A i b { s with ins:=zh s.ins k { D with data:=(Du f.off f.data B C<|j+1).1,there:=(Du f.off f.data B C<|j+1).2 } } V1<|WS.setCell (tg,p)<|.bool true):=by
     show AA _;rw[bK.z,HC.z];exact zb q2
    have B:=zb<|zb<|(ap.z.trans<|z.mono rQ).trans<|n1.trans n2;have u:=zb h;clear q1 q2 n1 n2 e z a od ot c0 c1 cf h;obtain⟨e,a⟩:=nm<|dj.getD p 0;obtain⟨h,e⟩:=nm<|tj.getD p false;rw[a]at E;rw[e]at m;clear a e;go_upto_region 28 with fail;rw[u.z];go_wp2;go_roundw
    case rel=>exact⟨j+1,I,by go_num,n.z,B.z⟩
    simp[intOf];omega
   have e1:decide ((j:Int)<(f.data.length:Int))=false:=A8 I;have e2:j=f.data.length:=I;have aO:x.put f={ D with data:=dj,there:=tj }:=by
    rw[<-ae,<-af,e2];unfold SI.put;rw[an.z,K.z,HE.z,R.z,bX.z,bY.z,<-bH.z,<-bI.z]
   have ch:r=(0,{ s with ins:=zh s.ins k { D with data:=dj,there:=tj } }):=by rw[bT.z,aO]
   subst ch;have a:Db tag i b W { s with ins:=zh s.ins k { D with data:=dj,there:=tj } } WQ:=by
    have h:=I6 Y.z aA.z<|(MG.z.mono rQ).trans ap.z;have e1:DK i tag A WD WQ:=⟨Y.z.lH,Y.z.new,λg hg=>Y.z.z g<|AR (AR MG.z.size ap.z.size) hg⟩;have e:=(MA.z.mono rQ).trans<|HM.z.trans ax.z;have q:Db tag i b W0 { s with ins:=zh s.ins k { D with data:=dj,there:=tj } } WQ:=Dx.trans (DK.same (HT.z.mod M0.z) e) e ⟨A,_,⟨V1,rfl⟩,HQ.z,e1,h⟩;exact q.lJ HT.z hi M0.z
   have e:=zb a;clear a aO e2 ae af oF;go_wp2;go_ret;exact⟨rfl,e.z⟩
end
def DR(f:DF):Nat:=if f.kind=7 then 1 else if f.kind=4 then 2 else 0
def UJ(f:DF)(h:rU)(W:rT):rH 88 #[.agg (ze f h)] W λe W'=>e=.returned (.int .i64 (DR f:Int))/\C9 DA W W':=by
 have z:=(C9.refl DA W).alloc<|.cells (ze f h) 48;have y:=zb z;obtain⟨W0,a⟩:=nm<|W.alloc<|.cells (ze f h) 48;have B:=AD a;rw[a]at z y;obtain⟨A,_⟩:=Ge B;have g:=zb a;obtain⟨n,h⟩:=nm f.kind;rw[h]at A;obtain⟨c,A⟩:=nm<|(DR f:Int);have q:AA (c=if n=7 then 1 else if n=4 then 2 else 0):=by
  show _=_;rw[<-A];unfold DR;rw[h];split<;>(try split)<;>rfl
 rw[A];clear a B z h A;by_cases m:n=7
 .have e:c=1:=by rw[q.z,AL m]
  subst e;subst m;clear q;go_enter func88,ntmps88;go_upto_region 1 with fail;rw[g.z];go_wp2;go_ret;exact⟨rfl,y.z⟩
 have C:(n==7)=false:=qp m;by_cases u:n=4
 .have e:c=2:=by rw[q.z,AH m,AL u]
  subst e;subst u;clear q m C;go_enter func88,ntmps88;go_upto_region 1 with fail;rw[g.z];go_wp2;go_ret;exact⟨rfl,y.z⟩
 have a:(n==4)=false:=qp u;have e:c=0:=by rw[q.z,AH m,AH u]
 subst e;clear q m u;go_enter func88,ntmps88;go_upto_region 1 with fail;rw[g.z];go_wp2;go_ret;exact⟨rfl,y.z⟩
def SS.message(s:SS)(f:DF):SS :=
 if s.some_=true/\32<=s.most/\f.id<=s.most-32 then s else
 if f.id∈s.seen then s else
 if f.dl<s.now then s else
 {s with seen:=s.seen++[f.id],most:=if s.some_=false\/s.most<f.id then f.id else s.most,some_:=true,kG:=s.kG++[(f.id,f.data)] }
def jJ(l:List (Nat×qq))(x:Nat×qq):zZ (l++[x])=zZ l++[.int .u64 x.1,.string (zy x.2)]:=by simp[zZ]
def Xy:(prog.info? 134).map (λi=>(i.zero,i.size,i.bytes))=some (some (.agg #[.int .u64 0,.string ⟨#[]⟩]),2,24):=kw
section
variable {tag:qr} {i b:Nat} {s s':SS} {V V':SV} {W W1:rT}
variable{e j n r size t:Nat}{v:rU}{xs:qt}
def zj.oZ(h:zj tag i b s V W)(B:zL tag W)(hi:0<i){bytes:Nat}{z:rU}(D:2<=r)(y:r<16)(E:prog.underlying t=some (.slice e))(A:(prog.info? e).map (λi=>(i.zero,i.size,i.bytes))=some (some z,size,bytes))(G:z.cells.size=size)(K:0<size)(z:bytes<=104)
  (q:DV b s V r=.row e size v n xs) (cs:qt) (L:cs.length=size) (M:∀u∈cs,u.oneCell'=true) (N:n<=1099511627776) (s':SS) (V':rU->SV)
  (O:∀m,DV b s' (V' m) r=.row e size m (n+1) (xs++cs)) (R:∀m,zz s' (V' m)=(zz s V).set j m) (X:∀m q,q<16->¬(q=1\/q=r)->DV b s' (V' m) q=DV b s V q) (Y:∀m q k,q<4->k<8->D7 s' (V' m) q k=D7 s V q k) (Z:j<24) :
  ∃m W1,(∀a,(Builtin.append_ #[t,t] a #[v,.slice W 1 1]).run prog (W.alloc<|.cells cs.toArray e)=.ok m W1) /\
   Db tag i b W s' (W1.setCell (b,j) m)/\W1.frozen? ⟨b,j,none⟩=false/\(∃x,W1.cell? (b,j)=some x)/\(∃a c,m=.slice a (n+1) c)/\C9 (λg=>v.ownBlock=some g) W W1:=by
 obtain⟨a,u⟩:=h.rowOf q y;obtain⟨m,W1,hr,C,q,n1⟩:=Jl E A G K a cs L M N z;have n:=(C9.refl DA W).alloc<|.cells cs.toArray e;have z:=h.kI n;have L:=zj.mz (s':=s') (V':=V' m) (j:=j) z (B.mod n) hi D y u C (rS.grown q<|λg a=>.inl a) n1 (O m) (R m) (X m)<|Y m;have hb:W1.heap[b]?=some (.cells (zz s V).toArray 91 (0,0)):=by
  have y:(W.alloc<|.cells cs.toArray e).heap[b]?=some (.cells (zz s V).toArray 91 (0,0)):=(DM.kr (r:=1) (cs:=(zz s V).toArray) z rfl).1;refine(rS.grown q<|λg a=>.inl a).obj (S:=λg=>v.ownBlock=some g) (λx=>?_) y;have:=u b x;rw[h.tb]at this;simp at this;omega
 obtain⟨e,h,u,_⟩:=zi C;exact⟨m,W1,hr,L.lJ B hi n,zd hb,⟨_,za hb<|by rw[BF,AG (show j<(zz s V).length from Z)]⟩,⟨e,h,u⟩,(n.mono rQ).trans<|rS.grown q<|λg a=>.inl a⟩
def zj.qC(h:zj tag i b s V W)(q:zL tag W)(hi:0<i)(x:Nat)(y:s.seen.length<=1099511627776):∃e W1,(∀a,(Builtin.append_ #[86,86] a #[V.seen,.slice W 1 1]).run prog (W.alloc (.cells #[x] 34))=.ok e W1) /\
   Db tag i b W { s with seen:=s.seen++[x] } (W1.setCell (b,19) e)/\W1.frozen? ⟨b,19,none⟩=false/\(∃x,W1.cell? (b,19)=some x)/\(∃a c,e=.slice a (s.seen.length+1) c)/\C9 (λg=>V.seen.ownBlock=some g) W W1:=by
 refine h.oZ q hi (r:=12) (z:=.int .u64 0) (size:=1) (bytes:=8) lc lc underlying86 kw rfl lc lc rfl [.int .u64 x] rfl (λu m=>?_) y { s with seen:=s.seen++[x] } (λe=>{ V with seen:=e }) (λe=>?_) (λ_=>rfl) (λ_ q _ n=>?_) (λ_ _ _ _ _=>rfl) lc
 .simp at m;subst m;rfl
 .show Pc.row _ _ _ _ _=_;rw[Ol,AF];rfl
 unfold DV;split<;>first|rfl|exact absurd rO n|exact absurd (.inr rfl) n
def zj.ly(h:zj tag i b s V W)(q:zL tag W)(hi:0<i)(id:Nat)(d:qq)(y:s.kG.length<=1099511627776):∃e W1,(∀a,(Builtin.append_ #[89,89] a #[V.kG,.slice W 1 1]).run prog (W.alloc (.cells #[id,.string (zy d)] 134))=.ok e W1) /\
   Db tag i b W { s with kG:=s.kG++[(id,d)] } (W1.setCell (b,22) e)/\W1.frozen? ⟨b,22,none⟩=false/\(∃x,W1.cell? (b,22)=some x)/\(∃a c,e=.slice a (s.kG.length+1) c)/\C9 (λg=>V.kG.ownBlock=some g) W W1:=by
 refine h.oZ q hi (r:=13) lc lc underlying89 Xy rfl lc lc rfl [.int .u64 id,.string (zy d)] rfl (λu m=>?_) y { s with kG:=s.kG++[(id,d)] } (λe=>{ V with kG:=e }) (λe=>?_) (λ_=>rfl) (λ_ q _ n=>?_) (λ_ _ _ _ _=>rfl) lc
 .simp at m;rcases m with rfl|rfl<;>rfl
 .show Pc.row _ _ _ _ _=_;rw[jJ,AF];rfl
 unfold DV;split<;>first|rfl|exact absurd rO n|exact absurd (.inr rfl) n
end
def At(e:qq)(a:Nat)(l:qq):Prop:=∃pre post,e=pre++(l++post)/\pre.length=a
variable{bs:qq}{pos:Nat}
def At.left{a b:qq}(h:At bs pos (a++b)):At bs pos a:=by
 obtain⟨pre,post,rfl,rfl⟩:=h;exact⟨pre,b++post,nl,rfl⟩
def At.right{a b:qq}(h:At bs pos (a++b)):At bs (pos+a.length) b:=by
 obtain⟨pre,post,rfl,rfl⟩:=h;exact⟨pre++a,post,nl,nl⟩
def At.le{a:qq}(h:At bs pos a):pos+a.length<=bs.length:=by
 obtain⟨pre,post,rfl,rfl⟩:=h;simp
variable{l:qq}
def At.head{a:UInt8}(h:At bs pos (a::l)):bs[pos]?=some a:=by
 obtain⟨pre,post,rfl,rfl⟩:=h;simp
def At.tail{a:UInt8}(h:At bs pos (a::l)):At bs (pos+1) l:=At.right (a:=[a]) h
def At.sub(h:At bs pos l):(bs.drop pos).take l.length=l:=by
 obtain⟨pre,post,rfl,rfl⟩:=h;simp
def Jy(n:Nat):(zV n).length<=8:=by
 unfold zV;repeat' split
 all_goals simp
variable{n:Nat}
def Ft(a:n<4611686018427387904)(h:At bs pos (zV n)):DU bs pos=some (n,pos+(zV n).length):=by
 have a:=h.le;unfold zV at h a ⊢;unfold DU;split at h
 .rename_i q;rw[h.head];have e:(UInt8.ofNat n).toNat=n:=by rw[BH];omega
  have m:De (UInt8.ofNat n)=1:=by unfold De;rw[e];rw[(I:n / 64=0)]
  simp only[q,Aq]at a ⊢;simp only[Ak]at a;rw[m];rw[AL a];simp[Ei,e];omega
 rename_i q;split at h
 .rename_i u;rw[h.head];have e:(UInt8.ofNat<|n / 256+64).toNat=n / 256+64:=by rw[BH];omega
  have m:De (UInt8.ofNat<|n / 256+64)=2:=by unfold De;rw[e];rw[(I:(n / 256+64) / 64=1)]
  simp only[q,u,Aq,BE]at a ⊢;simp only[Aa,Aw]at a;rw[m];rw[AL I];have g:=h.tail.sub;simp only[Aa,Aw]at g;simp only[An]at g;rw[show(2:Nat)-1=1 from rfl,g];simp[Ei,BH];omega
 rename_i u;split at h
 .rename_i y;rw[h.head];have e:(UInt8.ofNat<|n / 16777216+128).toNat=n / 16777216+128:=by rw[BH];omega
  have m:De (UInt8.ofNat<|n / 16777216+128)=4:=by unfold De;rw[e];rw[(I:(n / 16777216+128) / 64=2)]
  simp only[q,u,y,Aq,BE]at a ⊢;simp only[Aa,Aw]at a;rw[m];rw[AL I];have g:=h.tail.sub;simp only[Aa,Aw]at g;simp only[An]at g;rw[show(4:Nat)-1=1+1+1 from rfl,g];simp[Ei,BH];omega
 rename_i y;rw[h.head];have e:(UInt8.ofNat<|n / 72057594037927936+192).toNat=n / 72057594037927936+192:=by rw[BH];omega
 have m:De (UInt8.ofNat<|n / 72057594037927936+192)=8:=by unfold De;rw[e];rw[(I:(n / 72057594037927936+192) / 64=3)]
 simp only[q,u,y,BE]at a ⊢;simp only[Aa,Aw]at a;rw[m];rw[AL I];have g:=h.tail.sub;simp only[Aa,Aw]at g;simp only[An]at g;rw[show(8:Nat)-1=1+1+1+1+1+1+1 from rfl,g];simp[Ei,BH];omega
def OO(a:n<8)(h:At bs pos (zV n)):Et bs pos=some (n,pos+(zV n).length):=by
 unfold Et;rw[Ft I h];simp[a]
def Pj(a:l.length<4611686018427387904)(h:At bs pos (zV l.length++l)):E4 bs pos=some (l,pos+(zV l.length++l).length):=by
 unfold E4;rw[Ft a h.left];have a:=h.right.le;have a:=h.right.sub;simp only[AX];rw[AL I,a];simp;omega
theorem TV(rs:zE)(k:Nat):∀m,k<=m->∃t,Di rs m=Di rs k++t/\(k<m->∃u,t=zV (DE rs k-DB rs (k+1)-2)++(zV (DB rs (k+1)-DE rs (k+1))++u)/\Di rs m=Di rs (k+1)++u)
 | 0,h=>⟨[],by simp[(I:k=0)],λx=>I⟩
 | m+1,h=>by
  by_cases e:k=m+1
  .subst e;exact⟨[],nl,λx=>I⟩
  obtain⟨t,a,g⟩:=TV rs k m I;refine⟨t++(zV (DE rs m-DB rs (m+1)-2)++zV (DB rs (m+1)-DE rs (m+1))),?_,λ_=>?_⟩
  .simp only[Di,a,BC]
  by_cases n:k=m
  .subst n;have:t=[]:=by
    have:=Ax List.length a;simp at this;exact this
   subst this;exact⟨[],nl,nl⟩
  obtain⟨u,a,e⟩:=g I;refine⟨u++(zV (DE rs m-DB rs (m+1)-2)++zV (DB rs (m+1)-DE rs (m+1))),?_,?_⟩
  .rw[a];simp only[BC]
  simp only[Di,e,BC]
def TU(rs:zE)(k:Nat)(a:k<rs.length):rs.take (k+1)=rs.take k++[(DE rs k,DB rs k)]:=by
 rw[Ai,AG a];unfold DE DB;rw[AQ,AG a];rfl
theorem Rz(rs:zE)(g:EQ rs=true):∀(d k fuel a:Nat) (l:qq),rs.length=k+1+d->d<fuel->Di rs (rs.length-1)=Di rs k++l->At bs a l ->
  Ea bs fuel (DB rs k) d (DB rs k-DE rs k) a (rs.take k)=some (rs,a+l.length)
 | 0,k,fuel+1,a,l,hl,hf,he,ha=>by
  obtain⟨h,m,n⟩:=JD g (i:=k) I;have:l=[]:=by
   have:=Ax List.length he;rw[(I:rs.length-1=k)]at this;simp at this;exact this
  subst this;unfold Ea;rw[AH I,AL rfl];have e:=TU rs k I;rw[(I:DB rs k-(DB rs k-DE rs k)=DE rs k),<-e,AS I];simp
 | d+1,k,fuel+1,a,l,hl,hf,he,ha=>by
  obtain⟨h,m,n⟩:=JD g (i:=k) I;obtain⟨h,m,e⟩:=JD g (i:=k+1) I;have e:=e I;simp only[Bz]at e;obtain⟨t,e,q⟩:=TV rs k (rs.length-1) I;have:=List.append_cancel_left<|e.symm.trans he;subst this;obtain⟨u,y,z⟩:=q I;subst y;unfold Ea;rw[AH I,AH I];rw[Ft I ha.left];simp only[AX];rw[Ft I ha.right.left];simp only[AX];have e:DB rs k-(DB rs k-DE rs k)=DE rs k:=I;rw[e,AH I];have:=Rz rs g d (k+1) fuel (a+(zV<|DE rs k-DB rs (k+1)-2).length+(zV<|DB rs (k+1)-DE rs (k+1)).length) u I I z<|ha.right.right;rw[TU rs k I]at this;rw[(I:DE rs k-2-(DE rs k-DB rs (k+1)-2)=DB rs (k+1)),Bz,this];simp only[AF];congr 2;omega
def EJ(f:DF):DF :=
 let z:DF:=f0 f.kind false
 if f.kind=1 then z
 else if f.kind=2 then{ z with kC:=f.kC }
 else if f.kind=3 then{ z with stream:=f.stream,off:=f.off,rel:=f.rel }
 else if f.kind=4 then{ z with stream:=f.stream,off:=f.off,fin:=f.fin,data:=f.data }
 else if f.kind=5 then{ z with lF:=f.lF }
 else if f.kind=6 then{ z with stream:=f.stream,lF:=f.lF }
 else if f.kind=7 then{ z with id:=f.id,dl:=f.dl,data:=f.data }
 else{ z with lF:=f.lF }
variable{f:DF}
def SR(h:zH f=true):f.kind=1\/f.kind=2\/f.kind=3\/f.kind=4\/f.kind=5\/f.kind=6\/f.kind=7\/f.kind=8:=by
 simp only[zH,zP,AV]at h;obtain⟨_,h⟩:=h;by_cases a:f.kind=2
 .omega
 by_cases e:f.kind=3
 .omega
 by_cases g:f.kind=4
 .omega
 simp only[a,e,g,BE,AV,AW]at h;omega
def Oa(h:zH f=true):f.off<=4611686018427387903/\f.rel<=4611686018427387903/\f.lF<=4611686018427387903/\f.id<=4611686018427387903/\f.dl<=4611686018427387903/\0<=f.stream/\f.stream<8/\zP f=true:=by
 simp only[zH,D8,nums,D6,AV,List.all_cons,List.all_nil,AW]at h;obtain⟨⟨a,e⟩,g⟩:=h;exact⟨a.1,a.2.1,a.2.2.1,a.2.2.2.1,a.2.2.2.2.1,e.1,e.2,g⟩
def fK(f:DF):(EJ f).kind=f.kind:=by
 unfold EJ;simp only;repeat' split
 all_goals rfl
def jI(h:zH f=true):zH (EJ f)=true:=by
 obtain⟨a,g,m,n,q,u,y,e⟩:=Oa h;rcases SR h with a|a|a|a|a|a|a|a;all_goals
  simp only[zP,a]at e;simp[EJ,a,zH,D8,nums,D6,zP,f0]at e ⊢;try omega
 all_goals exact e
def TT(f:DF):0<(zC f).length:=by
 unfold zC;repeat' split
 all_goals simp[Fa,IF,ID,IK,IG,IE,Fy]
theorem Xx(h:zH f=true)(hd:f.data.length<4611686018427387904)(n:f.kC.length<4611686018427387904)(a:At bs pos (zC f)):FI bs pos=some (EJ f,pos+(zC f).length):=by
 have m:=jI h;have n:=fK f;obtain⟨K,L,M,N,O,n,R,G⟩:=Oa h;have A:=Int.toNat_of_nonneg n;unfold FI;rcases SR h with e|e|e|e|e|e|e|e
 .have q:zC f=[1]:=by simp[zC,e]
  rw[q]at a ⊢;rw[a.head];have u:zQ 1 false bs (pos+1)=some (EJ f,pos+1):=by simp[zQ,EJ,e]
  simp[Es,u,m]
 .have q:zC f=2::(zV (DB f.kC 0)++(zV (f.kC.length-1)++(zV (DB f.kC 0-DE f.kC 0)++Di f.kC (f.kC.length-1)))):=by simp[zC,e,Fa]
  rw[q]at a ⊢;rw[a.head];have B:EQ f.kC=true:=by simpa [zP,e]using G
  have h:0<f.kC.length:=by
   simp only[EQ,AV,AW]at B;exact B.2
  obtain⟨n,G,_⟩:=JD B h;have g:=a.tail;have y:=Ft I g.left;have z:=Ft I g.right.left;have C:=Ft I g.right.right.left;have h:=g.right.right.right.le;have D:f.kC.length-1<bs.length+1:=by
   have:∀k,2*k<=(Di f.kC k).length:=by
    intro k;have E:∀n,1<=(zV n).length:=by
     intro n;unfold zV;repeat' split
     all_goals simp
    induction k with
    | zero=>simp
    | succ k ih =>
     have:=E<|DE f.kC k-DB f.kC (k+1)-2;have:=E<|DB f.kC (k+1)-DE f.kC (k+1);simp only[Di,AF];omega
   have:=this<|f.kC.length-1;omega
  have h:=Rz f.kC B (f.kC.length-1) 0 (bs.length+1) _ _ I D (by simp[Di]) g.right.right.right;simp only[B0]at h;have u:zQ 2 false bs (pos+1)=some (EJ f,pos+(2::(zV (DB f.kC 0)++(zV (f.kC.length-1)++(zV (DB f.kC 0-DE f.kC 0)++Di f.kC (f.kC.length-1))))).length):=by
   rw[show zQ 2 false bs (pos+1)=El false bs (pos+1)by simp[zQ],El,y];simp only[AX];rw[z];simp only[AX];rw[C];simp only[AX];rw[h];simp[EJ,e];omega
  simp[Es,u,m]
 .have q:zC f=36::(zV f.stream.toNat++(zV f.off++zV f.rel)):=by simp[zC,e,IF]
  rw[q]at a ⊢;rw[a.head];have g:=a.tail;have y:=OO I g.left;have z:=Ft I g.right.left;have C:=Ft I g.right.right;have u:zQ 3 false bs (pos+1)=some (EJ f,pos+(36::(zV f.stream.toNat++(zV f.off++zV f.rel))).length):=by
   rw[show zQ 3 false bs (pos+1)=In false bs (pos+1)by simp[zQ],In,y];simp only[AX];rw[z];simp only[AX];rw[C];simp[EJ,e,A];omega
  simp[Es,u,m]
 .cases hfin:f.fin
  .have q:zC f=8::(zV f.stream.toNat++(zV f.off++(zV f.data.length++f.data))):=by simp[zC,e,ID,hfin]
   rw[q]at a ⊢;rw[a.head];have g:=a.tail;have y:=OO I g.left;have z:=Ft I g.right.left;have C:=Pj hd g.right.right;have u:zQ 4 false bs (pos+1)=some (EJ f,pos+(8::(zV f.stream.toNat++(zV f.off++(zV f.data.length++f.data)))).length):=by
    rw[show zQ 4 false bs (pos+1)=G4 false bs (pos+1)by simp[zQ],G4,y];simp only[AX];rw[z];simp only[AX];rw[C];simp[EJ,e,A,hfin,f0];omega
   simp[Es,u,m]
  have q:zC f=9::(zV f.stream.toNat++(zV f.off++(zV f.data.length++f.data))):=by simp[zC,e,IK,hfin]
  rw[q]at a ⊢;rw[a.head];have g:=a.tail;have y:=OO I g.left;have z:=Ft I g.right.left;have C:=Pj hd g.right.right;have u:zQ 4 true bs (pos+1)=some (EJ f,pos+(9::(zV f.stream.toNat++(zV f.off++(zV f.data.length++f.data)))).length):=by
   rw[show zQ 4 true bs (pos+1)=G4 true bs (pos+1)by simp[zQ],G4,y];simp only[AX];rw[z];simp only[AX];rw[C];simp[EJ,e,A,hfin,f0];omega
  simp[Es,u,m]
 .have q:zC f=16::zV f.lF:=by simp[zC,e,Fy]
  rw[q]at a ⊢;rw[a.head];have y:=Ft I a.tail;have u:zQ 5 false bs (pos+1)=some (EJ f,pos+(16::zV f.lF).length):=by
   rw[show zQ 5 false bs (pos+1)=Fj 5 false bs (pos+1)by simp[zQ],Fj,y];simp[EJ,e];omega
  simp[Es,u,m]
 .have q:zC f=17::(zV f.stream.toNat++zV f.lF):=by simp[zC,e,IG]
  rw[q]at a ⊢;rw[a.head];have g:=a.tail;have y:=OO I g.left;have z:=Ft I g.right;have u:zQ 6 false bs (pos+1)=some (EJ f,pos+(17::(zV f.stream.toNat++zV f.lF)).length):=by
   rw[show zQ 6 false bs (pos+1)=Gq false bs (pos+1)by simp[zQ],Gq,y];simp only[AX];rw[z];simp[EJ,e,A];omega
  simp[Es,u,m]
 .have q:zC f=48::(zV f.id++(zV f.dl++(zV f.data.length++f.data))):=by simp[zC,e,IE]
  rw[q]at a ⊢;rw[a.head];have g:=a.tail;have y:=Ft I g.left;have z:=Ft I g.right.left;have C:=Pj hd g.right.right;have u:zQ 7 false bs (pos+1)=some (EJ f,pos+(48::(zV f.id++(zV f.dl++(zV f.data.length++f.data)))).length):=by
   rw[show zQ 7 false bs (pos+1)=Im false bs (pos+1)by simp[zQ],Im,y];simp only[AX];rw[z];simp only[AX];rw[C];simp[EJ,e,f0];omega
  simp[Es,u,m]
 have q:zC f=28::zV f.lF:=by simp[zC,e,Fy]
 rw[q]at a ⊢;rw[a.head];have y:=Ft I a.tail;have u:zQ 8 false bs (pos+1)=some (EJ f,pos+(28::zV f.lF).length):=by
  rw[show zQ 8 false bs (pos+1)=Fj 8 false bs (pos+1)by simp[zQ],Fj,y];simp[EJ,e];omega
 simp[Es,u,m]
def PC(a:List DF):Prop:=∀f∈a,zH f=true/\f.data.length<4611686018427387904/\f.kC.length<4611686018427387904
theorem Ry(num:Nat):∀(g:List DF) (fuel a:Nat) (e:List DF),PC g->g.length<fuel->At bs a (g.flatMap zC)->a+(g.flatMap zC).length=bs.length ->
  Fu bs fuel num a e=.ok num (e++g.map EJ)
 | [],fuel+1,a,e,_,_,_,he=>by
  simp at he;unfold Fu;rw[AH I];simp
 | f::g,fuel+1,a,e,hok,hf,ha,he=>by
  obtain⟨a,e,h⟩:=hok f nl;have m:=TT f;simp only[CQ]at ha he;rw[AF]at he;unfold Fu;rw[AL I,Xx a e h ha.left];simp only;rw[Ry num g fuel _ _ (λg a=>hok g<|by simp[a]) (qp hf) ha.right I];simp
theorem Xw(a:List DF):a.length<=(a.flatMap zC).length:=by
 induction a with
 | nil=>simp
 | cons f a ih =>
  have:=TT f;simp only[CQ,AF,Aa];omega
def SQ(n:Nat)(a:List DF)(g:n<=4611686018427387903)(h:0<a.length)(e:PC a):ER (zV n++a.flatMap zC)=.ok n (a.map EJ):=by
 have g:At (zV n++a.flatMap zC) 0 (zV n++a.flatMap zC):=⟨[],[],nl,rfl⟩;have h:=Xw a;unfold ER;rw[Ft I g.left];simp only[AF,An];rw[AH I,Ry n a _ _ [] e I (qp g.right) nl];simp
def Rx(l:qq)(s:Nat)(a:s<4294967296):Gr (l++EP s) l.length=s:=by
 unfold Gr DQ EP;simp only[AQ];rw[Ac I,Ac I,Ac I,Ac I];simp[(I:l.length+1-l.length=1),(I:l.length+2-l.length=2),(I:l.length+3-l.length=3)];omega
def UI(l:qq):dec (l++EP (Dz l))=ER l:=by
 have a:(l++EP (Dz l)).length=l.length+4:=by simp[EP]
 unfold dec;rw[a,AH I,Bz,Rx l _<|Lf l,BI,AL rfl]
def EV.nil(w:rT):EV w rV []:=⟨World.ownsRow_nil w 0 _ 10,λx a=>by cases a⟩
def I1(S:Nat->Prop)(w wr:rT):Prop :=
 C9 S w wr/\∀k,S k->∀cs t,w.heap[k]?=some (.cells cs t (0,0))->∃a,wr.heap[k]?=some (.cells a t (0,0))/\a.size=cs.size
def I1.refl(S:Nat->Prop)(w:rT):I1 S w w:=⟨C9.refl _ _,λ_ _ cs _ h=>⟨cs,h,rfl⟩⟩
variable{S:Nat->Prop}{b:Nat}{w:rT}
def I1.set{wr:rT}(h:I1 S w wr)(hb:S b)(i:Nat)(v:rU):I1 S w (wr.setCell (b,i) v):=by
 refine⟨h.1.setCell (p:=(b,i)) (.inl hb) v,λk n cs t q=>?_⟩;obtain⟨a,g,m⟩:=h.2 k n cs t q;by_cases e:k=b
 .subst e;exact⟨_,zc g,qp m⟩
 exact⟨a,((C9.refl (λx=>x=b) wr).setCell (p:=(b,i)) rO v).obj e g,m⟩
variable{cs:Array rU}{i t:Nat}
def I1.cell{wr:rT}(h:I1 S w wr)(hb:S b)(g:w.heap[b]?=some (.cells cs t (0,0)))(hi:i<cs.size):(∃v,wr (b,i)=some v)/\wr.frozen? ⟨b,i,none⟩=false:=by
 obtain⟨a,e,m⟩:=h.2 b hb cs t g;exact⟨⟨a[i],za e<|CN I⟩,zd e⟩
def JU(v:rU)(a:List (DF×rU)):Nat->Prop:=λk=>v.ownBlock=some k\/∃x∈a,x.2.ownBlock=some k
def Lj(W:rT)(g:Nat)(v:rU)(a:List (DF×rU))(k:Nat)(wr:rT):Prop :=
 I1 (JU v a) W wr/\∀j x,k<=j->a[j]?=some x->wr ⟨g,j*10+9,none⟩=some x.2
variable{W:rT}{g k:Nat}{v:rU}
def Lj.more{wr:rT}{a:List (DF×rU)}(h:Lj W g v a k wr):Lj W g v a (k+1) wr:=⟨h.1,λj x a=>h.2 j x I⟩
def Lj.set{wr:rT}{a:List (DF×rU)}(h:Lj W g v a (k+1) wr)(e:JU v a g)(hi:i<k*10+10)(u:rU):Lj W g v a (k+1) (wr.setCell (g,i) u):=by
 refine⟨h.1.set e i u,λj x a e=>?_⟩;rw[World.cell?_setCell_other _ _ _ _ (by simp<;>omega)];exact h.2 j x a e
def JM(n:Nat)(l:List DF):Bool:=decide (0<l.length)&&decide (n<=4611686018427387903)&&l.all zH
def Fe(n:Nat)(l:List DF):qq:=zV n++l.flatMap zC
def N1(n:Nat)(a:List (DF×rU)):Ht n a=JM n (a.map (·.1)):=by
 unfold Ht JM He;rw[List.take_length,Az,List.all_map];rfl
def UX(n:Nat)(a:List (DF×rU)):body n a=Fe n (a.map (·.1)):=by
 unfold body Fe GA;rw[List.take_length,List.flatMap_map]
def Q8(w:rT)(n:Nat)(l:List DF)(e:Ending)(w':rT):Prop :=
 C9 DA w w'/\((JM n l=true/\∃a,e=.returned (.tuple #[a,.int .i64 0])/\OB w' a (ml<|Fe n l)/\∀g,a.ownBlock=some g->w.heap.size<=g) \/
  (JM n l=false/\e=.returned (.tuple #[.slice none 0 0,.int .i64 8])))
variable{V' V0:CV}{W' W'' W0:rT}{c:CS}{tag tag':qr}{v':rU}
def zJ.kG{s:DO}(h:zJ tag i b W0 V0 c tag' V' W')(z:k<8)(y:MV s b (9+15*k+4) (V'.wc k) W' W'' v')(E:s.most=(c k).kG.most):∃e u,zJ tag i b W0 V0 { c with ws:=zh c.ws k { c.ws k with kG:=s } } e u W''/\∀g,g<W'.heap.size->e g=tag' g:=by
 obtain⟨n,u,e,B⟩:=y;have C:=h.p;have A:∀{g r:Nat},tag' g=(i,r)->g<W'.heap.size:=λm=>Ds h.e.z m C
 have y:∀g,(tag' g).1=i->zT tag' W' W'' (i,30+k) g=tag' g:=λg m=>zx<|A (r:=(tag' g).2)<|by rw[<-m]
 have D:∀g,(g=b\/(V'.wc k).ownBlock=some g)->∃r,(r=1\/r=30+k)/\tag' g=(i,r):=λg m=>by
  rcases m with m|m
  .exact⟨1,.inl rfl,by rw[m,h.c.tb]⟩
  exact⟨30+k,.inr rfl,h.c.nJ k z g m⟩
 refine⟨zT tag' W' W'' (i,30+k),{ V' with wc:=zh V'.wc k v' },⟨?_,h.e.trans (Gf e.size) h.m.size,Ek h.e h.m<|e.mono<|λg m=>.inl ?_,C,h.ft⟩,λg m=>zx m⟩
 .refine h.c.build (R:=λr=>r=1\/r=30+k) e D y ?_ rL (λq e=>.inl ⟨?_,rfl,I⟩) (λq e=>.inl ⟨?_,rfl,I⟩) (λq e=>?_) (λq e=>.inl rK) (λq e=>.inl rK) rL rJ rJ rJ
  .rw[u,zc (zc h.c.obj)];simp only[Ab];have G:=Gn c c V' { V' with wc:=zh V'.wc k v' } (k:=k) (j:=4) v' z lc (λq _=>by
    by_cases a:q=k
    .subst a;simp only[zf,Aq];rfl
    simp only[zl _ _ a,AH a]) rfl rfl rfl
   rw[G];have K:=Gn c { c with ws:=zh c.ws k { c.ws k with kG:=s } } { V' with wc:=zh V'.wc k v' } { V' with wc:=zh V'.wc k v' } (k:=k) (j:=5) (.int .u64 s.fl) z lc (λq _=>by
    by_cases a:q=k
    .subst a;simp only[zf,Aq,Fl,E];rfl
    simp only[zl _ _ a,AH a]) rfl rfl rfl
   rw[show 9+15*k+4+1=9+15*k+5 from rfl,K]
  .by_cases a:q=k
   .subst a;simp only[zf]
   simp only[zl _ _ a]
  .by_cases a:q=k
   .subst a;simp only[zf]
   simp only[zl _ _ a]
  by_cases a:q=k
  .subst a;simp only[zf];refine .inr ⟨n,λg m=>?_⟩;rcases B g m with y|y
   .rw[zx (A<|h.c.nJ q z g y),h.c.nJ q z g y]
   exact FH y<|zI n g m
  exact .inl ⟨by simp only[zl _ _ a],by simp only[zl _ _ a],I⟩
 obtain⟨r,a,e⟩:=D g m;exact EM e I
theorem VH(w:rT)(v:rU)(l:qq)(h:BR w v l)(Y:l.length<=70368744177664):∃m w',(∀M,(Builtin.append_ #[44,44] M #[.slice none 0 0,v]).run prog w=.ok m w')/\OB w' m l/\C9 DA w w'/\(∀g,m.ownBlock=some g->w.heap.size<=g):=by
 obtain⟨i,n,N,y,z⟩:=info_parts Ny;obtain⟨a,A,rfl,Y,Z,O⟩:=id h;by_cases h:l.length=0
 .have D:=Aj h;subst D;cases a with
  | none =>
   refine⟨.slice none 0 0,w,λM=>?_,OB.nil w,C9.refl _ _,λg B=>by cases B⟩;simp[Builtin.append_,run_underlying underlying44,sizeOf,typeInfo,n,Builtin.lenOf,Builtin.firstCells,loadCells,loadCellsFrom]
  | some a =>
   obtain⟨m,w',E,C,G,K⟩:=zY (P:=prog) w 44 5 i (.int .u8 0) 1 1 underlying44 n N y z rfl lc rV 0 [] (World.ownsRow_nil w 0 _ 1)
    a 0 A [] rfl (by intro j u q;cases q) (by intro u q;cases q) pi I
   exact⟨m,w',E,C,(C9.refl _ w).grown G (λk L=>by cases L),λg B=>(K g B).elim (λx=>by cases x) id⟩
 obtain⟨g,o,rfl,_⟩:=O 0 l[0]<|AG I;obtain⟨m,w',E,C,G,K⟩:=zY (P:=prog) w 44 5 i (.int .u8 0) 1 1 underlying44 n N y z rfl lc rV 0 [] (World.ownsRow_nil w 0 _ 1)
  ⟨g,o,none⟩ l.length A (zS l) (by rw[Ij,Cx]) (by
   intro j u q;simp only[zS,Ad,CC]at q;obtain⟨c,R,rfl⟩:=q;obtain⟨a,h,e,X⟩:=O j c R;cases e;rw[EU];exact X) (QY l) pi I
 refine⟨m,w',E,?_,(C9.refl _ w).grown G (λk L=>by cases L),λg B=>(K g B).elim (λx=>by cases x) id⟩;rw[An,BV]at C;exact C
def Jt(b o:Nat)(w:rT):Nat:=match w (b,o)with|some (.slice _ n _)=>n|_=>0
def PI:rU->Nat|.slice _ n _=>n|_=>0
variable{V:CV}
def zn.pS(h:zn tag i b c V W):Jt b 236 W=c.kB.length:=by
 obtain⟨a,g,e,_⟩:=zi h.ft;have c0:W (b,236)=some V.ft:=h.tl (j:=3) rfl;unfold Jt;rw[c0,e]
def FR.form{t:Nat×Nat}{l:zE}(h:FR tag t W v l):∃a g,v=.slice a l.length g:=by
 obtain⟨a,g,e,_⟩:=h.1;exact⟨a,g,e⟩
def FV(i:Nat)(tag:qr):Prop:=∀g r,90<=r->tag g≠(i,r)
def I3(tag:qr)(i b:Nat)(W0:rT)(a:List qq)(c':CS)(e:Ending)(W':rT):Prop :=
 ∃v g tag' V',e=.returned v/\zn tag' i b c' V' W'/\DK i tag tag' W0 W'/\C9 (Da i tag) W0 W'/\Fd tag' W0 W' v g a/\FV i tag'
def GG(i:Nat)(tag:qr):Nat->Nat×Nat:=λg=>if (tag g).1=i/\90<=(tag g).2 then(0,0)else tag g
def Pi(hi:0<i):FV i (GG i tag):=by
 intro g r e h;unfold GG at h;split at h
 .simp at h;omega
 rename_i a;rw[h]at a;exact a ⟨rfl,e⟩
variable{r:Nat}
def Pv(a:r<90)(h:tag g=(i,r)):GG i tag g=(i,r):=by
 unfold GG;rw[AH (by rw[h];simp;omega),h]
def Tp(h:tag g=(0,0)):GG i tag g=(0,0):=by
 unfold GG;split
 .rfl
 exact h
def DK.pc(e:DK i tag tag' W W')(m:FV i tag):DK i tag (GG i tag') W W':=by
 refine⟨λg a=>?_,λg a=>?_,λg a=>Tp<|e.z g a⟩
 .have h:=e.lH g a;unfold GG;rw[AH,h];rintro⟨x,y⟩;rw[h]at x y;exact m g (tag g).2 y<|by rw[<-x]
 unfold GG;split
 .exact .inr rfl
 exact e.new g a
variable{outs:List qq}{ov tv:rU}{told:zE}{vs:qt}
def FM.post(h:FM tag i b W0 c told outs tag' V vs ov tv W)(a:FV i tag):I3 tag i b W0 outs c (.returned ov) W :=
 ⟨ov,vs,GG i tag',V,rfl,h.c.nz<|λg r e m=>Pv e m,h.e.pc a,h.m,h.o.mod (C9.refl DA W) rQ<|λ_ _ x=>Tp x,Pi h.p⟩
variable{bv fv:rU}{d:DJ}{db:Nat}
def Eo.post{l:List (DF×rU)}(h:Eo tag i b db W0 c d told outs tag' V bv fv l vs ov tv W)(a:FV i tag):I3 tag i b W0 outs c (.returned ov) W :=
 FM.post ⟨h.s.c,h.s.e,h.s.m,h.o,h.t,h.s.p⟩ a
def Da.i_(h:Da i tag g):(tag g).1=i:=h.1
def FM.env(h:FM tag i b W0 c told outs tag' V vs ov tv W)(E:Dn i tag W0):Dn i tag' W:=E.left h.e (h.m.mono (λg a=>.inl a.i_))
def Eo.env{l:List (DF×rU)}(h:Eo tag i b db W0 c d told outs tag' V bv fv l vs ov tv W)(E:Dn i tag W0):Dn i tag' W:=E.left h.s.e (h.s.m.mono (λg a=>.inl a.i_))
def iT(h:zn tag i b c V W)(E:Dn i tag W)(nd:FV i tag)(h0:c.closed=0)(ok:Hy c.lK.2 c.lK.1)(hg:c.kN.Ok):rH 45 #[(b,0)] W (I3 tag i b W c.lS.1 c.lS.2):=by
 have c4:=h.hd (j:=4) rfl;rw[h0]at c4;have ka:=YP h E hg;have EE:=zb E;have ND:=zb nd;have OK:=zb ok;obtain⟨R,hR⟩:=nm c.lS;have HR:=zb hR;rw[hR];obtain⟨T0,ax⟩:=nm c.lK.1;obtain⟨C0,an⟩:=nm c.lK.2;have af:AA (CS.mI (12-c.kB.length+T0.length+1) C0 T0=R/\Hy C0 T0/\Fp C0 T0<12-c.kB.length+T0.length+1):=by
  refine⟨?_,?_,?_⟩
  .rw[<-hR,CS.lS,ax,an]
  .rw[<-ax,<-an];exact ok
  have:C0.kB=c.kB:=by
   rw[<-an];unfold CS.lK;split<;>rfl
  unfold Fp;rw[this];omega
 rw[ax,an]at ka;have KA:=zb ka;clear h E nd ok hg h0 hR ax an ka;go_enter func45,ntmps45;go_wp2_with (go_at_call 83;refine KA.z.mono ?_;rintro e W1 ⟨v,aH,V1,rfl,aX,aY,aZ,a0⟩;have H1:AA (FM tag i b W C0 T0 [] aH V1 [] (.slice none 0 0) v W1):=zb ⟨aY,aZ,a0,Fd.nil _ _ _,aX,EE.z.pos⟩;clear aX aY aZ a0);clear c4 KA
 go_loopw [3,4] (λov E wr=>∃(n:Nat) (z:CS) (told:zE) (q:List qq) (tag':qr) (V':CV) (O:qt),AA (FM tag i b W z told q tag' V' O ov E wr)/\AA (Hy z told/\Fp z told<n/\q++(CS.mI n z told).1=R.1/\(CS.mI n z told).2=R.2)/\AA (q.length+n<=2097152)) (λ_ E wr=>(12-Jt b 236 wr)+PI E)
 case atStart=>exact⟨_,C0,T0,[],aH,V1,[],H1,zb ⟨af.z.2.1,af.z.2.2,by rw[af.z.1];rfl,by rw[af.z.1]⟩,zb (by have:=af.z.2.1.len;show 0+_<=_;omega)⟩
 case round =>
  clear H1 af;obtain⟨n,z,told,q,tag',V',O,HH,L,a1⟩:=hrel;have c6:=HH.z.c.hd (j:=6) rfl;have c0:=HH.z.c.hd (j:=0) rfl;obtain⟨ta,tc,bg⟩:=HH.z.t.form;have aK:AA ((12-Jt b 236 wr)+told.length=Fp z told):=by
   show _=_;rw[HH.z.c.pS];rfl
  have a2:z.next<4611686018427387904:=by have:=L.z.1.next;unfold zG at this;omega
  have kv:=II rV [] z.next wr.drew (World.ownsRow_nil _ 0 _ 1) (AK _) a2;have KV:=zb kv;obtain⟨nx,E⟩:=nm z.next;obtain⟨mt,aL⟩:=nm z.kj;rw[E]at c6 KV;rw[aL]at c0;have a3:=zb E;have bh:=zb aL;clear kv a2 E aL;subst bg;go_upto_region 5 with fail;refine zr 13 (λw'=>w' (U b 6)=some (.int .u64 nx)/\w' b=some (.int .i64 mt)) (⟨c6,c0⟩) ?_;refine GI 0 ?_;iterate 4
   refine GV rfl ?_;try simp only[PS]
  refine GI 5 ?_;iterate 5
   refine GV rfl ?_;try simp only[PS]
  refine zD 4 rfl (λK hK=>?_);go_simp;refine KV.z.mono ?_;rintro e W2 ⟨E,rfl,ap⟩;obtain⟨ay,aA,a4,_⟩:=zi ap.own;rw[BV]at a4;subst a4;have E:=((C9.refl DA wr).drew).trans ((C9.refl DA wr.drew).grown ap.grown (λg hg=>by simp[Value.ownBlock]at hg));have AP:=zb ap;have aB:=zb<|show W2 (U b 6)=some (.int .u64 nx)/\W2 b=some (.int .i64 mt)from⟨E.cell (a:=U b 6) id c6,E.cell (a:=b) id c0⟩;refine hK.z _ _ aB.z ?_;clear ap E;clear hK K;try simp only[PS]
  refine Gl (i:=10) (v:=.agg #[.slice ay (zV nx).length aA,.slice none 0 0,.int .i64 mt,.bool false,.bool false]) rfl kw (λ_ _ _ h=>h) (Or.inl ⟨by rfl,?_⟩) ?_
  ·(intro wx C;(try dsimp only at C);go_simp;try with_reducible rfl)
  try simp only[PS]
  refine zD 11 rfl (λK hK=>?_);go_simp;have E:=λo=>(show(W2.alloc o).cell? (U b 6)=some (.int .u64 nx)/\(W2.alloc o) b=some (.int .i64 mt)from⟨((C9.refl DA W2).alloc o).cell (a:=U b 6) id aB.z.1,((C9.refl DA W2).alloc o).cell (a:=b) id aB.z.2⟩)
  refine hK.z _ _ (E _) ?_;clear hK K;try simp only[PS]
  refine GI 12 ?_;refine GV rfl ?_;try simp only[PS]
  refine zt ?_;obtain⟨W3,aM⟩:=nm<|W2.alloc<|.cells #[.slice ay (zV nx).length aA,.slice none 0 0,[mt],false,false] 162;obtain⟨X,aN⟩:=nm W2.heap.size;obtain⟨ao,HM⟩:∃ao,AA (Eo tag i b X W z z.kJ told q ao V' (.slice ay (zV nx).length aA) (.slice none 0 0) [] O u3 (.slice ta told.length tc) W3):=by
   have ap:=AP.z;rw[<-a3.z]at ap;obtain⟨E,B⟩:=HH.z.pT ((C9.refl DA wr).drew) ap;rw[a3.z,bh.z,aM,aN]at B;exact⟨E,B⟩
  try rw[aM]
  try rw[aN]
  obtain⟨D1,aO⟩:=nm<|(zB z.kJ told).1;obtain⟨T1,aP⟩:=nm<|(zB z.kJ told).2;have E:=L.z.1.round;rw[aO,aP]at E;have ad:=zb E;have aq:=zb<|And.intro aO aP;have bi:=Nz (I8 L.z.1.ok) told;have kt:=λB=>YO HM.z.s.c HM.z.s.d (HM.z.env EE.z) HM.z.t B L.z.1.desc.tell L.z.1.len (qm<|(I8 L.z.1.ok).b) (qn ((I8 L.z.1.ok).fs)<|(I8 L.z.1.ok).b)<|qm<|(I8 L.z.1.ok).room
  have KT:=zb kt;obtain⟨N,hN⟩:=nm told.length;rw[hN]at KT HM ⊢;have a5:=zb hN;clear aO aP E bi kt hN aM aN aB AP HH c6 c0 KV;go_upto_if 29 with fail
  go_cut [4] (λE wx=>∃(ae:qr) (V2:CV) (aC aD:rU) (l2:List (DF×rU)),AA<|Eo tag i b X W z D1 T1 q ae V2 aC aD l2 O u3 E wx)
  case first =>
   by_cases ag:told=[]
   .have bj:N=0:=by rw[<-a5.z,ag];rfl
    subst bj;have H2:AA (Eo tag i b X W z D1 T1 q ao V' (.slice ay (zV nx).length aA) (.slice none 0 0) [] O u3 (.slice ta 0 tc) W3):=by
     have e:zB z.kJ told=(z.kJ,told):=by unfold zB;rw[AL ag]
     have e1:=aq.z.1;have E:=aq.z.2;rw[e]at e1 E;rw[<-e1,<-E];exact HM
    clear ag KT HM;go_wp2;go_meet;exact⟨_,_,_,_,_,H2⟩
   have d1:(0:Int)<N:=by
    have:=Bu.2 ag;have:=a5.z;omega
   have hd:(Gx z.kJ told).1=D1/\(Gx z.kJ told).2=T1:=by
    have e:zB z.kJ told=Gx z.kJ told:=by unfold zB;rw[AH ag]
    rw[<-e];exact aq.z
   have k2:=KT.z I;rw[hd.1,hd.2]at k2;have K2:=zb k2;clear ag KT hd k2;go_wp2_with (go_at_call 85;refine K2.z.mono ?_;intro e W4 hp;obtain⟨v,ae,V2,aC,aD,l2,rfl,h2⟩:=HM.z.tell hp;have H2:=zb h2;clear hp h2);go_meet;exact⟨_,_,_,_,_,H2⟩
  case rest =>
  obtain⟨ae,V2,aC,aD,l2,H2⟩:=hcut;clear HM KT;have N:wc (b,236)=some V2.ft:=H2.z.s.c.tl (j:=3) rfl;obtain⟨E,fc,a6,_⟩:=zi H2.z.s.c.ft;rw[a6]at N;obtain⟨FL,E⟩:=nm z.kB.length;rw[E]at N;have a7:=zb E;obtain⟨u,N⟩:=nm<|(z.kM D1).1;obtain⟨y,aQ⟩:=nm<|(z.kM D1).2;have ah:=zb<|And.intro N aQ;have aR:=ad.z;rw[N,aQ]at aR;have a8:=zb aR;clear aR;have kf:=YM H2.z.s.c H2.z.s.d (H2.z.env EE.z) L.z.1.ok ad.z.1;have KF:=zb kf;clear a6 E N aQ kf;go_upto_if 39 with fail
  go_cut [] (λwx=>∃(ar:qr) (V3:CV) (M ai:rU) (l3:List (DF×rU)),AA<|Eo tag i b X W u y T1 q ar V3 M ai l3 O u3 u4 wx)
  case first =>
   by_cases aE:FL<12
   .have d1:(FL:Int)<12:=I;have e:z.kM D1=z.fill D1:=by unfold CS.kM;rw[AL (by rw[a7.z];exact aE)]
    have ab:(z.fill D1).1=u/\(z.fill D1).2=y:=by rw[<-e];exact ah.z
    have k2:=KF.z;rw[ab.1,ab.2]at k2;have K2:=zb k2;clear aE KF e ab k2;go_wp2_with (go_at_call 86;refine K2.z.mono ?_;intro e W4 hp;obtain⟨rfl,ar,V3,M,ai,l3,h3⟩:=H2.z.fill hp;have H3:=zb h3;clear hp h3);go_meet;exact⟨_,_,_,_,_,H3⟩
   have d1:¬(FL:Int)<12:=I;have e:z.kM D1=(z,D1):=by unfold CS.kM;rw[AH (by rw[a7.z];exact aE)]
   have ab:z=u/\D1=y:=by
    have:=ah.z;rw[e]at this;exact this
   have H3:AA (Eo tag i b X W u y T1 q ae V2 aC aD l2 O u3 u4 wc):=by
    rw[<-ab.1,<-ab.2];exact H2
   clear aE KF e ab;go_wp2;go_meet;exact⟨_,_,_,_,_,H3⟩
  case rest =>
  obtain⟨ar,V3,M,ai,l3,H3⟩:=hcut;clear H2 KF;have o3:=H3.z.s.d.obj;obtain⟨E,N,au,_⟩:=zi H3.z.s.d.own;have a9:l3.length=y.fs.length:=by rw[<-H3.z.s.d.lf,Az]
  rw[a9]at au;obtain⟨E,N,aI,_⟩:=zi H3.z.s.d.ob;have e0:wc X=some M:=za o3 rfl;have e1:wc (X,1)=some ai:=za o3 rfl;rw[au]at e1;obtain⟨NF,aS⟩:=nm y.fs.length;rw[aS]at e1;obtain⟨m,hm⟩:∃m,n=m+1:=⟨n-1,qm L.z.2.1⟩;subst hm;have aF:AA (CS.mI (m+1) z told=if y.fs=[]then([],u)else(Fs y.b::(CS.mI m (u.lQ y) T1).1,(CS.mI m (u.lQ y) T1).2)):=by
   show _=_;rw[CS.mI,aq.z.1,aq.z.2,ah.z.1,ah.z.2]
  have ba:=zb aS;have bb:=zb aI;clear o3 au a9 aS aI;go_upto_if 48 with fail;by_cases aj:y.fs=[]
  .have hz:NF=0:=by rw[<-ba.z,aj];rfl
   subst hz;have n:AA (q=R.1/\u=R.2):=by
    have B:=L.z.2.2.1;have h2:=L.z.2.2.2;rw[aF.z,AL aj]at B h2;exact⟨qp B,h2⟩
   have N:=zb<|H3.z.post ND.z;clear aj aF L e0;go_wp2;go_ret;have E:=N.z;rw[n.z.1,n.z.2]at E;exact E
  have hz:NF≠0:=λe=>aj<|Aj<|by rw[ba.z,e]
  have n:((NF:Int)==0)=false:=AM.2 I;have aT:=zb aj;have N:=Sw M y.b wc H3.z.s.d.ob (qm a8.z.2.2.1.b) (H3.z.env EE.z).tab;have R:∀W5 sv,DX wc M y.b (EP<|Dz y.b) sv W5->∃sa sn sc ak G,sv=.slice sa sn sc/\(∀ty,(Builtin.append_ #[112,112] ty #[u3,.slice (some ⟨W5.heap.size,0,none⟩) 1 1]).run prog (W5.alloc<|.cells #[.slice sa sn sc] 44)=.ok ak G)/\∃Y Z aa,AA (Ns tag i b X W u y T1 (q++[Fs y.b]) Y V3 M ai (O++[sv]) ak u4 G)/\ak=.slice Z (O.length+1) aa:=by
   intro W5 sv ap;obtain⟨sa,sc,n,_⟩:=zi ap.own;have m1:=(C9.refl (λg=>M.ownBlock=some g) wc).grown ap.grown<|λg hg=>.inl hg;have ho:=H3.z.o.mod m1 (λg hg x=>by
    have:=H3.z.s.d.mU g hg;rw[x]at this;have:=H3.z.s.p;simp at *) (λ_ _ x=>x)
   obtain⟨ak,G,B,h2,h3,E⟩:=Wn W5 u3 O sa _ sc ho.own (by
    have:=ho.len;have:=L.z.1.next;have:=a1.z;omega)
   obtain⟨Y,h5⟩:=H3.z.ml ND.z ap (by rw[n];exact h2) h3 E;obtain⟨Z,aa,E,_⟩:=zi h2;exact⟨sa,_,sc,ak,G,n,B,Y,Z,aa,h5,E⟩
  obtain⟨E,oc,n,_⟩:=zi H3.z.o.own;rw[bb.z]at N e0;have KS:=zb N;have KB:=zb R;clear N R aj hz e1;rw[n]at KB ⊢;clear n;go_upto_region 13 with(first|(go_at_call 87;refine KS.z.mono ?_;rintro e W5 ⟨sv,rfl,ap⟩;have ap:=(show DX wc M y.b (EP<|Dz y.b) sv W5 by rw[bb.z];exact ap);obtain⟨sa,sn,sc,ak,G,rfl,DG,Y,Z,aa,A,rfl⟩:=KB.z W5 sv ap;clear ap)|(at_builtin;refine zm rfl _ _ _ _ rfl _ _ _ rfl rfl DG ?_));have E:=A.z.obj;have e3:G (X,3)=some (.bool y.kX):=za E rfl;obtain⟨wa,n⟩:=nm y.kX;rw[n]at e3;have bc:=zb n;clear E n KS KB;go_upto_if 61 with fail
  go_cut [] (λwx=>∃(D:qr) (V5:CV),AA<|FM tag i b W { u with kB:=if y.kX then u.kB++[⟨u.next,u.now,y.fs⟩]else u.kB } T1 (q++[Fs y.b]) D V5 (O++[.slice sa sn sc]) (.slice Z (O.length+1) aa) u4 wx)
  case first =>
   cases wa
   .have H7:AA (FM tag i b W { u with kB:=if y.kX then u.kB++[⟨u.next,u.now,y.fs⟩]else u.kB } T1 (q++[Fs y.b]) Y V3 (O++[.slice sa sn sc]) (.slice Z (O.length+1) aa) u4 G):=by
     rw[bc.z];exact A.z.h
    go_wp2;go_meet;exact⟨_,_,H7⟩
   have av:G (b,236)=some V3.ft:=A.z.h.c.tl (j:=3) rfl;have q6:=A.z.h.c.hd (j:=6) rfl;have q3:=A.z.h.c.hd (j:=3) rfl;have q1:G (X,1)=some ai:=za A.z.obj rfl;obtain⟨ga,gc,aU⟩:=A.z.fv;obtain⟨ka,kc,aV,_⟩:=zi A.z.h.c.ft;have aw:(u.kB.zip V3.lh).length=u.kB.length:=by
    rw[Cf,A.z.h.c.fl,CM]
   have aJ:u.kB.length<=1099511627776:=by
    have B:=ad.z.2.2.2.2.2.1;rw[ah.z.1]at B;rw[B];have:=L.z.1.fl;omega
   have al:∀g,V3.ft.ownBlock=some g->g≠b/\g≠X:=λg hg=>by
    have B:=A.z.h.c.nF g hg;refine⟨λe=>?_,λe=>?_⟩
    .rw[e,A.z.h.c.tb]at B;simp at B
    rw[e,A.z.db]at B;simp at B
   obtain⟨e,W7,ac,aG,aW,be⟩:=Wm G.drew V3.ft (u.kB.zip V3.lh) ⟨u.next,u.now,y.fs⟩ ga _ gc (by rw[aw];exact A.z.h.c.ft) (by rw[aw];exact aJ);have H7:AA (∃D V5,AA<|FM tag i b W { u with kB:=if y.kX then u.kB++[⟨u.next,u.now,y.fs⟩]else u.kB } T1 (q++[Fs y.b]) D V5 (O++[.slice sa sn sc]) (.slice Z (O.length+1) aa) u4<|W7.setCell (U b 236) e):=by
    rw[aw,<-aU]at aG;obtain⟨D,e⟩:=A.z.lE ((C9.refl DA G).drew) aG aW be;rw[bc.z];exact⟨D,_,e⟩
   have m7:=((C9.refl DA G).drew.mono rQ).trans<|(C9.refl (λg=>V3.ft.ownBlock=some g) G.drew).grown aW<|λg hg=>.inl hg;have f7:∀p,W7.frozen? ⟨b,p,none⟩=false:=λp=>zd<|m7.obj (λx=>(al b x).1 rfl) A.z.h.c.obj
   obtain⟨bk,bl,bf,_⟩:=zi aG;rw[aU]at q1;rw[aV]at av;have am:=zb<|show W7 (U b 236)=some (.slice ka u.kB.length kc)/\W7 (U b 6)=some (.int .u64 u.next)/\W7 (U b 3)=some (.int .u64 u.now)/\W7 (U X 1)=some (.slice ga y.fs.length gc)from⟨m7.cell (a:=U b 236) (λx=>(al b x).1 rfl) av,m7.cell (a:=U b 6) (λx=>(al b x).1 rfl) q6,m7.cell (a:=U b 3) (λx=>(al b x).1 rfl) q3,m7.cell (a:=U X 1) (λx=>(al X x).2 rfl) q1⟩;rw[aV]at ac;rw[aw]at bf;subst bf;have M:=zb ac;have bm:=zb f7;clear aU aV aw aJ al aG aW be m7 ac f7 e3;obtain⟨NW,N⟩:=nm u.next;obtain⟨AT,R⟩:=nm u.now;obtain⟨g,e⟩:=nm y.fs.length;obtain⟨n,E⟩:=nm u.kB.length;rw[E]at av am M H7;rw[N]at q6 am;rw[R]at q3 am;rw[e]at q1 am;have bn:AA (∀ty,(Builtin.append_ #[145,145] ty #[.slice ka n kc,.slice G.drew 1 1]).run prog (G.drew.alloc<|.cells #[NW,AT,.slice ga g gc] 166)=.ok (.slice bk (n+1) bl) W7):=by
    have Y:=M.z;rw[N,R,e]at Y;exact Y
   clear N R e E M;go_wp2_with fail;refine zr 22 (λw'=>w' (U b 236)=some (.slice ka n kc)/\w' (U b 6)=some (.int .u64 NW)/\w' (U b 3)=some (.int .u64 AT)/\w' (U X 1)=some (.slice ga g gc)) (⟨av,q6,q3,q1⟩) ?_;refine GI 0 ?_;iterate 17
    refine GV rfl ?_;try simp only[PS]
   refine Gl (i:=17) (v:=.agg #[.int .u64 NW,.int .u64 AT,.slice ga g gc]) rfl kw (λ_ _ _ h=>h) (Or.inl ⟨by rfl,?_⟩) ?_
   ·(intro wx C;(try dsimp only at C);go_simp;try with_reducible rfl)
   try simp only[PS]
   refine zD 18 rfl (λK hK=>?_);go_simp;have h:=λo=>(show(G.drew.alloc o).cell? (U b 236)=some (.slice ka n kc)/\(G.drew.alloc o) (U b 6)=some (.int .u64 NW)/\(G.drew.alloc o) (U b 3)=some (.int .u64 AT)/\(G.drew.alloc o) (U X 1)=some (.slice ga g gc)from⟨((C9.refl DA G.drew).alloc o).cell (a:=U b 236) id av,((C9.refl DA G.drew).alloc o).cell (a:=U b 6) id q6,((C9.refl DA G.drew).alloc o).cell (a:=U b 3) id q3,((C9.refl DA G.drew).alloc o).cell (a:=U X 1) id q1⟩)
   refine hK.z _ _ (h _) ?_;clear hK K;try simp only[PS]
   refine zD 19 rfl (λK hK=>?_);refine zO rfl _ _ _ _ rfl _ _ _ rfl rfl bn.z ?_;refine hK.z _ _ am.z ?_;clear hK K;try simp only[PS]
   refine GI 20 ?_;iterate 2
    refine GV rfl ?_;try simp only[PS]
   refine Dt rfl (λK hK=>?_);have f7:=bm.z;obtain⟨a,g,e,h⟩:=am.z;go_simp;refine hK.z _ _ ?_;clear hK K;try simp only[PS]
   refine zt ?_;go_wp2;go_meet;exact H7.z
  case rest =>
  obtain⟨D,V5,H7⟩:=hcut;clear A;obtain⟨e,g⟩:∃e:CS,{ u with kB:=if y.kX then u.kB++[⟨u.next,u.now,y.fs⟩]else u.kB }=e:=⟨_,rfl⟩;have a:AA ({ e with next:=e.next+1 }=u.lQ y):=by
   show _=_;rw[<-g];rfl
  have n:e.next=z.next:=by
   have B:=ad.z.2.2.2.1;rw[ah.z.1]at B;rw[<-g,<-B]
  rw[g]at H7;have E:=H7.z.c.hd (j:=6) rfl;have h:=H7.z.c.fz;obtain⟨A,h⟩:=nm e.next;have e:A+1<18446744073709551616:=by
   have:=L.z.1.next;unfold zG at this;omega
  have C:AA (FM tag i b W (u.lQ y) T1 (q++[Fs y.b]) D V5 (O++[.slice sa sn sc]) (.slice Z (O.length+1) aa) u4<|wc.setCell (b,6)<|.int .u64 ((A+1:Nat):Int)):=by
   have Y:=H7.z.next;rw[h]at Y;rw[<-a.z,h];exact Y
  rw[h]at E;have e:IntKind.u64.wrap ((A:Int)+1)=((A+1:Nat):Int):=by rw[IntKind.wrap_u64];omega
  have e:AA (Hy (u.lQ y) T1/\Fp (u.lQ y) T1<Fp z told):=a8.z.2.2.2.2.2.2 aT.z;clear g a n H7 h;go_wp2;go_roundw
  case rel =>
   refine⟨m,_,_,_,D,V5,_,C,zb ⟨e.z.1,qn L.z.2.1 e.z.2,?_,?_⟩,zb (by have:=a1.z;rw[AF,Ak];omega)⟩
   .have B:=L.z.2.2.1;rw[aF.z,AH aT.z]at B;rw[<-B];simp
   have B:=L.z.2.2.2;rw[aF.z,AH aT.z]at B;exact B
  case measure =>
   have B:=e.z.2;have h2:=aK.z;obtain⟨e,g,a⟩:=C.z.t.form;have h3:=C.z.c.pS;show(12-Jt b 236 (wc.setCell (U b 6)<|.int .u64 ((A+1:Nat):Int)))+PI u4<(12-Jt b 236 wr)+PI (.slice ta told.length tc);rw[h3,a];show _<(12-Jt b 236 wr)+told.length;rw[h2];exact B
section
variable {tag:qr} {i b:Nat} {s s':SS} {V V':SV} {W W1:rT}
def il(h:zj tag i b s V W)(ht:zL tag W)(hi:0<i)(f:DF)(N:rU)(aI:s.seen.length<=1099511627776)(aJ:s.kG.length<=1099511627776)(aW:s.most<18446744073709551616):rH 130 #[zq b,.agg (ze f N)] W (Ez tag i b W (.tuple #[]) (s.message f)):=by
 have m0:=(C9.refl DA W).alloc<|.cells (ze f N) 48;have HT:=zb ht;have M0:=zb m0;obtain⟨W0,ag⟩:=nm<|W.alloc<|.cells (ze f N) 48;have oF:=AD ag;rw[ag]at m0 M0;have h0:=h.kD m0;have H0:=zb h0;obtain⟨_,_,_,_,_,_,C,F7,F8,_⟩:=Ge oF;have OF:=zb oF;have aX:=zb ag;have c3:=h0.hd (j:=3) rfl;have aa:=h0.hd (j:=20) rfl;have ab:=h0.hd (j:=21) rfl;obtain⟨Y,ah⟩:=nm s.some_;obtain⟨mo,hm⟩:=nm s.most;obtain⟨u,N⟩:=nm f.id;obtain⟨O,ac⟩:=nm f.dl;obtain⟨nw,ai⟩:=nm s.now;obtain⟨n,hn⟩:=nm s.seen.length;obtain⟨r,hr⟩:=nm<|s.message f;have Z:AA (r=if Y=true/\32<=mo/\u<=mo-32 then s else if u∈s.seen then s else if O<nw then s else{ s with seen:=s.seen++[u],most:=if Y=false\/mo<u then u else mo,some_:=true,kG:=s.kG++[(u,f.data)] }):=by
  show _=_;rw[<-hr,<-ah,<-hm,<-N,<-ac,<-ai];rfl
 obtain⟨wa,ao,aq,aY,aZ,aK⟩:=zi (h0.rowOf (r:=12) rfl lc).1;have A:=h0.hd (j:=19) rfl;rw[aq]at A;have aL:=zb aq;have aM:=zb ah;have HM:=zb hm;have HN:=zb hn;have bc:=zb ai;rw[hr];rw[ai]at c3;rw[hm]at aa aW;rw[ah]at ab;rw[N]at C;have aN:=zb N;rw[ac]at F7;rw[hn]at A aY aI;have HF:=zb aK;have a0:=zb aJ;unfold maxLen at aZ;unfold zq;clear h ht m0 h0 oF ag hr ah hm N ac ai aq hn aK aJ;have aO:=zb<|(H0.z.left (HT.z.mod M0.z)<|C9.refl DA W0).lJ HT.z hi M0.z;go_enter func130,ntmps130;go_upto_region 1 with fail;rw[aX.z];obtain⟨od,h⟩:=nm<|decide<|Y=true/\32<=mo/\u<=mo-32;have D:=zb h;clear h
 go_cut [25] (λbv wx=>bv=.bool od/\AA (C9 DA W0 wx))
 case first=>as_aux_lemma =>
  have L:=D.z;clear A c3 Z;cases Y
  .have e:od=false:=by rw[<-L];simp
   subst e;clear L D;go_wp2;go_quiet (fail);go_wp2;go_meet;exact⟨rfl,zb<|rS.drewN _⟩
  by_cases ar:32<=mo
  .have d1:(32:Int)<=mo:=I;have N:IntKind.u64.wrap ((mo:Int)-32)=((mo-32:Nat):Int):=by rw[IntKind.wrap_u64];omega
   obtain⟨mq,h⟩:=nm<|mo-32;rw[h]at N L;clear h;by_cases aP:u<=mq
   .have d2:(u:Int)<=mq:=I;have e:od=true:=by rw[<-L];simp[ar,aP]
    subst e;clear L D;go_wp2;go_quiet (fail);go_wp2;go_meet;exact⟨rfl,zb<|rS.drewN _⟩
   have d2:¬(u:Int)<=mq:=I;have e:od=false:=by rw[<-L];simp[aP]
   subst e;clear L D;go_wp2;go_quiet (fail);go_wp2;go_meet;exact⟨rfl,zb<|rS.drewN _⟩
  have d1:¬(32:Int)<=mo:=I;have d3:=A8 d1;have h:=A8 ar;have e:od=false:=by rw[<-L];simp[ar]
  subst e;clear L D;go_wp2;go_quiet (fail);go_wp2;go_meet;exact⟨rfl,zb<|rS.drewN _⟩
 case rest =>
 obtain⟨rfl,MA⟩:=hcut;obtain⟨WA,a1⟩:=nn wc;subst a1;cases od;rotate_left
 .have e:r=s:=by rw[Z.z,AL (CI D.z)]
  subst e;have h:=zb<|aO.z.lR MA.z;go_wp2_with fail;exact bodyPost_end (results_none rfl _ _ _) rfl ⟨rfl,h.z⟩
 have Z:AA (r=if u∈s.seen then s else if O<nw then s else{ s with seen:=s.seen++[u],most:=if Y=false\/mo<u then u else mo,some_:=true,kG:=s.kG++[(u,f.data)] }):=by
  show _=_;rw[Z.z,AH (of_decide_eq_false D.z)]
 have ad:=MA.z.cell (a:=U b 19) id A;have au:=MA.z.cell (a:=U b 3) id c3;have av:=MA.z.cell (a:=U W.heap.size 6) id C;have aw:=MA.z.cell (a:=U W.heap.size 7) id F7;clear A c3 C F7 aa ab F8 D;go_wp2_with fail
 go_loopw [4] (λh wr=>∃j:Nat,j<=n/\h=.int .i64 j/\AA (∀m,m<j->s.seen[m]?≠some u)/\AA (C9 DA WA wr)) (λh _=>n-(intOf h).toNat)
 case atStart=>exact⟨0,AK _,rfl,zb<|λm hm=>absurd hm I,zb rS⟩
 case round =>
  obtain⟨j,h,rfl,aQ,E⟩:=hrel;obtain⟨WJ,a2⟩:=nn wr;subst a2;have A:=E.z.cell (a:=U b 19) id ad;have c3:=E.z.cell (a:=U b 3) id au;have C:=E.z.cell (a:=U W.heap.size 6) id av;have F7:=E.z.cell (a:=U W.heap.size 7) id aw;have aR:=zb<|aO.z.lR<|MA.z.trans E.z;by_cases h:j<n
  .have e1:decide ((j:Int)<(n:Int))=true:=Ah I;obtain⟨y,D⟩:∃y,s.seen[j]?=some y:=⟨_,AG<|by rw[HN.z];exact h⟩;obtain⟨h,_⟩:=((H0.z.kD MA.z).kD E.z).rowOf (r:=12) rfl lc;rw[aL.z,HN.z]at h;obtain⟨g,hg⟩:=HF.z (by rw[HN.z];omega);rw[hg]at h A;have N:=(Gd (i:=j) (v:=.int .u64 y) h (by
    show(List.map _ s.seen)[j]?=_;rw[Ad,D];rfl)).1
   have HY:=zb D;clear D h hg ad av aw au;by_cases he:y=u
   .have d1:((y:Int)==(u:Int))=true:=by rw[he];exact beq_self_eq_true _
    have e:r=s:=by rw[Z.z,AL (AZ<|he ▸ HY.z)]
    subst e;clear he;go_wp2;go_quiet (fail);go_wp2_with fail;exact bodyPost_end (results_none rfl _ _ _) rfl ⟨rfl,aR.z.lR<|rS.drewN _⟩
   have d1:((y:Int)==(u:Int))=false:=AM.2 I;have HE:=zb he;clear he;go_wp2;go_quiet (fail);go_wp2;go_roundw
   case rel =>
    refine⟨j+1,I,by go_num,zb<|λm hm=>?_,zb<|E.z.drewN _⟩;by_cases q:m=j
    .subst q;rw[HY.z];exact λx=>HE.z<|Bc x
    exact aQ.z m I
   simp[intOf];omega
  have e1:decide ((j:Int)<(n:Int))=false:=A8 I;have h:u∉s.seen:=λx=>by
   obtain⟨m,hm⟩:=List.mem_iff_getElem?.1 x;have:=(AO.1 hm).1;rw[HN.z]at this;exact aQ.z m I hm
  have Z:AA (r=if O<nw then s else{ s with seen:=s.seen++[u],most:=if Y=false\/mo<u then u else mo,some_:=true,kG:=s.kG++[(u,f.data)] }):=by
   show _=_;rw[Z.z,AH h]
  clear h ad av aw au;by_cases hd:O<nw
  .have d1:decide ((O:Int)<(nw:Int))=true:=Ah I;have e:r=s:=by rw[Z.z,AL hd]
   subst e;go_wp2;go_quiet (fail);go_wp2_with fail;exact bodyPost_end (results_none rfl _ _ _) rfl ⟨rfl,aR.z.lR<|rS.drewN _⟩
  have d1:decide ((O:Int)<(nw:Int))=false:=A8 I;have hr:r={ s with seen:=s.seen++[u],most:=if Y=false\/mo<u then u else mo,some_:=true,kG:=s.kG++[(u,f.data)] }:=by rw[Z.z,AH hd]
  have Z:=zb hr;clear hr;go_wp2;go_quiet (fail);go_upto_region 7 with fail;obtain⟨WK,ax⟩:=nm<|WJ.drewN nq;have mK:C9 DA WJ WK:=by rw[<-ax];exact rS.drewN _
  rw[ax];have aj:=(MA.z.trans E.z).trans mK.drew;have ay:=zb aj;have ak:=H0.z.kD aj;have A:=mK.drew.cell (a:=U b 19) id A;have C:=mK.drew.cell (a:=U W.heap.size 6) id C;have aA:=zb<|And.intro A C;obtain⟨_,W2,z,L2,aS,⟨h,aB⟩,⟨va,vc,rfl⟩,m2⟩:=zj.qC ak ((HT.z.mod M0.z).mod aj) hi u (by rw[HN.z];exact aI);rw[aL.z,HN.z]at z;have m:=zb z;have a3:=zb L2;have D:=zb<|And.intro aB aS;obtain⟨_,tv⟩:=ak.rowOf (r:=12) rfl lc;have h:AA (W2 (b,19)=some (.slice wa n ao)/\W2 (W,6)=some (.int .u64 u)):=by
   refine zb ⟨m2.cell (λx=>?_) A,m2.cell (λx=>?_) C⟩
   .have:=tv _ x;rw[ak.tb]at this;simp at this
   have:=tv _ x;rw[HT.z _ (AI _)]at this;simp at this;try omega
  have E:=zb (m2.mono (S':=λg=>(tag g).1=i) (λg hg=>.inl (by rw[tv g hg])));clear z L2 m2 tv aB aS ak aj mK ax A C c3 F7;refine zr 11 (λw'=>w' (U b 19)=some (.slice wa n ao)/\w' (U W 6)=some (.int .u64 u)) (aA.z) ?_;refine GI 0 ?_;iterate 7
   refine GV rfl ?_;try simp only[PS]
  refine zD 7 rfl (λK G=>?_);go_simp;refine G.z _ _ ⟨((C9.refl DA WK.drew).alloc _).cell (a:=U b 19) id aA.z.1,((C9.refl DA WK.drew).alloc _).cell (a:=U W.heap.size 6) id aA.z.2⟩ ?_;clear G K;try simp only[PS]
  refine zD 8 rfl (λK G=>?_);refine zO rfl _ _ _ _ rfl _ _ _ rfl rfl m.z ?_;refine G.z _ _ ⟨h.z.1,h.z.2⟩ ?_;clear G K;try simp only[PS]
  refine GI 9 ?_;iterate 2
   refine GV rfl ?_;try simp only[PS]
  refine Dt rfl (λK G=>?_);obtain⟨aB,h⟩:=D.z;go_simp;refine G.z _ _ ?_;clear G K;try simp only[PS]
  refine zt ?_;obtain⟨B,_,⟨V1,rfl⟩,S1,E1,M1⟩:=_root_.id a3.z;rw[HN.z]at S1 E1 M1;obtain⟨D,h⟩:=nm<|W2.setCell (U b 19)<|.slice va (n+1) vc;rw[h]at S1 E1 M1;have m:=M1.obj (S:=λg=>(tag g).1=i) (λy=>by
   have y:=y;rw[HT.z _ (AI _)]at y;simp at y;omega) (ay.z.obj rP OF.z)
  have n:B W.heap.size=(0,0):=by
   rw[E1.lH _ (AJ.1<|ay.z.obj rP OF.z).1,HT.z _ (AI _)]
  have aT:=zb n;have a4:=zb m;obtain⟨_,_,_,_,_,_,C,_,F8,_⟩:=Ge m;have ae:=aN.z;rw[ae]at C;have aa:D (b,20)=some (.int .u64 mo):=by rw[<-HM.z];exact zj.hd S1 (j:=20) rfl
  have ab:D (b,21)=some (.bool Y):=by rw[<-aM.z];exact zj.hd S1 (j:=21) rfl
  have a5:=zb S1;have al:=zb E1;have a6:=zb M1;have E:=zb h;obtain⟨gt,A⟩:=nm<|decide<|Y=false\/mo<u;have R:=zb A;clear S1 E1 M1 m n ae h A;go_upto_region 8 with fail;rw[E.z]
  go_cut [76] (λbv wx=>bv=.bool gt/\AA (C9 DA D wx))
  case first=>as_aux_lemma =>
   have L:=R.z;clear F8 Z;cases Y
   .have e:gt=true:=by rw[<-L];simp
    subst e;clear L R;go_wp2;go_quiet (fail);go_wp2;go_meet;exact⟨rfl,zb<|rS.drewN _⟩
   by_cases hq:mo<u
   .have d1:(mo:Int)<u:=I;have d3:=Ah d1;have e:gt=true:=by rw[<-L];simp[hq]
    subst e;clear L R;go_wp2;go_quiet (fail);go_wp2;go_meet;exact⟨rfl,zb<|rS.drewN _⟩
   have d1:¬(mo:Int)<u:=I;have d3:=A8 d1;have e:gt=false:=by rw[<-L];simp[hq]
   subst e;clear L R;go_wp2;go_quiet (fail);go_wp2;go_meet;exact⟨rfl,zb<|rS.drewN _⟩
  case rest =>
  obtain⟨rfl,M4⟩:=hcut;obtain⟨W4,a7⟩:=nn wc;subst a7;have h:=zj.kD a5.z M4.z;have aC:=zb h;have m:=zj.fz h 20;have aa:=M4.z.cell (a:=U b 20) id aa;have C:=M4.z.cell (a:=U W.heap.size 6) id C;obtain⟨m2,m⟩:=nm<|(if Y=false\/mo<u then u else mo);have aD:=zb m;clear m ab F8 h;go_upto_if 76 with fail
  go_cut [] (λwx=>AA (zj B i b { s with seen:=s.seen++[u],most:=m2 } V1 wx)/\AA (C9 (λg=>(B g).1=i) W4 wx))
  case first=>as_aux_lemma =>
   cases gt
   .have e:m2=s.most:=by rw[<-aD.z,AH<|of_decide_eq_false R.z,HM.z]
    have q:zj B i b { s with seen:=s.seen++[u],most:=m2 } V1 W4:=by rw[e];exact aC.z
    have Q:=zb q;clear e q;go_wp2;go_meet;exact⟨Q,zb rS⟩
   have e:m2=u:=by rw[<-aD.z,AL (CI R.z)]
   have q:=zj.mu aC.z { s with seen:=s.seen++[u],most:=m2 } (j:=20) (v:=.int .u64 u) (by rw[e];rfl) rfl;have Q:=zb q;have h:=zb<|show C9 (λg=>(B g).1=i) W4 _ from zj.mh aC.z 20<|.int .u64 u;clear e q;go_wp2;go_meet;exact⟨Q,h⟩
  case rest =>
  obtain⟨S5,M5⟩:=hcut;obtain⟨W5,a8⟩:=nn wc;subst a8;have aU:r={ s with seen:=s.seen++[u],most:=m2,some_:=true,kG:=s.kG++[(u,f.data)] }:=by rw[Z.z,aD.z]
  have e:=zj.fz S5.z 21;have ab:W5 (b,21)=some (.bool Y):=by rw[<-aM.z];exact zj.hd S5.z (j:=21) rfl
  have s6:=zj.mu S5.z { s with seen:=s.seen++[u],most:=m2,some_:=true } (j:=21) (v:=.bool true) rfl rfl;have m6:C9 (λg=>(B g).1=i) W5 _:=zj.mh S5.z 21<|.bool true;obtain⟨W6,aE⟩:=nm<|W5.setCell (U b 21)<|.bool true;rw[aE]at s6 m6;have a9:=zb aE;have X:=s6.kD<|(C9.refl DA W6).drew;have aF:=zb<|((M4.z.mono rQ).trans M5.z).trans<|m6.drew;obtain⟨ca,ap,aG,ba,bb,_⟩:=zi (X.rowOf (r:=13) rfl lc).1;obtain⟨cn,aH⟩:=nm s.kG.length;have af:=X.hd (j:=22) rfl;rw[aG]at af;simp only[aH]at af;have aV:=aF.z.obj (λy=>by
   have y:=y;rw[aT.z]at y;simp at y;omega) a4.z
  obtain⟨_,_,_,_,_,_,C,_,F8,_⟩:=Ge aV;have ae:=aN.z;rw[ae]at C;have t6:=al.z.z.mod aF.z;obtain⟨_,W7,z,L7,am,⟨e,an⟩,⟨g,h,rfl⟩,m7⟩:=zj.ly X t6 hi u f.data a0.z;rw[aG]at z;simp only[aH]at z L7 an am;obtain⟨_,tv⟩:=X.rowOf (r:=13) rfl lc;have g:AA (W7 (b,22)=some (.slice ca cn ap)/\W7 (W,6)=some (.int .u64 u)/\W7 (W,8)=some (.string<|zy f.data)):=by
   have no:∀j,¬V1.kG.ownBlock=some (⟨W.heap.size,j,none⟩:Addr).block:=λj x=>by
    have:=tv _ x;rw[aT.z]at this;simp at this;try omega
   refine zb ⟨m7.cell (λx=>?_) af,m7.cell (no 6) C,m7.cell (no 8) F8⟩;have:=tv _ x;rw[X.tb]at this;simp at this
  have e:=zb<|And.intro af<|And.intro C F8;have h:=zb z;have m:=zb<|And.intro an am;have y:DK i tag B WK.drew W6.drew:=⟨al.z.lH,al.z.new,t6⟩;have n:=zb<|Dx.lJ HT.z hi (M0.z.trans ay.z)<|Dx.trans y (I6 al.z a6.z aF.z) L7;have q:=zb aU;clear aU s6 m6 aE X aG ba bb aH af aV C F8 ae t6 z L7 am an tv m7 y;go_upto_region 11 with fail;rw[a9.z];refine zr 14 (λw'=>w' (U b 22)=some (.slice ca cn ap)/\w' (U W 6)=some (.int .u64 u)/\w' (U W 8)=some (.string<|zy f.data)) (e.z) ?_;refine GI 0 ?_;iterate 10
   refine GV rfl ?_;try simp only[PS]
  refine zD 10 rfl (λK G=>?_);go_simp;refine G.z _ _ ⟨((C9.refl DA W6.drew).alloc _).cell (a:=U b 22) id e.z.1,((C9.refl DA W6.drew).alloc _).cell (a:=U W.heap.size 6) id e.z.2.1,((C9.refl DA W6.drew).alloc _).cell (a:=U W.heap.size 8) id e.z.2.2⟩ ?_;clear G K;try simp only[PS]
  refine zD 11 rfl (λK G=>?_);refine zO rfl _ _ _ _ rfl _ _ _ rfl rfl h.z ?_;refine G.z _ _ g.z ?_;clear G K;try simp only[PS]
  refine GI 12 ?_;iterate 2
   refine GV rfl ?_;try simp only[PS]
  refine Dt rfl (λK G=>?_);obtain⟨an,am⟩:=m.z;go_simp;refine G.z _ _ ?_;clear G K;try simp only[PS]
  refine zt ?_;rw[q.z];exact bodyPost_end (results_none rfl _ _ _) rfl ⟨rfl,n.z⟩
end
end
end Go.Proofs.YtddfdpbaiedcjabGreatDoor
