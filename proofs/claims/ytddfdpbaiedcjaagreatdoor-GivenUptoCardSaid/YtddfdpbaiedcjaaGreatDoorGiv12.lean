/- A part of Given's proof. Conditions: none. Part 12 of 15. -/
import Derived.Test.YtddfdpbaiedcjaaGreatDoorGiv11
set_option maxRecDepth 100000
set_option maxHeartbeats 16000000
set_option linter.all false
namespace Go.Proofs.YtddfdpbaiedcjaaGreatDoor
section
open Go.RowKit Go.Proofs.Tryz
variable{M:NV}{T i nb:Nat}{W w:rq}{n:NS}{tag:rD}
theorem PP(h:DZ w tag nb n M W)(hI:n.Inv T)(hT:T<=Db)(hU:n.Up)(hi:i<2):rT 22 #[(nb,0),[i]] W (EX w tag nb W (n.flush i)):=by
 have l:IntKind.i64.wrap (1-(i:Int))=((1-i:Nat):Int):=by rw[IntKind.wrap_i64];omega
 have x2:(1:Int)-(i:Int)=((1-i:Nat):Int):=I;obtain⟨J,hJ⟩:=nm<|1-i;rw[hJ]at l x2;have l:IntKind.i64.wrap (J:Int)=(J:Int):=by rw[IntKind.wrap_i64];omega
 obtain⟨l,cx,b1,⟨b2,b3⟩,b4⟩:=h.o.nJ (i:=i) hi;have ac:=hI.c i hi;have z:=(ac.nX hT).z;have aO:(n i).lE.1.length<=21:=pu z.1 ac.lW.2.2;have ag:=ac.lZ;have kc:=jq (h.cn i hi) (h.env.to (j:=i+1) I) (h.nd i hi) (hU i hi) (ac.pN hT) ac.lQ.1 I (λl hl=>by
  have:=z.2 l hl;have e:(n i).lW.2.lZ=(n i).lZ:=by
   unfold CS.lW;split<;>rfl
  omega)
 have aG:∀l∈(n i).lE.1,l.length<=65536:=λl hl=>by
  have:=z.2 l hl;have e:(n i).lW.2.lZ=(n i).lZ:=by
   unfold CS.lW;split<;>rfl
  omega
 have aP:=hI.lZ;have aQ:=hI.bl;have ar:=hI.count i hi;unfold Db at hT;unfold NS.flush;obtain⟨c,l⟩:=nm<|(n i).lE.1;obtain⟨c',aR⟩:=nm<|(n i).lE.2;obtain⟨mt,ah⟩:=nm n.lZ;obtain⟨nw,O⟩:=nm n.now;rw[l]at aO aG;rw[l,aR]at kc ⊢;obtain⟨L,hL⟩:=nm c.length;rw[hL]at aO;obtain⟨S,hS⟩:=nm<|n.lS i c';rw[hS];have aS:S.lZ=mt:=by rw[<-hS];exact ah
 have aT:S.now=nw:=by rw[<-hS];exact O
 have aU:S.lP.length<=32*T:=by rw[<-hS];exact aQ
 have aV:S.count i<=32*T:=by rw[<-hS];exact ar
 obtain⟨R,hR⟩:=nm<|NS.mM i c S;rw[hR];rw[ah]at aP;have HN:=zb h;have bw:=zb aG;have HR:=zb hR;have HS:=zb hS;clear h hI ac z ag aG hU aP aQ ar l aR hR hS ah O;go_enter func22,ntmps22;go_upto_region 2 with(go_at_call 27;refine kc.mono ?_;rintro _ W1 ⟨v,ky,h,rfl,a1,a2,a3,a4,Y,aH⟩);have m1:=a3.mono<|λg d=>.inl d.1;have h1:=HN.z.mz hi a1 a2 m1 a4;rw[HS.z]at h1;have ai:AA (∀n' wr W',zw w ky nb W1 n' wr->DO DQ wr W'->zw w tag nb W n' W'):=by
  refine zb λn' wr W' hN m'=>?_
  exact zw.trans a2.mL (m1.mono<|λg d=>.inl<|λx=>by rw[x]at d;simp at d)<|hN.mf m'
 have az:AA (∀wr,DO (λg=>ky g≠(0,0)) W1 wr->wr.ownsRow 0 9 1 v c.length (Fy c)):=zb λwr m=>m.owns Y<|λg d x=>x (aH g d).2
 have aA:∀g,(v.ownBlock=some g->ky g=(0,0)/\g<W1.heap.size):=λg d=>by
  refine⟨(aH g d).2,?_⟩;rcases Y.2 with⟨e,_⟩|⟨h,c',bx,e,_,x,_⟩
  .rw[e]at d;cases d
  rw[e]at d;cases d;exact(AI.1 x).1
 have aW:=zb aA;clear aA;obtain⟨h,l,rfl,bz,bA,aX⟩:=zk Y;rw[hL]at bz aX az;unfold maxLen at bA;have ST:=zb h1.left;have aY:=zb hL;rw[hL];clear a1 a2 a3 a4 aH Y m1 h1 b1 b2 b3 b4 kc HN hL HS;go_wp2_with fail
 go_loopw [6] (λh wr=>∃(k:Nat) (N:NS),k<=L/\h=.int .i64 k/\AA (zw w ky nb W1 N wr/\NS.mM i (c.drop k) N=R/\N.lZ=mt/\N.now=nw/\N.count i<=32*T+k/\N.lP.length<=32*T+k)) (λh _=>L-(intOf h).toNat)
 case atStart=>exact⟨0,S,AN _,rfl,zb ⟨ST.z,HR.z,aS,aT,aV,aU⟩⟩
 case round =>
  obtain⟨k,N,h,rfl,HK⟩:=hrel;clear aS aT aV aU ST HR;by_cases aZ:k<L;rotate_left
  .have bB:k=L:=I;subst bB;have h:AA (R=(true,N)):=by
    show _=_;have a:=HK.z.2.1;rw[<-aY.z,dy]at a;exact a.symm
   have u:=h.z;subst u;clear aZ;go_wp2_with fail;go_ret;exact⟨rfl,ai.z _ wr _ HK.z.1 rp⟩
  obtain⟨aj,f,ag,O,bC,bD⟩:=HK.z;obtain⟨tg,Mk,hN,au,mk⟩:=id aj;obtain⟨A,K⟩:∃A,c[k]?=some A:=⟨c[k]'(by rw[aY.z];exact aZ),AJ _⟩;have ak:=bw.z A<|AW K;obtain⟨gv,rfl⟩:=aX I;have a0:AA (ky gv=(0,0)):=(aW.z gv rfl).1;have aB:AA (gv<W1.heap.size):=(aW.z gv rfl).2;have rS:=XD (az.z wr mk) K;rw[fN K]at f;obtain⟨h,l,bE,al,m2,_⟩:=fE wr A I;have am:=hN.env.lK m2;have kd:=iR _ A l al am.tab am.err I;have a5:A.length<=h/\h<=9223372036854775807:=by
   obtain⟨_,_,e,q1,q2,_⟩:=al;cases e;unfold maxLen at q2;exact⟨q1,I⟩
  obtain⟨h,l⟩:=a5;have B:=zb hN;have ad:=zb aj;have Z:=zb au;have a6:=zb mk;have h:=zb K;have ae:=zb m2;have a7:=zb ak;cases hd:dec A with
  | sum =>
   rw[hd]at kd f;simp only at f;subst f;have F:AA (∀W',DO DQ wr W'->zw w tag nb W N W'):=zb λW' m=>ai.z _ wr _ ad.z m
   clear aj hN au mk K al am ak B ad HK;go_upto_region 6 with(go_at_call 23;refine kd.mono ?_;rintro _ W3 ⟨m3,rfl⟩);go_quiet (fail);go_wp2_with fail;go_ret;exact⟨rfl,F.z _<|((ae.z.trans m3).alloc _).drewN _⟩
  | bad p =>
   rw[hd]at kd f;simp only at f;subst f;have F:AA (∀W',DO DQ wr W'->zw w tag nb W N W'):=zb λW' m=>ai.z _ wr _ ad.z m
   clear aj hN au mk K al am ak B ad HK;go_upto_region 6 with(go_at_call 23;refine kd.mono ?_;rintro _ W3 ⟨m3,rfl⟩);go_quiet (fail);go_wp2_with fail;go_ret;exact⟨rfl,F.z _<|((ae.z.trans m3).alloc _).drewN _⟩
  | ok num fs =>
   rw[hd]at kd f;simp only at f;have a8:wr (nb,5)=some (.int .i64 mt):=by
    have:=hN.o.obj.cell (j:=5) (v:=.int .i64 N.lZ) rfl;rw[ag]at this;exact this
   have bF:wr (nb,4)=some (.int .u64 nw):=by
    have:=hN.o.obj.cell (j:=4) (v:=.int .u64 N.now) rfl;rw[O]at this;exact this
   obtain⟨gc,T,aI,a9,⟨h,l⟩,aJ,bG,_⟩:=hN.o.qo hi;obtain⟨ct,aa⟩:=nm<|N.count i;have an:AA ((if mt<A.length\/num≠ct\/fs=[]then(false,N)else if fs.any (FM nw)=true then(false,{ N with count:=ze N.count i (ct+1) })else NS.mM i (c.drop<|k+1) { N with count:=ze N.count i<|ct+1,lP:=N.lP++[(1-i,A)] })=R):=by
    show _=_;rw[<-f,ag,O,aa]
   rw[aa]at aJ bC;have h:=zG A;clear aj hN au mk K al am f;go_upto_region 6 with(go_at_call 23;refine kd.mono ?_;rintro _ W3 ⟨m3,f,ao,rfl,aK,aL,bb,be⟩;obtain⟨fa,fc,rfl,bH,bI,bJ⟩:=zk aK.1);obtain⟨FL,ap⟩:=nm ao.length;rw[ap]at bH bJ ⊢;unfold maxLen at bI;have aC:fs.length=FL:=by rw[<-aL,BD,ap]
   have f:FL<=65536:=by
    have:=(Kf (pp a7.z) hd).2.1;have:=a7.z;omega
   obtain⟨pb,aM⟩:=nm W3.heap.size;obtain⟨W4,av⟩:=nm<|W3.alloc<|.cells #[num,.slice fa FL fc] 56;have m4:=AB av;have z:W4.heap[pb]?=some (.cells #[num,.slice fa FL fc] 56 (0,0)):=by rw[<-av,<-aM];exact heap_alloc_new W3 _
   have k0:W4 pb=some (.int .u64 num):=za z rfl;have k1:W4 (pb,1)=some (.slice fa FL fc):=za z rfl;have mm:=(ae.z.trans m3).trans m4;have bf:=mm.cell (a:=(gv,k)) id rS;have bh:=mm.cell (a:=U nb 5) id a8;have bi:=mm.cell (a:=U nb 9) id a9;have bj:=mm.cell (a:=(gc,i)) id aJ;have bk:W4.frozen? ⟨gc,i,none⟩=false:=by
    have o:=B.z.o.ct.own;rw[aI]at o;rcases o.2 with⟨e,_⟩|⟨f,bm,bx,e,_,h1,_⟩
    .cases e
    cases e;exact zg<|mm.obj rk h1
   have aw:=zb mm;have bn:AA (∀wx,DO DQ W4 wx->IF wx (.slice fa FL fc) ao):=zb λwx m=>by
    have:=aK.qA.lK<|m4.trans m;rw[ap]at this;exact this
   have bo:=zb aL;have bK:=m3.size;have bL:=zb λg d=>AK ae.z.size<|bb g<|by rw[ap];exact d
   have bp:=zb λx f g d=>AK ae.z.size<|be x f g d
   have ab:=zb aC;have f:=zb aa;have bq:=zb aI;have FF:AA (∀W',DO DQ W4 W'->zw w tag nb W N W'):=zb λW' m=>ai.z _ wr _ ad.z<|aw.z.trans m
   clear aK z mm m3 m4 rS a8 a9 aJ bG aL aC aa aI ap kd bE m2;rw[aM,av];clear av;refine wp_region_quiet_lit kw kw ?_;repeat (go_big_quiet_step (fail))
   by_cases p1:mt<A.length
   .have d1:=Au p1;have u:=an.z;rw[AM (.inl p1)]at u;subst u;simp only[d1];repeat (go_big_quiet_step (fail))
    refine wpQuiet_nil ?_;intro _ X;obtain⟨nq,q⟩:=X;subst q;go_wp2_with fail;go_ret;exact⟨rfl,FF.z _<|rp.drewN _⟩
   have d1:=As p1;simp only[d1];repeat (go_big_quiet_step (fail))
   by_cases p2:num=ct;rotate_left
   .have d2:((num:Int) != (ct:Int))=true:=by rw[QJ];exact Cd.2 p2
    have u:=an.z;rw[AM (.inr<|.inl p2)]at u;subst u;simp only[d2];repeat (go_big_quiet_step (fail))
    refine wpQuiet_nil ?_;intro _ X;obtain⟨nq,q⟩:=X;subst q;go_wp2_with fail;go_ret;exact⟨rfl,FF.z _<|rp.drewN _⟩
   have d2:((num:Int) != (ct:Int))=false:=by rw[QJ];simp[p2]
   simp only[d2];repeat (go_big_quiet_step (fail))
   by_cases p3:FL=0
   .have d3:((FL:Int)==0)=true:=by simp[p3]
    have u:=an.z;have E:=Ai (by rw[ab.z];exact p3);rw[AM (.inr<|.inr E)]at u;subst u;simp only[d3];repeat (go_big_quiet_step (fail))
    refine wpQuiet_nil ?_;intro _ X;obtain⟨nq,q⟩:=X;subst q;go_wp2_with fail;go_ret;exact⟨rfl,FF.z _<|rp.drewN _⟩
   have d3:((FL:Int)==0)=false:=by simp[p3]
   have E:fs≠[]:=λx=>p3<|by rw[<-ab.z,x];rfl
   have aD:AA ((if fs.any (FM nw)=true then(false,{ N with count:=ze N.count i (ct+1) })else NS.mM i (c.drop<|k+1) { N with count:=ze N.count i<|ct+1,lP:=N.lP++[(1-i,A)] })=R):=by
    have u:=an.z;rw[AH (by simp only[not_or,Decidable.not_not];exact⟨p1,p2,E⟩)]at u;exact u
   simp only[d3];repeat (go_big_quiet_step (fail))
   refine wpQuiet_nil ?_;intro _ X;obtain⟨nq,q⟩:=X;subst q;clear d1 d2 d3 p1 E an FF;go_upto_region 8 with fail;obtain⟨W5,ax⟩:=nm<|(W4.drewN nq).setCell (gc,i)<|.int .u64<|(ct:Int)+1;have N4:=B.z.free (aw.z.drewN nq) rm;have N5:DZ w tg nb { N with count:=ze N.count i (ct+1) } Mk W5:=by
    have:=N4.qn hi (ct+1) bq.z;rw[<-ax];exact this
   have m5:DO (λq=>q=gc) W4 W5:=by
    rw[<-ax];exact((DO.refl (λq=>q=gc) W4).drewN nq).setCell (p:=(gc,i)) rj _
   have s:=B.z.o.ct.tag gc (by rw[bq.z];rfl);have bM:AA (zw w ky nb W1 { N with count:=ze N.count i (ct+1) } W5):=by
    refine zb<|zw.trans Z.z a6.z<|zw.mG (aw.z) ⟨tg,Mk,N5,λ_ _=>rfl,m5.mono<|λg d=>.inl<|by rw[show g=gc from d,s];simp⟩
   have bt:AA (∀n' W',zw w tg nb W5 n' W'->zw w tg nb W4 n' W'):=zb λn' W' c=>zw.trans (λ_ _=>rfl) (m5.mono<|λg d=>.inl<|by rw[show g=gc from d,s];simp) c
   have aE:pb≠gc:=λe=>by
    have c:wr.heap.size<=pb:=by
     rw[<-aM];exact AK ae.z.size bK
    have h3:=B.z.env.ok pb c;rw[e,s]at h3;simp at h3
   have z1:=m5.cell (a:=U pb 1) aE k1;have z4:W5 (nb,4)=some (.int .u64 nw):=by
    have:=N5.o.obj.cell (j:=4) (v:=.int .u64 N.now) rfl;rw[O]at this;exact this
   have bu:AA (∀wx,DO DQ W5 wx->IF wx (.slice fa FL fc) ao):=zb λwx m=>by
    have a:=bn.z W4 rp;refine(a.mod m5 ?_ ?_).lK m
    .intro g o n' c' e x;have d:=B.z.env.ok g (bL.z g (by cases e;rfl));rw[show g=gc from x,s]at d;simp at d
    intro fr aq g o n' c' e x;have d:=B.z.env.ok g (bp.z fr aq g (by rw[e];rfl));rw[show g=gc from x,s]at d;simp at d
   have bN:=m5.cell (a:=(gv,k)) (λx=>by
    have h3:=a0.z;rw[<-Z.z _ (aB.z)]at h3;have x:gv=gc:=x;rw[x,s]at h3;simp at h3) bf
   have ay:=zb N5;have c:=zb ax;clear N4 N5 m5 s aE k0 k1 bf bh bn ad HK bF;go_upto_region 9 with fail;try rw[c.z]
   clear c bi bj bk ax;go_wp2_with fail
   go_loopw [10] (λc wr=>∃j:Nat,j<=FL/\c=.int .i64 j/\AA (DO DQ W5 wr)/\AA ((fs.take j).any (FM nw)=false)) (λc _=>FL-(intOf c).toNat)
   case atStart=>exact⟨0,AN _,rfl,zb rp,zb<|by rw[CU];rfl⟩
   case round =>
    obtain⟨j,c,rfl,t,HL⟩:=hrel;have c:=t.z.cell (a:=U pb 1) id z1;have c:=t.z.cell (a:=U nb 4) id z4;by_cases bO:j<FL
    .obtain⟨fr,aq⟩:∃fr,ao[j]?=some fr:=⟨ao[j]'(by have:=ab.z;rw[<-bo.z,BD]at this;omega),AJ _⟩;obtain⟨c,bm,bP,_,_,h3⟩:=bu.z wr t.z;cases bP;obtain⟨⟨g,o,rfl,hc⟩,_⟩:=h3 j fr aq;obtain⟨ar,_,_,_,_,_,_,e,_⟩:=Ji hc;have E:fs[j]?=some fr.1:=by rw[<-bo.z,Bc,aq];rfl
     have HT:=zb<|gV E HL.z;have HA:AA (FM nw fr.1=true->fs.any (FM nw)=true):=zb<|dx E;obtain⟨kd,c⟩:=nm fr.1.kind;obtain⟨dl,d⟩:=nm fr.1.dl;have aN:AA (FM nw fr.1=(kd==7&&decide (dl<nw))):=by
      show _=_;unfold FM;rw[c,d]
     rw[c]at ar;rw[d]at e;clear hc h3 aq c d E;by_cases bv:kd=7
     .subst bv;by_cases aF:dl<nw
      .have d1:=Au aF;have u:=aD.z;have af:FM nw fr.1=true:=by rw[aN.z,d1];rfl
       rw[AM (HA.z af)]at u;subst u;clear af;go_wp2_with fail;go_quiet (fail);go_wp2_with fail;go_ret;exact⟨rfl,ai.z _ _ _ bM.z<|t.z.drewN _⟩
      have d1:=As aF;have af:AA (FM nw fr.1=false):=by show _=_;rw[aN.z,d1];rfl
      go_wp2_with fail;go_quiet (fail);go_wp2_with fail;go_roundw
      case rel=>exact⟨j+1,I,by go_num,zb<|t.z.drewN _,zb<|by rw[HT.z,af.z]⟩
      simp[intOf];omega
     have c:=AR.2 bv;have af:AA (FM nw fr.1=false):=by show _=_;rw[aN.z,c];rfl
     go_wp2_with fail;go_quiet (fail);go_wp2_with fail;go_roundw
     case rel=>exact⟨j+1,I,by go_num,zb<|t.z.drewN _,zb<|by rw[HT.z,af.z]⟩
     simp[intOf];omega
    have c:j=FL:=I;have u:=aD.z;have h:fs.any (FM nw)=false:=by
     have a:=HL.z;rw[c,<-ab.z,List.take_length]at a;exact a
    rw[h,AH lm]at u;have l:=zb u;obtain⟨K,T,o,p,q,_⟩:=zk<|ay.z.o.bg.own;have p8:W5 (nb,8)=some Mk.bg:=ay.z.o.obj.cell (j:=8) rfl;have s:=t.z.cell (a:=U nb 8) id p8;have v:=t.z.cell (a:=(gv,k)) id bN;have N6:=ay.z.free (t.z.drew) rm;obtain⟨a2,c2,c,B,X,E,m7,H7⟩:=N6.pQ J A (by show N.lP.length<=_;omega);have Y:=zb ((m7.cell (a:=(gv,k)) (λx=>by
     have h3:=a0.z;rw[<-Z.z _ (aB.z),ay.z.o.bg.tag gv x]at h3;simp at h3) v))
    have d:AA (∀W',DO DQ (c.setCell (nb,8)<|.slice a2 (N.lP.length+1) c2) W'->zw w ky nb W1 { N with count:=ze N.count i<|ct+1,lP:=N.lP++[(J,A)] } W'):=zb λW' m'=>zw.trans Z.z a6.z<|zw.mG aw.z<|bt.z _ _<|zw.mG ((t.z).drew)<|H7 W' m'
    obtain⟨Z,c⟩:=nm N.lP.length;have e:Mk.bg=.slice K Z T:=by rw[o];show Value.slice K N.lP.length T=_;rw[c]
    have f:({ N with count:=ze N.count i (ct+1) }:NS).lP.length=Z:=c;rw[e]at s E B;rw[f]at B;rw[c]at d bD;have t:=zb c;have F7:=zb X;have G7:=zb E;have z:=zb s;have s:=zb v;have v:=zb B;clear u h o p q p8 N6 m7 H7 X E B c f e bO;go_upto_region 14 with fail;refine zn 16 (λw'=>w' (U nb 8)=some (.slice K Z T)/\w' (gv,k)=some (.string<|zu A)) (⟨z.z,s.z⟩) ?_;refine GI 0 ?_;iterate 12
     refine GV rfl ?_;try simp only[PS]
    refine zz 12 rfl (λK c=>?_);go_simp;refine c.z _ _ ⟨((DO.refl DQ wr.drew).alloc _).cell (a:=U nb 8) id z.z,((DO.refl DQ wr.drew).alloc _).cell (a:=(gv,k)) id s.z⟩ ?_;clear c K;try simp only[PS]
    refine zz 13 rfl (λK c=>?_);refine zL rfl _ _ _ _ rfl _ _ _ rfl rfl v.z ?_;refine c.z _ _ ⟨G7.z,Y.z⟩ ?_;clear c K;try simp only[PS]
    refine GI 14 ?_;iterate 2
     refine GV rfl ?_;try simp only[PS]
    refine zY rfl (λK c=>?_);have X:=F7.z;have E:=G7.z;go_simp;refine c.z _ _ ?_;clear c K;try simp only[PS]
    refine zq ?_;go_wp2_with fail;go_roundw
    case rel =>
     refine⟨k+1,{ N with count:=ze N.count i<|ct+1,lP:=N.lP++[(J,A)] },I,by go_num,zb ⟨d.z _ rp,?_,ag,O,?_,?_⟩⟩
     .have a:=l.z;rw[hJ]at a;exact a
     .show ze N.count i (ct+1) i<=_;rw[zf];omega
     show(N.lP++[(J,A)]).length<=_;rw[AG,Ac,t.z];omega
    simp[intOf];omega
def Re(a b:rC):zu a++zu b=zu (a++b):=by
 apply ByteArray.ext;simp[zu]
def Jp(h:DZ w tag nb n M W){s:Dh}(c:s.Ok):∃W1 e i k d a,W.alloc (.cells s.cells 37)=W1/\W.heap.size=e/\DZ w tag nb n M W1/\DO DQ W W1/\Hh W1 e s/\tag e=(0,0)/\i<2/\k<8/\DR s.side 2=i/\DR s.a 8=k /\
  rT 24 #[[s.side],.int .i64 2] W1 (λe w'=>e=.returned (.int .i64 i)/\W1=w')/\rT 24 #[[s.a],.int .i64 8] W1 (λe w'=>e=.returned (.int .i64 k)/\W1=w') /\
  W1.cell? nb=some (.slice (some ⟨d,0,none⟩) 2 a)/\(2<=a/\a<=9223372036854775807)/\W1.cell? ⟨d,i,none⟩=some (.pointer<|some ⟨M.b i,0,none⟩):=by
 have e:=h.alloc<|.cells s.cells 37;obtain⟨d,a,f,l,o⟩:=e.o.nJ (i:=DR s.side 2)<|GF _;exact⟨_,_,_,_,d,a,rfl,rfl,e,rp.alloc _,Hh.of<|heap_alloc_new W _,h.env.ok _ ro,GF _,zU _ _ I,rfl,rfl,H4 s.side 2 _ c.side.1 c.side.2 I I,H4 s.a 8 _ c.a.1 c.a.2 I I,f,l,o⟩
def U7(h:DZ w tag nb n M W)(hI:n.Inv T)(hT:T<=Db){s:Dh}(hs:s.Ok)(T:s.kind=1):rT 21 #[(nb,0),.agg s.cells] W (EX w tag nb W (n.send (DR s.side 2) (DR s.a 8) s.s)):=by
 obtain⟨W1,sb,i,k,q,cx,Z,e,h1,m1,sA,B,v,f,aa,ab,ac,ad,b1,⟨b2,b3⟩,b4⟩:=Jp h hs;have N:=hs.s;have ae:∀k,k<8->(n i k).b.length<=1099511627776:=λk T=>by
  have:=((hI.c _ v).ws k T).len;omega
 have af:=hI.e _ v _ f;rw[aa];rw[ab];obtain⟨g,aj,q,e,a1,⟨a2,a3⟩,a4,⟨a5,a6⟩,a7⟩:=h1.o.ny (i:=i) (k:=k) v f;obtain⟨c0,c1,c2,c3,c4⟩:=sA;rw[T]at c0;obtain⟨u,e⟩:=nm s.s;rw[e]at c4 N;have z:=zb Z;have ks:=fC (h1.cn i v) (h1.env.to (j:=i+1) I) (k:Int) u N ae;have ag:=af.wl;unfold NS.send;rw[e];obtain⟨R,hR⟩:=nm<|(n i).send k u;rw[hR]at ks ⊢;obtain⟨q,O⟩:=R;simp only at ks ⊢;obtain⟨o,ho⟩:=nm<|n.e i k;rw[ho]at ag ⊢;have HO:=zb ho;obtain⟨RR,s⟩:∃RR:Bool×NS,(if (o.fin||o.cut)=true then(q==4,n.lS i O)else if 2048<o.wrote.length+u.length then(q==3,n.lS i O)else(q==0,(n.lS i O).nC i k { o with wrote:=o.wrote++u }))=RR:=⟨_,rfl⟩;rw[s];have c:=zb s;clear s;have HN:=zb h1;have ah:=zb m1;have q4:((q:Int)==4)=(q==4):=Gj q 4;have q3:((q:Int)==3)=(q==3):=Gj q 3;have q0:((q:Int)==0)=(q==0):=Gj q 0;unfold Dh.cells at z ⊢;rw[T,e]at z ⊢;clear e h hI h1 m1 ae af Z hs T aa ab hR ho hT;go_enter func21,ntmps21;go_upto_region 1 with fail;rw[z.z];go_upto_region 8 with(first|(go_at_call 24;refine ac.mono ?_;rintro _ _ ⟨rfl,rfl⟩;clear ac)|(go_at_call 24;refine ad.mono ?_;rintro _ _ ⟨rfl,rfl⟩)|(go_at_call 37;refine ks.mono ?_;rintro _ X ⟨rfl,hL⟩));obtain⟨ky,e,h,s,m2⟩:=HN.z.conn v hL;have Y:=h.o.oH v f;have d4:=m2.cell (a:=U sb 4) (λx=>by
  have x:(tag sb).1=i+1:=x;rw[B]at x;simp at x) c4
 have e:(n.lS i O).e i k=o:=HO.z;rw[e]at Y;obtain⟨Y,e1,e2,e3,e4,e5,ez⟩:=Y;obtain⟨S,Z⟩:=nm<|n.lS i O;rw[Z]at h e;have q:∀{n':NS} {W':rq},zw w ky nb X n' W'->zw w tag nb W n' W':=λT=>zw.mG ah.z<|zw.trans s (m2.mono<|λg hg=>.inl<|λx=>by rw[x]at hg;simp at hg) T
 have t:AA (∀W',DO DQ X W'->zw w tag nb W (n.lS i O) W'):=zb λW' m=>by rw[Z];exact q<|zw.mf h.left m
 have T:ky (M.eb i k)≠(0,0):=λx=>by
  have a:=(h.o.en i v k f).tag;have a:ky (M.eb i k)=_:=a;rw[x]at a;simp at a
 have a:=(h.o.en i v k f).obj;rw[e]at a;have E:AA (∀(e':EN) W3 W',DO (λg=>g=M.eb i k) X W3->W3.heap[M.eb i k]?=some (.cells (Fh e') 89 (0,0))->DO DQ W3 W'->zw w tag nb W ((n.lS i O).nC i k e') W'):=zb λe' W3 W' O ho m'=>by
  rw[Z];have N3:=h.oi v f e' O ho;exact q<|zw.mf ⟨ky,_,N3,λ_ _=>rfl,O.mono<|λg hg=>.inl<|by rw[show g=M.eb i k from hg];exact T⟩ m'
 obtain⟨eb,f⟩:=nm<|M.eb i k;dsimp only at Y e1 e2 e3 e4 e5 ez a;rw[f]at Y e1 e2 e3 e4 e5 ez a E;try rw[f]
 have ai:=zb a;clear s m2 h q T a HN ah hL e Z f;have a:=zG u;have e:=zG o.wrote;clear ad ks a1 a2 a3 a4 a5 a6 a7 b1 b2 b3 b4 c0 c1 c2 c3 c4 B z HO;obtain⟨wl,f⟩:=nm o.wrote.length;obtain⟨sl,h⟩:=nm u.length;rw[f]at ag e c;rw[h]at N a c;obtain⟨fn,a⟩:=nm o.fin;obtain⟨cu,e⟩:=nm o.cut;rw[a]at e1;rw[e]at e2;have l:=zb a;have A:=zb e;clear a e f h;by_cases K:2048<wl+sl
 .have db:decide ((2048:Int)-(wl:Int)<(sl:Int))=true:=Au I;go_quiet (fail);cases fn
  .cases cu
   .have d:=c.z;rw[AH (by rw[l.z,A.z];simp),AM K]at d;subst d;go_wp2_with fail;go_ret;exact⟨by first|rfl|simp only[q3],t.z _<|rp.drewN _⟩
   have d:=c.z;rw[AM (by rw[l.z,A.z];rfl)]at d;subst d;go_wp2_with fail;go_ret;exact⟨by first|rfl|simp only[q4],t.z _<|rp.drewN _⟩
  have d:=c.z;rw[AM (by rw[l.z];rfl)]at d;subst d;go_wp2_with fail;go_ret;exact⟨by first|rfl|simp only[q4],t.z _<|rp.drewN _⟩
 have db:decide ((2048:Int)-(wl:Int)<(sl:Int))=false:=As I;go_quiet (fail);cases fn
 .cases cu
  .have d:=c.z;rw[AH (by rw[l.z,A.z];simp),AH K]at d;subst d;go_upto_region 13 with fail;obtain⟨W3,a⟩:=nm<|X.drewN nq;have e:W3 eb=some (.string<|zu o.wrote):=by rw[<-a];exact Y
   have f:W3 (sb,4)=some (.string<|zu u):=by rw[<-a];exact d4
   have h:W3.frozen? ⟨eb,0,none⟩=false:=by rw[<-a];exact ez 0
   have DY:=Re o.wrote u;have h:¬9223372036854775807<wl+sl:=I;rw[a];refine zn 10 (λw'=>w' eb=some (.string<|zu o.wrote)/\w' (U sb 4)=some (.string<|zu u)) (⟨e,f⟩) ?_;refine GI 0 ?_;iterate 10
    refine GV rfl ?_;try simp only[PS]
   refine zY rfl (λK e=>?_);go_simp;refine e.z _ _ ?_;clear e K;try simp only[PS]
   refine zq ?_;go_wp2_with fail;go_ret;refine⟨by first|rfl|simp only[q0],E.z _ (X.setCell eb<|.string<|zu<|o.wrote++u) _ ((DO.refl (λg=>g=eb) X).setCell (p:=eb) rj _) ?_ ?_⟩
   .rw[zc ai.z];rfl
   rw[<-a];exact⟨rfl,rfl,rfl,AF _,λ_ _ _=>rfl⟩
  have d:=c.z;rw[AM (by rw[l.z,A.z];rfl)]at d;subst d;go_wp2_with fail;go_ret;exact⟨by first|rfl|simp only[q4],t.z _<|rp.drewN _⟩
 have d:=c.z;rw[AM (by rw[l.z];rfl)]at d;subst d;go_wp2_with fail;go_ret;exact⟨by first|rfl|simp only[q4],t.z _<|rp.drewN _⟩
def Vg(h:DZ w tag nb n M W)(hI:n.Inv T)(hT:T<=Db){s:Dh}(T:s.Ok)(hk:s.kind=2):rT 21 #[(nb,0),.agg s.cells] W (EX w tag nb W (n.finish (DR s.side 2) (DR s.a 8))):=by
 obtain⟨W1,sb,i,k,l,q,E,d,K,m1,sA,f,v,c,N,O,X,Y,b1,⟨b2,b3⟩,b4⟩:=Jp h T;have l:=T.s;rw[N];rw[O];obtain⟨g,ae,q,d,a1,⟨a2,a3⟩,a4,⟨a5,a6⟩,a7⟩:=K.o.ny (i:=i) (k:=k) v c;obtain⟨c0,c1,c2,c3,c4⟩:=sA;rw[hk]at c0;obtain⟨q,d⟩:=nm s.s;rw[d]at c4 l;have e:=zb E;have ks:=ib (K.cn i v) (K.env.to (j:=i+1) I) (k:Int);unfold NS.finish;obtain⟨R,s⟩:=nm<|(n i).finish k;rw[s]at ks ⊢;obtain⟨l,B⟩:=R;simp only at ks ⊢;obtain⟨o,Z⟩:=nm<|n.e i k;rw[Z];have HO:=zb Z;obtain⟨RR,q⟩:∃RR:Bool×NS,(if (o.fin||o.cut)=true then(l==4,n.lS i B)else(l==0,(n.lS i B).nC i k { o with fin:=true }))=RR:=⟨_,rfl⟩;rw[q];have z:=zb q;clear q;have HN:=zb K;have aa:=zb m1;have q4:((l:Int)==4)=(l==4):=Gj l 4;have q0:((l:Int)==0)=(l==0):=Gj l 0;unfold Dh.cells at e ⊢;rw[hk,d]at e ⊢;clear d h hI K m1 E T hk N O s Z hT;go_enter func21,ntmps21;go_upto_region 1 with fail;rw[e.z];go_upto_region 18 with(first|(go_at_call 24;refine X.mono ?_;rintro _ _ ⟨rfl,rfl⟩;clear X)|(go_at_call 24;refine Y.mono ?_;rintro _ _ ⟨rfl,rfl⟩)|(go_at_call 38;refine ks.mono ?_;rintro _ W2 ⟨rfl,hL⟩));obtain⟨ky,d,h,q,T⟩:=HN.z.conn v hL;have s:=h.o.oH v c;have d:=T.cell (a:=U sb 4) (λx=>by
  have x:(tag sb).1=i+1:=x;rw[f]at x;simp at x) c4
 have d:(n.lS i B).e i k=o:=HO.z;rw[d]at s;obtain⟨s,X,e2,e3,e4,e5,ez⟩:=s;obtain⟨S,K⟩:=nm<|n.lS i B;rw[K]at h d;have l:∀{n':NS} {W':rq},zw w ky nb W2 n' W'->zw w tag nb W n' W':=λE=>zw.mG aa.z<|zw.trans q (T.mono<|λg N=>.inl<|λx=>by rw[x]at N;simp at N) E
 have ab:AA (∀W',DO DQ W2 W'->zw w tag nb W (n.lS i B) W'):=zb λW' m=>by rw[K];exact l<|zw.mf h.left m
 have E:ky (M.eb i k)≠(0,0):=λx=>by
  have a:=(h.o.en i v k c).tag;have a:ky (M.eb i k)=_:=a;rw[x]at a;simp at a
 have a:=(h.o.en i v k c).obj;rw[d]at a;have t:AA (∀(O:EN) W3 W',DO (λg=>g=M.eb i k) W2 W3->W3.heap[M.eb i k]?=some (.cells (Fh O) 89 (0,0))->DO DQ W3 W'->zw w tag nb W ((n.lS i B).nC i k O) W'):=zb λO W3 W' B Z m'=>by
  rw[K];have N3:=h.oi v c O B Z;exact l<|zw.mf ⟨ky,_,N3,λ_ _=>rfl,B.mono<|λg N=>.inl<|by rw[show g=M.eb i k from N];exact E⟩ m'
 obtain⟨eb,c⟩:=nm<|M.eb i k;dsimp only at s X e2 e3 e4 e5 ez a;rw[c]at s X e2 e3 e4 e5 ez a t;try rw[c]
 have ad:=zb a;clear q T h l E a HN aa hL d K c;clear Y ks a1 a2 a3 a4 a5 a6 a7 b1 b2 b3 b4 c0 c1 c2 c3 c4 f e HO;obtain⟨fn,a⟩:=nm o.fin;obtain⟨cu,c⟩:=nm o.cut;rw[a]at X;rw[c]at e2;have A:=zb a;have ac:=zb c;clear a c;have a:=ez 1;cases fn
 .cases cu
  .have u:=z.z;rw[AH (by rw[A.z,ac.z];simp)]at u;subst u;go_wp2_with fail;go_ret;refine⟨by first|rfl|simp only[q0],t.z _ (W2.setCell (U eb 1)<|.bool true) _ ((DO.refl (λg=>g=eb) W2).setCell (p:=U eb 1) rj _) ?_ rp⟩;rw[zc ad.z];rfl
  have u:=z.z;rw[AM (by rw[A.z,ac.z];rfl)]at u;subst u;go_wp2_with fail;go_ret;exact⟨by first|rfl|simp only[q4],ab.z _ rp⟩
 have u:=z.z;rw[AM (by rw[A.z];rfl)]at u;subst u;go_wp2_with fail;go_ret;exact⟨by first|rfl|simp only[q4],ab.z _ rp⟩
def DZ.qj(h:DZ w tag nb n M W)(x:Nat):DZ w tag nb { n with now:=x } M (W.setCell (nb,4) (.int .u64 x)):=by
 have m:DO (λg=>g=nb) W (W.setCell (U nb 4)<|.int .u64 x):=(DO.refl (λg=>g=nb) W).setCell (p:=U nb 4) rj _;exact h.own (h.o.head (n':={ n with now:=x }) ⟨rfl,rfl,rfl,rfl⟩ rfl rfl ⟨rfl,rfl⟩ m (by rw[zc h.o.obj.obj];rfl)) rfl rfl rfl m (λg a=>.inl<|by rw[show g=nb from a,h.o.obj.tag]) (Di.same h.env.ok m)
variable{V:CV}{b:Nat}{c:CS}
def Sm(hI:c.Inv T)(a:T<=Db)(h:zi tag i b c V W)(E:D0 i tag W):rT 26 #[(b,0)] W (EI tag i b W (.tuple #[]) c.tick) :=
 Ye h E.ok E.pos (by have:=hI.now;unfold Db at a;unfold zF;omega) (pp hI.waits.2) (pp hI.fl) hI.lX.o8
def U6(h:DZ w tag nb n M W)(hI:n.Inv T)(hT:T<=Db){s:Dh}(hs:s.Ok)(hk:s.kind=5)(KC:∀ky M' W',DZ w ky nb n.tick M' W'->rT 41 #[(nb,0),.agg s.cells] W' (EX w ky nb W' (n.tick.carry s))):rT 21 #[(nb,0),.agg s.cells] W (EX w tag nb W (n.tick.carry s)):=by
 obtain⟨W1,sb,i,k,gx,cx,z,a,h1,m1,c,e,Y,X,aa,ab,A,B,E,⟨K,N⟩,O⟩:=Jp h hs;have a:=hs.s;obtain⟨c0,c1,c2,c3,c4⟩:=c;rw[hk]at c0;obtain⟨ss,c⟩:=nm s.s;rw[c]at c4 a;have l:=zb z;have X:=hI.c 0 I;have Y:=hI.c 1 I;have ac:=hI.now;obtain⟨nw,a⟩:=nm n.now;have p4:W1 (nb,4)=some (.int .u64 nw):=by rw[<-a];exact h1.o.obj.cell (j:=4) rfl
 have f4:=h1.o.obj.fz 4;rw[a]at ac;have ai:T<=268435455:=hT;have HN:=zb h1;have ad:=zb m1;have HT:=zb hT;obtain⟨RR,T⟩:=nm<|n.tick.carry s;rw[T]at KC ⊢;have t:=zb e;have o:=zb KC;have ae:=zb a;have af:=zb X;have ag:=zb Y;unfold Dh.cells at l o ⊢;rw[hk,c]at l o ⊢;clear c h hI h1 m1 z hs hk aa ab hT T e KC a X Y;go_enter func21,ntmps21;go_upto_region 1 with fail;rw[l.z];go_upto_region 34 with(first|(go_at_call 24;refine A.mono ?_;rintro _ _ ⟨rfl,rfl⟩;clear A)|(go_at_call 24;refine B.mono ?_;rintro _ _ ⟨rfl,rfl⟩));obtain⟨c,a⟩:=nm<|W1.setCell (U nb 4)<|.int .u64<|(nw:Int)+1;have Z:DZ w tag nb { n with now:=nw+1 } M c:=by
  rw[<-a];exact HN.z.qj<|nw+1
 have m2:DO (λg=>g=nb) W1 c:=by
  rw[<-a];exact(DO.refl (λg=>g=nb) W1).setCell (p:=U nb 4) rj _
 have d:=HN.z.o.obj.tag;have u:Hh c sb ⟨5,s.side,s.a,s.b,ss⟩:=Hh.mod ⟨c0,c1,c2,c3,c4⟩ m2 (λx=>by
  have x:=x;rw[<-x,t.z]at d;simp at d)
 try rw[a]
 clear a E K N O;obtain⟨gx,cx,E,⟨K,N⟩,O⟩:=Z.o.nJ (i:=0) I;have kt:=Sm af.z HT.z (Z.cn 0 I)<|Z.env.to (j:=0+1) I;go_upto_region 35 with(go_at_call 26;refine kt.mono ?_;rintro _ W3 ⟨rfl,v⟩);obtain⟨q,V3,N3,f,m3⟩:=Z.conn I v;clear E K N O kt v;obtain⟨a,c,E,⟨K,N⟩,O⟩:=N3.o.nJ (i:=1) I;have a:({ n with now:=nw+1 }:NS).c 1=n.c 1:=rfl;have kt:rT 26 #[(M.b 1,0)] W3 (EI q (1+1) (M.b 1) W3 (.tuple #[]) (n.c 1).tick):=Sm ag.z HT.z (N3.cn 1 I)<|N3.env.to (j:=1+1) I;go_upto_region 41 with(go_at_call 26;refine kt.mono ?_;rintro _ W4 ⟨rfl,v⟩);obtain⟨a,h,A,c,p⟩:=N3.conn I v;have e:(({ n with now:=nw+1 }:NS).lS 0 (n.c 0).tick).lS 1 (n.c 1).tick=n.tick:=by
  unfold NS.tick;rw[ae.z];rfl
 have s:DZ w a nb ((({ n with now:=nw+1 }:NS).lS 0 (n.c 0).tick).lS 1 (n.c 1).tick) { ({ M with V:=V3 }:NV)with V:=h } W4:=A;rw[e]at s;have h:=zm u.c0;have z:q sb=(0,0):=by rw[f sb h,t.z]
 have q:=(u.mod m3 (λx=>by
  have x:=x;rw[t.z]at x;simp at x)).mod p (λx=>by
  have x:=x;rw[z]at x;simp at x)
 have ah:AA (∀{n':NS} {W':rq},zw w a nb W4 n' W'->zw w tag nb W n' W'):=zb λt=>by
  refine zw.mG ad.z (zw.trans (λ_ _=>rfl) (m2.mono<|λg h=>.inl<|by rw[show g=nb from h,d];simp) ?_);refine zw.trans f (m3.mono<|λg h=>.inl<|λx=>by rw[x]at h;simp at h) ?_;exact zw.trans c (p.mono<|λg h=>.inl<|λx=>by rw[x]at h;simp at h) t
 have d:=o.z a _ W4 s;obtain⟨a,h,t,z,T⟩:=q;clear Z N3 A s e m2 m3 p f c E K N O kt v u o HN c0 c1 c2 c3 c4 p4 f4 B l;go_wp2_with (go_at_call 41;refine d.mono ?_;rintro _ a ⟨rfl,v⟩);go_ret;exact⟨rfl,ah.z v⟩
section
variable {w:rq} {tag tag2:rD} {nb:Nat} {n:NS} {M:NV} {W:rq}
def DZ.n6(h:DZ w tag nb n M W)(d:∀g,tag2 g=tag g\/((tag g=(3,6)\/tag g=(0,0))/\M.bg.ownBlock≠some g/\(tag2 g=(0,0)\/tag2 g=(3,6))/\g<W.heap.size/\w.heap.size<=g/\2<=g)):DZ w tag2 nb n M W:=by
 have c:∀{r:Nat} g,r≠6->tag g=(3,r)->tag2 g=(3,r):=λg f a=>by
  rcases d g with x|⟨x|x,_⟩
  .rw[x,a]
  .rw[a]at x;simp at x;exact absurd x f
  rw[a]at x;simp at x
 have row:∀{r e l k:Nat} {v:rt} {p:rF},r≠6->Em tag r e l v k p W->Em tag2 r e l v k p W:=λf p=>⟨p.own,λg a=>c g f<|p.tag g a⟩
 have mu:∀{r b t:Nat} {cs:Array rt},r≠6->Ew tag r b cs t W->Ew tag2 r b cs t W:=λf p=>⟨p.obj,c _ f p.tag⟩
 refine
  {o :=
    {obj:=mu I h.o.obj
     x:=row I h.o.x
     ev:=row I h.o.ev
     gv:=row I h.o.gv
     nx:=row I h.o.nx
     ct:=row I h.o.ct
     bg:=⟨h.o.bg.own,λg a=>?_⟩
     er:=λi c=>row I<|h.o.er i c
     en:=λi c k d=>mu I<|h.o.en i c k d
     gr:=λi c=>row I<|h.o.gr i c
     gl:=h.o.gl
     gn:=λi c j b s hb e=>mu I (h.o.gn i c j b s hb e) }
   cn:=λi c=>(h.cn i c).mod (DO.refl DQ W) rm<|λg a=>?_
   env:=⟨λg a=>?_,h.env.pos,h.env.err,h.env.tab,?_,?_⟩
   nd:=λi c g r f=>?_
   mod:=h.mod
   t1:=λg a=>?_ }
 .rcases d g with x|⟨_,x,_⟩
  .rw[x];exact h.o.bg.tag g a
  exact absurd a x
 .rcases d g with x|⟨x|x,_⟩
  .exact x
  .rw[x]at a;simp at a;omega
  rw[x]at a;simp at a
 .rcases d g with x|⟨_,_,_,x,_⟩
  .rw[x];exact h.env.ok g a
  omega
 .rcases d 0 with x|⟨_,_,_,_,_,x⟩
  .rw[x];exact h.env.g0
  omega
 .rcases d 1 with x|⟨_,_,_,_,_,x⟩
  .rw[x];exact h.env.g1
  omega
 .rcases d g with x|⟨_,_,x|x,_⟩
  .rw[x];exact h.nd i c g r f
  .rw[x];intro y;have:=A8 Prod.fst y;simp at this
  rw[x];intro y;have:=A8 Prod.fst y;simp only at this;omega
 rcases d g with x|⟨_,_,_,_,x,_⟩
 .rw[x]at a;exact h.t1 g a
 exact x
def DZ.aside(h:DZ w tag nb n M W):∃tag2 A,DZ w tag2 nb { n with lP:=[] } A (W.setCell (nb,8) (.slice none 0 0))/\(W.setCell (nb,8) (.slice none 0 0)).ownsRow 0 62 2 M.bg n.lP.length (zO n.lP)/\(∀q,M.bg.ownBlock=some q->tag2 q=(0,0)) /\
  ∀n' u,zw w tag2 nb (W.setCell (nb,8)<|.slice none 0 0) n' u->zw w tag nb W n' u:=by
 obtain⟨W',f⟩:=nm<|W.setCell (U nb 8)<|.slice none 0 0;have l:=h.o.obj.tag;have a:∀q,M.bg.ownBlock=some q->tag q=(3,6)/\q<W.heap.size:=λq a=>⟨h.o.bg.tag q a,by
  rcases h.o.bg.own.2 with⟨e,_⟩|⟨K,N,A,e,_,x,_⟩
  .rw[e]at a;cases a
  rw[e]at a;cases a;exact(AI.1 x).1⟩
 have m:DO (λg=>g=nb) W W':=by rw[<-f];exact(DO.refl (λg=>g=nb) W).setCell (p:=U nb 8) rj _
 have o:=m.owns h.o.bg.own (λg c x=>by
  have:=(a g c).1;rw[show g=nb from x,l]at this;simp at this)
 have B :=
  h.o.om ru [] m (λg c=>.inl<|by rw[show g=nb from c,l]) (λ_ _=>rfl) (by rw[<-f,zc h.o.obj.obj];rfl) (World.ownsRow_nil W' 0 _ 2) (λg c=>by cases c)
 have E:=h.own B rfl rfl rfl m (λg c=>.inl<|by rw[show g=nb from c,l]) (Di.same h.env.ok m);have v:W'.heap.size=W.heap.size:=by rw[<-f];simp[World.setCell]
 have two:∀q,M.bg.ownBlock=some q->2<=q:=λq d=>by
  have t:=(a q d).1;have s:=h.env.g0;have z:=h.env.g1;rcases(I:q=0\/q=1\/2<=q)with rfl|rfl|x
  .rw[t]at s;simp at s
  .rw[t]at z;simp at z
  exact x
 obtain⟨tag2,e⟩:=nm<|(λg=>if M.bg.ownBlock=some g then(0,0)else tag g);have p:DZ w tag2 nb { n with lP:=[] } { M with bg:=.slice none 0 0 } W':=E.n6 (λg=>by
  rw[<-e];by_cases x:M.bg.ownBlock=some g
  .exact .inr ⟨.inl (a g x).1,by simp[Value.ownBlock],.inl<|AM x,by rw[v];exact(a g x).2,h.t1 g<|by rw[(a g x).1];simp,two g x⟩
  exact .inl<|AH x)
 rw[f];refine⟨tag2,_,p,o,λq d=>by rw[<-e];exact AM d,λn' u f=>?_⟩;obtain⟨o,z,A,p,B⟩:=f;obtain⟨f,s⟩:=nm<|(λg=>if M.bg.ownBlock=some g then(3,6)else o g);have t:∀q,M.bg.ownBlock=some q->o q=(0,0):=λq d=>by
  rw[p q (by rw[v];exact(a q d).2),<-e];exact AM d
 have o:DZ w f nb n' z u:=A.n6 (λg=>by
  rw[<-s];by_cases x:M.bg.ownBlock=some g
  .refine .inr ⟨.inr<|t g x,λy=>?_,.inr<|AM x,A7 (by rw[v];exact(a g x).2) B.size,h.t1 g<|by rw[(a g x).1];simp,two g x⟩;have:=A.o.bg.tag g y;rw[t g x]at this;simp at this
  exact .inl<|AH x)
 have d:∀g,g<W.heap.size->f g=tag g:=λg c=>by
  rw[<-s];by_cases x:M.bg.ownBlock=some g
  .simp only[AM x];exact(a g x).1.symm
  simp only[AH x];rw[p g (by rw[v];exact c),<-e];exact AH x
 refine⟨f,z,o,d,(m.mono<|λg c=>.inl<|by rw[show g=nb from c,l];simp).then B<|λg c=>.inl<|λy=>c ?_⟩;rw[<-e];simp only;split
 .rfl
 exact y
end
theorem UV:∀(l:List (Nat×rC)) {n:NS} {ok:Bool} {T:Nat},n.Inv T->(∀p∈l,p.1<2/\0<p.2.length/\p.2.length<=400)->T+400*l.length<=Db->(NS.mW l n ok).2.Inv (T+400*l.length)
 | [],_,_,_,h,_,_=>h
 | f::l,n,ok,T,h,hl,hT=>by
  simp only[AS]at hT ⊢;have a:=(h.recv f.1 f.2<|pp<|(hl f AQ).2.2).mono (pp ((hl f AQ).2.2):T+f.2.length<=T+400);have c:=UV l (ok:=ok&&(n.recv f.1 f.2).2.1&&(n.recv f.1 f.2).1==0) a (λp a=>hl p<|AV _ a) I;exact c.mono I
theorem TY:∀(l:List (Nat×rC)) {n:NS} {ok:Bool},n.Up->(NS.mW l n ok).1=true->(NS.mW l n ok).2.Up/\ok=true
 | [],_,_,u,h=>⟨u,h⟩
 | f::l,n,ok,u,h=>by
  have k:(NS.mW l (n.recv f.1 f.2).2.2<|ok&&(n.recv f.1 f.2).2.1&&(n.recv f.1 f.2).1==0).1=true:=h;by_cases c:(n.recv f.1 f.2).1=0
  .obtain⟨a,b⟩:=TY l (u.recv f.1 f.2<|.inl c) k;simp only[AZ]at b;exact⟨a,b.1.1⟩
  exfalso;have d:∀(l:List (Nat×rC)) (n:NS),(NS.mW l n false).1=false:=by
   intro l
   induction l with
   | nil=>intro n;rfl
   | cons f l ih=>intro n;exact ih _
  have e:(ok&&(n.recv f.1 f.2).2.1&&(n.recv f.1 f.2).1==0)=false:=by
   rw[AR.2 c,Bool.and_false]
  rw[e,d]at k;cases k
theorem UU:∀(l:List (Nat×rC)) (n:NS) (ok:Bool),(NS.mW l n ok).2.lP=n.lP
 | [],_,_=>rfl
 | f::l,n,ok=>(UU l (n.recv f.1 f.2).2.2 _).trans rfl
def Yw(n:NS)(i k a:Nat):(n.read i k a).2.lP=n.lP:=by
 unfold NS.read;split<;>rfl
theorem UT:∀(l:List (Nat×Nat)) (n:NS) (ok:Bool),(NS.reads l n ok).2.lP=n.lP
 | [],_,_=>rfl
 | p::l,n,ok=>(UT l (n.read p.1 p.2 4096).2 _).trans<|Yw _ _ _ _
theorem US:∀(l:List (Nat×Nat)) {n:NS} {ok:Bool} {T:Nat},n.Inv T->(NS.reads l n ok).2.Inv T
 | [],_,_,_,h=>h
 | p::l,_,_,_,h=>US l<|h.read p.1 p.2 4096
theorem TX:∀(l:List (Nat×Nat)) {n:NS} {ok:Bool},n.Up->(NS.reads l n ok).2.Up
 | [],_,_,u=>u
 | p::l,_,_,u=>TX l<|u.read p.1 p.2 4096
theorem TW:∀(l:List (Nat×Nat)) {n:NS} {ok:Bool},(NS.reads l n ok).1=true->ok=true
 | [],_,_,h=>h
 | p::l,n,ok,h=>by
  have:=TW l (n:=(n.read p.1 p.2 4096).2) h;simp only[AZ]at this;exact this.1
def Q5(a:T<=Db)(h:n.Inv T)(hi:i<2):(n.flush i).2.lP.length<=n.lP.length+21:=by
 have c:=(h.c i hi).nX a;have a:=(h.c i hi).lW.2.2;have a:(n i).lE.1.length<=21:=pp c.z.1;unfold NS.flush;obtain⟨c,m,a,d,e,f⟩:=PQ i (n i).lE.1<|n.lS i (n i).lE.2;rw[a];show(n.lP++m).length<=_;rw[AG];omega
def RZ(hb:n.lP=[]):n.step Kb=(true,n.tick):=by
 unfold NS.step Kb;simp only[(lc:¬((5:Int)=1)),(lc:¬((5:Int)=2)),(lc:¬((5:Int)=3)),(lc:¬((5:Int)=4)),BZ,A9];unfold NS.carry;have e:n.tick.lP=[]:=hb;rw[AM e]
def lR:Nat:=16803
def U5(c:T+lR<=Db)(h:n.Inv T)(u:n.Up)(hb:n.lP=[]):n.mR.2.Inv (T+lR)/\n.mR.2.lP=[]/\(n.mR.1=true->n.mR.2.Up):=by
 unfold lR at c ⊢;unfold NS.mR;rw[RZ hb];simp only;have c:=h.tick;have f:=u.tick;have h:n.tick.lP=[]:=hb;unfold NS.oh NS.oe NS.lR;have d:=c.flush (i:=0) I I;have l:=NS.Up.flush (i:=0) I c f I;have e:=Q5 (i:=0) I c I;rw[h]at e;have a:=d.flush (i:=1) I I;have o:=NS.Up.flush (i:=1) I d l I;have c:=Q5 (i:=1) I d I;generalize ((n.tick.flush 0).2.flush 1).2=N at *;simp only[Ae]at e;have q:({ N with lP:=[] }:NS).Inv (T+1+1+1):=⟨a.lZ,a.mj,a.c,a.e,a.now,a.next,a.count,a.gl,a.g,AN _,λp s=>(by cases s)⟩;refine⟨?_,?_,λok=>?_⟩
 .have x:=UV N.lP (ok:=true&&(n.tick.flush 0).1&&((n.tick.flush 0).2.flush 1).1) q a.lP I;exact(US Gk x).mono I
 .rw[UT,UU]
 exact TX _ (TY _ (n:={ N with lP:=[] }) o<|TW _ ok).1
def Yv:(prog.info? 52).map (λi=>(i.zero,i.size,i.bytes))=some (some (.pointer none),1,8):=kw
def Du.qN(h:Du tag nb n M W)(hi:i<2):∃g a,M.nx=.slice (some ⟨g,0,none⟩) 2 a/\W (nb,3)=some (.slice (some ⟨g,0,none⟩) 2 a)/\(2<=a/\a<=9223372036854775807)/\W ⟨g,i,none⟩=some (.int .u64 (n.next i:Int))/\W.frozen? ⟨g,i,none⟩=false/\tag g=(3,4):=by
 obtain⟨g,a,c,d,e,f⟩:=h.nx.form I;have c0:W (nb,3)=some M.nx:=h.obj.cell (j:=3) rfl;have x:=h.nx.own;rw[c]at c0 x;have y:=Ij x (i:=i) (v:=.int .u64 (n.next i:Int)) (by
  rcases(I:i=0\/i=1)with rfl|rfl<;>rfl)
 unfold maxLen at e;exact⟨g,a,c,c0,⟨d,I⟩,y.1,y.2,f⟩
variable{cap g:Nat}
def DZ.qi(h:DZ w tag nb n M W)(hi:i<2)(x:Nat)(a:M.nx=.slice g 2 cap):DZ w tag nb { n with next:=ze n.next i x } M (W.setCell (g,i) (.int .u64 x)):=by
 have c:=h.o.nx.tag g (by rw[a];rfl);have m:DO (λq=>q=g) W (W.setCell (g,i)<|.int .u64 x):=(DO.refl (λq=>q=g) W).setCell (p:=(g,i)) rj _;exact h.own (h.o.qi hi x a) rfl rfl rfl m (λq a=>.inl<|by rw[show q=g from a,c]) (Di.same h.env.ok m)
def DZ.oT(h:DZ w tag nb n M W)(hi:i<2)(X:SN)(a:(n.g i).length<=1000000000000):∃f cg ga ca a c l,W (nb,2)=some (.slice (some ⟨f,0,none⟩) 2 cg)/\(2<=cg/\cg<=9223372036854775807)/\W ⟨f,i,none⟩=some (.slice ga (n.g i).length ca)/\tag f=(3,3) /\
   (∀ty,(Builtin.append_ #[49,49] ty #[.slice ga (n.g i).length ca,.slice (W.heap.size+1,0) 1 1]).run prog ((W.alloc<|.cells (Kl X) 51).alloc<|.cells #[(W.heap.size,0)] 52)=.ok (.slice a ((n.g i).length+1) c) l)/\l.frozen? ⟨f,i,none⟩=false/\(∃u,l.cell? ⟨f,i,none⟩=some u)/\DO (λq=>tag q=(3,9+i)) W l /\
   ∀W',DO DQ (l.setCell ⟨f,i,none⟩<|.slice a ((n.g i).length+1) c) W'->zw w tag nb W { n with g:=ze n.g i (n.g i++[X]) } W':=by
 obtain⟨ii,af,hz,ag,ah⟩:=info_parts Yv;obtain⟨f,cg,e1,e2,e3,e4⟩:=h.o.gv.form I;obtain⟨ga,ca,f1,a,c,f4⟩:=zk (h.o.gr i hi).own;have aa:=h.o.gl i hi;have c0:W (nb,2)=some M.gv:=h.o.obj.cell (j:=2) rfl;have x:=h.o.gv.own;rw[e1]at c0 x;have y:=Ij x (i:=i) (v:=M.gr i) (by
  rcases(I:i=0\/i=1)with rfl|rfl<;>rfl)
 unfold maxLen at e3;obtain⟨W1,K⟩:=nm<|W.alloc<|.cells (Kl X) 51;obtain⟨W0,N⟩:=nm<|W1.alloc<|.cells #[(W.heap.size,0)] 52;have a:=AB K;have ab:=AB N;have m0:=a.trans ab;have c:=AC K;have s0:W0.heap.size=W.heap.size+2:=by rw[<-N];simp[c]
 have ai:=AD K;have a:W0.heap[W.heap.size+1]?=some (.cells #[(W.heap.size,0)] 52 (0,0)):=by rw[<-N,<-c];exact heap_alloc_new W1 _
 have c:∀(j:Nat) u,[Eu W.heap.size][j]?=some u->W0 ((⟨W.heap.size+1,0,none⟩:Addr).add j)=some u:=λj u v=>by
  rw[zX];refine za a ?_;rw[Aw,<-Array.getElem?_toList];exact v
 obtain⟨E,l,r2,o2,g2,n2⟩:=zN (P:=prog) W0 49 52 ii _ 1 8 underlying49 af hz ag ah rfl lc (M.gr i) (M.gb i).length ((M.gb i).map Eu) (m0.owns (h.o.gr i hi).own<|λ_ _ x=>x)
  ⟨W.heap.size+1,0,none⟩ 1 1 [Eu W.heap.size] rfl c (by intro u hu;simp at hu;subst hu;rfl) lw I
 have t:=(h.o.gr i hi).tag;have m2:=(DO.refl _ W0).grown g2<|λq s=>.inl s;have mm:=(m0.mono rm).then m2<|λq s=>.inl<|t q s;have a:W.heap.size+2<=l.heap.size:=by rw[<-s0];exact m2.size
 have aj:∀q,E.ownBlock=some q->q<l.heap.size:=λq s=>by
  rcases o2.2 with⟨e,_⟩|⟨a,c,ak,e,_,x,_⟩
  .rw[e]at s;cases s
  rw[e]at s;cases s;exact(AI.1 x).1
 have ac:∀q,E.ownBlock=some q->tag q=(3,9+i)\/W.heap.size+2<=q:=λq s=>by
  rcases n2 q s with z|z
  .exact .inl (t q z)
  exact .inr I
 have o:=λq s=>h.env.ok q s
 obtain⟨ky,A⟩:=nm<|(λg=>if g=W.heap.size then(3,40+2*(M.gb i).length+i)else if W.heap.size<=g/\E.ownBlock=some g/\g<l.heap.size then(3,9+i)else tag g);have O:∀g,g<W.heap.size->ky g=tag g:=λg d=>by
  rw[<-A];simp only;rw[AH I,AH (λx=>I)]
 have Y:∀g,tag g≠(0,0)->ky g=tag g:=λg d=>by
  by_cases q:g<W.heap.size
  .exact O g q
  exact absurd (o g I) d
 have ad:=zm y.1;have Z:¬tag f=(3,9+i):=λx=>by rw[e4]at x;simp at x;omega
 have ae:E.ownBlock≠some f:=λx=>by
  rcases ac f x with z|z
  .exact Z z
  omega
 obtain⟨W3,T⟩:=nm<|l.setCell (f,i) E;have m3:DO (λg=>g=f) l W3:=by rw[<-T];exact(DO.refl (λg=>g=f) l).setCell (p:=(f,i)) rj E
 have m4:DO (λg=>tag g=(3,9+i)\/g=f) W W3:=(mm.mono<|λg d=>.inl<|.inl d).trans<|m3.mono<|λg d=>.inl<|.inr d;have x2:l.ownsRow 0 49 1 (.slice f 2 cg) 2 [M.gr 0,M.gr 1]:=mm.owns x (λg d z=>by cases d;exact Z z);have a:W3.heap[W.heap.size]?=some (.cells (Kl X) 51 (0,0)):=by
  refine m3.obj (λz=>by have z:=z;omega)<|m2.obj (λz=>?_)<|ab.obj rk ai;have:=t _ z;rw[o _ ro]at this;simp at this
 have o':Du ky nb { n with g:=ze n.g i (n.g i++[X]) } { M with gr:=ze M.gr i E,gb:=ze M.gb i (M.gb i++[W.heap.size]) } W3:=by
  refine h.o.pB hi X E m4 (λg d=>?_) Y ⟨?_,λg d=>?_⟩ (m3.owns ?_<|λg d z=>ae<|by rw[d,show g=f from z]) (λg d=>?_) a ?_
  .rcases d with z|z
   .exact .inr (.inl z)
   rw[z];exact .inl e4
  .have z:=QW (i:=i) E x2;rw[T]at z;rw[e1];rcases(I:i=0\/i=1)with rfl|rfl
   .exact z
   exact z
  .rw[e1]at d;cases d;rw[O f ad,e4]
  .rw[BX];exact o2
  .rcases ac g d with z|z
   .rw[Y g (by rw[z];simp),z]
   rw[<-A];simp only;rw[AH I,AM ⟨I,d,aj g d⟩]
  rw[<-A];exact AM rfl
 have a:W3.heap.size=l.heap.size:=by rw[<-T];simp[World.setCell]
 have N3:DZ w ky nb { n with g:=ze n.g i (n.g i++[X]) } { M with gr:=ze M.gr i E,gb:=ze M.gb i (M.gb i++[W.heap.size]) } W3:=by
  refine h.own o' rfl rfl rfl m4 (λg d=>?_) ⟨O,λg d=>?_,λg d=>?_⟩
  .rcases d with z|z
   .exact .inl (by rw[z])
   exact .inl<|by rw[z,e4]
  .rw[<-A];simp only;split
   .exact .inl rfl
   split
   .exact .inl rfl
   exact .inr<|o g d
  rw[a]at d;rw[<-A];simp only;rw[AH I,AH (λx=>I)];exact o g I
 obtain⟨a,c2,B,-⟩:=zk o2;rw[aa]at B f1;rw[f1]at y r2;refine⟨f,cg,ga,ca,a,c2,l,c0,⟨e2,I⟩,y.1,e4,?_,?_,⟨M.gr i,?_⟩,mm,λW' m'=>?_⟩
 .rw[K,N];rw[B]at r2;exact r2
 .rcases x2.2 with⟨e,_⟩|⟨c,a,ak,e,_,h1,_⟩
  .cases e
  cases e;exact zg h1
 .exact(Ij x2 (i:=i) (by
   rcases(I:i=0\/i=1)with rfl|rfl<;>rfl)).1
 rw[<-B,T]at m';exact zw.mf ⟨ky,_,N3,O,m4.mono (λg d=>.inl (by
  rcases d with z|z
  .rw[z];simp
  rw[z,e4];simp))⟩ m'
def IA:Nat->Nat
 | 0=>69
 | 1=>87
 | 2=>49
 | _=>43
def J1:Nat->Nat
 | 4=>9
 | r=>r
def Jb(mt wn tt:Nat)(R:Nat->rt):Array rt:=#[R 0,R 1,R 2,R 3,.int .u64 0,.int .i64 mt,.int .i64 wn,.int .i64 tt,.slice none 0 0,R 4]
structure BN(w:rq)(tag:rD)(nb mt wn tt:Nat)(R:Nat->rt)(L:Nat->List rt)(C:Nat)(b:Nat->Nat)(V:Nat->CV)(D:Nat)(er:Nat->rt)(eb:Nat->Nat)(W:rq):Prop where
 obj:Ew tag 0 nb (Jb mt wn tt R) 48 W
 row:∀r,r<5->Em tag (r+1) (IA r) 1 (R r) (L r).length (L r) W
 en:∀d,d<D->Ew tag (20+d) (eb d) (Fh EN.zero) 89 W
 er:∀j,j<2->8*j<D->Em tag (7+j) 86 1 (er j) (min 8<|D-8*j) ((List.range<|min 8<|D-8*j).map λk=>Eu<|eb<|8*j+k) W
 cn:∀j,j<C->zi tag (j+1) (b j) (CS.new mt wn tt) (V j) W
 c2:C<=2
 d16:D<=16
 env:D0 1 tag W
 nd:∀j,j<2->GD (j+1) tag
 mod:DO DQ w W
 t1:∀g,tag g≠(0,0)->w.heap.size<=g
section
variable {S:Nat->Prop} {w:rq} {tag ky:rD} {nb mt wn tt:Nat} {R:Nat->rt} {L:Nat->List rt} {C:Nat} {b:Nat->Nat} {V:Nat->CV} {D:Nat} {er:Nat->rt} {eb:Nat->Nat} {W W':rq}
def BN.lK(h:BN w tag nb mt wn tt R L C b V D er eb W)(m:DO DQ W W'):BN w tag nb mt wn tt R L C b V D er eb W' :=
 {obj:=h.obj.mod m rm (λ_ _=>rfl)
  row:=λr a=>(h.row r a).mod m rm<|λ_ _=>rfl
  en:=λd hd=>(h.en d hd).mod m rm<|λ_ _=>rfl
  er:=λj a hd=>(h.er j a hd).mod m rm<|λ_ _=>rfl
  cn:=λj a=>(h.cn j a).lK m
  c2:=h.c2,d16:=h.d16,env:=h.env.lK m,nd:=h.nd,mod:=h.mod.trans m,t1:=h.t1 }
variable{q:Nat}
def BN.conn(h:BN w tag nb mt wn tt R L C b V D er eb W)(l:C<2)(s:Dk tag (C+1) q W (CS.new mt wn tt) W'):∃ky p,BN w ky nb mt wn tt R L (C+1) (ze b C q) p D er eb W':=by
 obtain⟨ky,p,a,e,m,d⟩:=s.qO I<|h.nd C l;have f:∀g,tag g≠(0,0)->ky g=tag g:=λg c=>by
  by_cases q:g<W.heap.size
  .exact e.mL g q
  exact absurd (h.env.ok g I) c
 have l:∀{r:Nat} g,(tag g).1=C+1->tag g≠(3,r):=λg c x=>by rw[x]at c;simp only at c;omega
 refine⟨ky,ze V C p,
  {obj:=h.obj.mod m l f
   row:=λr p=>(h.row r p).mod m l f
   en:=λd hd=>(h.en d hd).mod m l f
   er:=λj o hd=>(h.er j o hd).mod m l f
   cn:=λj o=>?_
   c2:=I
   d16:=h.d16
   env:=((h.env.to (j:=C+1) I).left e m).to I
   nd:=λj o=>?_
   mod:=h.mod.then m<|λg c=>.inr<|h.t1 g<|λx=>by rw[x]at c;simp at c
   t1:=λg c=>?_ }⟩
 .by_cases x:j=C
  .subst x;rw[zf,zf];exact a
  rw[zd _ _ x,zd _ _ x];exact(h.cn j I).mod m (λg c y=>I) (λg c=>f g<|λy=>by rw[y]at c;simp at c)
 .by_cases x:j=C
  .subst x;exact d
  exact(h.nd j o).other e I I
 by_cases x:g<W.heap.size
 .exact h.t1 g (by rw[<-e.mL g x];exact c)
 have:=h.mod.size;omega
def BN.build{R':Nat->rt}{l:Nat->List rt}{c:Nat}{f:Nat->rt}{a:Nat->Nat}(h:BN w tag nb mt wn tt R L C b V D er eb W)(m:DO S W W')(o:∀g,S g->(tag g).1=3\/W.heap.size<=g)(e:Di 3 tag ky W W')
  (obj:Ew ky 0 nb (Jb mt wn tt R') 48 W')
  (row:∀r,r<5->Em ky (r+1) (IA r) 1 (R' r) (l r).length (l r) W')
  (en:∀d,d<c->Ew ky (20+d) (a d) (Fh EN.zero) 89 W')
  (d:∀j,j<2->8*j<c->Em ky (7+j) 86 1 (f j) (min 8<|c-8*j) ((List.range<|min 8<|c-8*j).map λk=>Eu<|a<|8*j+k) W') (p:c<=16) :
  BN w ky nb mt wn tt R' l C b V c f a W':=by
 have c:∀g,tag g≠(0,0)->ky g=tag g:=λg a=>by
  by_cases q:g<W.heap.size
  .exact e.mL g q
  exact absurd (h.env.ok g I) a
 have c2:=h.c2;have f:=m.mono o;exact
  {obj:=obj,row:=row,en:=en,er:=d,c2:=h.c2,d16:=p
   cn:=λj d=>(h.cn j d).mod f (λg a y=>I)<|λg a=>c g<|λy=>by rw[y]at a;simp at a
   env:=((h.env.to (j:=3) I).left e f).to I
   nd:=λj d=>(h.nd j d).other e I I
   mod:=h.mod.then f<|λg a=>.inr<|h.t1 g<|λx=>by rw[x]at a;simp at a
   t1:=λg a=>by
    by_cases x:g<W.heap.size
    .exact h.t1 g (by rw[<-e.mL g x];exact a)
    have:=h.mod.size;omega }
def Lh(mt wn tt:Nat)(R:Nat->rt){r:Nat}(a:r<5)(v:rt):(Jb mt wn tt R).setIfInBounds (J1 r) v=Jb mt wn tt (ze R r v):=by
 rcases(I:r=0\/r=1\/r=2\/r=3\/r=4)with rfl|rfl|rfl|rfl|rfl<;>rfl
def Sa(mt wn tt:Nat)(R:Nat->rt){r:Nat}(a:r<5):(Jb mt wn tt R)[J1 r]?=some (R r):=by
 rcases(I:r=0\/r=1\/r=2\/r=3\/r=4)with rfl|rfl|rfl|rfl|rfl<;>rfl
variable{N e sz:Nat}{v:rt}{xs:rF}
def QV(h:W.ownsRow 0 e sz v N xs)(a:v.ownBlock=some q):q<W.heap.size:=by
 rcases h.2 with⟨e,_⟩|⟨d,f,c,e,_,x,_⟩
 .rw[e]at a;cases a
 rw[e]at a;cases a;exact(AI.1 x).1
def BN.push(h:BN w tag nb mt wn tt R L C b V D er eb W){r:Nat}(E:r<5)(u:rt)(h1:u.oneCell'=true)(t qB:Nat){z:rt}(q:(prog.info? (IA r)).map (λi=>(i.zero,i.size,i.bytes))=some (some z,1,qB))(hz:z.cells.size=1)(ht:prog.underlying t=some (.slice (IA r)))(T:qB<=24)(c:(L r).length<=1000):∃K N a c l,R r=.slice K (L r).length N/\W (nb,J1 r)=some (.slice K (L r).length N)/\(∀ty,(Builtin.append_ #[t,t] ty #[.slice K (L r).length N,.slice W 1 1]).run prog (W.alloc (.cells #[u] (IA r)))=.ok (.slice a ((L r).length+1) c) l)/\l.cell? (nb,J1 r)=some (.slice K (L r).length N)/\l.frozen? ⟨nb,J1 r,none⟩=false /\
   ∃ky,∀W',DO DQ (l.setCell (nb,J1 r)<|.slice a ((L r).length+1) c) W'->BN w ky nb mt wn tt (ze R r<|.slice a ((L r).length+1) c) (ze L r<|L r++[u]) C b V D er eb W':=by
 obtain⟨ii,c,aa,ab,ac⟩:=info_parts q;obtain⟨K,N,Y,q,f3,f4⟩:=zk (h.row r E).own;obtain⟨W1,s⟩:=nm<|W.alloc<|.cells #[u] (IA r);have m1:=AB s;have q:=AC s;have q:∀(j:Nat) x,[u][j]?=some x->W1 ((⟨W.heap.size,0,none⟩:Addr).add j)=some x:=λj x hj=>by
  rw[zX,<-s];refine za (heap_alloc_new W _) ?_;rw[Aw,<-Array.getElem?_toList];exact hj
 obtain⟨d,l,r2,o2,g2,n2⟩:=zN (P:=prog) W1 t (IA r) ii _ 1 qB ht c aa ab ac hz lc (R r) (L r).length (L r) (m1.owns (h.row r E).own<|λ_ _ x=>x)
  ⟨W.heap.size,0,none⟩ 1 1 [u] rfl q (by intro x Z;simp at Z;subst Z;exact h1) lw (by
   have:((L r).length+1)*qB<=1001*24:=Nat.mul_le_mul I T;omega)
 have t:=(h.row r E).tag;have T:=(DO.refl _ W1).grown g2<|λq c=>.inl c;have mm:=(m1.mono rm).then T<|λq c=>.inl<|t q c;have O:∀q,d.ownBlock=some q->tag q=(3,r+1)\/W.heap.size<=q:=λq c=>by
  rcases n2 q c with x|x
  .exact .inl (t q x)
  exact .inr I
 have ad:∀q,d.ownBlock=some q->q<l.heap.size:=λq c=>QV o2 c
 have c:=h.obj.tag;have t:¬tag nb=(3,r+1):=λx=>by rw[c]at x;simp at x
 have ae:d.ownBlock≠some nb:=λx=>by
  rcases O nb x with y|y
  .exact t y
  rw[h.env.ok nb y]at c;simp at c
 obtain⟨ky,v⟩:=nm<|(λg=>if W.heap.size<=g/\d.ownBlock=some g/\g<l.heap.size then(3,r+1)else tag g);have T:∀g,g<W.heap.size->ky g=tag g:=λg e=>by
  rw[<-v];exact AH<|λx=>I
 have f:∀g,tag g≠(0,0)->ky g=tag g:=λg e=>by
  by_cases q:g<W.heap.size
  .exact T g q
  exact absurd (h.env.ok g I) e
 obtain⟨q,A⟩:=nm<|l.setCell (nb,J1 r) d;have m3:DO (λg=>g=nb) l q:=by rw[<-A];exact(DO.refl (λg=>g=nb) l).setCell (p:=(nb,J1 r)) rj d
 have m4:DO (λg=>tag g=(3,r+1)\/tag g=(3,0)) W q:=(mm.mono<|λg e=>.inl<|.inl e).trans (m3.mono (λg e=>.inl (.inr (by rw[show g=nb from e,c]))));have p:q.heap.size=l.heap.size:=by rw[<-A];simp[World.setCell]
 have o:=mm.obj t h.obj.obj;have q4:∀{x:Nat},x≠r+1->x≠0->∀g,(tag g=(3,r+1)\/tag g=(3,0))->tag g≠(3,x):=λa b g e y=>by
  rcases e with z|z<;>rw[y]at z<;>simp at z
  .exact a z
  exact b z
 have B:BN w ky nb mt wn tt (ze R r d) (ze L r<|L r++[u]) C b V D er eb q:=by
  refine h.build m4 (λg e=>.inl<|by rcases e with z|z<;>rw[z]) ⟨T,λg e=>?_,λg e=>?_⟩ ⟨?_,by rw[f nb (by rw[c];simp),c]⟩ (λx Z=>?_) (λd hd=>(h.en d hd).mod m4 (q4 I I) f) (λj hj hd=>(h.er j hj hd).mod m4 (q4 I I) f) h.d16
  .rw[<-v];simp only;split
   .exact .inl rfl
   exact .inr<|h.env.ok g e
  .rw[p]at e;rw[<-v];simp only;rw[AH (λx=>I)];have:=mm.size;exact h.env.ok g I
  .rw[<-A,zc o,Lh _ _ _ _ E]
  by_cases y:x=r
  .subst y;rw[zf,zf,AG,Ac];refine⟨m3.owns o2<|λg e z=>ae<|by rw[e,show g=nb from z],λg e=>?_⟩;rcases O g e with z|z
   .rw[f g (by rw[z];simp),z]
   rw[<-v];exact AM ⟨z,e,ad g e⟩
  rw[zd _ _ y,zd _ _ y];exact(h.row x Z).mod m4 (q4 I I) f
 obtain⟨a2,c2,X,-⟩:=zk o2;subst X;rw[Y]at r2;refine⟨K,N,a2,c2,l,Y,by rw[<-Y];exact h.obj.cell<|Sa _ _ _ _ E,by rw[s];exact r2,?_,zg o,ky,λW' a=>?_⟩
 .rw[<-Y];exact za o<|Sa _ _ _ _ E
 rw[A]at a;exact B.lK a
end
def NS.nv(i:Nat)(n:NS)(ok:Bool):Bool×NS:=if i=0 then n.oh ok else if i=1 then n.oe ok else n.lR ok
def iQ(hi:i<2)(n:NS)(ok:Bool):NS.nv i n ok=NS.nv (i+1) (n.flush i).2 (ok&&(n.flush i).1):=by
 rcases(I:i=0\/i=1)with rfl|rfl<;>rfl
def du:∀i,i<2->∀k,k<8->Gk.drop (8*i+k)=(i,k)::Gk.drop (8*i+k+1):=lc
variable{k:Nat}
def gU(hi:i<2)(a:k<8)(n:NS)(ok:Bool):NS.reads (Gk.drop (8*i+k)) n ok=NS.reads (Gk.drop (8*i+k+1)) (n.read i k 4096).2 (ok&&(n.read i k 4096).1):=by
 rw[du i hi k a];rfl
def gT{l:List (Nat×rC)}{f:Nat×rC}(a:l[k]?=some f)(n:NS)(ok:Bool):NS.mW (l.drop k) n ok=NS.mW (l.drop (k+1)) (n.recv f.1 f.2).2.2 (ok&&(n.recv f.1 f.2).2.1&&(n.recv f.1 f.2).1==0):=by
 rw[MT a];rfl
variable{N j:Nat}
def Sl{l:List (Nat×rC)}(h:w.ownsRow 0 62 2 (.slice g N cap) N (zO l))(f:l.length=N){p:Nat×rC}(c:l[j]?=some p):w (g,j*2)=some (.int .i64 p.1)/\w (g,j*2+1)=some (.string (zu p.2)):=by
 obtain⟨a,b⟩:=Vh l j p c;have f:=(AO.1 c).1;rcases h.2 with⟨e,_⟩|⟨h,c,f,e,_,d,l,p,q,o⟩
 .cases e
 cases e;rw[<-o,BH I,Bk]at a b;exact⟨za d a,za d b⟩
def QF(h:DZ w tag nb n M W)(hI:n.Inv T)(hi:i<2)(s:rC)(c:s.length<=400)(a:T+s.length<=Db):rT 28 #[(M.b i,0),.string (zu s)] W (EI tag (i+1) (M.b i) W (.tuple #[.int .i64 (((n i).lM s).1.1:Int),.int .i64 ((n i).lM s).1.2]) ((n i).lM s).2) :=
 ja (h.cn i hi) (h.env.to (j:=i+1) I) s I ((hI.c i hi).pv a) (λm a hd=>by
  have:=(Kf I hd).2.1;omega)
variable{t:Nat}
def Q4(h:DZ w tag nb n M W)(hI:n.Inv T)(hU:n.Up)(hT:T+t*lR<=Db):rT 17 #[(nb,0),[t]] W (EX w tag nb W (n.fair t)):=by
 have bE:t<=268435455:=by unfold lR Db at hT;omega
 have p8:W (nb,8)=some M.bg:=h.o.obj.cell (j:=8) rfl;have f8:=h.o.obj.fz 8;have ST:=zb (h.om (v:=.slice none 0 0) (l:=[]) (DO.refl DQ W) rm (World.ownsRow_nil W 0 _ 2) (λg hg=>by cases hg));have aI:({ n with lP:=[] }:NS).Inv T:=⟨hI.lZ,hI.mj,hI.c,hI.e,hI.now,hI.next,hI.count,hI.gl,hI.g,AN _,λp hp=>(by cases hp)⟩;have v:({ n with lP:=[] }:NS).Up:=hU;unfold NS.fair;obtain⟨N0,aJ⟩:∃x:NS,({ n with lP:=[] }:NS)=x:=⟨_,rfl⟩;have bw:N0.lP=[]:=by rw[<-aJ]
 rw[aJ]at ST aI v ⊢;obtain⟨R,hR⟩:=nm<|NS.nB t N0;rw[hR];have HR:=zb hR;have HI:=zb aI;have HU:=zb v;have HT:=zb hT;obtain⟨ba,bc,q,-⟩:=zk h.o.bg.own;rw[q]at p8;clear h hI hU aI v hR aJ hT q;go_enter func17,ntmps17;go_wp2_with fail;obtain⟨W1,h⟩:=nm<|W.setCell (U nb 8)<|.slice none 0 0;rw[h]at ST;try rw[h]
 clear h p8 f8
 go_loopw [5] (λh wr=>∃(E:Nat) (N:NS),E<=t/\h=.int .i64 E/\AA (zw w tag nb W N wr/\N.Inv (T+E*lR)/\N.Up/\N.lP=[]/\NS.nB (t-E) N=R)) (λh _=>t-(intOf h).toNat)
 case atStart=>exact⟨0,N0,AN _,rfl,zb ⟨ST.z,by rw[CP];exact HI.z,HU.z,bw,HR.z⟩⟩
 case round =>
  obtain⟨E,N,h,rfl,HB⟩:=hrel;by_cases aZ:E<t;rotate_left
  .have e:E=t:=I;subst e;have h:AA (R=(true,N)):=by
    show _=_;have a:=HB.z.2.2.2.2;rw[Ch]at a;exact a.symm
   have HL:=zb HB.z.1;have hr:=h.z;subst hr;clear aZ;go_wp2_with fail;go_ret;exact⟨rfl,HL.z⟩
  obtain⟨X,c,Y,q,v⟩:=HB.z;have h:T+E*lR+lR<=Db:=by
   have a:E*lR+lR<=t*lR:=by
    have:=Bm lR (I:E+1<=t);rw[Nat.succ_mul]at this;exact this
   have:=HT.z;omega
  have z:=zb<|U5 h c Y q;obtain⟨TT,aK⟩:=nm<|T+E*lR;rw[aK]at c h z;have bD:TT+16803<=268435455:=h;have h:(if N.mR.1 then NS.nB (t-(E+1)) N.mR.2 else(false,N.mR.2))=R:=by
   rw[(I:t-E=(t-(E+1))+1)]at v;exact v
  obtain⟨R1,ak⟩:=nm N.mR;have aL:AA (NS.nv 0 N.tick true=R1):=by
   show _=_;rw[<-ak];unfold NS.mR;rw[RZ q];rfl
  rw[ak]at h z;have aM:=zb h;have a0:=zb aK;obtain⟨tg,Mg,O,o,mk⟩:=X;have ks:rT 21 #[(nb,0),.agg #[.int .i64 5,.int .i64 0,.int .i64 0,.int .i64 0,.string ⟨#[]⟩]] wr (λe W'=>e=.returned (.bool true)/\zw w tg nb wr N.tick W'):=by
   have hk:=U6 O c I (s:=Kb) ⟨lc,lc,lc,lc,lc⟩ rfl (λtag' M' W' hn=>U8 hn q Kb);have e:N.tick.carry Kb=(true,N.tick):=by
    unfold NS.carry;have e:N.tick.lP=[]:=q;rw[AM e]
   rw[e]at hk;exact hk
  have aN:=zb c.tick;have aO:=zb Y.tick;have aP:AA (N.tick.lP=[]):=q;have aq:AA (∀n' W',zw w tg nb wr n' W'->zw w tag nb W n' W'):=zb λn' W' hh=>zw.trans o mk hh
  clear c Y q v h aK O o mk HB ak;go_upto_region 6 with(go_at_call 21;refine ks.mono ?_;rintro _ e ⟨rfl,a1⟩);have aQ:=zb a1;clear ks a1;go_wp2_with fail
  go_loopw [6,7] (λab iv wq=>∃(i:Nat) (N:NS) (ok:Bool),i<=2/\ab=.bool ok/\iv=.int .i64 i/\AA (zw w tag nb W N wq/\N.Inv (TT+1+i)/\N.Up/\N.lP.length<=21*i/\NS.nv i N ok=R1)) (λ_ iv _=>2-(intOf iv).toNat)
  case atStart=>exact⟨0,N.tick,true,I,rfl,rfl,zb ⟨aq.z _ _ aQ.z,aN.z,aO.z,by rw[aP.z];exact AN _,aL.z⟩⟩
  case round =>
   obtain⟨i,N2,ok,e,rfl,rfl,ar⟩:=hrel;by_cases e:i<2
   .obtain⟨X,c,Y,ac,Z⟩:=ar.z;obtain⟨a2,a3,O,o,mk⟩:=X;have kf:=PP O c (by unfold Db;omega) Y e;have au:=zb (c.flush (i:=i) (by unfold Db;omega) e);have av:=zb (NS.Up.flush (i:=i) (by unfold Db;omega) c Y e);have aw:=zb (Q5 (i:=i) (by unfold Db;omega) c e);have h:=ac;rw[iQ e]at Z;obtain⟨h,e⟩:=nm<|N2.flush i;rw[e]at kf au av aw Z;obtain⟨f,N3⟩:=h;simp only at au av aw Z;have a4:=zb Z;have aD:AA (∀n' W',zw w a2 nb wr n' W'->zw w tag nb W n' W'):=zb λn' W' hh=>zw.trans o mk hh
    clear c Y ac Z O o mk ar e aq aQ aN aO aP aL;go_upto_region 10 with(go_at_call 22;refine kf.mono ?_;rintro _ W3 ⟨rfl,a5⟩);have a6:=zb<|aD.z _ _ a5;clear kf a5 aD;have u:AA (∀b,b=(ok&&f)->∃(e:Nat) (N:NS) (ok:Bool),e<=2/\Value.bool b=.bool ok/\Value.int .i64 ((i:Int)+1)=.int .i64 e/\AA (zw w tag nb W N W3/\N.Inv (TT+1+e)/\N.Up/\N.lP.length<=21*e/\NS.nv e N ok=R1)):=zb λb hb=>by
     subst hb;exact⟨i+1,N3,_,I,rfl,by congr 1,zb ⟨a6.z,au.z,av.z,pp aw.z,a4.z⟩⟩
    clear a6 au av aw a4;have xw:=wi ((i:Int)+1) I;cases ok
    .go_wp2_with fail;go_roundw
     case rel=>exact u.z _ rfl
     simp[intOf];omega
    go_wp2_with fail;go_roundw
    case rel=>exact u.z _ rfl
    simp[intOf];omega
   have e2:i=2:=I;obtain⟨X,c,Y,ac,Z⟩:=ar.z;rw[e2]at c ac Z;obtain⟨a2,a3,O,o,mk⟩:=X;have ai:N2.lR ok=R1:=Z;have a7:wr (nb,8)=some a3.bg:=O.o.obj.cell (j:=8) rfl;have bx:=O.o.obj.fz 8;obtain⟨B,e,hA,A,ax,ad⟩:=O.aside;have aR:=c.lP;have aS:({ N2 with lP:=[] }:NS).Inv (TT+3):=(show({ N2 with lP:=[] }:NS).Inv (TT+1+2)from⟨c.lZ,c.mj,c.c,c.e,c.now,c.next,c.count,c.gl,c.g,AN _,λp hp=>(by cases hp)⟩).mono I;obtain⟨l,hl⟩:=nm N2.lP;unfold NS.lR at ai;rw[hl]at A aR ac ai;obtain⟨L,hL⟩:=nm l.length;rw[hL]at A ac;obtain⟨v,a8,e,p,h,q3⟩:=zk A;unfold maxLen at h;rw[e]at a7 A ax;obtain⟨NA,a9⟩:∃x:NS,({ N2 with lP:=[] }:NS)=x:=⟨_,rfl⟩;rw[a9]at ai hA aS;obtain⟨WA,h⟩:=nm<|wr.setCell (U nb 8)<|.slice none 0 0;rw[h]at hA A ad;obtain⟨RV,p⟩:=nm<|NS.mW l NA ok;rw[p]at ai;have aT:AA (NS.reads Gk RV.2 RV.1=R1):=ai;have bb:=zb p;have be:=zb aS;have HA:=zb hA.left;have bz:=zb aR;have aU:=zb hL;have aq:=zb λn' W' hh=>zw.trans o mk<|ad n' W' hh
   have aE:AA (∀wx,DO (λg=>B g≠(0,0)) WA wx->wx.ownsRow 0 62 2 (.slice v L a8) L (zO l)):=zb λwx m=>m.owns A<|λg hg x=>x<|ax g hg
   have bf:AA (∀q,(Value.slice v L a8).ownBlock=some q->B q=(0,0)/\q<WA.heap.size):=zb λq v=>⟨ax q v,QV A v⟩
   have q:=zb h;have v:L<=42:=I;clear c Y ac Z O o mk ar ai hA A ax ad aR aS hl e a9 p hL e2 aQ aN aO aP aL h;go_wp2_with fail;try rw[q.z]
   clear q a7 bx
   go_loopw [6,10] (λab kv wq=>∃(k:Nat) (N:NS) (ok:Bool),k<=L/\ab=.bool ok/\kv=.int .i64 k/\AA (zw w B nb WA N wq/\N.Inv (TT+3+400*k)/\NS.mW (l.drop k) N ok=RV)) (λ_ kv _=>L-(intOf kv).toNat)
   case atStart=>exact⟨0,NA,ok,AN _,rfl,rfl,zb ⟨HA.z,be.z,bb.z⟩⟩
   case round =>
    obtain⟨k,N4,al,hk,rfl,rfl,aj⟩:=hrel;clear HA be bb;by_cases bh:k<L
    .obtain⟨X,c,aa⟩:=aj.z;obtain⟨ae,bi,O,o,mk⟩:=X;obtain⟨f,hf⟩:∃f,l[k]?=some f:=⟨l[k]'(by rw[aU.z];exact bh),AJ _⟩;obtain⟨f1,f2,f3⟩:=bz.z f<|AW hf;rw[gT hf]at aa;obtain⟨qb,rfl⟩:=q3 I;obtain⟨r1,r2⟩:=Sl (aE.z wr mk) aU.z hf;have bj:ae qb=(0,0):=by
      obtain⟨a,b⟩:=bf.z qb rfl;rw[o qb b,a]
     obtain⟨d,s⟩:=f;simp only at f1 f2 f3 r1 r2 aa;obtain⟨gx,cx,b1,⟨e,f⟩,b4⟩:=O.o.nJ (i:=d) f1;obtain⟨e,f,bk,_,_,aF⟩:=O.o.x.form I;have bA:=O.o.obj.tag;have bB:ae gx=(3,1):=by
      have x:wr nb=some bi.x:=O.o.obj.cell (j:=0) rfl;rw[b1,bk]at x;cases x;exact aF
     obtain⟨h,e⟩:=nm<|bi.b d;have f:TT+3+400*k+400<=268435455:=I;have aV:=zb<|O.free ((DO.refl DQ wr).drew) rm;have kr:=QF aV.z c f1 s f3 (by unfold Db;omega);rw[e]at b4 kr;have bl:=zb e;have am:=zb (((c.mono (I:TT+3+400*k<=TT+3+400*k+400))).lS d (λhd=>((c.c d hd).lM (bs:=s)<|by unfold Db;omega).mono I));have ay:AA ((N4.lS d ((N4 d).lM s).2).Inv (TT+3+400*k+400)->((N4.lS d ((N4 d).lM s).2).lC d).2.Inv (TT+3+400*(k+1))):=zb λhh=>(hh.lC d).mono I
     unfold NS.recv at aa;simp only at aa;obtain⟨RR,f⟩:=nm<|(N4 d).lM s;rw[f]at kr aa am ay;obtain⟨⟨ag,at_⟩,c'⟩:=RR;simp only at kr aa am ay;have az:=zb aa;have KR:=zb kr;have aG:AA (∀n' W',zw w ae nb wr n' W'->zw w B nb WA n' W'):=zb λn' W' hh=>zw.trans o mk hh
     have p:(d:Int)<2:=I;have p:(0:Int)<=(d:Int):=I;have bm:(k:Int)<(L:Int):=I;have bC:(0:Int)<=(k:Int):=I;have q0:((ag:Int)==0)=(ag==0):=Gj ag 0;have xw:=wi ((k:Int)+1) I;have bn:AA (∀g,(ae g).1=3->(ae g).1=d+1->False):=zb λg a b=>I
     clear c aa O o mk aj bk aF f hf e kr aT;go_upto_region 16 with fail;refine zn 22 (λw'=>w' nb=some (.slice gx 2 cx)/\w' (gx,d)=some (.pointer h)/\w' (qb,k*2)=some (.int .i64 d)/\w' (qb,k*2+1)=some (.string<|zu s)) (⟨b1,b4,r1,r2⟩) ?_;refine GI 0 ?_;iterate 16
      refine GV rfl ?_;try simp only[PS]
     refine zz 16 rfl (λK hK=>?_);go_simp;refine(KR.z).mono ?_;rintro _ W5 ⟨rfl,hL⟩;rw[<-bl.z]at hL;obtain⟨h,p,N5,e,f⟩:=aV.z.conn f1 hL;have G0:=f.cell (a:=nb) (λx=>bn.z nb (by rw[bA]) x) b1;have G1:=f.cell (a:=(gx,d)) (λx=>bn.z gx (by rw[bB]) x) b4;have G2:=f.cell (a:=(qb,k*2)) (λx=>by have x:(ae qb).1=d+1:=x;rw[bj]at x;simp at x) r1;have G3:=f.cell (a:=(qb,k*2+1)) (λx=>by have x:(ae qb).1=d+1:=x;rw[bj]at x;simp at x) r2;refine hK.z _ _ ⟨G0,G1,G2,G3⟩ ?_;clear hK K;try simp only[PS]
     refine GI 17 ?_;iterate 5
      refine GV rfl ?_;try simp only[PS]
     refine zq ?_;have bo:AA (∀n' W',zw w h nb W5 n' W'->zw w B nb WA n' W'):=zb λn' W' hh=>aG.z _ _<|zw.mG ((DO.refl DQ wr).drew)<|zw.trans e (f.mono<|λg hg=>.inl<|λx=>by rw[x]at hg;simp at hg) hh
     have aX:=Qp N5 am.z (by unfold Db;omega) f1;have ah:=zb<|ay.z am.z;obtain⟨p,h⟩:=nm<|(N4.lS d c').lC d;rw[h]at aX ah az;obtain⟨cm,N6⟩:=p;simp only at ah az;clear N5 e f am ay aG aV KR h hL bl;go_upto_region 18 with(go_at_call 34;refine aX.mono ?_;rintro _ W6 ⟨rfl,bp⟩);have u:AA (∀b,b=(al&&cm&&ag==0)->∃(k':Nat) (N:NS) (ok:Bool),k'<=L/\Value.bool b=.bool ok/\Value.int .i64 ((k:Int)+1)=.int .i64 k'/\AA (zw w B nb WA N W6/\N.Inv (TT+3+400*k')/\NS.mW (l.drop k') N ok=RV)):=zb λb hb=>by
      subst hb;exact⟨k+1,N6,_,bh,rfl,by congr 1,zb ⟨bo.z _ _ bp,ah.z,az.z⟩⟩
     clear aX bp bo ah az bm bC r1 r2 b1 b4 G0 G1 G2 G3;cases al
     .go_wp2_with fail;go_roundw
      case rel=>exact u.z _ rfl
      simp[intOf];omega
     cases cm
     .go_wp2_with fail;go_roundw
      case rel=>exact u.z _ rfl
      simp[intOf];omega
     go_wp2_with fail;go_roundw
     case rel=>exact u.z _<|by first|rfl|simp only[q0,Bool.and_self,Bh]
     simp[intOf];omega
    have e:k=L:=I;have d:RV=(al,N4):=by
     have a:=aj.z.2.2;rw[e,<-aU.z,CB]at a;exact a.symm
    have an:AA (NS.reads Gk N4 al=R1):=by
     show _=_;have a:=aT.z;rw[d]at a;exact a
    have bq:AA (N4.Inv<|TT+3+400*L):=by rw[<-e];exact zb aj.z.2.1
    have bt:=zb aj.z.1;have f:TT+3+400*L<=268435455:=I;clear aj aT d hk e aE bf;go_wp2_with fail
    go_loopw [6,14] (λab iv wq=>∃(i:Nat) (N:NS) (ok:Bool),i<=2/\ab=.bool ok/\iv=.int .i64 i/\AA (zw w B nb WA N wq/\N.Inv (TT+3+400*L)/\NS.reads (Gk.drop<|8*i) N ok=R1)) (λ_ iv _=>2-(intOf iv).toNat)
    case atStart=>exact⟨0,N4,al,I,rfl,rfl,zb ⟨bt.z,bq.z,an.z⟩⟩
    case round =>
     obtain⟨i5,N5,aY,d,rfl,rfl,af⟩:=hrel;clear bt bq an;by_cases ao:i5<2
     .have d:decide ((i5:Int)<2)=true:=Au I;go_wp2_with fail;try rw[d]
      go_loopw [6,15] (λab kv wq=>∃(k:Nat) (N:NS) (ok:Bool),k<=8/\ab=.bool ok/\kv=.int .i64 k/\AA (zw w B nb WA N wq/\N.Inv (TT+3+400*L)/\NS.reads (Gk.drop<|8*i5+k) N ok=R1)) (λ_ kv _=>8-(intOf kv).toNat)
      case atStart=>exact⟨0,N5,aY,I,rfl,rfl,af⟩
      case round =>
       obtain⟨k6,N6,aA,d,rfl,rfl,aB⟩:=hrel;clear af;by_cases ap:k6<8
       .obtain⟨X,c,d⟩:=aB.z;obtain⟨e,f,O,o,mk⟩:=X;rw[gU ao ap]at d;have kr:rT 35 #[(nb,0),[i5],[k6],.int .i64 4096] wr (EX w e nb wr<|N6.read i5 k6 4096):=Ua O c (by unfold Db;omega) ao ap<|AF 4096;have aC:=zb<|c.read i5 k6 4096;obtain⟨h,f⟩:=nm<|N6.read i5 k6 4096;rw[f]at kr aC d;obtain⟨rb,N7⟩:=h;simp only at aC d;have an:=zb d;have aH:AA (∀n' W',zw w e nb wr n' W'->zw w B nb WA n' W'):=zb λn' W' hh=>zw.trans o mk hh
        have xw:=wi ((k6:Int)+1) I;clear c d O o mk aB f;go_upto_region 26 with(go_at_call 35;refine kr.mono ?_;rintro _ W7 ⟨rfl,bu⟩);have u:AA (∀b,b=(aA&&rb)->∃(k':Nat) (N:NS) (ok:Bool),k'<=8/\Value.bool b=.bool ok/\Value.int .i64 ((k6:Int)+1)=.int .i64 k'/\AA (zw w B nb WA N W7/\N.Inv (TT+3+400*L)/\NS.reads (Gk.drop<|8*i5+k') N ok=R1)):=zb λb hb=>by
         subst hb;exact⟨k6+1,N7,_,ap,rfl,by congr 1,zb ⟨aH.z _ _ bu,aC.z,an.z⟩⟩
        clear kr bu aH aC an;cases aA
        .go_wp2_with fail;go_roundw
         case rel=>exact u.z _ rfl
         simp[intOf];omega
        go_wp2_with fail;go_roundw
        case rel=>exact u.z _ rfl
        simp[intOf];omega
       have d:k6=8:=I;have xw:=wi ((i5:Int)+1) I;have c:AA (zw w B nb WA N6 wr/\N6.Inv (TT+3+400*L)/\NS.reads (Gk.drop<|8*(i5+1)) N6 aA=R1):=by
        have a:=aB.z;rw[d]at a;exact a
       clear aB d;go_wp2_with fail;go_roundw
       case rel=>exact⟨i5+1,N6,aA,ao,rfl,by congr 1,c⟩
       simp[intOf];omega
     have ei:i5=2:=I;have ak:R1=(aY,N5):=by
      have a:=af.z.2.2;rw[ei]at a;exact a.symm
     subst ak;have bv:AA (∀W',DO DQ wr W'->zw w tag nb W N5 W'):=zb λW' m=>(aq.z _ _ af.z.1).mf m
     clear af ei;cases aY
     .have hr:(false,N5)=R:=aM.z;subst hr;go_wp2_with fail;go_ret;exact⟨rfl,bv.z _ rp⟩
     have d:AA (NS.nB (t-(E+1)) N5=R):=aM.z;have c:AA (N5.Inv<|T+(E+1)*lR):=by
      have a:=z.z.1;rw[<-a0.z,show T+E*lR+lR=T+(E+1)*lR by rw[Nat.succ_mul];omega]at a;exact a
     have a:AA N5.Up:=z.z.2.2 rfl;have af:AA (N5.lP=[]):=z.z.2.1;have xw:=wi ((E:Int)+1) I;clear z aM a0;go_wp2_with fail;go_roundw
     case rel=>exact⟨E+1,N5,aZ,by congr 1,zb ⟨bv.z _ rp,c.z,a.z,af.z,d.z⟩⟩
     simp[intOf];omega
end
end Go.Proofs.YtddfdpbaiedcjaaGreatDoor
