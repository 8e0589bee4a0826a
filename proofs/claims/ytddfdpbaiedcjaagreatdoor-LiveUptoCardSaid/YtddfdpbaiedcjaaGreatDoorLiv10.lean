/- A part of Live's proof. Conditions: none. Part 10 of 15. -/
import Derived.Test.YtddfdpbaiedcjaaGreatDoorLiv7
import Derived.Lib.LaidTab
import Derived.Deep.DeepHandedRow
import Derived.ProofKit
import Derived.OpenShut
set_option maxRecDepth 100000
set_option maxHeartbeats 16000000
set_option linter.all false
namespace Go.Proofs.YtddfdpbaiedcjaaGreatDoor
section
open Go.RowKit Go.Proofs.Tryz
variable{cap e g o:Nat}{v:Value}{w:World}{xs:nJ}
def Er.cells{size n:Nat}(h:Er w e size v n xs)(c:v=.slice (g,o) n cap):∀j u,xs[j]?=some u->w.cell? ⟨g,o+j,none⟩=some u:=by
 intro j u a;rcases h.2 with⟨rfl,rfl⟩|⟨g',o',d,cur,rfl,hg,_,_,hs,ht⟩
 .cases c
 cases c;have b:j<n*size:=by
  have:=(AN.1 a).1;rw[h.1]at this;exact this
 rw[<-ht,CU,AQ b,BD]at a;unfold World.cell?;simp only[hg];simpa using a
theorem Jv(l:List Da):(zt l).length=l.length*10:=by
 induction l with
 | nil=>rfl
 | cons f l ih =>
  have:zt (f::l)=(zl f (.slice none 0 0)).toList++zt l:=by simp[zt]
  rw[this,AG,ih,AR];have e:(zl f (.slice none 0 0)).toList.length=10:=rfl;omega
variable{W W1 W2:World}{b i:Nat}{c:CS}{tag:nH}
def Ds.after(ht:Dv tag W)(m:DW (λg=>(tag g).1=i) W W1)(h:Ds tag i b W1 c W2):Ds tag i b W c W2:=by
 obtain⟨tag',V',h1,h2,h3⟩:=h;exact⟨tag',V',h1,(Dn.same ht m).trans h2 m.size,m.trans h3⟩
def Yv(w:World):OB (w.alloc (.cells #[] 5)) (.slice w.heap.size 0 0) []:=by
 refine⟨rfl,.inr ⟨w.heap.size,0,#[],rfl,AM _,heap_alloc_new w _,AF _,AM _,mv,by simp[zU]⟩⟩
def KX(l:nG)(w:World)(e:Ending)(w':World):Prop:=∃v',e=.returned v'/\OB w' v' l/\DW DY w w'/\∀g,v'.ownBlock=some g->w.heap.size<=g
theorem eW(v:Value)(l:nG)(w:World)(h:BR w v l)(hl:l.length<=1099511627776):Calls prog 92 #[v] w (KX l w):=by
 obtain⟨a,cap,rfl,h1,h2,h3⟩:=id h;cases a with
 | none =>
  have d:l=[]:=by
   cases l with
   | nil=>rfl
   | cons x l =>
    obtain⟨g,o,e,_⟩:=h3 0 x rfl;cases e
  subst d;have q1:=_root_.Go.run_eql_slice_nil w 60 _ none 0 cap (P:=prog) underlying60;clear h h1 h2 h3;go_enter func92,ntmps92;go_wp2_with fail;go_ret;exact⟨_,rfl,OB.nil _,DW.refl _ _,λg hg=>by cases hg⟩
 | some a =>
  obtain⟨W1,b⟩:=nm (w.alloc (.cells #[] 5));have m1:=AB b;have f:OB W1 (.slice w.heap.size 0 0) []:=by rw[<-b];exact Yv w
  obtain⟨v',w',De,c⟩:=QE W1 (.slice w.heap.size 0 0) [] a cap l f (BR.mod h m1 (λ_ _ _ _ _ x=>x)) my;have H:AA (KX l w (.returned v') w'):=zb ⟨v',rfl,c.own,((m1.mono (λ_ x=>x.elim)).then ((DW.refl (λg=>(Value.slice w.heap.size 0 0).ownBlock=some g) W1).grown c.grown (λg hg=>.inl hg)) (λg hg=>.inr (by
   simp[Value.ownBlock]at hg;omega))),λg hg=>by
    rcases c.at_ g hg with x|x
    .simp[Value.ownBlock]at x;omega
    have:=m1.size;omega⟩
  have q1:=_root_.Go.run_eql_slice_nil w 60 _ (some a) l.length cap (P:=prog) underlying60;clear h h1 h2 h3 m1 f c;go_enter func92,ntmps92;go_wp2_with (at_builtin;refine zn rfl _ _ _ _ rfl _ _ _ rfl rfl De ?_);go_ret;exact H.z
def PH(tag:nH)(i b:Nat)(W:World)(l:List (Nat×nG))(c':CS)(e:Ending)(W':World):Prop :=
 ∃v V',e=.returned v/\W'.ownsRow 0 154 2 v l.length (FB l)/\(∀g,v.ownBlock=some g->tag g=(i,8))/\zi tag i b c' V' W'/\V'.cm=.slice none 0 0/\DW (λg=>g=b) W W'
variable{V:CV}
def iM(h:zi tag i b c V W):Calls prog 67 #[(b,0)] W (PH tag i b W c.datagramsOut.1 c.datagramsOut.2):=by
 have d:W.cell? (b,243)=some V.cm:=h.tl (j:=10) rfl;have fz:=h.fz 243;obtain⟨a,cap,e,_⟩:=zk h.cm;have m:DW (λg=>g=b) W (W.setCell (U b 243) (.slice none 0 0)):=(DW.refl (λg=>g=b) W).setCell (p:=U b 243) (.inl rfl) _;have H:AA (PH tag i b W c.datagramsOut.1 c.datagramsOut.2 (.returned V.cm) (W.setCell (b,243) (.slice none 0 0))):=by
  refine zb ⟨V.cm,{ V with cm:=.slice none 0 0 },rfl,m.owns h.cm (λg hg x=>zi.apart (h.tcm g hg) (x ▸ h.tb) mu rfl),h.tcm,?_,rfl,m⟩;refine h.build (R:=λr=>r=1) m (λg hg=>⟨1,rfl,by rw[hg,h.tb]⟩) (λ_ _=>rfl) ?_ (.inl ⟨rfl,rfl,rfl,I,I⟩) (λk hk=>.inl ⟨rfl,rfl,I⟩) (λk hk=>.inl ⟨rfl,rfl,I⟩) (λk hk=>.inl ⟨rfl,rfl,I⟩) (λk hk=>.inl ⟨rfl,rfl,I⟩) (λk hk=>.inl ⟨rfl,rfl,I⟩) (.inl ⟨rfl,rfl,rfl,I,I⟩) (.inl ⟨rfl,rfl,I⟩) (.inl ⟨rfl,rfl,I⟩) (.inr ⟨World.ownsRow_nil _ 0 _ 2,λg hg=>by simp[Value.ownBlock]at hg⟩);rw[zc h.obj,Aq];rw[show(243:Nat)=233+10 from rfl,G8 c c.datagramsOut.2 V { V with cm:=.slice none 0 0 } _ rfl rfl rfl rfl]
 rw[e]at d H;clear h m e;go_enter func67,ntmps67;go_wp2_with fail;go_ret;exact H.z
structure MN(x:RS):Prop where
 len:x.b.length<=1099511627776
 lo:x.read<=(Dj x.came.rs x.read x.high).1
 hi:(Dj x.came.rs x.read x.high).1<=x.b.length
 top:∀k,k<x.came.rs.length->DX x.came.rs k<9223372036854775808
 rl:x.came.rs.length<=1099511627776
 keep:x.keep<=zF
 fin:x.fin<=zF
def MN.to{x:RS}(h:MN x)(most:Nat):x.read<=x.readTo most/\x.readTo most<=x.b.length:=by
 have a:=h.lo;have b:=h.hi;unfold RS.readTo;split<;>omega
def MM(tag:nH)(i b:Nat)(W:World)(s:nG)(st er:Nat)(c':CS)(e:Ending)(W':World):Prop :=
 ∃bv,e=.returned (.tuple #[bv,[st],EZ er])/\OB W' bv s/\(∀g,bv.ownBlock=some g->W.heap.size<=g)/\∃V',zi tag i b c' V' W'/\DW (λg=>g=b) W W'
variable{k:Nat}
def zi.camR(h:zi tag i b c V W)(hk:k<8)(hl:(c.rs k).came.rs.length<=1099511627776):El W b (129+13*k+1) (V.rc k) (c.rs k).came.rs (c.rs k).came.fl (c.rs k).came.most :=
 ⟨h.r (j:=1) hk rfl,h.r (j:=2) hk rfl,h.r (j:=3) hk rfl,h.rc k hk,hl,λj=>h.fz j⟩
def eV(h:zi tag i b c V W)(k most:Int)(hm:most<=9223372036854775807)(ok:∀k,k<8->MN (c.rs k)):Calls prog 52 #[(b,0),.int .i64 k,[most]] W (MM tag i b W (c.read k most).1.1 (c.read k most).1.2.1 (c.read k most).1.2.2 (c.read k most).2):=by
 have ks:=Rw h k;unfold CS.read;by_cases A:c.stream k=0;rotate_left
 .obtain⟨n,hn⟩:=nm (c.stream k);have H0:AA (MM tag i b W [] 0 n c (.returned (.tuple #[.slice none 0 0,.int .i64 0,EZ n])) W):=zb ⟨_,rfl,OB.nil _,λg hg=>by simp[Value.ownBlock]at hg,V,h,DW.refl _ _⟩;rw[hn]at ks A;simp only[hn,A,ne_eq,As,BC];rw[Jf A]at ks H0;clear h hn A ok;go_enter func52,ntmps52;go_wp2_with (go_at_call 90;refine ks.mono ?_;rintro _ _ ⟨rfl,rfl⟩);go_ret3;exact H0.z
 obtain⟨k0,k8,-⟩:=Nd A;obtain⟨q,rfl⟩:∃q:Nat,k=(q:Int):=⟨k.toNat,I⟩;have y:q<8:=I;rw[A]at ks;simp only[A,Ae,ne_eq,CY,Be];have HH:=zb h;have d:=ok q y;obtain⟨x,hx⟩:=nm (c.rs q);have HX:=zb hx;have J:W.cell? (b,129+q*13)=some (V.rb q):=by rw[AL];exact h.r (j:=0) y rfl
 obtain⟨ra,rc,ac,_⟩:=zk (h.rb q y);rw[ac]at J;have r4:W.cell? (b,129+q*13+4)=some (.int .u64 ((c.rs q).high:Int)):=by rw[AL];exact h.r (j:=4) y rfl
 have r5:W.cell? (b,129+q*13+5)=some (.int .u64 ((c.rs q).fin:Int)):=by rw[AL];exact h.r (j:=5) y rfl
 have r6:W.cell? (b,129+q*13+6)=some (.bool (c.rs q).ended):=by rw[AL];exact h.r (j:=6) y rfl
 have r7:W.cell? (b,129+q*13+7)=some (.bool (c.rs q).cut):=by rw[AL];exact h.r (j:=7) y rfl
 have r8:W.cell? (b,129+q*13+8)=some (.int .u64 ((c.rs q).keep:Int)):=by rw[AL];exact h.r (j:=8) y rfl
 have B:W.cell? (b,129+q*13+9)=some (.int .u64 ((c.rs q).read:Int)):=by rw[AL];exact h.r (j:=9) y rfl
 have L:W.cell? (b,129+q*13+10)=some (.int .i64 ((c.rs q).state:Int)):=by rw[AL];exact h.r (j:=10) y rfl
 have kg:=QS (c.rs q).came.rs (c.rs q).came.fl (c.rs q).came.most b (129+13*q+1) (c.rs q).read (c.rs q).high (V.rc q) W.drew ((h.mod0 (DW.refl DY W).drew).camR y d.rl) (nE d.lo d.hi d.len) d.top;rw[AL 13 q]at kg;have C:=d.to most.toNat;have D:=(h.rb q y).br;rw[ac]at D;rw[hx]at J r4 r5 r6 r7 r8 B L d kg C D ⊢;have d1:(q:Int)<8:=I;have d0:(0:Int)<=q:=I;by_cases F:x.state=0;rotate_left
 .rw[AQ F];have d2:((x.state:Int)==0)=false:=AS.2 I;have H0:AA (∀W',DW DY W W'->MM tag i b W [] x.state 0 c (.returned (.tuple #[.slice none 0 0,[x.state],EZ 0])) W'):=zb λW' m=>⟨_,rfl,OB.nil _,λg hg=>by simp[Value.ownBlock]at hg,V,h.mod0 m,m.mono (λ_ x=>x.elim)⟩
  clear h A ok d kg C D F hx J r4 r5 r6 r7 r8 B;go_enter func52,ntmps52;go_upto_region 6 with(go_at_call 90;refine ks.mono ?_;rintro _ _ ⟨rfl,rfl⟩;unfold EZ;simp only[BC]);go_quiet (fail);go_wp2_with fail;go_ret3;exact H0.z _ ((DW.refl DY W).drewN _)
 rw[AI (nF F)];rw[F]at L;have al:=zb F;obtain⟨E,hE⟩:=nm (x.readTo most.toNat);obtain⟨ST,l⟩:=nm (x.stateAt E);rw[hE]at C;rw[hE,l];obtain⟨s,ad⟩:=nm ((x.b.drop x.read).take (E-x.read));rw[ad];have aA:=zb ad;clear ad;have HE:=zb hE;have HST:=zb l;have HR:=zb d;obtain⟨hi,ae⟩:=nm x.high;obtain⟨fn,af⟩:=nm x.fin;obtain⟨en,ah⟩:=nm x.ended;obtain⟨cu,T⟩:=nm x.cut;obtain⟨kp,X⟩:=nm x.keep;obtain⟨rd,O⟩:=nm x.read;obtain⟨lo,ai⟩:=nm ((Dj x.came.rs x.read x.high).1);obtain⟨N,hN⟩:=nm x.b.length;have b1:=d.lo;have b2:=d.hi;have b3:=d.len;have b4:=d.keep;have b5:=d.fin;unfold zF at b4 b5;rw[ai]at b1 b2 kg;rw[hN]at b2 b3 C J D;rw[O]at b1 C B;rw[ae]at r4;rw[af]at r5 b5;rw[ah]at r6;rw[T]at r7;rw[X]at r8 b4;rw[O,ae]at kg;have Y:AA (E=if cu then max rd (min (min lo (rd+most.toNat)) kp)else min lo (rd+most.toNat)):=by
  show _=_;rw[<-hE,RS.readTo,T,ai,X,O]
 have P:AA (ST=if cu&&decide (kp<=E)then 2 else if !cu&&en&&E==fn then 1 else 0):=by
  show _=_;rw[<-l,RS.stateAt,T,ah,X,af]
 have aB:=zb O;have HN:=zb hN;have KG:=zb kg;have am:=zb D;have fz:=λp=>h.fz p
 clear h A ok d kg F hx hE l ae af ah T X O ai hN D ac;have aC:=zb J;have aD:=zb r5;have aE:=zb r6;have aF:=zb r7;have aG:=zb r8;have an:=zb B;have ao:=zb L;go_enter func52,ntmps52;go_upto_region 7 with(go_at_call 90;refine ks.mono ?_;rintro _ _ ⟨rfl,rfl⟩;unfold EZ;simp only[BC]);refine zo 17 (λw'=>w'.cell? (b,129+q*13+9)=some (.int .u64 rd)/\w'.cell? (b,129+q*13+4)=some (.int .u64 hi)) (⟨B,r4⟩) ?_;refine GI 0 ?_;iterate 11
  refine GV rfl ?_;try simp only[PS]
 refine zE 11 rfl (λK hK=>?_);go_simp;refine KG.z.mono ?_;rintro _ W2 ⟨rfl,t⟩;have t:=(DW.refl DY W).drew.trans t;refine hK.z _ _ ⟨t.cell (a:=⟨b,_,none⟩) id B,t.cell (a:=⟨b,_,none⟩) id r4⟩ ?_;clear hK K;try simp only[PS]
 refine GI 12 ?_;iterate 5
  refine GV rfl ?_;try simp only[PS]
 refine zr ?_;have q0:=t.cell (a:=⟨b,_,none⟩) id J;have q5:=t.cell (a:=⟨b,_,none⟩) id r5;have q6:=t.cell (a:=⟨b,_,none⟩) id r6;have q7:=t.cell (a:=⟨b,_,none⟩) id r7;have q8:=t.cell (a:=⟨b,_,none⟩) id r8;have q9:=t.cell (a:=⟨b,_,none⟩) id B;have aH:=t.cell (a:=⟨b,_,none⟩) id L;have M2:=zb t;clear J r4 r5 r6 r7 r8 B L KG t fz;obtain⟨M,hM⟩:=nm most.toNat;rw[hM]at Y;have R:((M:Int)=most/\0<=most)\/(M=0/\most<0):=I;obtain⟨e0,aj⟩:=nm (min lo (rd+M));have ap:=zb aj;have x1:IntKind.u64.wrap (M:Int)=(M:Int):=by rw[IntKind.wrap_u64];omega
 have x2:=wu ((rd:Int)+M) I;have x5:IntKind.u64.wrap 0=0:=by rw[IntKind.wrap_u64];rfl
 have x6:IntKind.u64.wrap (rd:Int)=(rd:Int):=by rw[IntKind.wrap_u64];omega
 have x3:IntKind.u64.wrap most=most\/most<0:=by rw[IntKind.wrap_u64];omega
 have x4:IntKind.u64.wrap ((rd:Int)+most)=(rd:Int)+most\/most<0:=by rw[IntKind.wrap_u64];omega
 rw[aj]at Y;clear hM aj;go_upto_region 8 with fail
 go_cut [13] (λev Q=>ev=.int .u64 e0/\Q=W2)
 case first=>as_aux_lemma =>
  rcases R with⟨R,aP⟩|⟨R,aQ⟩
  .subst R;clear x3 x4;go_wp2_with fail;all_goals first|(exfalso;omega)|skip
   all_goals
    go_meet;have h2:=ap.z;exact⟨by congr 1;omega,rfl⟩
  subst R;go_wp2_with fail;all_goals first|(exfalso;omega)|skip
  all_goals
   go_meet;have h2:=ap.z;exact⟨by congr 1;omega,rfl⟩
 case rest =>
 obtain⟨rfl,hw⟩:=hcut;have hw:=hw.symm;subst hw;clear x1 x2 x3 x4 x5 x6;go_upto_if 63 with fail
 go_cut [13] (λev Q=>ev=.int .u64 E/\AA (DW DY W Q))
 case first=>as_aux_lemma =>
  cases cu
  .have h2:E=e0:=Y.z;subst h2;go_wp2_with fail;go_meet;exact⟨rfl,M2⟩
  go_upto_region 10 with fail;go_quiet (fail);go_wp2_with fail;all_goals
   go_meet;have h2:E=max rd (min e0 kp):=Y.z;exact⟨by congr 1;omega,zb (M2.z.drewN _)⟩
 case rest =>
 obtain⟨rfl,M3⟩:=hcut;obtain⟨S,aI⟩:=nn wc;subst aI;have A:(x.b.drop rd).take (E-rd)=s:=by
  rw[<-aB.z];exact aA.z
 have aq:s.length=E-rd:=by
  rw[<-A,AU,Ac,HN.z];omega
 have c3:=HH.z.mod0 M3.z;have J:=M3.z.cell (a:=⟨b,_,none⟩) id aC.z;have B:=M3.z.cell (a:=⟨b,_,none⟩) id an.z;have z:=BR.mod am.z (M3.z.drew) (λ_ _ _ _ _ x=>x);have ar:N<=rc/\rc<=9223372036854775807:=by
  obtain⟨a',c',e,q1,q2,_⟩:=z;cases e;rw[HN.z]at q1;unfold maxLen at q2;exact⟨q1,I⟩
 obtain⟨aJ,aK⟩:=ar;have aa:∀v,v=.slice (ra.map λx=>x.add rd) (E-rd) (rc-rd)->BR S.drew v s:=by
  rintro v rfl;rw[<-A];rw[<-HN.z]at z;exact z.sub (by rw[HN.z];omega)
 have au:BR S.drew (.slice (if rc=rd then ra else ra.map λx=>x.add rd) (E-rd) (rc-rd)) s:=by
  by_cases e:rc=rd
  .rw[AQ e];have:s=[]:=Aj I;rw[this,(I:E-rd=0),(I:rc-rd=0)];exact BR.nil _ ra 0 mz
  rw[AI e];exact aa _ rfl
 have av:=λv hv=>eW v s S.drew hv I
 have aw:AA (∀W4,DW DY S.drew W4->∀bv,OB W4 bv s->(∀g,bv.ownBlock=some g->S.heap.size<=g) ->
   (ST=0->∀W',DW DY (W4.setCell (b,129+q*13+9) (.int .u64 E)) W'->MM tag i b W s ST 0 { c with rs:=zf c.rs q { x with read:=E,state:=ST } } (.returned (.tuple #[if s=[]then .slice none 0 0 else bv,[ST],.nilIface])) W') /\
   (∀W5,DW DY (W4.setCell (b,129+q*13+9) (.int .u64 E)) W5->∀W',DW DY (W5.setCell (b,129+q*13+10) (.int .i64 ST)) W'->MM tag i b W s ST 0 { c with rs:=zf c.rs q { x with read:=E,state:=ST } } (.returned (.tuple #[if s=[]then .slice none 0 0 else bv,[ST],.nilIface])) W')):=by
  intro W4 m4 bv ho hn;have c0:zi tag i b { c with rs:=zf c.rs q x } V S:=by
   rw[<-HX.z,Fy];exact c3
  have ax:=al.z;have c4:=(c0.mod0 (DW.refl DY S).drew).mod0 m4;have c5:=c4.storeR2 y 9 mu (.int .u64 E) { x with read:=E } rfl rfl rfl;rw[AL 13 q]at c5;have m5:=λW4 p v=>(DW.refl (λg=>g=b) W4).setCell (p:=⟨b,p,none⟩) (.inl rfl) v
  have mm:=(M3.z.drew).trans m4;have aL:∀g,bv.ownBlock=some g->¬(g=b):=λg hg e=>by
   have h1:=hn g hg;have h2:=zm B;omega
  have hsz:=M3.z.size;have ab:∀W',zi tag i b { c with rs:=zf c.rs q { x with read:=E,state:=ST } } V W'->DW (λg=>g=b) W4 W'->MM tag i b W s ST 0 { c with rs:=zf c.rs q { x with read:=E,state:=ST } } (.returned (.tuple #[if s=[]then .slice none 0 0 else bv,[ST],.nilIface])) W':=by
   intro W' hc hm;refine⟨_,rfl,?_,?_,V,hc,(mm.mono (λ_ x=>x.elim)).trans hm⟩
   .split
    .rename_i e;rw[e];exact OB.nil _
    exact hm.owns ho aL
   intro g hg;split at hg
   .simp[Value.ownBlock]at hg
   have:=hn g hg;omega
  refine⟨λe W' m=>?_,λW5 ma W' m=>?_⟩
  .have:({ x with read:=E,state:=ST }:RS)={ x with read:=E }:=by
    rw[e,<-ax]
   refine ab W' ?_ ((m5 _ _ _).trans (m.mono (λ_ x=>x.elim)));rw[this];exact c5.mod0 m
  have c6:=(c5.mod0 ma).storeR2 y 10 mu (.int .i64 ST) { x with read:=E,state:=ST } rfl rfl rfl;rw[AL 13 q]at c6;exact ab W' (c6.mod0 m) (((m5 _ _ _).trans (ma.mono (λ_ x=>x.elim))).trans ((m5 _ _ _).trans (m.mono (λ_ x=>x.elim))))
 have ay:=zb au;have az:=zb av;have aM:=zb aq;have z9:∀W4,DW DY S.drew W4->AA ((∀p,W4.frozen? ⟨b,p,none⟩=false)/\(∀p v p',(W4.setCell ⟨b,p,none⟩ v).frozen? ⟨b,p',none⟩=false)/\W4.cell? (b,129+q*13+9)=some (.int .u64 rd)/\W4.cell? (b,129+q*13+7)=some (.bool cu)/\W4.cell? (b,129+q*13+8)=some (.int .u64 kp)/\W4.cell? (b,129+q*13+6)=some (.bool en)/\W4.cell? (b,129+q*13+5)=some (.int .u64 fn)/\W4.cell? (b,129+q*13+10)=some (.int .i64 0)):=λW4 m4=>by
  have mm:=((DW.refl DY S).drew).trans m4;have t:=M3.z.trans mm;have co:=(HH.z.mod0 t).obj;exact zb ⟨λp=>zg co,λp v p'=>zg (zc co),t.cell (a:=⟨b,_,none⟩) id an.z,t.cell (a:=⟨b,_,none⟩) id aF.z,t.cell (a:=⟨b,_,none⟩) id aG.z,t.cell (a:=⟨b,_,none⟩) id aE.z,t.cell (a:=⟨b,_,none⟩) id aD.z,t.cell (a:=⟨b,_,none⟩) id ao.z⟩
 have Z9:=zb z9;have dE0:(rd:Int)<=E:=I;have dE1:(E:Int)<=rc:=I;have nE0:=C.1;have nE1:E<=rc:=I;clear c3 A aq z aa au av z9 q0 q5 q6 q7 q8 q9 aH;go_upto_region 11 with fail
 go_cut [14] (λbv Q=>∃bw:nI×Nat,bv=.slice bw.1 s.length bw.2/\AA (DW DY S.drew Q/\OB Q (.slice bw.1 s.length bw.2) s/\∀g,(Value.slice bw.1 s.length bw.2).ownBlock=some g->S.heap.size<=g))
 case first =>
  refine zo 12 (λw'=>w'.cell? (b,129+q*13)=some (.slice ra N rc)/\w'.cell? (b,129+q*13+9)=some (.int .u64 rd)) (⟨J,B⟩) ?_;refine GI 0 ?_;iterate 9
   refine GV rfl ?_;try simp only[PS]
  refine Jn (i:=9) (v:=.slice (if rc=rd then ra else ra.map λx=>x.add rd) (E-rd) (rc-rd)) rfl mr (λ_ _ _ h=>h) (Or.inl ⟨by rfl,?_⟩) ?_
  ·(intro Q u;obtain⟨f0,f9⟩:=u;go_simp;try with_reducible rfl)
  try simp only[PS]
  refine zE 10 rfl (λK hK=>?_);go_simp;refine(az.z _ (ay.z)).mono ?_;rintro e W4 ⟨v',rfl,ho,m4,hn⟩;obtain⟨aN,aO,rfl,_⟩:=zk ho;refine hK.z _ _ ⟨m4.cell (a:=⟨b,_,none⟩) id J,m4.cell (a:=⟨b,_,none⟩) id B⟩ ?_;clear hK K;try simp only[PS]
  refine GI 11 ?_;refine GV rfl ?_;try simp only[PS]
  refine zr ?_;go_wp2_with fail;all_goals
   go_meet;exact⟨(aN,aO),rfl,zb ⟨m4,ho,hn⟩⟩
 case rest =>
 obtain⟨⟨ba,bc⟩,rfl,HB⟩:=hcut;obtain⟨z1,z2,y9,y7,y8,y6,y5,y10⟩:=(Z9.z wc HB.z.1).z;have o:=zb (aw.z wc HB.z.1 _ HB.z.2.1 HB.z.2.2);obtain⟨H,G⟩:=nm s.length;have aR:=zb G;have hz:AA ((if s=[]then Value.slice none 0 0 else .slice ba H bc)=if H=0 then .slice none 0 0 else .slice ba H bc):=by
  show _=_;by_cases h:s=[]
  .have h2:H=0:=by rw[<-G,h];rfl
   rw[AQ h,AQ h2]
  have h2:H≠0:=λe=>h (Aj (by rw[G,e]))
  rw[AI h,AI h2]
 rw[G]at o;rw[hz.z]at o;rw[G];clear ay az aM Z9 aw J B HB G hz HR am;have f:H=0\/H≠0:=I;go_upto_region 13 with fail;cases cu
 .cases en
  .have l:ST=0:=P.z;subst l;go_quiet (fail);go_upto_region 15 with fail;go_quiet (fail);have w:=zb (o.z.1 rfl);clear o;rcases f with rfl|f
   .go_wp2_with fail;go_quiet (fail);go_wp2_with fail;go_ret3;exact w.z _ (by repeat (first|exact DW.refl _ _|refine DW.drewN ?_ _))
   have dz:((H:Int)==0)=false:=AS.2 I;rw[AI f]at w;go_wp2_with fail;go_quiet (fail);go_wp2_with fail;go_ret3;exact w.z _ (by repeat (first|exact DW.refl _ _|refine DW.drewN ?_ _))
  by_cases ak:E=fn
  .have l:ST=1:=by
    have:=P.z;simp[ak]at this;exact this
   subst l;subst ak;go_quiet (fail);go_upto_region 15 with fail;go_quiet (fail);have w:=zb (o.z.2);clear o;rcases f with rfl|f
   .go_wp2_with fail;go_quiet (fail);go_wp2_with fail;go_ret3;exact w.z _ ((DW.refl DY _).drewN _) _ ((DW.refl DY _).drewN _)
   have dz:((H:Int)==0)=false:=AS.2 I;rw[AI f]at w;go_wp2_with fail;go_quiet (fail);go_wp2_with fail;go_ret3;exact w.z _ ((DW.refl DY _).drewN _) _ ((DW.refl DY _).drewN _)
  have l:ST=0:=by
   have:=P.z;simp[ak]at this;exact this
  subst l;have dE:((E:Int)==(fn:Int))=false:=AS.2 I;go_quiet (fail);go_upto_region 15 with fail;go_quiet (fail);have w:=zb (o.z.1 rfl);clear o;rcases f with rfl|f
  .go_wp2_with fail;go_quiet (fail);go_wp2_with fail;go_ret3;exact w.z _ (by repeat (first|exact DW.refl _ _|refine DW.drewN ?_ _))
  have dz:((H:Int)==0)=false:=AS.2 I;rw[AI f]at w;go_wp2_with fail;go_quiet (fail);go_wp2_with fail;go_ret3;exact w.z _ (by repeat (first|exact DW.refl _ _|refine DW.drewN ?_ _))
 by_cases Z:kp<=E
 .have l:ST=2:=by
   have:=P.z;simp[Z]at this;exact this
  subst l;have dE:decide (kp<=E)=true:=by simp[Z]
  go_quiet (fail);have w:=zb (o.z.2);clear o;rcases f with rfl|f
  .go_wp2_with fail;go_quiet (fail);go_wp2_with fail;go_ret3;exact w.z _ ((DW.refl DY _).drewN _) _ ((DW.refl DY _).drewN _)
  have dz:((H:Int)==0)=false:=AS.2 I;rw[AI f]at w;go_wp2_with fail;go_quiet (fail);go_wp2_with fail;go_ret3;exact w.z _ ((DW.refl DY _).drewN _) _ ((DW.refl DY _).drewN _)
 have l:ST=0:=by
  have:=P.z;simp[Z]at this;exact this
 subst l;have dE:decide (kp<=E)=false:=by simp[Z]
 go_quiet (fail);go_upto_region 15 with fail;go_quiet (fail);have w:=zb (o.z.1 rfl);clear o;rcases f with rfl|f
 .go_wp2_with fail;go_quiet (fail);go_wp2_with fail;go_ret3;exact w.z _ (by repeat (first|exact DW.refl _ _|refine DW.drewN ?_ _))
 have dz:((H:Int)==0)=false:=AS.2 I;rw[AI f]at w;go_wp2_with fail;go_quiet (fail);go_wp2_with fail;go_ret3;exact w.z _ (by repeat (first|exact DW.refl _ _|refine DW.drewN ?_ _))
def ID(w:World)(g n:Nat):Prop:=∃cs t,w.heap[g]?=some (.cells cs t (0,0))/\n<=cs.size
variable{j:Nat}
def ID.cell{n:Nat}(h:ID w g n)(hj:j<n):(∃v,w.cell? (g,j)=some v)/\w.frozen? ⟨g,j,none⟩=false:=by
 obtain⟨cs,t,h1,h2⟩:=h;exact⟨⟨cs[j],za h1 (by simp[(I:j<cs.size)])⟩,zg h1⟩
def ID.set{n:Nat}(h:ID w g n)(j:Nat)(v:Value):ID (w.setCell (g,j) v) g n:=by
 obtain⟨cs,t,h1,h2⟩:=h;exact⟨_,t,zc h1,nF h2⟩
variable{l:nG}
def OB.open_{n:Nat}(h:OB w (.slice g n cap) l):ID w g l.length:=by
 rcases h.2 with⟨e,_⟩|⟨g',b,a,e,_,h1,h2,h3,h4,h5⟩
 .cases e
 cases e;exact⟨a,_,h1,I⟩
def eU(h:zi tag i b c V W)(E:EC i tag W)(k most:Int)(hm:most<=9223372036854775807)(ok:∀k,k<8->MN (c.rs k))(hl:(c.read k most).1.1.length<=1099511627776):Calls prog 29 #[(b,0),.int .i64 k,[most]] W (Ej tag i b W (.tuple #[.string (zu (c.read k most).1.1),.int .i64 ((c.read k most).1.2.1:Int),.int .i64 ((c.read k most).1.2.2:Int)]) (c.read k most).2):=by
 have y:=eV h k most hm ok;obtain⟨R,X⟩:=nm (c.read k most);rw[X]at y hl ⊢;obtain⟨⟨s,st,er⟩,c'⟩:=R;simp only at y hl ⊢;have d:=zb E;have B:=zb h;have Y:=zb y;clear h E ok y X;go_enter func29,ntmps29;go_wp2_with fail;refine(Y.z).mono ?_;rintro _ W2 ⟨bv,rfl,a,l,V',h2,z⟩;clear Y;obtain⟨m,sc,rfl,C,D,n⟩:=zk a;unfold maxLen at D;obtain⟨N,F⟩:=nm s.length;have hcv:(convert 60 9 (.slice m N sc)).run prog W2=.ok (.string (zu s)) W2:=by
  have:=Ju (OB.br a);rw[F]at this;exact this
 have Z:=d.z.mod z (λg hg=>.inl (by
  have hg:=hg;rw[hg,B.z.tb];have:=d.z.pos;simp;omega))
 have hL:=h2.left d.z.ok (B.z.modb z);have o:EZ er=.nilIface\/∃t u,EZ er=.iface t u:=by
  unfold EZ;split
  .exact .inl rfl
  exact .inr ⟨_,_,rfl⟩
 have q:∀g,m=some ⟨g,0,none⟩->ID W2 g N:=λg hg=>by
  subst hg;rw[<-F];exact a.open_
 have r:∀g,m=some ⟨g,0,none⟩->W.heap.size<=g:=λg hg=>by
  subst hg;exact l g rfl
 rw[F]at C n hl ⊢;have HL:=zb hL;have G:=zb Z;have H:=zb q;have e:=zb r;have H2:=zb h2;have M2:=zb z;have J:AA (EZ er=EZ er):=zb rfl;obtain⟨ev,f⟩:=nm (EZ er);have K:=zb f;rw[f]at o ⊢;clear a l h2 z Z hL q r f J;rcases o with rfl|⟨et,eu,rfl⟩;all_goals
  go_wp2_with fail
  go_loopw [26] (λL wr=>∃j:Nat,j<=N/\L=.int .i64 j/\AA (∀g,m=some ⟨g,0,none⟩->ID wr g N)/\AA (DW (λg=>m=some ⟨g,0,none⟩) W2 wr)) (λL _=>N-(intOf L).toNat)
  case atStart=>exact⟨0,AM _,rfl,H,zb (DW.refl _ _)⟩
  case round =>
   obtain⟨j,hj,rfl,HQ,A⟩:=hrel;by_cases M:j<N
   .obtain⟨g,hg⟩:=n I;subst hg;obtain⟨⟨v0,e0⟩,z0⟩:=(HQ.z g rfl).cell M;have O:AA (∀g',some (⟨g,0,none⟩:Addr)=some ⟨g',0,none⟩->ID (wr.setCell (g,j) (.int .u8 33)) g' N):=zb (λg' P=>by
     cases P;exact(HQ.z g rfl).set j _)
    have Q:=zb (A.z.setCell (p:=(g,j)) (.inl rfl) (.int .u8 33));go_wp2_with fail;go_roundw
    case rel=>exact⟨j+1,I,by go_num,O,Q⟩
    simp[intOf];omega
   have S:=Nf er wr (G.z.err.mod A.z (λx=>by
    have h5:=e.z 0 x;have:=d.z.tab.lt;omega))
   rw[K.z]at S;have KT:=zb S;clear S;go_wp2_with fail;refine(KT.z).mono ?_;rintro _ W4 ⟨rfl,T⟩;have v:=(H2.z.mod A.z (λg hg=>by
    rw[d.z.ok g (e.z g hg)];have:=d.z.pos;simp;omega) (λ_ _=>rfl)).mod0 T
   have w:=(M2.z.then A.z (λg hg=>.inr (e.z g hg))).trans (T.mono (λ_ x=>x.elim));have H4:=zb (v.left d.z.ok (B.z.modb w));clear T v w;go_wp2_with fail;go_ret3;exact⟨rfl,H4.z⟩
def Kr(b o:Nat)(w:World):Nat:=match w.cell? (b,o)with|some (.slice _ n _)=>n|_=>0
def P9:Value->Nat|.slice _ n _=>n|_=>0
def zi.flLen(h:zi tag i b c V W):Kr b 236 W=c.flight.length:=by
 obtain⟨a,cap,e,_⟩:=zk h.ft;have c0:W.cell? (b,236)=some V.ft:=h.tl (j:=3) rfl;unfold Kr;rw[c0,e]
def Fb.form{t:Nat×Nat}{l:zC}(h:Fb tag t W v l):∃a cap,v=.slice a l.length cap:=by
 obtain⟨a,cap,e,_⟩:=h.1;exact⟨a,cap,e⟩
def GJ(i:Nat)(tag:nH):Prop:=∀g r,90<=r->tag g≠(i,r)
def P8(tag:nH)(i b:Nat)(a:World)(outs:List nG)(c':CS)(e:Ending)(W':World):Prop :=
 ∃v vs tag' V',e=.returned v/\zi tag' i b c' V' W'/\Dn i tag tag' a W'/\DW (Dx i tag) a W'/\Gd tag' a W' v vs outs/\GJ i tag'
def Ih(i:Nat)(tag:nH):Nat->Nat×Nat:=λg=>if (tag g).1=i/\90<=(tag g).2 then(0,0)else tag g
def Wv(hi:0<i):GJ i (Ih i tag):=by
 intro g r hr h;unfold Ih at h;split at h
 .simp at h;omega
 rename_i hn;rw[h]at hn;exact hn ⟨rfl,hr⟩
def Yu{r:Nat}(hr:r<90)(h:tag g=(i,r)):Ih i tag g=(i,r):=by
 unfold Ih;rw[AI (by rw[h];simp;omega),h]
def Ua(h:tag g=(0,0)):Ih i tag g=(0,0):=by
 unfold Ih;split
 .rfl
 exact h
variable{W':World}{tag':nH}
def Dn.undr(e:Dn i tag tag' W W')(nd:GJ i tag):Dn i tag (Ih i tag') W W':=by
 refine⟨λg hg=>?_,λg hg=>?_,λg hg=>Ua (e.z g hg)⟩
 .have h1:=e.old g hg;unfold Ih;rw[AI,h1];rintro⟨x,y⟩;rw[h1]at x y;exact nd g (tag g).2 y (by rw[<-x])
 unfold Ih;split
 .exact .inr rfl
 exact e.new g hg
variable{W0:World}{outs:List nG}{ov tv:Value}{told:zC}{vs:nJ}
def GK.post(h:GK tag i b W0 c told outs tag' V vs ov tv W)(nd:GJ i tag):P8 tag i b W0 outs c (.returned ov) W :=
 ⟨ov,vs,Ih i tag',V,rfl,h.c.retag (λg r hr hg=>Yu hr hg),h.e.undr nd,h.m,h.o.mod (DW.refl DY W) (λ_ x=>x.elim) (λ_ _ x=>Ua x),Wv h.p⟩
variable{bv fv:Value}{d:Dd}{db:Nat}
def Fu.post{l:List (Da×Value)}(h:Fu tag i b db W0 c d told outs tag' V bv fv l vs ov tv W)(nd:GJ i tag):P8 tag i b W0 outs c (.returned ov) W :=
 GK.post ⟨h.s.c,h.s.e,h.s.m,h.o,h.t,h.s.p⟩ nd
def Dx.i_(h:Dx i tag g):(tag g).1=i:=h.1
def Fu.env{l:List (Da×Value)}(h:Fu tag i b db W0 c d told outs tag' V bv fv l vs ov tv W)(E:EC i tag W0):EC i tag' W:=E.left h.s.e (h.s.m.mono (λg hg=>.inl hg.i_))
def kK(h:zi tag i b c V W)(E:EC i tag W)(nd:GJ i tag)(h0:c.closed=0)(ok:Gu c.acks.2 c.acks.1)(hg:c.got.Ok):Calls prog 50 #[(b,0)] W (P8 tag i b W c.packets.1 c.packets.2):=by
 have c4:=h.hd (j:=4) rfl;rw[h0]at c4;have ka:=YY h E hg;have EE:=zb E;have ND:=zb nd;have OK:=zb ok;obtain⟨R,hR⟩:=nm c.packets;have HR:=zb hR;rw[hR];obtain⟨T0,al⟩:=nm c.acks.1;obtain⟨C0,Y⟩:=nm c.acks.2;have H:AA (CS.pkts (12-c.flight.length+T0.length+1) C0 T0=R/\Gu C0 T0/\Fs C0 T0<12-c.flight.length+T0.length+1):=by
  refine⟨?_,?_,?_⟩
  .rw[<-hR,CS.packets,al,Y]
  .rw[<-al,<-Y];exact ok
  have:C0.flight=c.flight:=by
   rw[<-Y];unfold CS.acks;split<;>rfl
  unfold Fs;rw[this];omega
 rw[al,Y]at ka;have KA:=zb ka;clear h E nd ok hg h0 hR al Y ka;go_enter func50,ntmps50;go_wp2_with (go_at_call 82;refine KA.z.mono ?_;rintro e W1 ⟨v,aB,V1,rfl,aY,aZ,a0,a1⟩;have H1:AA (GK tag i b W C0 T0 [] aB V1 [] (.slice none 0 0) v W1):=zb ⟨aZ,a0,a1,Gd.nil _ _ _,aY,EE.z.pos⟩;clear aY aZ a0 a1);clear c4 KA
 go_loopw [3,4] (λov tv wr=>∃(n:Nat) (c':CS) (told:zC) (outs:List nG) (tag':nH) (V':CV) (y:nJ),AA (GK tag i b W c' told outs tag' V' y ov tv wr)/\AA (Gu c' told/\Fs c' told<n/\outs++(CS.pkts n c' told).1=R.1/\(CS.pkts n c' told).2=R.2)/\AA (outs.length+n<=2097152)) (λ_ tv wr=>(12-Kr b 236 wr)+P9 tv)
 case atStart=>exact⟨_,C0,T0,[],aB,V1,[],H1,zb ⟨H.z.2.1,H.z.2.2,by rw[H.z.1];rfl,by rw[H.z.1]⟩,zb (by have:=H.z.2.1.len;show 0+_<=_;omega)⟩
 case round =>
  clear H1 H;obtain⟨n,c',told,outs,tag',V',y,HH,u,a2⟩:=hrel;have c6:=HH.z.c.hd (j:=6) rfl;have c0:=HH.z.c.hd (j:=0) rfl;obtain⟨ta,tc,bo⟩:=HH.z.t.form;have aF:AA ((12-Kr b 236 wr)+told.length=Fs c' told):=by
   show _=_;rw[HH.z.c.flLen];rfl
  have a3:c'.next<4611686018427387904:=by have:=u.z.1.next;unfold zF at this;omega
  have kv:=GQ (.slice none 0 0) [] c'.next wr.drew (World.ownsRow_nil _ 0 _ 1) (AM _) a3;have KV:=zb kv;obtain⟨nx,Z⟩:=nm c'.next;obtain⟨mt,aG⟩:=nm c'.mtu;rw[Z]at c6 KV;rw[aG]at c0;have a4:=zb Z;have bp:=zb aG;clear kv a3 Z aG;subst bo;go_upto_region 5 with fail;refine zo 13 (λw'=>w'.cell? (U b 6)=some (.int .u64 nx)/\w'.cell? b=some (.int .i64 mt)) (⟨c6,c0⟩) ?_;refine GI 0 ?_;iterate 4
   refine GV rfl ?_;try simp only[PS]
  refine GI 5 ?_;iterate 5
   refine GV rfl ?_;try simp only[PS]
  refine zE 4 rfl (λK D=>?_);go_simp;refine KV.z.mono ?_;rintro e W2 ⟨bv,rfl,z⟩;obtain⟨am,an,a5,_⟩:=zk z.own;rw[An]at a5;subst a5;have m2:=((DW.refl DY wr).drew).trans ((DW.refl DY wr.drew).grown z.grown (λg hg=>by simp[Value.ownBlock]at hg));have AP:=zb z;have ao:=zb (show W2.cell? (U b 6)=some (.int .u64 nx)/\W2.cell? b=some (.int .i64 mt)from⟨m2.cell (a:=U b 6) id c6,m2.cell (a:=b) id c0⟩);refine D.z _ _ ao.z ?_;clear z m2;clear D K;try simp only[PS]
  refine Jn (i:=10) (v:=.agg #[.slice am (zH nx).length an,.slice none 0 0,.int .i64 mt,.bool false,.bool false]) rfl mr (λ_ _ _ h=>h) (Or.inl ⟨by rfl,?_⟩) ?_
  ·(intro S q;(try dsimp only at q);go_simp;try with_reducible rfl)
  try simp only[PS]
  refine zE 11 rfl (λK D=>?_);go_simp;have bq:=λo=>(show(W2.alloc o).cell? (U b 6)=some (.int .u64 nx)/\(W2.alloc o).cell? b=some (.int .i64 mt)from⟨((DW.refl DY W2).alloc o).cell (a:=U b 6) id ao.z.1,((DW.refl DY W2).alloc o).cell (a:=b) id ao.z.2⟩)
  refine D.z _ _ (bq _) ?_;clear D K;try simp only[PS]
  refine GI 12 ?_;refine GV rfl ?_;try simp only[PS]
  refine zr ?_;obtain⟨W3,aH⟩:=nm (W2.alloc (.cells #[.slice am (zH nx).length an,.slice none 0 0,[mt],false,false] 180));obtain⟨db,aI⟩:=nm W2.heap.size;obtain⟨aa,HM⟩:∃aa,AA (Fu tag i b db W c' c'.pkDraft told outs aa V' (.slice am (zH nx).length an) (.slice none 0 0) [] y u3 (.slice ta told.length tc) W3):=by
   have z:=AP.z;rw[<-a4.z]at z;obtain⟨t1,h1⟩:=HH.z.draft ((DW.refl DY wr).drew) z;rw[a4.z,bp.z,aH,aI]at h1;exact⟨t1,h1⟩
  try rw[aH]
  try rw[aI]
  obtain⟨T,aJ⟩:=nm ((zp c'.pkDraft told).1);obtain⟨F,aK⟩:=nm ((zp c'.pkDraft told).2);have ab:=u.z.1.round;rw[aJ,aK]at ab;have G:=zb ab;have ac:=zb (And.intro aJ aK);have bt:=NN (JG u.z.1.ok) told;have kt:=λh1=>YX HM.z.s.c HM.z.s.d (HM.z.env EE.z) HM.z.t h1 u.z.1.desc.tell u.z.1.len (nC ((JG u.z.1.ok).b)) (nD ((JG u.z.1.ok).fs) ((JG u.z.1.ok).b)) (nC ((JG u.z.1.ok).room))
  have KT:=zb kt;obtain⟨N,hN⟩:=nm told.length;rw[hN]at KT HM ⊢;have a6:=zb hN;clear aJ aK ab bt kt hN aH aI ao AP HH c6 c0 KV;go_upto_if 29 with fail
  go_cut [4] (λt2 S=>∃(tag2:nH) (V2:CV) (aq ar:Value) (l2:List (Da×Value)),AA (Fu tag i b db W c' T F outs tag2 V2 aq ar l2 y u3 t2 S))
  case first =>
   by_cases J:told=[]
   .have bu:N=0:=by rw[<-a6.z,J];rfl
    subst bu;have X:AA (Fu tag i b db W c' T F outs aa V' (.slice am (zH nx).length an) (.slice none 0 0) [] y u3 (.slice ta 0 tc) W3):=by
     have e:zp c'.pkDraft told=(c'.pkDraft,told):=by unfold zp;rw[AQ J]
     have e1:=ac.z.1;have e2:=ac.z.2;rw[e]at e1 e2;rw[<-e1,<-e2];exact HM
    clear J KT HM;go_wp2_with fail;go_meet;exact⟨_,_,_,_,_,X⟩
   have d1:(0:Int)<N:=by
    have:=BM.2 J;have:=a6.z;omega
   have hd:(GL c'.pkDraft told).1=T/\(GL c'.pkDraft told).2=F:=by
    have e:zp c'.pkDraft told=GL c'.pkDraft told:=by unfold zp;rw[AI J]
    rw[<-e];exact ac.z
   have k2:=KT.z I;rw[hd.1,hd.2]at k2;have K2:=zb k2;clear J KT hd k2;go_wp2_with (go_at_call 84;refine K2.z.mono ?_;intro e W4 hp;obtain⟨v,tag2,V2,aq,ar,l2,rfl,h2⟩:=HM.z.tell hp;have X:=zb h2;clear hp h2);go_meet;exact⟨_,_,_,_,_,X⟩
  case rest =>
  obtain⟨tag2,V2,aq,ar,l2,X⟩:=hcut;clear HM KT;have a7:wc.cell? (b,236)=some V2.ft:=X.z.s.c.tl (j:=3) rfl;obtain⟨fa,fc,a8,_⟩:=zk X.z.s.c.ft;rw[a8]at a7;obtain⟨FL,aL⟩:=nm c'.flight.length;rw[aL]at a7;have a9:=zb aL;obtain⟨f,aM⟩:=nm ((c'.pkFill T).1);obtain⟨k,aN⟩:=nm ((c'.pkFill T).2);have L:=zb (And.intro aM aN);have aO:=G.z;rw[aM,aN]at aO;have ba:=zb aO;clear aO;have kf:=YV X.z.s.c X.z.s.d (X.z.env EE.z) u.z.1.ok G.z.1;have KF:=zb kf;clear a8 aL aM aN kf;go_upto_if 39 with fail
  go_cut [] (λS=>∃(ad:nH) (V3:CV) (w M:Value) (l3:List (Da×Value)),AA (Fu tag i b db W f k F outs ad V3 w M l3 y u3 u4 S))
  case first =>
   by_cases au:FL<12
   .have d1:(FL:Int)<12:=I;have e:c'.pkFill T=c'.fill T:=by unfold CS.pkFill;rw[AQ (by rw[a9.z];exact au)]
    have B:(c'.fill T).1=f/\(c'.fill T).2=k:=by rw[<-e];exact L.z
    have k2:=KF.z;rw[B.1,B.2]at k2;have K2:=zb k2;clear au KF e B k2;go_wp2_with (go_at_call 85;refine K2.z.mono ?_;intro e W4 hp;obtain⟨rfl,ad,V3,w,M,l3,h3⟩:=X.z.fill hp;have A:=zb h3;clear hp h3);go_meet;exact⟨_,_,_,_,_,A⟩
   have d1:¬(FL:Int)<12:=I;have e:c'.pkFill T=(c',T):=by unfold CS.pkFill;rw[AI (by rw[a9.z];exact au)]
   have B:c'=f/\T=k:=by
    have:=L.z;rw[e]at this;exact this
   have A:AA (Fu tag i b db W f k F outs tag2 V2 aq ar l2 y u3 u4 wc):=by
    rw[<-B.1,<-B.2];exact X
   clear au KF e B;go_wp2_with fail;go_meet;exact⟨_,_,_,_,_,A⟩
  case rest =>
  obtain⟨ad,V3,w,M,l3,A⟩:=hcut;clear X KF;have o3:=A.z.s.d.obj;obtain⟨fa3,fc3,ae,_⟩:=zk A.z.s.d.own;have bb:l3.length=k.fs.length:=by rw[<-A.z.s.d.lf,BB]
  rw[bb]at ae;obtain⟨ba3,bc3,aC,_⟩:=zk A.z.s.d.ob;have e0:wc.cell? db=some w:=za o3 rfl;have e1:wc.cell? (db,1)=some M:=za o3 rfl;rw[ae]at e1;obtain⟨NF,aP⟩:=nm k.fs.length;rw[aP]at e1;obtain⟨m,hm⟩:∃m,n=m+1:=⟨n-1,nC u.z.2.1⟩;subst hm;have av:AA (CS.pkts (m+1) c' told=if k.fs=[]then([],f)else(FV k.b::(CS.pkts m (f.pkDone k) F).1,(CS.pkts m (f.pkDone k) F).2)):=by
   show _=_;rw[CS.pkts,ac.z.1,ac.z.2,L.z.1,L.z.2]
  have bc:=zb aP;have be:=zb aC;clear o3 ae bb aP aC;go_upto_if 48 with fail;by_cases O:k.fs=[]
  .have hz:NF=0:=by rw[<-bc.z,O];rfl
   subst hz;have bf:AA (outs=R.1/\f=R.2):=by
    have h1:=u.z.2.2.1;have h2:=u.z.2.2.2;rw[av.z,AQ O]at h1 h2;exact⟨nF h1,h2⟩
   have H4:=zb (A.z.post ND.z);clear O av u e0;go_wp2_with fail;go_ret;have h4:=H4.z;rw[bf.z.1,bf.z.2]at h4;exact h4
  have hz:NF≠0:=λe=>O (Aj (by rw[bc.z,e]))
  have dz:((NF:Int)==0)=false:=AS.2 I;have aQ:=zb O;have ks:=dJ w k.b wc A.z.s.d.ob (nC ba.z.2.2.1.b) (A.z.env EE.z).tab;have kb:∀W5 sv,Dz wc w k.b (ES (D3 k.b)) sv W5->∃sa sn sc ov' W6,sv=.slice sa sn sc/\(∀ty,(Builtin.append_ #[130,130] ty #[u3,.slice (some ⟨W5.heap.size,0,none⟩) 1 1]).run prog (W5.alloc (.cells #[.slice sa sn sc] 60))=.ok ov' W6)/\∃tag4 oa' oc',AA (Oj tag i b db W f k F (outs++[FV k.b]) tag4 V3 w M (y++[sv]) ov' u4 W6)/\ov'=.slice oa' (y.length+1) oc':=by
   intro W5 sv z;obtain⟨sa,sc,bh,_⟩:=zk z.own;have m1:=(DW.refl (λg=>w.ownBlock=some g) wc).grown z.grown (λg hg=>.inl hg);have ho:=A.z.o.mod m1 (λg hg x=>by
    have:=A.z.s.d.tbv g hg;rw[x]at this;have:=A.z.s.p;simp at *) (λ_ _ x=>x)
   obtain⟨ov',W6,h1,h2,h3,h4⟩:=YU W5 u3 y sa _ sc ho.own (by
    have:=ho.len;have:=u.z.1.next;have:=a2.z;omega)
   obtain⟨tag4,h5⟩:=A.z.sealed ND.z z (by rw[bh];exact h2) h3 h4;obtain⟨oa',oc',h6,_⟩:=zk h2;exact⟨sa,_,sc,ov',W6,bh,h1,tag4,oa',oc',h5,h6⟩
  obtain⟨oa,oc,bi,_⟩:=zk A.z.o.own;rw[be.z]at ks e0;have KS:=zb ks;have KB:=zb kb;clear ks kb O hz e1;rw[bi]at KB ⊢;clear bi;go_upto_region 13 with(first|(go_at_call 86;refine KS.z.mono ?_;rintro e W5 ⟨sv,rfl,z⟩;have z:=(show Dz wc w k.b (ES (D3 k.b)) sv W5 by rw[be.z];exact z);obtain⟨sa,sn,sc,ov',W6,rfl,De,tag4,oa',oc',l,rfl⟩:=KB.z W5 sv z;clear z)|(at_builtin;refine zn rfl _ _ _ _ rfl _ _ _ rfl rfl De ?_));have o6:=l.z.obj;have e3:W6.cell? (db,3)=some (.bool k.wants):=za o6 rfl;obtain⟨wa,aR⟩:=nm k.wants;rw[aR]at e3;have bj:=zb aR;clear o6 aR KS KB;go_upto_if 61 with fail
  go_cut [] (λS=>∃(r:nH) (V5:CV),AA (GK tag i b W { f with flight:=if k.wants then f.flight++[⟨f.next,f.now,k.fs⟩]else f.flight } F (outs++[FV k.b]) r V5 (y++[.slice sa sn sc]) (.slice oa' (y.length+1) oc') u4 S))
  case first =>
   cases wa
   .have H7:AA (GK tag i b W { f with flight:=if k.wants then f.flight++[⟨f.next,f.now,k.fs⟩]else f.flight } F (outs++[FV k.b]) tag4 V3 (y++[.slice sa sn sc]) (.slice oa' (y.length+1) oc') u4 W6):=by
     rw[bj.z];exact l.z.h
    go_wp2_with fail;go_meet;exact⟨_,_,H7⟩
   have af:W6.cell? (b,236)=some V3.ft:=l.z.h.c.tl (j:=3) rfl;have q6:=l.z.h.c.hd (j:=6) rfl;have q3:=l.z.h.c.hd (j:=3) rfl;have q1:W6.cell? (db,1)=some M:=za l.z.obj rfl;obtain⟨ga,gc,aS⟩:=l.z.fv;obtain⟨ka,kc,aT,_⟩:=zk l.z.h.c.ft;have ah:(f.flight.zip V3.fts).length=f.flight.length:=by
    rw[Cy,l.z.h.c.fl,Ce]
   have aD:f.flight.length<=1099511627776:=by
    have h1:=G.z.2.2.2.2.2.1;rw[L.z.1]at h1;rw[h1];have:=u.z.1.fl;omega
   have P:∀g,V3.ft.ownBlock=some g->g≠b/\g≠db:=λg hg=>by
    have h1:=l.z.h.c.tft g hg;refine⟨λe=>?_,λe=>?_⟩
    .rw[e,l.z.h.c.tb]at h1;simp at h1
    rw[e,l.z.db]at h1;simp at h1
   obtain⟨bw,W7,C,aw,aU,bk⟩:=YT W6.drew V3.ft (f.flight.zip V3.fts) ⟨f.next,f.now,k.fs⟩ ga _ gc (by rw[ah];exact l.z.h.c.ft) (by rw[ah];exact aD);have H7:AA (∃r V5,AA (GK tag i b W { f with flight:=if k.wants then f.flight++[⟨f.next,f.now,k.fs⟩]else f.flight } F (outs++[FV k.b]) r V5 (y++[.slice sa sn sc]) (.slice oa' (y.length+1) oc') u4 (W7.setCell (U b 236) bw))):=by
    rw[ah,<-aS]at aw;obtain⟨r,h7⟩:=l.z.fly ((DW.refl DY W6).drew) aw aU bk;rw[bj.z];exact⟨r,_,h7⟩
   have m7:=((DW.refl DY W6).drew.mono (λ_ x=>x.elim)).trans ((DW.refl (λg=>V3.ft.ownBlock=some g) W6.drew).grown aU (λg hg=>.inl hg));have f7:∀p,W7.frozen? ⟨b,p,none⟩=false:=λp=>zg (m7.obj (λx=>(P b x).1 rfl) l.z.h.c.obj)
   obtain⟨bz,bA,bm,_⟩:=zk aw;rw[aS]at q1;rw[aT]at af;have Q:=zb (show W7.cell? (U b 236)=some (.slice ka f.flight.length kc)/\W7.cell? (U b 6)=some (.int .u64 f.next)/\W7.cell? (U b 3)=some (.int .u64 f.now)/\W7.cell? (U db 1)=some (.slice ga k.fs.length gc)from⟨m7.cell (a:=U b 236) (λx=>(P b x).1 rfl) af,m7.cell (a:=U b 6) (λx=>(P b x).1 rfl) q6,m7.cell (a:=U b 3) (λx=>(P b x).1 rfl) q3,m7.cell (a:=U db 1) (λx=>(P db x).2 rfl) q1⟩);rw[aT]at C;rw[ah]at bm;subst bm;have aV:=zb C;have bB:=zb f7;clear aS aT ah aD P aw aU bk m7 C f7 e3;obtain⟨NW,aW⟩:=nm f.next;obtain⟨AT,aX⟩:=nm f.now;obtain⟨ax,ai⟩:=nm k.fs.length;obtain⟨ay,aE⟩:=nm f.flight.length;rw[aE]at af Q aV H7;rw[aW]at q6 Q;rw[aX]at q3 Q;rw[ai]at q1 Q;have bC:AA (∀ty,(Builtin.append_ #[123,123] ty #[.slice ka ay kc,.slice W6.drew.heap.size 1 1]).run prog (W6.drew.alloc (.cells #[NW,AT,.slice ga ax gc] 173))=.ok (.slice bz (ay+1) bA) W7):=by
    have h8:=aV.z;rw[aW,aX,ai]at h8;exact h8
   clear aW aX ai aE aV;go_wp2_with fail;refine zo 22 (λw'=>w'.cell? (U b 236)=some (.slice ka ay kc)/\w'.cell? (U b 6)=some (.int .u64 NW)/\w'.cell? (U b 3)=some (.int .u64 AT)/\w'.cell? (U db 1)=some (.slice ga ax gc)) (⟨af,q6,q3,q1⟩) ?_;refine GI 0 ?_;iterate 17
    refine GV rfl ?_;try simp only[PS]
   refine Jn (i:=17) (v:=.agg #[.int .u64 NW,.int .u64 AT,.slice ga ax gc]) rfl mr (λ_ _ _ h=>h) (Or.inl ⟨by rfl,?_⟩) ?_
   ·(intro S q;(try dsimp only at q);go_simp;try with_reducible rfl)
   try simp only[PS]
   refine zE 18 rfl (λK D=>?_);go_simp;have bE:=λo=>(show(W6.drew.alloc o).cell? (U b 236)=some (.slice ka ay kc)/\(W6.drew.alloc o).cell? (U b 6)=some (.int .u64 NW)/\(W6.drew.alloc o).cell? (U b 3)=some (.int .u64 AT)/\(W6.drew.alloc o).cell? (U db 1)=some (.slice ga ax gc)from⟨((DW.refl DY W6.drew).alloc o).cell (a:=U b 236) id af,((DW.refl DY W6.drew).alloc o).cell (a:=U b 6) id q6,((DW.refl DY W6.drew).alloc o).cell (a:=U b 3) id q3,((DW.refl DY W6.drew).alloc o).cell (a:=U db 1) id q1⟩)
   refine D.z _ _ (bE _) ?_;clear D K;try simp only[PS]
   refine zE 19 rfl (λK D=>?_);refine zS rfl _ _ _ _ rfl _ _ _ rfl rfl bC.z ?_;refine D.z _ _ Q.z ?_;clear D K;try simp only[PS]
   refine GI 20 ?_;iterate 2
    refine GV rfl ?_;try simp only[PS]
   refine EX rfl (λK D=>?_);have f7:=bB.z;obtain⟨u36,u6,u3_,u1⟩:=Q.z;go_simp;refine D.z _ _ ?_;clear D K;try simp only[PS]
   refine zr ?_;go_wp2_with fail;go_meet;exact H7.z
  case rest =>
  obtain⟨r,V5,H7⟩:=hcut;clear l;obtain⟨C7,az⟩:∃C7:CS,{ f with flight:=if k.wants then f.flight++[⟨f.next,f.now,k.fs⟩]else f.flight }=C7:=⟨_,rfl⟩;have aj:AA ({ C7 with next:=C7.next+1 }=f.pkDone k):=by
   show _=_;rw[<-az];rfl
  have bn:C7.next=c'.next:=by
   have h1:=G.z.2.2.2.1;rw[L.z.1]at h1;rw[<-az,<-h1]
  rw[az]at H7;have p6:=H7.z.c.hd (j:=6) rfl;have pf:=H7.z.c.fz;obtain⟨NX,aA⟩:=nm C7.next;have bF:NX+1<18446744073709551616:=by
   have:=u.z.1.next;unfold zF at this;omega
  have H8:AA (GK tag i b W (f.pkDone k) F (outs++[FV k.b]) r V5 (y++[.slice sa sn sc]) (.slice oa' (y.length+1) oc') u4 (wc.setCell (b,6) (.int .u64 ((NX+1:Nat):Int)))):=by
   have h8:=H7.z.next;rw[aA]at h8;rw[<-aj.z,aA];exact h8
  rw[aA]at p6;have yx:IntKind.u64.wrap ((NX:Int)+1)=((NX+1:Nat):Int):=by rw[IntKind.wrap_u64];omega
  have ak:AA (Gu (f.pkDone k) F/\Fs (f.pkDone k) F<Fs c' told):=ba.z.2.2.2.2.2.2 aQ.z;clear az aj bn H7 aA;go_wp2_with fail;go_roundw
  case rel =>
   refine⟨m,_,_,_,r,V5,_,H8,zb ⟨ak.z.1,nD u.z.2.1 ak.z.2,?_,?_⟩,zb (by have:=a2.z;rw[AG,Af];omega)⟩
   .have h1:=u.z.2.2.1;rw[av.z,AI aQ.z]at h1;rw[<-h1];simp
   have h1:=u.z.2.2.2;rw[av.z,AI aQ.z]at h1;exact h1
  case measure =>
   have h1:=ak.z.2;have h2:=aF.z;obtain⟨xa,xc,hx⟩:=H8.z.t.form;have h3:=H8.z.c.flLen;show(12-Kr b 236 (wc.setCell (U b 6) (.int .u64 ((NX+1:Nat):Int))))+P9 u4<(12-Kr b 236 wr)+P9 (.slice ta told.length tc);rw[h3,hx];show _<(12-Kr b 236 wr)+told.length;rw[h2];exact h1
def eT:(prog.info? 9).map (λi=>(i.zero,i.size,i.bytes))=some (some (.string ⟨#[]⟩),1,16):=mr
def GC(l:List nG):List Value:=l.map λs=>.string (zu s)
def Yt(w:World)(v:Value)(l:List nG)(s:nG)(h:w.ownsRow 0 9 1 v l.length (GC l))(hl:l.length<=1099511627776):∃v' w',(∀ty,(Builtin.append_ #[53,53] ty #[v,.slice w.heap.size 1 1]).run prog (w.alloc (.cells #[.string (zu s)] 9))=.ok v' w')/\w'.ownsRow 0 9 1 v' (l.length+1) (GC (l++[s]))/\(w.alloc (.cells #[.string (zu s)] 9)).grownBy w' v.ownBlock/\EA w v v':=by
 obtain⟨o,d⟩:=nm ((Obj.cells #[.string (zu s)] 9 (0,0)));obtain⟨i,a,hz,b,c⟩:=info_parts eT;have hc:∀(j:Nat) u,(GC [s])[j]?=some u->(w.alloc o).cell? ((⟨w.heap.size,0,none⟩:Addr).add j)=some u:=λj u hj=>by
  rw[zZ,<-d];refine za (heap_alloc_new w _) ?_;rw[A6,<-Array.getElem?_toList];exact hj
 obtain⟨v',w',k1,k2,k3,k4⟩:=zV (P:=prog) (w.alloc o) 53 9 i _ 1 16 underlying53 a hz b c rfl mu v l.length (GC l) (((DW.refl DY w).alloc o).owns h (λ_ _ x=>x))
  ⟨w.heap.size,0,none⟩ 1 1 (GC [s]) rfl hc (by
   intro u f;simp[GC]at f;subst f;rfl) mz I
 have e:GC (l++[s])=GC l++GC [s]:=by simp[GC]
 rw[d,e];refine⟨v',w',k1,k2,k3,λg hg=>?_⟩;rcases k4 g hg with x|x
 .exact .inl x
 refine .inr ?_;simp at x;omega
def KM(tag:nH)(i b:Nat)(W:World)(outs:List nG)(c':CS)(e:Ending)(W':World):Prop :=
 ∃v tag' V',e=.returned v/\zi tag' i b c' V' W'/\Dn i tag tag' W W'/\DW (Dx i tag) W W'/\GJ i tag'/\W'.ownsRow 0 9 1 v outs.length (GC outs)/\∀g,v.ownBlock=some g->W.heap.size<=g/\tag' g=(0,0)
def MH(vs:nJ)(k:Nat)(g:Nat):Prop:=∃j u,j<k/\vs[j]?=some u/\u.ownBlock=some g
def lD(h:zi tag i b c V W)(E:EC i tag W)(nd:GJ i tag)(h0:c.closed=0)(ok:Gu c.acks.2 c.acks.1)(hg:c.got.Ok)(G:c.packets.1.length<=1099511627776)(n:∀l∈c.packets.1,l.length<=1099511627776):Calls prog 27 #[(b,0)] W (KM tag i b W c.packets.1 c.packets.2):=by
 have k1:=kK h E nd h0 ok hg;obtain⟨R,hR⟩:=nm c.packets;rw[hR]at k1 G n ⊢;obtain⟨outs,c'⟩:=R;simp only at k1 G n ⊢;have HE:=zb E;have HC:=zb h;have K1:=zb k1;have ak:=zb n;clear h E ok k1 hR nd hg n h0;go_enter func27,ntmps27;go_wp2_with fail;refine(K1.z).mono ?_;rintro _ W2 ⟨v,o,tag',V',rfl,h2,e2,m2,s,S⟩;clear K1;obtain⟨N,hN⟩:=nm outs.length;have J:o.length=N:=by rw[s.len,hN]
 obtain⟨oa,oc,rfl,al,am,T⟩:=zk s.own;rw[J]at al T ⊢;rw[hN]at G;unfold maxLen at am;have H2:=zb h2;have E2:=zb e2;have M2:=zb m2;have an:=zb S;have Q:=zb s;have X:=zb J;have A:=zb hN;have ao:=zb m2.size;clear h2 e2 m2 S s J hN;go_wp2_with fail
 go_loopw [3,10] (λsv K wr=>∃k:Nat,k<=N/\K=.int .i64 k/\AA (wr.ownsRow 0 9 1 sv (outs.take k).length (GC (outs.take k))/\(∀g,sv.ownBlock=some g->W2.heap.size<=g)/\DW (MH o k) W2 wr)) (λ_ K _=>N-(intOf K).toNat)
 case atStart=>exact⟨0,AM _,rfl,zb ⟨World.ownsRow_nil _ 0 _ 1,λg hg=>by simp[Value.ownBlock]at hg,DW.refl _ _⟩⟩
 case round =>
  obtain⟨k,hk,rfl,B⟩:=hrel;obtain⟨sa,sc,ap,aq,ar,_⟩:=zk B.z.1;subst ap;have f:(outs.take k).length=k:=by rw[AU,A.z];omega
  by_cases t:k<N
  .obtain⟨u,Y⟩:∃u,o[k]?=some u:=⟨o[k]'(by rw[X.z];exact t),AK (by rw[X.z];exact t)⟩;obtain⟨l,hl⟩:∃l,outs[k]?=some l:=⟨outs[k]'(by rw[A.z];exact t),AK (by rw[A.z];exact t)⟩;obtain⟨w,au⟩:=Q.z.each k u l Y hl;have Z:=ak.z l (AV hl);have C:∀g,u.ownBlock=some g->¬MH o k g:=λg hg ⟨j,x,hj,hx,hxg⟩=>Q.z.apart j k x u hj hx Y g hxg hg
   have d:OB wr u l:=B.z.2.2.owns w C;obtain⟨g0,rfl⟩:=T I;have av:wr.cell? (g0,k)=some u:=by
    have aa:¬MH o k g0:=λ⟨j,x,hj,hx,hxg⟩=>by
     obtain⟨lj,M⟩:∃l,outs[j]?=some l:=⟨outs[j]'(by rw[A.z];omega),AK (by rw[A.z];omega)⟩;exact U5 Q.z.own (Q.z.each j x lj hx M).1 mu (g:=g0) rfl hxg
    have h5:=Q.z.own.cells (g:=g0) rfl k u Y;rw[zZ]at h5;have h6:=B.z.2.2.cell (a:=(g0,0+k)) aa h5;rw[A6]at h6;exact h6
   obtain⟨O,uc,aw,ax,ay,P⟩:=zk d;subst aw;unfold maxLen at ay;obtain⟨L,hL⟩:=nm l.length;have hcv:(convert 60 9 (.slice O L uc)).run prog wr=.ok (.string (zu l)) wr:=by
    have:=Ju (OB.br d);rw[hL]at this;exact this
   rw[hL]at ax P av Z;obtain⟨v',W3,De,y,z,ab⟩:=Yt wr (.slice sa (outs.take k).length sc) (outs.take k) l B.z.1 I;obtain⟨va,vc,rfl,_⟩:=zk y;have m3:=(((DW.refl DY wr).alloc _).mono (λ_ x=>x.elim)).trans ((DW.refl _ _).grown z (λg hg=>.inl hg));have e:=B.z.2.1;have ac:∀g,O=some ⟨g,0,none⟩->g<W2.heap.size:=λg hg=>by subst hg;exact zK w g rfl
   have D:OB W3 (.slice O l.length uc) l:=m3.owns d (λg hg x=>by
    have h5:=e g x;have h6:=zK w g hg;omega)
   have F:∀g,O=some ⟨g,0,none⟩->ID W3 g L:=λg hg=>by
    subst hg;rw[<-hL];exact D.open_
   have ad:=B.z.2.2.size;have m:∀g,(Value.slice va ((outs.take k).length+1) vc).ownBlock=some g->W2.heap.size<=g:=λg hg=>by
    rcases ab g hg with x|x
    .exact e g x
    omega
   have ae:outs.take (k+1)=outs.take k++[l]:=by rw[BG,hl];rfl
   have af:=B.z.2.2.then m3 (λg hg=>.inr (e g hg));have ah:AA (W3.ownsRow 0 9 1 (.slice va (k+1) vc) (outs.take (k+1)).length (GC (outs.take (k+1)))):=zb (by
    rw[ae,AG,Af];rw[f]at y ⊢;exact y)
   rw[f]at De m;have ai:=zb m;have az:=zb ac;have aA:=zb P;have aB:=zb F;have aC:=zb af;have aD:AA (∀g,O=some ⟨g,0,none⟩->MH o (k+1) g):=zb (λg hg=>⟨k,_,I,Y,by rw[hg];rfl⟩);have HTL:=zb f;rw[f];clear w au C d Y hl P y z ab m3 e ac D F ad m ae af f Z aq ar;go_wp2_with (at_builtin;refine zn rfl _ _ _ _ rfl _ _ _ rfl rfl De ?_)
   go_loopw [21] (λK wr=>∃j:Nat,j<=L/\K=.int .i64 j/\AA (∀g,O=some ⟨g,0,none⟩->ID wr g L)/\AA (DW (λg=>O=some ⟨g,0,none⟩) W3 wr)) (λK _=>L-(intOf K).toNat)
   case atStart=>exact⟨0,AM _,rfl,aB,zb (DW.refl _ _)⟩
   case round =>
    obtain⟨j,hj,rfl,HP,HM⟩:=hrel;by_cases aj:j<L
    .obtain⟨g,hg⟩:=aA.z I;subst hg;obtain⟨⟨v0,e0⟩,z0⟩:=(HP.z g rfl).cell aj;have aE:AA (∀g',some (⟨g,0,none⟩:Addr)=some ⟨g',0,none⟩->ID (wr.setCell (g,j) (.int .u8 33)) g' L):=zb (λg' z=>by
      cases z;exact(HP.z g rfl).set j _)
     have aF:=zb (HM.z.setCell (p:=(g,j)) (.inl rfl) (.int .u8 33));go_wp2_with fail;go_roundw
     case rel=>exact⟨j+1,I,by go_num,aE,aF⟩
     simp[intOf];omega
    have HF:AA (wr.ownsRow 0 9 1 (.slice va (k+1) vc) (outs.take (k+1)).length (GC (outs.take (k+1)))/\(∀g,(Value.slice va (k+1) vc).ownBlock=some g->W2.heap.size<=g)/\DW (MH o (k+1)) W2 wr):=zb
     ⟨HM.z.owns ah.z (λg hg x=>by
      have h5:=ai.z g hg;have h6:=az.z g x;omega),ai.z,(aC.z.mono (λg ⟨q,x,hq,r⟩=>.inl ⟨q,x,I,r⟩)).then HM.z (λg hg=>.inl (aD.z g hg))⟩
    go_wp2_with fail;go_roundw
    case rel=>exact⟨k+1,I,by go_num,HF⟩
    simp[intOf];omega
  have aG:k=N:=I;have ht:outs.take k=outs:=Aa (by rw[A.z];omega);have H:=B.z;rw[ht]at H;have hz:∀g,MH o k g->(tag' g)=(0,0)/\W.heap.size<=g:=λg ⟨j,x,hj,hx,hxg⟩=>by
   obtain⟨lj,M⟩:∃l,outs[j]?=some l:=⟨outs[j]'(by rw[A.z];omega),AK (by rw[A.z];omega)⟩;obtain⟨a,b⟩:=(Q.z.each j x lj hx M).2 g hxg;exact⟨b,a⟩
  have HF:AA (KM tag i b W outs c' (.returned (.slice sa outs.length sc)) wr):=zb
   ⟨_,tag',V',rfl,H2.z.mod H.2.2 (λg hg=>by rw[(hz g hg).1];have:=HE.z.pos;simp;omega) (λ_ _=>rfl),⟨E2.z.old,E2.z.new,E2.z.z.mod H.2.2⟩,M2.z.then H.2.2 (λg hg=>.inr (hz g hg).2),an.z,H.1,λg hg=>⟨AJ ao.z (H.2.1 g hg),E2.z.z g (H.2.1 g hg)⟩⟩
  rw[ht];clear aG;go_wp2_with fail;go_ret;exact HF.z
def At(bs:nG)(pos:Nat)(l:nG):Prop:=∃pre post,bs=pre++(l++post)/\pre.length=pos
variable{bs:nG}{pos:Nat}
def At.left{a b:nG}(h:At bs pos (a++b)):At bs pos a:=by
 obtain⟨pre,post,rfl,rfl⟩:=h;exact⟨pre,b++post,mv,rfl⟩
def At.right{a b:nG}(h:At bs pos (a++b)):At bs (pos+a.length) b:=by
 obtain⟨pre,post,rfl,rfl⟩:=h;exact⟨pre++a,post,mv,mv⟩
def At.le{a:nG}(h:At bs pos a):pos+a.length<=bs.length:=by
 obtain⟨pre,post,rfl,rfl⟩:=h;simp
def At.head{a:UInt8}(h:At bs pos (a::l)):bs[pos]?=some a:=by
 obtain⟨pre,post,rfl,rfl⟩:=h;simp
def At.tail{a:UInt8}(h:At bs pos (a::l)):At bs (pos+1) l:=At.right (a:=[a]) h
def At.sub(h:At bs pos l):(bs.drop pos).take l.length=l:=by
 obtain⟨pre,post,rfl,rfl⟩:=h;simp
def PE(n:Nat):(zH n).length<=8:=by
 unfold zH;repeat' split
 all_goals simp
def GG{n:Nat}(hn:n<4611686018427387904)(h:At bs pos (zH n)):Dy bs pos=some (n,pos+(zH n).length):=by
 have a:=h.le;unfold zH at h a ⊢;unfold Dy;split at h
 .rename_i h1;rw[h.head];have e:(UInt8.ofNat n).toNat=n:=by rw[By];omega
  have c:EK (UInt8.ofNat n)=1:=by unfold EK;rw[e];rw[(I:n / 64=0)]
  simp only[h1,BC]at a ⊢;simp only[Af]at a;rw[c];rw[AQ a];simp[GM,e];omega
 rename_i h1;split at h
 .rename_i h2;rw[h.head];have e:(UInt8.ofNat (n / 256+64)).toNat=n / 256+64:=by rw[By];omega
  have c:EK (UInt8.ofNat (n / 256+64))=2:=by unfold EK;rw[e];rw[(I:(n / 256+64) / 64=1)]
  simp only[h1,h2,BC,Be]at a ⊢;simp only[AR,Ad]at a;rw[c];rw[AQ I];have b:=h.tail.sub;simp only[AR,Ad]at b;simp only[A6]at b;rw[show(2:Nat)-1=1 from rfl,b];simp[GM,By];omega
 rename_i h2;split at h
 .rename_i h3;rw[h.head];have e:(UInt8.ofNat (n / 16777216+128)).toNat=n / 16777216+128:=by rw[By];omega
  have c:EK (UInt8.ofNat (n / 16777216+128))=4:=by unfold EK;rw[e];rw[(I:(n / 16777216+128) / 64=2)]
  simp only[h1,h2,h3,BC,Be]at a ⊢;simp only[AR,Ad]at a;rw[c];rw[AQ I];have b:=h.tail.sub;simp only[AR,Ad]at b;simp only[A6]at b;rw[show(4:Nat)-1=1+1+1 from rfl,b];simp[GM,By];omega
 rename_i h3;rw[h.head];have e:(UInt8.ofNat (n / 72057594037927936+192)).toNat=n / 72057594037927936+192:=by rw[By];omega
 have c:EK (UInt8.ofNat (n / 72057594037927936+192))=8:=by unfold EK;rw[e];rw[(I:(n / 72057594037927936+192) / 64=3)]
 simp only[h1,h2,h3,Be]at a ⊢;simp only[AR,Ad]at a;rw[c];rw[AQ I];have b:=h.tail.sub;simp only[AR,Ad]at b;simp only[A6]at b;rw[show(8:Nat)-1=1+1+1+1+1+1+1 from rfl,b];simp[GM,By];omega
def PU{n:Nat}(hn:n<8)(h:At bs pos (zH n)):Fk bs pos=some (n,pos+(zH n).length):=by
 unfold Fk;rw[GG I h];simp[hn]
def Qa(hn:l.length<4611686018427387904)(h:At bs pos (zH l.length++l)):GE bs pos=some (l,pos+(zH l.length++l).length):=by
 unfold GE;rw[GG hn h.left];have h2:=h.right.le;have h3:=h.right.sub;simp only[AX];rw[AQ I,h3];simp;omega
theorem UV(rs:zC)(k:Nat):∀m,k<=m->∃t,D8 rs m=D8 rs k++t/\(k<m->∃u,t=zH (DZ rs k-DX rs (k+1)-2)++(zH (DX rs (k+1)-DZ rs (k+1))++u)/\D8 rs m=D8 rs (k+1)++u)
 | 0,h=>⟨[],by simp[(I:k=0)],λx=>I⟩
 | m+1,h=>by
  by_cases hk:k=m+1
  .subst hk;exact⟨[],mv,λx=>I⟩
  obtain⟨t,h1,h2⟩:=UV rs k m I;refine⟨t++(zH (DZ rs m-DX rs (m+1)-2)++zH (DX rs (m+1)-DZ rs (m+1))),?_,λ_=>?_⟩
  .simp only[D8,h1,Ap]
  by_cases hm:k=m
  .subst hm;have:t=[]:=by
    have:=A8 List.length h1;simp at this;exact this
   subst this;exact⟨[],mv,mv⟩
  obtain⟨u,e1,e2⟩:=h2 I;refine⟨u++(zH (DZ rs m-DX rs (m+1)-2)++zH (DX rs (m+1)-DZ rs (m+1))),?_,?_⟩
  .rw[e1];simp only[Ap]
  simp only[D8,e2,Ap]
def UU(rs:zC)(k:Nat)(hk:k<rs.length):rs.take (k+1)=rs.take k++[(DZ rs k,DX rs k)]:=by
 rw[BG,AK hk];unfold DZ DX;rw[Ak,AK hk];rfl
theorem Sv(rs:zC)(a:FE rs=true):∀(d k fuel pos:Nat) (l:nG),rs.length=k+1+d->d<fuel->D8 rs (rs.length-1)=D8 rs k++l->At bs pos l ->
  Ik bs fuel (DX rs k) d (DX rs k-DZ rs k) pos (rs.take k)=some (rs,pos+l.length)
 | 0,k,fuel+1,pos,l,hl,hf,he,ha=>by
  obtain⟨f1,f2,f3⟩:=Mf a (i:=k) I;have:l=[]:=by
   have:=A8 List.length he;rw[(I:rs.length-1=k)]at this;simp at this;exact this
  subst this;unfold Ik;rw[AI I,AQ rfl];have e:=UU rs k I;rw[(I:DX rs k-(DX rs k-DZ rs k)=DZ rs k),<-e,Aa I];simp
 | d+1,k,fuel+1,pos,l,hl,hf,he,ha=>by
  obtain⟨f1,f2,f3⟩:=Mf a (i:=k) I;obtain⟨g1,g2,b⟩:=Mf a (i:=k+1) I;have b:=b I;simp only[CF]at b;obtain⟨t,e1,e2⟩:=UV rs k (rs.length-1) I;have:=List.append_cancel_left (e1.symm.trans he);subst this;obtain⟨u,e3,e4⟩:=e2 I;subst e3;unfold Ik;rw[AI I,AI I];rw[GG I ha.left];simp only[AX];rw[GG I ha.right.left];simp only[AX];have e5:DX rs k-(DX rs k-DZ rs k)=DZ rs k:=I;rw[e5,AI I];have:=Sv rs a d (k+1) fuel (pos+(zH (DZ rs k-DX rs (k+1)-2)).length+(zH (DX rs (k+1)-DZ rs (k+1))).length) u I I e4 (ha.right.right);rw[UU rs k I]at this;rw[(I:DZ rs k-2-(DZ rs k-DX rs (k+1)-2)=DX rs (k+1)),CF,this];simp only[AG];congr 2;omega
def zs(f:Da):Da :=
 let z:Da:=f0 f.kind false
 if f.kind=1 then z
 else if f.kind=2 then{ z with rngs:=f.rngs }
 else if f.kind=3 then{ z with stream:=f.stream,off:=f.off,rel:=f.rel }
 else if f.kind=4 then{ z with stream:=f.stream,off:=f.off,fin:=f.fin,data:=f.data }
 else if f.kind=5 then{ z with lim:=f.lim }
 else if f.kind=6 then{ z with stream:=f.stream,lim:=f.lim }
 else if f.kind=7 then{ z with id:=f.id,dl:=f.dl,data:=f.data }
 else{ z with lim:=f.lim }
variable{f:Da}
def US(h:zX f=true):f.kind=1\/f.kind=2\/f.kind=3\/f.kind=4\/f.kind=5\/f.kind=6\/f.kind=7\/f.kind=8:=by
 simp only[zX,zO,AZ]at h;obtain⟨_,h⟩:=h;by_cases h2:f.kind=2
 .omega
 by_cases h3:f.kind=3
 .omega
 by_cases h4:f.kind=4
 .omega
 simp only[h2,h3,h4,Be,AZ,Ah]at h;omega
def Vg(h:zX f=true):f.off<=4611686018427387903/\f.rel<=4611686018427387903/\f.lim<=4611686018427387903/\f.id<=4611686018427387903/\f.dl<=4611686018427387903/\0<=f.stream/\f.stream<8/\zO f=true:=by
 simp only[zX,Ef,nums,Ek,AZ,List.all_cons,List.all_nil,Ah]at h;obtain⟨⟨h1,h2⟩,h3⟩:=h;exact⟨h1.1,h1.2.1,h1.2.2.1,h1.2.2.2.1,h1.2.2.2.2.1,h2.1,h2.2,h3⟩
def Gq(f:Da):(zs f).kind=f.kind:=by
 unfold zs;simp only;repeat' split
 all_goals rfl
def ky(h:zX f=true):zX (zs f)=true:=by
 obtain⟨a1,a2,a3,a4,a5,a6,a7,a⟩:=Vg h;rcases US h with hk|hk|hk|hk|hk|hk|hk|hk;all_goals
  simp only[zO,hk]at a;simp[zs,hk,zX,Ef,nums,Ek,zO,f0]at a ⊢;try omega
 all_goals exact a
def UT(f:Da):0<(zA f).length:=by
 unfold zA;repeat' split
 all_goals simp[Gm,Jl,Jc,Ji,Jm,Jk,Hy]
theorem Yp(h:zX f=true)(hd:f.data.length<4611686018427387904)(hr:f.rngs.length<4611686018427387904)(a:At bs pos (zA f)):Gl bs pos=some (zs f,pos+(zA f).length):=by
 have c:=ky h;have hck:=Gq f;obtain⟨a1,a2,a3,a4,a5,a6,a7,a8⟩:=Vg h;have g:=Int.toNat_of_nonneg a6;unfold Gl;rcases US h with hk|hk|hk|hk|hk|hk|hk|hk
 .have eb:zA f=[1]:=by simp[zA,hk]
  rw[eb]at a ⊢;rw[a.head];have er:zL 1 false bs (pos+1)=some (zs f,pos+1):=by simp[zL,zs,hk]
  simp[FZ,er,c]
 .have eb:zA f=2::(zH (DX f.rngs 0)++(zH (f.rngs.length-1)++(zH (DX f.rngs 0-DZ f.rngs 0)++D8 f.rngs (f.rngs.length-1)))):=by simp[zA,hk,Gm]
  rw[eb]at a ⊢;rw[a.head];have i:FE f.rngs=true:=by simpa [zO,hk]using a8
  have l:0<f.rngs.length:=by
   simp only[FE,AZ,Ah]at i;exact i.2
  obtain⟨g1,g2,_⟩:=Mf i l;have b:=a.tail;have d:=GG I b.left;have e:=GG I b.right.left;have j:=GG I b.right.right.left;have hle:=b.right.right.right.le;have m:f.rngs.length-1<bs.length+1:=by
   have:∀k,2*k<=(D8 f.rngs k).length:=by
    intro k;have o:∀n,1<=(zH n).length:=by
     intro n;unfold zH;repeat' split
     all_goals simp
    induction k with
    | zero=>simp
    | succ k ih =>
     have:=o (DZ f.rngs k-DX f.rngs (k+1)-2);have:=o (DX f.rngs (k+1)-DZ f.rngs (k+1));simp only[D8,AG];omega
   have:=this (f.rngs.length-1);omega
  have p:=Sv f.rngs i (f.rngs.length-1) 0 (bs.length+1) _ _ I m (by simp[D8]) b.right.right.right;simp only[Ca]at p;have er:zL 2 false bs (pos+1)=some (zs f,pos+(2::(zH (DX f.rngs 0)++(zH (f.rngs.length-1)++(zH (DX f.rngs 0-DZ f.rngs 0)++D8 f.rngs (f.rngs.length-1))))).length):=by
   rw[show zL 2 false bs (pos+1)=FP false bs (pos+1)by simp[zL],FP,d];simp only[AX];rw[e];simp only[AX];rw[j];simp only[AX];rw[p];simp[zs,hk];omega
  simp[FZ,er,c]
 .have eb:zA f=36::(zH f.stream.toNat++(zH f.off++zH f.rel)):=by simp[zA,hk,Jl]
  rw[eb]at a ⊢;rw[a.head];have b:=a.tail;have d:=PU I b.left;have e:=GG I b.right.left;have j:=GG I b.right.right;have er:zL 3 false bs (pos+1)=some (zs f,pos+(36::(zH f.stream.toNat++(zH f.off++zH f.rel))).length):=by
   rw[show zL 3 false bs (pos+1)=Hd false bs (pos+1)by simp[zL],Hd,d];simp only[AX];rw[e];simp only[AX];rw[j];simp[zs,hk,g];omega
  simp[FZ,er,c]
 .cases hfin:f.fin
  .have eb:zA f=8::(zH f.stream.toNat++(zH f.off++(zH f.data.length++f.data))):=by simp[zA,hk,Jc,hfin]
   rw[eb]at a ⊢;rw[a.head];have b:=a.tail;have d:=PU I b.left;have e:=GG I b.right.left;have j:=Qa hd b.right.right;have er:zL 4 false bs (pos+1)=some (zs f,pos+(8::(zH f.stream.toNat++(zH f.off++(zH f.data.length++f.data)))).length):=by
    rw[show zL 4 false bs (pos+1)=GY false bs (pos+1)by simp[zL],GY,d];simp only[AX];rw[e];simp only[AX];rw[j];simp[zs,hk,g,hfin,f0];omega
   simp[FZ,er,c]
  have eb:zA f=9::(zH f.stream.toNat++(zH f.off++(zH f.data.length++f.data))):=by simp[zA,hk,Ji,hfin]
  rw[eb]at a ⊢;rw[a.head];have b:=a.tail;have d:=PU I b.left;have e:=GG I b.right.left;have j:=Qa hd b.right.right;have er:zL 4 true bs (pos+1)=some (zs f,pos+(9::(zH f.stream.toNat++(zH f.off++(zH f.data.length++f.data)))).length):=by
   rw[show zL 4 true bs (pos+1)=GY true bs (pos+1)by simp[zL],GY,d];simp only[AX];rw[e];simp only[AX];rw[j];simp[zs,hk,g,hfin,f0];omega
  simp[FZ,er,c]
 .have eb:zA f=16::zH f.lim:=by simp[zA,hk,Hy]
  rw[eb]at a ⊢;rw[a.head];have d:=GG I a.tail;have er:zL 5 false bs (pos+1)=some (zs f,pos+(16::zH f.lim).length):=by
   rw[show zL 5 false bs (pos+1)=GP 5 false bs (pos+1)by simp[zL],GP,d];simp[zs,hk];omega
  simp[FZ,er,c]
 .have eb:zA f=17::(zH f.stream.toNat++zH f.lim):=by simp[zA,hk,Jm]
  rw[eb]at a ⊢;rw[a.head];have b:=a.tail;have d:=PU I b.left;have e:=GG I b.right;have er:zL 6 false bs (pos+1)=some (zs f,pos+(17::(zH f.stream.toNat++zH f.lim)).length):=by
   rw[show zL 6 false bs (pos+1)=GX false bs (pos+1)by simp[zL],GX,d];simp only[AX];rw[e];simp[zs,hk,g];omega
  simp[FZ,er,c]
 .have eb:zA f=48::(zH f.id++(zH f.dl++(zH f.data.length++f.data))):=by simp[zA,hk,Jk]
  rw[eb]at a ⊢;rw[a.head];have b:=a.tail;have d:=GG I b.left;have e:=GG I b.right.left;have j:=Qa hd b.right.right;have er:zL 7 false bs (pos+1)=some (zs f,pos+(48::(zH f.id++(zH f.dl++(zH f.data.length++f.data)))).length):=by
   rw[show zL 7 false bs (pos+1)=G9 false bs (pos+1)by simp[zL],G9,d];simp only[AX];rw[e];simp only[AX];rw[j];simp[zs,hk,f0];omega
  simp[FZ,er,c]
 have eb:zA f=28::zH f.lim:=by simp[zA,hk,Hy]
 rw[eb]at a ⊢;rw[a.head];have d:=GG I a.tail;have er:zL 8 false bs (pos+1)=some (zs f,pos+(28::zH f.lim).length):=by
  rw[show zL 8 false bs (pos+1)=GP 8 false bs (pos+1)by simp[zL],GP,d];simp[zs,hk];omega
 simp[FZ,er,c]
def KE(fs:List Da):Prop:=∀f∈fs,zX f=true/\f.data.length<4611686018427387904/\f.rngs.length<4611686018427387904
theorem TK(num:Nat):∀(fs:List Da) (fuel pos:Nat) (acc:List Da),KE fs->fs.length<fuel->At bs pos (fs.flatMap zA)->pos+(fs.flatMap zA).length=bs.length ->
  Ij bs fuel num pos acc=.ok num (acc++fs.map zs)
 | [],fuel+1,pos,acc,_,_,_,he=>by
  simp at he;unfold Ij;rw[AI I];simp
 | f::fs,fuel+1,pos,acc,hok,hf,ha,he=>by
  obtain⟨k1,k2,k3⟩:=hok f mv;have hp:=UT f;simp only[DQ]at ha he;rw[AG]at he;unfold Ij;rw[AQ I,Yp k1 k2 k3 ha.left];simp only;rw[TK num fs fuel _ _ (λg hg=>hok g (by simp[hg])) (nF hf) ha.right I];simp
theorem Yo(fs:List Da):fs.length<=(fs.flatMap zA).length:=by
 induction fs with
 | nil=>simp
 | cons f fs ih =>
  have:=UT f;simp only[DQ,AG,AR];omega
def UR(n:Nat)(fs:List Da)(hn:n<=4611686018427387903)(h0:0<fs.length)(a:KE fs):Fn (zH n++fs.flatMap zA)=.ok n (fs.map zs):=by
 have b:At (zH n++fs.flatMap zA) 0 (zH n++fs.flatMap zA):=⟨[],[],mv,rfl⟩;have hl:=Yo fs;unfold Fn;rw[GG I b.left];simp only[AG,A6];rw[AI I,TK n fs _ _ [] a I (nF b.right) mv];simp
def QZ(l:nG)(s:Nat)(hs:s<4294967296):IF (l++ES s) l.length=s:=by
 unfold IF Dm ES;simp only[Ak];rw[Ab I,Ab I,Ab I,Ab I];simp[(I:l.length+1-l.length=1),(I:l.length+2-l.length=2),(I:l.length+3-l.length=3)];omega
def VV(l:nG):dec (l++ES (D3 l))=Fn l:=by
 have hl:(l++ES (D3 l)).length=l.length+4:=by simp[ES]
 unfold dec;rw[hl,AI I,CF,QZ l _ (MP l),BT,AQ rfl]
variable{t:Nat}
def Oq{a:Nat}(h:a ^^^ t=b ^^^ t):a=b:=by
 have:=A8 (· ^^^ t) h;simpa [Nat.xor_assoc]using this
def Le:∀a b:Fin 16,ct a.val / 268435456=ct b.val / 268435456->a.val=b.val:=nA
def TJ(c:Nat)(h:c<4294967296):IU c / 268435456=ct (c % 16) / 268435456:=by
 unfold IU;have e:∀x:Nat,x / 268435456=x >>> 28:=λx=>by rw[Nat.shiftRight_eq_div_pow]
 rw[e,e,Nat.shiftRight_xor_distrib,<-e (c / 16),(I:c / 16 / 268435456=0),Nat.zero_xor]
def Oo{c d:Nat}(hc:c<4294967296)(hd:d<4294967296)(h:IU c=IU d):c=d:=by
 have e:c % 16=d % 16:=Le ⟨c % 16,I⟩ ⟨d % 16,I⟩ (by
  show ct (c % 16) / _=ct (d % 16) / _;rw[<-TJ c hc,<-TJ d hd,h])
 unfold IU at h;rw[e]at h;have:=Oq h;omega
def Yn{c d:Nat}{x:UInt8}(hc:c<4294967296)(hd:d<4294967296)(h:Hz c x=Hz d x):c=d :=
 Oq (Oo (In c x hc) (In d x hd) (Oo (Kl _ (In c x hc)) (Kl _ (In d x hd)) h))
def fM{c:Nat}{x y:UInt8}(hc:c<4294967296)(h:Hz c x=Hz c y):x=y:=by
 have:=Oo (In c x hc) (In c y hc) (Oo (Kl _ (In c x hc)) (Kl _ (In c y hc)) h);rw[Nat.xor_comm c,Nat.xor_comm c]at this;exact Cx.1 (Oq this)
theorem Ym(b:nG):∀c d,c<4294967296->d<4294967296->b.foldl Hz c=b.foldl Hz d->c=d:=by
 induction b with
 | nil=>intro c d _ _ h;exact h
 | cons x b ih=>intro c d hc hd h;exact Yn hc hd (ih _ _ (NK c x hc) (NK d x hd) h)
def Xh{a b:nG}{x y:UInt8}(h:D3 (a++x::b)=D3 (a++y::b)):x=y:=by
 unfold D3 at h;rw[Nat.xor_comm,Nat.xor_comm 4294967295]at h;have:=Oq h;unfold Eo at this;simp only[Cm,List.foldl_cons]at this;have hl:=Wi a 4294967295 I;exact fM hl (Ym b _ _ (NK _ _ hl) (NK _ _ hl) this)
def Yl(l:nG)(i:Nat)(h:i<l.length)(y:UInt8):∃a b,l=a++l[i]::b/\l.set i y=a++y::b/\a.length=i:=by
 refine⟨l.take i,l.drop (i+1),mv,?_,my⟩;rw[List.set_eq_take_append_cons_drop,AQ h]
def iK(l:nG)(i:Nat)(y:UInt8)(hi:i<(l++ES (D3 l)).length)(c:(l++ES (D3 l))[i]≠y):dec ((l++ES (D3 l)).set i y)=.sum:=by
 have hl:(l++ES (D3 l)).length=l.length+4:=by simp[ES]
 unfold dec;rw[Bg,hl,AI I,CF,AI];intro hc;by_cases h:i<l.length
 .rw[Cb i y h,List.take_left' mv]at hc;have hb:=QZ (l.set i y) (D3 l) (MP l);rw[Bg]at hb;rw[hb]at hc;obtain⟨a,b,f,d,e3⟩:=Yl l i h y;rw[d]at hc;have e4:D3 l=D3 (a++l[i]::b):=by rw[<-f]
  rw[e4]at hc;have:=Xh hc;rw[List.getElem_append_left h]at c;exact c this
 have e:∃s,(l++ES (D3 l)).set i y=l++s/\s=(ES (D3 l)).set (i-l.length) y:=⟨_,Bj i y I,rfl⟩;obtain⟨s,f,d⟩:=e;rw[f,BT]at hc;have hs:IF (l++s) l.length=IF s 0:=by
  have hx:s.length=4:=by rw[d];simp[ES]
  unfold IF Dm;simp only[Ak];rw[Ab I,Ab I,Ab I,Ab I];simp[(I:l.length+1-l.length=1),(I:l.length+2-l.length=2),(I:l.length+3-l.length=3)]
 rw[hs]at hc;have h0:=QZ [] (D3 l) (MP l);simp only[An,Ad]at h0;rw[<-h0,d]at hc;have hk:i-l.length<4:=by rw[hl]at hi;omega
 obtain⟨k,g⟩:=nm (i-l.length);rw[List.getElem_append_right I]at c;simp only[g]at c hc hk;have hyl:=y.toNat_lt;have hb:∀n,(UInt8.ofNat n).toNat<256:=λn=>(UInt8.ofNat n).toNat_lt
 unfold ES at hc c;have hb0:=hb (D3 l / 16777216);have hb1:=hb (D3 l / 65536);have hb2:=hb (D3 l / 256);have hb3:=hb (D3 l);have j:∀z:UInt8,z≠y->z.toNat≠y.toNat:=λz h e=>h (Cx.1 e)
 have m:k=0\/k=1\/k=2\/k=3:=I;rcases m with rfl|rfl|rfl|rfl;all_goals
  simp[IF,Dm,-UInt8.toNat_ofNat']at hc c;have:=j _ c;omega
def I3(n:Nat)(l:List Da):nG:=zH n++l.flatMap zA
def mJ(tmps:Array Value)(w:World)(a:Nat)(n fv:Value)(h2:tmps.getD 2 undef=.pointer a)
  (c0:w.cell? a=some n) (c1:w.cell? (a,1)=some fv) :
  (results f42 tmps).run prog w=.ok (.tuple #[.agg #[n,fv],tmps.getD 3 undef]) w:=by
 have b:tmps[2]?.getD undef=.pointer a:=by rw[<-h2];simp
 simp[results,results42,go_sem,b,c0,c1]
variable{w':World}
theorem Ex.shape{r:GH}{e:Ending}(h:Ex w r e w'):∃x fa fl fc ev,e=.returned (.tuple #[.agg #[.int .u64 x,.slice fa fl fc],ev]):=by
 cases r with
 | sum=>exact⟨_,_,_,_,_,h.2⟩
 | bad a=>obtain⟨_,fa,b,_⟩:=h;exact⟨_,_,_,_,_,b⟩
 | ok n fs =>
  obtain⟨_,fv,rvs,b,ho,_⟩:=h;obtain⟨fa,fc,rfl,_⟩:=zk ho.1;exact⟨_,_,_,_,_,b⟩
variable{X:World}
theorem Ex.from{r:GH}{e:Ending}(m:DW DY w X)(h:Ex X r e w'):Ex w r e w':=by
 refine⟨m.trans h.1,?_⟩;have hs:=m.size;cases r with
 | sum=>exact h.2
 | bad a =>
  obtain⟨_,fa,b,c,hl⟩:=h;exact⟨fa,b,c,I⟩
 | ok n fs =>
  obtain⟨_,fv,d,b,c,hm,h1,h2⟩:=h;exact⟨fv,d,b,c,hm,λg hg=>nC (h1 g hg),λx hx g hg=>nC (h2 x hx g hg)⟩
variable{S:Nat->Prop}
theorem Ex.to{Y:World}{r:GH}{e:Ending}(h:Ex w r e X)(m:DW S X Y)(f:∀i,S i->∃cs T fz,X.heap[i]?=some (.cells cs T fz)/\T≠65/\T≠214/\T≠167)(hw:∀i,S i->w.heap.size<=i):Ex w r e Y:=by
 refine⟨h.1.then m (λi hi=>.inr (hw i hi)),?_⟩;cases r with
 | sum=>exact h.2
 | bad a =>
  obtain⟨_,g,c,b,hl⟩:=h;refine⟨g,c,m.obj (λhx=>?_) b,hl⟩;obtain⟨cs,T,fz,h1,_,_,h4⟩:=f g hx;rw[h1]at b;simp at b;exact h4 b.2.1
 | ok n fs =>
  obtain⟨_,fv,d,c,b,hm,h1,h2⟩:=h;exact⟨fv,d,c,Gc.mod b m (λi hi=>.inr (by obtain⟨cs,T,fz,q1,q2,q3,_⟩:=f i hi;exact⟨cs,T,fz,q1,q2,q3⟩)),hm,h1,h2⟩
def kx(v:Value)(bs:nG)(w:World)(hb:BR w v bs)(m:GA w)(hl:bs.length<1099511627776):Calls prog 42 #[v] w (Ex w (dec bs)):=by
 have m0:DW DY w (w.alloc (.cells #[.int .u64 0,.slice none 0 0] 56)):=(DW.refl _ _).alloc _;have b:(w.alloc (.cells #[.int .u64 0,.slice none 0 0] 56)).heap[w.heap.size]?=some (.cells #[.int .u64 0,.slice none 0 0] 56 (0,0)):=heap_alloc_new w _;obtain⟨W0,c⟩:=nm (w.alloc (.cells #[.int .u64 0,.slice none 0 0] 56));rw[c]at m0 b;have n:=Ph v bs W0 (hb.mod m0 (Dp.no _)) (m.mod m0 (λx=>x)) hl;have M0:=zb m0;have HQ:=zb b;have j:=zb c;obtain⟨a,cap,rfl,_⟩:=hb;clear m0 b c m;go_enter func42,ntmps42;go_wp2_with fail;rw[j.z];refine n.mono ?_;intro e d h;obtain⟨x,l,fl,fc,ev,rfl⟩:=h.shape;have b:=h.1.obj (λx=>x) HQ.z;have q0:d.cell? w.heap.size=some (.int .u64 0):=za b rfl;have q1:d.cell? (w.heap.size,1)=some (.slice none 0 0):=za b rfl;have z0:d.frozen? ⟨w.heap.size,0,none⟩=false:=zg b;have z1:d.frozen? ⟨w.heap.size,1,none⟩=false:=zg b;have HD:=zb h;have g:=zb b;clear h n b;go_wp2_with fail;obtain⟨WF,f⟩:=nm ((d.setCell w.heap.size (.int .u64 x)).setCell (U w.heap.size 1) (.slice l fl fc));rw[f];have mF:DW (λk=>k=w.heap.size) d WF:=by
  rw[<-f];exact((DW.refl (λk=>k=w.heap.size) d).setCell (p:=w.heap.size) (.inl rfl) _).setCell (p:=U w.heap.size 1) (.inl rfl) _
 have o:WF.heap[w.heap.size]?=some (.cells #[x,.slice l fl fc] 56 (0,0)):=by
  rw[<-f];exact zc (zc g.z)
 refine bodyPost_ret (mJ _ _ w.heap.size (.int .u64 x) (.slice l fl fc) rfl (za o rfl) (za o rfl)) rfl ?_;refine Ex.to (HD.z.from M0.z) mF (λi hi=>?_) (λi hi=>?_)
 .have hi:=hi;subst hi;exact⟨_,_,_,g.z,mu,mu,mu⟩
 have hi:=hi;omega
def MF(w:World)(r:GH)(e:Ending)(w':World):Prop :=
 DW DY w w'/\match r with
 | .sum=>e=.returned (.tuple #[.agg #[.int .u64 0,.slice none 0 0],.int .i64 7,.int .i64 (-1)])
 | .bad at_=>e=.returned (.tuple #[.agg #[.int .u64 0,.slice none 0 0],.int .i64 8,[at_]])
 | .ok num fs=>∃fv rvs,e=.returned (.tuple #[.agg #[.int .u64 num,fv],.int .i64 0,.int .i64 (-1)])/\Gc w' fv rvs/\rvs.map (·.1)=fs/\(∀g,fv.ownBlock=some g->w.heap.size<=g)/\∀x∈rvs,∀g,x.2.ownBlock=some g->w.heap.size<=g
def mH(tmps:Array Value)(w:World)(a:Nat)(n fv:Value)(h2:tmps.getD 2 undef=.pointer a)
  (c0:w.cell? a=some n) (c1:w.cell? (a,1)=some fv) :
  (results f23 tmps).run prog w=.ok (.tuple #[.agg #[n,fv],tmps.getD 3 undef,tmps.getD 4 undef]) w:=by
 have b:tmps[2]?.getD undef=.pointer a:=by rw[<-h2];simp
 simp[results,results23,go_sem,b,c0,c1]
def L8(W:World)(v:Value)(wr:World):Prop:=Id (λk=>v.ownBlock=some k) W wr
theorem kz{r:GH}{p ev:Value}(h:Ex w r (.returned (.tuple #[p,ev])) X)(hg:FJ X):∃n at_,Calls prog 43 #[ev] X (MQ X n at_)/\∀w',DW DY X w'->MF w r (.returned (.tuple #[p,.int .i64 n,.int .i64 at_])) w':=by
 cases r with
 | sum =>
  obtain⟨m,c⟩:=h;cases c;exact⟨7,-1,QF 7 X hg,λw' b=>⟨m.trans b,rfl⟩⟩
 | bad a =>
  obtain⟨m,fa,c,d,hl⟩:=h;cases c;exact⟨8,a,Sl fa 8 a X hg (za d rfl) (za d rfl),λw' b=>⟨m.trans b,rfl⟩⟩
 | ok n fs =>
  obtain⟨m,fv,e,c,d,hm,h1,h2⟩:=h;cases c;exact⟨0,-1,Qk X,λw' b=>⟨m.trans b,fv,e,rfl,Gc.mod d b (λi hi=>hi.elim),hm,h1,h2⟩⟩
theorem MF.to{Y:World}{r:GH}{e:Ending}(h:MF w r e X)(m:DW S X Y)(hS:∀i,S i->∃cs T fz,X.heap[i]?=some (.cells cs T fz)/\T≠65/\T≠214)(hw:∀i,S i->w.heap.size<=i):MF w r e Y:=by
 refine⟨h.1.then m (λi hi=>.inr (hw i hi)),?_⟩;cases r with
 | sum=>exact h.2
 | bad a=>exact h.2
 | ok n fs =>
  obtain⟨_,fv,b,he,ho,hm,h1,h2⟩:=h;exact⟨fv,b,he,Gc.mod ho m (λi hi=>.inr (hS i hi)),hm,h1,h2⟩
def kw(v:Value)(bs:nG)(w:World)(hb:BR w v bs)(ht:GA w)(hg:FJ w)(hl:bs.length<1099511627776):Calls prog 23 #[v] w (MF w (dec bs)):=by
 obtain⟨u,f⟩:=nm (w.alloc (.cells #[.int .u64 0,.slice none 0 0] 56));have m0:=AB f;have oQ:=AD f;have hs0:=AC f;obtain⟨v1,W1,y,c,m1,P⟩:=Wy u v bs (hb.mod m0 (Dp.no _)) I;have k1:=kx v1 bs W1 c.br ((ht.mod m0 (λx=>x)).mod m1 (λx=>x)) hl;have z:=(hg.mod m0 (λx=>x)).mod m1 (λx=>x);obtain⟨xa,xc,rfl,hx1,Q,R⟩:=zk c;unfold maxLen at Q;have S:=QU c;obtain⟨a,cap,rfl,_⟩:=hb;have T:=zb f;have HQ:=zb (m1.obj (λx=>x) oQ);have M1:=zb (m0.trans m1);have V:=zb z;have A:=zb c;have hs1:=m1.size;have h1p:=zm hg;clear m0 oQ c m1 z ht hg f;go_enter func23,ntmps23;go_wp2_with (rw[T.z];at_builtin;refine zn rfl _ _ _ _ rfl _ _ _ rfl rfl y ?_;clear y);refine k1.mono ?_;clear k1;intro e s o;obtain⟨x,t,fl,fc,ev,rfl⟩:=o.shape;have B:=trivial;obtain⟨W2,j⟩:=nm (s.alloc (.cells #[.int .u64 x,.slice t fl fc] 56));have C:=AB j;have oP:=AD j;have D:=C.obj (λx=>x) (o.1.obj (λx=>x) HQ.z);have E:=(A.z.mod0 o.1).mod0 C;have F:=(V.z.mod o.1 (λx=>x)).mod C (λx=>x);have G:=(o.from M1.z).to C (λi hi=>hi.elim) (λi hi=>hi.elim);have hs2:=o.1.size;have W:=zb j;have HP:=zb oP;have X:=zb D;have m:=zb E;have H:=zb F;have Y:=zb G;clear o C oP D E F G j B;go_wp2_with fail;rw[W.z]
 go_loopw [20] (λi wr=>∃k:Nat,k<=bs.length/\i=.int .i64 k/\L8 W2 (.slice xa bs.length xc) wr) (λi _=>bs.length-(intOf i).toNat)
 case atStart=>exact⟨0,AM _,rfl,Id.refl _ _⟩
 case round =>
  obtain⟨k,hk,rfl,n⟩:=hrel;by_cases ae:k<bs.length
  .obtain⟨g,rfl⟩:=R I;obtain⟨cg,og,sg,_⟩:=Ws m.z;obtain⟨⟨v0,e0⟩,z0⟩:=n.cell (b:=g) rfl og (i:=k) I;have HB:=zb (n.set (b:=g) rfl k (.int .u8 33));clear n og;go_wp2_with fail;go_roundw
   case rel=>exact⟨k+1,I,by go_num,HB.z⟩
   simp[intOf];omega
  have l:∀i,(Value.slice xa bs.length xc).ownBlock=some i->u.heap.size<=i/\i<W1.heap.size:=λi hi=>⟨P i hi,S i hi⟩
  have J:=n.1.obj (λhx=>nC (l _ hx)) HP.z;have K:=n.1.obj (λhx=>nC (l _ hx)) X.z;have L:=H.z.mod n.1 (λhx=>nC (l _ hx));have M:=Y.z.to n.1 (λi hi=>by
   have hi:=hi;rcases m.z.2 with⟨Z,_⟩|⟨g,af,cur,Z,_,hg,_⟩
   .rw[Z]at hi;cases hi
   rw[Z]at hi;have hi:g=i:=by simpa [Value.ownBlock]using hi
   subst hi;exact⟨_,_,_,hg,mu,mu,mu⟩) (λi hi=>nC (l _ hi))
  obtain⟨nn,na,hc,hP⟩:=kz M L;have aa:=zb hP;have ab:=zb J;have ac:=zb K;clear n J K L M hP;go_wp2_with fail;refine hc.mono ?_;rintro e h ⟨rfl,O⟩;clear hc;have q:=O.obj (λx=>x) ab.z;have d:=O.obj (λx=>x) ac.z;have p0:h.cell? s.heap.size=some (.int .u64 x):=za q rfl;have p1:h.cell? (s.heap.size,1)=some (.slice t fl fc):=za q rfl;have q0:h.cell? w.heap.size=some (.int .u64 0):=za d rfl;have q1:h.cell? (w.heap.size,1)=some (.slice none 0 0):=za d rfl;have z0:h.frozen? ⟨w.heap.size,0,none⟩=false:=zg d;have z1:h.frozen? ⟨w.heap.size,1,none⟩=false:=zg d;have ad:=zb (aa.z h O);have N:=zb d;clear O q d;go_wp2_with fail;obtain⟨WF,r⟩:=nm ((h.setCell w.heap.size (.int .u64 x)).setCell (U w.heap.size 1) (.slice t fl fc));rw[r];have mF:DW (λk=>k=w.heap.size) h WF:=by
   rw[<-r];exact((DW.refl (λk=>k=w.heap.size) h).setCell (p:=w.heap.size) (.inl rfl) _).setCell (p:=U w.heap.size 1) (.inl rfl) _
  have oF:WF.heap[w.heap.size]?=some (.cells #[x,.slice t fl fc] 56 (0,0)):=by
   rw[<-r];exact zc (zc N.z)
  refine bodyPost_ret (mH _ _ w.heap.size (.int .u64 x) (.slice t fl fc) rfl (za oF rfl) (za oF rfl)) rfl ?_;refine MF.to ad.z mF (λi hi=>?_) (λi hi=>?_)
  .have hi:=hi;subst hi;exact⟨_,_,_,N.z,mu,mu⟩
  have hi:=hi;omega
end
section
open Go.ChangeShapes Go.WideShapes Go.ChangeAt Go.RowKit
open Go.Proofs.Tryz
def Pw {H : Type} : List (String × DataW H) := [("errors.errorType", Rows.laid_errors_errorType), ("mediawire/wire.table", Rows.laid_mediawire_wire_table)]
def SM : prog.globalNamed "errors.errorType" = some 0 := mr
def OE : prog.globalNamed "mediawire/wire.table" = some 1 := mr
def Nn:(prog.globals[1]?).map (·.type)=some 281:=mr
def fQ:prog.cellsOf 281=16:=mr
def fP:prog.cellsOf 189=1:=mr
def fO : (prog.cutTypes.find? (·.1 == "internal/reflectlite.rtype")).map (·.2) = some 286 := mr
def fN:((List.range prog.types.size).filter λt=>prog.rowNamed t [101,114,114,111,114])=[98]:=mr
def ic:typeHandle prog 98=.pointer (some ⟨2,98,none⟩):=mr
def Mp:List Int:=[0,498536548,997073096,651767980,1994146192,1802195444,1303535960,1342533948,3988292384,4027552580,3604390888,3412177804,2607071920,2262029012,2685067896,3183342108]
variable{W:World}
def tab_of(h:laidMetH prog Pw W):GA W:=by
 have h' : laidMet prog [("mediawire/wire.table", Lib.tabData .u32 Mp)] W /\ handlesMet prog [("errors.errorType", Rows.laid_errors_errorType)] W := h;have ht:=Lib.tabIs_of_head (rest:=[]) OE Nn underlying281 underlying189 fP fQ h'.1;intro i hi;have:=ht.cell OE i (by simpa [Mp]using hi);rw[this];have e:∀j:Fin 16,Mp.getD j.val 0=(ct j.val:Int):=mu
 rw[e ⟨i,hi⟩]
theorem errT_of(h:laidMetH prog Pw W):FJ W:=by
 have h' : laidMet prog [("mediawire/wire.table", Lib.tabData .u32 Mp)] W /\ handlesMet prog [("errors.errorType", Rows.laid_errors_errorType)] W := h;obtain⟨name,u,ty,e1,e2,e3,e4,a⟩:=h'.2 _ (Ag.2 rfl);have en:name=[101,114,114,111,114]:=(Bt e1).symm;subst en;obtain rfl:=Bt (fO.symm.trans e2);have b:ty∈(List.range prog.types.size).filter λt=>prog.rowNamed t [101,114,114,111,114]:=BI.2 ⟨Bn.2 e3,e4⟩
 rw[fN]at b;obtain rfl:=Ag.1 b;rw[ic]at a;unfold FJ;simpa using World.var?_cell SM a 0
noncomputable def laidWorld(os:Os):World :=
 let w0:=World.holding prog os ⟨#[],#[],[]⟩
 let w1:World:={ w0 with heap:=w0.heap.modify 0 fun
   | .cells _ t frozen=>.cells #[.iface 286 (.agg #[.pointer (some ⟨2,98,none⟩)])] t frozen
   | o=>o }
 {w1 with heap:=w1.heap.modify 1 fun
   | .cells _ t frozen=>.cells (Mp.map λz=>Value.int .u32 z).toArray t frozen
   | o=>o }
def laid_met(os:Os)(args:Array Value):laidMetH prog Pw ((laidWorld os).forCall (λ_ _=>0) ⟨#[],args,[]⟩).memory :=
 laidMetH_of_parts (laidMet_of_run' 8 mr mr) mr
variable{P:Program}{W':World}
theorem Uh{H:Type}{enc:TypeId×Value->H}(hl:laidOutB P=true)(hb:Below W.heap.size W W'):∀{a:List TypeId} {d:nJ} {ds:List (DataW H)} {c:List MemPlace},(∀t∈a,P.readableRec t=true/\t<P.types.size) ->
   DataW.TrodAll enc P W 0 (λ_=>true) true a d ds c->(∀x∈c,x.block<W.heap.size)->DataW.TrodAll enc P W' 0 (λb=>decide (b<W.heap.size)) true a d ds c
 | [],[],[],_,_,h,_=>h
 | t::_,_::_,_::_,_,hT,⟨p,q,h1,h2,e⟩,hs =>
  ⟨p,q,Below.trod hl (hT t (Av.2 (Or.inl rfl))).1 (hT t (Av.2 (Or.inl rfl))).2 h1 hb (λx hx=>hs x (by rw[e];exact CN _ hx)),
   Uh hl hb (λt ht=>hT t (Av.2 (Or.inr ht))) h2 (λx hx=>hs x (by rw[e];exact List.mem_append_right _ hx)),e⟩
def post_true{H:Type}{enc:TypeId×Value->H}{f:Func}{s:ChangeSpec}{apart c a:Bool}{args:Array Value}{ds gs:List (DataW H)}{b:List MemPlace}{tb:TypeId}
  (g:DataW.Whole enc P f.params.toList s.vars apart W args.toList ds gs b) (hl:laidOutB P=true) (i:∀t∈f.params.toList,P.readableRec t=true/\t<P.types.size)
  (o:s.vars=[]) (e:(s.fn H (ds++gs)).results=[.lit (.bool true)]) (d:(s.fn H (ds++gs)).args=ds) (j:(s.fn H (ds++gs)).vars=[])
  (k:f.resultTypes=#[tb]) (l:P.underlying tb=some .bool) (hb:Below W.heap.size W W') :
  s.post enc P f apart c a false W args (.bool true) W':=by
 have m:=λx hx=>nF (g.lt x hx)
 have n:=g;obtain⟨p,q,hA,r,rfl,hfz,hnd⟩:=g;rw[o]at r;obtain⟨rfl,rfl⟩:=trodVars_none r;refine⟨ds,[],p++[],[],p,[],n,?_,?_,?_,hb.frame _,λh=>by cases h⟩
 .rw[e,k];exact trodAll_mk1 (shut_bool l true)
 .rw[d];exact Uh hl hb i hA (λx hx=>m x (CN _ hx))
 rw[o,j];exact rfl
end
end Go.Proofs.YtddfdpbaiedcjaaGreatDoor
