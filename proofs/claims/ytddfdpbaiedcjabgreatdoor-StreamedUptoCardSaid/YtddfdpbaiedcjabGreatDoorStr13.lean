/- Streamed. Part 13 of 17. -/
import Derived.Test.YtddfdpbaiedcjabGreatDoorStr12
set_option maxRecDepth 100000
set_option maxHeartbeats 16000000
set_option linter.all false
namespace Go.Proofs.YtddfdpbaiedcjabGreatDoor
section
open Go.RowKit Go.Proofs.Tryz
def SS.take(s:SS)(f:DF):Nat×SS :=
 if f.kind=2 then(if s.kH<=DB f.kC 0 then 11 else 0,s)
 else if f.kind=3 then s.lL f
 else if f.kind=4 then s.bytes f
 else if f.kind=5 then(0,{ s with all:=max s.all f.lF })
 else if f.kind=6 then(0,{ s with given:=zh s.given f.stream.toNat (max (s.given f.stream.toNat) f.lF) })
 else if f.kind=7 then(0,s.message f)
 else if f.kind=8 then(13,s)
 else(0,s)
def SS.mR(s:SS)(num:Nat)(f:DF):SS:=if f.kind≠2/\s.due[s.due.length-1]?≠some num then{ s with due:=s.due++[num] }else s
def SS.kV(num:Nat):List DF->SS->Nat×SS
 | [],s=>(0,s)
 | f::fs,s =>
  if (s.take f).1≠0 then((s.take f).1,{ (s.take f).2 with closed:=(s.take f).1,said:=(s.take f).1==13 })
  else SS.kV num fs ((s.take f).2.mR num f)
def SS.ly(s:SS)(n:Nat):SS:={ s with kN:=s.kN.add n n,lx:=s.lx.add n n }
def SS.kL(s:SS)(a:qq):(Nat×Int)×SS :=
 if s.closed≠0 then((12,-1),s)else
 match dec a with
 | .sum=>((7,-1),s)
 | .bad p=>((8,(p:Int)),{ s with closed:=8 })
 | .ok n fs=>if G9 s.kN.rs s.kN.fl n then((0,-1),s)else(((SS.kV n fs<|s.ly n).1,-1),(SS.kV n fs<|s.ly n).2)
def SI.can(x:SI)(p:Nat):Bool:=decide (p<x.high)&&x.there.getD p false&&(!x.reset||decide (p<x.kD))
def SI.run(x:SI):Nat->Nat->Nat
 | 0,p=>p
 | n+1,p=>if x.can p then SI.run x n (p+1)else p
def SI.kR(x:SI)(a:Nat):Nat:=if x.state=0 then x.run a x.read else x.read
def SI.kx(x:SI)(e:Nat):Nat:=if x.state≠0 then x.state else if x.reset&&decide (x.kD<=e)then 2 else if !x.reset&&x.ended&&e==x.end_ then 1 else 0
def SS.read(s:SS)(k a:Int):(qq×Nat×Nat)×SS :=
 if s.of k≠0 then(([],0,s.of k),s)else
 ((((s.ins k.toNat).data.drop (s.ins k.toNat).read).take<|(s.ins k.toNat).kR a.toNat-(s.ins k.toNat).read,(s.ins k.toNat).kx<|(s.ins k.toNat).kR a.toNat,0),
  {s with ins:=zh s.ins k.toNat { s.ins k.toNat with read:=(s.ins k.toNat).kR a.toNat,state:=(s.ins k.toNat).kx ((s.ins k.toNat).kR a.toNat) } })
def SS.new(kj kT total:Nat):SS :=
 {kj:=kj,kT:=kT,total:=total,now:=0,closed:=0,said:=false,kH:=0,kN:=⟨[],0,8⟩,lx:=⟨[],0,1073741824⟩,due:=[],outs:=λ_=>⟨[],false,false,0,0⟩,ins:=λ_=>⟨[],[],0,0,false,false,0,0,0⟩,kS:=λ_=>kT,kE:=total,given:=λ_=>kT,all:=total,waits:=[],last:=0,any:=false,seen:=[],most:=0,some_:=false,kG:=[],high:=[] }
def Hz(n:Nat)(r:Nat×Nat):Bool:=decide (r.1<=n)&&decide (n<=r.2)
def Mb(rs:zE)(r:Nat×Nat):Bool:=rs.any λq=>decide (q.1<=r.1)&&decide (r.2<=q.2)
def SS.lC(s:SS)(f:DF):SS:={ s with due:=s.due.filter (λn => !(decide (n<s.kN.fl)||f.kC.any (Hz n))) }
structure SS.nG(s:SS)(k:Nat)(f:DF):Prop where
 wt:s.waits=[]
 le:D5 f<=(s.outs k).data.length
 data:((s.outs k).data.drop f.off).take f.data.length=f.data
 given:D5 f<=s.given k
 fin:f.fin=((s.outs k).fin && !(s.outs k).cut&&D5 f==(s.outs k).data.length)
 cut:(s.outs k).cut=true->D5 f<=(s.outs k).kD
 some_:f.data≠[]\/f.fin=true
 all:(s.mC k<|D5 f).high.sum<=s.all
def SS.lD(s:SS):Nat->Nat
 | 0=>0
 | k+1=>min (s.lD k+(s.ins k).used) 4611686018427387903
structure SS.oq(s:SS)(f:DF):Prop where
 k2:f.kind=2->∀r∈f.kC,Mb s.lx.rs r=true
 k3:f.kind=3->(s.outs f.stream.toNat).cut=true/\f.off=(s.outs f.stream.toNat).end_/\f.rel=(s.outs f.stream.toNat).kD
 k4:f.kind=4->s.nG f.stream.toNat f
 k5:f.kind=5->s.kE<=f.lF/\f.lF<=s.lD 8+s.total
 k6:f.kind=6->s.kS f.stream.toNat<=f.lF/\f.lF<=(s.ins f.stream.toNat).used+s.kT
 k7:f.kind=7->∃g l,s.waits=g::l/\g.id=f.id/\g.dl=f.dl/\g.data=f.data/\s.now<=f.dl
 ok:2<=f.kind/\f.kind<=7
def SS.may(s:SS)(f:DF):SS :=
 if f.kind=2 then s.lC f
 else if f.kind=4 then s.mC f.stream.toNat (D5 f)
 else if f.kind=5 then{ s with kE:=f.lF }
 else if f.kind=6 then{ s with kS:=zh s.kS f.stream.toNat f.lF }
 else if f.kind=7 then{ s with waits:=s.waits.drop 1 }
 else s
def SS.mO:List DF->SS->SS
 | [],s=>s
 | f::fs,s=>SS.mO fs<|s.may f
def SS.nQ:List DF->Nat->SS->Prop
 | [],_,_=>True
 | f::fs,c,s=>c<=DR f/\s.oq f/\SS.nQ fs (DR f) (s.may f)
structure SS.nR(s:SS)(b:qq)(fs:List DF):Prop where
 dec:dec b=.ok s.kH fs
 len:b.length<=s.kj
 enc:b=Fe s.kH fs++EP (Dz<|Fe s.kH fs)
 ok:JM s.kH fs=true
 may:SS.nQ fs 0 { s with kH:=s.kH+1 }
def SS.emit(s:SS)(a:List DF):SS:=SS.mO a { s with kH:=s.kH+1 }
def SS.mQ:List qq->SS->SS->Prop
 | [],s,s'=>s'=s
 | b::l,s,s'=>∃a,s.nR b a/\SS.mQ l (s.emit a) s'
def SS.nB(s:SS):Nat:=if s.closed=12 then 0 else s.closed
def WH(w:rT):OB (w.alloc (.cells #[] 5)) (.slice w 0 0) []:=by
 refine⟨rfl,.inr ⟨w.heap.size,0,#[],rfl,AK _,heap_alloc_new w _,AI _,AK _,nl,by simp[zS]⟩⟩
def JX(l:qq)(w:rT)(e:Ending)(w':rT):Prop:=∃a,e=.returned a/\OB w' a l/\C9 DA w w'/\∀g,a.ownBlock=some g->w.heap.size<=g
theorem dX(v:rU)(l:qq)(w:rT)(h:BR w v l)(A:l.length<=1099511627776):rH 137 #[v] w (JX l w):=by
 obtain⟨a,m,rfl,y,z,u⟩:=id h;cases a with
 | none =>
  have q:l=[]:=by
   cases l with
   | nil=>rfl
   | cons x l =>
    obtain⟨g,o,e,_⟩:=u 0 x rfl;cases e
  subst q;have C:=_root_.Go.run_eql_slice_nil w 44 _ none 0 m (P:=prog) underlying44;clear h y z u;go_enter func137,ntmps137;go_wp2;go_ret;exact⟨_,rfl,OB.nil _,C9.refl _ _,λg n=>by cases n⟩
 | some a =>
  obtain⟨W1,e⟩:=nm<|w.alloc<|.cells #[] 5;have q:=AB e;have A:OB W1 (.slice w 0 0) []:=by rw[<-e];exact WH w
  obtain⟨B,w',DG,e⟩:=PX W1 (.slice w 0 0) [] a m l A (BR.mod h q<|λ_ _ _ _ _ x=>x) ol;have H:AA (JX l w (.returned B) w'):=zb ⟨B,rfl,e.own,((q.mono rQ).then ((C9.refl (λg=>(Value.slice w 0 0).ownBlock=some g) W1).grown e.grown<|λg n=>.inl n) (λg n=>.inr (by
   simp[Value.ownBlock]at n;omega))),λg n=>by
    rcases e.at_ g n with x|x
    .simp[Value.ownBlock]at x;omega
    have:=q.size;omega⟩
  have C:=_root_.Go.run_eql_slice_nil w 44 _ (some a) l.length m (P:=prog) underlying44;clear h y z u q A e;go_enter func137,ntmps137;go_wp2_with (at_builtin;refine zm rfl _ _ _ _ rfl _ _ _ rfl rfl DG ?_);go_ret;exact H.z
def Tr(tag:qr)(i b:Nat)(W:rT)(l:List (Nat×qq))(c':CS)(e:Ending)(W':rT):Prop :=
 ∃v V',e=.returned v/\W'.ownsRow 0 134 2 v l.length (zZ l)/\(∀g,v.ownBlock=some g->tag g=(i,8))/\zn tag i b c' V' W'/\V'.cm=.slice none 0 0/\C9 (λg=>g=b) W W'
variable{V:CV}{W:rT}{b i:Nat}{c:CS}{tag:qr}
def dW(h:zn tag i b c V W):rH 67 #[(b,0)] W (λe W'=>e=.returned V.cm/\Tr tag i b W c.kW.1 c.kW.2 e W'):=by
 have n:W (b,243)=some V.cm:=h.tl (j:=10) rfl;have fz:=h.fz 243;obtain⟨a,e,q,_⟩:=zi h.cm;have m:C9 (λg=>g=b) W (W.setCell (U b 243)<|.slice none 0 0):=(C9.refl (λg=>g=b) W).setCell (p:=U b 243) rO _;have H:AA (Ending.returned V.cm=.returned V.cm/\Tr tag i b W c.kW.1 c.kW.2 (.returned V.cm) (W.setCell (b,243)<|.slice none 0 0)):=by
  refine zb ⟨rfl,V.cm,{ V with cm:=.slice none 0 0 },rfl,m.owns h.cm<|λg a x=>zn.apart (h.nN g a) (x ▸ h.tb) lc rfl,h.nN,?_,rfl,m⟩;refine h.build (R:=λr=>r=1) m (λg a=>⟨1,rfl,by rw[a,h.tb]⟩) (λ_ _=>rfl) ?_ rL (λk e=>.inl rK) (λk e=>.inl rK) (λk e=>.inl rK) (λk e=>.inl rK) (λk e=>.inl rK) rL rJ rJ (.inr ⟨World.ownsRow_nil _ 0 _ 2,λg a=>by simp[Value.ownBlock]at a,λ_=>rfl⟩);rw[zc h.obj,Ab];rw[show(243:Nat)=233+10 from rfl,Fv c c.kW.2 V { V with cm:=.slice none 0 0 } _ rfl rfl rfl rfl]
 rw[q]at n H ⊢;clear h m q;go_enter func67,ntmps67;go_wp2;go_ret;exact⟨rfl,H.z.2⟩
structure Lc(x:RS):Prop where
 len:x.b.length<=1099511627776
 lo:x.read<=(DP x.kG.rs x.read x.high).1
 hi:(DP x.kG.rs x.read x.high).1<=x.b.length
 top:∀k,k<x.kG.rs.length->DB x.kG.rs k<9223372036854775808
 rl:x.kG.rs.length<=1099511627776
 kD:x.kD<=zG
 fin:x.fin<=zG
variable{x:RS}
def Lc.to(h:Lc x)(a:Nat):x.read<=x.kR a/\x.kR a<=x.b.length:=by
 have a:=h.lo;have b:=h.hi;unfold RS.kR;split<;>omega
def Lb(tag:qr)(i b:Nat)(W:rT)(s:qq)(st g:Nat)(c':CS)(e:Ending)(W':rT):Prop :=
 ∃a,e=.returned (.tuple #[a,[st],Dw g])/\OB W' a s/\(∀g,a.ownBlock=some g->W.heap.size<=g)/\∃V',zn tag i b c' V' W'/\C9 (λg=>g=b) W W'
variable{k:Nat}
def zn.qb(h:zn tag i b c V W)(a:k<8)(e:(c.rs k).kG.rs.length<=1099511627776):Ed W b (129+13*k+1) (V.rc k) (c.rs k).kG.rs (c.rs k).kG.fl (c.rs k).kG.most :=
 ⟨h.r (j:=1) a rfl,h.r (j:=2) a rfl,h.r (j:=3) a rfl,h.rc k a,e,λj=>h.fz j⟩
def dV(h:zn tag i b c V W)(k u:Int)(hm:u<=9223372036854775807)(ok:∀k,k<8->Lc (c.rs k)):rH 102 #[(b,0),.int .i64 k,[u]] W (Lb tag i b W (c.read k u).1.1 (c.read k u).1.2.1 (c.read k u).1.2.2 (c.read k u).2):=by
 have ks:=Ob h k;unfold CS.read;by_cases Y:c.stream k=0;rotate_left
 .obtain⟨n,hn⟩:=nm<|c.stream k;have H0:AA (Lb tag i b W [] 0 n c (.returned<|.tuple #[.slice none 0 0,.int .i64 0,Dw n]) W):=zb ⟨_,rfl,OB.nil _,λg hg=>by simp[Value.ownBlock]at hg,V,h,C9.refl _ _⟩;rw[hn]at ks Y;simp only[hn,Y,ne_eq,Ae,Aq];rw[Ic Y]at ks H0;clear h hn Y ok;go_enter func102,ntmps102;go_wp2_with (go_at_call 131;refine ks.mono ?_;rintro _ _ ⟨rfl,rfl⟩);go_ret3;exact H0.z
 obtain⟨n,k8,-⟩:=Mr Y;obtain⟨q,rfl⟩:∃q:Nat,k=(q:Int):=⟨k.toNat,I⟩;have R:q<8:=I;rw[Y]at ks;simp only[Y,Am,ne_eq,Av,BE];have HH:=zb h;have y:=ok q R;obtain⟨x,hx⟩:=nm<|c.rs q;have HX:=zb hx;have r0:W (b,129+q*13)=some (V.rb q):=by rw[AN];exact h.r (j:=0) R rfl
 obtain⟨ra,rc,ak,_⟩:=zi<|h.rb q R;rw[ak]at r0;have r4:W (b,129+q*13+4)=some (.int .u64 ((c.rs q).high:Int)):=by rw[AN];exact h.r (j:=4) R rfl
 have r5:W (b,129+q*13+5)=some (.int .u64 ((c.rs q).fin:Int)):=by rw[AN];exact h.r (j:=5) R rfl
 have r6:W (b,129+q*13+6)=some (.bool (c.rs q).ended):=by rw[AN];exact h.r (j:=6) R rfl
 have r7:W (b,129+q*13+7)=some (.bool (c.rs q).cut):=by rw[AN];exact h.r (j:=7) R rfl
 have r8:W (b,129+q*13+8)=some (.int .u64 ((c.rs q).kD:Int)):=by rw[AN];exact h.r (j:=8) R rfl
 have Z:W (b,129+q*13+9)=some (.int .u64 ((c.rs q).read:Int)):=by rw[AN];exact h.r (j:=9) R rfl
 have ac:W (b,129+q*13+10)=some (.int .i64 ((c.rs q).state:Int)):=by rw[AN];exact h.r (j:=10) R rfl
 have kg:=Pp (c.rs q).kG.rs (c.rs q).kG.fl (c.rs q).kG.most b (129+13*q+1) (c.rs q).read (c.rs q).high (V.rc q) W.drew ((h.kI (C9.refl DA W).drew).qb R y.rl) (qo y.lo y.hi y.len) y.top;rw[AN 13 q]at kg;have aa:=y.to u.toNat;have M:=(h.rb q R).br;rw[ak]at M;rw[hx]at r0 r4 r5 r6 r7 r8 Z ac y kg aa M ⊢;have n:(q:Int)<8:=I;have n:(0:Int)<=q:=I;by_cases ab:x.state=0;rotate_left
 .rw[AL ab];have n:((x.state:Int)==0)=false:=AM.2 I;have H0:AA (∀W',C9 DA W W'->Lb tag i b W [] x.state 0 c (.returned<|.tuple #[.slice none 0 0,[x.state],Dw 0]) W'):=zb λW' m=>⟨_,rfl,OB.nil _,λg hg=>by simp[Value.ownBlock]at hg,V,h.kI m,m.mono rQ⟩
  clear h Y ok y kg aa M ab hx r0 r4 r5 r6 r7 r8 Z;go_enter func102,ntmps102;go_upto_region 6 with(go_at_call 131;refine ks.mono ?_;rintro _ _ ⟨rfl,rfl⟩;unfold Dw;simp only[Aq]);go_quiet (fail);go_wp2;go_ret3;exact H0.z _<|(C9.refl DA W).drewN _
 rw[AH (qp ab)];rw[ab]at ac;have aq:=zb ab;obtain⟨E,hE⟩:=nm<|x.kR u.toNat;obtain⟨ST,B⟩:=nm<|x.kx E;rw[hE]at aa;rw[hE,B];obtain⟨s,n⟩:=nm<|(x.b.drop x.read).take<|E-x.read;rw[n];have aE:=zb n;clear n;have n:=zb hE;have n:=zb B;have HR:=zb y;obtain⟨hi,al⟩:=nm x.high;obtain⟨fn,am⟩:=nm x.fin;obtain⟨en,an⟩:=nm x.ended;obtain⟨cu,af⟩:=nm x.cut;obtain⟨kp,ag⟩:=nm x.kD;obtain⟨z,n⟩:=nm x.read;obtain⟨lo,ao⟩:=nm<|(DP x.kG.rs x.read x.high).1;obtain⟨N,hN⟩:=nm x.b.length;have b1:=y.lo;have b2:=y.hi;have b3:=y.len;have b4:=y.kD;have b5:=y.fin;unfold zG at b4 b5;rw[ao]at b1 b2 kg;rw[hN]at b2 b3 aa r0 M;rw[n]at b1 aa Z;rw[al]at r4;rw[am]at r5 b5;rw[an]at r6;rw[af]at r7;rw[ag]at r8 b4;rw[n,al]at kg;have ah:AA (E=if cu then max z (min (min lo<|z+u.toNat) kp)else min lo (z+u.toNat)):=by
  show _=_;rw[<-hE,RS.kR,af,ao,ag,n]
 have ad:AA (ST=if cu&&decide (kp<=E)then 2 else if !cu&&en&&E==fn then 1 else 0):=by
  show _=_;rw[<-B,RS.kx,af,an,ag,am]
 have aF:=zb n;have HN:=zb hN;have KG:=zb kg;have ar:=zb M;have fz:=λp=>h.fz p
 clear h Y ok y kg ab hx hE B al am an af ag n ao hN M ak;have aG:=zb r0;have aH:=zb r5;have aI:=zb r6;have aJ:=zb r7;have aK:=zb r8;have au:=zb Z;have av:=zb ac;go_enter func102,ntmps102;go_upto_region 7 with(go_at_call 131;refine ks.mono ?_;rintro _ _ ⟨rfl,rfl⟩;unfold Dw;simp only[Aq]);refine zr 17 (λw'=>w' (b,129+q*13+9)=some (.int .u64 z)/\w' (b,129+q*13+4)=some (.int .u64 hi)) (⟨Z,r4⟩) ?_;refine GI 0 ?_;iterate 11
  refine GV rfl ?_;try simp only[PS]
 refine zD 11 rfl (λK hK=>?_);go_simp;refine KG.z.mono ?_;rintro _ W2 ⟨rfl,D⟩;have D:=(C9.refl DA W).drew.trans D;refine hK.z _ _ ⟨D.cell (a:=⟨b,_,none⟩) id Z,D.cell (a:=⟨b,_,none⟩) id r4⟩ ?_;clear hK K;try simp only[PS]
 refine GI 12 ?_;iterate 5
  refine GV rfl ?_;try simp only[PS]
 refine zt ?_;have q0:=D.cell (a:=⟨b,_,none⟩) id r0;have q5:=D.cell (a:=⟨b,_,none⟩) id r5;have q6:=D.cell (a:=⟨b,_,none⟩) id r6;have q7:=D.cell (a:=⟨b,_,none⟩) id r7;have q8:=D.cell (a:=⟨b,_,none⟩) id r8;have q9:=D.cell (a:=⟨b,_,none⟩) id Z;have aL:=D.cell (a:=⟨b,_,none⟩) id ac;have M2:=zb D;clear r0 r4 r5 r6 r7 r8 Z ac KG D fz;obtain⟨M,y⟩:=nm u.toNat;rw[y]at ah;have ae:((M:Int)=u/\0<=u)\/(M=0/\u<0):=I;obtain⟨e0,n⟩:=nm<|min lo<|z+M;have aw:=zb n;have x1:IntKind.u64.wrap (M:Int)=(M:Int):=by rw[IntKind.wrap_u64];omega
 have x2:=wu ((z:Int)+M) I;have x5:IntKind.u64.wrap 0=0:=by rw[IntKind.wrap_u64];rfl
 have x6:IntKind.u64.wrap (z:Int)=(z:Int):=by rw[IntKind.wrap_u64];omega
 have x3:IntKind.u64.wrap u=u\/u<0:=by rw[IntKind.wrap_u64];omega
 have x4:IntKind.u64.wrap ((z:Int)+u)=(z:Int)+u\/u<0:=by rw[IntKind.wrap_u64];omega
 rw[n]at ah;clear y n;go_upto_region 8 with fail
 go_cut [13] (λev wx=>ev=.int .u64 e0/\wx=W2)
 case first=>as_aux_lemma =>
  rcases ae with⟨ae,n⟩|⟨ae,u⟩
  .subst ae;clear x3 x4;go_wp2_with fail;all_goals first|(exfalso;omega)|skip
   all_goals
    go_meet;have h2:=aw.z;exact⟨by congr 1;omega,rfl⟩
  subst ae;go_wp2_with fail;all_goals first|(exfalso;omega)|skip
  all_goals
   go_meet;have h2:=aw.z;exact⟨by congr 1;omega,rfl⟩
 case rest =>
 obtain⟨rfl,hw⟩:=hcut;have hw:=hw.symm;subst hw;clear x1 x2 x3 x4 x5 x6;go_upto_if 63 with fail
 go_cut [13] (λev wx=>ev=.int .u64 E/\AA (C9 DA W wx))
 case first=>as_aux_lemma =>
  cases cu
  .have h2:E=e0:=ah.z;subst h2;go_wp2;go_meet;exact⟨rfl,M2⟩
  go_upto_region 10 with fail;go_quiet (fail);go_wp2_with fail;all_goals
   go_meet;have h2:E=max z (min e0 kp):=ah.z;exact⟨by congr 1;omega,zb<|M2.z.drewN _⟩
 case rest =>
 obtain⟨rfl,M3⟩:=hcut;obtain⟨W3,aM⟩:=nn wc;subst aM;have Y:(x.b.drop z).take (E-z)=s:=by
  rw[<-aF.z];exact aE.z
 have ax:s.length=E-z:=by
  rw[<-Y,AU,Af,HN.z];omega
 have c3:=HH.z.kI M3.z;have r0:=M3.z.cell (a:=⟨b,_,none⟩) id aG.z;have Z:=M3.z.cell (a:=⟨b,_,none⟩) id au.z;have X:=BR.mod ar.z (M3.z.drew)<|λ_ _ _ _ _ x=>x;have ay:N<=rc/\rc<=9223372036854775807:=by
  obtain⟨n,u,e,q1,q2,_⟩:=X;cases e;rw[HN.z]at q1;unfold maxLen at q2;exact⟨q1,I⟩
 obtain⟨n,u⟩:=ay;have aj:∀v,v=.slice (ra.map λx=>x.add z) (E-z) (rc-z)->BR W3.drew v s:=by
  rintro v rfl;rw[<-Y];rw[<-HN.z]at X;exact X.sub<|by rw[HN.z];omega
 have y:BR W3.drew (.slice (if rc=z then ra else ra.map λx=>x.add z) (E-z)<|rc-z) s:=by
  by_cases e:rc=z
  .rw[AL e];have:s=[]:=Aj I;rw[this,(I:E-z=0),(I:rc-z=0)];exact BR.nil _ ra 0 pi
  rw[AH e];exact aj _ rfl
 have M:=λv n=>dX v s W3.drew n I
 have aA:AA (∀G,C9 DA W3.drew G->∀n,OB G n s->(∀g,n.ownBlock=some g->W3.heap.size<=g) ->
   (ST=0->∀W',C9 DA (G.setCell (b,129+q*13+9)<|.int .u64 E) W'->Lb tag i b W s ST 0 { c with rs:=zh c.rs q { x with read:=E,state:=ST } } (.returned<|.tuple #[if s=[]then .slice none 0 0 else n,[ST],.nilIface]) W') /\
   (∀W5,C9 DA (G.setCell (b,129+q*13+9)<|.int .u64 E) W5->∀W',C9 DA (W5.setCell (b,129+q*13+10)<|.int .i64 ST) W'->Lb tag i b W s ST 0 { c with rs:=zh c.rs q { x with read:=E,state:=ST } } (.returned<|.tuple #[if s=[]then .slice none 0 0 else n,[ST],.nilIface]) W')):=by
  intro G m4 n ho hn;have c0:zn tag i b { c with rs:=zh c.rs q x } V W3:=by
   rw[<-HX.z,Fx];exact c3
  have aB:=aq.z;have u:=(c0.kI (C9.refl DA W3).drew).kI m4;have c5:=u.nO R 9 lc (.int .u64 E) { x with read:=E } rfl rfl rfl;rw[AN 13 q]at c5;have m5:=λG p v=>(C9.refl (λg=>g=b) G).setCell (p:=⟨b,p,none⟩) rO v
  have mm:=(M3.z.drew).trans m4;have aN:∀g,n.ownBlock=some g->¬(g=b):=λg hg e=>by
   have u:=hn g hg;have h2:=zo Z;omega
  have u:=M3.z.size;have u:∀W',zn tag i b { c with rs:=zh c.rs q { x with read:=E,state:=ST } } V W'->C9 (λg=>g=b) G W'->Lb tag i b W s ST 0 { c with rs:=zh c.rs q { x with read:=E,state:=ST } } (.returned<|.tuple #[if s=[]then .slice none 0 0 else n,[ST],.nilIface]) W':=by
   intro W' hc hm;refine⟨_,rfl,?_,?_,V,hc,(mm.mono rQ).trans hm⟩
   .split
    .rename_i e;rw[e];exact OB.nil _
    exact hm.owns ho aN
   intro g hg;split at hg
   .simp[Value.ownBlock]at hg
   have:=hn g hg;omega
  refine⟨λe W' m=>?_,λW5 ma W' m=>?_⟩
  .have:({ x with read:=E,state:=ST }:RS)={ x with read:=E }:=by
    rw[e,<-aB]
   refine u W' ?_<|(m5 _ _ _).trans<|m.mono rQ;rw[this];exact c5.kI m
  have c6:=(c5.kI ma).nO R 10 lc (.int .i64 ST) { x with read:=E,state:=ST } rfl rfl rfl;rw[AN 13 q]at c6;exact u W' (c6.kI m)<|((m5 _ _ _).trans<|ma.mono rQ).trans<|(m5 _ _ _).trans<|m.mono rQ
 have aC:=zb y;have aD:=zb M;have aO:=zb ax;have m:∀G,C9 DA W3.drew G->AA ((∀p,G.frozen? ⟨b,p,none⟩=false)/\(∀p v p',(G.setCell ⟨b,p,none⟩ v).frozen? ⟨b,p',none⟩=false)/\G.cell? (b,129+q*13+9)=some (.int .u64 z)/\G.cell? (b,129+q*13+7)=some (.bool cu)/\G.cell? (b,129+q*13+8)=some (.int .u64 kp)/\G.cell? (b,129+q*13+6)=some (.bool en)/\G.cell? (b,129+q*13+5)=some (.int .u64 fn)/\G.cell? (b,129+q*13+10)=some (.int .i64 0)):=λG m4=>by
  have mm:=((C9.refl DA W3).drew).trans m4;have D:=M3.z.trans mm;have u:=(HH.z.kI D).obj;exact zb ⟨λp=>zd u,λp v p'=>zd<|zc u,D.cell (a:=⟨b,_,none⟩) id au.z,D.cell (a:=⟨b,_,none⟩) id aJ.z,D.cell (a:=⟨b,_,none⟩) id aK.z,D.cell (a:=⟨b,_,none⟩) id aI.z,D.cell (a:=⟨b,_,none⟩) id aH.z,D.cell (a:=⟨b,_,none⟩) id av.z⟩
 have Z9:=zb m;have u:(z:Int)<=E:=I;have u:(E:Int)<=rc:=I;have u:=aa.1;have u:E<=rc:=I;clear c3 Y ax X aj y M m q0 q5 q6 q7 q8 q9 aL;go_upto_region 11 with fail
 go_cut [14] (λn wx=>∃bw:qs×Nat,n=.slice bw.1 s.length bw.2/\AA (C9 DA W3.drew wx/\OB wx (.slice bw.1 s.length bw.2) s/\∀g,(Value.slice bw.1 s.length bw.2).ownBlock=some g->W3.heap.size<=g))
 case first =>
  refine zr 12 (λw'=>w' (b,129+q*13)=some (.slice ra N rc)/\w' (b,129+q*13+9)=some (.int .u64 z)) (⟨r0,Z⟩) ?_;refine GI 0 ?_;iterate 9
   refine GV rfl ?_;try simp only[PS]
  refine Gl (i:=9) (v:=.slice (if rc=z then ra else ra.map λx=>x.add z) (E-z)<|rc-z) rfl kw (λ_ _ _ h=>h) (Or.inl ⟨by rfl,?_⟩) ?_
  ·(intro wx L;obtain⟨f0,f9⟩:=L;go_simp;try with_reducible rfl)
  try simp only[PS]
  refine zD 10 rfl (λK hK=>?_);go_simp;refine(aD.z _<|aC.z).mono ?_;rintro e G ⟨g,rfl,ho,m4,hn⟩;obtain⟨aP,aQ,rfl,_⟩:=zi ho;refine hK.z _ _ ⟨m4.cell (a:=⟨b,_,none⟩) id r0,m4.cell (a:=⟨b,_,none⟩) id Z⟩ ?_;clear hK K;try simp only[PS]
  refine GI 11 ?_;refine GV rfl ?_;try simp only[PS]
  refine zt ?_;go_wp2_with fail;all_goals
   go_meet;exact⟨(aP,aQ),rfl,zb ⟨m4,ho,hn⟩⟩
 case rest =>
 obtain⟨⟨ba,bc⟩,rfl,HB⟩:=hcut;obtain⟨g,m,n,q,u,y,z,a⟩:=(Z9.z wc HB.z.1).z;have C:=zb<|aA.z wc HB.z.1 _ HB.z.2.1 HB.z.2.2;obtain⟨SL,a⟩:=nm s.length;have g:=zb a;have g:AA ((if s=[]then Value.slice none 0 0 else .slice ba SL bc)=if SL=0 then .slice none 0 0 else .slice ba SL bc):=by
  show _=_;by_cases h:s=[]
  .have h2:SL=0:=by rw[<-a,h];rfl
   rw[AL h,AL h2]
  have h2:SL≠0:=λe=>h<|Aj<|by rw[a,e]
  rw[AH h,AH h2]
 rw[a]at C;rw[g.z]at C;rw[a];clear aC aD aO Z9 aA r0 Z HB a g HR ar;have A:SL=0\/SL≠0:=I;go_upto_region 13 with fail;cases cu
 .cases en
  .have B:ST=0:=ad.z;subst B;go_quiet (fail);go_upto_region 15 with fail;go_quiet (fail);have O:=zb<|C.z.1 rfl;clear C;rcases A with rfl|A
   .go_wp2;go_quiet (fail);go_wp2;go_ret3;exact O.z _<|by repeat (first|exact C9.refl _ _|refine C9.drewN ?_ _)
   have dz:((SL:Int)==0)=false:=AM.2 I;rw[AH A]at O;go_wp2;go_quiet (fail);go_wp2;go_ret3;exact O.z _<|by repeat (first|exact C9.refl _ _|refine C9.drewN ?_ _)
  by_cases ap:E=fn
  .have B:ST=1:=by
    have:=ad.z;simp[ap]at this;exact this
   subst B;subst ap;go_quiet (fail);go_upto_region 15 with fail;go_quiet (fail);have O:=zb<|C.z.2;clear C;rcases A with rfl|A
   .go_wp2;go_quiet (fail);go_wp2;go_ret3;exact O.z _ ((C9.refl DA _).drewN _) _<|(C9.refl DA _).drewN _
   have dz:((SL:Int)==0)=false:=AM.2 I;rw[AH A]at O;go_wp2;go_quiet (fail);go_wp2;go_ret3;exact O.z _ ((C9.refl DA _).drewN _) _<|(C9.refl DA _).drewN _
  have B:ST=0:=by
   have:=ad.z;simp[ap]at this;exact this
  subst B;have dE:((E:Int)==(fn:Int))=false:=AM.2 I;go_quiet (fail);go_upto_region 15 with fail;go_quiet (fail);have O:=zb<|C.z.1 rfl;clear C;rcases A with rfl|A
  .go_wp2;go_quiet (fail);go_wp2;go_ret3;exact O.z _<|by repeat (first|exact C9.refl _ _|refine C9.drewN ?_ _)
  have dz:((SL:Int)==0)=false:=AM.2 I;rw[AH A]at O;go_wp2;go_quiet (fail);go_wp2;go_ret3;exact O.z _<|by repeat (first|exact C9.refl _ _|refine C9.drewN ?_ _)
 by_cases ai:kp<=E
 .have B:ST=2:=by
   have:=ad.z;simp[ai]at this;exact this
  subst B;have dE:decide (kp<=E)=true:=by simp[ai]
  go_quiet (fail);have O:=zb<|C.z.2;clear C;rcases A with rfl|A
  .go_wp2;go_quiet (fail);go_wp2;go_ret3;exact O.z _ ((C9.refl DA _).drewN _) _<|(C9.refl DA _).drewN _
  have dz:((SL:Int)==0)=false:=AM.2 I;rw[AH A]at O;go_wp2;go_quiet (fail);go_wp2;go_ret3;exact O.z _ ((C9.refl DA _).drewN _) _<|(C9.refl DA _).drewN _
 have B:ST=0:=by
  have:=ad.z;simp[ai]at this;exact this
 subst B;have dE:decide (kp<=E)=false:=by simp[ai]
 go_quiet (fail);go_upto_region 15 with fail;go_quiet (fail);have O:=zb<|C.z.1 rfl;clear C;rcases A with rfl|A
 .go_wp2;go_quiet (fail);go_wp2;go_ret3;exact O.z _<|by repeat (first|exact C9.refl _ _|refine C9.drewN ?_ _)
 have dz:((SL:Int)==0)=false:=AM.2 I;rw[AH A]at O;go_wp2;go_quiet (fail);go_wp2;go_ret3;exact O.z _<|by repeat (first|exact C9.refl _ _|refine C9.drewN ?_ _)
def GJ(w:rT)(g n:Nat):Prop:=∃cs t,w.heap[g]?=some (.cells cs t (0,0))/\n<=cs.size
variable{g j n:Nat}{w:rT}
def GJ.cell(h:GJ w g n)(a:j<n):(∃v,w (g,j)=some v)/\w.frozen? ⟨g,j,none⟩=false:=by
 obtain⟨cs,t,a,e⟩:=h;exact⟨⟨cs[j],za a<|by simp[(I:j<cs.size)]⟩,zd a⟩
def GJ.set(h:GJ w g n)(j:Nat)(v:rU):GJ (w.setCell (g,j) v) g n:=by
 obtain⟨cs,t,a,e⟩:=h;exact⟨_,t,zc a,qp e⟩
variable{S:Nat->Prop}{w':rT}
def GJ.mod(h:GJ w g n)(m:C9 S w w')(a:¬S g):GJ w' g n:=by
 obtain⟨cs,t,e,g⟩:=h;exact⟨cs,t,m.obj a e,g⟩
variable{cap:Nat}{l:qq}
def OB.open_(h:OB w (.slice g n cap) l):GJ w g l.length:=by
 rcases h.2 with⟨e,_⟩|⟨h,g,a,e,_,m,n,q,u,y⟩
 .cases e
 cases e;exact⟨a,_,m,I⟩
def dU(h:zn tag i b c V W)(E:Dn i tag W)(k a:Int)(R:a<=9223372036854775807)(ok:∀k,k<8->Lc (c.rs k))(M:(c.read k a).1.1.length<=1099511627776):rH 65 #[(b,0),.int .i64 k,[a]] W (EN tag i b W (.tuple #[.string (zy (c.read k a).1.1),.int .i64 ((c.read k a).1.2.1:Int),.int .i64 ((c.read k a).1.2.2:Int)]) (c.read k a).2):=by
 have u:=dV h k a R ok;obtain⟨R,hR⟩:=nm<|c.read k a;rw[hR]at u M ⊢;obtain⟨⟨s,st,y⟩,a⟩:=R;simp only at u M ⊢;have n:=zb E;have O:=zb h;have K1:=zb u;clear h E ok u hR;go_enter func65,ntmps65;go_wp2_with fail;refine(K1.z).mono ?_;rintro _ W2 ⟨a,rfl,m,z,V',X,K⟩;clear K1;obtain⟨A,sc,rfl,Y,Z,B⟩:=zi m;unfold maxLen at Z;obtain⟨N,hN⟩:=nm s.length;have a:(convert 44 9<|.slice A N sc).run prog W2=.ok (.string<|zy s) W2:=by
  have:=FZ<|OB.br m;rw[hN]at this;exact this
 have e2:=n.z.mod K (λg e=>.inl (by
  have e:=e;rw[e,O.z.tb];have:=n.z.pos;simp;omega))
 have hL:=X.left n.z.ok<|O.z.ni K;have C:Dw y=.nilIface\/∃t u,Dw y=.iface t u:=by
  unfold Dw;split
  .exact .inl rfl
  exact .inr ⟨_,_,rfl⟩
 have D:∀g,A=some ⟨g,0,none⟩->GJ W2 g N:=λg e=>by
  subst e;rw[<-hN];exact m.open_
 have G:∀g,A=some ⟨g,0,none⟩->W.heap.size<=g:=λg e=>by
  subst e;exact z g rfl
 rw[hN]at Y B M ⊢;have a:=zb hL;have aa:=zb e2;have ab:=zb D;have q:=zb G;have H2:=zb X;have M2:=zb K;have h:AA (Dw y=Dw y):=zb rfl;obtain⟨u,a⟩:=nm<|Dw y;have ac:=zb a;rw[a]at C ⊢;clear m z X K e2 hL D G a h;rcases C with rfl|⟨a,h,rfl⟩;all_goals
  go_wp2_with fail
  go_loopw [26] (λa wr=>∃j:Nat,j<=N/\a=.int .i64 j/\AA (∀g,A=some ⟨g,0,none⟩->GJ wr g N)/\AA (C9 (λg=>A=some ⟨g,0,none⟩) W2 wr)) (λa _=>N-(intOf a).toNat)
  case atStart=>exact⟨0,AK _,rfl,ab,zb rS⟩
  case round =>
   obtain⟨j,a,rfl,HQ,L⟩:=hrel;by_cases ad:j<N
   .obtain⟨g,e⟩:=B I;subst e;obtain⟨⟨a,h⟩,m⟩:=(HQ.z g rfl).cell ad;have ae:AA (∀a,some (⟨g,0,none⟩:Addr)=some ⟨a,0,none⟩->GJ (wr.setCell (g,j)<|.int .u8 33) a N):=zb (λa af=>by
     cases af;exact(HQ.z g rfl).set j _)
    have a:=zb<|L.z.setCell (p:=(g,j)) rO<|.int .u8 33;go_wp2;go_roundw
    case rel=>exact⟨j+1,I,by go_num,ae,a⟩
    simp[intOf];omega
   have a:=Ie y wr (aa.z.err.mod L.z (λx=>by
    have h:=q.z 0 x;have:=n.z.tab.lt;omega))
   rw[ac.z]at a;have h:=zb a;clear a;go_wp2_with fail;refine(h.z).mono ?_;rintro _ a ⟨rfl,m4⟩;have a:=(H2.z.mod L.z (λg e=>by
    rw[n.z.ok g (q.z g e)];have:=n.z.pos;simp;omega) (λ_ _=>rfl)).kI m4
   have h:=(M2.z.then L.z<|λg e=>.inr<|q.z g e).trans<|m4.mono rQ;have e:=zb<|a.left n.z.ok<|O.z.ni h;clear m4 a h;go_wp2;go_ret3;exact⟨rfl,e.z⟩
def To:(prog.info? 9).map (λi=>(i.zero,i.size,i.bytes))=some (some (.string ⟨#[]⟩),1,16):=kw
def EH(l:List qq):List rU:=l.map λs=>.string (zy s)
def XK(w:rT)(v:rU)(l:List qq)(s:qq)(h:w.ownsRow 0 9 1 v l.length (EH l))(e:l.length<=1099511627776):∃a w',(∀e,(Builtin.append_ #[29,29] e #[v,.slice w 1 1]).run prog (w.alloc (.cells #[.string (zy s)] 9))=.ok a w')/\w'.ownsRow 0 9 1 a (l.length+1) (EH (l++[s]))/\(w.alloc (.cells #[.string (zy s)] 9)).grownBy w' v.ownBlock/\Dh w v a:=by
 obtain⟨o,n⟩:=nm<|(Obj.cells #[.string (zy s)] 9 (0,0));obtain⟨i,e,y,g,m⟩:=info_parts To;have z:∀(j:Nat) u,(EH [s])[j]?=some u->(w.alloc o) ((⟨w.heap.size,0,none⟩:Addr).add j)=some u:=λj u A=>by
  rw[EU,<-n];refine za (heap_alloc_new w _) ?_;rw[An,<-Array.getElem?_toList];exact A
 obtain⟨a,w',B,C,D,E⟩:=zY (P:=prog) (w.alloc o) 29 9 i _ 1 16 underlying29 e y g m rfl lc v l.length (EH l) (((C9.refl DA w).alloc o).owns h<|λ_ _ x=>x)
  ⟨w.heap.size,0,none⟩ 1 1 (EH [s]) rfl z (by
   intro u q;simp[EH]at q;subst q;rfl) pi I
 have e:EH (l++[s])=EH l++EH [s]:=by simp[EH]
 rw[n,e];refine⟨a,w',B,C,D,λg a=>?_⟩;rcases E g a with x|x
 .exact .inl x
 refine .inr ?_;simp at x;omega
def Oy(tag:qr)(i b:Nat)(W:rT)(a:List qq)(c':CS)(e:Ending)(W':rT):Prop :=
 ∃v tag' V',e=.returned v/\zn tag' i b c' V' W'/\DK i tag tag' W W'/\C9 (Da i tag) W W'/\FV i tag'/\W'.ownsRow 0 9 1 v a.length (EH a)/\∀g,v.ownBlock=some g->W.heap.size<=g/\tag' g=(0,0)
def LW(a:qt)(k:Nat)(g:Nat):Prop:=∃j u,j<k/\a[j]?=some u/\u.ownBlock=some g
variable{c':CS}{outs:List qq}
def iS(E:Dn i tag W)(k1:rH 45 #[(b,0)] W (I3 tag i b W outs c'))(al:outs.length<=1099511627776)(ab:∀l∈outs,l.length<=1099511627776):rH 20 #[(b,0)] W (Oy tag i b W outs c'):=by
 have HE:=zb E;have K1:=zb k1;have am:=zb ab;clear E k1 ab;go_enter func20,ntmps20;go_wp2_with fail;refine(K1.z).mono ?_;rintro _ W2 ⟨v,y,tag',V',rfl,h2,e2,m2,z,ac⟩;clear K1;obtain⟨N,hN⟩:=nm outs.length;have R:y.length=N:=by rw[z.len,hN]
 obtain⟨E,oc,rfl,an,ao,ad⟩:=zi z.own;rw[R]at an ad ⊢;rw[hN]at al;unfold maxLen at ao;have H2:=zb h2;have E2:=zb e2;have M2:=zb m2;have ap:=zb ac;have HO:=zb z;have ae:=zb R;have D:=zb hN;have aq:=zb m2.size;clear h2 e2 m2 ac z R hN;go_wp2_with fail
 go_loopw [3,10] (λz X wr=>∃k:Nat,k<=N/\X=.int .i64 k/\AA (wr.ownsRow 0 9 1 z (outs.take k).length (EH<|outs.take k)/\(∀g,z.ownBlock=some g->W2.heap.size<=g)/\C9 (LW y k) W2 wr)) (λ_ X _=>N-(intOf X).toNat)
 case atStart=>exact⟨0,AK _,rfl,zb ⟨World.ownsRow_nil _ 0 _ 1,λg e=>by simp[Value.ownBlock]at e,C9.refl _ _⟩⟩
 case round =>
  obtain⟨k,z,rfl,G⟩:=hrel;obtain⟨sa,sc,ar,au,av,_⟩:=zi G.z.1;subst ar;have n:(outs.take k).length=k:=by rw[AU,D.z];omega
  by_cases z:k<N
  .obtain⟨u,hu⟩:∃u,y[k]?=some u:=⟨y[k]'(by rw[ae.z];exact z),AG<|by rw[ae.z];exact z⟩;obtain⟨l,hl⟩:∃l,outs[k]?=some l:=⟨outs[k]'(by rw[D.z];exact z),AG<|by rw[D.z];exact z⟩;obtain⟨A,aw⟩:=HO.z.each k u l hu hl;have af:=am.z l<|AZ hl;have K:∀g,u.ownBlock=some g->¬LW y k g:=λg e ⟨j,x,hj,hx,hxg⟩=>HO.z.apart j k x u hj hx hu g hxg e
   have h:OB wr u l:=G.z.2.2.owns A K;obtain⟨g0,rfl⟩:=ad I;have ax:wr (g0,k)=some u:=by
    have z:¬LW y k g0:=λ⟨j,x,hj,hx,hxg⟩=>by
     obtain⟨lj,Y⟩:∃l,outs[j]?=some l:=⟨outs[j]'(by rw[D.z];omega),AG<|by rw[D.z];omega⟩;exact Tk HO.z.own (HO.z.each j x lj hx Y).1 lc (g:=g0) rfl hxg
    have h5:=HO.z.own.cells (g:=g0) rfl k u hu;rw[EU]at h5;have h6:=G.z.2.2.cell (a:=(g0,0+k)) z h5;rw[An]at h6;exact h6
   obtain⟨Z,uc,ay,aA,aB,aa⟩:=zi h;subst ay;unfold maxLen at aB;obtain⟨L,hL⟩:=nm l.length;have u:(convert 44 9<|.slice Z L uc).run prog wr=.ok (.string<|zy l) wr:=by
    have:=FZ<|OB.br h;rw[hL]at this;exact this
   rw[hL]at aA aa ax af;obtain⟨u,W3,DG,B,C,ag⟩:=XK wr (.slice sa (outs.take k).length sc) (outs.take k) l G.z.1 I;obtain⟨va,vc,rfl,_⟩:=zi B;have m3:=(((C9.refl DA wr).alloc _).mono rQ).trans<|rS.grown C<|λg e=>.inl e;have m:=G.z.2.1;have ah:∀g,Z=some ⟨g,0,none⟩->g<W2.heap.size:=λg e=>by subst e;exact zI A g rfl
   have M:OB W3 (.slice Z l.length uc) l:=m3.owns h (λg e x=>by
    have h5:=m g x;have h6:=zI A g e;omega)
   have O:∀g,Z=some ⟨g,0,none⟩->GJ W3 g L:=λg e=>by
    subst e;rw[<-hL];exact M.open_
   have z:=G.z.2.2.size;have u:∀g,(Value.slice va ((outs.take k).length+1) vc).ownBlock=some g->W2.heap.size<=g:=λg e=>by
    rcases ag g e with x|x
    .exact m g x
    omega
   have E:outs.take (k+1)=outs.take k++[l]:=by rw[Ai,hl];rfl
   have R:=G.z.2.2.then m3<|λg e=>.inr<|m g e;have ai:AA (W3.ownsRow 0 9 1 (.slice va (k+1) vc) (outs.take<|k+1).length<|EH<|outs.take<|k+1):=zb (by
    rw[E,AF,Ak];rw[n]at B ⊢;exact B)
   rw[n]at DG u;have aj:=zb u;have aC:=zb ah;have aD:=zb aa;have aE:=zb O;have aF:=zb R;have aG:AA (∀g,Z=some ⟨g,0,none⟩->LW y (k+1) g):=zb (λg e=>⟨k,_,I,hu,by rw[e];rfl⟩);have aI:=zb n;rw[n];clear A aw K h hu hl aa B C ag m3 m ah M O z u E R n af au av;go_wp2_with (at_builtin;refine zm rfl _ _ _ _ rfl _ _ _ rfl rfl DG ?_)
   go_loopw [21] (λX wr=>∃j:Nat,j<=L/\X=.int .i64 j/\AA (∀g,Z=some ⟨g,0,none⟩->GJ wr g L)/\AA (C9 (λg=>Z=some ⟨g,0,none⟩) W3 wr)) (λX _=>L-(intOf X).toNat)
   case atStart=>exact⟨0,AK _,rfl,aE,zb rS⟩
   case round =>
    obtain⟨j,hj,rfl,HP,HM⟩:=hrel;by_cases ak:j<L
    .obtain⟨g,e⟩:=aD.z I;subst e;obtain⟨⟨h,m⟩,n⟩:=(HP.z g rfl).cell ak;have aH:AA (∀h,some (⟨g,0,none⟩:Addr)=some ⟨h,0,none⟩->GJ (wr.setCell (g,j)<|.int .u8 33) h L):=zb (λh C=>by
      cases C;exact(HP.z g rfl).set j _)
     have h:=zb<|HM.z.setCell (p:=(g,j)) rO<|.int .u8 33;go_wp2;go_roundw
     case rel=>exact⟨j+1,I,by go_num,aH,h⟩
     simp[intOf];omega
    have h:AA (wr.ownsRow 0 9 1 (.slice va (k+1) vc) (outs.take<|k+1).length (EH<|outs.take<|k+1)/\(∀g,(Value.slice va (k+1) vc).ownBlock=some g->W2.heap.size<=g)/\C9 (LW y<|k+1) W2 wr):=zb
     ⟨HM.z.owns ai.z (λg e x=>by
      have h5:=aj.z g e;have h6:=aC.z g x;omega),aj.z,(aF.z.mono<|λg ⟨q,x,hq,r⟩=>.inl ⟨q,x,I,r⟩).then HM.z<|λg e=>.inl<|aG.z g e⟩
    go_wp2;go_roundw
    case rel=>exact⟨k+1,I,by go_num,h⟩
    simp[intOf];omega
  have m:k=N:=I;have n:outs.take k=outs:=AS (by rw[D.z];omega);have H:=G.z;rw[n]at H;have q:∀g,LW y k g->(tag' g)=(0,0)/\W.heap.size<=g:=λg ⟨j,x,hj,hx,hxg⟩=>by
   obtain⟨lj,Y⟩:∃l,outs[j]?=some l:=⟨outs[j]'(by rw[D.z];omega),AG<|by rw[D.z];omega⟩;obtain⟨a,b⟩:=(HO.z.each j x lj hx Y).2 g hxg;exact⟨b,a⟩
  have h:AA (Oy tag i b W outs c' (.returned<|.slice sa outs.length sc) wr):=zb
   ⟨_,tag',V',rfl,H2.z.mod H.2.2 (λg e=>by rw[(q g e).1];have:=HE.z.pos;simp;omega)<|λ_ _=>rfl,⟨E2.z.lH,E2.z.new,E2.z.z.mod H.2.2⟩,M2.z.then H.2.2<|λg e=>.inr (q g e).2,ap.z,H.1,λg e=>⟨AR aq.z<|H.2.1 g e,E2.z.z g<|H.2.1 g e⟩⟩
  rw[n];clear m;go_wp2;go_ret;exact h.z
structure SS.mb(s:SS)(f:DF):Prop where
 st:∃k:Nat,k<8/\f.stream=(k:Int)
 off:f.off<=4611686018427387903
 dl:f.data.length<=1099511627776
 ins:∀j,j<8->(s.ins j).high<=1099511627776/\(s.ins j).there.length=(s.ins j).data.length/\(s.ins j).data.length<=(s.ins j).high/\s.kS j<=1099511627776
 seen:s.seen.length<=1099511627776
 kG:s.kG.length<=1099511627776
 most:s.most<18446744073709551616
 rl:f.kind=2->0<f.kC.length
theorem TO(f:Nat->Nat)(k x:Nat):(List.range 8).map (zh f k x)=((List.range 8).map f).set k x:=by
 apply List.ext_getElem?;intro j;rw[List.getElem?_set,Az,Bp,Ad,Ad];by_cases e:k=j
 .subst e;by_cases a:k<8
  .rw[AL rfl,AL a,List.getElem?_range a];simp[zf]
  rw[AL rfl,AH a,BJ ol];rfl
 rw[AH e];cases hj:(List.range 8)[j]? with
 | none=>rfl
 | some y =>
  have:y=j:=by
   have a:=(AO.1 hj);obtain⟨a,g⟩:=a;simpa using g.symm
  subst this;simp[zl f x (λh=>e h.symm)]
section
variable {tag:qr} {i b:Nat} {s s':SS} {V V':SV} {W W1:rT}
def Yi(h:zj tag i b s V W)(ht:zL tag W)(hi:0<i)(f:DF)(rv:rU)(hr:RR W rv f.kC)(ok:s.mb f):rH 91 #[zq b,.agg (ze f rv)] W (Ez tag i b W (.int .i64 ((s.take f).1:Int)) (s.take f).2):=by
 obtain⟨W0,Z⟩:=nm<|W.alloc<|.cells (ze f rv) 48;have m0:=AB Z;have oF:=AD Z;have h0:=h.kD m0;have aa:=ht.mod m0;obtain⟨k,hk,ab⟩:=ok.st;have u:AA (∀{s':SS} {W':rT},Db tag i b W0 s' W'->Db tag i b W s' W'):=zb<|λl=>l.lJ ht hi m0;have E:=zb<|h0.left aa<|C9.refl DA W0;obtain⟨F0,F1,F2,F3,F4,F5,F6,F7,F8,F9⟩:=Ge oF;have y:=zb Z;obtain⟨r,m⟩:=nm<|s.take f;rw[m];unfold SS.take at m;unfold zq;rw[ab]at F1;have H0:=zb h0;have O:=zb aa;have Y:=zb ok;have af:=zb<|hr.mod m0<|DN.no _;have G:=zb ab;clear h ht m0 Z oF h0 aa ok hr ab;by_cases D:f.kind=2
 .rw[AL D]at m;rw[D]at F0;have rl:=Y.z.rl D;have c6:=H0.z.hd (j:=6) rfl;obtain⟨h,Z,rfl,r1,r2,r3⟩:=af.z;obtain⟨g,o,rfl,q1,q2,_⟩:=r3 0 rl;rw[(I:o+2*0=o)]at q1;rw[(I:o+2*0+1=o+1)]at q2;obtain⟨n,Z⟩:=nm f.kC.length;obtain⟨z,hz⟩:=nm<|DB f.kC 0;obtain⟨sn,h⟩:=nm s.kH;rw[Z]at F9 r1 rl y ⊢;rw[hz]at q2 m;rw[h]at c6 m;unfold maxLen at r2;have HF:=zb D;clear r3 af q1 F4 F1 Z hz h D;by_cases ag:sn<=z
  .rw[AL ag]at m;have d:(sn:Int)<=(z:Int):=I;subst m;go_enter func91,ntmps91;go_upto_region 1 with fail;rw[y.z];go_wp2;go_quiet (fail);go_wp2;go_ret;exact⟨rfl,u.z<|E.z.lR<|rS.drewN _⟩
  rw[AH ag]at m;have d:¬(sn:Int)<=(z:Int):=I;subst m;go_enter func91,ntmps91;go_upto_region 1 with fail;rw[y.z];go_wp2;go_quiet (fail);go_wp2;go_ret;exact⟨rfl,u.z<|E.z.lR<|rS.drewN _⟩
 rw[AH D]at m;by_cases M:f.kind=3
 .rw[AL M]at m;have A:=jK H0.z O.z hi f rv hk G.z;rw[m]at A;rw[M]at F0;unfold ze at A;rw[M,G.z]at A;have KA:=zb A;clear A D M;go_enter func91,ntmps91;go_upto_region 1 with fail;rw[y.z];go_wp2_with fail;refine(KA.z).mono ?_;rintro e W6 ⟨rfl,l6⟩;have L6:=zb<|u.z l6;clear l6 KA;go_wp2;go_ret;exact⟨rfl,L6.z⟩
 rw[AH M]at m;by_cases R:f.kind=4
 .rw[AL R]at m;have A:=fL H0.z O.z hi f rv hk G.z Y.z.off Y.z.dl (λj h=>(Y.z.ins j h).1) (Y.z.ins k hk).2.1 (Y.z.ins k hk).2.2.2 (Y.z.ins k hk).2.2.1;rw[m]at A;rw[R]at F0;unfold ze at A;rw[R,G.z]at A;have KA:=zb A;clear A D M R;go_enter func91,ntmps91;go_upto_region 1 with fail;rw[y.z];go_wp2_with fail;refine(KA.z).mono ?_;rintro e W6 ⟨rfl,l6⟩;have L6:=zb<|u.z l6;clear l6 KA;go_wp2;go_ret;exact⟨rfl,L6.z⟩
 rw[AH R]at m;by_cases h5:f.kind=5
 .rw[AL h5]at m;rw[h5]at F0;have ac:=H0.z.hd (j:=15) rfl;obtain⟨al,B⟩:=nm s.all;obtain⟨K,X⟩:=nm f.lF;rw[B]at ac m;rw[X]at F4 m;have ad:=zb B;clear D M R h5 F1 F9 B X;by_cases ai:al<K
  .rw[Nat.max_eq_right I]at m;subst m;have d:(al:Int)<(K:Int):=I;go_enter func91,ntmps91;go_upto_region 1 with fail;rw[y.z];go_wp2;go_quiet (fail);obtain⟨WA,C⟩:=nm<|W0.drewN nq;have N:C9 DA W0 WA:=by rw[<-C];exact rS.drewN _
   rw[C];have h:=H0.z.kD N;have ac:=N.cell (a:=U b 15) id ac;have F4:=N.cell (a:=U W.heap.size 4) id F4;have z:=h.fz 15;have q:=h.mu { s with all:=K } (j:=15) (v:=.int .u64 K) rfl rfl;have z:=(N.mono rQ).trans<|show C9 (λg=>(tag g).1=i) WA _ from h.mh 15<|.int .u64 K;have L:=zb<|u.z<|q.mD O.z z;clear C N h q z;go_wp2;go_ret;exact⟨rfl,L.z⟩
  rw[Nat.max_eq_left I,<-ad.z]at m;subst m;have d:¬(al:Int)<(K:Int):=I;go_enter func91,ntmps91;go_upto_region 1 with fail;rw[y.z];go_wp2;go_quiet (fail);go_wp2;go_ret;exact⟨rfl,u.z<|E.z.lR<|rS.drewN _⟩
 rw[AH h5]at m;by_cases h6:f.kind=6
 .rw[AL h6]at m;rw[h6]at F0;obtain⟨gg,gc,z,Z,g2,ah,_,h⟩:=H0.z.oB (r:=10) (j:=14) rfl lc rfl;obtain⟨al,B⟩:=nm<|s.given k;obtain⟨K,X⟩:=nm f.lF;have cg:W0 (gg,k)=some (.int .u64 al):=by
   rw[<-B];exact(h k _<|by unfold ES;rw[Ad,Ad,List.getElem?_range hk];rfl).1
  rw[G.z,Am,B]at m;rw[X]at F4 m;have ad:=zb B;have ae:=zb z;have Z:(0:Int)<=k:=I;have Z:(k:Int)<8:=I;unfold maxLen at g2;clear D M R h5 h6 F9 B X h z;by_cases ai:al<K
  .rw[Nat.max_eq_right I]at m;subst m;have d:(al:Int)<(K:Int):=I;go_enter func91,ntmps91;go_upto_region 1 with fail;rw[y.z];go_wp2;go_quiet (fail);obtain⟨WA,C⟩:=nm<|W0.drewN nq;have N:C9 DA W0 WA:=by rw[<-C];exact rS.drewN _
   rw[C];have ah:=N.cell (a:=U b 14) id ah;have cg:=N.cell (a:=(gg,k)) id cg;have F4:=N.cell (a:=U W.heap.size 4) id F4;have F1:=N.cell (a:=U W.heap.size 1) id F1;have z:=zb N;clear C N;go_upto_region 14 with fail
   go_still_tail 9,kw
   change wpList _ _ _ _ _ WA.drew;obtain⟨B,h⟩:=nm WA.drew;have C:C9 DA W0 B:=by rw[<-h];exact z.z.trans rS.drew
   have z:C9 DA WA B:=by rw[<-h];exact rS.drew
   rw[h];have cg:=z.cell (a:=(gg,k)) id cg;have a:=H0.z.kD C;obtain⟨q1,n1⟩:=zj.ng (s':={ s with given:=zh s.given k K }) a (r:=10) (g:=gg) (n:=8) (cap:=gc) (k:=k) (x:=K) (l:=(List.range 8).map s.given) lc lc (by show Pc.row _ _ V.given _ _=_;rw[ae.z]) (by show Pc.row _ _ V.given _ _=_;rw[ae.z,TO s.given k K]) (λq _ g=>by unfold DV;split<;>first|rfl|exact absurd rfl g)<|λ_ _ _ _=>rfl;have g:B.frozen? ⟨gg,k,none⟩=false:=(I9 (v:=.int .u64 (s.given k:Int)) (i:=k) (by have:=(a.rowOf (r:=10) rfl lc).1;rw[ae.z]at this;exact this)<|by unfold ES;rw[Ad,Ad,List.getElem?_range hk];rfl).2;have L:=zb<|u.z<|q1.mD O.z<|(C.mono rQ).trans n1;clear h C z a q1 n1;go_wp2;go_ret;exact⟨rfl,L.z⟩
  rw[Nat.max_eq_left I,<-ad.z,Fx]at m;subst m;have d:¬(al:Int)<(K:Int):=I;go_enter func91,ntmps91;go_upto_region 1 with fail;rw[y.z];go_wp2;go_quiet (fail);go_wp2;go_ret;exact⟨rfl,u.z<|E.z.lR<|rS.drewN _⟩
 rw[AH h6]at m;by_cases h7:f.kind=7
 .rw[AL h7]at m;have A:=il H0.z O.z hi f rv Y.z.seen Y.z.kG Y.z.most;have a:s.message f=r.2:=by rw[<-m]
  have g:(r.1:Int)=0:=by rw[<-m];rfl
  rw[a]at A;rw[g];rw[h7]at F0;unfold ze at A;rw[h7,G.z]at A;have KA:=zb A;clear A D M R h5 h6 h7 m g a;go_enter func91,ntmps91;go_upto_region 1 with fail;rw[y.z];go_wp2_with fail;refine(KA.z).mono ?_;rintro e W6 ⟨rfl,l6⟩;have L6:=zb<|u.z l6;clear l6 KA;go_wp2;go_ret;exact⟨rfl,L6.z⟩
 rw[AH h7]at m;by_cases h8:f.kind=8
 .rw[AL h8]at m;subst m;rw[h8]at F0;clear D M R h5 h6 h7 h8 F4 F1 F9;go_enter func91,ntmps91;go_upto_region 1 with fail;rw[y.z];go_wp2;go_ret;exact⟨rfl,u.z E.z⟩
 rw[AH h8]at m;subst m;have g2:(f.kind==2)=false:=qp D;have a:(f.kind==3)=false:=qp M;have a:(f.kind==4)=false:=qp R;have a:(f.kind==5)=false:=qp h5;have a:(f.kind==6)=false:=qp h6;have a:(f.kind==7)=false:=qp h7;have a:(f.kind==8)=false:=qp h8;clear D M R h5 h6 h7 h8 F4 F1 F9;go_enter func91,ntmps91;go_upto_region 1 with fail;rw[y.z];go_wp2;go_ret;exact⟨rfl,u.z E.z⟩
end
def RC(s:DO)(b:Nat)(v:rU)(w:rT)(e:Ending)(w':rT):Prop :=
 e=.returned (.tuple #[])/\∃a,Jr w' b a s.rs s.fl s.most/\((RM w a/\0<s.rs.length)\/a=v)/\C9 (λk=>k=b) w w'
def Sl(s:DO)(b lo hi:Nat)(v:rU)(w:rT)(h:Jr w b v s.rs s.fl s.most)(ok:s.Ok)(g:lo<18446744073709551616)(n:hi<18446744073709551616)(q:s.rs.length<274877906944):rH 39 #[(b,0),lo,hi] w (RC (s.add lo hi) b v w):=by
 have u:=ok.fl;have E:=ok.most;unfold zG at u;unfold DO.add;by_cases a:hi<max lo s.fl
 .rw[AL a];refine(eE s.rs s.fl s.most b lo hi v w h g n I a).mono ?_;rintro e w' ⟨rfl,m⟩;exact⟨rfl,v,⟨m.obj rP h.obj,h.rd.mod m<|DN.no _,h.len⟩,.inr rfl,m.mono rQ⟩
 rw[AH a];refine(WG s.rs s.fl s.most b lo hi _ _ v w h ok.wf g n I E.1 I q I (IL _ _)<|IL _ _).mono ?_;rintro e w' ⟨rfl,A,a,e,y,B,C,D⟩;split at y
 .rename_i z;rw[AL z];cases y;exact⟨rfl,A,B,.inl ⟨C,by rw[Af];omega⟩,D⟩
 rename_i z;rw[AH z];cases y;exact⟨rfl,A,B,.inl ⟨C,QQ _ _ _ _ _⟩,D⟩
section
variable {tag:qr} {i b:Nat} {s s':SS} {V V':SV} {W W1:rT}
variable{r:Nat}
def zj.pf(h:zj tag i b s V W){a:Nat}{e:rU}{q:DO}(m:r+1<16)(g:DV b s V r=.kr a (JG q e) 106)(n:DV b s V (r+1)=.rr e q.rs)(u:q.rs.length<=274877906944):Jr W a e q.rs q.fl q.most/\tag a=(i,r) :=
 ⟨⟨(DM.kr (p:=EC b s V) (r:=r) h<|by rw[GM I];exact g).1,(DM.rr (p:=EC b s V) (r:=r+1) h<|by rw[GM m];exact n).1,u⟩,(DM.kr (p:=EC b s V) (r:=r) h<|by rw[GM I];exact g).2⟩
def zj.added(h:zj tag i b s V W)(G:zL tag W)(hi:0<i){A:Nat}{n:rU}{q B:DO}{e:Ending}(K:r+1<16)(L:DV b s V r=.kr A (JG q n) 106)(M:DV b s V (r+1)=.rr n q.rs)(a:RC B A n W e W1)
  (s':SS) (V':rU->SV) (N:∀n,DV b s' (V' n) r=.kr A (JG B n) 106) (O:∀n,DV b s' (V' n) (r+1)=.rr n B.rs) (B:∀n q,q<16->¬(q=r\/q=r+1)->DV b s' (V' n) q=DV b s V q) (R:∀n q k,q<4->k<8->D7 s' (V' n) q k=D7 s V q k) :
  Db tag i b W s' W1:=by
 obtain⟨_,n,C,y,m⟩:=a;obtain⟨X,D⟩:=DM.kr (p:=EC b s V) (r:=r) h (by rw[GM I];exact L);obtain⟨L,Y⟩:=DM.rr (p:=EC b s V) (r:=r+1) h (by rw[GM K];exact M);have E:A<W.heap.size:=(AJ.1 X).1;refine⟨zT tag W W1 (i,r+1),_,⟨V' n,rfl⟩,?_,?_,m.mono<|λg u=>.inl<|by rw[u,D]⟩
 .refine DM.lq (p:=EC b s V) h (λp=>p=r\/p=r+1) m (λg u=>⟨r,.inl rfl,by rw[u,D]⟩) (λg u=>zx<|Ds G (i:=i) (r:=(tag g).2) (by rw[<-u]) hi) (λp z=>?_) (Ia (B n)<|λq k a b _=>R n q k a b);rcases z with z|z
  .subst z;rw[GM I,N];exact⟨C.obj,by rw[zx E,D]⟩
  subst z;rw[GM K,O];refine⟨C.rd,λg u=>?_⟩;rcases y with y|y
  .obtain⟨a,a,e,_,_,Z⟩:=C.rd;obtain⟨g0,o,rfl,c1,_⟩:=Z 0 y.2;subst e;have u:some g0=some g:=u;cases u;rw[FH (y.1 _ _ _ _ rfl) (zo c1)]
  subst y;have:=Y g u;rw[zx (Ds G this hi),this]
 have:=Gf (i:=i) (r:=r+1) (tag:=tag) m.size;exact⟨this.lH,this.new,λg u=>this.z g<|qp u⟩
end
def Jd(w:rT)(v:rU)(e:List Int):Prop:=∃g o a,v=.slice (some ⟨g,o,none⟩) e.length a/\e.length<=a/\a<=1048576/\∀i k,e[i]?=some k->w ⟨g,o+i,none⟩=some (.int .i64 k)
variable{v:rU}
def Jd.kI{n:List Int}(h:Jd w v n)(m:C9 DA w w'):Jd w' v n:=by
 obtain⟨g,o,e,rfl,q,u,y⟩:=h;exact⟨g,o,e,rfl,q,u,λi k e=>m.cell (a:=⟨g,_,none⟩) id<|y i k e⟩
def LZ(o:EF):Bool:=if o.kind=9 then Hh (Iq (dec o.s))else Hh (o.fs.map (·.1))
def Jn(a:List Int)(first:Bool)(o:EF):Bool:=a.any (λk=>o.kind==k) && !(first && !LZ o)
def nH(a:List Int)(z:Int)(k:Nat):Bool:=(a.take k).any λq=>z==q
def Yt(a:List Int)(z:Int)(k:Nat)(q:Int)(h:a[k]?=some q):nH a z (k+1)=(nH a z k||z==q):=by
 unfold nH;rw[Ai,h];simp
def Sc(w:rT)(b:Nat)(first:Bool):Prop:=w.heap[b]?=some (.cells #[rV,.slice none 0 0,.slice none 0 0,.slice none 0 0,.slice none 0 0,first] 33 (0,0))
def Ys(l:List EF)(v kv:rU)(C:List Int)(first:Bool)(w:rT)(P:Nat->Nat->rT->Prop)(N:Ix w v l)(ag:Jd w kv C)(hb:GX l<=1048576)
  (O:∀b w0,l.length<=65536->C9 DA w w0->w.heap.size<=b->Sc w0 b first->P b 0 w0)
  (ad:∀b k g w2,P b k g->C9 DA g w2->P b k w2) (R:∀b k g,P b k g->C9 DA w g)
  (X:∀b k o g,l[k]?=some o->Jn C first o=false->P b k g->P b (k+1) g)
  (Y:∀b k o g,l[k]?=some o->Jn C first o=true->P b k g->rH 9 #[.pointer (some ⟨b,0,none⟩),.agg (ED o)] g λe w'=>e=.returned (.bool true)/\P b (k+1) w') :
  rH 5 #[v,kv,first] w (EX w true):=by
 have k1:=Yu l v w N hb;have ak:=zb N;have aq:=zb ag;have ar:=zb hb;have au:=zb O;have ae:=zb ad;have al:=zb R;have am:=zb X;have Z:=zb Y;obtain⟨a,aB,rfl,h1,h2,_⟩:=id N;obtain⟨kg,ko,kc,rfl,_,_,_⟩:=id ag;have aC:l.length<=1048576:=qm<|(Mn l).1;unfold maxLen at h2;clear N ag hb O ad R X Y;go_enter func5,ntmps5;go_wp2_with fail;refine k1.mono ?_;clear k1;rintro e g ⟨b,⟨rfl,m1⟩,av⟩;have M1:=zb m1;clear m1;cases b
 .go_wp2;go_ret;exact⟨rfl,M1.z⟩
 go_wp2_with fail;obtain⟨W0,N⟩:=nm<|g.alloc<|.cells #[rV,.slice none 0 0,.slice none 0 0,.slice none 0 0,.slice none 0 0,first] 33;rw[N];have O:P g.heap.size 0 W0:=au.z _ _ (qp av) (M1.z.trans<|by rw[<-N];exact rS.alloc _) M1.z.size (by rw[<-N];exact heap_alloc_new g _);have R:=zb O;clear N O
 go_loopw [9] (λi wr=>∃k:Nat,k<=l.length/\i=.int .i64 k/\AA (P g.heap.size k wr)) (λi _=>l.length-(intOf i).toNat)
 case atStart=>exact⟨0,AK _,rfl,R⟩
 case round =>
  obtain⟨k,g,rfl,hP⟩:=hrel;have m:=al.z _ _ _ hP.z;by_cases g:k<l.length
  .obtain⟨o,ho⟩:∃o,l[k]?=some o:=⟨l[k],AG g⟩;obtain⟨N,g,aw,_,_,h3⟩:=ak.z.kI m;cases aw;obtain⟨⟨g,N,rfl,hc⟩,hf,_⟩:=h3 k o ho;obtain⟨g,N,O,R,X,Y,ax⟩:=Sd hc;obtain⟨WB,ay⟩:=nn wr;subst ay;obtain⟨W2,g⟩:=nm<|WB.alloc<|.cells (ED o) 39;have R:=AB g;have oO:=AD g;have M:=zb m;have HF:=zb hf;have HO:=zb oO;have M2:=zb R;have aa:=zb ho;have N:=zb g;obtain⟨fa,fc,O,_⟩:=id hf;have D:=zb O;rw[O]at ax;clear hc h3 m ho hf oO R g O;unfold ED at N;rw[D.z]at N;go_wp2_with fail;rw[N.z]
   go_loopw [11,12] (λg j wr=>∃q:Nat,q<=C.length/\g=.bool (nH C o.kind q)/\j=.int .i64 q/\C9 DA W2 wr) (λ_ j _=>C.length-(intOf j).toNat)
   case atStart=>exact⟨0,AK _,rfl,rfl,C9.refl _ _⟩
   case round =>
    obtain⟨q,g,rfl,rfl,m⟩:=hrel;have M3:=zb m;have oO:=m.obj rP HO.z;unfold ED at oO;rw[D.z]at oO;have o0:wr WB=some (.int .i64 o.kind):=za oO rfl;have o4:wr (WB,4)=some (.string<|zy o.s):=za oO rfl;have g:wr (WB,5)=some (.int .u64 o.n):=za oO rfl;have g:wr (WB,6)=some (.slice fa o.fs.length fc):=za oO rfl;by_cases g:q<C.length
    .obtain⟨kz,ah⟩:∃kz,C[q]?=some kz:=⟨C[q],AG g⟩;obtain⟨g,N,O,e',_,_,an⟩:=(((aq.z.kI M.z).kI M2.z).kI m);cases e';have g:=an q kz ah;have HI:=zb<|Yt C o.kind q kz ah;clear an m oO ah;obtain⟨ib,B⟩:=nm<|nH C o.kind q;rw[B]at HI;rw[B];have g:=zb B;clear B;cases ib
     .by_cases M:o.kind=kz
      .have g:(o.kind==kz)=true:=by rw[M];exact beq_self_eq_true _
       have N:=zb M;rw[g]at HI;clear M;go_wp2;go_quiet (fail);go_wp2;go_roundw
       case rel=>exact⟨q+1,I,by rw[HI.z];rfl,by go_num,M3.z.drewN _⟩
       simp[intOf];omega
      have g:(o.kind==kz)=false:=AM.2 M;rw[g]at HI;clear M;go_wp2;go_quiet (fail);go_wp2;go_roundw
      case rel=>exact⟨q+1,I,by rw[HI.z];rfl,by go_num,M3.z.drewN _⟩
      simp[intOf];omega
     go_wp2;go_quiet (fail);go_wp2;go_roundw
     case rel=>exact⟨q+1,I,by rw[HI.z];rfl,by go_num,M3.z.drewN _⟩
     simp[intOf];omega
    have g:q=C.length:=I;rw[g];obtain⟨ib,B⟩:=nm<|nH C o.kind C.length;have ao:=zb B;rw[B];clear B g oO;have g:=TH o.n o.fs (.slice fa o.fs.length fc) wr (by rw[<-D.z];exact(HF.z.kI M2.z).kI m);clear m;go_wp2_with fail;refine g.mono ?_;clear g;rintro e w3 ⟨rfl,m3⟩;have M4:=zb<|M3.z.trans m3;have o0:=m3.cell (a:=WB.heap.size) id o0;have o4:=m3.cell (a:=U WB.heap.size 4) id o4;clear m3;by_cases h9:o.kind=9
    .have g:o.s.length<=1048576:=by
      have h1:=((Mn l).2 o<|AZ aa.z).1;have h2:=ar.z;omega
     have aA:AA (LZ o=Hh (Iq<|dec o.s)):=by show _=_;rw[LZ,AL h9]
     obtain⟨N,O,M,a,B,q⟩:=Ms w3 o.s I;have M:=Mt (.slice w3 o.s.length N) o.s O a I;have M5:=zb<|M4.z.trans B;clear a B q g;have b9:(o.kind==9)=true:=by rw[h9];rfl
     have a:=zb h9;clear h9;go_wp2_with fail;refine M.mono ?_;clear M;rintro e w5 y;obtain⟨m5,ga,gc,ac,rfl,af,ap⟩:=y.shape;obtain⟨q,a⟩:=nm<|w5.alloc<|.cells #[.int .u64 (Io (dec o.s):Int),.slice ga ac.length gc] 37;have B:=AB a;have p0:q w5=some (.int .u64 (Io (dec o.s):Int)):=by rw[<-a];exact za (heap_alloc_new w5 _) rfl
     have p1:q (w5,1)=some (.slice ga ac.length gc):=by rw[<-a];exact za (heap_alloc_new w5 _) rfl
     have g:=TH (Io<|dec o.s) ac (.slice ga ac.length gc) q (af.mod B rQ).qO;rw[ap]at g;obtain⟨eb,E⟩:=nm<|Hh<|Iq<|dec o.s;have ai:AA (LZ o=eb):=by show _=_;rw[aA.z,E]
     rw[E]at g;have M6:=zb<|(M5.z.trans m5).trans B;have q:=zb a;rw[<-a]at p0 p1;clear E m5 B af ap y a;go_wp2_with fail;rw[q.z];refine g.mono ?_;clear g;rintro e w7 ⟨rfl,m7⟩;have MX:=zb<|M6.z.trans m7;clear m7 p0 p1;go_upto_region 18 with fail;obtain⟨G,aj⟩:=nn w7;subst aj;have mX:=MX.z;have A:=mX.obj rP HO.z;unfold ED at A;rw[D.z]at A;have x0:G WB=some (.int .i64 o.kind):=za A rfl;have x1:G (WB,1)=some (.int .i64 o.a):=za A rfl;have x2:G (WB,2)=some (.int .i64 o.b):=za A rfl;have x3:G (WB,3)=some (.int .i64 o.c):=za A rfl;have x4:G (WB,4)=some (.string<|zy o.s):=za A rfl;have x5:G (WB,5)=some (.int .u64 o.n):=za A rfl;have x6:G (WB,6)=some (.slice fa o.fs.length fc):=za A rfl;have ab:=zb<|ae.z _ _ _ _ hP.z<|M2.z.trans mX;have h:=λhp=>Z.z _ _ _ _ aa.z hp ab.z
     have n:=zb<|λhp=>am.z _ _ _ _ aa.z hp ab.z;unfold ED at h;rw[D.z]at h;obtain⟨pb,K⟩:=nm<|Jn C first o;have u:pb=(ib && !(first && !eb)):=by
      rw[<-K,Jn,ai.z,<-ao.z];unfold nH;rw[List.take_length]
     rw[K]at h n;clear mX A K;cases ib
     .have z:=zb<|n.z u;clear h n u;go_wp2;go_roundw
      case rel=>exact⟨k+1,I,by go_num,z⟩
      simp[intOf];omega
     cases first
     .have h:=h u;clear u;go_wp2_with fail;refine h.mono ?_;rintro e w5 ⟨rfl,y⟩;have L:=zb y;clear y h;go_wp2;go_roundw
      case rel=>exact⟨k+1,I,by go_num,L⟩
      simp[intOf];omega
     cases eb
     .have z:=zb<|n.z u;clear h n u;go_wp2;go_roundw
      case rel=>exact⟨k+1,I,by go_num,z⟩
      simp[intOf];omega
     have h:=h u;clear u;go_wp2_with fail;refine h.mono ?_;rintro e w5 ⟨rfl,y⟩;have L:=zb y;clear y h;go_wp2;go_roundw
     case rel=>exact⟨k+1,I,by go_num,L⟩
     simp[intOf];omega
    have b9:(o.kind==9)=false:=AM.2 h9;obtain⟨eb,E⟩:=nm<|Hh<|o.fs.map (·.1);have ai:AA (LZ o=eb):=by show _=_;rw[LZ,AH h9,E]
    rw[E];clear E h9;go_upto_region 18 with fail;obtain⟨G,aj⟩:=nn w3;subst aj;have MX:=M4;have mX:=MX.z;have A:=mX.obj rP HO.z;unfold ED at A;rw[D.z]at A;have x0:G WB=some (.int .i64 o.kind):=za A rfl;have x1:G (WB,1)=some (.int .i64 o.a):=za A rfl;have x2:G (WB,2)=some (.int .i64 o.b):=za A rfl;have x3:G (WB,3)=some (.int .i64 o.c):=za A rfl;have x4:G (WB,4)=some (.string<|zy o.s):=za A rfl;have x5:G (WB,5)=some (.int .u64 o.n):=za A rfl;have x6:G (WB,6)=some (.slice fa o.fs.length fc):=za A rfl;have ab:=zb<|ae.z _ _ _ _ hP.z<|M2.z.trans mX;have h:=λhp=>Z.z _ _ _ _ aa.z hp ab.z
    have n:=zb<|λhp=>am.z _ _ _ _ aa.z hp ab.z;unfold ED at h;rw[D.z]at h;obtain⟨pb,K⟩:=nm<|Jn C first o;have u:pb=(ib && !(first && !eb)):=by
     rw[<-K,Jn,ai.z,<-ao.z];unfold nH;rw[List.take_length]
    rw[K]at h n;clear mX A K;cases ib
    .have z:=zb<|n.z u;clear h n u;go_wp2;go_roundw
     case rel=>exact⟨k+1,I,by go_num,z⟩
     simp[intOf];omega
    cases first
    .have h:=h u;clear u;go_wp2_with fail;refine h.mono ?_;rintro e w5 ⟨rfl,y⟩;have L:=zb y;clear y h;go_wp2;go_roundw
     case rel=>exact⟨k+1,I,by go_num,L⟩
     simp[intOf];omega
    cases eb
    .have z:=zb<|n.z u;clear h n u;go_wp2;go_roundw
     case rel=>exact⟨k+1,I,by go_num,z⟩
     simp[intOf];omega
    have h:=h u;clear u;go_wp2_with fail;refine h.mono ?_;rintro e w5 ⟨rfl,y⟩;have L:=zb y;clear y h;go_wp2;go_roundw
    case rel=>exact⟨k+1,I,by go_num,L⟩
    simp[intOf];omega
  clear m;go_wp2;go_ret;exact⟨rfl,al.z _ _ _ hP.z⟩
def Ku(w:rT)(cs:Array rU)(a:List Int)(e:cs.toList=a.map (Value.int .i64))(g:a.length<=1048576):Jd (w.alloc (.cells cs 3)) (.slice w a.length a.length) a:=by
 refine⟨_,_,_,rfl,AI _,g,λi k a=>?_⟩;refine za (heap_alloc_new w _) ?_;have g:cs.toList[i]?=some (.int .i64 k):=by rw[e,Ad,a];rfl
 rw[An];simpa using g
end
end Go.Proofs.YtddfdpbaiedcjabGreatDoor
