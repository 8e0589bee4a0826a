/- A part of Live's proof. Conditions: none. Part 12 of 15. -/
import Derived.Test.YtddfdpbaiedcjaaGreatDoorLiv11
set_option maxRecDepth 100000
set_option maxHeartbeats 16000000
set_option linter.all false
namespace Go.Proofs.YtddfdpbaiedcjaaGreatDoor
section
open Go.RowKit Go.Proofs.Tryz
variable{M:NV}{V':CV}{W W' w:World}{c':CS}{i nb:Nat}{n:NS}{tag tag':nH}
def Dh.turn(h:Dh w tag nb n M W)(hi:i<2)(a:zi tag' (i+1) (M.b i) c' V' W')(e:Dn (i+1) tag tag' W W')(m:DW (λg=>(tag g).1=i+1) W W')(d:GJ (i+1) tag'):Dh w tag' nb (n.setC i c') { M with V:=zf M.V i V' } W':=by
 have old:∀g,tag g≠(0,0)->tag' g=tag g:=λg hg=>by
  by_cases q:g<W.heap.size
  .exact e.old g q
  exact absurd (h.env.ok g I) hg
 refine⟨(h.o.mod m (λg hg x=>I) old).same (Mq.setC n i c') _,λj f=>?_,?_,λj f=>?_,h.mod.then m (λg hg=>?_),λg hg=>?_⟩
 .by_cases q:j=i
  .subst q;show zi tag' (j+1) (M.b j) (zf n.c j c' j) (zf M.V j V' j) W';rw[ze,ze];exact a
  show zi tag' (j+1) (M.b j) (zf n.c i c' j) (zf M.V i V' j) W';rw[zd _ _ q,zd _ _ q];exact(h.cn j f).mod m (λg hg x=>I) (λg hg=>old g (λx=>by rw[x]at hg;simp at hg))
 .exact((h.env.to (j:=i+1) I).left e m).to I
 .by_cases q:j=i
  .subst q;exact d
  exact(h.nd j f).other e I I
 .refine .inr (h.t1 g (λx=>?_));rw[x]at hg;simp at hg
 by_cases q:g<W.heap.size
 .exact h.t1 g (by rw[<-e.old g q];exact hg)
 have:=h.mod.size;omega
variable{k:Nat}
theorem iJ{l:List nG}{b:nG}(hb:l[k]?=some b)(n:NS):NS.flushL i (l.drop k) n=match dec b with
  | .ok num fs =>
   if n.mtu<b.length\/num≠n.count i\/fs=[]then(false,n)
   else if fs.any (FY n.now)then(false,{ n with count:=zf n.count i (n.count i+1) })
   else NS.flushL i (l.drop (k+1)) { n with count:=zf n.count i (n.count i+1),bag:=n.bag++[(1-i,b)] }
  | _=>(false,n):=by
 rw[Mc hb,NS.flushL];cases dec b<;>rfl
def fL(i:Nat)(l:List nG)(n:NS):NS.flushL i (l.drop l.length) n=(true,n):=by rw[CE];rfl
def ED.ctAt(h:ED tag nb n M W)(hi:i<2):∃g cap,M.ct=.slice (some ⟨g,0,none⟩) 2 cap/\W.cell? (nb,9)=some (.slice (some ⟨g,0,none⟩) 2 cap)/\(2<=cap/\cap<=9223372036854775807)/\W.cell? ⟨g,i,none⟩=some (.int .u64 (n.count i:Int))/\W.frozen? ⟨g,i,none⟩=false/\tag g=(3,5):=by
 obtain⟨g,cap,a,e2,e3,e4⟩:=h.ct.form I;have c0:W.cell? (nb,9)=some M.ct:=h.obj.cell (j:=9) rfl;have x:=h.ct.own;rw[a]at c0 x;have y:=Ks x (i:=i) (v:=.int .u64 (n.count i:Int)) (by
  rcases(I:i=0\/i=1)with rfl|rfl<;>rfl)
 unfold maxLen at e3;exact⟨g,cap,a,c0,⟨e2,I⟩,y.1,y.2,e4⟩
variable{cap g:Nat}
def Dh.ctS(h:Dh w tag nb n M W)(hi:i<2)(x:Nat)(hg:M.ct=.slice g 2 cap):Dh w tag nb { n with count:=zf n.count i x } M (W.setCell (g,i) (.int .u64 x)):=by
 have ht:=h.o.ct.tag g (by rw[hg];rfl);have m:DW (λq=>q=g) W (W.setCell (g,i) (.int .u64 x)):=(DW.refl (λq=>q=g) W).setCell (p:=(g,i)) (.inl rfl) _;exact h.own (h.o.ctS hi x hg) rfl rfl rfl m (λq hq=>.inl (by rw[show q=g from hq,ht])) (Dn.same h.env.ok m)
variable{N:Nat}
def Xg{l:List nG}(h:w.ownsRow 0 9 1 (.slice g N cap) N (GC l)){s:nG}(hs:l[k]?=some s):w.cell? (g,k)=some (.string (zu s)) :=
 (Ks h (i:=k) (by unfold GC;rw[Bc,hs];rfl)).1
variable{f:Da}{fs:List Da}{j now:Nat}
def iI(hf:fs[j]?=some f)(h:(fs.take j).any (FY now)=false):(fs.take (j+1)).any (FY now)=FY now f:=by
 rw[BG,hf,List.any_append,h];simp
def fK(hf:fs[j]?=some f)(h:FY now f=true):fs.any (FY now)=true :=
 Bh.2 ⟨f,AV hf,h⟩
def Dh.bagPush(h:Dh w tag nb n M W)(tt:Nat)(b:nG)(hl:n.bag.length<=1000000000000):∃a cap W2,(∀ty,(Builtin.append_ #[46,46] ty #[M.bg,.slice W.heap.size 1 1]).run prog (W.alloc (.cells #[[tt],.string (zu b)] 62))=.ok (.slice a (n.bag.length+1) cap) W2)/\W2.frozen? ⟨nb,8,none⟩=false/\W2.cell? (nb,8)=some M.bg/\DW (λq=>M.bg.ownBlock=some q) W W2 /\
   ∀W',DW DY (W2.setCell (nb,8) (.slice a (n.bag.length+1) cap)) W'->zB w tag nb W { n with bag:=n.bag++[(tt,b)] } W':=by
 obtain⟨o,p⟩:=nm ((Obj.cells #[[tt],.string (zu b)] 62 (0,0)));have m0:DW DY W (W.alloc o):=(DW.refl _ W).alloc o;have hc:∀(j:Nat) u,(zM [(tt,b)])[j]?=some u->(W.alloc o).cell? ((⟨W.heap.size,0,none⟩:Addr).add j)=some u:=λj u hj=>by
  rw[zZ,<-p];refine za (heap_alloc_new W _) ?_;rw[A6,<-Array.getElem?_toList];exact hj
 obtain⟨v2,W2,r2,i,g2,n2⟩:=QV (W.alloc o) M.bg n.bag [(tt,b)] ⟨W.heap.size,0,none⟩ 1 (m0.owns h.o.bg.own (λ_ _ x=>x)) hc my;have k:=(m0.mono (λ_ x=>x.elim)).grown g2 (λq c=>.inl c);have l:∀q,v2.ownBlock=some q->q<W2.heap.size:=λq c=>by
  rcases i.2 with⟨e,_⟩|⟨q',c',cur,e,_,x,_⟩
  .rw[e]at c;cases c
  rw[e]at c;cases c;exact(AH.1 x).1
 have F:=h.bagS k (λq x=>.inl (h.o.bg.tag q x)) i (λq c=>by
  rcases n2 q c with x|x
  .exact .inl (h.o.bg.tag q x)
  refine .inr ⟨?_,l q c⟩;simp at x;omega)
 have m:¬M.bg.ownBlock=some nb:=λx=>by
  have a:=h.o.bg.tag nb x;rw[h.o.obj.tag]at a;simp at a
 have d:=k.obj m h.o.obj.obj;obtain⟨a2,c2,f,-⟩:=zk i;have g:(n.bag++[(tt,b)]).length=n.bag.length+1:=mv;rw[g]at f;subst f;rw[p];exact⟨a2,c2,W2,r2,zg d,za d rfl,k,λW' m'=>F.then0 m'⟩
variable{T:Nat}
theorem PW(h:Dh w tag nb n M W)(hI:n.Inv T)(hT:T<=Dg)(hU:n.Up)(hi:i<2):Calls prog 22 #[(nb,0),[i]] W (E4 w tag nb W (n.flush i)):=by
 have x1:IntKind.i64.wrap (1-(i:Int))=((1-i:Nat):Int):=by rw[IntKind.wrap_i64];omega
 have x2:(1:Int)-(i:Int)=((1-i:Nat):Int):=I;obtain⟨J,hJ⟩:=nm (1-i);rw[hJ]at x1 x2;have x3:IntKind.i64.wrap (J:Int)=(J:Int):=by rw[IntKind.wrap_i64];omega
 obtain⟨gx,cx,b1,⟨b2,b3⟩,b4⟩:=h.o.connIs (i:=i) hi;have P:=hI.c i hi;have t:=(P.pkPost hT).z;have aP:(n.c i).packets.1.length<=21:=nD t.1 P.acks.2.2;have aa:=P.mtu;have kc:=lD (h.cn i hi) (h.env.to (j:=i+1) I) (h.nd i hi) (hU i hi) (P.pkOk hT) P.got.1 I (λl hl=>by
  have:=t.2 l hl;have e:(n.c i).acks.2.mtu=(n.c i).mtu:=by
   unfold CS.acks;split<;>rfl
  omega)
 have aE:∀l∈(n.c i).packets.1,l.length<=65536:=λl hl=>by
  have:=t.2 l hl;have e:(n.c i).acks.2.mtu=(n.c i).mtu:=by
   unfold CS.acks;split<;>rfl
  omega
 have aQ:=hI.mtu;have aR:=hI.bl;have an:=hI.count i hi;unfold Dg at hT;unfold NS.flush;obtain⟨outs,z⟩:=nm ((n.c i).packets.1);obtain⟨c',aS⟩:=nm ((n.c i).packets.2);obtain⟨mt,ab⟩:=nm n.mtu;obtain⟨nw,A⟩:=nm n.now;rw[z]at aP aE;rw[z,aS]at kc ⊢;obtain⟨L,hL⟩:=nm outs.length;rw[hL]at aP;obtain⟨S,hS⟩:=nm (n.setC i c');rw[hS];have aT:S.mtu=mt:=by rw[<-hS];exact ab
 have aU:S.now=nw:=by rw[<-hS];exact A
 have aV:S.bag.length<=32*T:=by rw[<-hS];exact aR
 have aW:S.count i<=32*T:=by rw[<-hS];exact an
 obtain⟨R,hR⟩:=nm (NS.flushL i outs S);rw[hR];rw[ab]at aQ;have HN:=zb h;have bK:=zb aE;have HR:=zb hR;have HS:=zb hS;clear h hI P t aa aE hU aQ aR an z aS hR hS ab A;go_enter func22,ntmps22;go_upto_region 2 with(go_at_call 27;refine kc.mono ?_;rintro _ W1 ⟨v,tag',V',rfl,a1,a2,a3,a4,D,aF⟩);have m1:=a3.mono (λg hg=>.inl hg.1);have h1:=HN.z.turn hi a1 a2 m1 a4;rw[HS.z]at h1;have ac:AA (∀n' wr W',zB w tag' nb W1 n' wr->DW DY wr W'->zB w tag nb W n' W'):=by
  refine zb λn' wr W' hN m'=>?_
  exact zB.trans a2.old (m1.mono (λg hg=>.inl (λx=>by rw[x]at hg;simp at hg))) (hN.then0 m')
 have au:AA (∀wr,DW (λg=>tag' g≠(0,0)) W1 wr->wr.ownsRow 0 9 1 v outs.length (GC outs)):=zb λwr m=>m.owns D (λg hg x=>x (aF g hg).2)
 have av:∀g,(v.ownBlock=some g->tag' g=(0,0)/\g<W1.heap.size):=λg hg=>by
  refine⟨(aF g hg).2,?_⟩;rcases D.2 with⟨e,_⟩|⟨q',c',bL,e,_,x,_⟩
  .rw[e]at hg;cases hg
  rw[e]at hg;cases hg;exact(AH.1 x).1
 have aX:=zb av;clear av;obtain⟨va,vc,rfl,bM,bN,aY⟩:=zk D;rw[hL]at bM aY au;unfold maxLen at bN;have ST:=zb h1.left;have aZ:=zb hL;rw[hL];clear a1 a2 a3 a4 aF D m1 h1 b1 b2 b3 b4 kc HN hL HS;go_wp2_with fail
 go_loopw [6] (λkv wr=>∃(k:Nat) (N:NS),k<=L/\kv=.int .i64 k/\AA (zB w tag' nb W1 N wr/\NS.flushL i (outs.drop k) N=R/\N.mtu=mt/\N.now=nw/\N.count i<=32*T+k/\N.bag.length<=32*T+k)) (λkv _=>L-(intOf kv).toNat)
 case atStart=>exact⟨0,S,AM _,rfl,zb ⟨ST.z,HR.z,aT,aU,aW,aV⟩⟩
 case round =>
  obtain⟨k,N,hk,rfl,HK⟩:=hrel;clear aT aU aW aV ST HR;by_cases a0:k<L;rotate_left
  .have bO:k=L:=I;subst bO;have bP:AA (R=(true,N)):=by
    show _=_;have a:=HK.z.2.1;rw[<-aZ.z,fL]at a;exact a.symm
   have s:=bP.z;subst s;clear a0;go_wp2_with fail;go_ret;exact⟨rfl,ac.z _ wr _ HK.z.1 (DW.refl _ _)⟩
  obtain⟨ad,b,aa,A,bQ,bR⟩:=HK.z;obtain⟨tg,Mk,hN,old,mk⟩:=id ad;obtain⟨bs,B⟩:∃bs,outs[k]?=some bs:=⟨outs[k]'(by rw[aZ.z];exact a0),AK _⟩;have ae:=bK.z bs (AV B);obtain⟨gv,rfl⟩:=aY I;have a5:AA (tag' gv=(0,0)):=(aX.z gv rfl).1;have aw:AA (gv<W1.heap.size):=(aX.z gv rfl).2;have rS:=Xg (au.z wr mk) B;rw[iJ B]at b;obtain⟨cb,W2,bS,af,m2,_⟩:=fo wr bs I;have ah:=hN.env.mod0 m2;have kd:=kw _ bs W2 af ah.tab ah.err I;have a6:bs.length<=cb/\cb<=9223372036854775807:=by
   obtain⟨_,_,e,q1,q2,_⟩:=af;cases e;unfold maxLen at q2;exact⟨q1,I⟩
  obtain⟨ce,ci⟩:=a6;have u:=zb hN;have Q:=zb ad;have E:=zb old;have a7:=zb mk;have HBS:=zb B;have V:=zb m2;have a8:=zb ae;cases hd:dec bs with
  | sum =>
   rw[hd]at kd b;simp only at b;subst b;have F:AA (∀W',DW DY wr W'->zB w tag nb W N W'):=zb λW' m=>ac.z _ wr _ Q.z m
   clear ad hN old mk B af ah ae u Q HK;go_upto_region 6 with(go_at_call 23;refine kd.mono ?_;rintro _ W3 ⟨m3,rfl⟩);go_quiet (fail);go_wp2_with fail;go_ret;exact⟨rfl,F.z _ (((V.z.trans m3).alloc _).drewN _)⟩
  | bad p =>
   rw[hd]at kd b;simp only at b;subst b;have F:AA (∀W',DW DY wr W'->zB w tag nb W N W'):=zb λW' m=>ac.z _ wr _ Q.z m
   clear ad hN old mk B af ah ae u Q HK;go_upto_region 6 with(go_at_call 23;refine kd.mono ?_;rintro _ W3 ⟨m3,rfl⟩);go_quiet (fail);go_wp2_with fail;go_ret;exact⟨rfl,F.z _ (((V.z.trans m3).alloc _).drewN _)⟩
  | ok num fs =>
   rw[hd]at kd b;simp only at b;have a9:wr.cell? (nb,5)=some (.int .i64 mt):=by
    have:=hN.o.obj.cell (j:=5) (v:=.int .i64 N.mtu) rfl;rw[aa]at this;exact this
   have bT:wr.cell? (nb,4)=some (.int .u64 nw):=by
    have:=hN.o.obj.cell (j:=4) (v:=.int .u64 N.now) rfl;rw[A]at this;exact this
   obtain⟨X,cc,aG,bb,⟨cc1,cc2⟩,aH,bU,_⟩:=hN.o.ctAt hi;obtain⟨ct,G⟩:=nm (N.count i);have ai:AA ((if mt<bs.length\/num≠ct\/fs=[]then(false,N)else if fs.any (FY nw)=true then(false,{ N with count:=zf N.count i (ct+1) })else NS.flushL i (outs.drop (k+1)) { N with count:=zf N.count i (ct+1),bag:=N.bag++[(1-i,bs)] })=R):=by
    show _=_;rw[<-b,aa,A,G]
   rw[G]at aH bQ;have cj:=zJ bs;clear ad hN old mk B af ah b;go_upto_region 6 with(go_at_call 23;refine kd.mono ?_;rintro _ W3 ⟨m3,fv,aj,rfl,aI,aJ,be,bf⟩;obtain⟨fa,fc,rfl,bV,bW,bX⟩:=zk aI.1);obtain⟨H,ak⟩:=nm aj.length;rw[ak]at bV bX ⊢;unfold maxLen at bW;have ax:fs.length=H:=by rw[<-aJ,BB,ak]
   have ck:H<=65536:=by
    have:=(Ki (nC a8.z) hd).2.1;have:=a8.z;omega
   obtain⟨pb,aK⟩:=nm W3.heap.size;obtain⟨Z,ao⟩:=nm (W3.alloc (.cells #[num,.slice fa H fc] 56));have m4:=AB ao;have t:Z.heap[pb]?=some (.cells #[num,.slice fa H fc] 56 (0,0)):=by rw[<-ao,<-aK];exact heap_alloc_new W3 _
   have k0:Z.cell? pb=some (.int .u64 num):=za t rfl;have k1:Z.cell? (pb,1)=some (.slice fa H fc):=za t rfl;have mm:=(V.z.trans m3).trans m4;have bh:=mm.cell (a:=(gv,k)) id rS;have bi:=mm.cell (a:=U nb 5) id a9;have bj:=mm.cell (a:=U nb 9) id bb;have bk:=mm.cell (a:=(X,i)) id aH;have bm:Z.frozen? ⟨X,i,none⟩=false:=by
    have o:=u.z.o.ct.own;rw[aG]at o;rcases o.2 with⟨e,_⟩|⟨g',bn,bL,e,_,h1,_⟩
    .cases e
    cases e;exact zg (mm.obj (λx=>x) h1)
   have ap:=zb mm;have bo:AA (∀wx,DW DY Z wx->IM wx (.slice fa H fc) aj):=zb λwx m=>by
    have:=aI.frs.mod0 (m4.trans m);rw[ak]at this;exact this
   have bp:=zb aJ;have bY:=m3.size;have bZ:=zb λg hg=>AJ V.z.size (be g (by rw[ak];exact hg))
   have bq:=zb λx hx g hg=>AJ V.z.size (bf x hx g hg)
   have O:=zb ax;have HCT:=zb G;have bt:=zb aG;have FF:AA (∀W',DW DY Z W'->zB w tag nb W N W'):=zb λW' m=>ac.z _ wr _ Q.z (ap.z.trans m)
   clear aI t mm m3 m4 rS a9 bb aH bU aJ ax G aG ak kd bS m2;rw[aK,ao];clear ao;refine wp_region_quiet_lit mr mr ?_;repeat (go_big_quiet_step (fail))
   by_cases p1:mt<bs.length
   .have d1:=Ax p1;have s:=ai.z;rw[AQ (.inl p1)]at s;subst s;simp only[d1];repeat (go_big_quiet_step (fail))
    refine wpQuiet_nil ?_;intro _ C;obtain⟨nq,d⟩:=C;subst d;go_wp2_with fail;go_ret;exact⟨rfl,FF.z _ ((DW.refl _ _).drewN _)⟩
   have d1:=Aw p1;simp only[d1];repeat (go_big_quiet_step (fail))
   by_cases p2:num=ct;rotate_left
   .have d2:((num:Int) != (ct:Int))=true:=by rw[Sy];exact Cp.2 p2
    have s:=ai.z;rw[AQ (.inr (.inl p2))]at s;subst s;simp only[d2];repeat (go_big_quiet_step (fail))
    refine wpQuiet_nil ?_;intro _ C;obtain⟨nq,d⟩:=C;subst d;go_wp2_with fail;go_ret;exact⟨rfl,FF.z _ ((DW.refl _ _).drewN _)⟩
   have d2:((num:Int) != (ct:Int))=false:=by rw[Sy];simp[p2]
   simp only[d2];repeat (go_big_quiet_step (fail))
   by_cases p3:H=0
   .have d3:((H:Int)==0)=true:=by simp[p3]
    have s:=ai.z;have y:=Aj (by rw[O.z];exact p3);rw[AQ (.inr (.inr y))]at s;subst s;simp only[d3];repeat (go_big_quiet_step (fail))
    refine wpQuiet_nil ?_;intro _ C;obtain⟨nq,d⟩:=C;subst d;go_wp2_with fail;go_ret;exact⟨rfl,FF.z _ ((DW.refl _ _).drewN _)⟩
   have d3:((H:Int)==0)=false:=by simp[p3]
   have y:fs≠[]:=λx=>p3 (by rw[<-O.z,x];rfl)
   have ay:AA ((if fs.any (FY nw)=true then(false,{ N with count:=zf N.count i (ct+1) })else NS.flushL i (outs.drop (k+1)) { N with count:=zf N.count i (ct+1),bag:=N.bag++[(1-i,bs)] })=R):=by
    have s:=ai.z;rw[AI (by simp only[not_or,Decidable.not_not];exact⟨p1,p2,y⟩)]at s;exact s
   simp only[d3];repeat (go_big_quiet_step (fail))
   refine wpQuiet_nil ?_;intro _ C;obtain⟨nq,d⟩:=C;subst d;clear d1 d2 d3 p1 y ai FF;go_upto_region 8 with fail;obtain⟨W5,aq⟩:=nm ((Z.drewN nq).setCell (X,i) (.int .u64 ((ct:Int)+1)));have N4:=u.z.free (ap.z.drewN nq) (λ_ x=>x.elim);have N5:Dh w tg nb { N with count:=zf N.count i (ct+1) } Mk W5:=by
    have:=N4.ctS hi (ct+1) bt.z;rw[<-aq];exact this
   have m5:DW (λq=>q=X) Z W5:=by
    rw[<-aq];exact((DW.refl (λq=>q=X) Z).drewN nq).setCell (p:=(X,i)) (.inl rfl) _
   have f:=u.z.o.ct.tag X (by rw[bt.z];rfl);have b0:AA (zB w tag' nb W1 { N with count:=zf N.count i (ct+1) } W5):=by
    refine zb (zB.trans E.z a7.z (zB.from0 (ap.z) ⟨tg,Mk,N5,λ_ _=>rfl,m5.mono (λg hg=>.inl (by rw[show g=X from hg,f];simp))⟩))
   have bu:AA (∀n' W',zB w tg nb W5 n' W'->zB w tg nb Z n' W'):=zb λn' W' hh=>zB.trans (λ_ _=>rfl) (m5.mono (λg hg=>.inl (by rw[show g=X from hg,f];simp))) hh
   have az:pb≠X:=λe=>by
    have h2:wr.heap.size<=pb:=by
     rw[<-aK];exact AJ V.z.size bY
    have h3:=u.z.env.ok pb h2;rw[e,f]at h3;simp at h3
   have z1:=m5.cell (a:=U pb 1) az k1;have z4:W5.cell? (nb,4)=some (.int .u64 nw):=by
    have:=N5.o.obj.cell (j:=4) (v:=.int .u64 N.now) rfl;rw[A]at this;exact this
   have bv:AA (∀wx,DW DY W5 wx->IM wx (.slice fa H fc) aj):=zb λwx m=>by
    have a:=bo.z Z (DW.refl _ _);refine(a.mod m5 ?_ ?_).mod0 m
    .intro g o n' c' e x;have hg:=u.z.env.ok g (bZ.z g (by cases e;rfl));rw[show g=X from x,f]at hg;simp at hg
    intro fr al g o n' c' e x;have hg:=u.z.env.ok g (bq.z fr al g (by rw[e];rfl));rw[show g=X from x,f]at hg;simp at hg
   have b5:=m5.cell (a:=(gv,k)) (λx=>by
    have h3:=a5.z;rw[<-E.z _ (aw.z)]at h3;have x:gv=X:=x;rw[x,f]at h3;simp at h3) bh
   have ar:=zb N5;have bw:=zb aq;clear N4 N5 m5 f az k0 k1 bh bi bo Q HK bT;go_upto_region 9 with fail;try rw[bw.z]
   clear bw bj bk bm aq;go_wp2_with fail
   go_loopw [10] (λjv wr=>∃j:Nat,j<=H/\jv=.int .i64 j/\AA (DW DY W5 wr)/\AA ((fs.take j).any (FY nw)=false)) (λjv _=>H-(intOf jv).toNat)
   case atStart=>exact⟨0,AM _,rfl,zb (DW.refl _ _),zb (by rw[Ca];rfl)⟩
   case round =>
    obtain⟨j,hj,rfl,r,HL⟩:=hrel;have y1:=r.z.cell (a:=U pb 1) id z1;have y4:=r.z.cell (a:=U nb 4) id z4;by_cases b6:j<H
    .obtain⟨fr,al⟩:∃fr,aj[j]?=some fr:=⟨aj[j]'(by have:=O.z;rw[<-bp.z,BB]at this;omega),AK _⟩;obtain⟨a',bn,b7,_,_,h3⟩:=bv.z wr r.z;cases b7;obtain⟨⟨g,o,rfl,hc⟩,_⟩:=h3 j fr al;obtain⟨an,_,_,_,_,_,_,b8,_⟩:=Jh hc;have y:fs[j]?=some fr.1:=by rw[<-bp.z,Bc,al];rfl
     have HT:=zb (iI y HL.z);have HA:AA (FY nw fr.1=true->fs.any (FY nw)=true):=zb (fK y);obtain⟨kd,aL⟩:=nm fr.1.kind;obtain⟨dl,aM⟩:=nm fr.1.dl;have aN:AA (FY nw fr.1=(kd==7&&decide (dl<nw))):=by
      show _=_;unfold FY;rw[aL,aM]
     rw[aL]at an;rw[aM]at b8;clear hc h3 al aL aM y;by_cases bz:kd=7
     .subst bz;by_cases aA:dl<nw
      .have d1:=Ax aA;have s:=ay.z;have Y:FY nw fr.1=true:=by rw[aN.z,d1];rfl
       rw[AQ (HA.z Y)]at s;subst s;clear Y;go_wp2_with fail;go_quiet (fail);go_wp2_with fail;go_ret;exact⟨rfl,ac.z _ _ _ b0.z (r.z.drewN _)⟩
      have d1:=Aw aA;have Y:AA (FY nw fr.1=false):=by show _=_;rw[aN.z,d1];rfl
      go_wp2_with fail;go_quiet (fail);go_wp2_with fail;go_roundw
      case rel=>exact⟨j+1,I,by go_num,zb (r.z.drewN _),zb (by rw[HT.z,Y.z])⟩
      simp[intOf];omega
     have d0:=AS.2 bz;have Y:AA (FY nw fr.1=false):=by show _=_;rw[aN.z,d0];rfl
     go_wp2_with fail;go_quiet (fail);go_wp2_with fail;go_roundw
     case rel=>exact⟨j+1,I,by go_num,zb (r.z.drewN _),zb (by rw[HT.z,Y.z])⟩
     simp[intOf];omega
    have b9:j=H:=I;have s:=ay.z;have bA:fs.any (FY nw)=false:=by
     have a:=HL.z;rw[b9,<-O.z,List.take_length]at a;exact a
    rw[bA,AI mv]at s;have bB:=zb s;obtain⟨ba,bc,bC,bD,bE,_⟩:=zk (ar.z.o.bg.own);have p8:W5.cell? (nb,8)=some Mk.bg:=ar.z.o.obj.cell (j:=8) rfl;have bF:=r.z.cell (a:=U nb 8) id p8;have bG:=r.z.cell (a:=(gv,k)) id b5;have N6:=ar.z.free (r.z.drew) (λ_ x=>x.elim);obtain⟨a2,c2,W7,r7,f7,g7,m7,H7⟩:=N6.bagPush J bs (by show N.bag.length<=_;omega);have ca:=zb ((m7.cell (a:=(gv,k)) (λx=>by
     have h3:=a5.z;rw[<-E.z _ (aw.z),ar.z.o.bg.tag gv x]at h3;simp at h3) bG))
    have aB:AA (∀W',DW DY (W7.setCell (nb,8) (.slice a2 (N.bag.length+1) c2)) W'->zB w tag' nb W1 { N with count:=zf N.count i (ct+1),bag:=N.bag++[(J,bs)] } W'):=zb λW' m'=>zB.trans E.z a7.z (zB.from0 ap.z (bu.z _ _ (zB.from0 ((r.z).drew) (H7 W' m'))))
    obtain⟨BL,am⟩:=nm N.bag.length;have aC:Mk.bg=.slice ba BL bc:=by rw[bC];show Value.slice ba N.bag.length bc=_;rw[am]
    have aD:({ N with count:=zf N.count i (ct+1) }:NS).bag.length=BL:=am;rw[aC]at bF g7 r7;rw[aD]at r7;rw[am]at aB bR;have bH:=zb am;have F7:=zb f7;have G7:=zb g7;have bI:=zb bF;have bJ:=zb bG;have R7:=zb r7;clear s bA bC bD bE p8 N6 m7 H7 f7 g7 r7 am aD aC b6;go_upto_region 14 with fail;refine zo 16 (λw'=>w'.cell? (U nb 8)=some (.slice ba BL bc)/\w'.cell? (gv,k)=some (.string (zu bs))) (⟨bI.z,bJ.z⟩) ?_;refine GI 0 ?_;iterate 12
     refine GV rfl ?_;try simp only[PS]
    refine zE 12 rfl (λK hK=>?_);go_simp;refine hK.z _ _ ⟨((DW.refl DY wr.drew).alloc _).cell (a:=U nb 8) id bI.z,((DW.refl DY wr.drew).alloc _).cell (a:=(gv,k)) id bJ.z⟩ ?_;clear hK K;try simp only[PS]
    refine zE 13 rfl (λK hK=>?_);refine zS rfl _ _ _ _ rfl _ _ _ rfl rfl R7.z ?_;refine hK.z _ _ ⟨G7.z,ca.z⟩ ?_;clear hK K;try simp only[PS]
    refine GI 14 ?_;iterate 2
     refine GV rfl ?_;try simp only[PS]
    refine EX rfl (λK hK=>?_);have f7:=F7.z;have g7:=G7.z;go_simp;refine hK.z _ _ ?_;clear hK K;try simp only[PS]
    refine zr ?_;go_wp2_with fail;go_roundw
    case rel =>
     refine⟨k+1,{ N with count:=zf N.count i (ct+1),bag:=N.bag++[(J,bs)] },I,by go_num,zb ⟨aB.z _ (DW.refl _ _),?_,aa,A,?_,?_⟩⟩
     .have a:=bB.z;rw[hJ]at a;exact a
     .show zf N.count i (ct+1) i<=_;rw[ze];omega
     show(N.bag++[(J,bs)]).length<=_;rw[AG,Af,bH.z];omega
    simp[intOf];omega
def Ro(a b:nG):zu a++zu b=zu (a++b):=by
 apply ByteArray.ext;simp[zu]
def Ml(h:Dh w tag nb n M W){s:Do}(c:s.Ok):∃W1 sb i k gx cx,W.alloc (.cells s.cells 37)=W1/\W.heap.size=sb/\Dh w tag nb n M W1/\DW DY W W1/\IK W1 sb s/\tag sb=(0,0)/\i<2/\k<8/\Db s.side 2=i/\Db s.a 8=k /\
  Calls prog 24 #[[s.side],.int .i64 2] W1 (λe w'=>e=.returned (.int .i64 i)/\W1=w')/\Calls prog 24 #[[s.a],.int .i64 8] W1 (λe w'=>e=.returned (.int .i64 k)/\W1=w') /\
  W1.cell? nb=some (.slice (some ⟨gx,0,none⟩) 2 cx)/\(2<=cx/\cx<=9223372036854775807)/\W1.cell? ⟨gx,i,none⟩=some (.pointer (some ⟨M.b i,0,none⟩)):=by
 have h1:=h.alloc (.cells s.cells 37);obtain⟨gx,cx,b1,b2,b4⟩:=h1.o.connIs (i:=Db s.side 2) (Gw _);exact⟨_,_,_,_,gx,cx,rfl,rfl,h1,(DW.refl _ _).alloc _,IK.of (heap_alloc_new W _),h.env.ok _ (AF _),Gw _,En _ _ I,rfl,rfl,JF s.side 2 _ c.side.1 c.side.2 I I,JF s.a 8 _ c.a.1 c.a.2 I I,b1,b2,b4⟩
def VT(h:Dh w tag nb n M W)(hI:n.Inv T)(hT:T<=Dg){s:Do}(hs:s.Ok)(hk:s.kind=1):Calls prog 21 #[(nb,0),.agg s.cells] W (E4 w tag nb W (n.send (Db s.side 2) (Db s.a 8) s.s)):=by
 obtain⟨W1,sb,i,k,gx,cx,V,hsb,h1,m1,sA,E,hi,r,X,Y,Z,aa,b1,⟨b2,b3⟩,b4⟩:=Ml h hs;have H:=hs.s;have ab:∀k,k<8->((n.c i).ws k).b.length<=1099511627776:=λk hk=>by
  have:=((hI.c _ hi).ws k hk).len;omega
 have ac:=hI.e _ hi _ r;rw[X];rw[Y];obtain⟨g,cap,q,an,a1,⟨a2,a3⟩,a4,⟨a5,a6⟩,a7⟩:=h1.o.endAt (i:=i) (k:=k) hi r;obtain⟨c0,c1,c2,c3,c4⟩:=sA;rw[hk]at c0;obtain⟨A,l⟩:=nm s.s;rw[l]at c4 H;have B:=zb V;have ks:=fk (h1.cn i hi) (h1.env.to (j:=i+1) I) (k:Int) A H ab;have ad:=ac.wl;unfold NS.send;rw[l];obtain⟨R,hR⟩:=nm ((n.c i).send k A);rw[hR]at ks ⊢;obtain⟨u,c'⟩:=R;simp only at ks ⊢;obtain⟨o,ho⟩:=nm (n.e i k);rw[ho]at ad ⊢;have HO:=zb ho;obtain⟨RR,J⟩:∃RR:Bool×NS,(if (o.fin||o.cut)=true then(u==4,n.setC i c')else if 2048<o.wrote.length+A.length then(u==3,n.setC i c')else(u==0,(n.setC i c').setE i k { o with wrote:=o.wrote++A }))=RR:=⟨_,rfl⟩;rw[J];have d:=zb J;clear J;have HN:=zb h1;have ae:=zb m1;have q4:((u:Int)==4)=(u==4):=IC u 4;have q3:((u:Int)==3)=(u==3):=IC u 3;have q0:((u:Int)==0)=(u==0):=IC u 0;unfold Do.cells at B ⊢;rw[hk,l]at B ⊢;clear l h hI h1 m1 ab ac V hs hk X Y hR ho hT;go_enter func21,ntmps21;go_upto_region 1 with fail;rw[B.z];go_upto_region 8 with(first|(go_at_call 24;refine Z.mono ?_;rintro _ _ ⟨rfl,rfl⟩;clear Z)|(go_at_call 24;refine aa.mono ?_;rintro _ _ ⟨rfl,rfl⟩)|(go_at_call 37;refine ks.mono ?_;rintro _ W2 ⟨rfl,hL⟩));obtain⟨tag',V',h2,old,m2⟩:=HN.z.conn hi hL;have Q:=h2.o.enAt hi r;have d4:=m2.cell (a:=U sb 4) (λx=>by
  have x:(tag sb).1=i+1:=x;rw[E]at x;simp at x) c4
 have C:(n.setC i c').e i k=o:=HO.z;rw[C]at Q;obtain⟨Q,e1,e2,e3,e4,e5,ez⟩:=Q;obtain⟨S,hS⟩:=nm (n.setC i c');rw[hS]at h2 C;have L:∀{n':NS} {W':World},zB w tag' nb W2 n' W'->zB w tag nb W n' W':=λhh=>zB.from0 ae.z (zB.trans old (m2.mono (λg hg=>.inl (λx=>by rw[x]at hg;simp at hg))) hh)
 have v:AA (∀W',DW DY W2 W'->zB w tag nb W (n.setC i c') W'):=zb λW' m=>by rw[hS];exact L (zB.then0 h2.left m)
 have af:tag' (M.eb i k)≠(0,0):=λx=>by
  have a:=(h2.o.en i hi k r).tag;have a:tag' (M.eb i k)=_:=a;rw[x]at a;simp at a
 have y:=(h2.o.en i hi k r).obj;rw[C]at y;have F:AA (∀(e':EN) W3 W',DW (λg=>g=M.eb i k) W2 W3->W3.heap[M.eb i k]?=some (.cells (G6 e') 89 (0,0))->DW DY W3 W'->zB w tag nb W ((n.setC i c').setE i k e') W'):=zb λe' W3 W' m3 ho m'=>by
  rw[hS];have N3:=h2.endS hi r e' m3 ho;exact L (zB.then0 ⟨tag',_,N3,λ_ _=>rfl,m3.mono (λg hg=>.inl (by rw[show g=M.eb i k from hg];exact af))⟩ m')
 obtain⟨eb,N⟩:=nm (M.eb i k);dsimp only at Q e1 e2 e3 e4 e5 ez y;rw[N]at Q e1 e2 e3 e4 e5 ez y F;try rw[N]
 have aj:=zb y;clear old m2 h2 L af y HN ae hL C hS N;have ak:=zJ A;have al:=zJ o.wrote;clear aa ks a1 a2 a3 a4 a5 a6 a7 b1 b2 b3 b4 c0 c1 c2 c3 c4 E B HO;obtain⟨wl,ah⟩:=nm o.wrote.length;obtain⟨sl,ai⟩:=nm A.length;rw[ah]at ad al d;rw[ai]at H ak d;obtain⟨fn,O⟩:=nm o.fin;obtain⟨cu,P⟩:=nm o.cut;rw[O]at e1;rw[P]at e2;have t:=zb O;have D:=zb P;clear O P ah ai;by_cases G:2048<wl+sl
 .have db:decide ((2048:Int)-(wl:Int)<(sl:Int))=true:=Ax I;go_quiet (fail);cases fn
  .cases cu
   .have f:=d.z;rw[AI (by rw[t.z,D.z];simp),AQ G]at f;subst f;go_wp2_with fail;go_ret;exact⟨by first|rfl|simp only[q3],v.z _ ((DW.refl _ _).drewN _)⟩
   have f:=d.z;rw[AQ (by rw[t.z,D.z];rfl)]at f;subst f;go_wp2_with fail;go_ret;exact⟨by first|rfl|simp only[q4],v.z _ ((DW.refl _ _).drewN _)⟩
  have f:=d.z;rw[AQ (by rw[t.z];rfl)]at f;subst f;go_wp2_with fail;go_ret;exact⟨by first|rfl|simp only[q4],v.z _ ((DW.refl _ _).drewN _)⟩
 have db:decide ((2048:Int)-(wl:Int)<(sl:Int))=false:=Aw I;go_quiet (fail);cases fn
 .cases cu
  .have f:=d.z;rw[AI (by rw[t.z,D.z];simp),AI G]at f;subst f;go_upto_region 13 with fail;obtain⟨W3,z⟩:=nm (W2.drewN nq);have w0:W3.cell? eb=some (.string (zu o.wrote)):=by rw[<-z];exact Q
   have w4:W3.cell? (sb,4)=some (.string (zu A)):=by rw[<-z];exact d4
   have wz:W3.frozen? ⟨eb,0,none⟩=false:=by rw[<-z];exact ez 0
   have De:=Ro o.wrote A;have hno:¬9223372036854775807<wl+sl:=I;rw[z];refine zo 10 (λw'=>w'.cell? eb=some (.string (zu o.wrote))/\w'.cell? (U sb 4)=some (.string (zu A))) (⟨w0,w4⟩) ?_;refine GI 0 ?_;iterate 10
    refine GV rfl ?_;try simp only[PS]
   refine EX rfl (λK hK=>?_);go_simp;refine hK.z _ _ ?_;clear hK K;try simp only[PS]
   refine zr ?_;go_wp2_with fail;go_ret;refine⟨by first|rfl|simp only[q0],F.z _ (W2.setCell eb (.string (zu (o.wrote++A)))) _ ((DW.refl (λg=>g=eb) W2).setCell (p:=eb) (.inl rfl) _) ?_ ?_⟩
   .rw[zc aj.z];rfl
   rw[<-z];exact⟨rfl,rfl,rfl,AF _,λ_ _ _=>rfl⟩
  have f:=d.z;rw[AQ (by rw[t.z,D.z];rfl)]at f;subst f;go_wp2_with fail;go_ret;exact⟨by first|rfl|simp only[q4],v.z _ ((DW.refl _ _).drewN _)⟩
 have f:=d.z;rw[AQ (by rw[t.z];rfl)]at f;subst f;go_wp2_with fail;go_ret;exact⟨by first|rfl|simp only[q4],v.z _ ((DW.refl _ _).drewN _)⟩
def Vw(h:Dh w tag nb n M W)(hI:n.Inv T)(hT:T<=Dg){s:Do}(hs:s.Ok)(hk:s.kind=2):Calls prog 21 #[(nb,0),.agg s.cells] W (E4 w tag nb W (n.finish (Db s.side 2) (Db s.a 8))):=by
 obtain⟨W1,sb,i,k,gx,cx,G,hsb,h1,m1,sA,t,hi,b,H,J,K,L,b1,⟨b2,b3⟩,b4⟩:=Ml h hs;have aa:=hs.s;rw[H];rw[J];obtain⟨g,cap,q,ac,a1,⟨a2,a3⟩,a4,⟨a5,a6⟩,a7⟩:=h1.o.endAt (i:=i) (k:=k) hi b;obtain⟨c0,c1,c2,c3,c4⟩:=sA;rw[hk]at c0;obtain⟨ss,d⟩:=nm s.s;rw[d]at c4 aa;have l:=zb G;have Y:=j4 (h1.cn i hi) (h1.env.to (j:=i+1) I) (k:Int);unfold NS.finish;obtain⟨R,hR⟩:=nm ((n.c i).finish k);rw[hR]at Y ⊢;obtain⟨u,c'⟩:=R;simp only at Y ⊢;obtain⟨o,N⟩:=nm (n.e i k);rw[N];have HO:=zb N;obtain⟨RR,z⟩:∃RR:Bool×NS,(if (o.fin||o.cut)=true then(u==4,n.setC i c')else(u==0,(n.setC i c').setE i k { o with fin:=true }))=RR:=⟨_,rfl⟩;rw[z];have A:=zb z;clear z;have HN:=zb h1;have O:=zb m1;have q4:((u:Int)==4)=(u==4):=IC u 4;have q0:((u:Int)==0)=(u==0):=IC u 0;unfold Do.cells at l ⊢;rw[hk,d]at l ⊢;clear d h hI h1 m1 G hs hk H J hR N hT;go_enter func21,ntmps21;go_upto_region 1 with fail;rw[l.z];go_upto_region 18 with(first|(go_at_call 24;refine K.mono ?_;rintro _ _ ⟨rfl,rfl⟩;clear K)|(go_at_call 24;refine L.mono ?_;rintro _ _ ⟨rfl,rfl⟩)|(go_at_call 38;refine Y.mono ?_;rintro _ W2 ⟨rfl,hL⟩));obtain⟨tag',V',h2,old,m2⟩:=HN.z.conn hi hL;have P:=h2.o.enAt hi b;have d4:=m2.cell (a:=U sb 4) (λx=>by
  have x:(tag sb).1=i+1:=x;rw[t]at x;simp at x) c4
 have r:(n.setC i c').e i k=o:=HO.z;rw[r]at P;obtain⟨P,e1,e2,e3,e4,e5,ez⟩:=P;obtain⟨S,Z⟩:=nm (n.setC i c');rw[Z]at h2 r;have B:∀{n':NS} {W':World},zB w tag' nb W2 n' W'->zB w tag nb W n' W':=λhh=>zB.from0 O.z (zB.trans old (m2.mono (λg hg=>.inl (λx=>by rw[x]at hg;simp at hg))) hh)
 have Q:AA (∀W',DW DY W2 W'->zB w tag nb W (n.setC i c') W'):=zb λW' m=>by rw[Z];exact B (zB.then0 h2.left m)
 have V:tag' (M.eb i k)≠(0,0):=λx=>by
  have a:=(h2.o.en i hi k b).tag;have a:tag' (M.eb i k)=_:=a;rw[x]at a;simp at a
 have f:=(h2.o.en i hi k b).obj;rw[r]at f;have v:AA (∀(e':EN) W3 W',DW (λg=>g=M.eb i k) W2 W3->W3.heap[M.eb i k]?=some (.cells (G6 e') 89 (0,0))->DW DY W3 W'->zB w tag nb W ((n.setC i c').setE i k e') W'):=zb λe' W3 W' m3 N m'=>by
  rw[Z];have N3:=h2.endS hi b e' m3 N;exact B (zB.then0 ⟨tag',_,N3,λ_ _=>rfl,m3.mono (λg hg=>.inl (by rw[show g=M.eb i k from hg];exact V))⟩ m')
 obtain⟨eb,C⟩:=nm (M.eb i k);dsimp only at P e1 e2 e3 e4 e5 ez f;rw[C]at P e1 e2 e3 e4 e5 ez f v;try rw[C]
 have ab:=zb f;clear old m2 h2 B V f HN O hL r Z C;clear L Y a1 a2 a3 a4 a5 a6 a7 b1 b2 b3 b4 c0 c1 c2 c3 c4 t l HO;obtain⟨fn,D⟩:=nm o.fin;obtain⟨cu,E⟩:=nm o.cut;rw[D]at e1;rw[E]at e2;have F:=zb D;have X:=zb E;clear D E;have ez1:=ez 1;cases fn
 .cases cu
  .have y:=A.z;rw[AI (by rw[F.z,X.z];simp)]at y;subst y;go_wp2_with fail;go_ret;refine⟨by first|rfl|simp only[q0],v.z _ (W2.setCell (U eb 1) (.bool true)) _ ((DW.refl (λg=>g=eb) W2).setCell (p:=U eb 1) (.inl rfl) _) ?_ (DW.refl _ _)⟩;rw[zc ab.z];rfl
  have y:=A.z;rw[AQ (by rw[F.z,X.z];rfl)]at y;subst y;go_wp2_with fail;go_ret;exact⟨by first|rfl|simp only[q4],Q.z _ (DW.refl _ _)⟩
 have y:=A.z;rw[AQ (by rw[F.z];rfl)]at y;subst y;go_wp2_with fail;go_ret;exact⟨by first|rfl|simp only[q4],Q.z _ (DW.refl _ _)⟩
def Dh.nowS(h:Dh w tag nb n M W)(x:Nat):Dh w tag nb { n with now:=x } M (W.setCell (nb,4) (.int .u64 x)):=by
 have m:DW (λg=>g=nb) W (W.setCell (U nb 4) (.int .u64 x)):=(DW.refl (λg=>g=nb) W).setCell (p:=U nb 4) (.inl rfl) _;exact h.own (h.o.head (n':={ n with now:=x }) ⟨rfl,rfl,rfl,rfl⟩ rfl rfl ⟨rfl,rfl⟩ m (by rw[zc h.o.obj.obj];rfl)) rfl rfl rfl m (λg hg=>.inl (by rw[show g=nb from hg,h.o.obj.tag])) (Dn.same h.env.ok m)
variable{V:CV}{b:Nat}{c:CS}
def TI(hI:c.Inv T)(hT:T<=Dg)(h:zi tag i b c V W)(E:EC i tag W):Calls prog 26 #[(b,0)] W (Ej tag i b W (.tuple #[]) c.tick) :=
 YE h E.ok E.pos (by have:=hI.now;unfold Dg at hT;unfold zF;omega) (nC hI.waits.2) (nC hI.fl) hI.ticked.loseOk
def VS(h:Dh w tag nb n M W)(hI:n.Inv T)(S:T<=Dg){s:Do}(X:s.Ok)(hk:s.kind=5)(Y:∀tag' M' W',Dh w tag' nb n.tick M' W'->Calls prog 41 #[(nb,0),.agg s.cells] W' (E4 w tag' nb W' (n.tick.carry s))):Calls prog 21 #[(nb,0),.agg s.cells] W (E4 w tag nb W (n.tick.carry s)):=by
 obtain⟨W1,Z,i,k,gx,cx,D,hsb,h1,m1,sA,v,hi,hk8,aa,ab,E,F,G,⟨H,J⟩,K⟩:=Ml h X;have ac:=X.s;obtain⟨c0,c1,c2,c3,c4⟩:=sA;rw[hk]at c0;obtain⟨ss,f⟩:=nm s.s;rw[f]at c4 ac;have r:=zb D;have L:=hI.c 0 I;have N:=hI.c 1 I;have ad:=hI.now;obtain⟨nw,d⟩:=nm n.now;have p4:W1.cell? (nb,4)=some (.int .u64 nw):=by rw[<-d];exact h1.o.obj.cell (j:=4) rfl
 have f4:=h1.o.obj.fz 4;rw[d]at ad;have hTb:T<=268435455:=S;have HN:=zb h1;have ae:=zb m1;have HT:=zb S;obtain⟨RR,O⟩:=nm (n.tick.carry s);rw[O]at Y ⊢;have A:=zb v;have t:=zb Y;have af:=zb d;have ah:=zb L;have ai:=zb N;unfold Do.cells at r t ⊢;rw[hk,f]at r t ⊢;clear f h hI h1 m1 D X hk aa ab S O v Y d L N;go_enter func21,ntmps21;go_upto_region 1 with fail;rw[r.z];go_upto_region 34 with(first|(go_at_call 24;refine E.mono ?_;rintro _ _ ⟨rfl,rfl⟩;clear E)|(go_at_call 24;refine F.mono ?_;rintro _ _ ⟨rfl,rfl⟩));obtain⟨W2,u⟩:=nm (W1.setCell (U nb 4) (.int .u64 ((nw:Int)+1)));have P:Dh w tag nb { n with now:=nw+1 } M W2:=by
  rw[<-u];exact HN.z.nowS (nw+1)
 have m2:DW (λg=>g=nb) W1 W2:=by
  rw[<-u];exact(DW.refl (λg=>g=nb) W1).setCell (p:=U nb 4) (.inl rfl) _
 have l:=HN.z.o.obj.tag;have B:IK W2 Z ⟨5,s.side,s.a,s.b,ss⟩:=IK.mod ⟨c0,c1,c2,c3,c4⟩ m2 (λx=>by
  have x:=x;rw[<-x,A.z]at l;simp at l)
 try rw[u]
 clear u G H J K;obtain⟨gx,cx,G,⟨H,J⟩,K⟩:=P.o.connIs (i:=0) I;have Q:=TI ah.z HT.z (P.cn 0 I) (P.env.to (j:=0+1) I);go_upto_region 35 with(go_at_call 26;refine Q.mono ?_;rintro _ W3 ⟨rfl,C⟩);obtain⟨y,V3,R,m,m3⟩:=P.conn I C;clear G H J K Q C;obtain⟨gx3,cx3,G,⟨H,J⟩,K⟩:=R.o.connIs (i:=1) I;have an:({ n with now:=nw+1 }:NS).c 1=n.c 1:=rfl;have Q:Calls prog 26 #[(M.b 1,0)] W3 (Ej y (1+1) (M.b 1) W3 (.tuple #[]) (n.c 1).tick):=TI ai.z HT.z (R.cn 1 I) (R.env.to (j:=1+1) I);go_upto_region 41 with(go_at_call 26;refine Q.mono ?_;rintro _ W4 ⟨rfl,C⟩);obtain⟨q,V4,N4,z,m4⟩:=R.conn I C;have e:(({ n with now:=nw+1 }:NS).setC 0 (n.c 0).tick).setC 1 (n.c 1).tick=n.tick:=by
  unfold NS.tick;rw[af.z];rfl
 have N5:Dh w q nb ((({ n with now:=nw+1 }:NS).setC 0 (n.c 0).tick).setC 1 (n.c 1).tick) { ({ M with V:=V3 }:NV)with V:=V4 } W4:=N4;rw[e]at N5;have aj:=zm B.c0;have ak:y Z=(0,0):=by rw[m Z aj,A.z]
 have al:=(B.mod m3 (λx=>by
  have x:=x;rw[A.z]at x;simp at x)).mod m4 (λx=>by
  have x:=x;rw[ak]at x;simp at x)
 have am:AA (∀{n':NS} {W':World},zB w q nb W4 n' W'->zB w tag nb W n' W'):=zb λhh=>by
  refine zB.from0 ae.z (zB.trans (λ_ _=>rfl) (m2.mono (λg hg=>.inl (by rw[show g=nb from hg,l];simp))) ?_);refine zB.trans m (m3.mono (λg hg=>.inl (λx=>by rw[x]at hg;simp at hg))) ?_;exact zB.trans z (m4.mono (λg hg=>.inl (λx=>by rw[x]at hg;simp at hg))) hh
 have kc:=t.z q _ W4 N5;obtain⟨y0,y1,y2,y3,y4⟩:=al;clear P R N4 N5 e m2 m3 m4 m z G H J K Q C B t HN c0 c1 c2 c3 c4 p4 f4 F r;go_wp2_with (go_at_call 41;refine kc.mono ?_;rintro _ W5 ⟨rfl,C⟩);go_ret;exact⟨rfl,am.z C⟩
section
variable {w:World} {tag tag2:nH} {nb:Nat} {n:NS} {M:NV} {W:World}
def Dh.retag(h:Dh w tag nb n M W)(hk:∀g,tag2 g=tag g\/((tag g=(3,6)\/tag g=(0,0))/\M.bg.ownBlock≠some g/\(tag2 g=(0,0)\/tag2 g=(3,6))/\g<W.heap.size/\w.heap.size<=g/\2<=g)):Dh w tag2 nb n M W:=by
 have k3:∀{r:Nat} g,r≠6->tag g=(3,r)->tag2 g=(3,r):=λg a hg=>by
  rcases hk g with x|⟨x|x,_⟩
  .rw[x,hg]
  .rw[hg]at x;simp at x;exact absurd x a
  rw[hg]at x;simp at x
 have row:∀{r e sz k:Nat} {v:Value} {xs:nJ},r≠6->E8 tag r e sz v k xs W->E8 tag2 r e sz v k xs W:=λa p=>⟨p.own,λg hg=>k3 g a (p.tag g hg)⟩
 have blk:∀{r b t:Nat} {cs:Array Value},r≠6->E0 tag r b cs t W->E0 tag2 r b cs t W:=λa p=>⟨p.obj,k3 _ a p.tag⟩
 refine
  {o :=
    {obj:=blk I h.o.obj
     x:=row I h.o.x
     ev:=row I h.o.ev
     gv:=row I h.o.gv
     nx:=row I h.o.nx
     ct:=row I h.o.ct
     bg:=⟨h.o.bg.own,λg hg=>?_⟩
     er:=λi hi=>row I (h.o.er i hi)
     en:=λi hi k hk=>blk I (h.o.en i hi k hk)
     gr:=λi hi=>row I (h.o.gr i hi)
     gl:=h.o.gl
     gn:=λi hi j b s hb hs=>blk I (h.o.gn i hi j b s hb hs) }
   cn:=λi hi=>(h.cn i hi).mod (DW.refl DY W) (λ_ x=>x.elim) (λg hg=>?_)
   env:=⟨λg hg=>?_,h.env.pos,h.env.err,h.env.tab,?_,?_⟩
   nd:=λi hi g r a=>?_
   mod:=h.mod
   t1:=λg hg=>?_ }
 .rcases hk g with x|⟨_,x,_⟩
  .rw[x];exact h.o.bg.tag g hg
  exact absurd hg x
 .rcases hk g with x|⟨x|x,_⟩
  .exact x
  .rw[x]at hg;simp at hg;omega
  rw[x]at hg;simp at hg
 .rcases hk g with x|⟨_,_,_,x,_⟩
  .rw[x];exact h.env.ok g hg
  omega
 .rcases hk 0 with x|⟨_,_,_,_,_,x⟩
  .rw[x];exact h.env.g0
  omega
 .rcases hk 1 with x|⟨_,_,_,_,_,x⟩
  .rw[x];exact h.env.g1
  omega
 .rcases hk g with x|⟨_,_,x|x,_⟩
  .rw[x];exact h.nd i hi g r a
  .rw[x];intro y;have:=A8 Prod.fst y;simp at this
  rw[x];intro y;have:=A8 Prod.fst y;simp only at this;omega
 rcases hk g with x|⟨_,_,_,_,x,_⟩
 .rw[x]at hg;exact h.t1 g hg
 exact x
def Dh.aside(h:Dh w tag nb n M W):∃tag2 M2,Dh w tag2 nb { n with bag:=[] } M2 (W.setCell (nb,8) (.slice none 0 0))/\(W.setCell (nb,8) (.slice none 0 0)).ownsRow 0 62 2 M.bg n.bag.length (zM n.bag)/\(∀q,M.bg.ownBlock=some q->tag2 q=(0,0)) /\
  ∀n' W3,zB w tag2 nb (W.setCell (nb,8) (.slice none 0 0)) n' W3->zB w tag nb W n' W3:=by
 obtain⟨W',f⟩:=nm (W.setCell (U nb 8) (.slice none 0 0));have i:=h.o.obj.tag;have a:∀q,M.bg.ownBlock=some q->tag q=(3,6)/\q<W.heap.size:=λq a=>⟨h.o.bg.tag q a,by
  rcases h.o.bg.own.2 with⟨e,_⟩|⟨q',c',cur,e,_,x,_⟩
  .rw[e]at a;cases a
  rw[e]at a;cases a;exact(AH.1 x).1⟩
 have m:DW (λg=>g=nb) W W':=by rw[<-f];exact(DW.refl (λg=>g=nb) W).setCell (p:=U nb 8) (.inl rfl) _
 have l:=m.owns h.o.bg.own (λg hg x=>by
  have:=(a g hg).1;rw[show g=nb from x,i]at this;simp at this)
 have o' :=
  h.o.bagS (.slice none 0 0) [] m (λg hg=>.inl (by rw[show g=nb from hg,i])) (λ_ _=>rfl) (by rw[<-f,zc h.o.obj.obj];rfl) (World.ownsRow_nil W' 0 _ 2) (λg hg=>by cases hg)
 have h':=h.own o' rfl rfl rfl m (λg hg=>.inl (by rw[show g=nb from hg,i])) (Dn.same h.env.ok m);have sz:W'.heap.size=W.heap.size:=by rw[<-f];simp[World.setCell]
 have two:∀q,M.bg.ownBlock=some q->2<=q:=λq b=>by
  have t:=(a q b).1;have g0:=h.env.g0;have g1:=h.env.g1;rcases(I:q=0\/q=1\/2<=q)with rfl|rfl|x
  .rw[t]at g0;simp at g0
  .rw[t]at g1;simp at g1
  exact x
 obtain⟨tag2,c⟩:=nm ((λg=>if M.bg.ownBlock=some g then(0,0)else tag g));have n2:Dh w tag2 nb { n with bag:=[] } { M with bg:=.slice none 0 0 } W':=h'.retag (λg=>by
  rw[<-c];by_cases x:M.bg.ownBlock=some g
  .exact .inr ⟨.inl (a g x).1,by simp[Value.ownBlock],.inl (AQ x),by rw[sz];exact(a g x).2,h.t1 g (by rw[(a g x).1];simp),two g x⟩
  exact .inl (AI x))
 rw[f];refine⟨tag2,_,n2,l,λq b=>by rw[<-c];exact AQ b,λn' W3 hn=>?_⟩;obtain⟨j,u,v,k,z⟩:=hn;obtain⟨d,r⟩:=nm ((λg=>if M.bg.ownBlock=some g then(3,6)else j g));have s:∀q,M.bg.ownBlock=some q->j q=(0,0):=λq b=>by
  rw[k q (by rw[sz];exact(a q b).2),<-c];exact AQ b
 have n4:Dh w d nb n' u W3:=v.retag (λg=>by
  rw[<-r];by_cases x:M.bg.ownBlock=some g
  .refine .inr ⟨.inr (s g x),λy=>?_,.inr (AQ x),A7 (by rw[sz];exact(a g x).2) z.size,h.t1 g (by rw[(a g x).1];simp),two g x⟩;have:=v.o.bg.tag g y;rw[s g x]at this;simp at this
  exact .inl (AI x))
 have old:∀g,g<W.heap.size->d g=tag g:=λg hg=>by
  rw[<-r];by_cases x:M.bg.ownBlock=some g
  .simp only[AQ x];exact(a g x).1.symm
  simp only[AI x];rw[k g (by rw[sz];exact hg),<-c];exact AI x
 refine⟨d,u,n4,old,(m.mono (λg hg=>.inl (by rw[show g=nb from hg,i];simp))).then z (λg hg=>.inl (λy=>hg ?_))⟩;rw[<-c];simp only;split
 .rfl
 exact y
end
theorem U0:∀(l:List (Nat×nG)) {n:NS} {ok:Bool} {T:Nat},n.Inv T->(∀p∈l,p.1<2/\0<p.2.length/\p.2.length<=400)->T+400*l.length<=Dg->(NS.recvs l n ok).2.Inv (T+400*l.length)
 | [],_,_,_,h,_,_=>h
 | f::l,n,ok,T,h,hl,hT=>by
  simp only[AR]at hT ⊢;have h1:=(h.recv f.1 f.2 (nC ((hl f AO).2.2))).mono (nC ((hl f AO).2.2):T+f.2.length<=T+400);have h2:=U0 l (ok:=ok&&(n.recv f.1 f.2).2.1&&(n.recv f.1 f.2).1==0) h1 (λp hp=>hl p (AW _ hp)) I;exact h2.mono I
theorem UQ:∀(l:List (Nat×nG)) {n:NS} {ok:Bool},n.Up->(NS.recvs l n ok).1=true->(NS.recvs l n ok).2.Up/\ok=true
 | [],_,_,u,h=>⟨u,h⟩
 | f::l,n,ok,u,h=>by
  have k:(NS.recvs l (n.recv f.1 f.2).2.2 (ok&&(n.recv f.1 f.2).2.1&&(n.recv f.1 f.2).1==0)).1=true:=h;by_cases hc:(n.recv f.1 f.2).1=0
  .obtain⟨a,b⟩:=UQ l (u.recv f.1 f.2 (.inl hc)) k;simp only[AZ]at b;exact⟨a,b.1.1⟩
  exfalso;have hf:∀(l:List (Nat×nG)) (n:NS),(NS.recvs l n false).1=false:=by
   intro l
   induction l with
   | nil=>intro n;rfl
   | cons f l ih=>intro n;exact ih _
  have e:(ok&&(n.recv f.1 f.2).2.1&&(n.recv f.1 f.2).1==0)=false:=by
   rw[AS.2 hc,Bool.and_false]
  rw[e,hf]at k;cases k
theorem Uz:∀(l:List (Nat×nG)) (n:NS) (ok:Bool),(NS.recvs l n ok).2.bag=n.bag
 | [],_,_=>rfl
 | f::l,n,ok=>(Uz l (n.recv f.1 f.2).2.2 _).trans rfl
def Yk(n:NS)(i k most:Nat):(n.read i k most).2.bag=n.bag:=by
 unfold NS.read;split<;>rfl
theorem Uy:∀(l:List (Nat×Nat)) (n:NS) (ok:Bool),(NS.reads l n ok).2.bag=n.bag
 | [],_,_=>rfl
 | p::l,n,ok=>(Uy l (n.read p.1 p.2 4096).2 _).trans (Yk _ _ _ _)
theorem Ux:∀(l:List (Nat×Nat)) {n:NS} {ok:Bool} {T:Nat},n.Inv T->(NS.reads l n ok).2.Inv T
 | [],_,_,_,h=>h
 | p::l,_,_,_,h=>Ux l (h.read p.1 p.2 4096)
theorem UP:∀(l:List (Nat×Nat)) {n:NS} {ok:Bool},n.Up->(NS.reads l n ok).2.Up
 | [],_,_,u=>u
 | p::l,_,_,u=>UP l (u.read p.1 p.2 4096)
theorem UO:∀(l:List (Nat×Nat)) {n:NS} {ok:Bool},(NS.reads l n ok).1=true->ok=true
 | [],_,_,h=>h
 | p::l,n,ok,h=>by
  have:=UO l (n:=(n.read p.1 p.2 4096).2) h;simp only[AZ]at this;exact this.1
def Q2(hT:T<=Dg)(h:n.Inv T)(hi:i<2):(n.flush i).2.bag.length<=n.bag.length+21:=by
 have hp:=(h.c i hi).pkPost hT;have ha:=(h.c i hi).acks.2.2;have hl:(n.c i).packets.1.length<=21:=nC hp.z.1;unfold NS.flush;obtain⟨c',m,h1,h2,h3,h4⟩:=Pc i (n.c i).packets.1 (n.setC i (n.c i).packets.2);rw[h1];show(n.bag++m).length<=_;rw[AG];omega
def RW(hb:n.bag=[]):n.step Kg=(true,n.tick):=by
 unfold NS.step Kg;simp only[(mu:¬((5:Int)=1)),(mu:¬((5:Int)=2)),(mu:¬((5:Int)=3)),(mu:¬((5:Int)=4)),Be,BC];unfold NS.carry;have e:n.tick.bag=[]:=hb;rw[AQ e]
def fairC:Nat:=16803
def VR(hT:T+fairC<=Dg)(h:n.Inv T)(u:n.Up)(hb:n.bag=[]):n.fair1.2.Inv (T+fairC)/\n.fair1.2.bag=[]/\(n.fair1.1=true->n.fair1.2.Up):=by
 unfold fairC at hT ⊢;unfold NS.fair1;rw[RW hb];simp only;have h1:=h.tick;have u1:=u.tick;have b1:n.tick.bag=[]:=hb;unfold NS.fairA NS.fairB NS.fairC;have h2:=h1.flush (i:=0) I I;have u2:=NS.Up.flush (i:=0) I h1 u1 I;have a:=Q2 (i:=0) I h1 I;rw[b1]at a;have h3:=h2.flush (i:=1) I I;have u3:=NS.Up.flush (i:=1) I h2 u2 I;have l3:=Q2 (i:=1) I h2 I;generalize ((n.tick.flush 0).2.flush 1).2=N at *;simp only[Ad]at a;have h4:({ N with bag:=[] }:NS).Inv (T+1+1+1):=⟨h3.mtu,h3.win,h3.c,h3.e,h3.now,h3.next,h3.count,h3.gl,h3.g,AM _,λp hp=>(by cases hp)⟩;refine⟨?_,?_,λok=>?_⟩
 .have x:=U0 N.bag (ok:=true&&(n.tick.flush 0).1&&((n.tick.flush 0).2.flush 1).1) h4 h3.bag I;exact(Ux Gj x).mono I
 .rw[Uy,Uz]
 exact UP _ (UQ _ (n:={ N with bag:=[] }) u3 (UO _ ok)).1
end
section
open Go.Proofs.Tryz
open Go.RowKit
end
section
open Go.RowKit Go.Proofs.Tryz
def IE:Nat->Nat
 | 0=>69
 | 1=>87
 | 2=>49
 | _=>43
def J8:Nat->Nat
 | 4=>9
 | r=>r
def Jb(mt wn tt:Nat)(R:Nat->Value):Array Value:=#[R 0,R 1,R 2,R 3,.int .u64 0,.int .i64 mt,.int .i64 wn,.int .i64 tt,.slice none 0 0,R 4]
structure BN(w:World)(tag:nH)(nb mt wn tt:Nat)(R:Nat->Value)(L:Nat->List Value)(C:Nat)(b:Nat->Nat)(V:Nat->CV)(D:Nat)(er:Nat->Value)(eb:Nat->Nat)(W:World):Prop where
 obj:E0 tag 0 nb (Jb mt wn tt R) 48 W
 row:∀r,r<5->E8 tag (r+1) (IE r) 1 (R r) (L r).length (L r) W
 en:∀d,d<D->E0 tag (20+d) (eb d) (G6 EN.zero) 89 W
 er:∀j,j<2->8*j<D->E8 tag (7+j) 86 1 (er j) (min 8 (D-8*j)) ((List.range (min 8 (D-8*j))).map λk=>Fj (eb (8*j+k))) W
 cn:∀j,j<C->zi tag (j+1) (b j) (CS.new mt wn tt) (V j) W
 c2:C<=2
 d16:D<=16
 env:EC 1 tag W
 nd:∀j,j<2->GJ (j+1) tag
 mod:DW DY w W
 t1:∀g,tag g≠(0,0)->w.heap.size<=g
section
variable {S:Nat->Prop} {w:World} {tag tag':nH} {nb mt wn tt:Nat} {R:Nat->Value} {L:Nat->List Value} {C:Nat} {b:Nat->Nat} {V:Nat->CV} {D:Nat} {er:Nat->Value} {eb:Nat->Nat} {W W':World}
def BN.mod0(h:BN w tag nb mt wn tt R L C b V D er eb W)(m:DW DY W W'):BN w tag nb mt wn tt R L C b V D er eb W' :=
 {obj:=h.obj.mod m (λ_ x=>x.elim) (λ_ _=>rfl)
  row:=λr hr=>(h.row r hr).mod m (λ_ x=>x.elim) (λ_ _=>rfl)
  en:=λd hd=>(h.en d hd).mod m (λ_ x=>x.elim) (λ_ _=>rfl)
  er:=λj a hd=>(h.er j a hd).mod m (λ_ x=>x.elim) (λ_ _=>rfl)
  cn:=λj a=>(h.cn j a).mod0 m
  c2:=h.c2,d16:=h.d16,env:=h.env.mod0 m,nd:=h.nd,mod:=h.mod.trans m,t1:=h.t1 }
variable{q:Nat}
def BN.conn(h:BN w tag nb mt wn tt R L C b V D er eb W)(hC:C<2)(hL:Ds tag (C+1) q W (CS.new mt wn tt) W'):∃tag' V',BN w tag' nb mt wn tt R L (C+1) (zf b C q) V' D er eb W':=by
 obtain⟨tag',V',a,e,m,d⟩:=hL.nodr I (h.nd C hC);have old:∀g,tag g≠(0,0)->tag' g=tag g:=λg hg=>by
  by_cases q:g<W.heap.size
  .exact e.old g q
  exact absurd (h.env.ok g I) hg
 have c:∀{r:Nat} g,(tag g).1=C+1->tag g≠(3,r):=λg hg x=>by rw[x]at hg;simp only at hg;omega
 refine⟨tag',zf V C V',
  {obj:=h.obj.mod m c old
   row:=λr hr=>(h.row r hr).mod m c old
   en:=λd hd=>(h.en d hd).mod m c old
   er:=λj f hd=>(h.er j f hd).mod m c old
   cn:=λj f=>?_
   c2:=I
   d16:=h.d16
   env:=((h.env.to (j:=C+1) I).left e m).to I
   nd:=λj f=>?_
   mod:=h.mod.then m (λg hg=>.inr (h.t1 g (λx=>by rw[x]at hg;simp at hg)))
   t1:=λg hg=>?_ }⟩
 .by_cases x:j=C
  .subst x;rw[ze,ze];exact a
  rw[zd _ _ x,zd _ _ x];exact(h.cn j I).mod m (λg hg y=>I) (λg hg=>old g (λy=>by rw[y]at hg;simp at hg))
 .by_cases x:j=C
  .subst x;exact d
  exact(h.nd j f).other e I I
 by_cases x:g<W.heap.size
 .exact h.t1 g (by rw[<-e.old g x];exact hg)
 have:=h.mod.size;omega
def BN.build{R':Nat->Value}{i:Nat->List Value}{c:Nat}{f:Nat->Value}{a:Nat->Nat}(h:BN w tag nb mt wn tt R L C b V D er eb W)(m:DW S W W')(hS:∀g,S g->(tag g).1=3\/W.heap.size<=g)(e:Dn 3 tag tag' W W')
  (obj:E0 tag' 0 nb (Jb mt wn tt R') 48 W')
  (row:∀r,r<5->E8 tag' (r+1) (IE r) 1 (R' r) (i r).length (i r) W')
  (en:∀d,d<c->E0 tag' (20+d) (a d) (G6 EN.zero) 89 W')
  (l:∀j,j<2->8*j<c->E8 tag' (7+j) 86 1 (f j) (min 8 (c-8*j)) ((List.range (min 8 (c-8*j))).map λk=>Fj (a (8*j+k))) W') (hD:c<=16) :
  BN w tag' nb mt wn tt R' i C b V c f a W':=by
 have old:∀g,tag g≠(0,0)->tag' g=tag g:=λg hg=>by
  by_cases q:g<W.heap.size
  .exact e.old g q
  exact absurd (h.env.ok g I) hg
 have c2:=h.c2;have n:=m.mono hS;exact
  {obj:=obj,row:=row,en:=en,er:=l,c2:=h.c2,d16:=hD
   cn:=λj o=>(h.cn j o).mod n (λg hg y=>I) (λg hg=>old g (λy=>by rw[y]at hg;simp at hg))
   env:=((h.env.to (j:=3) I).left e n).to I
   nd:=λj o=>(h.nd j o).other e I I
   mod:=h.mod.then n (λg hg=>.inr (h.t1 g (λx=>by rw[x]at hg;simp at hg)))
   t1:=λg hg=>by
    by_cases x:g<W.heap.size
    .exact h.t1 g (by rw[<-e.old g x];exact hg)
    have:=h.mod.size;omega }
def Li(mt wn tt:Nat)(R:Nat->Value){r:Nat}(hr:r<5)(v:Value):(Jb mt wn tt R).setIfInBounds (J8 r) v=Jb mt wn tt (zf R r v):=by
 rcases(I:r=0\/r=1\/r=2\/r=3\/r=4)with rfl|rfl|rfl|rfl|rfl<;>rfl
def Sf(mt wn tt:Nat)(R:Nat->Value){r:Nat}(hr:r<5):(Jb mt wn tt R)[J8 r]?=some (R r):=by
 rcases(I:r=0\/r=1\/r=2\/r=3\/r=4)with rfl|rfl|rfl|rfl|rfl<;>rfl
variable{N e sz:Nat}{v:Value}{xs:nJ}
def Qg(h:W.ownsRow 0 e sz v N xs)(a:v.ownBlock=some q):q<W.heap.size:=by
 rcases h.2 with⟨e,_⟩|⟨q',c',cur,e,_,x,_⟩
 .rw[e]at a;cases a
 rw[e]at a;cases a;exact(AH.1 x).1
def BN.push(h:BN w tag nb mt wn tt R L C b V D er eb W){r:Nat}(v:r<5)(u:Value)(h1:u.oneCell'=true)(t by_:Nat){z:Value}(A:(prog.info? (IE r)).map (λi=>(i.zero,i.size,i.bytes))=some (some z,1,by_))(hz:z.cells.size=1)(ht:prog.underlying t=some (.slice (IE r)))(N:by_<=24)(hl:(L r).length<=1000):∃va ca a c W2,R r=.slice va (L r).length ca/\W.cell? (nb,J8 r)=some (.slice va (L r).length ca)/\(∀ty,(Builtin.append_ #[t,t] ty #[.slice va (L r).length ca,.slice W.heap.size 1 1]).run prog (W.alloc (.cells #[u] (IE r)))=.ok (.slice a ((L r).length+1) c) W2)/\W2.cell? (nb,J8 r)=some (.slice va (L r).length ca)/\W2.frozen? ⟨nb,J8 r,none⟩=false /\
   ∃tag',∀W',DW DY (W2.setCell (nb,J8 r) (.slice a ((L r).length+1) c)) W'->BN w tag' nb mt wn tt (zf R r (.slice a ((L r).length+1) c)) (zf L r (L r++[u])) C b V D er eb W':=by
 obtain⟨ii,O,Q,S,T⟩:=info_parts A;obtain⟨va,ca,f1,f2,f3,f4⟩:=zk (h.row r v).own;obtain⟨W1,l⟩:=nm (W.alloc (.cells #[u] (IE r)));have m1:=AB l;have s1:=AC l;have hc:∀(j:Nat) x,[u][j]?=some x->W1.cell? ((⟨W.heap.size,0,none⟩:Addr).add j)=some x:=λj x X=>by
  rw[zZ,<-l];refine za (heap_alloc_new W _) ?_;rw[A6,<-Array.getElem?_toList];exact X
 obtain⟨o,W2,r2,Y,g2,n2⟩:=zV (P:=prog) W1 t (IE r) ii _ 1 by_ ht O Q S T hz mu (R r) (L r).length (L r) (m1.owns (h.row r v).own (λ_ _ x=>x))
  ⟨W.heap.size,0,none⟩ 1 1 [u] rfl hc (by intro x hx;simp at hx;subst hx;exact h1) mz (by
   have:((L r).length+1)*by_<=1001*24:=Nat.mul_le_mul I N;omega)
 have E:=(h.row r v).tag;have m2:=(DW.refl _ W1).grown g2 (λq s=>.inl s);have Z:=(m1.mono (λ_ x=>x.elim)).then m2 (λq s=>.inl (E q s));have F:∀q,o.ownBlock=some q->tag q=(3,r+1)\/W.heap.size<=q:=λq s=>by
  rcases n2 q s with x|x
  .exact .inl (E q x)
  exact .inr I
 have aa:∀q,o.ownBlock=some q->q<W2.heap.size:=λq s=>Qg Y s
 have f:=h.obj.tag;have G:¬tag nb=(3,r+1):=λx=>by rw[f]at x;simp at x
 have ab:o.ownBlock≠some nb:=λx=>by
  rcases F nb x with y|y
  .exact G y
  rw[h.env.ok nb y]at f;simp at f
 obtain⟨tag',m⟩:=nm ((λg=>if W.heap.size<=g/\o.ownBlock=some g/\g<W2.heap.size then(3,r+1)else tag g));have old:∀g,g<W.heap.size->tag' g=tag g:=λg hg=>by
  rw[<-m];exact AI (λx=>I)
 have e:∀g,tag g≠(0,0)->tag' g=tag g:=λg hg=>by
  by_cases q:g<W.heap.size
  .exact old g q
  exact absurd (h.env.ok g I) hg
 obtain⟨K,n⟩:=nm (W2.setCell (nb,J8 r) o);have m3:DW (λg=>g=nb) W2 K:=by rw[<-n];exact(DW.refl (λg=>g=nb) W2).setCell (p:=(nb,J8 r)) (.inl rfl) o
 have M:DW (λg=>tag g=(3,r+1)\/tag g=(3,0)) W K:=(Z.mono (λg hg=>.inl (.inl hg))).trans (m3.mono (λg hg=>.inl (.inr (by rw[show g=nb from hg,f]))));have H:K.heap.size=W2.heap.size:=by rw[<-n];simp[World.setCell]
 have k:=Z.obj G h.obj.obj;have q4:∀{x:Nat},x≠r+1->x≠0->∀g,(tag g=(3,r+1)\/tag g=(3,0))->tag g≠(3,x):=λa b g hg y=>by
  rcases hg with z|z<;>rw[y]at z<;>simp at z
  .exact a z
  exact b z
 have B:BN w tag' nb mt wn tt (zf R r o) (zf L r (L r++[u])) C b V D er eb K:=by
  refine h.build M (λg hg=>.inl (by rcases hg with z|z<;>rw[z])) ⟨old,λg hg=>?_,λg hg=>?_⟩ ⟨?_,by rw[e nb (by rw[f];simp),f]⟩ (λx hx=>?_) (λd hd=>(h.en d hd).mod M (q4 I I) e) (λj X hd=>(h.er j X hd).mod M (q4 I I) e) h.d16
  .rw[<-m];simp only;split
   .exact .inl rfl
   exact .inr (h.env.ok g hg)
  .rw[H]at hg;rw[<-m];simp only;rw[AI (λx=>I)];have:=Z.size;exact h.env.ok g I
  .rw[<-n,zc k,Li _ _ _ _ v]
  by_cases y:x=r
  .subst y;rw[ze,ze,AG,Af];refine⟨m3.owns Y (λg hg z=>ab (by rw[hg,show g=nb from z])),λg hg=>?_⟩;rcases F g hg with z|z
   .rw[e g (by rw[z];simp),z]
   rw[<-m];exact AQ ⟨z,hg,aa g hg⟩
  rw[zd _ _ y,zd _ _ y];exact(h.row x hx).mod M (q4 I I) e
 obtain⟨a2,c2,J,-⟩:=zk Y;subst J;rw[f1]at r2;refine⟨va,ca,a2,c2,W2,f1,by rw[<-f1];exact h.obj.cell (Sf _ _ _ _ v),by rw[l];exact r2,?_,zg k,tag',λW' m'=>?_⟩
 .rw[<-f1];exact za k (Sf _ _ _ _ v)
 rw[n]at m';exact B.mod0 m'
end
def NS.fairAt(i:Nat)(n:NS)(ok:Bool):Bool×NS:=if i=0 then n.fairA ok else if i=1 then n.fairB ok else n.fairC ok
variable{i:Nat}
def ko(hi:i<2)(n:NS)(ok:Bool):NS.fairAt i n ok=NS.fairAt (i+1) (n.flush i).2 (ok&&(n.flush i).1):=by
 rcases(I:i=0\/i=1)with rfl|rfl<;>rfl
def fJ:∀i,i<2->∀k,k<8->Gj.drop (8*i+k)=(i,k)::Gj.drop (8*i+k+1):=mu
variable{k:Nat}
def iH(hi:i<2)(hk:k<8)(n:NS)(ok:Bool):NS.reads (Gj.drop (8*i+k)) n ok=NS.reads (Gj.drop (8*i+k+1)) (n.read i k 4096).2 (ok&&(n.read i k 4096).1):=by
 rw[fJ i hi k hk];rfl
def iG{l:List (Nat×nG)}{f:Nat×nG}(hf:l[k]?=some f)(n:NS)(ok:Bool):NS.recvs (l.drop k) n ok=NS.recvs (l.drop (k+1)) (n.recv f.1 f.2).2.2 (ok&&(n.recv f.1 f.2).2.1&&(n.recv f.1 f.2).1==0):=by
 rw[Mc hf];rfl
variable{N cap g j:Nat}{w:World}
def TH{l:List (Nat×nG)}(h:w.ownsRow 0 62 2 (.slice g N cap) N (zM l))(hl:l.length=N){p:Nat×nG}(c:l[j]?=some p):w.cell? (g,j*2)=some (.int .i64 p.1)/\w.cell? (g,j*2+1)=some (.string (zu p.2)):=by
 obtain⟨a,b⟩:=Vy l j p c;have hj:=(AN.1 c).1;rcases h.2 with⟨e,_⟩|⟨g',d,cur,e,_,h1,h2,h3,h4,h5⟩
 .cases e
 cases e;rw[<-h5,BH I,Bl]at a b;exact⟨za h1 a,za h1 b⟩
variable{M:NV}{T nb:Nat}{W:World}{n:NS}{tag:nH}
def QY(h:Dh w tag nb n M W)(hI:n.Inv T)(hi:i<2)(s:nG)(hs:s.length<=400)(hT:T+s.length<=Dg):Calls prog 28 #[(M.b i,0),.string (zu s)] W (Ej tag (i+1) (M.b i) W (.tuple #[.int .i64 (((n.c i).receive s).1.1:Int),.int .i64 ((n.c i).receive s).1.2]) ((n.c i).receive s).2) :=
 lE (h.cn i hi) (h.env.to (j:=i+1) I) s I ((hI.c i hi).recvOk hT) (λm fs hd=>by
  have:=(Ki I hd).2.1;omega)
variable{t:Nat}
def Q1(h:Dh w tag nb n M W)(hI:n.Inv T)(hU:n.Up)(hT:T+t*fairC<=Dg):Calls prog 17 #[(nb,0),[t]] W (E4 w tag nb W (n.fair t)):=by
 have htb:t<=268435455:=by unfold fairC Dg at hT;omega
 have p8:W.cell? (nb,8)=some M.bg:=h.o.obj.cell (j:=8) rfl;have f8:=h.o.obj.fz 8;have ST:=zb (h.bagS (v:=.slice none 0 0) (l:=[]) (DW.refl DY W) (λg x=>x.elim) (World.ownsRow_nil W 0 _ 2) (λg hg=>by cases hg));have aH:({ n with bag:=[] }:NS).Inv T:=⟨hI.mtu,hI.win,hI.c,hI.e,hI.now,hI.next,hI.count,hI.gl,hI.g,AM _,λp hp=>(by cases hp)⟩;have aI:({ n with bag:=[] }:NS).Up:=hU;unfold NS.fair;obtain⟨N0,aJ⟩:∃x:NS,({ n with bag:=[] }:NS)=x:=⟨_,rfl⟩;have bP:N0.bag=[]:=by rw[<-aJ]
 rw[aJ]at ST aH aI ⊢;obtain⟨R,hR⟩:=nm (NS.fairs t N0);rw[hR];have HR:=zb hR;have HI:=zb aH;have HU:=zb aI;have HT:=zb hT;obtain⟨ba,bc,D,-⟩:=zk h.o.bg.own;rw[D]at p8;clear h hI hU aH aI hR aJ hT D;go_enter func17,ntmps17;go_wp2_with fail;obtain⟨W1,aK⟩:=nm (W.setCell (U nb 8) (.slice none 0 0));rw[aK]at ST;try rw[aK]
 clear aK p8 f8
 go_loopw [5] (λtv wr=>∃(B:Nat) (N:NS),B<=t/\tv=.int .i64 B/\AA (zB w tag nb W N wr/\N.Inv (T+B*fairC)/\N.Up/\N.bag=[]/\NS.fairs (t-B) N=R)) (λtv _=>t-(intOf tv).toNat)
 case atStart=>exact⟨0,N0,AM _,rfl,zb ⟨ST.z,by rw[Cd];exact HI.z,HU.z,bP,HR.z⟩⟩
 case round =>
  obtain⟨B,N,ht0,rfl,HB⟩:=hrel;by_cases a6:B<t;rotate_left
  .have e:B=t:=I;subst e;have bQ:AA (R=(true,N)):=by
    show _=_;have a:=HB.z.2.2.2.2;rw[DH]at a;exact a.symm
   have HL:=zb HB.z.1;have hr:=bQ.z;subst hr;clear a6;go_wp2_with fail;go_ret;exact⟨rfl,HL.z⟩
  obtain⟨E,r,F,D,aL⟩:=HB.z;have aM:T+B*fairC+fairC<=Dg:=by
   have a:B*fairC+fairC<=t*fairC:=by
    have:=B8 fairC (I:B+1<=t);rw[Nat.succ_mul]at this;exact this
   have:=HT.z;omega
  have y:=zb (VR aM r F D);obtain⟨H,aN⟩:=nm (T+B*fairC);rw[aN]at r aM y;have bZ:H+16803<=268435455:=aM;have ac:(if N.fair1.1 then NS.fairs (t-(B+1)) N.fair1.2 else(false,N.fair1.2))=R:=by
   rw[(I:t-B=(t-(B+1))+1)]at aL;exact aL
  obtain⟨R1,ad⟩:=nm N.fair1;have aO:AA (NS.fairAt 0 N.tick true=R1):=by
   show _=_;rw[<-ad];unfold NS.fair1;rw[RW D];rfl
  rw[ad]at ac y;have aP:=zb ac;have a7:=zb aN;obtain⟨tg,Mg,C,old,mk⟩:=E;have ks:Calls prog 21 #[(nb,0),.agg #[.int .i64 5,.int .i64 0,.int .i64 0,.int .i64 0,.string ⟨#[]⟩]] wr (λe W'=>e=.returned (.bool true)/\zB w tg nb wr N.tick W'):=by
   have hk:=VS C r I (s:=Kg) ⟨mu,mu,mu,mu,mu⟩ rfl (λtag' M' W' hn=>VU hn D Kg);have e:N.tick.carry Kg=(true,N.tick):=by
    unfold NS.carry;have e:N.tick.bag=[]:=D;rw[AQ e]
   rw[e]at hk;exact hk
  have aQ:=zb r.tick;have aR:=zb F.tick;have aS:AA (N.tick.bag=[]):=D;have am:AA (∀n' W',zB w tg nb wr n' W'->zB w tag nb W n' W'):=zb λn' W' Z=>zB.trans old mk Z
  clear r F D aL ac aN C old mk HB ad;go_upto_region 6 with(go_at_call 21;refine ks.mono ?_;rintro _ W2 ⟨rfl,a8⟩);have aT:=zb a8;clear ks a8;go_wp2_with fail
  go_loopw [6,7] (λO iv wq=>∃(i:Nat) (N:NS) (ok:Bool),i<=2/\O=.bool ok/\iv=.int .i64 i/\AA (zB w tag nb W N wq/\N.Inv (H+1+i)/\N.Up/\N.bag.length<=21*i/\NS.fairAt i N ok=R1)) (λ_ iv _=>2-(intOf iv).toNat)
  case atStart=>exact⟨0,N.tick,true,I,rfl,rfl,zb ⟨am.z _ _ aT.z,aQ.z,aR.z,by rw[aS.z];exact AM _,aO.z⟩⟩
  case round =>
   obtain⟨i,N2,ok,hi,rfl,rfl,an⟩:=hrel;by_cases ae:i<2
   .obtain⟨E,r,F,P,G⟩:=an.z;obtain⟨a9,bb,C,old,mk⟩:=E;have kf:=PW C r (by unfold Dg;omega) F ae;have ao:=zb (r.flush (i:=i) (by unfold Dg;omega) ae);have ap:=zb (NS.Up.flush (i:=i) (by unfold Dg;omega) r F ae);have aq:=zb (Q2 (i:=i) (by unfold Dg;omega) r ae);have b0:=P;rw[ko ae]at G;obtain⟨RF,be⟩:=nm (N2.flush i);rw[be]at kf ao ap aq G;obtain⟨f,N3⟩:=RF;simp only at ao ap aq G;have bf:=zb G;have az:AA (∀n' W',zB w a9 nb wr n' W'->zB w tag nb W n' W'):=zb λn' W' Z=>zB.trans old mk Z
    clear r F P G C old mk an be am aT aQ aR aS aO;go_upto_region 10 with(go_at_call 22;refine kf.mono ?_;rintro _ W3 ⟨rfl,bh⟩);have bi:=zb (az.z _ _ bh);clear kf bh az;have u:AA (∀b,b=(ok&&f)->∃(i':Nat) (N:NS) (ok:Bool),i'<=2/\Value.bool b=.bool ok/\Value.int .i64 ((i:Int)+1)=.int .i64 i'/\AA (zB w tag nb W N W3/\N.Inv (H+1+i')/\N.Up/\N.bag.length<=21*i'/\NS.fairAt i' N ok=R1)):=zb λb hb=>by
     subst hb;exact⟨i+1,N3,_,I,rfl,by congr 1,zb ⟨bi.z,ao.z,ap.z,nC aq.z,bf.z⟩⟩
    clear bi ao ap aq bf;have xw:=wi ((i:Int)+1) I;cases ok
    .go_wp2_with fail;go_roundw
     case rel=>exact u.z _ rfl
     simp[intOf];omega
    go_wp2_with fail;go_roundw
    case rel=>exact u.z _ rfl
    simp[intOf];omega
   have e2:i=2:=I;obtain⟨E,r,F,P,G⟩:=an.z;rw[e2]at r P G;obtain⟨a9,bb,C,old,mk⟩:=E;have aa:N2.fairC ok=R1:=G;have bj:wr.cell? (nb,8)=some bb.bg:=C.o.obj.cell (j:=8) rfl;have bR:=C.o.obj.fz 8;obtain⟨A,Mg3,hA,z,ar,Q⟩:=C.aside;have aU:=r.bag;have aV:({ N2 with bag:=[] }:NS).Inv (H+3):=(show({ N2 with bag:=[] }:NS).Inv (H+1+2)from⟨r.mtu,r.win,r.c,r.e,r.now,r.next,r.count,r.gl,r.g,AM _,λp hp=>(by cases hp)⟩).mono I;obtain⟨l,hl⟩:=nm N2.bag;unfold NS.fairC at aa;rw[hl]at z aU P aa;obtain⟨L,hL⟩:=nm l.length;rw[hL]at z P;obtain⟨bk,bm,aA,q1,q2,q3⟩:=zk z;unfold maxLen at q2;rw[aA]at bj z ar;obtain⟨NA,bn⟩:∃x:NS,({ N2 with bag:=[] }:NS)=x:=⟨_,rfl⟩;rw[bn]at aa hA aV;obtain⟨WA,aW⟩:=nm (wr.setCell (U nb 8) (.slice none 0 0));rw[aW]at hA z Q;obtain⟨RV,aX⟩:=nm (NS.recvs l NA ok);rw[aX]at aa;have aY:AA (NS.reads Gj RV.2 RV.1=R1):=aa;have bo:=zb aX;have bp:=zb aV;have HA:=zb hA.left;have bS:=zb aU;have aZ:=zb hL;have am:=zb λn' W' Z=>zB.trans old mk (Q n' W' Z)
   have aB:AA (∀wx,DW (λg=>A g≠(0,0)) WA wx->wx.ownsRow 0 62 2 (.slice bk L bm) L (zM l)):=zb λwx m=>m.owns z (λg hg x=>x (ar g hg))
   have bq:AA (∀q,(Value.slice bk L bm).ownBlock=some q->A q=(0,0)/\q<WA.heap.size):=zb λq hq=>⟨ar q hq,Qg z hq⟩
   have bt:=zb aW;have b5:L<=42:=I;clear r F P G C old mk an aa hA z ar Q aU aV hl aA bn aX hL e2 aT aQ aR aS aO aW;go_wp2_with fail;try rw[bt.z]
   clear bt bj bR
   go_loopw [6,10] (λO kv wq=>∃(k:Nat) (N:NS) (ok:Bool),k<=L/\O=.bool ok/\kv=.int .i64 k/\AA (zB w A nb WA N wq/\N.Inv (H+3+400*k)/\NS.recvs (l.drop k) N ok=RV)) (λ_ kv _=>L-(intOf kv).toNat)
   case atStart=>exact⟨0,NA,ok,AM _,rfl,rfl,zb ⟨HA.z,bp.z,bo.z⟩⟩
   case round =>
    obtain⟨k,N4,af,hk,rfl,rfl,ab⟩:=hrel;clear HA bp bo;by_cases bu:k<L
    .obtain⟨E,r,J⟩:=ab.z;obtain⟨S,bv,C,old,mk⟩:=E;obtain⟨f,hf⟩:∃f,l[k]?=some f:=⟨l[k]'(by rw[aZ.z];exact bu),AK _⟩;obtain⟨f1,f2,f3⟩:=bS.z f (AV hf);rw[iG hf]at J;obtain⟨qb,rfl⟩:=q3 I;obtain⟨r1,r2⟩:=TH (aB.z wr mk) aZ.z hf;have bw:S qb=(0,0):=by
      obtain⟨a,b⟩:=bq.z qb rfl;rw[old qb b,a]
     obtain⟨d,s⟩:=f;simp only at f1 f2 f3 r1 r2 J;obtain⟨gx,cx,b1,⟨b2,b3⟩,b4⟩:=C.o.connIs (i:=d) f1;obtain⟨gx',cx',bz,_,_,aC⟩:=C.o.x.form I;have bT:=C.o.obj.tag;have bU:S gx=(3,1):=by
      have x:wr.cell? nb=some bv.x:=C.o.obj.cell (j:=0) rfl;rw[b1,bz]at x;cases x;exact aC
     obtain⟨cb,a0⟩:=nm (bv.b d);have hTk:H+3+400*k+400<=268435455:=I;have a1:=zb (C.free ((DW.refl DY wr).drew) (λ_ x=>x.elim));have kr:=QY a1.z r f1 s f3 (by unfold Dg;omega);rw[a0]at b4 kr;have bA:=zb a0;have ah:=zb (((r.mono (I:H+3+400*k<=H+3+400*k+400))).setC d (λhd=>((r.c d hd).receive (bs:=s) (by unfold Dg;omega)).mono I));have au:AA ((N4.setC d ((N4.c d).receive s).2).Inv (H+3+400*k+400)->((N4.setC d ((N4.c d).receive s).2).came d).2.Inv (H+3+400*(k+1))):=zb λZ=>(Z.came d).mono I
     unfold NS.recv at J;simp only at J;obtain⟨RR,bB⟩:=nm ((N4.c d).receive s);rw[bB]at kr J ah au;obtain⟨⟨X,at_⟩,c'⟩:=RR;simp only at kr J ah au;have av:=zb J;have KR:=zb kr;have aD:AA (∀n' W',zB w S nb wr n' W'->zB w A nb WA n' W'):=zb λn' W' Z=>zB.trans old mk Z
     have hd2:(d:Int)<2:=I;have hd0:(0:Int)<=(d:Int):=I;have bC:(k:Int)<(L:Int):=I;have bV:(0:Int)<=(k:Int):=I;have q0:((X:Int)==0)=(X==0):=IC X 0;have xw:=wi ((k:Int)+1) I;have bD:AA (∀g,(S g).1=3->(S g).1=d+1->False):=zb λg a b=>I
     clear r J C old mk ab bz aC bB hf a0 kr aY;go_upto_region 16 with fail;refine zo 22 (λw'=>w'.cell? nb=some (.slice gx 2 cx)/\w'.cell? (gx,d)=some (.pointer cb)/\w'.cell? (qb,k*2)=some (.int .i64 d)/\w'.cell? (qb,k*2+1)=some (.string (zu s))) (⟨b1,b4,r1,r2⟩) ?_;refine GI 0 ?_;iterate 16
      refine GV rfl ?_;try simp only[PS]
     refine zE 16 rfl (λK hK=>?_);go_simp;refine(KR.z).mono ?_;rintro _ W5 ⟨rfl,hL⟩;rw[<-bA.z]at hL;obtain⟨bE,V5,N5,aE,m5⟩:=a1.z.conn f1 hL;have G0:=m5.cell (a:=nb) (λx=>bD.z nb (by rw[bT]) x) b1;have G1:=m5.cell (a:=(gx,d)) (λx=>bD.z gx (by rw[bU]) x) b4;have G2:=m5.cell (a:=(qb,k*2)) (λx=>by have x:(S qb).1=d+1:=x;rw[bw]at x;simp at x) r1;have G3:=m5.cell (a:=(qb,k*2+1)) (λx=>by have x:(S qb).1=d+1:=x;rw[bw]at x;simp at x) r2;refine hK.z _ _ ⟨G0,G1,G2,G3⟩ ?_;clear hK K;try simp only[PS]
     refine GI 17 ?_;iterate 5
      refine GV rfl ?_;try simp only[PS]
     refine zr ?_;have bF:AA (∀n' W',zB w bE nb W5 n' W'->zB w A nb WA n' W'):=zb λn' W' Z=>aD.z _ _ (zB.from0 ((DW.refl DY wr).drew) (zB.trans aE (m5.mono (λg hg=>.inl (λx=>by rw[x]at hg;simp at hg))) Z))
     have a3:=Q3 N5 ah.z (by unfold Dg;omega) f1;have Y:=zb (au.z ah.z);obtain⟨RC,bG⟩:=nm ((N4.setC d c').came d);rw[bG]at a3 Y av;obtain⟨cm,N6⟩:=RC;simp only at Y av;clear N5 aE m5 ah au aD a1 KR bG hL bA;go_upto_region 18 with(go_at_call 34;refine a3.mono ?_;rintro _ W6 ⟨rfl,bH⟩);have u:AA (∀b,b=(af&&cm&&X==0)->∃(k':Nat) (N:NS) (ok:Bool),k'<=L/\Value.bool b=.bool ok/\Value.int .i64 ((k:Int)+1)=.int .i64 k'/\AA (zB w A nb WA N W6/\N.Inv (H+3+400*k')/\NS.recvs (l.drop k') N ok=RV)):=zb λb hb=>by
      subst hb;exact⟨k+1,N6,_,bu,rfl,by congr 1,zb ⟨bF.z _ _ bH,Y.z,av.z⟩⟩
     clear a3 bH bF Y av bC bV r1 r2 b1 b4 G0 G1 G2 G3;cases af
     .go_wp2_with fail;go_roundw
      case rel=>exact u.z _ rfl
      simp[intOf];omega
     cases cm
     .go_wp2_with fail;go_roundw
      case rel=>exact u.z _ rfl
      simp[intOf];omega
     go_wp2_with fail;go_roundw
     case rel=>exact u.z _ (by first|rfl|simp only[q0,Bool.and_self,Bi])
     simp[intOf];omega
    have a4:k=L:=I;have aF:RV=(af,N4):=by
     have a:=ab.z.2.2;rw[a4,<-aZ.z,CE]at a;exact a.symm
    have ai:AA (NS.reads Gj N4 af=R1):=by
     show _=_;have a:=aY.z;rw[aF]at a;exact a
    have bI:AA (N4.Inv (H+3+400*L)):=by rw[<-a4];exact zb ab.z.2.1
    have bJ:=zb ab.z.1;have hTL:H+3+400*L<=268435455:=I;clear ab aY aF hk a4 aB bq;go_wp2_with fail
    go_loopw [6,14] (λO iv wq=>∃(i:Nat) (N:NS) (ok:Bool),i<=2/\O=.bool ok/\iv=.int .i64 i/\AA (zB w A nb WA N wq/\N.Inv (H+3+400*L)/\NS.reads (Gj.drop (8*i)) N ok=R1)) (λ_ iv _=>2-(intOf iv).toNat)
    case atStart=>exact⟨0,N4,af,I,rfl,rfl,zb ⟨bJ.z,bI.z,ai.z⟩⟩
    case round =>
     obtain⟨i5,N5,a5,hi5,rfl,rfl,V⟩:=hrel;clear bJ bI ai;by_cases aj:i5<2
     .have bK:decide ((i5:Int)<2)=true:=Ax I;go_wp2_with fail;try rw[bK]
      go_loopw [6,15] (λO kv wq=>∃(k:Nat) (N:NS) (ok:Bool),k<=8/\O=.bool ok/\kv=.int .i64 k/\AA (zB w A nb WA N wq/\N.Inv (H+3+400*L)/\NS.reads (Gj.drop (8*i5+k)) N ok=R1)) (λ_ kv _=>8-(intOf kv).toNat)
      case atStart=>exact⟨0,N5,a5,I,rfl,rfl,V⟩
      case round =>
       obtain⟨k6,N6,aw,hk6,rfl,rfl,ax⟩:=hrel;clear V;by_cases ak:k6<8
       .obtain⟨E,r,al⟩:=ax.z;obtain⟨bL,Mg6,C,old,mk⟩:=E;rw[iH aj ak]at al;have kr:Calls prog 35 #[(nb,0),[i5],[k6],.int .i64 4096] wr (E4 w bL nb wr (N6.read i5 k6 4096)):=UX C r (by unfold Dg;omega) aj ak (AF 4096);have ay:=zb (r.read i5 k6 4096);obtain⟨RD,bM⟩:=nm (N6.read i5 k6 4096);rw[bM]at kr ay al;obtain⟨rb,N7⟩:=RD;simp only at ay al;have ai:=zb al;have aG:AA (∀n' W',zB w bL nb wr n' W'->zB w A nb WA n' W'):=zb λn' W' Z=>zB.trans old mk Z
        have xw:=wi ((k6:Int)+1) I;clear r al C old mk ax bM;go_upto_region 26 with(go_at_call 35;refine kr.mono ?_;rintro _ W7 ⟨rfl,bN⟩);have u:AA (∀b,b=(aw&&rb)->∃(k':Nat) (N:NS) (ok:Bool),k'<=8/\Value.bool b=.bool ok/\Value.int .i64 ((k6:Int)+1)=.int .i64 k'/\AA (zB w A nb WA N W7/\N.Inv (H+3+400*L)/\NS.reads (Gj.drop (8*i5+k')) N ok=R1)):=zb λb hb=>by
         subst hb;exact⟨k6+1,N7,_,ak,rfl,by congr 1,zb ⟨aG.z _ _ bN,ay.z,ai.z⟩⟩
        clear kr bN aG ay ai;cases aw
        .go_wp2_with fail;go_roundw
         case rel=>exact u.z _ rfl
         simp[intOf];omega
        go_wp2_with fail;go_roundw
        case rel=>exact u.z _ rfl
        simp[intOf];omega
       have ek:k6=8:=I;have xw:=wi ((i5:Int)+1) I;have bW:AA (zB w A nb WA N6 wr/\N6.Inv (H+3+400*L)/\NS.reads (Gj.drop (8*(i5+1))) N6 aw=R1):=by
        have a:=ax.z;rw[ek]at a;exact a
       clear ax ek;go_wp2_with fail;go_roundw
       case rel=>exact⟨i5+1,N6,aw,aj,rfl,by congr 1,bW⟩
       simp[intOf];omega
     have ei:i5=2:=I;have ad:R1=(a5,N5):=by
      have a:=V.z.2.2;rw[ei]at a;exact a.symm
     subst ad;have bO:AA (∀W',DW DY wr W'->zB w tag nb W N5 W'):=zb λW' m=>(am.z _ _ V.z.1).then0 m
     clear V ei;cases a5
     .have hr:(false,N5)=R:=aP.z;subst hr;go_wp2_with fail;go_ret;exact⟨rfl,bO.z _ (DW.refl _ _)⟩
     have HF:AA (NS.fairs (t-(B+1)) N5=R):=aP.z;have bX:AA (N5.Inv (T+(B+1)*fairC)):=by
      have a:=y.z.1;rw[<-a7.z,show T+B*fairC+fairC=T+(B+1)*fairC by rw[Nat.succ_mul];omega]at a;exact a
     have bY:AA N5.Up:=y.z.2.2 rfl;have V:AA (N5.bag=[]):=y.z.2.1;have xw:=wi ((B:Int)+1) I;clear y aP a7;go_wp2_with fail;go_roundw
     case rel=>exact⟨B+1,N5,a6,by congr 1,zb ⟨bO.z _ (DW.refl _ _),bX.z,bY.z,V.z,HF.z⟩⟩
     simp[intOf];omega
end
end Go.Proofs.YtddfdpbaiedcjaaGreatDoor
