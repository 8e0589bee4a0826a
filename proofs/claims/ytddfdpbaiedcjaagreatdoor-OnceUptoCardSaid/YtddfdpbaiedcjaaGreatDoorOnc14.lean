/- A part of Once's proof. Conditions: none. Part 14 of 15. -/
import Derived.Test.YtddfdpbaiedcjaaGreatDoorOnc13
set_option maxRecDepth 100000
set_option maxHeartbeats 16000000
set_option linter.all false
namespace Go.Proofs.YtddfdpbaiedcjaaGreatDoor
section
open Go.RowKit Go.Proofs.Tryz
variable{M:NV}{V':CV}{W W' w:World}{c':CS}{i nb:Nat}{n:NS}{tag tag':Nat->Nat×Nat}
def De.turn(h:De w tag nb n M W)(hi:i<2)(a:zg tag' (i+1) (M.b i) c' V' W')(e:Dj (i+1) tag tag' W W')(m:DW (λg=>(tag g).1=i+1) W W')(d:Fn (i+1) tag'):De w tag' nb (n.setC i c') { M with V:=upd M.V i V' } W':=by
 have old:∀g,tag g≠(0,0)->tag' g=tag g:=λg hg=>by
  by_cases q:g<W.heap.size
  ·exact e.old g q
  ·exact absurd (h.env.ok g (by omega)) hg
 refine⟨(h.o.mod m (λg hg x=>by omega) old).same (Jb.setC n i c') _,λj f=>?_,?_,λj f=>?_,h.mod.then m (λg hg=>?_),λg hg=>?_⟩
 ·by_cases q:j=i
  ·subst q;show zg tag' (j+1) (M.b j) (upd n.c j c' j) (upd M.V j V' j) W';rw[ze,ze];exact a
  ·show zg tag' (j+1) (M.b j) (upd n.c i c' j) (upd M.V i V' j) W';rw[zd _ _ q,zd _ _ q];exact(h.cn j f).mod m (λg hg x=>by omega) (λg hg=>old g (λx=>by rw[x]at hg;simp at hg))
 ·exact((h.env.to (j:=i+1) (by omega)).left e m).to (by omega)
 ·by_cases q:j=i
  ·subst q;exact d
  ·exact(h.nd j f).other e (by omega) (by omega)
 ·refine .inr (h.t1 g (λx=>?_));rw[x]at hg;simp at hg
 ·by_cases q:g<W.heap.size
  ·exact h.t1 g (by rw[<-e.old g q];exact hg)
  ·have:=h.mod.size;omega
variable{k:Nat}
theorem fP{l:List (List UInt8)}{b:List UInt8}(hb:l[k]?=some b)(n:NS):NS.flushL i (l.drop k) n=match dec b with
  | .ok num fs =>
   if n.mtu<b.length\/num≠n.count i\/fs=[]then(false,n)
   else if fs.any (E8 n.now)then(false,{ n with count:=upd n.count i (n.count i+1) })
   else NS.flushL i (l.drop (k+1)) { n with count:=upd n.count i (n.count i+1),bag:=n.bag++[(1-i,b)] }
  | _=>(false,n):=by
 rw[LX hb,NS.flushL];cases dec b<;>rfl
def Xo(i:Nat)(l:List (List UInt8))(n:NS):NS.flushL i (l.drop l.length) n=(true,n):=by rw[CJ];rfl
def Du.ctAt(h:Du tag nb n M W)(hi:i<2):∃g cap,M.ct = .slice (some ⟨g,0,none⟩) 2 cap/\W.cell? ⟨nb,9,none⟩=some (.slice (some ⟨g,0,none⟩) 2 cap)/\(2<=cap/\cap<=9223372036854775807)/\W.cell? ⟨g,i,none⟩=some (.int .u64 (n.count i:Int))/\W.frozen? ⟨g,i,none⟩=false/\tag g=(3,5):=by
 obtain⟨g,cap,a,e2,e3,e4⟩:=h.ct.form (by omega);have c0:W.cell? ⟨nb,9,none⟩=some M.ct:=h.obj.cell (j:=9) rfl;have x:=h.ct.own;rw[a]at c0 x;have y:=IH x (i:=i) (v:=.int .u64 (n.count i:Int)) (by
  rcases(show i=0\/i=1 by omega)with rfl|rfl<;>rfl)
 unfold maxLen at e3;exact⟨g,cap,a,c0,⟨e2,by omega⟩,y.1,y.2,e4⟩
variable{cap g:Nat}
def De.ctS(h:De w tag nb n M W)(hi:i<2)(x:Nat)(hg:M.ct = .slice (some ⟨g,0,none⟩) 2 cap):De w tag nb { n with count:=upd n.count i x } M (W.setCell ⟨g,i,none⟩ (.int .u64 x)):=by
 have ht:=h.o.ct.tag g (by rw[hg];rfl);have m:DW (λq=>q=g) W (W.setCell ⟨g,i,none⟩ (.int .u64 x)):=(DW.refl (λq=>q=g) W).setCell (p:=⟨g,i,none⟩) (.inl rfl) _;exact h.own (h.o.ctS hi x hg) rfl rfl rfl m (λq hq=>.inl (by rw[show q=g from hq,ht])) (Dj.same h.env.ok m)
variable{N:Nat}
def VW{l:List (List UInt8)}(h:w.ownsRow 0 9 1 (.slice (some ⟨g,0,none⟩) N cap) N (Fd l)){s:List UInt8}(hs:l[k]?=some s):w.cell? ⟨g,k,none⟩=some (.string (zq s)) :=
 (IH h (i:=k) (by unfold Fd;rw[BW,hs];rfl)).1
variable{f:Db}{fs:List Db}{j now:Nat}
def fO(hf:fs[j]?=some f)(h:(fs.take j).any (E8 now)=false):(fs.take (j+1)).any (E8 now)=E8 now f:=by
 rw[BD,hf,List.any_append,h];simp
def Xn(hf:fs[j]?=some f)(h:E8 now f=true):fs.any (E8 now)=true :=
 B7.2 ⟨f,Ac hf,h⟩
def De.bagPush(h:De w tag nb n M W)(tt:Nat)(b:List UInt8)(hl:n.bag.length<=1000000000000):∃a cap W2,(∀ty,(Builtin.append_ #[46,46] ty #[M.bg,.slice (some ⟨W.heap.size,0,none⟩) 1 1]).run prog (W.alloc (.cells #[.int .i64 tt,.string (zq b)] 62)) = .ok (.slice a (n.bag.length+1) cap) W2)/\W2.frozen? ⟨nb,8,none⟩=false/\W2.cell? ⟨nb,8,none⟩=some M.bg/\DW (λq=>M.bg.ownBlock=some q) W W2 /\
   ∀W',DW DX (W2.setCell ⟨nb,8,none⟩ (.slice a (n.bag.length+1) cap)) W'->zs w tag nb W { n with bag:=n.bag++[(tt,b)] } W':=by
 obtain⟨o,p⟩:=nm ((Obj.cells #[.int .i64 tt,.string (zq b)] 62 (0,0)));have r:DW DX W (W.alloc o):=(DW.refl _ W).alloc o;have hc:∀(j:Nat) u,(zK [(tt,b)])[j]?=some u->(W.alloc o).cell? ((⟨W.heap.size,0,none⟩:Addr).add j)=some u:=λj u hj=>by
  rw[zS,<-p];refine za (heap_alloc_new W _) ?_;rw[Au,<-Array.getElem?_toList];exact hj
 obtain⟨v2,W2,r2,i,g2,n2⟩:=PB (W.alloc o) M.bg n.bag [(tt,b)] ⟨W.heap.size,0,none⟩ 1 (r.owns h.o.bg.own (λ_ _ x=>x)) hc (by simp;omega);have k:=(r.mono (λ_ x=>x.elim)).grown g2 (λq c=>.inl c);have l:∀q,v2.ownBlock=some q->q<W2.heap.size:=λq c=>by
  rcases i.2 with⟨e,_⟩|⟨q',c',cur,e,_,x,_⟩
  ·rw[e]at c;cases c
  ·rw[e]at c;cases c;exact(AI.1 x).1
 have F:=h.bagS k (λq x=>.inl (h.o.bg.tag q x)) i (λq c=>by
  rcases n2 q c with x|x
  ·exact .inl (h.o.bg.tag q x)
  ·refine .inr ⟨?_,l q c⟩;simp at x;omega)
 have m:¬M.bg.ownBlock=some nb:=λx=>by
  have a:=h.o.bg.tag nb x;rw[h.o.obj.tag]at a;simp at a
 have d:=k.obj m h.o.obj.obj;obtain⟨a2,c2,f,-⟩:=zi i;have g:(n.bag++[(tt,b)]).length=n.bag.length+1:=by simp
 rw[g]at f;subst f;rw[p];exact⟨a2,c2,W2,r2,zf d,za d rfl,k,λW' m'=>F.then0 m'⟩
variable{T:Nat}
theorem OG(h:De w tag nb n M W)(hI:n.Inv T)(hT:T<=Dg)(hU:n.Up)(hi:i<2):Calls prog 22 #[.pointer (some ⟨nb,0,none⟩),.int .i64 i] W (EL w tag nb W (n.flush i)):=by
 have x1:IntKind.i64.wrap (1-(i:Int))=((1-i:Nat):Int):=by rw[IntKind.wrap_i64];omega
 have x2:(1:Int)-(i:Int)=((1-i:Nat):Int):=by omega
 obtain⟨J,hJ⟩:=nm (1-i);rw[hJ]at x1 x2;have x3:IntKind.i64.wrap (J:Int)=(J:Int):=by rw[IntKind.wrap_i64];omega
 obtain⟨gx,cx,b1,⟨b2,b3⟩,b4⟩:=h.o.connIs (i:=i) hi;have P:=hI.c i hi;have u:=(P.pkPost hT).z;have aO:(n.c i).packets.1.length<=21:=by have:=u.1;have:=P.acks.2.2;omega
 have Z:=P.mtu;have kc:=go (h.cn i hi) (h.env.to (j:=i+1) (by omega)) (h.nd i hi) (hU i hi) (P.pkOk hT) P.got.1 (by omega) (λl hl=>by
  have:=u.2 l hl;have e:(n.c i).acks.2.mtu=(n.c i).mtu:=by
   unfold CS.acks;split<;>rfl
  omega)
 have aD:∀l∈(n.c i).packets.1,l.length<=65536:=λl hl=>by
  have:=u.2 l hl;have e:(n.c i).acks.2.mtu=(n.c i).mtu:=by
   unfold CS.acks;split<;>rfl
  omega
 have aP:=hI.mtu;have aQ:=hI.bl;have am:=hI.count i hi;unfold Dg at hT;unfold NS.flush;obtain⟨b,A⟩:=nm ((n.c i).packets.1);obtain⟨c',aR⟩:=nm ((n.c i).packets.2);obtain⟨mt,aa⟩:=nm n.mtu;obtain⟨nw,B⟩:=nm n.now;rw[A]at aO aD;rw[A,aR]at kc ⊢;obtain⟨L,hL⟩:=nm b.length;rw[hL]at aO;obtain⟨S,hS⟩:=nm (n.setC i c');rw[hS];have aS:S.mtu=mt:=by rw[<-hS];exact aa
 have aT:S.now=nw:=by rw[<-hS];exact B
 have aU:S.bag.length<=32*T:=by rw[<-hS];exact aQ
 have aV:S.count i<=32*T:=by rw[<-hS];exact am
 obtain⟨R,hR⟩:=nm (NS.flushL i b S);rw[hR];rw[aa]at aP;have HN:=zb h;have bI:=zb aD;have HR:=zb hR;have HS:=zb hS;clear h hI P u Z aD hU aP aQ am A aR hR hS aa B;go_enter func22,ntmps22;go_upto_region 2 with(go_at_call 27;refine kc.mono ?_;rintro _ W1 ⟨v,tag',V',rfl,a1,a2,a3,a4,E,aE⟩);have m1:=a3.mono (λg hg=>.inl hg.1);have h1:=HN.z.turn hi a1 a2 m1 a4;rw[HS.z]at h1;have ab:AA (∀n' wr W',zs w tag' nb W1 n' wr->DW DX wr W'->zs w tag nb W n' W'):=by
  refine zb λn' wr W' hN m'=>?_
  exact zs.trans a2.old (m1.mono (λg hg=>.inl (λx=>by rw[x]at hg;simp at hg))) (hN.then0 m')
 have ar:AA (∀wr,DW (λg=>tag' g≠(0,0)) W1 wr->wr.ownsRow 0 9 1 v b.length (Fd b)):=zb λwr m=>m.owns E (λg hg x=>x (aE g hg).2)
 have au:∀g,(v.ownBlock=some g->tag' g=(0,0)/\g<W1.heap.size):=λg hg=>by
  refine⟨(aE g hg).2,?_⟩;rcases E.2 with⟨e,_⟩|⟨q',c',bJ,e,_,x,_⟩
  ·rw[e]at hg;cases hg
  ·rw[e]at hg;cases hg;exact(AI.1 x).1
 have aW:=zb au;clear au;obtain⟨va,vc,rfl,bK,bL,aX⟩:=zi E;rw[hL]at bK aX ar;unfold maxLen at bL;have ST:=zb h1.left;have aY:=zb hL;rw[hL];clear a1 a2 a3 a4 aE E m1 h1 b1 b2 b3 b4 kc HN hL HS;go_wp2_with fail
 go_loopw [6] (λkv wr=>∃(k:Nat) (N:NS),k<=L/\kv = .int .i64 k/\AA (zs w tag' nb W1 N wr/\NS.flushL i (b.drop k) N=R/\N.mtu=mt/\N.now=nw/\N.count i<=32*T+k/\N.bag.length<=32*T+k)) (λkv _=>L-(intOf kv).toNat)
 case atStart=>exact⟨0,S,AL _,rfl,zb ⟨ST.z,HR.z,aS,aT,aV,aU⟩⟩
 case round =>
  obtain⟨k,N,hk,rfl,HK⟩:=hrel;clear aS aT aV aU ST HR;by_cases aZ:k<L;rotate_left
  ·have bM:k=L:=by omega
   subst bM;have bN:AA (R=(true,N)):=by
    show _=_;have a:=HK.z.2.1;rw[<-aY.z,Xo]at a;exact a.symm
   have t:=bN.z;subst t;clear aZ;go_wp2_with fail;go_ret;exact⟨rfl,ab.z _ wr _ HK.z.1 (DW.refl _ _)⟩
  obtain⟨ac,d,Z,B,bO,bP⟩:=HK.z;obtain⟨tg,Mk,hN,old,mk⟩:=id ac;obtain⟨bs,C⟩:∃bs,b[k]?=some bs:=⟨b[k]'(by rw[aY.z];exact aZ),AJ _⟩;have ad:=bI.z bs (Ac C);obtain⟨gv,rfl⟩:=aX (by omega);have a0:AA (tag' gv=(0,0)):=(aW.z gv rfl).1;have av:AA (gv<W1.heap.size):=(aW.z gv rfl).2;have rS:=VW (ar.z wr mk) C;rw[fP C]at d;obtain⟨cb,W2,bQ,ae,m2,_⟩:=dT wr bs (by omega);have af:=hN.env.mod0 m2;have kd:=gB _ bs W2 ae af.tab af.err (by omega);have a5:bs.length<=cb/\cb<=9223372036854775807:=by
   obtain⟨_,_,e,q1,q2,_⟩:=ae;cases e;unfold maxLen at q2;exact⟨q1,by omega⟩
  obtain⟨ca,cd⟩:=a5;have y:=zb hN;have Q:=zb ac;have G:=zb old;have a6:=zb mk;have HBS:=zb C;have U:=zb m2;have a7:=zb ad;cases hd:dec bs with
  | sum =>
   rw[hd]at kd d;simp only at d;subst d;have F:AA (∀W',DW DX wr W'->zs w tag nb W N W'):=zb λW' m=>ab.z _ wr _ Q.z m
   clear ac hN old mk C ae af ad y Q HK;go_upto_region 6 with(go_at_call 23;refine kd.mono ?_;rintro _ W3 ⟨m3,rfl⟩);go_quiet (fail);go_wp2_with fail;go_ret;exact⟨rfl,F.z _ (((U.z.trans m3).alloc _).drewN _)⟩
  | bad p =>
   rw[hd]at kd d;simp only at d;subst d;have F:AA (∀W',DW DX wr W'->zs w tag nb W N W'):=zb λW' m=>ab.z _ wr _ Q.z m
   clear ac hN old mk C ae af ad y Q HK;go_upto_region 6 with(go_at_call 23;refine kd.mono ?_;rintro _ W3 ⟨m3,rfl⟩);go_quiet (fail);go_wp2_with fail;go_ret;exact⟨rfl,F.z _ (((U.z.trans m3).alloc _).drewN _)⟩
  | ok num fs =>
   rw[hd]at kd d;simp only at d;have a8:wr.cell? ⟨nb,5,none⟩=some (.int .i64 mt):=by
    have:=hN.o.obj.cell (j:=5) (v:=.int .i64 N.mtu) rfl;rw[Z]at this;exact this
   have bR:wr.cell? ⟨nb,4,none⟩=some (.int .u64 nw):=by
    have:=hN.o.obj.cell (j:=4) (v:=.int .u64 N.now) rfl;rw[B]at this;exact this
   obtain⟨V,cc,aF,a9,⟨cc1,cc2⟩,aG,bS,_⟩:=hN.o.ctAt hi;obtain⟨ct,H⟩:=nm (N.count i);have ah:AA ((if mt<bs.length\/num≠ct\/fs=[]then(false,N)else if fs.any (E8 nw)=true then(false,{ N with count:=upd N.count i (ct+1) })else NS.flushL i (b.drop (k+1)) { N with count:=upd N.count i (ct+1),bag:=N.bag++[(1-i,bs)] })=R):=by
    show _=_;rw[<-d,Z,B,H]
   rw[H]at aG bO;have ce:=zE bs;clear ac hN old mk C ae af d;go_upto_region 6 with(go_at_call 23;refine kd.mono ?_;rintro _ W3 ⟨m3,fv,ai,rfl,aH,aI,bb,bd⟩;obtain⟨fa,fc,rfl,bT,bU,bV⟩:=zi aH.1);obtain⟨I,aj⟩:=nm ai.length;rw[aj]at bT bV ⊢;unfold maxLen at bU;have aw:fs.length=I:=by rw[<-aI,A9,aj]
   have ci:I<=65536:=by
    have:=(LG (by have:=a7.z;omega) hd).2.1;have:=a7.z;omega
   obtain⟨pb,aJ⟩:=nm W3.heap.size;obtain⟨Y,an⟩:=nm (W3.alloc (.cells #[.int .u64 num,.slice fa I fc] 56));have m4:=AB an
   have u:Y.heap[pb]?=some (.cells #[.int .u64 num,.slice fa I fc] 56 (0,0)):=by rw[<-an,<-aJ];exact heap_alloc_new W3 _
   have k0:Y.cell? ⟨pb,0,none⟩=some (.int .u64 num):=za u rfl;have k1:Y.cell? ⟨pb,1,none⟩=some (.slice fa I fc):=za u rfl;have mm:=(U.z.trans m3).trans m4;have be:=mm.cell (a:=⟨gv,k,none⟩) id rS;have bf:=mm.cell (a:=⟨nb,5,none⟩) id a8;have bh:=mm.cell (a:=⟨nb,9,none⟩) id a9;have bi:=mm.cell (a:=⟨V,i,none⟩) id aG;have bj:Y.frozen? ⟨V,i,none⟩=false:=by
    have o:=y.z.o.ct.own;rw[aF]at o;rcases o.2 with⟨e,_⟩|⟨g',bk,bJ,e,_,h1,_⟩
    ·cases e
    ·cases e;exact zf (mm.obj (λx=>x) h1)
   have ao:=zb mm;have bm:AA (∀wx,DW DX Y wx->G6 wx (.slice fa I fc) ai):=zb λwx m=>by
    have:=aH.frs.mod0 (m4.trans m);rw[aj]at this;exact this
   have bn:=zb aI;have bW:=m3.size;have bX:=zb λg hg=>AO U.z.size (bb g (by rw[aj];exact hg))
   have bo:=zb λx hx g hg=>AO U.z.size (bd x hx g hg)
   have O:=zb aw;have HCT:=zb H;have bp:=zb aF;have FF:AA (∀W',DW DX Y W'->zs w tag nb W N W'):=zb λW' m=>ab.z _ wr _ Q.z (ao.z.trans m)
   clear aH u mm m3 m4 rS a8 a9 aG bS aI aw H aF aj kd bQ m2;rw[aJ,an];clear an;refine wp_region_quiet_lit (by kernel_rfl) (by kernel_rfl) ?_;repeat (go_big_quiet_step (fail))
   by_cases p1:mt<bs.length
   ·have d1:=Aq p1;have t:=ah.z;rw[AN (.inl p1)]at t;subst t;simp only[d1];repeat (go_big_quiet_step (fail))
    refine wpQuiet_nil ?_;intro _ D;obtain⟨nq,f⟩:=D;subst f;go_wp2_with fail;go_ret;exact⟨rfl,FF.z _ ((DW.refl _ _).drewN _)⟩
   have d1:=Az p1;simp only[d1];repeat (go_big_quiet_step (fail))
   by_cases p2:num=ct;rotate_left
   ·have d2:((num:Int) != (ct:Int))=true:=by rw[PC];exact CK.2 p2
    have t:=ah.z;rw[AN (.inr (.inl p2))]at t;subst t;simp only[d2];repeat (go_big_quiet_step (fail))
    refine wpQuiet_nil ?_;intro _ D;obtain⟨nq,f⟩:=D;subst f;go_wp2_with fail;go_ret;exact⟨rfl,FF.z _ ((DW.refl _ _).drewN _)⟩
   have d2:((num:Int) != (ct:Int))=false:=by rw[PC];simp[p2]
   simp only[d2];repeat (go_big_quiet_step (fail))
   by_cases p3:I=0
   ·have d3:((I:Int)==0)=true:=by simp[p3]
    have t:=ah.z;have z:=Ah (by rw[O.z];exact p3);rw[AN (.inr (.inr z))]at t;subst t;simp only[d3];repeat (go_big_quiet_step (fail))
    refine wpQuiet_nil ?_;intro _ D;obtain⟨nq,f⟩:=D;subst f;go_wp2_with fail;go_ret;exact⟨rfl,FF.z _ ((DW.refl _ _).drewN _)⟩
   have d3:((I:Int)==0)=false:=by simp[p3]
   have z:fs≠[]:=λx=>p3 (by rw[<-O.z,x];rfl)
   have ax:AA ((if fs.any (E8 nw)=true then(false,{ N with count:=upd N.count i (ct+1) })else NS.flushL i (b.drop (k+1)) { N with count:=upd N.count i (ct+1),bag:=N.bag++[(1-i,bs)] })=R):=by
    have t:=ah.z;rw[AH (by simp only[not_or,Decidable.not_not];exact⟨p1,p2,z⟩)]at t;exact t
   simp only[d3];repeat (go_big_quiet_step (fail))
   refine wpQuiet_nil ?_;intro _ D;obtain⟨nq,f⟩:=D;subst f;clear d1 d2 d3 p1 z ah FF;go_upto_region 8 with fail;obtain⟨W5,ap⟩:=nm ((Y.drewN nq).setCell ⟨V,i,none⟩ (.int .u64 ((ct:Int)+1)));have N4:=y.z.free (ao.z.drewN nq) (λ_ x=>x.elim);have N5:De w tg nb { N with count:=upd N.count i (ct+1) } Mk W5:=by
    have:=N4.ctS hi (ct+1) bp.z;rw[<-ap];exact this
   have m5:DW (λq=>q=V) Y W5:=by
    rw[<-ap];exact((DW.refl (λq=>q=V) Y).drewN nq).setCell (p:=⟨V,i,none⟩) (.inl rfl) _
   have r:=y.z.o.ct.tag V (by rw[bp.z];rfl);have bY:AA (zs w tag' nb W1 { N with count:=upd N.count i (ct+1) } W5):=by
    refine zb (zs.trans G.z a6.z (zs.from0 (ao.z) ⟨tg,Mk,N5,λ_ _=>rfl,m5.mono (λg hg=>.inl (by rw[show g=V from hg,r];simp))⟩))
   have bq:AA (∀n' W',zs w tg nb W5 n' W'->zs w tg nb Y n' W'):=zb λn' W' hh=>zs.trans (λ_ _=>rfl) (m5.mono (λg hg=>.inl (by rw[show g=V from hg,r];simp))) hh
   have ay:pb≠V:=λe=>by
    have h2:wr.heap.size<=pb:=by
     rw[<-aJ];exact AO U.z.size bW
    have h3:=y.z.env.ok pb h2;rw[e,r]at h3;simp at h3
   have z1:=m5.cell (a:=⟨pb,1,none⟩) ay k1;have z4:W5.cell? ⟨nb,4,none⟩=some (.int .u64 nw):=by
    have:=N5.o.obj.cell (j:=4) (v:=.int .u64 N.now) rfl;rw[B]at this;exact this
   have bt:AA (∀wx,DW DX W5 wx->G6 wx (.slice fa I fc) ai):=zb λwx m=>by
    have a:=bm.z Y (DW.refl _ _);refine(a.mod m5 ?_ ?_).mod0 m
    ·intro g o n' c' e x;have hg:=y.z.env.ok g (bX.z g (by cases e;rfl));rw[show g=V from x,r]at hg;simp at hg
    ·intro fr ak g o n' c' e x;have hg:=y.z.env.ok g (bo.z fr ak g (by rw[e];rfl));rw[show g=V from x,r]at hg;simp at hg
   have bZ:=m5.cell (a:=⟨gv,k,none⟩) (λx=>by
    have h3:=a0.z;rw[<-G.z _ (av.z)]at h3;have x:gv=V:=x;rw[x,r]at h3;simp at h3) be
   have aq:=zb N5;have bu:=zb ap;clear N4 N5 m5 r ay k0 k1 be bf bm Q HK bR;go_upto_region 9 with fail;try rw[bu.z]
   clear bu bh bi bj ap;go_wp2_with fail
   go_loopw [10] (λjv wr=>∃j:Nat,j<=I/\jv = .int .i64 j/\AA (DW DX W5 wr)/\AA ((fs.take j).any (E8 nw)=false)) (λjv _=>I-(intOf jv).toNat)
   case atStart=>exact⟨0,AL _,rfl,zb (DW.refl _ _),zb (by rw[CR];rfl)⟩
   case round =>
    obtain⟨j,hj,rfl,s,HL⟩:=hrel;have y1:=s.z.cell (a:=⟨pb,1,none⟩) id z1;have y4:=s.z.cell (a:=⟨nb,4,none⟩) id z4;by_cases b0:j<I
    ·obtain⟨fr,ak⟩:∃fr,ai[j]?=some fr:=⟨ai[j]'(by have:=O.z;rw[<-bn.z,A9]at this;omega),AJ _⟩;obtain⟨a',bk,b5,_,_,h3⟩:=bt.z wr s.z;cases b5;obtain⟨⟨g,o,rfl,hc⟩,_⟩:=h3 j fr ak;obtain⟨am,_,_,_,_,_,_,b6,_⟩:=I8 hc;have z:fs[j]?=some fr.1:=by rw[<-bn.z,BW,ak];rfl
     have HT:=zb (fO z HL.z);have HA:AA (E8 nw fr.1=true->fs.any (E8 nw)=true):=zb (Xn z);obtain⟨kd,aK⟩:=nm fr.1.kind;obtain⟨dl,aL⟩:=nm fr.1.dl;have aM:AA (E8 nw fr.1=(kd==7&&decide (dl<nw))):=by
      show _=_;unfold E8;rw[aK,aL]
     rw[aK]at am;rw[aL]at b6;clear hc h3 ak aK aL z;by_cases bv:kd=7
     ·subst bv;by_cases az:dl<nw
      ·have d1:=Aq az;have t:=ax.z;have X:E8 nw fr.1=true:=by rw[aM.z,d1];rfl
       rw[AN (HA.z X)]at t;subst t;clear X;go_wp2_with fail;go_quiet (fail);go_wp2_with fail;go_ret;exact⟨rfl,ab.z _ _ _ bY.z (s.z.drewN _)⟩
      ·have d1:=Az az;have X:AA (E8 nw fr.1=false):=by show _=_;rw[aM.z,d1];rfl
       go_wp2_with fail;go_quiet (fail);go_wp2_with fail;go_roundw
       case rel=>exact⟨j+1,by omega,by go_num,zb (s.z.drewN _),zb (by rw[HT.z,X.z])⟩
       case measure=>simp[intOf];omega
     ·have d0:=AR.2 bv;have X:AA (E8 nw fr.1=false):=by show _=_;rw[aM.z,d0];rfl
      go_wp2_with fail;go_quiet (fail);go_wp2_with fail;go_roundw
      case rel=>exact⟨j+1,by omega,by go_num,zb (s.z.drewN _),zb (by rw[HT.z,X.z])⟩
      case measure=>simp[intOf];omega
    ·have b7:j=I:=by omega
     have t:=ax.z;have bw:fs.any (E8 nw)=false:=by
      have a:=HL.z;rw[b7,<-O.z,List.take_length]at a;exact a
     rw[bw,AH (by simp)]at t;have bz:=zb t;obtain⟨ba,bc,bA,bB,bC,_⟩:=zi (aq.z.o.bg.own);have p8:W5.cell? ⟨nb,8,none⟩=some Mk.bg:=aq.z.o.obj.cell (j:=8) rfl;have bD:=s.z.cell (a:=⟨nb,8,none⟩) id p8;have bE:=s.z.cell (a:=⟨gv,k,none⟩) id bZ;have N6:=aq.z.free (s.z.drew) (λ_ x=>x.elim);obtain⟨a2,c2,W7,r7,f7,g7,m7,H7⟩:=N6.bagPush J bs (by show N.bag.length<=_;omega);have b8:=zb ((m7.cell (a:=⟨gv,k,none⟩) (λx=>by
      have h3:=a0.z;rw[<-G.z _ (av.z),aq.z.o.bg.tag gv x]at h3;simp at h3) bE))
     have aA:AA (∀W',DW DX (W7.setCell ⟨nb,8,none⟩ (.slice a2 (N.bag.length+1) c2)) W'->zs w tag' nb W1 { N with count:=upd N.count i (ct+1),bag:=N.bag++[(J,bs)] } W'):=zb λW' m'=>zs.trans G.z a6.z (zs.from0 ao.z (bq.z _ _ (zs.from0 ((s.z).drew) (H7 W' m'))))
     obtain⟨BL,al⟩:=nm N.bag.length;have aB:Mk.bg = .slice ba BL bc:=by rw[bA];show Value.slice ba N.bag.length bc=_;rw[al]
     have aC:({ N with count:=upd N.count i (ct+1) }:NS).bag.length=BL:=al;rw[aB]at bD g7 r7;rw[aC]at r7;rw[al]at aA bP;have bF:=zb al;have F7:=zb f7;have G7:=zb g7;have bG:=zb bD;have bH:=zb bE;have R7:=zb r7;clear t bw bA bB bC p8 N6 m7 H7 f7 g7 r7 al aC aB b0;go_upto_region 14 with fail;refine zl 16 (λw'=>w'.cell? ⟨nb,8,none⟩=some (.slice ba BL bc)/\w'.cell? ⟨gv,k,none⟩=some (.string (zq bs))) (⟨bG.z,bH.z⟩) ?_;refine GI 0 ?_;iterate 12
      refine GV rfl ?_;try simp only[PS]
     refine zw 12 rfl (λK hK=>?_);go_simp;refine hK.z _ _ ⟨((DW.refl DX wr.drew).alloc _).cell (a:=⟨nb,8,none⟩) id bG.z,((DW.refl DX wr.drew).alloc _).cell (a:=⟨gv,k,none⟩) id bH.z⟩ ?_;clear hK K;try simp only[PS]
     refine zw 13 rfl (λK hK=>?_);refine zH rfl _ _ _ _ rfl _ _ _ rfl rfl R7.z ?_;refine hK.z _ _ ⟨G7.z,b8.z⟩ ?_;clear hK K;try simp only[PS]
     refine GI 14 ?_;iterate 2
      refine GV rfl ?_;try simp only[PS]
     refine zU rfl (λK hK=>?_);have f7:=F7.z;have g7:=G7.z;go_simp;refine hK.z _ _ ?_;clear hK K;try simp only[PS]
     refine zn ?_;go_wp2_with fail;go_roundw
     case rel =>
      refine⟨k+1,{ N with count:=upd N.count i (ct+1),bag:=N.bag++[(J,bs)] },by omega,by go_num,zb ⟨aA.z _ (DW.refl _ _),?_,Z,B,?_,?_⟩⟩
      ·have a:=bz.z;rw[hJ]at a;exact a
      ·show upd N.count i (ct+1) i<=_;rw[ze];omega
      ·show(N.bag++[(J,bs)]).length<=_;rw[AF,Aa,bF.z];omega
     case measure=>simp[intOf];omega
section
variable {w:World} {tag tag2:Nat->Nat×Nat} {nb:Nat} {n:NS} {M:NV} {W:World}
def De.retag(h:De w tag nb n M W)(hk:∀g,tag2 g=tag g\/((tag g=(3,6)\/tag g=(0,0))/\M.bg.ownBlock≠some g/\(tag2 g=(0,0)\/tag2 g=(3,6))/\g<W.heap.size/\w.heap.size<=g/\2<=g)):De w tag2 nb n M W:=by
 have k3:∀{r:Nat} g,r≠6->tag g=(3,r)->tag2 g=(3,r):=λg a hg=>by
  rcases hk g with x|⟨x|x,_⟩
  ·rw[x,hg]
  ·rw[hg]at x;simp at x;exact absurd x a
  ·rw[hg]at x;simp at x
 have row:∀{r e sz k:Nat} {v:Value} {xs:List Value},r≠6->EX tag r e sz v k xs W->EX tag2 r e sz v k xs W:=λa p=>⟨p.own,λg hg=>k3 g a (p.tag g hg)⟩
 have blk:∀{r b t:Nat} {cs:Array Value},r≠6->Ef tag r b cs t W->Ef tag2 r b cs t W:=λa p=>⟨p.obj,k3 _ a p.tag⟩
 refine
  {o :=
    {obj:=blk (by omega) h.o.obj
     x:=row (by omega) h.o.x
     ev:=row (by omega) h.o.ev
     gv:=row (by omega) h.o.gv
     nx:=row (by omega) h.o.nx
     ct:=row (by omega) h.o.ct
     bg:=⟨h.o.bg.own,λg hg=>?_⟩
     er:=λi hi=>row (by omega) (h.o.er i hi)
     en:=λi hi k hk=>blk (by omega) (h.o.en i hi k hk)
     gr:=λi hi=>row (by omega) (h.o.gr i hi)
     gl:=h.o.gl
     gn:=λi hi j b s hb hs=>blk (by omega) (h.o.gn i hi j b s hb hs) }
   cn:=λi hi=>(h.cn i hi).mod (DW.refl DX W) (λ_ x=>x.elim) (λg hg=>?_)
   env:=⟨λg hg=>?_,h.env.pos,h.env.err,h.env.tab,?_,?_⟩
   nd:=λi hi g r a=>?_
   mod:=h.mod
   t1:=λg hg=>?_ }
 ·rcases hk g with x|⟨_,x,_⟩
  ·rw[x];exact h.o.bg.tag g hg
  ·exact absurd hg x
 ·rcases hk g with x|⟨x|x,_⟩
  ·exact x
  ·rw[x]at hg;simp at hg;omega
  ·rw[x]at hg;simp at hg
 ·rcases hk g with x|⟨_,_,_,x,_⟩
  ·rw[x];exact h.env.ok g hg
  ·omega
 ·rcases hk 0 with x|⟨_,_,_,_,_,x⟩
  ·rw[x];exact h.env.g0
  ·omega
 ·rcases hk 1 with x|⟨_,_,_,_,_,x⟩
  ·rw[x];exact h.env.g1
  ·omega
 ·rcases hk g with x|⟨_,_,x|x,_⟩
  ·rw[x];exact h.nd i hi g r a
  ·rw[x];intro y;have:=A0 Prod.fst y;simp at this
  ·rw[x];intro y;have:=A0 Prod.fst y;simp only at this;omega
 ·rcases hk g with x|⟨_,_,_,_,x,_⟩
  ·rw[x]at hg;exact h.t1 g hg
  ·exact x
def De.aside(h:De w tag nb n M W):∃tag2 M2,De w tag2 nb { n with bag:=[] } M2 (W.setCell ⟨nb,8,none⟩ (.slice none 0 0))/\(W.setCell ⟨nb,8,none⟩ (.slice none 0 0)).ownsRow 0 62 2 M.bg n.bag.length (zK n.bag)/\(∀q,M.bg.ownBlock=some q->tag2 q=(0,0)) /\
  ∀n' W3,zs w tag2 nb (W.setCell ⟨nb,8,none⟩ (.slice none 0 0)) n' W3->zs w tag nb W n' W3:=by
 obtain⟨W',f⟩:=nm (W.setCell ⟨nb,8,none⟩ (.slice none 0 0));have i:=h.o.obj.tag;have a:∀q,M.bg.ownBlock=some q->tag q=(3,6)/\q<W.heap.size:=λq a=>⟨h.o.bg.tag q a,by
  rcases h.o.bg.own.2 with⟨e,_⟩|⟨q',c',cur,e,_,x,_⟩
  ·rw[e]at a;cases a
  ·rw[e]at a;cases a;exact(AI.1 x).1⟩
 have m:DW (λg=>g=nb) W W':=by rw[<-f];exact(DW.refl (λg=>g=nb) W).setCell (p:=⟨nb,8,none⟩) (.inl rfl) _
 have l:=m.owns h.o.bg.own (λg hg x=>by
  have:=(a g hg).1;rw[show g=nb from x,i]at this;simp at this)
 have o' :=
  h.o.bagS (.slice none 0 0) [] m (λg hg=>.inl (by rw[show g=nb from hg,i])) (λ_ _=>rfl) (by rw[<-f,zc h.o.obj.obj];rfl) (World.ownsRow_nil W' 0 _ 2) (λg hg=>by cases hg)
 have h':=h.own o' rfl rfl rfl m (λg hg=>.inl (by rw[show g=nb from hg,i])) (Dj.same h.env.ok m);have sz:W'.heap.size=W.heap.size:=by rw[<-f];simp[World.setCell]
 have two:∀q,M.bg.ownBlock=some q->2<=q:=λq b=>by
  have t:=(a q b).1;have g0:=h.env.g0;have g1:=h.env.g1;rcases(show q=0\/q=1\/2<=q by omega)with rfl|rfl|x
  ·rw[t]at g0;simp at g0
  ·rw[t]at g1;simp at g1
  ·exact x
 obtain⟨tag2,c⟩:=nm ((λg=>if M.bg.ownBlock=some g then(0,0)else tag g));have n2:De w tag2 nb { n with bag:=[] } { M with bg:=.slice none 0 0 } W':=h'.retag (λg=>by
  rw[<-c];by_cases x:M.bg.ownBlock=some g
  ·exact .inr ⟨.inl (a g x).1,by simp[Value.ownBlock],.inl (AN x),by rw[sz];exact(a g x).2,h.t1 g (by rw[(a g x).1];simp),two g x⟩
  ·exact .inl (AH x))
 rw[f];refine⟨tag2,_,n2,l,λq b=>by rw[<-c];exact AN b,λn' W3 hn=>?_⟩;obtain⟨j,u,v,k,z⟩:=hn;obtain⟨d,r⟩:=nm ((λg=>if M.bg.ownBlock=some g then(3,6)else j g));have s:∀q,M.bg.ownBlock=some q->j q=(0,0):=λq b=>by
  rw[k q (by rw[sz];exact(a q b).2),<-c];exact AN b
 have n4:De w d nb n' u W3:=v.retag (λg=>by
  rw[<-r];by_cases x:M.bg.ownBlock=some g
  ·refine .inr ⟨.inr (s g x),λy=>?_,.inr (AN x),Aw (by rw[sz];exact(a g x).2) z.size,h.t1 g (by rw[(a g x).1];simp),two g x⟩;have:=v.o.bg.tag g y;rw[s g x]at this;simp at this
  ·exact .inl (AH x))
 have old:∀g,g<W.heap.size->d g=tag g:=λg hg=>by
  rw[<-r];by_cases x:M.bg.ownBlock=some g
  ·simp only[AN x];exact(a g x).1.symm
  ·simp only[AH x];rw[k g (by rw[sz];exact hg),<-c];exact AH x
 refine⟨d,u,n4,old,(m.mono (λg hg=>.inl (by rw[show g=nb from hg,i];simp))).then z (λg hg=>.inl (λy=>hg ?_))⟩;rw[<-c];simp only;split
 ·rfl
 ·exact y
end
theorem Sd:∀(l:List (Nat×List UInt8)) {n:NS} {ok:Bool} {T:Nat},n.Inv T->(∀p∈l,p.1<2/\0<p.2.length/\p.2.length<=400)->T+400*l.length<=Dg->(NS.recvs l n ok).2.Inv (T+400*l.length)
 | [],_,_,_,h,_,_=>h
 | f::l,n,ok,T,h,hl,hT=>by
  simp only[AQ]at hT ⊢;have h1:=(h.recv f.1 f.2 (by have:=(hl f Ae).2.2;omega)).mono (show T+f.2.length<=T+400 by have:=(hl f Ae).2.2;omega);have h2:=Sd l (ok:=ok&&(n.recv f.1 f.2).2.1&&(n.recv f.1 f.2).1==0) h1 (λp hp=>hl p (Aj _ hp)) (by omega);exact h2.mono (by omega)
theorem R8:∀(l:List (Nat×List UInt8)) {n:NS} {ok:Bool},n.Up->(NS.recvs l n ok).1=true->(NS.recvs l n ok).2.Up/\ok=true
 | [],_,_,u,h=>⟨u,h⟩
 | f::l,n,ok,u,h=>by
  have k:(NS.recvs l (n.recv f.1 f.2).2.2 (ok&&(n.recv f.1 f.2).2.1&&(n.recv f.1 f.2).1==0)).1=true:=h;by_cases hc:(n.recv f.1 f.2).1=0
  ·obtain⟨a,b⟩:=R8 l (u.recv f.1 f.2 (.inl hc)) k;simp only[AZ]at b;exact⟨a,b.1.1⟩
  ·exfalso;have hf:∀(l:List (Nat×List UInt8)) (n:NS),(NS.recvs l n false).1=false:=by
    intro l
    induction l with
    | nil=>intro n;rfl
    | cons f l ih=>intro n;exact ih _
   have e:(ok&&(n.recv f.1 f.2).2.1&&(n.recv f.1 f.2).1==0)=false:=by
    rw[AR.2 hc,Bool.and_false]
   rw[e,hf]at k;cases k
theorem Sc:∀(l:List (Nat×List UInt8)) (n:NS) (ok:Bool),(NS.recvs l n ok).2.bag=n.bag
 | [],_,_=>rfl
 | f::l,n,ok=>(Sc l (n.recv f.1 f.2).2.2 _).trans rfl
def Vj(n:NS)(i k most:Nat):(n.read i k most).2.bag=n.bag:=by
 unfold NS.read;split<;>rfl
theorem TB:∀(l:List (Nat×Nat)) (n:NS) (ok:Bool),(NS.reads l n ok).2.bag=n.bag
 | [],_,_=>rfl
 | p::l,n,ok=>(TB l (n.read p.1 p.2 4096).2 _).trans (Vj _ _ _ _)
theorem TA:∀(l:List (Nat×Nat)) {n:NS} {ok:Bool} {T:Nat},n.Inv T->(NS.reads l n ok).2.Inv T
 | [],_,_,_,h=>h
 | p::l,_,_,_,h=>TA l (h.read p.1 p.2 4096)
theorem Rz:∀(l:List (Nat×Nat)) {n:NS} {ok:Bool},n.Up->(NS.reads l n ok).2.Up
 | [],_,_,u=>u
 | p::l,_,_,u=>Rz l (u.read p.1 p.2 4096)
theorem Ry:∀(l:List (Nat×Nat)) {n:NS} {ok:Bool},(NS.reads l n ok).1=true->ok=true
 | [],_,_,h=>h
 | p::l,n,ok,h=>by
  have:=Ry l (n:=(n.read p.1 p.2 4096).2) h;simp only[AZ]at this;exact this.1
def Pr(hT:T<=Dg)(h:n.Inv T)(hi:i<2):(n.flush i).2.bag.length<=n.bag.length+21:=by
 have hp:=(h.c i hi).pkPost hT;have ha:=(h.c i hi).acks.2.2;have hl:(n.c i).packets.1.length<=21:=by have:=hp.z.1;omega
 unfold NS.flush;obtain⟨c',m,h1,h2,h3,h4⟩:=OC i (n.c i).packets.1 (n.setC i (n.c i).packets.2);rw[h1];show(n.bag++m).length<=_;rw[AF];omega
def TY(hb:n.bag=[]):n.step JZ=(true,n.tick):=by
 unfold NS.step JZ;simp only[show ¬((5:Int)=1)by decide,show ¬((5:Int)=2)by decide,show ¬((5:Int)=3)by decide,show ¬((5:Int)=4)by decide,BY,A5];unfold NS.carry;have e:n.tick.bag=[]:=hb;rw[AN e]
def fairC:Nat:=16803
def fN(hT:T+fairC<=Dg)(h:n.Inv T)(u:n.Up)(hb:n.bag=[]):n.fair1.2.Inv (T+fairC)/\n.fair1.2.bag=[]/\(n.fair1.1=true->n.fair1.2.Up):=by
 unfold fairC at hT ⊢;unfold NS.fair1;rw[TY hb];simp only;have h1:=h.tick;have u1:=u.tick;have b1:n.tick.bag=[]:=hb;unfold NS.fairA NS.fairB NS.fairC;have h2:=h1.flush (i:=0) (by omega) (by omega);have u2:=NS.Up.flush (i:=0) (by omega) h1 u1 (by omega);have a:=Pr (i:=0) (by omega) h1 (by omega);rw[b1]at a;have h3:=h2.flush (i:=1) (by omega) (by omega);have u3:=NS.Up.flush (i:=1) (by omega) h2 u2 (by omega);have l3:=Pr (i:=1) (by omega) h2 (by omega);generalize ((n.tick.flush 0).2.flush 1).2=N at *;simp only[AX]at a;have h4:({ N with bag:=[] }:NS).Inv (T+1+1+1):=⟨h3.mtu,h3.win,h3.c,h3.e,h3.now,h3.next,h3.count,h3.gl,h3.g,AL _,λp hp=>(by cases hp)⟩;refine⟨?_,?_,λok=>?_⟩
 ·have x:=Sd N.bag (ok:=true&&(n.tick.flush 0).1&&((n.tick.flush 0).2.flush 1).1) h4 h3.bag (by omega);exact(TA Gl x).mono (by omega)
 ·rw[TB,Sc]
 ·exact Rz _ (R8 _ (n:={ N with bag:=[] }) u3 (Ry _ ok)).1
def Vi:(prog.info? 52).map (λi=>(i.zero,i.size,i.bytes))=some (some (.pointer none),1,8):=by kernel_rfl
def Du.nxAt(h:Du tag nb n M W)(hi:i<2):∃g cap,M.nx = .slice (some ⟨g,0,none⟩) 2 cap/\W.cell? ⟨nb,3,none⟩=some (.slice (some ⟨g,0,none⟩) 2 cap)/\(2<=cap/\cap<=9223372036854775807)/\W.cell? ⟨g,i,none⟩=some (.int .u64 (n.next i:Int))/\W.frozen? ⟨g,i,none⟩=false/\tag g=(3,4):=by
 obtain⟨g,cap,a,e2,e3,e4⟩:=h.nx.form (by omega);have c0:W.cell? ⟨nb,3,none⟩=some M.nx:=h.obj.cell (j:=3) rfl;have x:=h.nx.own;rw[a]at c0 x;have y:=IH x (i:=i) (v:=.int .u64 (n.next i:Int)) (by
  rcases(show i=0\/i=1 by omega)with rfl|rfl<;>rfl)
 unfold maxLen at e3;exact⟨g,cap,a,c0,⟨e2,by omega⟩,y.1,y.2,e4⟩
def De.nxS(h:De w tag nb n M W)(hi:i<2)(x:Nat)(hg:M.nx = .slice (some ⟨g,0,none⟩) 2 cap):De w tag nb { n with next:=upd n.next i x } M (W.setCell ⟨g,i,none⟩ (.int .u64 x)):=by
 have ht:=h.o.nx.tag g (by rw[hg];rfl);have m:DW (λq=>q=g) W (W.setCell ⟨g,i,none⟩ (.int .u64 x)):=(DW.refl (λq=>q=g) W).setCell (p:=⟨g,i,none⟩) (.inl rfl) _;exact h.own (h.o.nxS hi x hg) rfl rfl rfl m (λq hq=>.inl (by rw[show q=g from hq,ht])) (Dj.same h.env.ok m)
def De.gramPushed(h:De w tag nb n M W)(hi:i<2)(A:SN)(hl:(n.g i).length<=1000000000000):∃gg cg ga ca a c W2,W.cell? ⟨nb,2,none⟩=some (.slice (some ⟨gg,0,none⟩) 2 cg)/\(2<=cg/\cg<=9223372036854775807)/\W.cell? ⟨gg,i,none⟩=some (.slice ga (n.g i).length ca)/\tag gg=(3,3) /\
   (∀ty,(Builtin.append_ #[49,49] ty #[.slice ga (n.g i).length ca,.slice (some ⟨W.heap.size+1,0,none⟩) 1 1]).run prog ((W.alloc (.cells (Jq A) 51)).alloc (.cells #[.pointer (some ⟨W.heap.size,0,none⟩)] 52)) = .ok (.slice a ((n.g i).length+1) c) W2)/\W2.frozen? ⟨gg,i,none⟩=false/\(∃u,W2.cell? ⟨gg,i,none⟩=some u)/\DW (λq=>tag q=(3,9+i)) W W2 /\
   ∀W',DW DX (W2.setCell ⟨gg,i,none⟩ (.slice a ((n.g i).length+1) c)) W'->zs w tag nb W { n with g:=upd n.g i (n.g i++[A]) } W':=by
 obtain⟨ii,N,hz,O,Q⟩:=info_parts Vi;obtain⟨gg,cg,R,e2,e3,D⟩:=h.o.gv.form (by omega);obtain⟨ga,ca,f1,f2,f3,f4⟩:=zi (h.o.gr i hi).own;have G:=h.o.gl i hi;have c0:W.cell? ⟨nb,2,none⟩=some M.gv:=h.o.obj.cell (j:=2) rfl;have x:=h.o.gv.own;rw[R]at c0 x;have y:=IH x (i:=i) (v:=M.gr i) (by
  rcases(show i=0\/i=1 by omega)with rfl|rfl<;>rfl)
 unfold maxLen at e3;obtain⟨W1,r⟩:=nm (W.alloc (.cells (Jq A) 51));obtain⟨E,s⟩:=nm (W1.alloc (.cells #[.pointer (some ⟨W.heap.size,0,none⟩)] 52));have m1:=AB r
 have H:=AB s
 have m0:=m1.trans H;have s1:=AC r
 have s0:E.heap.size=W.heap.size+2:=by rw[<-s];simp[s1]
 have S:=AD r
 have T:E.heap[W.heap.size+1]?=some (.cells #[.pointer (some ⟨W.heap.size,0,none⟩)] 52 (0,0)):=by rw[<-s,<-s1];exact heap_alloc_new W1 _
 have hc:∀(j:Nat) u,[Ee W.heap.size][j]?=some u->E.cell? ((⟨W.heap.size+1,0,none⟩:Addr).add j)=some u:=λj u hj=>by
  rw[zS];refine za T ?_;rw[Au,<-Array.getElem?_toList];exact hj
 obtain⟨m,W2,U,V,g2,n2⟩:=zJ (P:=prog) E 49 52 ii _ 1 8 underlying49 N hz O Q rfl (by decide) (M.gr i) (M.gb i).length ((M.gb i).map Ee) (m0.owns (h.o.gr i hi).own (λ_ _ x=>x))
  ⟨W.heap.size+1,0,none⟩ 1 1 [Ee W.heap.size] rfl hc (by intro u hu;simp at hu;subst hu;rfl) (by unfold maxLen;omega) (by omega)
 have f:=(h.o.gr i hi).tag;have X:=(DW.refl _ E).grown g2 (λq d=>.inl d);have Y:=(m0.mono (λ_ x=>x.elim)).then X (λq d=>.inl (f q d));have ac:W.heap.size+2<=W2.heap.size:=by rw[<-s0];exact X.size
 have Z:∀q,m.ownBlock=some q->q<W2.heap.size:=λq d=>by
  rcases V.2 with⟨e,_⟩|⟨q',c',aa,e,_,x,_⟩
  ·rw[e]at d;cases d
  ·rw[e]at d;cases d;exact(AI.1 x).1
 have I:∀q,m.ownBlock=some q->tag q=(3,9+i)\/W.heap.size+2<=q:=λq d=>by
  rcases n2 q d with z|z
  ·exact .inl (f q z)
  ·exact .inr (by omega)
 have b:=λq d=>h.env.ok q d
 obtain⟨tag',k⟩:=nm ((λg=>if g=W.heap.size then(3,40+2*(M.gb i).length+i)else if W.heap.size<=g/\m.ownBlock=some g/\g<W2.heap.size then(3,9+i)else tag g));have old:∀g,g<W.heap.size->tag' g=tag g:=λg hg=>by
  rw[<-k];simp only;rw[AH (by omega),AH (λx=>by omega)]
 have B:∀g,tag g≠(0,0)->tag' g=tag g:=λg hg=>by
  by_cases q:g<W.heap.size
  ·exact old g q
  ·exact absurd (b g (by omega)) hg
 have J:=zk y.1;have C:¬tag gg=(3,9+i):=λx=>by rw[D]at x;simp at x;omega
 have K:m.ownBlock≠some gg:=λx=>by
  rcases I gg x with z|z
  ·exact C z
  ·omega
 obtain⟨F,t⟩:=nm (W2.setCell ⟨gg,i,none⟩ m);have m3:DW (λg=>g=gg) W2 F:=by rw[<-t];exact(DW.refl (λg=>g=gg) W2).setCell (p:=⟨gg,i,none⟩) (.inl rfl) m
 have m4:DW (λg=>tag g=(3,9+i)\/g=gg) W F:=(Y.mono (λg hg=>.inl (.inl hg))).trans (m3.mono (λg hg=>.inl (.inr hg)));have x2:W2.ownsRow 0 49 1 (.slice (some ⟨gg,0,none⟩) 2 cg) 2 [M.gr 0,M.gr 1]:=Y.owns x (λg hg z=>by cases hg;exact C z);have ab:F.heap[W.heap.size]?=some (.cells (Jq A) 51 (0,0)):=by
  refine m3.obj (λz=>by have z:=z;omega) (X.obj (λz=>?_) (H.obj (λz=>z) S));have:=f _ z;rw[b _ (AG _)]at this;simp at this
 have o':Du tag' nb { n with g:=upd n.g i (n.g i++[A]) } { M with gr:=upd M.gr i m,gb:=upd M.gb i (M.gb i++[W.heap.size]) } F:=by
  refine h.o.gramPush hi A m m4 (λg hg=>?_) B ⟨?_,λg hg=>?_⟩ (m3.owns ?_ (λg hg z=>K (by rw[hg,show g=gg from z]))) (λg hg=>?_) ab ?_
  ·rcases hg with z|z
   ·exact .inr (.inl z)
   ·rw[z];exact .inl D
  ·have z:=PM (i:=i) m x2;rw[t]at z;rw[R];rcases(show i=0\/i=1 by omega)with rfl|rfl
   ·exact z
   ·exact z
  ·rw[R]at hg;cases hg;rw[old gg J,D]
  ·rw[BO];exact V
  ·rcases I g hg with z|z
   ·rw[B g (by rw[z];simp),z]
   ·rw[<-k];simp only;rw[AH (by omega),AN ⟨by omega,hg,Z g hg⟩]
  ·rw[<-k];exact AN rfl
 have L:F.heap.size=W2.heap.size:=by rw[<-t];simp[World.setCell]
 have N3:De w tag' nb { n with g:=upd n.g i (n.g i++[A]) } { M with gr:=upd M.gr i m,gb:=upd M.gb i (M.gb i++[W.heap.size]) } F:=by
  refine h.own o' rfl rfl rfl m4 (λg hg=>?_) ⟨old,λg hg=>?_,λg hg=>?_⟩
  ·rcases hg with z|z
   ·exact .inl (by rw[z])
   ·exact .inl (by rw[z,D])
  ·rw[<-k];simp only;split
   ·exact .inl rfl
   ·split
    ·exact .inl rfl
    ·exact .inr (b g hg)
  ·rw[L]at hg;rw[<-k];simp only;rw[AH (by omega),AH (λx=>by omega)];exact b g (by omega)
 obtain⟨a2,c2,l,-⟩:=zi V;rw[G]at l f1;rw[f1]at y U;refine⟨gg,cg,ga,ca,a2,c2,W2,c0,⟨e2,by omega⟩,y.1,D,?_,?_,⟨M.gr i,?_⟩,Y,λW' m'=>?_⟩
 ·rw[r,s];rw[l]at U;exact U
 ·rcases x2.2 with⟨e,_⟩|⟨g',ad,aa,e,_,h1,_⟩
  ·cases e
  ·cases e;exact zf h1
 ·exact(IH x2 (i:=i) (by
   rcases(show i=0\/i=1 by omega)with rfl|rfl<;>rfl)).1
 ·rw[<-l,t]at m';exact zs.then0 ⟨tag',_,N3,old,m4.mono (λg hg=>.inl (by
   rcases hg with z|z
   ·rw[z];simp
   ·rw[z,D];simp))⟩ m'
def Gp:Nat->Nat
 | 0=>69
 | 1=>87
 | 2=>49
 | _=>43
def JI:Nat->Nat
 | 4=>9
 | r=>r
def Iy(mt wn tt:Nat)(R:Nat->Value):Array Value:=#[R 0,R 1,R 2,R 3,.int .u64 0,.int .i64 mt,.int .i64 wn,.int .i64 tt,.slice none 0 0,R 4]
structure BN(w:World)(tag:Nat->Nat×Nat)(nb mt wn tt:Nat)(R:Nat->Value)(L:Nat->List Value)(C:Nat)(b:Nat->Nat)(V:Nat->CV)(D:Nat)(er:Nat->Value)(eb:Nat->Nat)(W:World):Prop where
 obj:Ef tag 0 nb (Iy mt wn tt R) 48 W
 row:∀r,r<5->EX tag (r+1) (Gp r) 1 (R r) (L r).length (L r) W
 en:∀d,d<D->Ef tag (20+d) (eb d) (FM EN.zero) 89 W
 er:∀j,j<2->8*j<D->EX tag (7+j) 86 1 (er j) (min 8 (D-8*j)) ((List.range (min 8 (D-8*j))).map λk=>Ee (eb (8*j+k))) W
 cn:∀j,j<C->zg tag (j+1) (b j) (CS.new mt wn tt) (V j) W
 c2:C<=2
 d16:D<=16
 env:Dx 1 tag W
 nd:∀j,j<2->Fn (j+1) tag
 mod:DW DX w W
 t1:∀g,tag g≠(0,0)->w.heap.size<=g
section
variable {S:Nat->Prop} {w:World} {tag tag':Nat->Nat×Nat} {nb mt wn tt:Nat} {R:Nat->Value} {L:Nat->List Value} {C:Nat} {b:Nat->Nat} {V:Nat->CV} {D:Nat} {er:Nat->Value} {eb:Nat->Nat} {W W':World}
def BN.mod0(h:BN w tag nb mt wn tt R L C b V D er eb W)(m:DW DX W W'):BN w tag nb mt wn tt R L C b V D er eb W' :=
 {obj:=h.obj.mod m (λ_ x=>x.elim) (λ_ _=>rfl)
  row:=λr hr=>(h.row r hr).mod m (λ_ x=>x.elim) (λ_ _=>rfl)
  en:=λd hd=>(h.en d hd).mod m (λ_ x=>x.elim) (λ_ _=>rfl)
  er:=λj a hd=>(h.er j a hd).mod m (λ_ x=>x.elim) (λ_ _=>rfl)
  cn:=λj a=>(h.cn j a).mod0 m
  c2:=h.c2,d16:=h.d16,env:=h.env.mod0 m,nd:=h.nd,mod:=h.mod.trans m,t1:=h.t1 }
variable{q:Nat}
def BN.conn(h:BN w tag nb mt wn tt R L C b V D er eb W)(hC:C<2)(hL:Dn tag (C+1) q W (CS.new mt wn tt) W'):∃tag' V',BN w tag' nb mt wn tt R L (C+1) (upd b C q) V' D er eb W':=by
 obtain⟨tag',V',a,e,m,d⟩:=hL.nodr (by omega) (h.nd C hC);have old:∀g,tag g≠(0,0)->tag' g=tag g:=λg hg=>by
  by_cases q:g<W.heap.size
  ·exact e.old g q
  ·exact absurd (h.env.ok g (by omega)) hg
 have c:∀{r:Nat} g,(tag g).1=C+1->tag g≠(3,r):=λg hg x=>by rw[x]at hg;simp only at hg;omega
 refine⟨tag',upd V C V',
  {obj:=h.obj.mod m c old
   row:=λr hr=>(h.row r hr).mod m c old
   en:=λd hd=>(h.en d hd).mod m c old
   er:=λj f hd=>(h.er j f hd).mod m c old
   cn:=λj f=>?_
   c2:=by omega
   d16:=h.d16
   env:=((h.env.to (j:=C+1) (by omega)).left e m).to (by omega)
   nd:=λj f=>?_
   mod:=h.mod.then m (λg hg=>.inr (h.t1 g (λx=>by rw[x]at hg;simp at hg)))
   t1:=λg hg=>?_ }⟩
 ·by_cases x:j=C
  ·subst x;rw[ze,ze];exact a
  ·rw[zd _ _ x,zd _ _ x];exact(h.cn j (by omega)).mod m (λg hg y=>by omega) (λg hg=>old g (λy=>by rw[y]at hg;simp at hg))
 ·by_cases x:j=C
  ·subst x;exact d
  ·exact(h.nd j f).other e (by omega) (by omega)
 ·by_cases x:g<W.heap.size
  ·exact h.t1 g (by rw[<-e.old g x];exact hg)
  ·have:=h.mod.size;omega
def BN.build{R':Nat->Value}{i:Nat->List Value}{c:Nat}{f:Nat->Value}{a:Nat->Nat}(h:BN w tag nb mt wn tt R L C b V D er eb W)(m:DW S W W')(hS:∀g,S g->(tag g).1=3\/W.heap.size<=g)(e:Dj 3 tag tag' W W')
  (obj:Ef tag' 0 nb (Iy mt wn tt R') 48 W')
  (row:∀r,r<5->EX tag' (r+1) (Gp r) 1 (R' r) (i r).length (i r) W')
  (en:∀d,d<c->Ef tag' (20+d) (a d) (FM EN.zero) 89 W')
  (l:∀j,j<2->8*j<c->EX tag' (7+j) 86 1 (f j) (min 8 (c-8*j)) ((List.range (min 8 (c-8*j))).map λk=>Ee (a (8*j+k))) W') (hD:c<=16) :
  BN w tag' nb mt wn tt R' i C b V c f a W':=by
 have old:∀g,tag g≠(0,0)->tag' g=tag g:=λg hg=>by
  by_cases q:g<W.heap.size
  ·exact e.old g q
  ·exact absurd (h.env.ok g (by omega)) hg
 have c2:=h.c2;have n:=m.mono hS;exact
  {obj:=obj,row:=row,en:=en,er:=l,c2:=h.c2,d16:=hD
   cn:=λj o=>(h.cn j o).mod n (λg hg y=>by omega) (λg hg=>old g (λy=>by rw[y]at hg;simp at hg))
   env:=((h.env.to (j:=3) (by omega)).left e n).to (by omega)
   nd:=λj o=>(h.nd j o).other e (by omega) (by omega)
   mod:=h.mod.then n (λg hg=>.inr (h.t1 g (λx=>by rw[x]at hg;simp at hg)))
   t1:=λg hg=>by
    by_cases x:g<W.heap.size
    ·exact h.t1 g (by rw[<-e.old g x];exact hg)
    ·have:=h.mod.size;omega }
variable{r:Nat}
def Kq(mt wn tt:Nat)(R:Nat->Value)(hr:r<5)(v:Value):(Iy mt wn tt R).setIfInBounds (JI r) v=Iy mt wn tt (upd R r v):=by
 rcases(show r=0\/r=1\/r=2\/r=3\/r=4 by omega)with rfl|rfl|rfl|rfl|rfl<;>rfl
def Qc(mt wn tt:Nat)(R:Nat->Value)(hr:r<5):(Iy mt wn tt R)[JI r]?=some (R r):=by
 rcases(show r=0\/r=1\/r=2\/r=3\/r=4 by omega)with rfl|rfl|rfl|rfl|rfl<;>rfl
variable{e sz:Nat}{v:Value}{xs:List Value}
def PL(h:W.ownsRow 0 e sz v N xs)(a:v.ownBlock=some q):q<W.heap.size:=by
 rcases h.2 with⟨e,_⟩|⟨q',c',cur,e,_,x,_⟩
 ·rw[e]at a;cases a
 ·rw[e]at a;cases a;exact(AI.1 x).1
def BN.push(h:BN w tag nb mt wn tt R L C b V D er eb W)(v:r<5)(u:Value)(h1:u.oneCell'=true)(t by_:Nat){z:Value}(A:(prog.info? (Gp r)).map (λi=>(i.zero,i.size,i.bytes))=some (some z,1,by_))(hz:z.cells.size=1)(ht:prog.underlying t=some (.slice (Gp r)))(N:by_<=24)(hl:(L r).length<=1000):∃va ca a c W2,R r = .slice va (L r).length ca/\W.cell? ⟨nb,JI r,none⟩=some (.slice va (L r).length ca)/\(∀ty,(Builtin.append_ #[t,t] ty #[.slice va (L r).length ca,.slice (some ⟨W.heap.size,0,none⟩) 1 1]).run prog (W.alloc (.cells #[u] (Gp r))) = .ok (.slice a ((L r).length+1) c) W2)/\W2.cell? ⟨nb,JI r,none⟩=some (.slice va (L r).length ca)/\W2.frozen? ⟨nb,JI r,none⟩=false /\
   ∃tag',∀W',DW DX (W2.setCell ⟨nb,JI r,none⟩ (.slice a ((L r).length+1) c)) W'->BN w tag' nb mt wn tt (upd R r (.slice a ((L r).length+1) c)) (upd L r (L r++[u])) C b V D er eb W':=by
 obtain⟨ii,O,Q,S,T⟩:=info_parts A;obtain⟨va,ca,f1,f2,f3,f4⟩:=zi (h.row r v).own;obtain⟨W1,l⟩:=nm (W.alloc (.cells #[u] (Gp r)));have m1:=AB l
 have s1:=AC l
 have hc:∀(j:Nat) x,[u][j]?=some x->W1.cell? ((⟨W.heap.size,0,none⟩:Addr).add j)=some x:=λj x U=>by
  rw[zS,<-l];refine za (heap_alloc_new W _) ?_;rw[Au,<-Array.getElem?_toList];exact U
 obtain⟨o,W2,r2,X,g2,n2⟩:=zJ (P:=prog) W1 t (Gp r) ii _ 1 by_ ht O Q S T hz (by decide) (R r) (L r).length (L r) (m1.owns (h.row r v).own (λ_ _ x=>x))
  ⟨W.heap.size,0,none⟩ 1 1 [u] rfl hc (by intro x J;simp at J;subst J;exact h1) (by unfold maxLen;omega) (by
   have:((L r).length+1)*by_<=1001*24:=Nat.mul_le_mul (by omega) N;omega)
 have E:=(h.row r v).tag;have m2:=(DW.refl _ W1).grown g2 (λq s=>.inl s);have Y:=(m1.mono (λ_ x=>x.elim)).then m2 (λq s=>.inl (E q s));have F:∀q,o.ownBlock=some q->tag q=(3,r+1)\/W.heap.size<=q:=λq s=>by
  rcases n2 q s with x|x
  ·exact .inl (E q x)
  ·exact .inr (by omega)
 have Z:∀q,o.ownBlock=some q->q<W2.heap.size:=λq s=>PL X s
 have f:=h.obj.tag;have G:¬tag nb=(3,r+1):=λx=>by rw[f]at x;simp at x
 have aa:o.ownBlock≠some nb:=λx=>by
  rcases F nb x with y|y
  ·exact G y
  ·rw[h.env.ok nb y]at f;simp at f
 obtain⟨tag',m⟩:=nm ((λg=>if W.heap.size<=g/\o.ownBlock=some g/\g<W2.heap.size then(3,r+1)else tag g));have old:∀g,g<W.heap.size->tag' g=tag g:=λg hg=>by
  rw[<-m];exact AH (λx=>by omega)
 have e:∀g,tag g≠(0,0)->tag' g=tag g:=λg hg=>by
  by_cases q:g<W.heap.size
  ·exact old g q
  ·exact absurd (h.env.ok g (by omega)) hg
 obtain⟨K,n⟩:=nm (W2.setCell ⟨nb,JI r,none⟩ o);have m3:DW (λg=>g=nb) W2 K:=by rw[<-n];exact(DW.refl (λg=>g=nb) W2).setCell (p:=⟨nb,JI r,none⟩) (.inl rfl) o
 have M:DW (λg=>tag g=(3,r+1)\/tag g=(3,0)) W K:=(Y.mono (λg hg=>.inl (.inl hg))).trans (m3.mono (λg hg=>.inl (.inr (by rw[show g=nb from hg,f]))));have H:K.heap.size=W2.heap.size:=by rw[<-n];simp[World.setCell]
 have k:=Y.obj G h.obj.obj;have q4:∀{x:Nat},x≠r+1->x≠0->∀g,(tag g=(3,r+1)\/tag g=(3,0))->tag g≠(3,x):=λa b g hg y=>by
  rcases hg with z|z<;>rw[y]at z<;>simp at z
  ·exact a z
  ·exact b z
 have B:BN w tag' nb mt wn tt (upd R r o) (upd L r (L r++[u])) C b V D er eb K:=by
  refine h.build M (λg hg=>.inl (by rcases hg with z|z<;>rw[z])) ⟨old,λg hg=>?_,λg hg=>?_⟩ ⟨?_,by rw[e nb (by rw[f];simp),f]⟩ (λx J=>?_) (λd hd=>(h.en d hd).mod M (q4 (by omega) (by omega)) e) (λj U hd=>(h.er j U hd).mod M (q4 (by omega) (by omega)) e) h.d16
  ·rw[<-m];simp only;split
   ·exact .inl rfl
   ·exact .inr (h.env.ok g hg)
  ·rw[H]at hg;rw[<-m];simp only;rw[AH (λx=>by omega)];have:=Y.size;exact h.env.ok g (by omega)
  ·rw[<-n,zc k,Kq _ _ _ _ v]
  ·by_cases y:x=r
   ·subst y;rw[ze,ze,AF,Aa];refine⟨m3.owns X (λg hg z=>aa (by rw[hg,show g=nb from z])),λg hg=>?_⟩;rcases F g hg with z|z
    ·rw[e g (by rw[z];simp),z]
    ·rw[<-m];exact AN ⟨z,hg,Z g hg⟩
   ·rw[zd _ _ y,zd _ _ y];exact(h.row x J).mod M (q4 (by omega) (by omega)) e
 obtain⟨a2,c2,I,-⟩:=zi X;subst I;rw[f1]at r2;refine⟨va,ca,a2,c2,W2,f1,by rw[<-f1];exact h.obj.cell (Qc _ _ _ _ v),by rw[l];exact r2,?_,zf k,tag',λW' m'=>?_⟩
 ·rw[<-f1];exact za k (Qc _ _ _ _ v)
 ·rw[n]at m';exact B.mod0 m'
end
def NS.fairAt(i:Nat)(n:NS)(ok:Bool):Bool×NS:=if i=0 then n.fairA ok else if i=1 then n.fairB ok else n.fairC ok
def ge(hi:i<2)(n:NS)(ok:Bool):NS.fairAt i n ok=NS.fairAt (i+1) (n.flush i).2 (ok&&(n.flush i).1):=by
 rcases(show i=0\/i=1 by omega)with rfl|rfl<;>rfl
def Xm:∀i,i<2->∀k,k<8->Gl.drop (8*i+k)=(i,k)::Gl.drop (8*i+k+1):=by decide
def fM(hi:i<2)(hk:k<8)(n:NS)(ok:Bool):NS.reads (Gl.drop (8*i+k)) n ok=NS.reads (Gl.drop (8*i+k+1)) (n.read i k 4096).2 (ok&&(n.read i k 4096).1):=by
 rw[Xm i hi k hk];rfl
def fL{l:List (Nat×List UInt8)}{f:Nat×List UInt8}(hf:l[k]?=some f)(n:NS)(ok:Bool):NS.recvs (l.drop k) n ok=NS.recvs (l.drop (k+1)) (n.recv f.1 f.2).2.2 (ok&&(n.recv f.1 f.2).2.1&&(n.recv f.1 f.2).1==0):=by
 rw[LX hf];rfl
def Qv{l:List (Nat×List UInt8)}(h:w.ownsRow 0 62 2 (.slice (some ⟨g,0,none⟩) N cap) N (zK l))(hl:l.length=N){p:Nat×List UInt8}(c:l[j]?=some p):w.cell? ⟨g,j*2,none⟩=some (.int .i64 p.1)/\w.cell? ⟨g,j*2+1,none⟩=some (.string (zq p.2)):=by
 obtain⟨a,b⟩:=UG l j p c;have hj:=(AM.1 c).1;rcases h.2 with⟨e,_⟩|⟨g',d,cur,e,_,h1,h2,h3,h4,h5⟩
 ·cases e
 ·cases e;rw[<-h5,BE (by omega),Bd]at a b;exact⟨za h1 a,za h1 b⟩
def PF(h:De w tag nb n M W)(hI:n.Inv T)(hi:i<2)(s:List UInt8)(hs:s.length<=400)(hT:T+s.length<=Dg):Calls prog 28 #[.pointer (some ⟨M.b i,0,none⟩),.string (zq s)] W (EA tag (i+1) (M.b i) W (.tuple #[.int .i64 (((n.c i).receive s).1.1:Int),.int .i64 ((n.c i).receive s).1.2]) ((n.c i).receive s).2) :=
 gp (h.cn i hi) (h.env.to (j:=i+1) (by omega)) s (by omega) ((hI.c i hi).recvOk hT) (λm fs hd=>by
  have:=(LG (by omega) hd).2.1;omega)
variable{t:Nat}
def Xl(h:De w tag nb n M W)(hI:n.Inv T)(hU:n.Up)(hT:T+t*fairC<=Dg):Calls prog 17 #[.pointer (some ⟨nb,0,none⟩),.int .i64 t] W (EL w tag nb W (n.fair t)):=by
 have htb:t<=268435455:=by unfold fairC Dg at hT;omega
 have p8:W.cell? ⟨nb,8,none⟩=some M.bg:=h.o.obj.cell (j:=8) rfl;have f8:=h.o.obj.fz 8;have ST:=zb (h.bagS (v:=.slice none 0 0) (l:=[]) (DW.refl DX W) (λg x=>x.elim) (World.ownsRow_nil W 0 _ 2) (λg hg=>by cases hg));have aF:({ n with bag:=[] }:NS).Inv T:=⟨hI.mtu,hI.win,hI.c,hI.e,hI.now,hI.next,hI.count,hI.gl,hI.g,AL _,λp hp=>(by cases hp)⟩;have aG:({ n with bag:=[] }:NS).Up:=hU;unfold NS.fair;obtain⟨N0,aH⟩:∃x:NS,({ n with bag:=[] }:NS)=x:=⟨_,rfl⟩;have bM:N0.bag=[]:=by rw[<-aH]
 rw[aH]at ST aF aG ⊢;obtain⟨R,hR⟩:=nm (NS.fairs t N0);rw[hR];have HR:=zb hR;have HI:=zb aF;have HU:=zb aG;have HT:=zb hT;obtain⟨ba,bc,D,-⟩:=zi h.o.bg.own;rw[D]at p8;clear h hI hU aF aG hR aH hT D;go_enter func17,ntmps17;go_wp2_with fail;obtain⟨W1,aI⟩:=nm (W.setCell ⟨nb,8,none⟩ (.slice none 0 0));rw[aI]at ST;try rw[aI]
 clear aI p8 f8
 go_loopw [5] (λtv wr=>∃(B:Nat) (N:NS),B<=t/\tv = .int .i64 B/\AA (zs w tag nb W N wr/\N.Inv (T+B*fairC)/\N.Up/\N.bag=[]/\NS.fairs (t-B) N=R)) (λtv _=>t-(intOf tv).toNat)
 case atStart=>exact⟨0,N0,AL _,rfl,zb ⟨ST.z,by rw[Cz];exact HI.z,HU.z,bM,HR.z⟩⟩
 case round =>
  obtain⟨B,N,ht0,rfl,HB⟩:=hrel;by_cases a4:B<t;rotate_left
  ·have e:B=t:=by omega
   subst e;have bN:AA (R=(true,N)):=by
    show _=_;have a:=HB.z.2.2.2.2;rw[Ch]at a;exact a.symm
   have HL:=zb HB.z.1;have hr:=bN.z;subst hr;clear a4;go_wp2_with fail;go_ret;exact⟨rfl,HL.z⟩
  obtain⟨E,r,F,D,aJ⟩:=HB.z;have aK:T+B*fairC+fairC<=Dg:=by
   have a:B*fairC+fairC<=t*fairC:=by
    have:=Bu fairC (show B+1<=t by omega);rw[Nat.succ_mul]at this;exact this
   have:=HT.z;omega
  have y:=zb (fN aK r F D);obtain⟨H,aL⟩:=nm (T+B*fairC);rw[aL]at r aK y;have bW:H+16803<=268435455:=aK;have aa:(if N.fair1.1 then NS.fairs (t-(B+1)) N.fair1.2 else(false,N.fair1.2))=R:=by
   rw[show t-B=(t-(B+1))+1 by omega]at aJ;exact aJ
  obtain⟨R1,ab⟩:=nm N.fair1;have aM:AA (NS.fairAt 0 N.tick true=R1):=by
   show _=_;rw[<-ab];unfold NS.fair1;rw[TY D];rfl
  rw[ab]at aa y;have aN:=zb aa;have a5:=zb aL;obtain⟨tg,Mg,C,old,mk⟩:=E;have ks:Calls prog 21 #[.pointer (some ⟨nb,0,none⟩),.agg #[.int .i64 5,.int .i64 0,.int .i64 0,.int .i64 0,.string ⟨#[]⟩]] wr (λe W'=>e = .returned (.bool true)/\zs w tg nb wr N.tick W'):=by
   have hk:=Ta C r (by omega) (s:=JZ) ⟨by decide,by decide,by decide,by decide,by decide⟩ rfl (λtag' M' W' hn=>Tc hn D JZ);have e:N.tick.carry JZ=(true,N.tick):=by
    unfold NS.carry;have e:N.tick.bag=[]:=D;rw[AN e]
   rw[e]at hk;exact hk
  have aO:=zb r.tick;have aP:=zb F.tick;have aQ:AA (N.tick.bag=[]):=D;have ak:AA (∀n' W',zs w tg nb wr n' W'->zs w tag nb W n' W'):=zb λn' W' X=>zs.trans old mk X
  clear r F D aJ aa aL C old mk HB ab;go_upto_region 6 with(go_at_call 21;refine ks.mono ?_;rintro _ W2 ⟨rfl,a6⟩);have aR:=zb a6;clear ks a6;go_wp2_with fail
  go_loopw [6,7] (λJ iv wq=>∃(i:Nat) (N:NS) (ok:Bool),i<=2/\J = .bool ok/\iv = .int .i64 i/\AA (zs w tag nb W N wq/\N.Inv (H+1+i)/\N.Up/\N.bag.length<=21*i/\NS.fairAt i N ok=R1)) (λ_ iv _=>2-(intOf iv).toNat)
  case atStart=>exact⟨0,N.tick,true,by omega,rfl,rfl,zb ⟨ak.z _ _ aR.z,aO.z,aP.z,by rw[aQ.z];exact AL _,aM.z⟩⟩
  case round =>
   obtain⟨i,N2,ok,hi,rfl,rfl,al⟩:=hrel;by_cases ac:i<2
   ·obtain⟨E,r,F,O,G⟩:=al.z;obtain⟨a7,a8,C,old,mk⟩:=E;have kf:=OG C r (by unfold Dg;omega) F ac;have am:=zb (r.flush (i:=i) (by unfold Dg;omega) ac);have an:=zb (NS.Up.flush (i:=i) (by unfold Dg;omega) r F ac);have ao:=zb (Pr (i:=i) (by unfold Dg;omega) r ac);have bX:=O;rw[ge ac]at G;obtain⟨RF,a9⟩:=nm (N2.flush i);rw[a9]at kf am an ao G;obtain⟨f,N3⟩:=RF;simp only at am an ao G;have bb:=zb G;have ax:AA (∀n' W',zs w a7 nb wr n' W'->zs w tag nb W n' W'):=zb λn' W' X=>zs.trans old mk X
    clear r F O G C old mk al a9 ak aR aO aP aQ aM;go_upto_region 10 with(go_at_call 22;refine kf.mono ?_;rintro _ W3 ⟨rfl,bd⟩);have be:=zb (ax.z _ _ bd);clear kf bd ax;have u:AA (∀b,b=(ok&&f)->∃(i':Nat) (N:NS) (ok:Bool),i'<=2/\Value.bool b = .bool ok/\Value.int .i64 ((i:Int)+1) = .int .i64 i'/\AA (zs w tag nb W N W3/\N.Inv (H+1+i')/\N.Up/\N.bag.length<=21*i'/\NS.fairAt i' N ok=R1)):=zb λb hb=>by
     subst hb;exact⟨i+1,N3,_,by omega,rfl,by congr 1,zb ⟨be.z,am.z,an.z,by have:=ao.z;omega,bb.z⟩⟩
    clear be am an ao bb;have xw:=wi ((i:Int)+1) (by omega);cases ok
    ·go_wp2_with fail;go_roundw
     case rel=>exact u.z _ rfl
     case measure=>simp[intOf];omega
    ·go_wp2_with fail;go_roundw
     case rel=>exact u.z _ rfl
     case measure=>simp[intOf];omega
   ·have e2:i=2:=by omega
    obtain⟨E,r,F,O,G⟩:=al.z;rw[e2]at r O G;obtain⟨a7,a8,C,old,mk⟩:=E;have Y:N2.fairC ok=R1:=G;have bf:wr.cell? ⟨nb,8,none⟩=some a8.bg:=C.o.obj.cell (j:=8) rfl;have bO:=C.o.obj.fz 8;obtain⟨A,Mg3,hA,z,ap,P⟩:=C.aside;have aS:=r.bag;have aT:({ N2 with bag:=[] }:NS).Inv (H+3):=(show({ N2 with bag:=[] }:NS).Inv (H+1+2)from⟨r.mtu,r.win,r.c,r.e,r.now,r.next,r.count,r.gl,r.g,AL _,λp hp=>(by cases hp)⟩).mono (by omega);obtain⟨l,hl⟩:=nm N2.bag;unfold NS.fairC at Y;rw[hl]at z aS O Y;obtain⟨L,hL⟩:=nm l.length;rw[hL]at z O;obtain⟨bh,bi,ay,q1,q2,q3⟩:=zi z;unfold maxLen at q2;rw[ay]at bf z ap;obtain⟨NA,bj⟩:∃x:NS,({ N2 with bag:=[] }:NS)=x:=⟨_,rfl⟩;rw[bj]at Y hA aT;obtain⟨WA,aU⟩:=nm (wr.setCell ⟨nb,8,none⟩ (.slice none 0 0));rw[aU]at hA z P;obtain⟨RV,aV⟩:=nm (NS.recvs l NA ok);rw[aV]at Y;have aW:AA (NS.reads Gl RV.2 RV.1=R1):=Y;have bk:=zb aV;have bm:=zb aT;have HA:=zb hA.left;have bP:=zb aS;have aX:=zb hL;have ak:=zb λn' W' X=>zs.trans old mk (P n' W' X)
    have az:AA (∀wx,DW (λg=>A g≠(0,0)) WA wx->wx.ownsRow 0 62 2 (.slice bh L bi) L (zK l)):=zb λwx m=>m.owns z (λg hg x=>x (ap g hg))
    have bn:AA (∀q,(Value.slice bh L bi).ownBlock=some q->A q=(0,0)/\q<WA.heap.size):=zb λq hq=>⟨ap q hq,PL z hq⟩
    have bo:=zb aU;have bY:L<=42:=by omega
    clear r F O G C old mk al Y hA z ap P aS aT hl ay bj aV hL e2 aR aO aP aQ aM aU;go_wp2_with fail;try rw[bo.z]
    clear bo bf bO
    go_loopw [6,10] (λJ kv wq=>∃(k:Nat) (N:NS) (ok:Bool),k<=L/\J = .bool ok/\kv = .int .i64 k/\AA (zs w A nb WA N wq/\N.Inv (H+3+400*k)/\NS.recvs (l.drop k) N ok=RV)) (λ_ kv _=>L-(intOf kv).toNat)
    case atStart=>exact⟨0,NA,ok,AL _,rfl,rfl,zb ⟨HA.z,bm.z,bk.z⟩⟩
    case round =>
     obtain⟨k,N4,ad,hk,rfl,rfl,Z⟩:=hrel;clear HA bm bk;by_cases bp:k<L
     ·obtain⟨E,r,I⟩:=Z.z;obtain⟨Q,bq,C,old,mk⟩:=E;obtain⟨f,hf⟩:∃f,l[k]?=some f:=⟨l[k]'(by rw[aX.z];exact bp),AJ _⟩;obtain⟨f1,f2,f3⟩:=bP.z f (Ac hf);rw[fL hf]at I;obtain⟨qb,rfl⟩:=q3 (by omega);obtain⟨r1,r2⟩:=Qv (az.z wr mk) aX.z hf;have bt:Q qb=(0,0):=by
       obtain⟨a,b⟩:=bn.z qb rfl;rw[old qb b,a]
      obtain⟨d,s⟩:=f;simp only at f1 f2 f3 r1 r2 I;obtain⟨gx,cx,b1,⟨b2,b3⟩,b4⟩:=C.o.connIs (i:=d) f1;obtain⟨gx',cx',bu,_,_,aA⟩:=C.o.x.form (by omega);have bQ:=C.o.obj.tag;have bR:Q gx=(3,1):=by
       have x:wr.cell? ⟨nb,0,none⟩=some bq.x:=C.o.obj.cell (j:=0) rfl;rw[b1,bu]at x;cases x;exact aA
      obtain⟨cb,aY⟩:=nm (bq.b d);have hTk:H+3+400*k+400<=268435455:=by omega
      have aZ:=zb (C.free ((DW.refl DX wr).drew) (λ_ x=>x.elim));have kr:=PF aZ.z r f1 s f3 (by unfold Dg;omega);rw[aY]at b4 kr;have bv:=zb aY;have ae:=zb (((r.mono (show H+3+400*k<=H+3+400*k+400 by omega))).setC d (λhd=>((r.c d hd).receive (bs:=s) (by unfold Dg;omega)).mono (by omega)));have aq:AA ((N4.setC d ((N4.c d).receive s).2).Inv (H+3+400*k+400)->((N4.setC d ((N4.c d).receive s).2).came d).2.Inv (H+3+400*(k+1))):=zb λX=>(X.came d).mono (by omega)
      unfold NS.recv at I;simp only at I;obtain⟨RR,bw⟩:=nm ((N4.c d).receive s);rw[bw]at kr I ae aq;obtain⟨⟨U,at_⟩,c'⟩:=RR;simp only at kr I ae aq;have ar:=zb I;have KR:=zb kr;have aB:AA (∀n' W',zs w Q nb wr n' W'->zs w A nb WA n' W'):=zb λn' W' X=>zs.trans old mk X
      have hd2:(d:Int)<2:=by omega
      have hd0:(0:Int)<=(d:Int):=by omega
      have bz:(k:Int)<(L:Int):=by omega
      have bS:(0:Int)<=(k:Int):=by omega
      have q0:((U:Int)==0)=(U==0):=F8 U 0;have xw:=wi ((k:Int)+1) (by omega);have bA:AA (∀g,(Q g).1=3->(Q g).1=d+1->False):=zb λg a b=>by omega
      clear r I C old mk Z bu aA bw hf aY kr aW;go_upto_region 16 with fail;refine zl 22 (λw'=>w'.cell? ⟨nb,0,none⟩=some (.slice (some ⟨gx,0,none⟩) 2 cx)/\w'.cell? ⟨gx,d,none⟩=some (.pointer (some ⟨cb,0,none⟩))/\w'.cell? ⟨qb,k*2,none⟩=some (.int .i64 d)/\w'.cell? ⟨qb,k*2+1,none⟩=some (.string (zq s))) (⟨b1,b4,r1,r2⟩) ?_;refine GI 0 ?_;iterate 16
       refine GV rfl ?_;try simp only[PS]
      refine zw 16 rfl (λK hK=>?_);go_simp;refine(KR.z).mono ?_;rintro _ W5 ⟨rfl,hL⟩;rw[<-bv.z]at hL;obtain⟨bB,V5,N5,aC,m5⟩:=aZ.z.conn f1 hL;have G0:=m5.cell (a:=⟨nb,0,none⟩) (λx=>bA.z nb (by rw[bQ]) x) b1;have G1:=m5.cell (a:=⟨gx,d,none⟩) (λx=>bA.z gx (by rw[bR]) x) b4;have G2:=m5.cell (a:=⟨qb,k*2,none⟩) (λx=>by have x:(Q qb).1=d+1:=x;rw[bt]at x;simp at x) r1;have G3:=m5.cell (a:=⟨qb,k*2+1,none⟩) (λx=>by have x:(Q qb).1=d+1:=x;rw[bt]at x;simp at x) r2;refine hK.z _ _ ⟨G0,G1,G2,G3⟩ ?_;clear hK K;try simp only[PS]
      refine GI 17 ?_;iterate 5
       refine GV rfl ?_;try simp only[PS]
      refine zn ?_;have bC:AA (∀n' W',zs w bB nb W5 n' W'->zs w A nb WA n' W'):=zb λn' W' X=>aB.z _ _ (zs.from0 ((DW.refl DX wr).drew) (zs.trans aC (m5.mono (λg hg=>.inl (λx=>by rw[x]at hg;simp at hg))) X))
      have a1:=Ps N5 ae.z (by unfold Dg;omega) f1;have V:=zb (aq.z ae.z);obtain⟨RC,bD⟩:=nm ((N4.setC d c').came d);rw[bD]at a1 V ar;obtain⟨cm,N6⟩:=RC;simp only at V ar;clear N5 aC m5 ae aq aB aZ KR bD hL bv;go_upto_region 18 with(go_at_call 34;refine a1.mono ?_;rintro _ W6 ⟨rfl,bE⟩);have u:AA (∀b,b=(ad&&cm&&U==0)->∃(k':Nat) (N:NS) (ok:Bool),k'<=L/\Value.bool b = .bool ok/\Value.int .i64 ((k:Int)+1) = .int .i64 k'/\AA (zs w A nb WA N W6/\N.Inv (H+3+400*k')/\NS.recvs (l.drop k') N ok=RV)):=zb λb hb=>by
       subst hb;exact⟨k+1,N6,_,bp,rfl,by congr 1,zb ⟨bC.z _ _ bE,V.z,ar.z⟩⟩
      clear a1 bE bC V ar bz bS r1 r2 b1 b4 G0 G1 G2 G3;cases ad
      ·go_wp2_with fail;go_roundw
       case rel=>exact u.z _ rfl
       case measure=>simp[intOf];omega
      ·cases cm
       ·go_wp2_with fail;go_roundw
        case rel=>exact u.z _ rfl
        case measure=>simp[intOf];omega
       ·go_wp2_with fail;go_roundw
        case rel=>exact u.z _ (by first|rfl|simp only[q0,Bool.and_self,Bj])
        case measure=>simp[intOf];omega
     ·have a2:k=L:=by omega
      have aD:RV=(ad,N4):=by
       have a:=Z.z.2.2;rw[a2,<-aX.z,CJ]at a;exact a.symm
      have af:AA (NS.reads Gl N4 ad=R1):=by
       show _=_;have a:=aW.z;rw[aD]at a;exact a
      have bF:AA (N4.Inv (H+3+400*L)):=by rw[<-a2];exact zb Z.z.2.1
      have bG:=zb Z.z.1;have hTL:H+3+400*L<=268435455:=by omega
      clear Z aW aD hk a2 az bn;go_wp2_with fail
      go_loopw [6,14] (λJ iv wq=>∃(i:Nat) (N:NS) (ok:Bool),i<=2/\J = .bool ok/\iv = .int .i64 i/\AA (zs w A nb WA N wq/\N.Inv (H+3+400*L)/\NS.reads (Gl.drop (8*i)) N ok=R1)) (λ_ iv _=>2-(intOf iv).toNat)
      case atStart=>exact⟨0,N4,ad,by omega,rfl,rfl,zb ⟨bG.z,bF.z,af.z⟩⟩
      case round =>
       obtain⟨i5,N5,a3,hi5,rfl,rfl,S⟩:=hrel;clear bG bF af;by_cases ah:i5<2
       ·have bH:decide ((i5:Int)<2)=true:=Aq (by omega);go_wp2_with fail;try rw[bH]
        go_loopw [6,15] (λJ kv wq=>∃(k:Nat) (N:NS) (ok:Bool),k<=8/\J = .bool ok/\kv = .int .i64 k/\AA (zs w A nb WA N wq/\N.Inv (H+3+400*L)/\NS.reads (Gl.drop (8*i5+k)) N ok=R1)) (λ_ kv _=>8-(intOf kv).toNat)
        case atStart=>exact⟨0,N5,a3,by omega,rfl,rfl,S⟩
        case round =>
         obtain⟨k6,N6,au,hk6,rfl,rfl,av⟩:=hrel;clear S;by_cases ai:k6<8
         ·obtain⟨E,r,aj⟩:=av.z;obtain⟨bI,Mg6,C,old,mk⟩:=E;rw[fM ah ai]at aj;have kr:Calls prog 35 #[.pointer (some ⟨nb,0,none⟩),.int .i64 i5,.int .i64 k6,.int .i64 4096] wr (EL w bI nb wr (N6.read i5 k6 4096)):=Sh C r (by unfold Dg;omega) ah ai (AG 4096);have aw:=zb (r.read i5 k6 4096);obtain⟨RD,bJ⟩:=nm (N6.read i5 k6 4096);rw[bJ]at kr aw aj;obtain⟨rb,N7⟩:=RD;simp only at aw aj;have af:=zb aj;have aE:AA (∀n' W',zs w bI nb wr n' W'->zs w A nb WA n' W'):=zb λn' W' X=>zs.trans old mk X
          have xw:=wi ((k6:Int)+1) (by omega);clear r aj C old mk av bJ;go_upto_region 26 with(go_at_call 35;refine kr.mono ?_;rintro _ W7 ⟨rfl,bK⟩);have u:AA (∀b,b=(au&&rb)->∃(k':Nat) (N:NS) (ok:Bool),k'<=8/\Value.bool b = .bool ok/\Value.int .i64 ((k6:Int)+1) = .int .i64 k'/\AA (zs w A nb WA N W7/\N.Inv (H+3+400*L)/\NS.reads (Gl.drop (8*i5+k')) N ok=R1)):=zb λb hb=>by
           subst hb;exact⟨k6+1,N7,_,ai,rfl,by congr 1,zb ⟨aE.z _ _ bK,aw.z,af.z⟩⟩
          clear kr bK aE aw af;cases au
          ·go_wp2_with fail;go_roundw
           case rel=>exact u.z _ rfl
           case measure=>simp[intOf];omega
          ·go_wp2_with fail;go_roundw
           case rel=>exact u.z _ rfl
           case measure=>simp[intOf];omega
         ·have ek:k6=8:=by omega
          have xw:=wi ((i5:Int)+1) (by omega);have bT:AA (zs w A nb WA N6 wr/\N6.Inv (H+3+400*L)/\NS.reads (Gl.drop (8*(i5+1))) N6 au=R1):=by
           have a:=av.z;rw[ek]at a;exact a
          clear av ek;go_wp2_with fail;go_roundw
          case rel=>exact⟨i5+1,N6,au,ah,rfl,by congr 1,bT⟩
          case measure=>simp[intOf];omega
       ·have ei:i5=2:=by omega
        have ab:R1=(a3,N5):=by
         have a:=S.z.2.2;rw[ei]at a;exact a.symm
        subst ab;have bL:AA (∀W',DW DX wr W'->zs w tag nb W N5 W'):=zb λW' m=>(ak.z _ _ S.z.1).then0 m
        clear S ei;cases a3
        ·have hr:(false,N5)=R:=aN.z;subst hr;go_wp2_with fail;go_ret;exact⟨rfl,bL.z _ (DW.refl _ _)⟩
        ·have HF:AA (NS.fairs (t-(B+1)) N5=R):=aN.z;have bU:AA (N5.Inv (T+(B+1)*fairC)):=by
          have a:=y.z.1;rw[<-a5.z,show T+B*fairC+fairC=T+(B+1)*fairC by rw[Nat.succ_mul];omega]at a;exact a
         have bV:AA N5.Up:=y.z.2.2 rfl;have S:AA (N5.bag=[]):=y.z.2.1;have xw:=wi ((B:Int)+1) (by omega);clear y aN a5;go_wp2_with fail;go_roundw
         case rel=>exact⟨B+1,N5,a4,by congr 1,zb ⟨bL.z _ (DW.refl _ _),bU.z,bV.z,S.z,HF.z⟩⟩
         case measure=>simp[intOf];omega
def J1:∀a b:Fin 256,bits .xor .u8 ((a.val:Nat):Int) ((b.val:Nat):Int)=(((UInt8.ofNat a.val) ^^^ (UInt8.ofNat b.val)).toNat:Int):=by decide +kernel
variable{p:Nat}
def J2(b:List UInt8)(y:UInt8)(a:p<b.length):bits .xor .u8 ((((zq b)[p]'(by rw[zE];exact a)).toNat:Nat):Int) (y.toNat:Int)=((b.getD p 0 ^^^ y).toNat:Int):=by
 have e:(zq b)[p]'(by rw[zE];exact a)=b.getD p 0:=by
  rw[Ai,AJ a];rfl
 rw[e];have:=J1 ⟨(b.getD p 0).toNat,UInt8.toNat_lt _⟩ ⟨y.toNat,UInt8.toNat_lt _⟩;simpa using this
variable{fz:Nat×Nat}
def Mt{z:UInt8}(h:W.heap[g]?=some (.cells #[.int .u8 (z.toNat:Int)] t fz)):(convert 60 9 (.slice (some ⟨g,0,none⟩) 1 1)).run prog W = .ok (.string (zq [z])) W :=
 IN ⟨_,1,rfl,AG _,by unfold maxLen;omega,λi u a=>by
  have hi:i<1:=(AM.1 a).1;have:i=0:=by omega
  subst this;cases a;exact⟨g,0,rfl,za h rfl⟩⟩
def Xj(b:List UInt8)(p:Nat)(y:UInt8):(zq b).extract 0 p++zq [b.getD p 0 ^^^ y]++(zq b).extract (p+1) b.length=zq (Gy b p y):=by
 rw[OQ,OQ,QK,QK]
 congr 1
 unfold Gy;rw[Av,Bv,Nat.sub_zero]
 congr 2
 exact AW (by rw[Ad];exact AG _)
theorem Vh(l:List UInt8)(h:0<(zq l).size):(zq l)[0]'h=l.getD 0 0:=by
 cases l with
 | nil=>exact absurd h (by decide)
 | cons a l=>rfl
variable{s:Dm}
def fK(h:De w tag nb n M W)(hI:n.Inv T)(hT:T+400<=Dg)(hs:s.Ok)(hb:n.bag≠[]):Calls prog 41 #[.pointer (some ⟨nb,0,none⟩),.agg s.cells] W (EL w tag nb W (n.carry s)):=by
 have hTb:T+400<=268435455:=hT;have S:=BU.2 hb;have aW:=hI.bl;obtain⟨W1,aa⟩:=nm (W.alloc (.cells s.cells 37));have h1:De w tag nb n M W1:=by rw[<-aa];exact h.alloc _
 have m1:=AB aa
 obtain⟨sb,aO⟩:=nm W.heap.size;have sA:GW W1 sb s:=GW.of (by rw[<-aa,<-aO];exact heap_alloc_new W _);have aP:=h.env.ok sb (by omega);have aE:=hs.a;have ab:=hs.b;have aX:=hs.s;obtain⟨c0,c1,c2,c3,c4⟩:=sA;have hk:DZ s.a n.bag.length<n.bag.length:=zQ _ _ S;have hf:n.bag[DZ s.a n.bag.length]?=some (n.bag.getD (DZ s.a n.bag.length) (0,[])):=by simp[List.getD,hk]
 have ar:=Ac hf;obtain⟨f1,f2,f3⟩:=hI.bag _ ar;have C:=h1.o.bg.own;obtain⟨ba2,aY,az,q1,q2,q3⟩:=zi C;unfold maxLen at q2;have p8:W1.cell? ⟨nb,8,none⟩=some M.bg:=h1.o.obj.cell (j:=8) rfl;obtain⟨qb,rfl⟩:=q3 S;rw[az]at C p8;obtain⟨r1,r2⟩:=Qv C rfl hf;have hc:n.carry s=n.carryK s (DZ s.a n.bag.length) (n.bag.getD (DZ s.a n.bag.length) (0,[])):=by unfold NS.carry;rw[AH hb]
 rw[hc];have I:=zb λWx=>Gk s.a n.bag.length Wx aE.1 aE.2 S (by omega)
 have A:AA (∀tag' M' Wx,De w tag' nb n M' Wx->Calls prog 73 #[.pointer (some ⟨nb,0,none⟩),.int .i64 (DZ s.a n.bag.length:Int)] Wx (λe W'=>e = .returned (.tuple #[])/\zs w tag' nb Wx (n.drop (DZ s.a n.bag.length)) W')):=zb λtag' M' Wx hn=>Xk hn hk (by omega)
 obtain⟨N,hN⟩:=nm n.bag.length;obtain⟨k,aQ⟩:=nm (DZ s.a n.bag.length);rw[aQ]at hk hf ar f1 f2 f3 r1 r2 I A ⊢;rw[hN]at hk aW C p8 q1 I S;obtain⟨F,hF⟩:=nm (n.bag.getD k (0,[]));rw[hF]at hf ar f1 f2 f3 r1 r2 ⊢;obtain⟨d,b⟩:=F;simp only at f1 f2 f3 r1 r2;obtain⟨U,au⟩:=nm s.s;obtain⟨sa,aF⟩:=nm s.a;obtain⟨sc,ac⟩:=nm s.b;obtain⟨kd,av⟩:=nm s.kind;have aZ:=zE b;have HN:=zb h1;have aR:=zb m1;have aw:=zb aa;have HI:=zb hI;have HP:AA (∀(x:Nat) Wx,0<x->x<=4096->Calls prog 24 #[.int .i64 sc,.int .i64 x] Wx (λe w'=>e = .returned (.int .i64 (DZ sc x:Int))/\Wx=w')):=zb λx Wx h1 h2=>by
  rw[<-ac];exact Gk s.b x Wx ab.1 ab.2 (by omega) (by omega)
 obtain⟨RR,ad⟩:=nm (n.carryK s k (d,b));rw[ad];unfold NS.carryK at ad;rw[av,ac,au]at ad;have X:=zb ad;rw[aF]at c2 I;rw[ac]at c3;rw[av]at c0;rw[au]at c4 aX;have hN0:((N:Int)==0)=false:=AR.2 (by omega);have hkN:(k:Int)<(N:Int):=by omega
 have hk0:(0:Int)<=(k:Int):=by omega
 unfold Dm.cells at aw ⊢;rw[au,aF,ac,av]at aw ⊢;have a0:=zb C;clear h h1 m1 aa hs hI hb hc hF aQ hN au aF ac av ad aE ab hf ar az q3 hT C;go_enter func41,ntmps41;go_upto_region 1 with fail;rw[aw.z];go_upto_region 3 with fail;refine zl 9 (λw'=>w'.cell? ⟨nb,8,none⟩=some (.slice (some ⟨qb,0,none⟩) N aY)/\w'.cell? ⟨sb,2,none⟩=some (.int .i64 sa)) (⟨p8,c2⟩) ?_;refine GI 0 ?_;iterate 7
  refine GV rfl ?_;try simp only[PS]
 refine zw 7 rfl (λK V=>?_);go_simp;refine(I.z _).mono ?_;rintro _ _ ⟨rfl,rfl⟩;refine V.z _ _ ⟨p8,c2⟩ ?_;clear V K;try simp only[PS]
 refine GI 8 ?_;refine GV rfl ?_;try simp only[PS]
 refine zn ?_;go_upto_region 4 with fail;go_upto_region 5 with fail;obtain⟨W2,ax⟩:=nm ((W1.alloc (.cells #[.int .i64 d,.string (zq b)] 62)).drew);obtain⟨fb,aG⟩:=nm W1.heap.size;rw[aG,ax];have m2:DW DX W1 W2:=by rw[<-ax];exact((DW.refl _ _).alloc _).drew
 have h2:=HN.z.free m2 (λ_ x=>x.elim);have aH:W2.heap[fb]?=some (.cells #[.int .i64 d,.string (zq b)] 62 (0,0)):=by rw[<-ax,<-aG];exact heap_alloc_new W1 _
 have Y:W2.cell? ⟨fb,0,none⟩=some (.int .i64 d):=za aH rfl;have z1:W2.cell? ⟨fb,1,none⟩=some (.string (zq b)):=za aH rfl;have v:=HN.z.env.ok fb (by omega);have u:AA (∀n' W',zs w tag nb W2 n' W'->zs w tag nb W n' W'):=zb λn' W' hh=>zs.from0 (aR.z.trans m2) hh
 replace c0:=m2.cell (a:=⟨sb,0,none⟩) id c0;replace c3:=m2.cell (a:=⟨sb,3,none⟩) id c3;replace c4:=m2.cell (a:=⟨sb,4,none⟩) id c4;have E:=zb h2;have aA:=zk c0;have ae:=zk Y;have hd2:(d:Int)<2:=by omega
 have hd0:(0:Int)<=(d:Int):=by omega
 clear p8 c1 c2 r1 r2 m2 h2 aH ax aG aw HN aR I a0 aO;by_cases e7:kd=7
 ·subst e7;have B:Calls prog 24 #[.int .i64 sc,.int .i64 2] W2 (λe w'=>e = .returned (.int .i64 (DZ sc 2:Int))/\W2=w'):=HP.z 2 W2 (by omega) (by omega);have r:=X.z;rw[AN rfl]at r;obtain⟨p2,aS⟩:=nm (DZ sc 2);rw[aS]at B r;obtain⟨m,Z⟩:=nm ((if p2=0 then n.drop k else n));rw[Z]at r;have HR:=zb r;clear r;have af:=A.z tag M W2 E.z;clear aS X;have HB:AA (m.Inv T):=by
   rw[<-Z];split
   ·exact zb (HI.z.drop k)
   ·exact HI
  have HE:∀W3 tag3 M3,De w tag3 nb m M3 W3->(∀g,g<W2.heap.size->tag3 g=tag g)->DW (λg=>tag g≠(0,0)) W2 W3->AA (De w tag3 nb m M3 W3)/\W3.cell? ⟨fb,0,none⟩=some (.int .i64 d)/\W3.cell? ⟨fb,1,none⟩=some (.string (zq b))/\tag3 fb=(0,0)/\AA (∀n' W',zs w tag3 nb W3 n' W'->zs w tag nb W n' W'):=λW3 tag3 M3 a o mk =>
   ⟨zb a,mk.cell (a:=⟨fb,0,none⟩) (λx=>x v) Y,mk.cell (a:=⟨fb,1,none⟩) (λx=>x v) z1,(o fb ae).trans v,zb λn' W' hh=>u.z _ _ (zs.trans o mk hh)⟩
  have ay:=zb HE;clear HE Y z1 v u;rcases C3 p2 with hp|hp
  case' inl =>
   rw[AN hp]at Z;have q0:((p2:Int)==0)=true:=by rw[hp];rfl
   go_upto_region 9 with(first|(go_at_call 24;refine B.mono ?_;rintro _ _ ⟨rfl,rfl⟩)|(go_at_call 73;refine af.mono ?_;rintro _ W3 ⟨rfl,hL⟩));rw[Z]at hL;obtain⟨tag3,M3,N3,aB,aT⟩:=hL;obtain⟨t,Y,z1,v,u⟩:=ay.z W3 tag3 M3 N3 aB aT;clear ay N3 aB aT af B Z HI c0 c3 c4 E A HP
  case' inr =>
   rw[AH (by omega)]at Z;have q0:((p2:Int)==0)=false:=AR.2 (by omega);go_upto_region 9 with(first|(go_at_call 24;refine B.mono ?_;rintro _ _ ⟨rfl,rfl⟩));obtain⟨W3,e3⟩:=nm W2;obtain⟨tag3,e4⟩:=nm tag;obtain⟨t,Y,z1,v,u⟩:=ay.z W3 tag3 M (by rw[<-e3,<-e4,<-Z];exact E.z) (λg _=>by rw[e4]) (by rw[<-e3];exact DW.refl _ _);rw[e3];obtain⟨M3,e5⟩:=nm M;rw[e5]at t;clear ay af B Z HI c0 c3 c4 E A HP aA ae aP
  all_goals
   obtain⟨gx,cx,b1,⟨b2,b3⟩,b4⟩:=t.z.o.connIs (i:=d) f1;obtain⟨a1,a2,ah,_,_,J⟩:=t.z.o.x.form (by omega);have aI:=t.z.o.obj.tag;have aJ:tag3 gx=(3,1):=by
    have x:W3.cell? ⟨nb,0,none⟩=some M3.x:=t.z.o.obj.cell (j:=0) rfl;rw[b1,ah]at x;cases x;exact J
   obtain⟨cb,O⟩:=nm (M3.b d);have P:=zb (t.z.free ((DW.refl DX W3).drew) (λ_ x=>x.elim));have kr:=PF P.z HB.z f1 b (by omega) (by unfold Dg;omega);rw[O]at b4 kr;have ai:=zb O;have G:=zb ((HB.z.mono (show T<=T+400 by omega)).setC d (λhd=>((HB.z.c d hd).receive (bs:=b) (by unfold Dg;omega)).mono (by omega)));have r:=HR.z;unfold NS.recv at r;simp only at r;obtain⟨RQ,aj⟩:=nm ((m.c d).receive b);rw[aj]at kr r G;obtain⟨⟨f,at_⟩,c'⟩:=RQ;simp only at kr r G;have H:=zb r;have KR:=zb kr;have q1:((f:Int)==0)=(f==0):=F8 f 0;have ak:AA (∀g,(tag3 g).1=3->(tag3 g).1=d+1->False):=zb λg a b=>by omega
   clear r aj kr O ah J HR;refine zl 16 (λw'=>w'.cell? ⟨nb,0,none⟩=some (.slice (some ⟨gx,0,none⟩) 2 cx)/\w'.cell? ⟨gx,d,none⟩=some (.pointer (some ⟨cb,0,none⟩))/\w'.cell? ⟨fb,0,none⟩=some (.int .i64 d)/\w'.cell? ⟨fb,1,none⟩=some (.string (zq b))) (⟨b1,b4,Y,z1⟩) ?_;refine GI 0 ?_;iterate 10
    refine GV rfl ?_;try simp only[PS]
   refine zw 10 rfl (λK V=>?_);go_simp;refine(KR.z).mono ?_;rintro _ W5 ⟨rfl,hL⟩;rw[<-ai.z]at hL;obtain⟨al,V5,N5,L,m5⟩:=P.z.conn f1 hL;have G0:=m5.cell (a:=⟨nb,0,none⟩) (λx=>ak.z nb (by rw[aI]) x) b1;have G1:=m5.cell (a:=⟨gx,d,none⟩) (λx=>ak.z gx (by rw[aJ]) x) b4;have G2:=m5.cell (a:=⟨fb,0,none⟩) (λx=>by have x:(tag3 fb).1=d+1:=x;rw[v]at x;simp at x) Y;have G3:=m5.cell (a:=⟨fb,1,none⟩) (λx=>by have x:(tag3 fb).1=d+1:=x;rw[v]at x;simp at x) z1;refine V.z _ _ ⟨G0,G1,G2,G3⟩ ?_;clear V K;try simp only[PS]
   refine GI 11 ?_;iterate 5
    refine GV rfl ?_;try simp only[PS]
   refine zn ?_;have am:AA (∀n' W',zs w al nb W5 n' W'->zs w tag nb W n' W'):=zb λn' W' hh=>u.z _ _ (zs.from0 ((DW.refl DX W3).drew) (zs.trans L (m5.mono (λg hg=>.inl (λx=>by rw[x]at hg;simp at hg))) hh))
   have Q:=Ps N5 G.z (by unfold Dg;omega) f1;obtain⟨RC,an⟩:=nm ((m.setC d c').came d);rw[an]at Q H;obtain⟨cm,N6⟩:=RC;simp only at H;have r:=H.z;subst r;clear N5 L m5 G P KR an hL ai H u t HB Y b1 b4;go_upto_region 11 with(go_at_call 34;refine Q.mono ?_;rintro _ W6 ⟨rfl,ao⟩);have ap:=zb (am.z _ _ ao);clear Q ao am;obtain⟨cz,R⟩:=nm ((f==0));rw[R]at q1 ⊢;cases cz
   ·go_wp2_with fail;go_ret;exact⟨by show _=Ending.returned (.bool ((f==0)&&cm));rw[R];rfl,ap.z⟩
   ·go_wp2_with fail;go_ret;exact⟨by show _=Ending.returned (.bool ((f==0)&&cm));rw[R];rfl,ap.z⟩
 ·have h7:=AR.2 e7;have r:=X.z;rw[AH e7]at r;by_cases e8:kd=8
  ·subst e8;rw[AN rfl]at r;subst r;have af:=A.z tag M W2 E.z;clear X;go_wp2_with (go_at_call 73;refine af.mono ?_;rintro _ W3 ⟨rfl,hL⟩);go_ret;exact⟨rfl,u.z _ _ hL⟩
  ·have h8:=AR.2 e8;rw[AH e8]at r;by_cases e9:kd=9;rotate_left
   ·have h9:=AR.2 e9;rw[AH e9]at r;subst r;have HF:=zb (u.z _ _ E.z.left);clear X A HP E u;go_wp2_with fail;go_ret;exact⟨rfl,HF.z⟩
   ·subst e9;rw[AN rfl]at r;obtain⟨p,hp⟩:=nm (DZ sc b.length);have aU:p<b.length:=by rw[<-hp];exact zQ _ _ f2
    have B:=HP.z b.length W2 f2 (by omega);simp only at r;rw[hp]at B r;have HR:=zb r;clear r X hp;go_upto_region 15 with fail;rw[<-aZ]at B;go_upto_region 16 with(go_at_call 24;refine B.mono ?_;rintro _ _ ⟨rfl,rfl⟩);go_upto_region 17 with fail;have a4:=zE U;obtain⟨y,hy⟩:=nm (IQ U);rw[hy]at HR;have D:(y=1/\¬0<U.length)\/(0<U.length/\∃h:0<(zq U).size,y=1/\((((zq U)[0]'h).toNat:Int) != 0)=false)\/(0<U.length/\∃h:0<(zq U).size,(zq U)[0]'h=y/\((y.toNat:Int) != 0)=true):=by
     by_cases hl:U.length=0
     ·refine .inl ⟨?_,by omega⟩;rw[<-hy,List.length_eq_zero_iff.1 hl];rfl
     ·have aq:0<(zq U).size:=by omega
      have ha:=Vh U aq;by_cases h0:(zq U)[0]'aq=0
      ·refine .inr (.inl ⟨by omega,aq,?_,by rw[h0];rfl⟩);rw[<-hy];unfold IQ;rw[<-ha,h0];rfl
      ·have e:(zq U)[0]'aq=y:=by
        rw[<-hy];unfold IQ;rw[<-ha,AN h0]
       refine .inr (.inr ⟨by omega,aq,e,CK.2 (λq=>h0 (Cv.1 ?_))⟩);rw[e];simp only[UInt8.toNat_zero];omega
    clear hy;have hp1:p<=b.length:=by omega
    have hp3:(0:Int)<=(p:Int)+1:=by omega
    have hp4:(p:Int)+1<=(b.length:Int):=by omega
    have xw:=wi ((p:Int)+1) (by omega);rcases D with⟨hy,hg⟩|⟨hg,hl,hy,hz⟩|⟨hg,hl,hy,hz⟩;all_goals go_upto_region 19 with fail
    all_goals try rw[show(Value.int .u8 1) = .int .u8 (y.toNat:Int)by subst hy;rfl]
    all_goals clear hy
    all_goals
     have hx:=J2 b y aU;have aK:=Xj b p y;obtain⟨z,hz⟩:∃z:UInt8,b.getD p 0 ^^^ y=z:=⟨_,rfl⟩;rw[hz]at hx aK;have aV:=zb aK;have a3:(zq [z]).size=1:=zE [z];have hn1:¬9223372036854775807<p+(zq [z]).size:=by omega
     have hn2:¬9223372036854775807<p+(zq [z]).size+(b.length-(p+1)):=by omega
     clear hz aK a3;have aL:=z1;refine zl 20 (λw'=>w'.cell? ⟨fb,1,none⟩=some (.string (zq b))) (z1) ?_;refine GI 0 ?_;iterate 10
      refine GV rfl ?_;try simp only[PS]
     refine GI 13 ?_;iterate 5
      refine GV rfl ?_;try simp only[PS]
     refine zw 10 rfl (λK V=>?_);go_simp;refine V.z _ _ (((DW.refl DX W2).alloc _).cell (a:=⟨fb,1,none⟩) id aL) ?_;clear V K;try simp only[PS]
     refine zw 11 rfl (λK V=>?_);have hcv:=Mt (W:=(W2.alloc (.cells #[.int .u8 (z.toNat:Int)] 5)).drew) (heap_alloc_new W2 _);go_simp;refine V.z _ _ (((DW.refl DX W2).alloc _).cell (a:=⟨fb,1,none⟩) id aL) ?_;clear V K;try simp only[PS]
     refine GI 12 ?_;refine GV rfl ?_;try simp only[PS]
     refine GI 18 ?_;iterate 2
      refine GV rfl ?_;try simp only[PS]
     refine zn ?_;rw[aV.z];clear aV;obtain⟨SP,aM⟩:=nm (Gy b p y);have a5:SP.length<=400:=by rw[<-aM,UH b y aU];exact f3
     obtain⟨W3,aN⟩:=nm ((W2.alloc (.cells #[.int .u8 (z.toNat:Int)] 5)).drew);rw[aM]at HR ⊢;rw[aN];have m3:DW DX W2 W3:=by rw[<-aN];exact((DW.refl DX W2).alloc _).drew
     obtain⟨m,Z⟩:=nm n;obtain⟨tag3,e4⟩:=nm tag;obtain⟨M3,e5⟩:=nm M;have t:AA (De w tag3 nb m M3 W3):=zb (by rw[<-Z,<-e4,<-e5];exact E.z.free m3 (λ_ x=>x.elim));have HB:AA (m.Inv T):=by rw[<-Z];exact HI
     have aC:AA (∀n' W',zs w tag3 nb W3 n' W'->zs w tag nb W n' W'):=zb λn' W' hh=>u.z _ _ (zs.from0 m3 (by rw[e4];exact hh))
     replace Y:=m3.cell (a:=⟨fb,0,none⟩) id Y;have aD:tag3 fb=(0,0):=by rw[<-e4];exact v
     rw[Z]at HR;clear aN m3 E HI u v e4 e5 aM Z z1 aL c3 c4 c0 B A HP aA ae aP;have u:=aC;have v:=aD;clear aC aD;go_upto_region 20 with fail;obtain⟨gx,cx,b1,⟨b2,b3⟩,b4⟩:=t.z.o.connIs (i:=d) f1;obtain⟨a1,a2,ah,_,_,J⟩:=t.z.o.x.form (by omega);have aI:=t.z.o.obj.tag;have aJ:tag3 gx=(3,1):=by
      have x:W3.cell? ⟨nb,0,none⟩=some M3.x:=t.z.o.obj.cell (j:=0) rfl;rw[b1,ah]at x;cases x;exact J
     obtain⟨cb,O⟩:=nm (M3.b d);have P:=zb (t.z.free ((DW.refl DX W3).drew) (λ_ x=>x.elim));have kr:=PF P.z HB.z f1 SP (by omega) (by unfold Dg;omega);rw[O]at b4 kr;have ai:=zb O;have G:=zb ((HB.z.mono (show T<=T+400 by omega)).setC d (λhd=>((HB.z.c d hd).receive (bs:=SP) (by unfold Dg;omega)).mono (by omega)));have r:=HR.z;unfold NS.recv at r;simp only at r;obtain⟨RQ,aj⟩:=nm ((m.c d).receive SP);rw[aj]at kr r G;obtain⟨⟨f,at_⟩,c'⟩:=RQ;simp only at kr r G;have H:=zb r;have KR:=zb kr;have q1:((f:Int)==7)=(f==7):=F8 f 7;have ak:AA (∀g,(tag3 g).1=3->(tag3 g).1=d+1->False):=zb λg a b=>by omega
     clear r aj kr O ah J HR;refine zl 15 (λw'=>w'.cell? ⟨nb,0,none⟩=some (.slice (some ⟨gx,0,none⟩) 2 cx)/\w'.cell? ⟨gx,d,none⟩=some (.pointer (some ⟨cb,0,none⟩))/\w'.cell? ⟨fb,0,none⟩=some (.int .i64 d)) (⟨b1,b4,Y⟩) ?_;refine GI 0 ?_;iterate 9
      refine GV rfl ?_;try simp only[PS]
     refine zw 9 rfl (λK V=>?_);go_simp;refine(KR.z).mono ?_;rintro _ W5 ⟨rfl,hL⟩;rw[<-ai.z]at hL;obtain⟨al,V5,N5,L,m5⟩:=P.z.conn f1 hL;have G0:=m5.cell (a:=⟨nb,0,none⟩) (λx=>ak.z nb (by rw[aI]) x) b1;have G1:=m5.cell (a:=⟨gx,d,none⟩) (λx=>ak.z gx (by rw[aJ]) x) b4;have G2:=m5.cell (a:=⟨fb,0,none⟩) (λx=>by have x:(tag3 fb).1=d+1:=x;rw[v]at x;simp at x) Y;refine V.z _ _ ⟨G0,G1,G2⟩ ?_;clear V K;try simp only[PS]
     refine GI 10 ?_;iterate 5
      refine GV rfl ?_;try simp only[PS]
     refine zn ?_;have am:AA (∀n' W',zs w al nb W5 n' W'->zs w tag nb W n' W'):=zb λn' W' hh=>u.z _ _ (zs.from0 ((DW.refl DX W3).drew) (zs.trans L (m5.mono (λg hg=>.inl (λx=>by rw[x]at hg;simp at hg))) hh))
     have Q:=Ps N5 G.z (by unfold Dg;omega) f1;obtain⟨RC,an⟩:=nm ((m.setC d c').came d);rw[an]at Q H;obtain⟨cm,N6⟩:=RC;simp only at H;have r:=H.z;subst r;clear N5 L m5 G P KR an hL ai H u t HB Y b1 b4;go_upto_region 22 with(go_at_call 34;refine Q.mono ?_;rintro _ W6 ⟨rfl,ao⟩);have ap:=zb (am.z _ _ ao);clear Q ao am;obtain⟨cz,R⟩:=nm ((f==7));rw[R]at q1 ⊢;cases cz
     ·go_wp2_with fail;go_ret;exact⟨by show _=Ending.returned (.bool ((f==7)&&cm));rw[R];rfl,ap.z⟩
     ·go_wp2_with fail;go_ret;exact⟨by show _=Ending.returned (.bool ((f==7)&&cm));rw[R];rfl,ap.z⟩
def gd(h:De w tag nb n M W)(hI:n.Inv T)(l:T<=Dg)(m:n.Up)(o:s.Ok)(hk:s.kind=6):Calls prog 21 #[.pointer (some ⟨nb,0,none⟩),.agg s.cells] W (EL w tag nb W (n.flush (DZ s.side 2))):=by
 obtain⟨W1,sb,i,k,gx,cx,b,hsb,h1,m1,sA,p,hi,hk8,c,f,d,g,b1,⟨b2,b3⟩,b4⟩:=I4 h o;rw[c];obtain⟨c0,c1,c2,c3,c4⟩:=sA;rw[hk]at c0;have a:=zb b;have q:=OG h1 hI l m hi;have j:=zb m1;obtain⟨RR,e⟩:=nm (n.flush i);rw[e]at q ⊢;unfold Dm.cells at a ⊢;rw[hk]at a ⊢;clear h hI h1 m1 b o hk c f l e m;go_enter func21,ntmps21;go_upto_region 1 with fail;rw[a.z];go_wp2_with (first|(go_at_call 24;refine d.mono ?_;rintro _ _ ⟨rfl,rfl⟩;clear d)|(go_at_call 24;refine g.mono ?_;rintro _ _ ⟨rfl,rfl⟩)|(go_at_call 22;refine q.mono ?_;rintro _ W5 ⟨rfl,hL⟩));go_ret;exact⟨rfl,zs.from0 j.z hL⟩
def fJ(h:De w tag nb n M W)(hI:n.Inv T)(z:T<=Dg)(g:s.Ok)(hk:s.kind=10):Calls prog 21 #[.pointer (some ⟨nb,0,none⟩),.agg s.cells] W (EL w tag nb W (n.read (DZ s.side 2) (DZ s.b 8) (DZ s.a 200))):=by
 obtain⟨W1,sb,i,q,gx,cx,j,hsb,h1,m1,sA,A,hi,hq8,l,x,o,p,b1,⟨b2,b3⟩,b4⟩:=I4 h g;have r:DZ s.b 8<8:=zQ _ _ (by omega);have hm:DZ s.a 200<200:=zQ _ _ (by omega);have c:Calls prog 24 #[.int .i64 s.b,.int .i64 8] W1 (λe w'=>e = .returned (.int .i64 (DZ s.b 8:Int))/\W1=w'):=Gk s.b 8 W1 g.b.1 g.b.2 (by omega) (by omega);have d:Calls prog 24 #[.int .i64 s.a,.int .i64 200] W1 (λe w'=>e = .returned (.int .i64 (DZ s.a 200:Int))/\W1=w'):=Gk s.a 200 W1 g.a.1 g.a.2 (by omega) (by omega);obtain⟨k,t⟩:=nm (DZ s.b 8);obtain⟨m,u⟩:=nm (DZ s.a 200);rw[l];rw[t]at r c ⊢;rw[u]at hm d ⊢;obtain⟨c0,c1,c2,c3,c4⟩:=sA;rw[hk]at c0;have f:=zb j;have B:=Sh h1 hI z hi r (show m<=4096 by omega);have y:=zb m1;obtain⟨RR,v⟩:=nm (n.read i k m);rw[v]at B ⊢;unfold Dm.cells at f ⊢;rw[hk]at f ⊢;clear h hI h1 m1 j g hk l t z v u x;go_enter func21,ntmps21;go_upto_region 1 with fail;rw[f.z];go_upto_region 39 with(first|(go_at_call 24;refine o.mono ?_;rintro _ _ ⟨rfl,rfl⟩;clear o)|(go_at_call 24;refine p.mono ?_;rintro _ _ ⟨rfl,rfl⟩));clear p;go_wp2_with (first|(go_at_call 24;refine c.mono ?_;rintro _ _ ⟨rfl,rfl⟩;clear c)|(go_at_call 24;refine d.mono ?_;rintro _ _ ⟨rfl,rfl⟩;clear d)|(go_at_call 35;refine B.mono ?_;rintro _ W5 ⟨rfl,hL⟩));go_ret;exact⟨rfl,zs.from0 y.z hL⟩
def TX(h:De w tag nb n M W)(hI:n.Inv T)(hT:T+400<=Dg)(hs:s.Ok):Calls prog 41 #[.pointer (some ⟨nb,0,none⟩),.agg s.cells] W (EL w tag nb W (n.carry s)):=by
 by_cases hb:n.bag=[]
 ·exact Tc h hb s
 ·exact fK h hI hT hs hb
def gZ(h:De w tag nb n M W)(hI:n.Inv T)(p:T+400<=Dg)(g:s.Ok)(hk:s.kind≠1/\s.kind≠2/\s.kind≠3/\s.kind≠4/\s.kind≠5/\s.kind≠6/\s.kind≠10):Calls prog 21 #[.pointer (some ⟨nb,0,none⟩),.agg s.cells] W (EL w tag nb W (n.carry s)):=by
 obtain⟨W1,sb,i,k,gx,cx,b,hsb,h1,m1,sA,q,hi,hk8,j,l,c,m,b1,⟨b2,b3⟩,b4⟩:=I4 h g;obtain⟨c0,c1,c2,c3,c4⟩:=sA;obtain⟨r,k2,k3,k4,k5,k6,k7⟩:=hk;have d1:=AR.2 r;have d2:=AR.2 k2;have d3:=AR.2 k3;have d4:=AR.2 k4;have d5:=AR.2 k5;have d6:=AR.2 k6;have d7:=AR.2 k7;have a:=zb b;have f:=TX h1 hI p g;have o:=zb m1;obtain⟨RR,d⟩:=nm (n.carry s);rw[d]at f ⊢;unfold Dm.cells at a f ⊢;obtain⟨kd,e⟩:=nm s.kind;rw[e]at a f c0 d1 d2 d3 d4 d5 d6 d7 ⊢;clear h hI h1 m1 b g j l p d r k2 k3 k4 k5 k6 k7 e;go_enter func21,ntmps21;go_upto_region 1 with fail;rw[a.z];go_wp2_with (first|(go_at_call 24;refine c.mono ?_;rintro _ _ ⟨rfl,rfl⟩;clear c)|(go_at_call 24;refine m.mono ?_;rintro _ _ ⟨rfl,rfl⟩)|(go_at_call 41;refine f.mono ?_;rintro _ W5 ⟨rfl,hL⟩));go_ret;exact⟨rfl,zs.from0 o.z hL⟩
def Vg:(prog.info? 86).map (λi=>(i.zero,i.size,i.bytes))=some (some (.pointer none),1,8):=by kernel_rfl
section
variable {w:World} {tag tag':Nat->Nat×Nat} {nb mt wn tt:Nat} {R:Nat->Value} {L:Nat->List Value} {C:Nat} {b:Nat->Nat} {V:Nat->CV} {D:Nat} {er:Nat->Value} {eb:Nat->Nat} {W W':World}
def Hs(er:Nat->Value)(i K:Nat):Value:=if K=0 then .slice none 0 0 else er i
def BN.pushEnd(h:BN w tag nb mt wn tt R L C b V D er eb W){K:Nat}(hi:i<2)(hK:K<8)(hD:D=8*i+K):∃va ca a c W2 tag',Hs er i K = .slice va K ca/\(∀ty,(Builtin.append_ #[87,87] ty #[.slice va K ca,.slice (some ⟨W.heap.size+1,0,none⟩) 1 1]).run prog ((W.alloc (.cells (FM EN.zero) 89)).alloc (.cells #[.pointer (some ⟨W.heap.size,0,none⟩)] 86)) = .ok (.slice a (K+1) c) W2) /\
   BN w tag' nb mt wn tt R L C b V (D+1) (upd er i (.slice a (K+1) c)) (upd eb D W.heap.size) W2:=by
 obtain⟨ii,I,J,M,N⟩:=info_parts Vg;obtain⟨W1,o⟩:=nm (W.alloc (.cells (FM EN.zero) 89));obtain⟨t,p⟩:=nm (W1.alloc (.cells #[.pointer (some ⟨W.heap.size,0,none⟩)] 86));have m1:=AB o
 have v:=AB p
 have m0:=m1.trans v;have s1:=AC o
 have s0:t.heap.size=W.heap.size+2:=by rw[<-p];simp[s1]
 have O:=AD o
 have Q:t.heap[W.heap.size+1]?=some (.cells #[.pointer (some ⟨W.heap.size,0,none⟩)] 86 (0,0)):=by rw[<-p,<-s1];exact heap_alloc_new W1 _
 have hc:∀(j:Nat) u,[Ee W.heap.size][j]?=some u->t.cell? ((⟨W.heap.size+1,0,none⟩:Addr).add j)=some u:=λj u hj=>by
  rw[zS];refine za Q ?_;rw[Au,<-Array.getElem?_toList];exact hj
 have A:W.ownsRow 0 86 1 (Hs er i K) K ((List.range K).map λk=>Ee (eb (8*i+k)))/\∀q,(Hs er i K).ownBlock=some q->tag q=(3,7+i):=by
  unfold Hs;split
  ·rename_i hK0;subst hK0;exact⟨World.ownsRow_nil W 0 _ 1,λq m=>by cases m⟩
  ·have x:=h.er i hi (by omega);rw[show min 8 (D-8*i)=K by omega]at x;exact⟨x.own,x.tag⟩
 obtain⟨r,s⟩:=A;obtain⟨va,ca,f1,f2,f3,f4⟩:=zi r;obtain⟨G,W2,r2,S,g2,n2⟩:=zJ (P:=prog) t 87 86 ii _ 1 8 underlying87 I J M N rfl (by decide) (Hs er i K) K ((List.range K).map λk=>Ee (eb (8*i+k))) (m0.owns r (λ_ _ x=>x))
  ⟨W.heap.size+1,0,none⟩ 1 1 [Ee W.heap.size] rfl hc (by intro u hu;simp at hu;subst hu;rfl) (by unfold maxLen;omega) (by omega)
 have T:=(DW.refl _ t).grown g2 (λq m=>.inl m);have E:=(m0.mono (λ_ x=>x.elim)).then T (λq m=>.inl (s q m));have aa:W.heap.size+2<=W2.heap.size:=by rw[<-s0];exact T.size
 have U:∀q,G.ownBlock=some q->q<W2.heap.size:=λq m=>PL S m
 have X:∀q,G.ownBlock=some q->tag q=(3,7+i)\/W.heap.size+2<=q:=λq m=>by
  rcases n2 q m with z|z
  ·exact .inl (s q z)
  ·exact .inr (by omega)
 have l:=λq m=>h.env.ok q m
 obtain⟨tag',n⟩:=nm ((λg=>if g=W.heap.size then(3,20+D)else if W.heap.size<=g/\G.ownBlock=some g/\g<W2.heap.size then(3,7+i)else tag g));have old:∀g,g<W.heap.size->tag' g=tag g:=λg hg=>by
  rw[<-n];simp only;rw[AH (by omega),AH (λx=>by omega)]
 have f:∀g,tag g≠(0,0)->tag' g=tag g:=λg hg=>by
  by_cases q:g<W.heap.size
  ·exact old g q
  ·exact absurd (l g (by omega)) hg
 have H:∀{x:Nat},x≠7+i->∀g,tag g=(3,7+i)->tag g≠(3,x):=λa g hg y=>by
  rw[y]at hg;simp at hg;exact a hg
 have Y:W2.heap[W.heap.size]?=some (.cells (FM EN.zero) 89 (0,0)):=by
  refine T.obj (λz=>?_) (v.obj (λz=>z) O);have:=s _ z;rw[l _ (AG _)]at this;simp at this
 obtain⟨a2,c2,F,-⟩:=zi S;have B:BN w tag' nb mt wn tt R L C b V (D+1) (upd er i G) (upd eb D W.heap.size) W2:=by
  refine h.build E (λg hg=>.inl (by rw[hg])) ⟨old,λg hg=>?_,λg hg=>?_⟩ (h.obj.mod E (H (by omega)) f) (λx hx=>(h.row x hx).mod E (H (by omega)) f) (λd hd=>?_) (λj hj hd=>?_) (by omega)
  ·rw[<-n];simp only;split
   ·exact .inl rfl
   ·split
    ·exact .inl rfl
    ·exact .inr (l g hg)
  ·rw[<-n];simp only;rw[AH (by omega),AH (λx=>by omega)];exact l g (by omega)
  ·by_cases y:d=D
   ·subst y;rw[ze];exact⟨Y,by rw[<-n];exact AN rfl⟩
   ·rw[zd _ _ y];exact(h.en d (by omega)).mod E (H (by omega)) f
  ·by_cases y:j=i
   ·subst y;rw[ze,show min 8 (D+1-8*j)=K+1 by omega];have e:((List.range (K+1)).map λk=>Ee (upd eb D W.heap.size (8*j+k)))=((List.range K).map λk=>Ee (eb (8*j+k)))++[Ee W.heap.size]:=by
     rw[Bf,BO,List.map_singleton,<-hD,ze]
     congr 1
     refine Cb λk hk=>?_
     rw[zd _ _ (by have:=Bg.1 hk;omega)]
    rw[e];refine⟨S,λg hg=>?_⟩;rcases X g hg with z|z
    ·rw[f g (by rw[z];simp),z]
    ·rw[<-n];simp only;rw[AH (by omega),AN ⟨by omega,hg,U g hg⟩]
   ·rw[zd _ _ y];have Z:j=0/\i=1\/j=1/\i=0:=by omega
    rcases Z with⟨rfl,rfl⟩|⟨rfl,rfl⟩
    ·rw[show min 8 (D+1-8*0)=8 by omega];have x:=h.er 0 (by omega) (by omega);rw[show min 8 (D-8*0)=8 by omega]at x;have e:((List.range 8).map λk=>Ee (upd eb D W.heap.size (8*0+k)))=((List.range 8).map λk=>Ee (eb (8*0+k))) :=
      Cb λk hk=>by rw[zd _ _ (by have:=Bg.1 hk;omega)]
     rw[e];exact x.mod E (H (by omega)) f
    ·exact absurd hd (by omega)
 subst F;rw[f1]at r2;exact⟨va,ca,a2,c2,W2,tag',f1,by rw[o,p];exact r2,B⟩
def BN.done{R:Nat->Value}{L:Nat->List Value}(h:BN w tag nb mt wn tt R L 2 b V 16 er eb W)(h0:L 0=[Ee (b 0),Ee (b 1)])(h1:L 1=[er 0,er 1])(h2:L 2=[.slice none 0 0,.slice none 0 0])(h3:L 3=[.int .u64 0,.int .u64 0])(h4:L 4=[.int .u64 0,.int .u64 0]):De w tag nb (NS.new mt wn tt) ⟨R 0,R 1,R 2,R 3,.slice none 0 0,R 4,b,V,er,λi k=>eb (8*i+k),λ_=>.slice none 0 0,λ_=>[]⟩ W:=by
 have a:=h.row 0 (by omega);have c:=h.row 1 (by omega);have d:=h.row 2 (by omega);have e:=h.row 3 (by omega);have f:=h.row 4 (by omega);rw[h0]at a;rw[h1]at c;rw[h2]at d;rw[h3]at e;rw[h4]at f;exact
  {o :=
    {obj:=h.obj
     x:=a
     ev:=c
     gv:=d
     nx:=e
     ct:=f
     bg:=⟨World.ownsRow_nil W 0 _ 2,λg hg=>by cases hg⟩
     er:=λi hi=>by
      have x:=h.er i hi (by omega);rw[show min 8 (16-8*i)=8 by omega]at x;exact x
     en:=λi hi k hk=>by
      have x:=h.en (8*i+k) (by omega);rw[show 20+(8*i+k)=20+8*i+k by omega]at x;exact x
     gr:=λi hi=>⟨World.ownsRow_nil W 0 _ 1,λg hg=>by cases hg⟩
     gl:=λi hi=>rfl
     gn:=λi hi j b s hb=>by simp at hb }
   cn:=λi hi=>h.cn i hi
   env:=h.env
   nd:=h.nd
   mod:=h.mod
   t1:=h.t1 }
end
def VV:(prog.info? (Gp 0)).map (λi=>(i.zero,i.size,i.bytes))=some (some (.pointer none),1,8):=by kernel_rfl
def VU:(prog.info? (Gp 1)).map (λi=>(i.zero,i.size,i.bytes))=some (some (.slice none 0 0),1,24):=by kernel_rfl
def VT:(prog.info? (Gp 2)).map (λi=>(i.zero,i.size,i.bytes))=some (some (.slice none 0 0),1,24):=by kernel_rfl
def VS:(prog.info? (Gp 3)).map (λi=>(i.zero,i.size,i.bytes))=some (some (.int .u64 0),1,8):=by kernel_rfl
def Uj:(prog.info? (Gp 4)).map (λi=>(i.zero,i.size,i.bytes))=some (some (.int .u64 0),1,8):=by kernel_rfl
variable{w1:World}
def De.base(h:De w1 tag nb n M W)(m:DW DX w w1):De w tag nb n M W :=
 ⟨h.o,h.cn,h.env,h.nd,m.trans h.mod,λg hg=>AO m.size (h.t1 g hg)⟩
def Xi(w:World)(n:NS)(e:Ending)(W':World):Prop:=∃nb tag M,e = .returned (.pointer (some ⟨nb,0,none⟩))/\De w tag nb n M W'
structure Ep(L:Nat->List Value)(b:Nat->Nat)(er:Nat->Value)(c0 c1 c2 c3 c4:Nat):Prop where
 h0:L 0=(List.range c0).map λj=>Ee (b j)
 h1:L 1=(List.range c1).map er
 h2:L 2=List.replicate c2 (.slice none 0 0)
 h3:L 3=List.replicate c3 (.int .u64 0)
 h4:L 4=List.replicate c4 (.int .u64 0)
def jM:CV:=⟨0,.slice none 0 0,λ_=>.slice none 0 0,λ_=>.slice none 0 0,λ_=>.slice none 0 0,λ_=>.slice none 0 0,λ_=>.slice none 0 0,.slice none 0 0,[],.slice none 0 0,0,.slice none 0 0⟩
def BN.start(E:Dx 1 (λ_=>(0,0)) w1)(mt wn tt:Nat):BN w1 (λg=>if g=w1.heap.size then(3,0)else(0,0)) w1.heap.size mt wn tt (λ_=>.slice none 0 0) (λ_=>[]) 0 (λ_=>0) (λ_=>jM) 0 (λ_=>.slice none 0 0) (λ_=>0) (w1.alloc (.cells (Iy mt wn tt (λ_=>.slice none 0 0)) 48)):=by
 have m:DW DX w1 (w1.alloc (.cells (Iy mt wn tt (λ_=>.slice none 0 0)) 48)):=(DW.refl _ _).alloc _;have p0:=zk E.err;have p1:=E.tab.lt;exact
  {obj:=⟨heap_alloc_new w1 _,AN rfl⟩
   row:=λr hr=>⟨World.ownsRow_nil _ 0 _ 1,λg hg=>by cases hg⟩
   en:=λd hd=>absurd hd (BA d)
   er:=λj a hd=>absurd hd (by omega)
   cn:=λj a=>absurd a (BA j)
   c2:=by omega
   d16:=by omega
   env:=⟨λg hg=>AH (by simp at hg;omega),E.pos,(E.mod0 m).err,(E.mod0 m).tab,AH (by omega),AH (by omega)⟩
   nd:=λj a g r hr=>by
    simp only;split
    ·intro x;have:=A0 Prod.fst x;simp at this;omega
    ·intro x;have:=A0 Prod.fst x;simp at this
   mod:=m
   t1:=λg hg=>by
    by_cases x:g=w1.heap.size
    ·omega
    ·simp only[AH x]at hg;exact absurd rfl hg }
section
variable {L:Nat->List Value} {b:Nat->Nat} {er:Nat->Value} {c0 c1 c2 c3 c4:Nat}
def Ep.len(h:Ep L b er c0 c1 c2 c3 c4):(L 0).length=c0/\(L 1).length=c1/\(L 2).length=c2/\(L 3).length=c3/\(L 4).length=c4:=by
 rw[h.h0,h.h1,h.h2,h.h3,h.h4];simp
def Ep.p0(h:Ep L b er c0 c1 c2 c3 c4)(q:Nat):Ep (upd L 0 (L 0++[.pointer (some ⟨q,0,none⟩)])) (upd b c0 q) er (c0+1) c1 c2 c3 c4:=by
 refine⟨?_,by rw[zd _ _ (by omega)];exact h.h1,by rw[zd _ _ (by omega)];exact h.h2,by rw[zd _ _ (by omega)];exact h.h3,by rw[zd _ _ (by omega)];exact h.h4⟩;rw[ze,Bf,BO,List.map_singleton,ze,h.h0]
 congr 1
 refine Cb λk hk=>?_
 rw[zd _ _ (by have:=Bg.1 hk;omega)]
def Ep.p1(h:Ep L b er c0 c1 c2 c3 c4){u:Value}(hu:er c1=u):Ep (upd L 1 (L 1++[u])) b er c0 (c1+1) c2 c3 c4:=by
 refine⟨by rw[zd _ _ (by omega)];exact h.h0,?_,by rw[zd _ _ (by omega)];exact h.h2,by rw[zd _ _ (by omega)];exact h.h3,by rw[zd _ _ (by omega)];exact h.h4⟩;rw[ze,Bf,BO,List.map_singleton,h.h1,hu]
def Ep.p2(h:Ep L b er c0 c1 c2 c3 c4):Ep (upd L 2 (L 2++[.slice none 0 0])) b er c0 c1 (c2+1) c3 c4:=by
 refine⟨by rw[zd _ _ (by omega)];exact h.h0,by rw[zd _ _ (by omega)];exact h.h1,?_,by rw[zd _ _ (by omega)];exact h.h3,by rw[zd _ _ (by omega)];exact h.h4⟩;rw[ze,Cs,h.h2]
def Ep.p3(h:Ep L b er c0 c1 c2 c3 c4):Ep (upd L 3 (L 3++[.int .u64 0])) b er c0 c1 c2 (c3+1) c4:=by
 refine⟨by rw[zd _ _ (by omega)];exact h.h0,by rw[zd _ _ (by omega)];exact h.h1,by rw[zd _ _ (by omega)];exact h.h2,?_,by rw[zd _ _ (by omega)];exact h.h4⟩;rw[ze,Cs,h.h3]
def Ep.p4(h:Ep L b er c0 c1 c2 c3 c4):Ep (upd L 4 (L 4++[.int .u64 0])) b er c0 c1 c2 c3 (c4+1):=by
 refine⟨by rw[zd _ _ (by omega)];exact h.h0,by rw[zd _ _ (by omega)];exact h.h1,by rw[zd _ _ (by omega)];exact h.h2,by rw[zd _ _ (by omega)];exact h.h3,?_⟩;rw[ze,Cs,h.h4]
def Ep.setEr(h:Ep L b er c0 c1 c2 c3 c4)(hi:c1<=i)(v:Value):Ep L b (upd er i v) c0 c1 c2 c3 c4:=by
 refine⟨h.h0,?_,h.h2,h.h3,h.h4⟩;rw[h.h1];refine Cb λk hk=>?_
 rw[zd _ _ (by have:=Bg.1 hk;omega)]
end
def Pv(a b c:Int)(ha : -9223372036854775808<=a/\a<=9223372036854775807)(hb : -9223372036854775808<=b/\b<=9223372036854775807)(hc : -9223372036854775808<=c/\c<=9223372036854775807)(w:World)(E:Dx 1 (λ_=>(0,0)) w):Calls prog 20 #[.int .i64 a,.int .i64 b,.int .i64 c] w (Xi w (NS.build a b c)):=by
 have aW:=zQ a 337 (by omega);have aX:=zQ b 300 (by omega);have aY:=zQ c 600 (by omega);have C:Calls prog 24 #[.int .i64 a,.int .i64 337] w (λe w'=>e = .returned (.int .i64 (DZ a 337:Int))/\w=w'):=Gk a 337 w ha.1 ha.2 (by omega) (by omega);have D:Calls prog 24 #[.int .i64 b,.int .i64 300] w (λe w'=>e = .returned (.int .i64 (DZ b 300:Int))/\w=w'):=Gk b 300 w hb.1 hb.2 (by omega) (by omega);have F:Calls prog 24 #[.int .i64 c,.int .i64 600] w (λe w'=>e = .returned (.int .i64 (DZ c 600:Int))/\w=w'):=Gk c 600 w hc.1 hc.2 (by omega) (by omega);unfold NS.build;obtain⟨p1,e1⟩:=nm (DZ a 337);obtain⟨p2,e2⟩:=nm (DZ b 300);obtain⟨p3,e3⟩:=nm (DZ c 600);rw[e1]at C aW ⊢;rw[e2]at D aX ⊢;rw[e3]at F aY ⊢;obtain⟨mt,ai⟩:=nm (64+p1);obtain⟨wn,aj⟩:=nm (16+p2);obtain⟨tt,ak⟩:=nm (16+p3);have z1:(64:Int)+(p1:Int)=(mt:Int):=by omega
 have z2:(16:Int)+(p2:Int)=(wn:Int):=by omega
 have z3:(16:Int)+(p3:Int)=(tt:Int):=by omega
 have y1:IntKind.i64.wrap (mt:Int)=(mt:Int):=by rw[IntKind.wrap_i64];omega
 have y2:IntKind.i64.wrap (wn:Int)=(wn:Int):=by rw[IntKind.wrap_i64];omega
 have y3:IntKind.i64.wrap (tt:Int)=(tt:Int):=by rw[IntKind.wrap_i64];omega
 rw[ai,aj,ak];have al:Ir mt wn tt=true:=by
  unfold Ir;simp only[AZ,Af];omega
 have HE:=zb E;have aZ:=zb al;obtain⟨W1,v⟩:=nm (w.alloc (.cells #[.int .i64 mt,.int .i64 wn,.int .i64 tt] 45));have m1:=AB v
 have d:=AD v
 obtain⟨cb,am⟩:=nm w.heap.size;rw[am]at d;have g0:W1.cell? ⟨cb,0,none⟩=some (.int .i64 mt):=za d rfl;have g1:W1.cell? ⟨cb,1,none⟩=some (.int .i64 wn):=za d rfl;have g2:W1.cell? ⟨cb,2,none⟩=some (.int .i64 tt):=za d rfl;have HG:AA (∀Wx,DW DX W1 Wx->Wx.cell? ⟨cb,0,none⟩=some (.int .i64 mt)/\Wx.cell? ⟨cb,1,none⟩=some (.int .i64 wn)/\Wx.cell? ⟨cb,2,none⟩=some (.int .i64 tt)):=zb λWx m=>⟨m.cell (a:=⟨cb,0,none⟩) id g0,m.cell (a:=⟨cb,1,none⟩) id g1,m.cell (a:=⟨cb,2,none⟩) id g2⟩
 have an:=zb m1;have ST:=zb (BN.start (E.mod0 m1) mt wn tt);have a0:=zb v;obtain⟨nb,a1⟩:=nm W1.heap.size;rw[a1]at ST;unfold Iy at ST;obtain⟨W2,G⟩:=nm (W1.alloc (.cells #[.slice none 0 0,.slice none 0 0,.slice none 0 0,.slice none 0 0,.int .u64 0,.int .i64 mt,.int .i64 wn,.int .i64 tt,.slice none 0 0,.slice none 0 0] 48));have a2:=zb G;rw[G]at ST;clear E al m1 d v G ai aj ak ha hb hc e1 e2 e3;go_enter func20,ntmps20;go_upto_region 2 with(first|(go_at_call 24;refine C.mono ?_;rintro _ _ ⟨rfl,rfl⟩;clear C)|(go_at_call 24;refine D.mono ?_;rintro _ _ ⟨rfl,rfl⟩;clear D)|(go_at_call 24;refine F.mono ?_;rintro _ _ ⟨rfl,rfl⟩;clear F));try rw[a0.z]
 go_wp2_with fail;try rw[a2.z]
 go_loopw [9] (λiv wr=>∃(i:Nat) (tag:Nat->Nat×Nat) (R:Nat->Value) (L:Nat->List Value) (bb:Nat->Nat) (V:Nat->CV) (er:Nat->Value) (eb:Nat->Nat),i<=2/\iv = .int .i64 i/\AA (BN W1 tag nb mt wn tt R L i bb V (8*i) er eb wr/\Ep L bb er i i i i i)) (λiv _=>2-(intOf iv).toNat)
 case atStart=>exact⟨0,_,_,_,_,_,_,_,by omega,rfl,zb ⟨ST.z,⟨rfl,rfl,rfl,rfl,rfl⟩⟩⟩
 case round =>
  obtain⟨i,tag,R,L,bb,V,er,eb,hi,rfl,HB⟩:=hrel;by_cases f:i<2;rotate_left
  ·have h2:i=2:=by omega
   subst h2;have HN:=zb ((HB.z.1.done HB.z.2.h0 HB.z.2.h1 HB.z.2.h2 HB.z.2.h3 HB.z.2.h4).base an.z);clear f;go_wp2_with fail;go_ret;exact⟨nb,tag,_,rfl,HN.z⟩
  have xw:=wi ((i:Int)+1) (by omega);have xc:((i+1:Nat):Int)=(i:Int)+1:=by omega
  obtain⟨u0,u1,u2⟩:=HG.z wr HB.z.1.mod;have kn:=XD tag (i+1) mt wn tt wr (HB.z.1.env.to (by omega));go_upto_region 9 with(go_at_call 36;refine kn.mono ?_;rintro e Wn hp;rcases hp with⟨hf,-⟩|⟨q,ao,Vn,-,rfl,n1,n2,n3,n4⟩;exact absurd (aZ.z.symm.trans hf) (by simp));simp only[Ao]at n1;have hL:Dn tag (i+1) q wr (CS.new mt wn tt) Wn:=⟨ao,Vn,n1,n2,n3.mono (λ_ x=>x.elim)⟩;obtain⟨a8,V1,C1⟩:=HB.z.1.conn f hL;obtain⟨l0,l1,l2,l3,H⟩:=HB.z.2.len;obtain⟨ap,aq,ar,au,I,-,x0,g,y,J,tg0,M⟩:=C1.push (r:=0) (by decide) (.pointer (some ⟨q,0,none⟩)) rfl 39 8 VV rfl underlying39 (by decide) (by rw[l0];exact AO hi (by decide));rw[l0]at x0 g y M;have x0:Wn.cell? ⟨nb,0,none⟩=some (.slice ap i aq):=x0;have y:I.cell? ⟨nb,0,none⟩=some (.slice ap i aq):=y;have J:I.frozen? ⟨nb,0,none⟩=false:=J;obtain⟨a3,h⟩:=nm (I.setCell ⟨nb,0,none⟩ (.slice ar (i+1) au));have B0:=zb (M a3 (by rw[<-h];exact DW.refl _ _));have S0:=zb (HB.z.2.p0 q);obtain⟨R0,av⟩:=nm (upd R 0 (Value.slice ar (i+1) au));obtain⟨L0,N⟩:=nm (upd L 0 (L 0++[(.pointer (some ⟨q,0,none⟩):Value)]));rw[av,N]at B0;rw[N]at S0;clear M av N;clear C1 n1 n2 n3 n4 kn u0 u1 u2 hL;go_upto_region 10 with(at_builtin;refine zm rfl _ _ _ _ rfl _ _ _ rfl rfl g ?_);try rw[h]
  clear h x0 g y J;clear HB l0;obtain⟨b0,O⟩:=nm (upd bb i q);rw[O]at B0;rw[O]at S0;clear O;go_wp2_with fail
  go_loopw [12,13] (λlv kv wr=>∃(K:Nat) (tag:Nat->Nat×Nat) (er:Nat->Value) (eb:Nat->Nat),K<=8/\lv=Hs er i K/\kv = .int .i64 K/\AA (BN W1 tag nb mt wn tt R0 L0 (i+1) b0 V1 (8*i+K) er eb wr/\Ep L0 b0 er (i+1) i i i i)) (λ_ kv _=>8-(intOf kv).toNat)
  case atStart=>exact⟨0,_,_,_,by omega,rfl,rfl,zb ⟨B0.z,S0.z⟩⟩
  case round =>
   obtain⟨K,tag,er,eb,hK,rfl,rfl,HB⟩:=hrel;by_cases aw:K<8
   ·obtain⟨va,ca,a5,c5,W5,ax,f5,r5,B5⟩:=HB.z.1.pushEnd f aw rfl;have S5:=zb (HB.z.2.setEr (AG i) (.slice a5 (K+1) c5));have a4:=zb B5;have e5:Hs (upd er i (.slice a5 (K+1) c5)) i (K+1) = .slice a5 (K+1) c5:=by unfold Hs;rw[AH (by omega),ze]
    have E5:=zb e5;rw[f5];unfold FM EN.zero at r5;clear B5 e5 f5 HB;go_wp2_with (at_builtin;refine zm rfl _ _ _ _ rfl _ _ _ rfl rfl r5 ?_;clear r5);go_roundw
    case rel=>exact⟨K+1,ax,_,_,by omega,E5.z.symm,by go_num,zb ⟨a4.z,S5.z⟩⟩
    case measure=>simp[intOf];omega
   ·have h8:K=8:=by omega
    subst h8;obtain⟨_,_,_,_,_⟩:=HB.z.2.len;have j:=HB.z.1.er i f (by omega);rw[show min 8 (8*i+8-8*i)=8 by omega]at j;obtain⟨va,ca,f5,-⟩:=zi j.own;have e5:Hs er i 8 = .slice va 8 ca:=by unfold Hs;rw[AH (by omega),f5]
    rw[e5];have a6:=zb f5;obtain⟨-,l1,l2,l3,H⟩:=HB.z.2.len;clear j e5 f5 aw;obtain⟨ay,az,aA,aB,P,-,x1,k,z,Q,tg1,S⟩:=HB.z.1.push (r:=1) (by decide) (.slice va 8 ca) rfl 40 24 VU rfl underlying40 (by decide) (by rw[l1];exact AO hi (by decide));rw[l1]at x1 k z S;have x1:wr.cell? ⟨nb,1,none⟩=some (.slice ay i az):=x1;have z:P.cell? ⟨nb,1,none⟩=some (.slice ay i az):=z;have Q:P.frozen? ⟨nb,1,none⟩=false:=Q;obtain⟨aC,l⟩:=nm (P.setCell ⟨nb,1,none⟩ (.slice aA (i+1) aB));have B1:=zb (S aC (by rw[<-l];exact DW.refl _ _));have S1:=zb (HB.z.2.p1 a6.z);obtain⟨R1,aD⟩:=nm (upd R0 1 (Value.slice aA (i+1) aB));obtain⟨L1,T⟩:=nm (upd L0 1 (L0 1++[(.slice va 8 ca:Value)]));rw[aD,T]at B1;rw[T]at S1;clear S aD T;go_upto_region 16 with(at_builtin;refine zm rfl _ _ _ _ rfl _ _ _ rfl rfl k ?_);try rw[l]
    clear l x1 k z Q;obtain⟨-,-,l2,l3,H⟩:=S1.z.len;obtain⟨aE,aF,aG,aH,U,-,x2,n,A,W,tg2,X⟩:=B1.z.push (r:=2) (by decide) (.slice none 0 0) rfl 41 24 VT rfl underlying41 (by decide) (by rw[l2];exact AO hi (by decide));rw[l2]at x2 n A X;have x2:aC.cell? ⟨nb,2,none⟩=some (.slice aE i aF):=x2;have A:U.cell? ⟨nb,2,none⟩=some (.slice aE i aF):=A;have W:U.frozen? ⟨nb,2,none⟩=false:=W;obtain⟨aI,o⟩:=nm (U.setCell ⟨nb,2,none⟩ (.slice aG (i+1) aH));have B2:=zb (X aI (by rw[<-o];exact DW.refl _ _));have S2:=zb (S1.z.p2);obtain⟨R2,aJ⟩:=nm (upd R1 2 (Value.slice aG (i+1) aH));obtain⟨L2,Y⟩:=nm (upd L1 2 (L1 2++[(.slice none 0 0:Value)]));rw[aJ,Y]at B2;rw[Y]at S2;clear X aJ Y;go_upto_region 17 with(at_builtin;refine zm rfl _ _ _ _ rfl _ _ _ rfl rfl n ?_);try rw[o]
    clear o x2 n A W;obtain⟨-,-,-,l3,H⟩:=S2.z.len;obtain⟨aK,aL,aM,aN,Z,-,x3,p,B,aa,tg3,ab⟩:=B2.z.push (r:=3) (by decide) (.int .u64 0) rfl 42 8 VS rfl underlying42 (by decide) (by rw[l3];exact AO hi (by decide));rw[l3]at x3 p B ab;have x3:aI.cell? ⟨nb,3,none⟩=some (.slice aK i aL):=x3;have B:Z.cell? ⟨nb,3,none⟩=some (.slice aK i aL):=B;have aa:Z.frozen? ⟨nb,3,none⟩=false:=aa;obtain⟨aO,s⟩:=nm (Z.setCell ⟨nb,3,none⟩ (.slice aM (i+1) aN));have B3:=zb (ab aO (by rw[<-s];exact DW.refl _ _));have S3:=zb (S2.z.p3);obtain⟨R3,aP⟩:=nm (upd R2 3 (Value.slice aM (i+1) aN));obtain⟨L3,ac⟩:=nm (upd L2 3 (L2 3++[(.int .u64 0:Value)]));rw[aP,ac]at B3;rw[ac]at S3;clear ab aP ac;go_upto_region 18 with(at_builtin;refine zm rfl _ _ _ _ rfl _ _ _ rfl rfl p ?_);try rw[s]
    clear s x3 p B aa;obtain⟨-,-,-,-,H⟩:=S3.z.len;obtain⟨aQ,aR,aS,aT,ad,-,x4,t,ae,aU,tg4,af⟩:=B3.z.push (r:=4) (by decide) (.int .u64 0) rfl 42 8 Uj rfl underlying42 (by decide) (by rw[H];exact AO hi (by decide));rw[H]at x4 t ae af;have x4:aO.cell? ⟨nb,9,none⟩=some (.slice aQ i aR):=x4;have ae:ad.cell? ⟨nb,9,none⟩=some (.slice aQ i aR):=ae;have aU:ad.frozen? ⟨nb,9,none⟩=false:=aU;obtain⟨a7,u⟩:=nm (ad.setCell ⟨nb,9,none⟩ (.slice aS (i+1) aT));have B4:=zb (af a7 (by rw[<-u];exact DW.refl _ _));have S4:=zb (S3.z.p4);obtain⟨R4,aV⟩:=nm (upd R3 4 (Value.slice aS (i+1) aT));obtain⟨L4,ah⟩:=nm (upd L3 4 (L3 4++[(.int .u64 0:Value)]));rw[aV,ah]at B4;rw[ah]at S4;clear af aV ah;clear HB B0 S0 B1 B2 B3 S1 S2 S3 H;go_wp2_with (at_builtin;refine zm rfl _ _ _ _ rfl _ _ _ rfl rfl t ?_;clear t);try rw[u]
    clear u;go_roundw
    case rel =>
     have x:=B4.z;rw[show 8*i+8=8*(i+1)from rfl]at x;exact⟨i+1,_,_,_,_,_,_,_,f,by first|rfl|(rw[xc])|(rw[xc,<-xw];rfl),zb ⟨x,S4.z⟩⟩
    case measure =>
     clear HG an xw;simp only[intOf,Ao];omega
def fI:Qf=true:=by decide +kernel
def gY:((NS.build 0 100 100).step IT).1=true/\(Lq.step Im).1=true/\(Jh.fair 4).1=true/\((Jh.fair 4).2.e 0 3).read=22/\((Jh.fair 4).2.e 0 3).state=1:=by
 have h:=fI;unfold Qf at h;simp only[AZ,Cd]at h;exact⟨h.1.1.1.1,h.1.1.1.2,h.1.1.2,h.1.2,h.2⟩
def Tx:IT.s=[115,111,109,101,32,98,121,116,101,115,32,111,102,32,97,32,115,116,114,101,97,109]:=by decide +kernel
def NS.Inv.new{mtu window total:Nat}(h:64<=mtu/\mtu<=400)(a:16<=window/\window<=4096)(b:16<=total/\total<=4096):(NS.new mtu window total).Inv 0 :=
 ⟨h,⟨a,b⟩,λ_ _=>CS.Inv.new h a.2 b.2,λ_ _ _ _=>⟨AL _,AG _,AL _⟩,AG _,λ_ _=>AG _,λ_ _=>AG _,λ_ _=>AG _,λ_ _ s hs=>(by cases hs),AG _,λp hp=>(by cases hp)⟩
def NS.Inv.build(a b c:Int):(NS.build a b c).Inv 0:=by
 have h1:=zQ a 337 (by omega);have h2:=zQ b 300 (by omega);have h3:=zQ c 600 (by omega);exact NS.Inv.new ⟨by omega,by omega⟩ ⟨by omega,by omega⟩ ⟨by omega,by omega⟩
def NS.Up.build(a b c:Int):(NS.build a b c).Up:=λ_ _=>rfl
def Pq(n:NS)(s:Dm)(h:s.kind=1):n.step s=n.send (DZ s.side 2) (DZ s.a 8) s.s:=by
 unfold NS.step;rw[AN h]
def QF(n:NS)(s:Dm)(h:s.kind=2):n.step s=n.finish (DZ s.side 2) (DZ s.a 8):=by
 unfold NS.step;rw[AH (by omega),AN h]
def cW(w:World)(E:Dx 1 (λ_=>(0,0)) w):Calls prog 14 #[] w (λe W'=>e = .returned (.bool true)/\DW DX w W'):=by
 obtain⟨p1,p2,p3,p4,f⟩:=gY;have B:=Pv 0 100 100 (by omega) (by omega) (by omega) w E;obtain⟨j,c⟩:=nm (NS.build 0 100 100);have l:j.Inv 0:=by rw[<-c];exact NS.Inv.build _ _ _
 have v:j.Up:=by rw[<-c];exact NS.Up.build _ _ _
 unfold Jh Lq at p3 p4 f;unfold Lq at p2;rw[c]at B p1 p2 p3 p4 f;have a:(j.step IT).2.Inv 0:=by rw[Pq _ _ rfl];exact l.send _ _ _
 have d:(j.step IT).2.Up:=by rw[Pq _ _ rfl];exact v.send _ _ _
 obtain⟨u,b⟩:=nm ((j.step IT).2);have m:(u.step Im).2.Inv 0:=by rw[QF _ _ rfl];rw[b]at a;exact a.finish _ _
 have n:(u.step Im).2.Up:=by rw[QF _ _ rfl];rw[b]at d;exact d.finish _ _
 rw[b]at p2 p3 p4 f a d;obtain⟨C,p⟩:=nm ((u.step Im).2);rw[p]at p3 p4 f m n;obtain⟨n3,r⟩:=nm ((C.fair 4).2);rw[r]at p4 f;have x:AA (∀tag nb M W,De w tag nb j M W->Calls prog 21 #[.pointer (some ⟨nb,0,none⟩),.agg #[.int .i64 1,.int .i64 0,.int .i64 3,.int .i64 0,.string ⟨#[115,111,109,101,32,98,121,116,101,115,32,111,102,32,97,32,115,116,114,101,97,109]⟩]] W (λe W'=>e = .returned (.bool true)/\zs w tag nb W u W')):=zb λtag nb M W h=>by
  have k:=Tb h l (by decide) (s:=IT) ⟨by decide,by decide,by decide,by decide,by rw[Tx];decide⟩ rfl;rw[<-Pq j IT rfl]at k;unfold Dm.cells at k;rw[Tx]at k;unfold EL at k;rw[p1,b]at k;exact k
 have y:AA (∀tag nb M W,De w tag nb u M W->Calls prog 21 #[.pointer (some ⟨nb,0,none⟩),.agg #[.int .i64 2,.int .i64 0,.int .i64 3,.int .i64 0,.string ⟨#[]⟩]] W (λe W'=>e = .returned (.bool true)/\zs w tag nb W C W')):=zb λtag nb M W h=>by
  have k:=UF h a (by decide) (s:=Im) ⟨by decide,by decide,by decide,by decide,by decide⟩ rfl;rw[<-QF u Im rfl]at k;unfold EL at k;rw[p2,p]at k;exact k
 have D:AA (∀tag nb M W,De w tag nb C M W->Calls prog 17 #[.pointer (some ⟨nb,0,none⟩),.int .i64 4] W (λe W'=>e = .returned (.bool true)/\zs w tag nb W n3 W')):=zb λtag nb M W h=>by
  have k:=Xl h m n (t:=4) (by decide);unfold EL at k;rw[p3,r]at k;exact k
 clear l a m v d n c b p r p1 p2 p3 E;go_enter func14,ntmps14;go_upto_region 2 with(go_at_call 20;refine B.mono ?_;rintro _ W1 ⟨nb,z,M1,rfl,h1⟩);have F:=x.z z nb M1 W1 h1;clear B x;go_upto_region 5 with(go_at_call 21;refine F.mono ?_;rintro _ W2 ⟨rfl,tag2,M2,h2,-,-⟩);have k2:=y.z tag2 nb M2 W2 h2;clear F y h1;go_upto_region 6 with(go_at_call 21;refine k2.mono ?_;rintro _ W3 ⟨rfl,A,M3,h3,-,-⟩);have k3:=D.z A nb M3 W3 h3;clear k2 D h2;go_upto_region 7 with(go_at_call 17;refine k3.mono ?_;rintro _ W4 ⟨rfl,G,M4,h4,-,-⟩);clear k3 h3;obtain⟨g,cap,q,H,a1,⟨a2,a3⟩,a4,⟨a5,a6⟩,a7⟩:=h4.o.endAt (i:=0) (k:=3) (by omega) (by omega);obtain⟨e0,e1,e2,e3,e4,e5,ez⟩:=h4.o.enAt (i:=0) (k:=3) (by omega) (by omega);rw[p4]at e4;rw[f]at e5;have HM:=zb h4.mod;clear h4 e0 e1 e2 e3 p4 f;go_wp2_with fail;go_ret;exact⟨rfl,HM.z⟩
def Jf(w:World)(v:Value)(l:List Dm):Prop :=
 ∃a cap,v = .slice a l.length cap/\l.length<=cap/\cap<=maxLen/\∀(i:Nat) s,l[i]?=some s->(∃g o,a=some ⟨g,o,none⟩/\∀(j:Nat) x,s.cells[j]?=some x->w.cell? ⟨g,o+i*5+j,none⟩=some x)/\s.Ok
variable{v:Value}{w':World}
def Jf.mod0{l:List Dm}(h:Jf w v l)(m:DW DX w w'):Jf w' v l:=by
 obtain⟨a,cap,e1,e2,e3,e4⟩:=h;exact⟨a,cap,e1,e2,e3,λi s hi=>by
  obtain⟨⟨g,o,f1,f2⟩,f3⟩:=e4 i s hi;exact⟨⟨g,o,f1,λj x hx=>m.cell (a:=⟨g,o+i*5+j,none⟩) id (f2 j x hx)⟩,f3⟩⟩
def LA(l:List Dm):Nat:=(l.map λs=>s.s.length).sum
def cV{l:List Dm}(h:l[k]?=some s):LA (l.drop k)=s.s.length+LA (l.drop (k+1)):=by
 rw[LX h];rfl
def NN(w:World)(v:Value)(l:List Int):Prop :=
 ∃a cap,v = .slice a l.length cap/\l.length<=cap/\cap<=maxLen/\∀(i:Nat) s,l[i]?=some s->∃g o,a=some ⟨g,o,none⟩/\w.cell? ⟨g,o+i,none⟩=some (.int .i64 s)
def NN.mod0{l:List Int}(h:NN w v l)(m:DW DX w w'):NN w' v l:=by
 obtain⟨a,cap,e1,e2,e3,e4⟩:=h;exact⟨a,cap,e1,e2,e3,λi s hi=>by obtain⟨g,o,f1,f2⟩:=e4 i s hi;exact⟨g,o,f1,m.cell (a:=⟨g,o+i,none⟩) id f2⟩⟩
def cU(l:List Dm)(v:Value)(w:World)(h:Jf w v l)(hb:l.length<=1048576/\∀s∈l,s.s.length<=1048576):Calls prog 13 #[v] w (λe W'=>e = .returned (.bool (decide (l.length+LA l<=8192)))/\DW DX w W'):=by
 obtain⟨a,cap,rfl,h1,h2,h3⟩:=id h;obtain⟨z,j⟩:=hb;obtain⟨L,A⟩:=nm l.length;have f:=zb A;rw[A]at h1 z ⊢;unfold maxLen at h2;have HS:=zb h;have HB:=zb j;obtain⟨B,i⟩:=nm (decide (L+LA l<=8192));rw[i];have m:=zb i;clear h h3 j i A;go_enter func13,ntmps13;go_wp2_with fail
 go_loopw [3,4] (λnv C wr=>∃(k n:Nat),k<=L/\nv = .int .i64 n/\C = .int .i64 k/\n<=8192+1048576+L/\AA (DW DX w wr/\decide (n+LA (l.drop k)<=8192)=B)) (λ_ C _=>L-(intOf C).toNat)
 case atStart=>exact⟨0,L,AL _,rfl,rfl,by omega,zb ⟨DW.refl _ _,m.z⟩⟩
 case round =>
  obtain⟨k,n,hk,rfl,rfl,hn,b⟩:=hrel;clear m;by_cases p:k<L
  ·by_cases hn8:n<=8192
   ·obtain⟨s,y⟩:∃s,l[k]?=some s:=⟨l[k]'(by rw[f.z];exact p),AJ _⟩;obtain⟨D,c⟩:=b.z;obtain⟨a',c',q,_,_,F⟩:=HS.z.mod0 D;rw[f.z]at q;cases q;obtain⟨⟨g,o,rfl,hc⟩,-⟩:=F k s y;have c4:wr.cell? ⟨g,o+k*5+4,none⟩=some (.string (zq s.s)):=hc 4 _ rfl;have E:=HB.z s (Ac y);rw[cV y]at c;have r:=zE s.s;obtain⟨sl,d⟩:=nm s.s.length;obtain⟨ss,t⟩:=nm s.s;rw[d]at E c r;rw[t]at c4 r;have u:=zb c;have x:=zb D;have x1:=wi ((n:Int)+(sl:Int)) (by omega);have x2:=wi ((k:Int)+1) (by omega);have d1:decide ((k:Int)<(L:Int))=true:=Aq (by omega);have d2:decide ((n:Int)<=8192)=true:=Aq (by omega);clear b c D F y hc d t;go_wp2_with fail;all_goals first|(exfalso;omega)|skip
    go_roundw
    case rel=>exact⟨k+1,n+sl,p,by congr 1,by congr 1,by omega,zb ⟨x.z,by rw[Nat.add_assoc];exact u.z⟩⟩
    case measure=>simp[intOf];omega
   ·have d1:decide ((k:Int)<(L:Int))=true:=Aq (by omega);have d2:decide ((n:Int)<=8192)=false:=Az (by omega);have u:AA (false=B):=by
     show _=_;rw[<-b.z.2];exact(Az (by omega)).symm
    have x:=zb b.z.1;have c:=u.z;subst c;clear b;go_wp2_with fail;all_goals first|(exfalso;omega)|skip
    go_ret;exact⟨rfl,x.z⟩
  ·have e:k=L:=by omega
   have d1:decide ((k:Int)<(L:Int))=false:=Az (by omega);have u:AA (decide (n<=8192)=B):=by
    show _=_;have a:=b.z.2;rw[e,<-f.z,CJ]at a;exact a
   have x:=zb b.z.1;have c:=u.z;subst c;have q8:decide ((n:Int)<=8192)=decide (n<=8192):=DC.2 (by omega);clear b e;go_wp2_with fail;all_goals first|(exfalso;omega)|skip
   all_goals
    go_ret;exact⟨by first|rfl|(rw[q8]),x.z⟩
def Vf(l:List Dm)(wo:List Int)(B:Nat):Prop :=
 ∀s∈l,wo.contains s.kind=false->∀(w:World) (tag:Nat->Nat×Nat) (nb:Nat) (n:NS) (M:NV) (W:World) (T:Nat),De w tag nb n M W->n.Inv T->T+401<=B->n.Up->Calls prog 21 #[.pointer (some ⟨nb,0,none⟩),.agg s.cells] W (EL w tag nb W (n.step s))
def Sz(w:World)(r:Option NS)(e:Ending)(W':World):Prop :=
 match r with
 | none=>e = .returned (.tuple #[.pointer none,.bool false])/\DW DX w W'
 | some n=>∃nb tag M,e = .returned (.tuple #[.pointer (some ⟨nb,0,none⟩),.bool true])/\De w tag nb n M W'
def cT(a:List Int){l:List Dm}(h:l[k]?=some s)(n:NS):NS.plays a (l.drop k) n=if a.contains s.kind then NS.plays a (l.drop (k+1)) n else if (n.step s).1 then NS.plays a (l.drop (k+1)) (n.step s).2 else none:=by
 rw[LX h,NS.plays]
def iS{a:List Int}{x:Int}(h:a[k]?=some x)(b:Int):(a.take (k+1)).contains b=((a.take k).contains b||b==x):=by
 rw[BD,h];rw[Option.toList_some,List.contains_append];simp only[List.contains_cons,List.contains_nil,Bool.or_false]
def cR(l:List Dm)(v:Value)(e:List Int)(wv:Value)(a b c:Int)(ha : -9223372036854775808<=a/\a<=9223372036854775807)(hb : -9223372036854775808<=b/\b<=9223372036854775807)(hc : -9223372036854775808<=c/\c<=9223372036854775807)(w:World)(E:Dx 1 (λ_=>(0,0)) w)(h:Jf w v l)(hw:NN w wv e)
  (al:e.length<=8) {B:Nat} (hB:B<=Dg) (hT:401*l.length<=B) (KS:Vf l e B) :
  Calls prog 15 #[v,wv,.int .i64 a,.int .i64 b,.int .i64 c] w (Sz w (NS.plays e l (NS.build a b c))):=by
 obtain⟨va,cap,rfl,h1,h2,h3⟩:=id h;obtain⟨wa,ar,rfl,w1,w2,w3⟩:=id hw;unfold maxLen at h2 w2;obtain⟨L,hL⟩:=nm l.length;obtain⟨S,I⟩:=nm e.length;have u:=zb hL;have p:=zb I;rw[hL]at h1 hT ⊢;rw[I]at w1 al ⊢;have HS:=zb h;have HW:=zb hw;have am:=zb KS;have an:401*L<=268435455:=AO hT hB;have hLb:L<=669415:=by omega
 have HT:=zb hT;have kb:=Pv a b c ha hb hc w E;have J:=zb (NS.Inv.build a b c);have K:=zb (NS.Up.build a b c);obtain⟨n0,V⟩:=nm (NS.build a b c);obtain⟨W,y⟩:=nm (NS.plays e l (NS.build a b c));rw[y];rw[V]at kb J K y;have X:=zb y;clear h hw h3 w3 hL I KS V y E hT an;go_enter func15,ntmps15;go_upto_region 2 with(go_at_call 20;refine kb.mono ?_;rintro _ W2 ⟨nb,tag,M,rfl,Y⟩);have Z:=zb Y;clear kb Y;go_wp2_with fail
 go_loopw [13] (λkv wr=>∃(k:Nat) (n:NS),k<=L/\kv = .int .i64 k/\AA ((∃tag M,De w tag nb n M wr)/\n.Inv (401*k)/\n.Up/\NS.plays e (l.drop k) n=W)) (λkv _=>L-(intOf kv).toNat)
 case atStart=>exact⟨0,n0,AL _,rfl,zb ⟨⟨tag,M,Z.z⟩,J.z,K.z,X.z⟩⟩
 case round =>
  obtain⟨k,n,hk,rfl,HK⟩:=hrel;clear J K Z X;have x2:=wi ((k:Int)+1) (by omega);by_cases N:k<L
  ·obtain⟨⟨tag,M,hN⟩,z,A,f⟩:=HK.z;obtain⟨s,hs⟩:∃s,l[k]?=some s:=⟨l[k]'(by rw[u.z];exact N),AJ _⟩;rw[cT e hs]at f;have aa:=Ac hs;have T:=zb hN;have r:=zb z;have C:=zb A;have HR:=zb f;have ao:=zb aa;have ab:=zb hs;obtain⟨kd,ac⟩:=nm s.kind;have D:=zb ac;have d1:decide ((k:Int)<(L:Int))=true:=Aq (by omega);clear hN z A f hs aa HK ac;go_wp2_with fail
   go_loopw [14,15] (λov jv wq=>∃(j:Nat),j<=S/\ov = .bool ((e.take j).contains kd)/\jv = .int .i64 j/\AA (DW DX wr wq)) (λ_ jv _=>S-(intOf jv).toNat)
   case atStart=>exact⟨0,AL _,rfl,rfl,zb (DW.refl _ _)⟩
   case round =>
    obtain⟨j,hj,rfl,rfl,U⟩:=hrel;have x3:=wi ((j:Int)+1) (by omega);by_cases ap:j<S
    ·obtain⟨x,hx⟩:∃x,e[j]?=some x:=⟨e[j]'(by rw[p.z];exact ap),AJ _⟩;obtain⟨a',c',i,_,_,t3⟩:=HS.z.mod0 (T.z.mod.trans U.z);rw[u.z]at i;cases i;obtain⟨⟨g,o,rfl,d⟩,-⟩:=t3 k s ab.z;have c0:wr.cell? ⟨g,o+k*5,none⟩=some (.int .i64 s.kind):=d 0 _ rfl;rw[D.z]at c0;obtain⟨a',c',i,_,_,ad⟩:=HW.z.mod0 (T.z.mod.trans U.z);rw[p.z]at i;cases i;obtain⟨g2,o2,rfl,hc2⟩:=ad j x hx;have ht:=iS hx kd;have d2:decide ((j:Int)<(S:Int))=true:=Aq (by omega);obtain⟨ob,m⟩:=nm ((e.take j).contains kd);rw[m]at ht ⊢;have ae:=zb ht;clear t3 ad d m ht hx;go_wp2_with fail;cases ob
     ·go_quiet (fail);go_wp2_with fail;go_roundw
      case rel=>exact⟨j+1,by omega,by rw[ae.z];rfl,by congr 1,zb (U.z.drewN _)⟩
      case measure=>simp[intOf];omega
     ·go_quiet (fail);go_wp2_with fail;go_roundw
      case rel=>exact⟨j+1,by omega,by rw[ae.z];rfl,by congr 1,zb (U.z.drewN _)⟩
      case measure=>simp[intOf];omega
    ·have ej:j=S:=by omega
     have d2:decide ((j:Int)<(S:Int))=false:=Az (by omega);obtain⟨ob,m⟩:=nm (e.contains kd);have e1:(e.take j).contains kd=ob:=by rw[ej,<-p.z,List.take_length];exact m
     rw[e1];have af:=zb m;have F:=zb (T.z.free U.z (λ_ x=>x.elim));clear e1 m U ej;cases ob
     ·obtain⟨a',c',i,_,_,t3⟩:=HS.z.mod0 F.z.mod;rw[u.z]at i;cases i;obtain⟨⟨g,o,rfl,d⟩,-⟩:=t3 k s ab.z;have c0:wr.cell? ⟨g,o+k*5,none⟩=some (.int .i64 s.kind):=d 0 _ rfl;have c1:wr.cell? ⟨g,o+k*5+1,none⟩=some (.int .i64 s.side):=d 1 _ rfl;have c2:wr.cell? ⟨g,o+k*5+2,none⟩=some (.int .i64 s.a):=d 2 _ rfl;have c3:wr.cell? ⟨g,o+k*5+3,none⟩=some (.int .i64 s.b):=d 3 _ rfl;have c4:wr.cell? ⟨g,o+k*5+4,none⟩=some (.string (zq s.s)):=d 4 _ rfl;have O:e.contains s.kind=false:=by rw[D.z];exact af.z
      have P:=AO (show 401*k+401<=401*L by omega) HT.z;have G:=am.z s ao.z O w tag nb n M wr (401*k) F.z r.z P C.z;have Q:AA ((n.step s).2.Inv (401*(k+1))):=zb ((r.z.step s (AO P hB)).mono (by omega));have H:=zb (λq=>NS.Up.step r.z C.z s (AO P hB) q);have R:=HR.z;rw[O,AH (by simp)]at R;obtain⟨R1,ah⟩:=nm (n.step s);rw[ah]at G Q H R;obtain⟨ok,n1⟩:=R1;simp only at Q H R;have t:=zb R;unfold Dm.cells at G;clear t3 d R ah HR F r C T D;obtain⟨ki,e0⟩:=nm s.kind;obtain⟨si,e1⟩:=nm s.side;obtain⟨ai,e2⟩:=nm s.a;obtain⟨bi,e3⟩:=nm s.b;obtain⟨ssi,e4⟩:=nm s.s;rw[e0]at c0 G;rw[e1]at c1 G;rw[e2]at c2 G;rw[e3]at c3 G;rw[e4]at c4 G;clear e0 e1 e2 e3 e4 O;go_upto_region 14 with(go_at_call 21;refine G.mono ?_;rintro _ W3 ⟨rfl,aj,M3,h3,-,-⟩);have H3:=zb h3;clear G h3;cases ok
      ·have R:none=W:=t.z;subst R;go_wp2_with fail;go_ret2;exact⟨rfl,H3.z.mod⟩
      ·have ak:AA (NS.plays e (l.drop (k+1)) n1=W):=t.z;have aq:AA n1.Up:=H.z rfl;clear t H;go_wp2_with fail;go_roundw
       case rel=>exact⟨k+1,n1,N,by congr 1,zb ⟨⟨aj,M3,H3.z⟩,Q.z,aq.z,ak.z⟩⟩
       case measure=>simp[intOf];omega
     ·have t:AA (NS.plays e (l.drop (k+1)) n=W):=by
       have a:=HR.z;rw[D.z,af.z,AN rfl]at a;exact a
      go_wp2_with fail;go_roundw
      case rel=>exact⟨k+1,n,N,by congr 1,zb ⟨⟨tag,M,F.z⟩,r.z.mono (by omega),C.z,t.z⟩⟩
      case measure=>simp[intOf];omega
  ·have ek:k=L:=by omega
   obtain⟨⟨tag,M,hN⟩,z,A,f⟩:=HK.z;rw[ek,<-u.z,CJ]at f;have f:some n=W:=f;subst f;have T:=zb hN;have d1:decide ((k:Int)<(L:Int))=false:=Az (by omega);clear hN z A HK ek;go_wp2_with fail;go_ret2;exact⟨nb,tag,M,rfl,T.z⟩
def gX(d:List Int)(l:List Dm)(a b c:Int)(hl:l.length<=8192)(HS:Sv d l):∃n',NS.plays d l (NS.build a b c)=some n'/\n'.Safe/\n'.Inv 3284992:=by
 have h1:=zQ a 337 (by omega);exact NS.Safe.plays d l (T:=0) HS (NS.Safe.new ⟨by omega,by omega⟩) (NS.Inv.build a b c) (by omega) (by decide)
end
end Go.Proofs.YtddfdpbaiedcjaaGreatDoor
