/- A part of Urgent's proof. Conditions: none. Part 29 of 32. -/
import Derived.Test.YtddfdpbaiedcjaaGreatDoorUrg28
set_option maxRecDepth 100000
set_option maxHeartbeats 16000000
set_option linter.all false
namespace Go.Proofs.YtddfdpbaiedcjaaGreatDoor
open Go.RowKit
theorem Net.turn{w:World}{tag tag':Nat→Nat×Nat}{nb:Nat}{n:NS}{M:NV}{W W':World}(h:Net w tag nb n M W){i:Nat}(hi:i<2){c':CS}{f:CV}(a:zg tag' (i+1) (M.b i) c' f W')(e:Ext (i+1) tag tag' W W')(m:Mod (fun g=>(tag g).1=i+1) W W')(d:zia (i+1) tag') :
  Net w tag' nb (n.setC i c') { M with V:=upd M.V i f } W':=by
 have old:∀g,tag g≠(0,0)→tag' g=tag g:=fun g hg=>by
  by_cases q:g<W.heap.size
  ·exact e.old g q
  ·exact absurd (h.env.ok g (by omega)) hg
 refine⟨(h.o.mod m (fun g hg x=>by omega) old).same (zjc.setC n i c') _,fun j k=>?_,?_,fun j k=>?_,h.mod.then m (fun g hg=>?_),fun g hg=>?_⟩
 ·by_cases q:j=i
  ·subst q;show zg tag' (j+1) (M.b j) (upd n.c j c' j) (upd M.V j f j) W';rw[zf,zf];exact a
  ·show zg tag' (j+1) (M.b j) (upd n.c i c' j) (upd M.V i f j) W';rw[ze _ _ q,ze _ _ q];exact(h.cn j k).mod m (fun g hg x=>by omega) (fun g hg=>old g (fun x=>by rw[x]at hg;simp at hg))
 ·exact((h.env.to (j:=i+1) (by omega)).left e m).to (by omega)
 ·by_cases q:j=i
  ·subst q;exact d
  ·exact(h.nd j k).other e (by omega) (by omega)
 ·refine .inr (h.t1 g (fun x=>?_));rw[x]at hg;simp at hg
 ·by_cases q:g<W.heap.size
  ·exact h.t1 g (by rw[←e.old g q];exact hg)
  ·have:=h.mod.size;omega
theorem zkW{i:Nat}{l:List (List UInt8)}{k:Nat}{b:List UInt8}(hb:l[k]?=some b)(n:NS) :
  NS.flushL i (l.drop k) n=match dec b with
  | .ok num fs =>
   if n.mtu<b.length∨num≠n.count i∨fs=[]then(false,n)
   else if fs.any (zca n.now)then(false,{ n with count:=upd n.count i (n.count i+1) })
   else NS.flushL i (l.drop (k+1)) { n with count:=upd n.count i (n.count i+1),bag:=n.bag++[(1-i,b)] }
  | _=>(false,n):=by
 rw[zb2 hb,NS.flushL];cases dec b<;>rfl
theorem znb(i:Nat)(l:List (List UInt8))(n:NS):NS.flushL i (l.drop l.length) n=(true,n):=by rw[List.drop_length];rfl
theorem zbU.ctAt{tag:Nat→Nat×Nat}{W:World}{nb:Nat}{n:NS}{M:NV}(h:zbU tag nb n M W){i:Nat}(hi:i<2):∃g cap,M.ct = .slice (some ⟨g,0,none⟩) 2 cap∧W.cell? ⟨nb,9,none⟩=some (.slice (some ⟨g,0,none⟩) 2 cap)∧(2≤cap∧cap≤9223372036854775807)∧W.cell? ⟨g,i,none⟩=some (.int .u64 (n.count i:Int))∧W.frozen? ⟨g,i,none⟩=false∧tag g=(3,5):=by
 obtain⟨g,cap,a,e2,e3,e4⟩:=h.ct.form (by omega);have c0:W.cell? ⟨nb,9,none⟩=some M.ct:=h.obj.cell (j:=9) rfl;have x:=h.ct.own;rw[a]at c0 x;have y:=zbu x (i:=i) (v:=.int .u64 (n.count i:Int)) (by
  rcases(show i=0∨i=1 by omega)with rfl|rfl<;>rfl)
 unfold maxLen at e3;exact⟨g,cap,a,c0,⟨e2,by omega⟩,y.1,y.2,e4⟩
theorem Net.ctS{w:World}{tag:Nat→Nat×Nat}{nb:Nat}{n:NS}{M:NV}{W:World}(h:Net w tag nb n M W){i:Nat}(hi:i<2)(x:Nat){g cap:Nat}(hg:M.ct = .slice (some ⟨g,0,none⟩) 2 cap):Net w tag nb { n with count:=upd n.count i x } M (W.setCell ⟨g,i,none⟩ (.int .u64 (x:Int))):=by
 have ht:tag g=(3,5):=h.o.ct.tag g (by rw[hg];rfl);have m:Mod (fun q=>q=g) W (W.setCell ⟨g,i,none⟩ (.int .u64 (x:Int))):=(Mod.refl (fun q=>q=g) W).setCell (p:=⟨g,i,none⟩) (.inl rfl) _;exact h.own (h.o.ctS hi x hg) rfl rfl rfl m (fun q hq=>.inl (by rw[show q=g from hq,ht])) (Ext.same h.env.ok m)
theorem zqA{w:World}{g N cap:Nat}{l:List (List UInt8)}(h:w.ownsRow 0 9 1 (.slice (some ⟨g,0,none⟩) N cap) N (zhJ l)){k:Nat}{s:List UInt8}(hs:l[k]?=some s):w.cell? ⟨g,k,none⟩=some (.string (zq s)) :=
 (zbu h (i:=k) (by unfold zhJ;rw[List.getElem?_map,hs];rfl)).1
theorem zkX{fs:List Frm}{now j:Nat}{f:Frm}(hf:fs[j]?=some f)(h:(fs.take j).any (zca now)=false):(fs.take (j+1)).any (zca now)=zca now f:=by
 rw[List.take_add_one,hf,List.any_append,h];simp
theorem znc{fs:List Frm}{now j:Nat}{f:Frm}(hf:fs[j]?=some f)(h:zca now f=true):fs.any (zca now)=true :=
 List.any_eq_true.2 ⟨f,List.mem_of_getElem? hf,h⟩
theorem Net.bagPush{w:World}{tag:Nat→Nat×Nat}{nb:Nat}{n:NS}{M:NV}{W:World}(h:Net w tag nb n M W)(tt:Nat)(b:List UInt8)(hl:n.bag.length≤1000000000000) :
  ∃a cap W2,(∀ty,(Builtin.append_ #[46,46] ty #[M.bg,.slice (some ⟨W.heap.size,0,none⟩) 1 1]).run Tryz.prog (W.alloc (.cells #[.int .i64 (tt:Int),.string (zq b)] 62)) = .ok (.slice a (n.bag.length+1) cap) W2)∧W2.frozen? ⟨nb,8,none⟩=false∧W2.cell? ⟨nb,8,none⟩=some M.bg∧Mod (fun q=>M.bg.ownBlock=some q) W W2 ∧
   ∀W',Mod NoB (W2.setCell ⟨nb,8,none⟩ (.slice a (n.bag.length+1) cap)) W'→zy w tag nb W { n with bag:=n.bag++[(tt,b)] } W':=by
 obtain⟨o,p⟩:=nm ((Obj.cells #[.int .i64 (tt:Int),.string (zq b)] 62 (0,0)));have r:Mod NoB W (W.alloc o):=(Mod.refl _ W).alloc o;have hc:∀(j:Nat) u,(zS [(tt,b)])[j]?=some u→(W.alloc o).cell? ((⟨W.heap.size,0,none⟩:Addr).add j)=some u:=fun j u hj=>by
  rw[addr_add,←p];refine za (heap_alloc_new W _) ?_;rw[Nat.zero_add,←Array.getElem?_toList];exact hj
 obtain⟨v2,W2,r2,i,g2,n2⟩:=zqv (W.alloc o) M.bg n.bag [(tt,b)] ⟨W.heap.size,0,none⟩ 1 (r.owns h.o.bg.own (fun _ _ x=>x)) hc (by simp;omega);have k:Mod (fun q=>M.bg.ownBlock=some q) W W2:=(r.mono (fun _ x=>x.elim)).grown g2 (fun q c=>.inl c);have l:∀q,v2.ownBlock=some q→q<W2.heap.size:=fun q c=>by
  rcases i.2 with⟨e,_⟩|⟨q',c',cur,e,_,x,_⟩
  ·rw[e]at c;cases c
  ·rw[e]at c;cases c;exact(Array.getElem?_eq_some_iff.1 x).1
 have F:=h.bagS k (fun q x=>.inl (h.o.bg.tag q x)) i (fun q c=>by
  rcases n2 q c with x|x
  ·exact .inl (h.o.bg.tag q x)
  ·refine .inr ⟨?_,l q c⟩;simp at x;omega)
 have m:¬M.bg.ownBlock=some nb:=fun x=>by
  have a:=h.o.bg.tag nb x;rw[h.o.obj.tag]at a;simp at a
 have d:=k.obj m h.o.obj.obj;obtain⟨a2,c2,f,-⟩:=zj i;have g:(n.bag++[(tt,b)]).length=n.bag.length+1:=by simp
 rw[g]at f;subst f;rw[p];exact⟨a2,c2,W2,r2,zd d,za d rfl,k,fun W' m'=>F.then0 m'⟩
theorem zfT{w:World}{tag:Nat→Nat×Nat}{nb:Nat}{n:NS}{M:NV}{W:World}(h:Net w tag nb n M W){T:Nat}(hI:n.Inv T)(hT:T≤zbm)(hU:n.Up){i:Nat}(hi:i<2) :
  Calls Tryz.prog 22 #[.pointer (some ⟨nb,0,none⟩),.int .i64 (i:Int)] W (zct w tag nb W (n.flush i)):=by
 have x1:IntKind.i64.wrap (1-(i:Int))=((1-i:Nat):Int):=by rw[IntKind.wrap_i64];omega
 have x2:(1:Int)-(i:Int)=((1-i:Nat):Int):=by omega
 obtain⟨J,hJ⟩:=nm (1-i);rw[hJ]at x1 x2;have x3:IntKind.i64.wrap (J:Int)=(J:Int):=by rw[IntKind.wrap_i64];omega
 obtain⟨gx,cx,b1,⟨b2,b3⟩,b4⟩:=h.o.connIs (i:=i) hi;have U:=hI.c i hi;have u:=(U.pkPost hT).out;have aP:(n.c i).packets.1.length≤21:=by have:=u.1;have:=U.acks.2.2;omega
 have aa:=U.mtu;have kc:=zhK (h.cn i hi) (h.env.to (j:=i+1) (by omega)) (h.nd i hi) (hU i hi) (U.pkOk hT) U.got.1 (by omega) (fun l hl=>by
  have:=u.2 l hl;have e:(n.c i).acks.2.mtu=(n.c i).mtu:=by
   unfold CS.acks;split<;>rfl
  omega)
 have aF:∀l∈(n.c i).packets.1,l.length≤65536:=fun l hl=>by
  have:=u.2 l hl;have e:(n.c i).acks.2.mtu=(n.c i).mtu:=by
   unfold CS.acks;split<;>rfl
  omega
 have aQ:=hI.mtu;have aR:=hI.bl;have ao:=hI.count i hi;unfold zbm at hT;unfold NS.flush;obtain⟨b,A⟩:=nm ((n.c i).packets.1);obtain⟨c',aS⟩:=nm ((n.c i).packets.2);obtain⟨mt,ab⟩:=nm n.mtu;obtain⟨nw,B⟩:=nm n.now;rw[A]at aP aF;rw[A,aS]at kc ⊢;obtain⟨L,hL⟩:=nm b.length;rw[hL]at aP;obtain⟨S,hS⟩:=nm (n.setC i c');rw[hS];have aT:S.mtu=mt:=by rw[←hS];exact ab
 have aU:S.now=nw:=by rw[←hS];exact B
 have aV:S.bag.length≤32*T:=by rw[←hS];exact aR
 have aW:S.count i≤32*T:=by rw[←hS];exact ao
 obtain⟨R,hR⟩:=nm (NS.flushL i b S);rw[hR];rw[ab]at aQ;have HN:=zb h;have bJ:=zb aF;have HR:=zb hR;have HS:=zb hS;clear h hI U u aa aF hU aQ aR ao A aS hR hS ab B;go_enter Tryz.func22,Tryz.ntmps22;go_upto_region 2 with(go_at_call 27;refine kc.mono ?_;rintro _ W1 ⟨v,tag',V',rfl,a1,a2,a3,a4,G,aG⟩);have m1:Mod (fun g=>(tag g).1=i+1) W W1:=a3.mono (fun g hg=>.inl hg.1);have h1:=HN.out.turn hi a1 a2 m1 a4;rw[HS.out]at h1;have ac:Hid (∀n' wr W',zy w tag' nb W1 n' wr→Mod NoB wr W'→zy w tag nb W n' W'):=by
  refine zb fun n' wr W' hN m'=>?_
  exact zy.trans a2.old (m1.mono (fun g hg=>.inl (fun x=>by rw[x]at hg;simp at hg))) (hN.then0 m')
 have av:Hid (∀wr,Mod (fun g=>tag' g≠(0,0)) W1 wr→wr.ownsRow 0 9 1 v b.length (zhJ b)):=zb fun wr m=>m.owns G (fun g hg x=>x (aG g hg).2)
 have aw:∀g,(v.ownBlock=some g→tag' g=(0,0)∧g<W1.heap.size):=fun g hg=>by
  refine⟨(aG g hg).2,?_⟩;rcases G.2 with⟨e,_⟩|⟨q',c',bK,e,_,x,_⟩
  ·rw[e]at hg;cases hg
  ·rw[e]at hg;cases hg;exact(Array.getElem?_eq_some_iff.1 x).1
 have aX:=zb aw;clear aw;obtain⟨va,vc,rfl,bL,bM,aY⟩:=zj G;rw[hL]at bL aY av;unfold maxLen at bM;have ST:Hid (zy w tag' nb W1 S W1):=zb h1.left;have aZ:=zb hL;rw[hL];clear a1 a2 a3 a4 aG G m1 h1 b1 b2 b3 b4 kc HN hL HS;go_wp2_with fail
 go_loopw [6] (fun kv wr=>∃(k:Nat) (N:NS),k≤L∧kv = .int .i64 (k:Int)∧Hid (zy w tag' nb W1 N wr∧NS.flushL i (b.drop k) N=R∧N.mtu=mt∧N.now=nw∧N.count i≤32*T+k∧N.bag.length≤32*T+k)) (fun kv _=>L-(intOf kv).toNat)
 case atStart=>exact⟨0,S,Nat.zero_le _,rfl,zb ⟨ST.out,HR.out,aT,aU,aW,aV⟩⟩
 case round =>
  obtain⟨k,N,hk,rfl,HK⟩:=hrel;clear aT aU aW aV ST HR;by_cases a0:k<L;rotate_left
  ·have bN:k=L:=by omega
   subst bN;have bO:Hid (R=(true,N)):=by
    show _=_;have a:=HK.out.2.1;rw[←aZ.out,znb]at a;exact a.symm
   have t:=bO.out;subst t;clear a0;go_wp2_with fail;go_ret;exact⟨rfl,ac.out _ wr _ HK.out.1 (Mod.refl _ _)⟩
  obtain⟨ad,d,aa,B,bP,bQ⟩:=HK.out;obtain⟨tg,Mk,hN,old,mk⟩:=id ad;obtain⟨bs,C⟩:∃bs,b[k]?=some bs:=⟨b[k]'(by rw[aZ.out];exact a0),List.getElem?_eq_getElem _⟩;have ae:=bJ.out bs (List.mem_of_getElem? C);obtain⟨gv,rfl⟩:=aY (by omega);have a5:Hid (tag' gv=(0,0)):=(aX.out gv rfl).1;have ax:Hid (gv<W1.heap.size):=(aX.out gv rfl).2;have rS:=zqA (av.out wr mk) C;rw[zkW C]at d;obtain⟨cb,W2,bR,af,m2,_⟩:=zg3 wr bs (by omega);have ah:=hN.env.mod0 m2;have kd:=zfa _ bs W2 af ah.tab ah.err (by omega);have a6:bs.length≤cb∧cb≤9223372036854775807:=by
   obtain⟨_,_,e,q1,q2,_⟩:=af;cases e;unfold maxLen at q2;exact⟨q1,by omega⟩
  obtain⟨cd,ce⟩:=a6;have y:=zb hN;have V:=zb ad;have H:=zb old;have a7:=zb mk;have HBS:=zb C;have X:=zb m2;have a8:=zb ae;cases hd:dec bs with
  | sum =>
   rw[hd]at kd d;simp only at d;subst d;have F:Hid (∀W',Mod NoB wr W'→zy w tag nb W N W'):=zb fun W' m=>ac.out _ wr _ V.out m
   clear ad hN old mk C af ah ae y V HK;go_upto_region 6 with(go_at_call 23;refine kd.mono ?_;rintro _ W3 ⟨m3,rfl⟩);go_quiet (fail);go_wp2_with fail;go_ret;exact⟨rfl,F.out _ (((X.out.trans m3).alloc _).drewN _)⟩
  | bad p =>
   rw[hd]at kd d;simp only at d;subst d;have F:Hid (∀W',Mod NoB wr W'→zy w tag nb W N W'):=zb fun W' m=>ac.out _ wr _ V.out m
   clear ad hN old mk C af ah ae y V HK;go_upto_region 6 with(go_at_call 23;refine kd.mono ?_;rintro _ W3 ⟨m3,rfl⟩);go_quiet (fail);go_wp2_with fail;go_ret;exact⟨rfl,F.out _ (((X.out.trans m3).alloc _).drewN _)⟩
  | ok num fs =>
   rw[hd]at kd d;simp only at d;have a9:wr.cell? ⟨nb,5,none⟩=some (.int .i64 (mt:Int)):=by
    have:=hN.o.obj.cell (j:=5) (v:=.int .i64 (N.mtu:Int)) rfl;rw[aa]at this;exact this
   have bS:wr.cell? ⟨nb,4,none⟩=some (.int .u64 (nw:Int)):=by
    have:=hN.o.obj.cell (j:=4) (v:=.int .u64 (N.now:Int)) rfl;rw[B]at this;exact this
   obtain⟨I,cc,aH,bb,⟨cc1,cc2⟩,aI,bT,_⟩:=hN.o.ctAt hi;obtain⟨ct,O⟩:=nm (N.count i);have ai:Hid ((if mt<bs.length∨num≠ct∨fs=[]then(false,N)else if fs.any (zca nw)=true then(false,{ N with count:=upd N.count i (ct+1) })else NS.flushL i (b.drop (k+1)) { N with count:=upd N.count i (ct+1),bag:=N.bag++[(1-i,bs)] })=R):=by
    show _=_;rw[←d,aa,B,O]
   rw[O]at aI bP;have cg:(zq bs).size=bs.length:=zJ bs;clear ad hN old mk C af ah d;go_upto_region 6 with(go_at_call 23;refine kd.mono ?_;rintro _ W3 ⟨m3,fv,Y,rfl,aJ,aK,bd,be⟩;obtain⟨fa,fc,rfl,bU,bV,bW⟩:=zj aJ.1);obtain⟨D,aj⟩:=nm Y.length;rw[aj]at bU bW ⊢;unfold maxLen at bV;have ay:fs.length=D:=by rw[←aK,List.length_map,aj]
   have ci:D≤65536:=by
    have:=(zhH (by have:=a8.out;omega) hd).2.1;have:=a8.out;omega
   obtain⟨pb,aL⟩:=nm W3.heap.size;obtain⟨P,ap⟩:=nm (W3.alloc (.cells #[.int .u64 (num:Int),.slice fa D fc] 56));have m4:Mod NoB W3 P:=by rw[←ap];exact(Mod.refl _ _).alloc _
   have u:P.heap[pb]?=some (.cells #[.int .u64 (num:Int),.slice fa D fc] 56 (0,0)):=by rw[←ap,←aL];exact heap_alloc_new W3 _
   have k0:P.cell? ⟨pb,0,none⟩=some (.int .u64 (num:Int)):=za u rfl;have k1:P.cell? ⟨pb,1,none⟩=some (.slice fa D fc):=za u rfl;have mm:Mod NoB wr P:=(X.out.trans m3).trans m4;have bf:=mm.cell (a:=⟨gv,k,none⟩) (fun x=>x) rS;have bh:=mm.cell (a:=⟨nb,5,none⟩) (fun x=>x) a9;have bi:=mm.cell (a:=⟨nb,9,none⟩) (fun x=>x) bb;have bj:=mm.cell (a:=⟨I,i,none⟩) (fun x=>x) aI;have bk:P.frozen? ⟨I,i,none⟩=false:=by
    have o:=y.out.o.ct.own;rw[aH]at o;rcases o.2 with⟨e,_⟩|⟨g',bm,bK,e,_,h1,_⟩
    ·cases e
    ·cases e;exact zd (mm.obj (fun x=>x) h1)
   have aq:=zb mm;have bn:Hid (∀wx,Mod NoB P wx→zc5 wx (.slice fa D fc) Y):=zb fun wx m=>by
    have:=aJ.frs.mod0 (m4.trans m);rw[aj]at this;exact this
   have bo:=zb aK;have bX:=m3.size;have bY:Hid (∀g,(Value.slice fa D fc).ownBlock=some g→wr.heap.size≤g):=zb fun g hg=>Nat.le_trans X.out.size (bd g (by rw[aj];exact hg))
   have bp:Hid (∀x∈Y,∀g,x.2.ownBlock=some g→wr.heap.size≤g):=zb fun x hx g hg=>Nat.le_trans X.out.size (be x hx g hg)
   have Q:=zb ay;have HCT:=zb O;have bq:=zb aH;have FF:Hid (∀W',Mod NoB P W'→zy w tag nb W N W'):=zb fun W' m=>ac.out _ wr _ V.out (aq.out.trans m)
   clear aJ u mm m3 m4 rS a9 bb aI bT aK ay O aH aj kd bR m2;rw[aL,ap];clear ap;refine wp_region_quiet_lit (by kernel_rfl) (by kernel_rfl) ?_;repeat (go_big_quiet_step (fail))
   by_cases p1:mt<bs.length
   ·have d1:decide (mt<bs.length)=true:=decide_eq_true p1;have t:=ai.out;rw[if_pos (.inl p1)]at t;subst t;simp only[d1];repeat (go_big_quiet_step (fail))
    refine wpQuiet_nil ?_;intro _ E;obtain⟨nq,f⟩:=E;subst f;go_wp2_with fail;go_ret;exact⟨rfl,FF.out _ ((Mod.refl _ _).drewN _)⟩
   have d1:decide (mt<bs.length)=false:=decide_eq_false p1;simp only[d1];repeat (go_big_quiet_step (fail))
   by_cases p2:num=ct;rotate_left
   ·have d2:((num:Int) != (ct:Int))=true:=by rw[zjg];exact bne_iff_ne.2 p2
    have t:=ai.out;rw[if_pos (.inr (.inl p2))]at t;subst t;simp only[d2];repeat (go_big_quiet_step (fail))
    refine wpQuiet_nil ?_;intro _ E;obtain⟨nq,f⟩:=E;subst f;go_wp2_with fail;go_ret;exact⟨rfl,FF.out _ ((Mod.refl _ _).drewN _)⟩
   have d2:((num:Int) != (ct:Int))=false:=by rw[zjg];simp[p2]
   simp only[d2];repeat (go_big_quiet_step (fail))
   by_cases p3:D=0
   ·have d3:((D:Int)==0)=true:=by simp[p3]
    have t:=ai.out;have z:fs=[]:=List.eq_nil_of_length_eq_zero (by rw[Q.out];exact p3);rw[if_pos (.inr (.inr z))]at t;subst t;simp only[d3];repeat (go_big_quiet_step (fail))
    refine wpQuiet_nil ?_;intro _ E;obtain⟨nq,f⟩:=E;subst f;go_wp2_with fail;go_ret;exact⟨rfl,FF.out _ ((Mod.refl _ _).drewN _)⟩
   have d3:((D:Int)==0)=false:=by simp[p3]
   have z:fs≠[]:=fun x=>p3 (by rw[←Q.out,x];rfl)
   have az:Hid ((if fs.any (zca nw)=true then(false,{ N with count:=upd N.count i (ct+1) })else NS.flushL i (b.drop (k+1)) { N with count:=upd N.count i (ct+1),bag:=N.bag++[(1-i,bs)] })=R):=by
    have t:=ai.out;rw[if_neg (by simp only[not_or,Decidable.not_not];exact⟨p1,p2,z⟩)]at t;exact t
   simp only[d3];repeat (go_big_quiet_step (fail))
   refine wpQuiet_nil ?_;intro _ E;obtain⟨nq,f⟩:=E;subst f;clear d1 d2 d3 p1 z ai FF;go_upto_region 8 with fail;obtain⟨W5,ar⟩:=nm ((P.drewN nq).setCell ⟨I,i,none⟩ (.int .u64 ((ct:Int)+1)));have N4:Net w tg nb N Mk (P.drewN nq):=y.out.free (aq.out.drewN nq) (fun _ x=>x.elim);have N5:Net w tg nb { N with count:=upd N.count i (ct+1) } Mk W5:=by
    have:=N4.ctS hi (ct+1) bq.out;rw[←ar];exact this
   have m5:Mod (fun q=>q=I) P W5:=by
    rw[←ar];exact((Mod.refl (fun q=>q=I) P).drewN nq).setCell (p:=⟨I,i,none⟩) (.inl rfl) _
   have r:tg I=(3,5):=y.out.o.ct.tag I (by rw[bq.out];rfl);have bZ:Hid (zy w tag' nb W1 { N with count:=upd N.count i (ct+1) } W5):=by
    refine zb (zy.trans H.out a7.out (zy.from0 (aq.out) ⟨tg,Mk,N5,fun _ _=>rfl,m5.mono (fun g hg=>.inl (by rw[show g=I from hg,r];simp))⟩))
   have bt:Hid (∀n' W',zy w tg nb W5 n' W'→zy w tg nb P n' W'):=zb fun n' W' hh=>zy.trans (fun _ _=>rfl) (m5.mono (fun g hg=>.inl (by rw[show g=I from hg,r];simp))) hh
   have aA:pb≠I:=fun e=>by
    have h2:wr.heap.size≤pb:=by
     rw[←aL];exact Nat.le_trans X.out.size bX
    have h3:=y.out.env.ok pb h2;rw[e,r]at h3;simp at h3
   have z1:=m5.cell (a:=⟨pb,1,none⟩) aA k1;have z4:W5.cell? ⟨nb,4,none⟩=some (.int .u64 (nw:Int)):=by
    have:=N5.o.obj.cell (j:=4) (v:=.int .u64 (N.now:Int)) rfl;rw[B]at this;exact this
   have bu:Hid (∀wx,Mod NoB W5 wx→zc5 wx (.slice fa D fc) Y):=zb fun wx m=>by
    have a:=bn.out P (Mod.refl _ _);refine(a.mod m5 ?_ ?_).mod0 m
    ·intro g o n' c' e x;have hg:tg g=(0,0):=y.out.env.ok g (bY.out g (by cases e;rfl));rw[show g=I from x,r]at hg;simp at hg
    ·intro fr ak g o n' c' e x;have hg:tg g=(0,0):=y.out.env.ok g (bp.out fr ak g (by rw[e];rfl));rw[show g=I from x,r]at hg;simp at hg
   have b0:=m5.cell (a:=⟨gv,k,none⟩) (fun x=>by
    have h3:=a5.out;rw[←H.out _ (ax.out)]at h3;have x:gv=I:=x;rw[x,r]at h3;simp at h3) bf
   have au:=zb N5;have bv:=zb ar;clear N4 N5 m5 r aA k0 k1 bf bh bn V HK bS;go_upto_region 9 with fail;try rw[bv.out]
   clear bv bi bj bk ar;go_wp2_with fail
   go_loopw [10] (fun jv wr=>∃j:Nat,j≤D∧jv = .int .i64 (j:Int)∧Hid (Mod NoB W5 wr)∧Hid ((fs.take j).any (zca nw)=false)) (fun jv _=>D-(intOf jv).toNat)
   case atStart=>exact⟨0,Nat.zero_le _,rfl,zb (Mod.refl _ _),zb (by rw[List.take_zero];rfl)⟩
   case round =>
    obtain⟨j,hj,rfl,s,HL⟩:=hrel;have y1:=s.out.cell (a:=⟨pb,1,none⟩) (fun x=>x) z1;have y4:=s.out.cell (a:=⟨nb,4,none⟩) (fun x=>x) z4;by_cases b5:j<D
    ·obtain⟨fr,ak⟩:∃fr,Y[j]?=some fr:=⟨Y[j]'(by have:=Q.out;rw[←bo.out,List.length_map]at this;omega),List.getElem?_eq_getElem _⟩;obtain⟨a',bm,b6,_,_,h3⟩:=bu.out wr s.out;cases b6;obtain⟨⟨g,o,rfl,hc⟩,_⟩:=h3 j fr ak;obtain⟨ao,_,_,_,_,_,_,b7,_⟩:=zbG hc;have z:fs[j]?=some fr.1:=by rw[←bo.out,List.getElem?_map,ak];rfl
     have HT:=zb (zkX z HL.out);have HA:Hid (zca nw fr.1=true→fs.any (zca nw)=true):=zb (znc z);obtain⟨kd,aM⟩:=nm fr.1.kind;obtain⟨dl,aN⟩:=nm fr.1.dl;have aO:Hid (zca nw fr.1=(kd==7&&decide (dl<nw))):=by
      show _=_;unfold zca;rw[aM,aN]
     rw[aM]at ao;rw[aN]at b7;clear hc h3 ak aM aN z;by_cases bw:kd=7
     ·subst bw;by_cases aB:dl<nw
      ·have d1:decide (dl<nw)=true:=decide_eq_true aB;have t:=az.out;have Z:zca nw fr.1=true:=by rw[aO.out,d1];rfl
       rw[if_pos (HA.out Z)]at t;subst t;clear Z;go_wp2_with fail;go_quiet (fail);go_wp2_with fail;go_ret;exact⟨rfl,ac.out _ _ _ bZ.out (s.out.drewN _)⟩
      ·have d1:decide (dl<nw)=false:=decide_eq_false aB;have Z:Hid (zca nw fr.1=false):=by show _=_;rw[aO.out,d1];rfl
       go_wp2_with fail;go_quiet (fail);go_wp2_with fail;go_roundw
       case rel=>exact⟨j+1,by omega,by go_num,zb (s.out.drewN _),zb (by rw[HT.out,Z.out])⟩
       case measure=>simp[intOf];omega
     ·have d0:(kd==7)=false:=beq_eq_false_iff_ne.2 bw;have Z:Hid (zca nw fr.1=false):=by show _=_;rw[aO.out,d0];rfl
      go_wp2_with fail;go_quiet (fail);go_wp2_with fail;go_roundw
      case rel=>exact⟨j+1,by omega,by go_num,zb (s.out.drewN _),zb (by rw[HT.out,Z.out])⟩
      case measure=>simp[intOf];omega
    ·have b8:j=D:=by omega
     have t:=az.out;have bz:fs.any (zca nw)=false:=by
      have a:=HL.out;rw[b8,←Q.out,List.take_length]at a;exact a
     rw[bz,if_neg (by simp)]at t;have bA:=zb t;obtain⟨ba,bc,bB,bC,bD,_⟩:=zj (au.out.o.bg.own);have p8:W5.cell? ⟨nb,8,none⟩=some Mk.bg:=au.out.o.obj.cell (j:=8) rfl;have bE:=s.out.cell (a:=⟨nb,8,none⟩) (fun x=>x) p8;have bF:=s.out.cell (a:=⟨gv,k,none⟩) (fun x=>x) b0;have N6:Net w tg nb { N with count:=upd N.count i (ct+1) } Mk wr.drew:=au.out.free (s.out.drew) (fun _ x=>x.elim);obtain⟨a2,c2,W7,r7,f7,g7,m7,H7⟩:=N6.bagPush J bs (by show N.bag.length≤_;omega);have b9:Hid (W7.cell? ⟨gv,k,none⟩=some (.string (zq bs))):=zb ((m7.cell (a:=⟨gv,k,none⟩) (fun x=>by
      have h3:=a5.out;rw[←H.out _ (ax.out),au.out.o.bg.tag gv x]at h3;simp at h3) bF))
     have aC:Hid (∀W',Mod NoB (W7.setCell ⟨nb,8,none⟩ (.slice a2 (N.bag.length+1) c2)) W'→zy w tag' nb W1 { N with count:=upd N.count i (ct+1),bag:=N.bag++[(J,bs)] } W'):=zb fun W' m'=>zy.trans H.out a7.out (zy.from0 aq.out (bt.out _ _ (zy.from0 ((s.out).drew) (H7 W' m'))))
     obtain⟨BL,al⟩:=nm N.bag.length;have aD:Mk.bg = .slice ba BL bc:=by rw[bB];show Value.slice ba N.bag.length bc=_;rw[al]
     have aE:({ N with count:=upd N.count i (ct+1) }:NS).bag.length=BL:=al;rw[aD]at bE g7 r7;rw[aE]at r7;rw[al]at aC bQ;have bG:=zb al;have F7:=zb f7;have G7:=zb g7;have bH:=zb bE;have bI:=zb bF;have R7:=zb r7;clear t bz bB bC bD p8 N6 m7 H7 f7 g7 r7 al aE aD b5;go_upto_region 14 with fail;refine zl 16 (fun w'=>w'.cell? ⟨nb,8,none⟩=some (.slice ba BL bc)∧w'.cell? ⟨gv,k,none⟩=some (.string (zq bs))) (⟨bH.out,bI.out⟩) ?_;refine GI 0 ?_;iterate 12
      refine GS rfl ?_ ?_ ?_;rotate_left
      ·(intro wx am;(try dsimp only at am);obtain⟨f8,ca⟩:=am;go_simp)<;>(try with_reducible rfl)
      try simp only[PS]
     refine zx 12 rfl (fun K hK=>?_);go_simp;refine hK.out _ _ ⟨((Mod.refl NoB wr.drew).alloc _).cell (a:=⟨nb,8,none⟩) (fun x=>x) bH.out,((Mod.refl NoB wr.drew).alloc _).cell (a:=⟨gv,k,none⟩) (fun x=>x) bI.out⟩ ?_;clear hK K;try simp only[PS]
     refine zx 13 rfl (fun K hK=>?_);refine zF rfl _ _ _ _ rfl _ _ _ rfl rfl R7.out ?_;refine hK.out _ _ ⟨G7.out,b9.out⟩ ?_;clear hK K;try simp only[PS]
     refine GI 14 ?_;iterate 2
      refine GS rfl ?_ ?_ ?_;rotate_left
      ·(intro wx am;(try dsimp only at am);obtain⟨f8,ca⟩:=am;go_simp)<;>(try with_reducible rfl)
      try simp only[PS]
     refine zQ rfl (fun K hK=>?_);have f7:=F7.out;have g7:=G7.out;go_simp;refine hK.out _ _ ?_;clear hK K;try simp only[PS]
     refine zo ?_;go_wp2_with fail;go_roundw
     case rel =>
      refine⟨k+1,{ N with count:=upd N.count i (ct+1),bag:=N.bag++[(J,bs)] },by omega,by go_num,zb ⟨aC.out _ (Mod.refl _ _),?_,aa,B,?_,?_⟩⟩
      ·have a:=bA.out;rw[hJ]at a;exact a
      ·show upd N.count i (ct+1) i≤_;rw[zf];omega
      ·show(N.bag++[(J,bs)]).length≤_;rw[List.length_append,List.length_singleton,bG.out];omega
     case measure=>simp[intOf];omega
section
variable {w:World} {tag tag2:Nat→Nat×Nat} {nb:Nat} {n:NS} {M:NV} {W:World}
theorem Net.retag(h:Net w tag nb n M W)(hk:∀g,tag2 g=tag g∨((tag g=(3,6)∨tag g=(0,0))∧M.bg.ownBlock≠some g∧(tag2 g=(0,0)∨tag2 g=(3,6))∧g<W.heap.size∧w.heap.size≤g∧2≤g)):Net w tag2 nb n M W:=by
 have k3:∀{r:Nat} g,r≠6→tag g=(3,r)→tag2 g=(3,r):=fun g a hg=>by
  rcases hk g with x|⟨x|x,_⟩
  ·rw[x,hg]
  ·rw[hg]at x;simp at x;exact absurd x a
  ·rw[hg]at x;simp at x
 have row:∀{r e sz k:Nat} {v:Value} {xs:List Value},r≠6→zex tag r e sz v k xs W→zex tag2 r e sz v k xs W:=fun a p=>⟨p.own,fun g hg=>k3 g a (p.tag g hg)⟩
 have blk:∀{r b t:Nat} {cs:Array Value},r≠6→zei tag r b cs t W→zei tag2 r b cs t W:=fun a p=>⟨p.obj,k3 _ a p.tag⟩
 refine
  {o :=
    {obj:=blk (by omega) h.o.obj
     x:=row (by omega) h.o.x
     ev:=row (by omega) h.o.ev
     gv:=row (by omega) h.o.gv
     nx:=row (by omega) h.o.nx
     ct:=row (by omega) h.o.ct
     bg:=⟨h.o.bg.own,fun g hg=>?_⟩
     er:=fun i hi=>row (by omega) (h.o.er i hi)
     en:=fun i hi k hk=>blk (by omega) (h.o.en i hi k hk)
     gr:=fun i hi=>row (by omega) (h.o.gr i hi)
     gl:=h.o.gl
     gn:=fun i hi j b s hb hs=>blk (by omega) (h.o.gn i hi j b s hb hs) }
   cn:=fun i hi=>(h.cn i hi).mod (Mod.refl NoB W) (fun _ x=>x.elim) (fun g hg=>?_)
   env:=⟨fun g hg=>?_,h.env.pos,h.env.err,h.env.tab,?_,?_⟩
   nd:=fun i hi g r a=>?_
   mod:=h.mod
   t1:=fun g hg=>?_ }
 ·rcases hk g with x|⟨_,x,_⟩
  ·rw[x];exact h.o.bg.tag g hg
  ·exact absurd hg x
 ·rcases hk g with x|⟨x|x,_⟩
  ·exact x
  ·rw[x]at hg;simp at hg;omega
  ·rw[x]at hg;simp at hg
 ·rcases hk g with x|⟨_,_,_,x,_⟩
  ·rw[x];exact h.env.ok g hg
  ·omega
 ·rcases hk 0 with x|⟨_,_,_,_,_,x⟩
  ·rw[x];exact h.env.g0
  ·omega
 ·rcases hk 1 with x|⟨_,_,_,_,_,x⟩
  ·rw[x];exact h.env.g1
  ·omega
 ·rcases hk g with x|⟨_,_,x|x,_⟩
  ·rw[x];exact h.nd i hi g r a
  ·rw[x];intro y;have:=congrArg Prod.fst y;simp at this
  ·rw[x];intro y;have:=congrArg Prod.fst y;simp only at this;omega
 ·rcases hk g with x|⟨_,_,_,_,x,_⟩
  ·rw[x]at hg;exact h.t1 g hg
  ·exact x
theorem Net.aside(h:Net w tag nb n M W):∃tag2 M2,Net w tag2 nb { n with bag:=[] } M2 (W.setCell ⟨nb,8,none⟩ (.slice none 0 0))∧(W.setCell ⟨nb,8,none⟩ (.slice none 0 0)).ownsRow 0 62 2 M.bg n.bag.length (zS n.bag)∧(∀q,M.bg.ownBlock=some q→tag2 q=(0,0)) ∧
  ∀n' W3,zy w tag2 nb (W.setCell ⟨nb,8,none⟩ (.slice none 0 0)) n' W3→zy w tag nb W n' W3:=by
 obtain⟨W',f⟩:=nm (W.setCell ⟨nb,8,none⟩ (.slice none 0 0));have i:=h.o.obj.tag;have a:∀q,M.bg.ownBlock=some q→tag q=(3,6)∧q<W.heap.size:=fun q a=>⟨h.o.bg.tag q a,by
  rcases h.o.bg.own.2 with⟨e,_⟩|⟨q',c',cur,e,_,x,_⟩
  ·rw[e]at a;cases a
  ·rw[e]at a;cases a;exact(Array.getElem?_eq_some_iff.1 x).1⟩
 have m:Mod (fun g=>g=nb) W W':=by rw[←f];exact(Mod.refl (fun g=>g=nb) W).setCell (p:=⟨nb,8,none⟩) (.inl rfl) _
 have l:=m.owns h.o.bg.own (fun g hg x=>by
  have:=(a g hg).1;rw[show g=nb from x,i]at this;simp at this)
 have o':zbU tag nb { n with bag:=[] } { M with bg:=.slice none 0 0 } W' :=
  h.o.bagS (.slice none 0 0) [] m (fun g hg=>.inl (by rw[show g=nb from hg,i])) (fun _ _=>rfl) (by rw[←f,zc h.o.obj.obj];rfl) (World.ownsRow_nil W' 0 _ 2) (fun g hg=>by cases hg)
 have h':Net w tag nb { n with bag:=[] } { M with bg:=.slice none 0 0 } W':=h.own o' rfl rfl rfl m (fun g hg=>.inl (by rw[show g=nb from hg,i])) (Ext.same h.env.ok m);have sz:W'.heap.size=W.heap.size:=by rw[←f];simp[World.setCell]
 have two:∀q,M.bg.ownBlock=some q→2≤q:=fun q b=>by
  have t:=(a q b).1;have g0:=h.env.g0;have g1:=h.env.g1;rcases(show q=0∨q=1∨2≤q by omega)with rfl|rfl|x
  ·rw[t]at g0;simp at g0
  ·rw[t]at g1;simp at g1
  ·exact x
 obtain⟨tag2,c⟩:=nm ((fun g=>if M.bg.ownBlock=some g then(0,0)else tag g));have n2:Net w tag2 nb { n with bag:=[] } { M with bg:=.slice none 0 0 } W':=h'.retag (fun g=>by
  rw[←c];by_cases x:M.bg.ownBlock=some g
  ·exact .inr ⟨.inl (a g x).1,by simp[Value.ownBlock],.inl (if_pos x),by rw[sz];exact(a g x).2,h.t1 g (by rw[(a g x).1];simp),two g x⟩
  ·exact .inl (if_neg x))
 rw[f];refine⟨tag2,_,n2,l,fun q b=>by rw[←c];exact if_pos b,fun n' W3 hn=>?_⟩;obtain⟨j,u,v,k,z⟩:=hn;obtain⟨d,r⟩:=nm ((fun g=>if M.bg.ownBlock=some g then(3,6)else j g));have s:∀q,M.bg.ownBlock=some q→j q=(0,0):=fun q b=>by
  rw[k q (by rw[sz];exact(a q b).2),←c];exact if_pos b
 have n4:Net w d nb n' u W3:=v.retag (fun g=>by
  rw[←r];by_cases x:M.bg.ownBlock=some g
  ·refine .inr ⟨.inr (s g x),fun y=>?_,.inr (if_pos x),Nat.lt_of_lt_of_le (by rw[sz];exact(a g x).2) z.size,h.t1 g (by rw[(a g x).1];simp),two g x⟩;have:=v.o.bg.tag g y;rw[s g x]at this;simp at this
  ·exact .inl (if_neg x))
 have old:∀g,g<W.heap.size→d g=tag g:=fun g hg=>by
  rw[←r];by_cases x:M.bg.ownBlock=some g
  ·simp only[if_pos x];exact(a g x).1.symm
  ·simp only[if_neg x];rw[k g (by rw[sz];exact hg),←c];exact if_neg x
 refine⟨d,u,n4,old,(m.mono (fun g hg=>.inl (by rw[show g=nb from hg,i];simp))).then z (fun g hg=>.inl (fun y=>hg ?_))⟩;rw[←c];simp only;split
 ·rfl
 ·exact y
end
theorem zhY:∀(l:List (Nat×List UInt8)) {n:NS} {ok:Bool} {T:Nat},n.Inv T→(∀p∈l,p.1<2∧0<p.2.length∧p.2.length≤400)→T+400*l.length≤zbm→(NS.recvs l n ok).2.Inv (T+400*l.length)
 | [],_,_,_,h,_,_=>h
 | f::l,n,ok,T,h,hl,hT=>by
  simp only[List.length_cons]at hT ⊢;have h1:=(h.recv f.1 f.2 (by have:=(hl f List.mem_cons_self).2.2;omega)).mono (show T+f.2.length≤T+400 by have:=(hl f List.mem_cons_self).2.2;omega);have h2:=zhY l (ok:=ok&&(n.recv f.1 f.2).2.1&&(n.recv f.1 f.2).1==0) h1 (fun p hp=>hl p (List.mem_cons_of_mem _ hp)) (by omega);exact h2.mono (by omega)
theorem zj1:∀(l:List (Nat×List UInt8)) {n:NS} {ok:Bool},n.Up→(NS.recvs l n ok).1=true→(NS.recvs l n ok).2.Up∧ok=true
 | [],_,_,u,h=>⟨u,h⟩
 | f::l,n,ok,u,h=>by
  have k:(NS.recvs l (n.recv f.1 f.2).2.2 (ok&&(n.recv f.1 f.2).2.1&&(n.recv f.1 f.2).1==0)).1=true:=h;by_cases hc:(n.recv f.1 f.2).1=0
  ·obtain⟨a,b⟩:=zj1 l (u.recv f.1 f.2 (.inl hc)) k;simp only[Bool.and_eq_true]at b;exact⟨a,b.1.1⟩
  ·exfalso;have hf:∀(l:List (Nat×List UInt8)) (n:NS),(NS.recvs l n false).1=false:=by
    intro l
    induction l with
    | nil=>intro n;rfl
    | cons f l ih=>intro n;exact ih _
   have e:(ok&&(n.recv f.1 f.2).2.1&&(n.recv f.1 f.2).1==0)=false:=by
    rw[beq_eq_false_iff_ne.2 hc,Bool.and_false]
   rw[e,hf]at k;cases k
theorem zhZ:∀(l:List (Nat×List UInt8)) (n:NS) (ok:Bool),(NS.recvs l n ok).2.bag=n.bag
 | [],_,_=>rfl
 | f::l,n,ok=>(zhZ l (n.recv f.1 f.2).2.2 _).trans rfl
theorem zo9(n:NS)(i k most:Nat):(n.read i k most).2.bag=n.bag:=by
 unfold NS.read;split<;>rfl
theorem zh0:∀(l:List (Nat×Nat)) (n:NS) (ok:Bool),(NS.reads l n ok).2.bag=n.bag
 | [],_,_=>rfl
 | p::l,n,ok=>(zh0 l (n.read p.1 p.2 4096).2 _).trans (zo9 _ _ _ _)
theorem zh1:∀(l:List (Nat×Nat)) {n:NS} {ok:Bool} {T:Nat},n.Inv T→(NS.reads l n ok).2.Inv T
 | [],_,_,_,h=>h
 | p::l,_,_,_,h=>zh1 l (h.read p.1 p.2 4096)
theorem zj2:∀(l:List (Nat×Nat)) {n:NS} {ok:Bool},n.Up→(NS.reads l n ok).2.Up
 | [],_,_,u=>u
 | p::l,_,_,u=>zj2 l (u.read p.1 p.2 4096)
theorem zj3:∀(l:List (Nat×Nat)) {n:NS} {ok:Bool},(NS.reads l n ok).1=true→ok=true
 | [],_,_,h=>h
 | p::l,n,ok,h=>by
  have:=zj3 l (n:=(n.read p.1 p.2 4096).2) h;simp only[Bool.and_eq_true]at this;exact this.1
theorem zfb{T:Nat}(hT:T≤zbm){n:NS}(h:n.Inv T){i:Nat}(hi:i<2):(n.flush i).2.bag.length≤n.bag.length+21:=by
 have hp:=(h.c i hi).pkPost hT;have ha:=(h.c i hi).acks.2.2;have hl:(n.c i).packets.1.length≤21:=by have:=hp.out.1;omega
 unfold NS.flush;obtain⟨c',m,h1,h2,h3,h4⟩:=zb1 i (n.c i).packets.1 (n.setC i (n.c i).packets.2);rw[h1];show(n.bag++m).length≤_;rw[List.length_append];omega
theorem zfV{n:NS}(hb:n.bag=[]):n.step ziM=(true,n.tick):=by
 unfold NS.step ziM;simp only[show ¬((5:Int)=1)by decide,show ¬((5:Int)=2)by decide,show ¬((5:Int)=3)by decide,show ¬((5:Int)=4)by decide,if_false,if_true];unfold NS.carry;have e:n.tick.bag=[]:=hb;rw[if_pos e]
def fairC:Nat:=16803
theorem zk0{T:Nat}(hT:T+fairC≤zbm){n:NS}(h:n.Inv T)(u:n.Up)(hb:n.bag=[]):n.fair1.2.Inv (T+fairC)∧n.fair1.2.bag=[]∧(n.fair1.1=true→n.fair1.2.Up):=by
 unfold fairC at hT ⊢;unfold NS.fair1;rw[zfV hb];simp only;have h1:=h.tick;have u1:=u.tick;have b1:n.tick.bag=[]:=hb;unfold NS.fairA NS.fairB NS.fairC;have h2:=h1.flush (i:=0) (by omega) (by omega);have u2:=NS.Up.flush (i:=0) (by omega) h1 u1 (by omega);have a:=zfb (i:=0) (by omega) h1 (by omega);rw[b1]at a;have h3:=h2.flush (i:=1) (by omega) (by omega);have u3:=NS.Up.flush (i:=1) (by omega) h2 u2 (by omega);have l3:=zfb (i:=1) (by omega) h2 (by omega);generalize ((n.tick.flush 0).2.flush 1).2=N at *;simp only[List.length_nil]at a;have h4:({ N with bag:=[] }:NS).Inv (T+1+1+1):=⟨h3.mtu,h3.win,h3.c,h3.e,h3.now,h3.next,h3.count,h3.gl,h3.g,Nat.zero_le _,fun p hp=>(by cases hp)⟩;refine⟨?_,?_,fun ok=>?_⟩
 ·have x:=zhY N.bag (ok:=true&&(n.tick.flush 0).1&&((n.tick.flush 0).2.flush 1).1) h4 h3.bag (by omega);exact(zh1 zbC x).mono (by omega)
 ·rw[zh0,zhZ]
 ·exact zj2 _ (zj1 _ (n:={ N with bag:=[] }) u3 (zj3 _ ok)).1
theorem zpa:(Tryz.prog.info? 52).map (fun i=>(i.zero,i.size,i.bytes))=some (some (.pointer none),1,8):=by kernel_rfl
theorem zbU.nxAt{tag:Nat→Nat×Nat}{W:World}{nb:Nat}{n:NS}{M:NV}(h:zbU tag nb n M W){i:Nat}(hi:i<2):∃g cap,M.nx = .slice (some ⟨g,0,none⟩) 2 cap∧W.cell? ⟨nb,3,none⟩=some (.slice (some ⟨g,0,none⟩) 2 cap)∧(2≤cap∧cap≤9223372036854775807)∧W.cell? ⟨g,i,none⟩=some (.int .u64 (n.next i:Int))∧W.frozen? ⟨g,i,none⟩=false∧tag g=(3,4):=by
 obtain⟨g,cap,a,e2,e3,e4⟩:=h.nx.form (by omega);have c0:W.cell? ⟨nb,3,none⟩=some M.nx:=h.obj.cell (j:=3) rfl;have x:=h.nx.own;rw[a]at c0 x;have y:=zbu x (i:=i) (v:=.int .u64 (n.next i:Int)) (by
  rcases(show i=0∨i=1 by omega)with rfl|rfl<;>rfl)
 unfold maxLen at e3;exact⟨g,cap,a,c0,⟨e2,by omega⟩,y.1,y.2,e4⟩
theorem Net.nxS{w:World}{tag:Nat→Nat×Nat}{nb:Nat}{n:NS}{M:NV}{W:World}(h:Net w tag nb n M W){i:Nat}(hi:i<2)(x:Nat){g cap:Nat}(hg:M.nx = .slice (some ⟨g,0,none⟩) 2 cap):Net w tag nb { n with next:=upd n.next i x } M (W.setCell ⟨g,i,none⟩ (.int .u64 (x:Int))):=by
 have ht:tag g=(3,4):=h.o.nx.tag g (by rw[hg];rfl);have m:Mod (fun q=>q=g) W (W.setCell ⟨g,i,none⟩ (.int .u64 (x:Int))):=(Mod.refl (fun q=>q=g) W).setCell (p:=⟨g,i,none⟩) (.inl rfl) _;exact h.own (h.o.nxS hi x hg) rfl rfl rfl m (fun q hq=>.inl (by rw[show q=g from hq,ht])) (Ext.same h.env.ok m)
theorem Net.gramPushed{w:World}{tag:Nat→Nat×Nat}{nb:Nat}{n:NS}{M:NV}{W:World}(h:Net w tag nb n M W){i:Nat}(hi:i<2)(A:SN)(hl:(n.g i).length≤1000000000000) :
  ∃gg cg ga ca a c W2,W.cell? ⟨nb,2,none⟩=some (.slice (some ⟨gg,0,none⟩) 2 cg)∧(2≤cg∧cg≤9223372036854775807)∧W.cell? ⟨gg,i,none⟩=some (.slice ga (n.g i).length ca)∧tag gg=(3,3) ∧
   (∀ty,(Builtin.append_ #[49,49] ty #[.slice ga (n.g i).length ca,.slice (some ⟨W.heap.size+1,0,none⟩) 1 1]).run Tryz.prog ((W.alloc (.cells (zcH A) 51)).alloc (.cells #[.pointer (some ⟨W.heap.size,0,none⟩)] 52)) = .ok (.slice a ((n.g i).length+1) c) W2)∧W2.frozen? ⟨gg,i,none⟩=false∧(∃u,W2.cell? ⟨gg,i,none⟩=some u)∧Mod (fun q=>tag q=(3,9+i)) W W2 ∧
   ∀W',Mod NoB (W2.setCell ⟨gg,i,none⟩ (.slice a ((n.g i).length+1) c)) W'→zy w tag nb W { n with g:=upd n.g i (n.g i++[A]) } W':=by
 obtain⟨ii,N,hz,O,Q⟩:=info_parts zpa;obtain⟨gg,cg,R,e2,e3,E⟩:=h.o.gv.form (by omega);obtain⟨ga,ca,f1,f2,f3,f4⟩:=zj (h.o.gr i hi).own;have G:=h.o.gl i hi;have c0:W.cell? ⟨nb,2,none⟩=some M.gv:=h.o.obj.cell (j:=2) rfl;have x:=h.o.gv.own;rw[R]at c0 x;have y:=zbu x (i:=i) (v:=M.gr i) (by
  rcases(show i=0∨i=1 by omega)with rfl|rfl<;>rfl)
 unfold maxLen at e3;obtain⟨W1,r⟩:=nm (W.alloc (.cells (zcH A) 51));obtain⟨B,s⟩:=nm (W1.alloc (.cells #[.pointer (some ⟨W.heap.size,0,none⟩)] 52));have m1:Mod NoB W W1:=by rw[←r];exact(Mod.refl _ _).alloc _
 have H:Mod NoB W1 B:=by rw[←s];exact(Mod.refl _ _).alloc _
 have m0:Mod NoB W B:=m1.trans H;have s1:W1.heap.size=W.heap.size+1:=by rw[←r];simp
 have s0:B.heap.size=W.heap.size+2:=by rw[←s];simp[s1]
 have S:W1.heap[W.heap.size]?=some (.cells (zcH A) 51 (0,0)):=by rw[←r];exact heap_alloc_new W _
 have T:B.heap[W.heap.size+1]?=some (.cells #[.pointer (some ⟨W.heap.size,0,none⟩)] 52 (0,0)):=by rw[←s,←s1];exact heap_alloc_new W1 _
 have hc:∀(j:Nat) u,[zaO W.heap.size][j]?=some u→B.cell? ((⟨W.heap.size+1,0,none⟩:Addr).add j)=some u:=fun j u hj=>by
  rw[addr_add];refine za T ?_;rw[Nat.zero_add,←Array.getElem?_toList];exact hj
 obtain⟨m,W2,U,V,g2,n2⟩:=zH (P:=Tryz.prog) B 49 52 ii _ 1 8 Tryz.underlying49 N hz O Q rfl (by decide) (M.gr i) (M.gb i).length ((M.gb i).map zaO) (m0.owns (h.o.gr i hi).own (fun _ _ x=>x))
  ⟨W.heap.size+1,0,none⟩ 1 1 [zaO W.heap.size] rfl hc (by intro u hu;simp at hu;subst hu;rfl) (by unfold maxLen;omega) (by omega)
 have f:∀q,(M.gr i).ownBlock=some q→tag q=(3,9+i):=(h.o.gr i hi).tag;have X:Mod (fun q=>(M.gr i).ownBlock=some q) B W2:=(Mod.refl _ B).grown g2 (fun q d=>.inl d);have Y:Mod (fun q=>tag q=(3,9+i)) W W2:=(m0.mono (fun _ x=>x.elim)).then X (fun q d=>.inl (f q d));have ac:W.heap.size+2≤W2.heap.size:=by rw[←s0];exact X.size
 have Z:∀q,m.ownBlock=some q→q<W2.heap.size:=fun q d=>by
  rcases V.2 with⟨e,_⟩|⟨q',c',aa,e,_,x,_⟩
  ·rw[e]at d;cases d
  ·rw[e]at d;cases d;exact(Array.getElem?_eq_some_iff.1 x).1
 have I:∀q,m.ownBlock=some q→tag q=(3,9+i)∨W.heap.size+2≤q:=fun q d=>by
  rcases n2 q d with z|z
  ·exact .inl (f q z)
  ·exact .inr (by omega)
 have b:∀q,W.heap.size≤q→tag q=(0,0):=fun q d=>h.env.ok q d
 obtain⟨tag',k⟩:=nm ((fun g=>if g=W.heap.size then(3,40+2*(M.gb i).length+i)else if W.heap.size≤g∧m.ownBlock=some g∧g<W2.heap.size then(3,9+i)else tag g));have old:∀g,g<W.heap.size→tag' g=tag g:=fun g hg=>by
  rw[←k];simp only;rw[if_neg (by omega),if_neg (fun x=>by omega)]
 have C:∀g,tag g≠(0,0)→tag' g=tag g:=fun g hg=>by
  by_cases q:g<W.heap.size
  ·exact old g q
  ·exact absurd (b g (by omega)) hg
 have J:gg<W.heap.size:=zk y.1;have D:¬tag gg=(3,9+i):=fun x=>by rw[E]at x;simp at x;omega
 have K:m.ownBlock≠some gg:=fun x=>by
  rcases I gg x with z|z
  ·exact D z
  ·omega
 obtain⟨F,t⟩:=nm (W2.setCell ⟨gg,i,none⟩ m);have m3:Mod (fun g=>g=gg) W2 F:=by rw[←t];exact(Mod.refl (fun g=>g=gg) W2).setCell (p:=⟨gg,i,none⟩) (.inl rfl) m
 have m4:Mod (fun g=>tag g=(3,9+i)∨g=gg) W F:=(Y.mono (fun g hg=>.inl (.inl hg))).trans (m3.mono (fun g hg=>.inl (.inr hg)));have x2:W2.ownsRow 0 49 1 (.slice (some ⟨gg,0,none⟩) 2 cg) 2 [M.gr 0,M.gr 1]:=Y.owns x (fun g hg z=>by cases hg;exact D z);have ab:F.heap[W.heap.size]?=some (.cells (zcH A) 51 (0,0)):=by
  refine m3.obj (fun z=>by have z:W.heap.size=gg:=z;omega) (X.obj (fun z=>?_) (H.obj (fun z=>z) S));have:=f _ z;rw[b _ (Nat.le_refl _)]at this;simp at this
 have o':zbU tag' nb { n with g:=upd n.g i (n.g i++[A]) } { M with gr:=upd M.gr i m,gb:=upd M.gb i (M.gb i++[W.heap.size]) } F:=by
  refine h.o.gramPush hi A m m4 (fun g hg=>?_) C ⟨?_,fun g hg=>?_⟩ (m3.owns ?_ (fun g hg z=>K (by rw[hg,show g=gg from z]))) (fun g hg=>?_) ab ?_
  ·rcases hg with z|z
   ·exact .inr (.inl z)
   ·rw[z];exact .inl E
  ·have z:=zgy (i:=i) m x2;rw[t]at z;rw[R];rcases(show i=0∨i=1 by omega)with rfl|rfl
   ·exact z
   ·exact z
  ·rw[R]at hg;cases hg;rw[old gg J,E]
  ·rw[List.map_append];exact V
  ·rcases I g hg with z|z
   ·rw[C g (by rw[z];simp),z]
   ·rw[←k];simp only;rw[if_neg (by omega),if_pos ⟨by omega,hg,Z g hg⟩]
  ·rw[←k];exact if_pos rfl
 have L:F.heap.size=W2.heap.size:=by rw[←t];simp[World.setCell]
 have N3:Net w tag' nb { n with g:=upd n.g i (n.g i++[A]) } { M with gr:=upd M.gr i m,gb:=upd M.gb i (M.gb i++[W.heap.size]) } F:=by
  refine h.own o' rfl rfl rfl m4 (fun g hg=>?_) ⟨old,fun g hg=>?_,fun g hg=>?_⟩
  ·rcases hg with z|z
   ·exact .inl (by rw[z])
   ·exact .inl (by rw[z,E])
  ·rw[←k];simp only;split
   ·exact .inl rfl
   ·split
    ·exact .inl rfl
    ·exact .inr (b g hg)
  ·rw[L]at hg;rw[←k];simp only;rw[if_neg (by omega),if_neg (fun x=>by omega)];exact b g (by omega)
 obtain⟨a2,c2,l,-⟩:=zj V;rw[G]at l f1;rw[f1]at y U;refine⟨gg,cg,ga,ca,a2,c2,W2,c0,⟨e2,by omega⟩,y.1,E,?_,?_,⟨M.gr i,?_⟩,Y,fun W' m'=>?_⟩
 ·rw[r,s];rw[l]at U;exact U
 ·rcases x2.2 with⟨e,_⟩|⟨g',ad,aa,e,_,h1,_⟩
  ·cases e
  ·cases e;exact zd h1
 ·exact(zbu x2 (i:=i) (by
   rcases(show i=0∨i=1 by omega)with rfl|rfl<;>rfl)).1
 ·rw[←l,t]at m';exact zy.then0 ⟨tag',_,N3,old,m4.mono (fun g hg=>.inl (by
   rcases hg with z|z
   ·rw[z];simp
   ·rw[z,E];simp))⟩ m'
def bty:Nat→Nat
 | 0=>69
 | 1=>87
 | 2=>49
 | _=>43
def cix:Nat→Nat
 | 4=>9
 | r=>r
def zcK(mt wn tt:Nat)(R:Nat→Value):Array Value:=#[R 0,R 1,R 2,R 3,.int .u64 0,.int .i64 (mt:Int),.int .i64 (wn:Int),.int .i64 (tt:Int),.slice none 0 0,R 4]
structure BN(w:World)(tag:Nat→Nat×Nat)(nb mt wn tt:Nat)(R:Nat→Value)(L:Nat→List Value)(C:Nat)(b:Nat→Nat)(V:Nat→CV)(D:Nat)(er:Nat→Value)(eb:Nat→Nat)(W:World):Prop where
 obj:zei tag 0 nb (zcK mt wn tt R) 48 W
 row:∀r,r<5→zex tag (r+1) (bty r) 1 (R r) (L r).length (L r) W
 en:∀d,d<D→zei tag (20+d) (eb d) (za9 EN.zero) 89 W
 er:∀j,j<2→8*j<D→zex tag (7+j) 86 1 (er j) (min 8 (D-8*j)) ((List.range (min 8 (D-8*j))).map fun k=>zaO (eb (8*j+k))) W
 cn:∀j,j<C→zg tag (j+1) (b j) (CS.new mt wn tt) (V j) W
 c2:C≤2
 d16:D≤16
 env:Env 1 tag W
 nd:∀j,j<2→zia (j+1) tag
 mod:Mod NoB w W
 t1:∀g,tag g≠(0,0)→w.heap.size≤g
section
variable {S:Nat→Prop} {w:World} {tag tag':Nat→Nat×Nat} {nb mt wn tt:Nat} {R:Nat→Value} {L:Nat→List Value} {C:Nat} {b:Nat→Nat} {V:Nat→CV} {D:Nat} {er:Nat→Value} {eb:Nat→Nat} {W W':World}
theorem BN.mod0(h:BN w tag nb mt wn tt R L C b V D er eb W)(m:Mod NoB W W'):BN w tag nb mt wn tt R L C b V D er eb W' :=
 {obj:=h.obj.mod m (fun _ x=>x.elim) (fun _ _=>rfl)
  row:=fun r hr=>(h.row r hr).mod m (fun _ x=>x.elim) (fun _ _=>rfl)
  en:=fun d hd=>(h.en d hd).mod m (fun _ x=>x.elim) (fun _ _=>rfl)
  er:=fun j a hd=>(h.er j a hd).mod m (fun _ x=>x.elim) (fun _ _=>rfl)
  cn:=fun j a=>(h.cn j a).mod0 m
  c2:=h.c2,d16:=h.d16,env:=h.env.mod0 m,nd:=h.nd,mod:=h.mod.trans m,t1:=h.t1 }
theorem BN.conn(h:BN w tag nb mt wn tt R L C b V D er eb W)(hC:C<2){q:Nat}(hL:zbc tag (C+1) q W (CS.new mt wn tt) W') :
  ∃tag' V',BN w tag' nb mt wn tt R L (C+1) (upd b C q) V' D er eb W':=by
 obtain⟨tag',V',a,e,m,d⟩:=hL.nodr (by omega) (h.nd C hC);have old:∀g,tag g≠(0,0)→tag' g=tag g:=fun g hg=>by
  by_cases q:g<W.heap.size
  ·exact e.old g q
  ·exact absurd (h.env.ok g (by omega)) hg
 have c:∀{r:Nat} g,(tag g).1=C+1→tag g≠(3,r):=fun g hg x=>by rw[x]at hg;simp only at hg;omega
 refine⟨tag',upd V C V',
  {obj:=h.obj.mod m c old
   row:=fun r hr=>(h.row r hr).mod m c old
   en:=fun d hd=>(h.en d hd).mod m c old
   er:=fun j f hd=>(h.er j f hd).mod m c old
   cn:=fun j f=>?_
   c2:=by omega
   d16:=h.d16
   env:=((h.env.to (j:=C+1) (by omega)).left e m).to (by omega)
   nd:=fun j f=>?_
   mod:=h.mod.then m (fun g hg=>.inr (h.t1 g (fun x=>by rw[x]at hg;simp at hg)))
   t1:=fun g hg=>?_ }⟩
 ·by_cases x:j=C
  ·subst x;rw[zf,zf];exact a
  ·rw[ze _ _ x,ze _ _ x];exact(h.cn j (by omega)).mod m (fun g hg y=>by omega) (fun g hg=>old g (fun y=>by rw[y]at hg;simp at hg))
 ·by_cases x:j=C
  ·subst x;exact d
  ·exact(h.nd j f).other e (by omega) (by omega)
 ·by_cases x:g<W.heap.size
  ·exact h.t1 g (by rw[←e.old g x];exact hg)
  ·have:=h.mod.size;omega
theorem BN.build{R':Nat→Value}{i:Nat→List Value}{c:Nat}{f:Nat→Value}{a:Nat→Nat}(h:BN w tag nb mt wn tt R L C b V D er eb W)(m:Mod S W W')(hS:∀g,S g→(tag g).1=3∨W.heap.size≤g)(e:Ext 3 tag tag' W W')
  (obj:zei tag' 0 nb (zcK mt wn tt R') 48 W')
  (row:∀r,r<5→zex tag' (r+1) (bty r) 1 (R' r) (i r).length (i r) W')
  (en:∀d,d<c→zei tag' (20+d) (a d) (za9 EN.zero) 89 W')
  (l:∀j,j<2→8*j<c→zex tag' (7+j) 86 1 (f j) (min 8 (c-8*j)) ((List.range (min 8 (c-8*j))).map fun k=>zaO (a (8*j+k))) W') (hD:c≤16) :
  BN w tag' nb mt wn tt R' i C b V c f a W':=by
 have old:∀g,tag g≠(0,0)→tag' g=tag g:=fun g hg=>by
  by_cases q:g<W.heap.size
  ·exact e.old g q
  ·exact absurd (h.env.ok g (by omega)) hg
 have c2:=h.c2;have n:Mod (fun g=>(tag g).1=3) W W':=m.mono hS;exact
  {obj:=obj,row:=row,en:=en,er:=l,c2:=h.c2,d16:=hD
   cn:=fun j o=>(h.cn j o).mod n (fun g hg y=>by omega) (fun g hg=>old g (fun y=>by rw[y]at hg;simp at hg))
   env:=((h.env.to (j:=3) (by omega)).left e n).to (by omega)
   nd:=fun j o=>(h.nd j o).other e (by omega) (by omega)
   mod:=h.mod.then n (fun g hg=>.inr (h.t1 g (fun x=>by rw[x]at hg;simp at hg)))
   t1:=fun g hg=>by
    by_cases x:g<W.heap.size
    ·exact h.t1 g (by rw[←e.old g x];exact hg)
    ·have:=h.mod.size;omega }
theorem bn_set(mt wn tt:Nat)(R:Nat→Value){r:Nat}(hr:r<5)(v:Value):(zcK mt wn tt R).setIfInBounds (cix r) v=zcK mt wn tt (upd R r v):=by
 rcases(show r=0∨r=1∨r=2∨r=3∨r=4 by omega)with rfl|rfl|rfl|rfl|rfl<;>rfl
theorem zpu(mt wn tt:Nat)(R:Nat→Value){r:Nat}(hr:r<5):(zcK mt wn tt R)[cix r]?=some (R r):=by
 rcases(show r=0∨r=1∨r=2∨r=3∨r=4 by omega)with rfl|rfl|rfl|rfl|rfl<;>rfl
theorem zgA{e sz N:Nat}{v:Value}{xs:List Value}(h:W.ownsRow 0 e sz v N xs){q:Nat}(a:v.ownBlock=some q):q<W.heap.size:=by
 rcases h.2 with⟨e,_⟩|⟨q',c',cur,e,_,x,_⟩
 ·rw[e]at a;cases a
 ·rw[e]at a;cases a;exact(Array.getElem?_eq_some_iff.1 x).1
theorem BN.push(h:BN w tag nb mt wn tt R L C b V D er eb W){r:Nat}(v:r<5)(u:Value)(h1:u.oneCell'=true)(t by_:Nat){z:Value}(A:(Tryz.prog.info? (bty r)).map (fun i=>(i.zero,i.size,i.bytes))=some (some z,1,by_))(hz:z.cells.size=1)(ht:Tryz.prog.underlying t=some (.slice (bty r)))(O:by_≤24)(hl:(L r).length≤1000) :
  ∃va ca a c W2,R r = .slice va (L r).length ca∧W.cell? ⟨nb,cix r,none⟩=some (.slice va (L r).length ca)∧(∀ty,(Builtin.append_ #[t,t] ty #[.slice va (L r).length ca,.slice (some ⟨W.heap.size,0,none⟩) 1 1]).run Tryz.prog (W.alloc (.cells #[u] (bty r))) = .ok (.slice a ((L r).length+1) c) W2)∧W2.cell? ⟨nb,cix r,none⟩=some (.slice va (L r).length ca)∧W2.frozen? ⟨nb,cix r,none⟩=false ∧
   ∃tag',∀W',Mod NoB (W2.setCell ⟨nb,cix r,none⟩ (.slice a ((L r).length+1) c)) W'→BN w tag' nb mt wn tt (upd R r (.slice a ((L r).length+1) c)) (upd L r (L r++[u])) C b V D er eb W':=by
 obtain⟨ii,Q,S,T,U⟩:=info_parts A;obtain⟨va,ca,J,f2,f3,f4⟩:=zj (h.row r v).own;obtain⟨W1,l⟩:=nm (W.alloc (.cells #[u] (bty r)));have m1:Mod NoB W W1:=by rw[←l];exact(Mod.refl _ _).alloc _
 have s1:W1.heap.size=W.heap.size+1:=by rw[←l];simp
 have hc:∀(j:Nat) x,[u][j]?=some x→W1.cell? ((⟨W.heap.size,0,none⟩:Addr).add j)=some x:=fun j x X=>by
  rw[addr_add,←l];refine za (heap_alloc_new W _) ?_;rw[Nat.zero_add,←Array.getElem?_toList];exact X
 obtain⟨o,W2,r2,Y,g2,n2⟩:=zH (P:=Tryz.prog) W1 t (bty r) ii _ 1 by_ ht Q S T U hz (by decide) (R r) (L r).length (L r) (m1.owns (h.row r v).own (fun _ _ x=>x))
  ⟨W.heap.size,0,none⟩ 1 1 [u] rfl hc (by intro x K;simp at K;subst K;exact h1) (by unfold maxLen;omega) (by
   have:((L r).length+1)*by_≤1001*24:=Nat.mul_le_mul (by omega) O;omega)
 have E:=(h.row r v).tag;have m2:Mod (fun q=>(R r).ownBlock=some q) W1 W2:=(Mod.refl _ W1).grown g2 (fun q s=>.inl s);have Z:Mod (fun q=>tag q=(3,r+1)) W W2:=(m1.mono (fun _ x=>x.elim)).then m2 (fun q s=>.inl (E q s));have F:∀q,o.ownBlock=some q→tag q=(3,r+1)∨W.heap.size≤q:=fun q s=>by
  rcases n2 q s with x|x
  ·exact .inl (E q x)
  ·exact .inr (by omega)
 have aa:∀q,o.ownBlock=some q→q<W2.heap.size:=fun q s=>zgA Y s
 have f:=h.obj.tag;have G:¬tag nb=(3,r+1):=fun x=>by rw[f]at x;simp at x
 have ab:o.ownBlock≠some nb:=fun x=>by
  rcases F nb x with y|y
  ·exact G y
  ·rw[h.env.ok nb y]at f;simp at f
 obtain⟨tag',m⟩:=nm ((fun g=>if W.heap.size≤g∧o.ownBlock=some g∧g<W2.heap.size then(3,r+1)else tag g));have old:∀g,g<W.heap.size→tag' g=tag g:=fun g hg=>by
  rw[←m];exact if_neg (fun x=>by omega)
 have e:∀g,tag g≠(0,0)→tag' g=tag g:=fun g hg=>by
  by_cases q:g<W.heap.size
  ·exact old g q
  ·exact absurd (h.env.ok g (by omega)) hg
 obtain⟨M,n⟩:=nm (W2.setCell ⟨nb,cix r,none⟩ o);have m3:Mod (fun g=>g=nb) W2 M:=by rw[←n];exact(Mod.refl (fun g=>g=nb) W2).setCell (p:=⟨nb,cix r,none⟩) (.inl rfl) o
 have N:Mod (fun g=>tag g=(3,r+1)∨tag g=(3,0)) W M:=(Z.mono (fun g hg=>.inl (.inl hg))).trans (m3.mono (fun g hg=>.inl (.inr (by rw[show g=nb from hg,f]))));have H:M.heap.size=W2.heap.size:=by rw[←n];simp[World.setCell]
 have k:=Z.obj G h.obj.obj;have q4:∀{x:Nat},x≠r+1→x≠0→∀g,(tag g=(3,r+1)∨tag g=(3,0))→tag g≠(3,x):=fun a b g hg y=>by
  rcases hg with z|z<;>rw[y]at z<;>simp at z
  ·exact a z
  ·exact b z
 have B:BN w tag' nb mt wn tt (upd R r o) (upd L r (L r++[u])) C b V D er eb M:=by
  refine h.build N (fun g hg=>.inl (by rcases hg with z|z<;>rw[z])) ⟨old,fun g hg=>?_,fun g hg=>?_⟩ ⟨?_,by rw[e nb (by rw[f];simp),f]⟩ (fun x K=>?_) (fun d hd=>(h.en d hd).mod N (q4 (by omega) (by omega)) e) (fun j X hd=>(h.er j X hd).mod N (q4 (by omega) (by omega)) e) h.d16
  ·rw[←m];simp only;split
   ·exact .inl rfl
   ·exact .inr (h.env.ok g hg)
  ·rw[H]at hg;rw[←m];simp only;rw[if_neg (fun x=>by omega)];have:=Z.size;exact h.env.ok g (by omega)
  ·rw[←n,zc k,bn_set _ _ _ _ v]
  ·by_cases y:x=r
   ·subst y;rw[zf,zf,List.length_append,List.length_singleton];refine⟨m3.owns Y (fun g hg z=>ab (by rw[hg,show g=nb from z])),fun g hg=>?_⟩;rcases F g hg with z|z
    ·rw[e g (by rw[z];simp),z]
    ·rw[←m];exact if_pos ⟨z,hg,aa g hg⟩
   ·rw[ze _ _ y,ze _ _ y];exact(h.row x K).mod N (q4 (by omega) (by omega)) e
 obtain⟨a2,c2,I,-⟩:=zj Y;subst I;rw[J]at r2;refine⟨va,ca,a2,c2,W2,J,by rw[←J];exact h.obj.cell (zpu _ _ _ _ v),by rw[l];exact r2,?_,zd k,tag',fun W' m'=>?_⟩
 ·rw[←J];exact za k (zpu _ _ _ _ v)
 ·rw[n]at m';exact B.mod0 m'
end
theorem zpb:(Tryz.prog.info? 86).map (fun i=>(i.zero,i.size,i.bytes))=some (some (.pointer none),1,8):=by kernel_rfl
section
variable {w:World} {tag tag':Nat→Nat×Nat} {nb mt wn tt:Nat} {R:Nat→Value} {L:Nat→List Value} {C:Nat} {b:Nat→Nat} {V:Nat→CV} {D:Nat} {er:Nat→Value} {eb:Nat→Nat} {W W':World}
def znh(er:Nat→Value)(i K:Nat):Value:=if K=0 then .slice none 0 0 else er i
theorem BN.pushEnd(h:BN w tag nb mt wn tt R L C b V D er eb W){i K:Nat}(hi:i<2)(hK:K<8)(hD:D=8*i+K) :
  ∃va ca a c W2 tag',znh er i K = .slice va K ca∧(∀ty,(Builtin.append_ #[87,87] ty #[.slice va K ca,.slice (some ⟨W.heap.size+1,0,none⟩) 1 1]).run Tryz.prog ((W.alloc (.cells (za9 EN.zero) 89)).alloc (.cells #[.pointer (some ⟨W.heap.size,0,none⟩)] 86)) = .ok (.slice a (K+1) c) W2) ∧
   BN w tag' nb mt wn tt R L C b V (D+1) (upd er i (.slice a (K+1) c)) (upd eb D W.heap.size) W2:=by
 obtain⟨ii,I,J,M,N⟩:=info_parts zpb;obtain⟨W1,o⟩:=nm (W.alloc (.cells (za9 EN.zero) 89));obtain⟨r,p⟩:=nm (W1.alloc (.cells #[.pointer (some ⟨W.heap.size,0,none⟩)] 86));have m1:Mod NoB W W1:=by rw[←o];exact(Mod.refl _ _).alloc _
 have v:Mod NoB W1 r:=by rw[←p];exact(Mod.refl _ _).alloc _
 have m0:Mod NoB W r:=m1.trans v;have s1:W1.heap.size=W.heap.size+1:=by rw[←o];simp
 have s0:r.heap.size=W.heap.size+2:=by rw[←p];simp[s1]
 have O:W1.heap[W.heap.size]?=some (.cells (za9 EN.zero) 89 (0,0)):=by rw[←o];exact heap_alloc_new W _
 have Q:r.heap[W.heap.size+1]?=some (.cells #[.pointer (some ⟨W.heap.size,0,none⟩)] 86 (0,0)):=by rw[←p,←s1];exact heap_alloc_new W1 _
 have hc:∀(j:Nat) u,[zaO W.heap.size][j]?=some u→r.cell? ((⟨W.heap.size+1,0,none⟩:Addr).add j)=some u:=fun j u hj=>by
  rw[addr_add];refine za Q ?_;rw[Nat.zero_add,←Array.getElem?_toList];exact hj
 have A:W.ownsRow 0 86 1 (znh er i K) K ((List.range K).map fun k=>zaO (eb (8*i+k)))∧∀q,(znh er i K).ownBlock=some q→tag q=(3,7+i):=by
  unfold znh;split
  ·rename_i hK0;subst hK0;exact⟨World.ownsRow_nil W 0 _ 1,fun q m=>by cases m⟩
  ·have x:=h.er i hi (by omega);rw[show min 8 (D-8*i)=K by omega]at x;exact⟨x.own,x.tag⟩
 obtain⟨s,t⟩:=A;obtain⟨va,ca,f1,f2,f3,f4⟩:=zj s;obtain⟨G,W2,r2,S,g2,n2⟩:=zH (P:=Tryz.prog) r 87 86 ii _ 1 8 Tryz.underlying87 I J M N rfl (by decide) (znh er i K) K ((List.range K).map fun k=>zaO (eb (8*i+k))) (m0.owns s (fun _ _ x=>x))
  ⟨W.heap.size+1,0,none⟩ 1 1 [zaO W.heap.size] rfl hc (by intro u hu;simp at hu;subst hu;rfl) (by unfold maxLen;omega) (by omega)
 have T:Mod (fun q=>(znh er i K).ownBlock=some q) r W2:=(Mod.refl _ r).grown g2 (fun q m=>.inl m);have E:Mod (fun q=>tag q=(3,7+i)) W W2:=(m0.mono (fun _ x=>x.elim)).then T (fun q m=>.inl (t q m));have aa:W.heap.size+2≤W2.heap.size:=by rw[←s0];exact T.size
 have U:∀q,G.ownBlock=some q→q<W2.heap.size:=fun q m=>zgA S m
 have X:∀q,G.ownBlock=some q→tag q=(3,7+i)∨W.heap.size+2≤q:=fun q m=>by
  rcases n2 q m with z|z
  ·exact .inl (t q z)
  ·exact .inr (by omega)
 have l:∀q,W.heap.size≤q→tag q=(0,0):=fun q m=>h.env.ok q m
 obtain⟨tag',n⟩:=nm ((fun g=>if g=W.heap.size then(3,20+D)else if W.heap.size≤g∧G.ownBlock=some g∧g<W2.heap.size then(3,7+i)else tag g));have old:∀g,g<W.heap.size→tag' g=tag g:=fun g hg=>by
  rw[←n];simp only;rw[if_neg (by omega),if_neg (fun x=>by omega)]
 have f:∀g,tag g≠(0,0)→tag' g=tag g:=fun g hg=>by
  by_cases q:g<W.heap.size
  ·exact old g q
  ·exact absurd (l g (by omega)) hg
 have H:∀{x:Nat},x≠7+i→∀g,tag g=(3,7+i)→tag g≠(3,x):=fun a g hg y=>by
  rw[y]at hg;simp at hg;exact a hg
 have Y:W2.heap[W.heap.size]?=some (.cells (za9 EN.zero) 89 (0,0)):=by
  refine T.obj (fun z=>?_) (v.obj (fun z=>z) O);have:=t _ z;rw[l _ (Nat.le_refl _)]at this;simp at this
 obtain⟨a2,c2,F,-⟩:=zj S;have B:BN w tag' nb mt wn tt R L C b V (D+1) (upd er i G) (upd eb D W.heap.size) W2:=by
  refine h.build E (fun g hg=>.inl (by rw[hg])) ⟨old,fun g hg=>?_,fun g hg=>?_⟩ (h.obj.mod E (H (by omega)) f) (fun x hx=>(h.row x hx).mod E (H (by omega)) f) (fun d hd=>?_) (fun j hj hd=>?_) (by omega)
  ·rw[←n];simp only;split
   ·exact .inl rfl
   ·split
    ·exact .inl rfl
    ·exact .inr (l g hg)
  ·rw[←n];simp only;rw[if_neg (by omega),if_neg (fun x=>by omega)];exact l g (by omega)
  ·by_cases y:d=D
   ·subst y;rw[zf];exact⟨Y,by rw[←n];exact if_pos rfl⟩
   ·rw[ze _ _ y];exact(h.en d (by omega)).mod E (H (by omega)) f
  ·by_cases y:j=i
   ·subst y;rw[zf,show min 8 (D+1-8*j)=K+1 by omega];have e:((List.range (K+1)).map fun k=>zaO (upd eb D W.heap.size (8*j+k)))=((List.range K).map fun k=>zaO (eb (8*j+k)))++[zaO W.heap.size]:=by
     rw[List.range_succ,List.map_append,List.map_singleton,←hD,zf]
     congr 1
     refine List.map_congr_left fun k hk=>?_
     rw[ze _ _ (by have:=List.mem_range.1 hk;omega)]
    rw[e];refine⟨S,fun g hg=>?_⟩;rcases X g hg with z|z
    ·rw[f g (by rw[z];simp),z]
    ·rw[←n];simp only;rw[if_neg (by omega),if_pos ⟨by omega,hg,U g hg⟩]
   ·rw[ze _ _ y];have Z:j=0∧i=1∨j=1∧i=0:=by omega
    rcases Z with⟨rfl,rfl⟩|⟨rfl,rfl⟩
    ·rw[show min 8 (D+1-8*0)=8 by omega];have x:=h.er 0 (by omega) (by omega);rw[show min 8 (D-8*0)=8 by omega]at x;have e:((List.range 8).map fun k=>zaO (upd eb D W.heap.size (8*0+k)))=((List.range 8).map fun k=>zaO (eb (8*0+k))) :=
      List.map_congr_left fun k hk=>by rw[ze _ _ (by have:=List.mem_range.1 hk;omega)]
     rw[e];exact x.mod E (H (by omega)) f
    ·exact absurd hd (by omega)
 subst F;rw[f1]at r2;exact⟨va,ca,a2,c2,W2,tag',f1,by rw[o,p];exact r2,B⟩
theorem BN.done{R:Nat→Value}{L:Nat→List Value}(h:BN w tag nb mt wn tt R L 2 b V 16 er eb W)(h0:L 0=[zaO (b 0),zaO (b 1)])(h1:L 1=[er 0,er 1])(h2:L 2=[.slice none 0 0,.slice none 0 0])(h3:L 3=[.int .u64 0,.int .u64 0])(h4:L 4=[.int .u64 0,.int .u64 0]) :
  Net w tag nb (NS.new mt wn tt) ⟨R 0,R 1,R 2,R 3,.slice none 0 0,R 4,b,V,er,fun i k=>eb (8*i+k),fun _=>.slice none 0 0,fun _=>[]⟩ W:=by
 have a:=h.row 0 (by omega);have c:=h.row 1 (by omega);have d:=h.row 2 (by omega);have e:=h.row 3 (by omega);have f:=h.row 4 (by omega);rw[h0]at a;rw[h1]at c;rw[h2]at d;rw[h3]at e;rw[h4]at f;exact
  {o :=
    {obj:=h.obj
     x:=a
     ev:=c
     gv:=d
     nx:=e
     ct:=f
     bg:=⟨World.ownsRow_nil W 0 _ 2,fun g hg=>by cases hg⟩
     er:=fun i hi=>by
      have x:=h.er i hi (by omega);rw[show min 8 (16-8*i)=8 by omega]at x;exact x
     en:=fun i hi k hk=>by
      have x:=h.en (8*i+k) (by omega);rw[show 20+(8*i+k)=20+8*i+k by omega]at x;exact x
     gr:=fun i hi=>⟨World.ownsRow_nil W 0 _ 1,fun g hg=>by cases hg⟩
     gl:=fun i hi=>rfl
     gn:=fun i hi j b s hb=>by simp at hb }
   cn:=fun i hi=>h.cn i hi
   env:=h.env
   nd:=h.nd
   mod:=h.mod
   t1:=h.t1 }
end
end Go.Proofs.YtddfdpbaiedcjaaGreatDoor
