/- A part of Urgent's proof. Conditions: none. Part 28 of 32. -/
import Derived.Test.YtddfdpbaiedcjaaGreatDoorUrg27
set_option maxRecDepth 100000
set_option maxHeartbeats 16000000
set_option linter.all false
namespace Go.Proofs.YtddfdpbaiedcjaaGreatDoor
open Go.RowKit
theorem zm7{w:World}{tag:Nat→Nat×Nat}{nb:Nat}{n:NS}{M:NV}{W:World}(h:Net w tag nb n M W){T:Nat}(hI:n.Inv T)(hT:T≤zbm){i:Nat}(hi:i<2) :
  Calls Tryz.prog 34 #[.pointer (some ⟨nb,0,none⟩),.int .i64 (i:Int)] W (zct w tag nb W (n.came i)):=by
 obtain⟨J,hJ⟩:=nm (1-i);have B:J<2:=by omega
 have x1:IntKind.i64.wrap (1-(i:Int))=(J:Int):=by rw[IntKind.wrap_i64];omega
 have x2:(1:Int)-(i:Int)=(J:Int):=by omega
 obtain⟨gx,cx,b1,⟨b2,b3⟩,b4⟩:=h.o.connIs (i:=i) hi;have kc:=zkS (h.cn i hi);have am:(n.g J).length≤268435455:=by
  have:=hI.gl J B;unfold zbm at hT;omega
 have ao:(n.c i).datagramsOut.1.length≤268435455:=by
  have:=(hI.c i hi).cl;unfold zbm at hT;show(n.c i).came.length≤_;omega
 unfold NS.came;rw[hJ];obtain⟨l,hl⟩:=nm ((n.c i).datagramsOut.1);obtain⟨c',C⟩:=nm ((n.c i).datagramsOut.2);obtain⟨nw,D⟩:=nm n.now;obtain⟨R,hR⟩:=nm (zdY nw l (n.g J));obtain⟨K,E⟩:=nm ((n.g J).length);obtain⟨L,N⟩:=nm l.length;rw[hl,C]at kc;rw[hl,N]at ao;rw[hl,C,D,hR];rw[E]at am;have HN:=zb h;have HR:=zb hR;have ap:=zb E;have O:=zb D;have hE:=h.env.ok;have P:=(h.cn i hi).tb;clear hI hR E D hl C hT;go_enter Tryz.func34,Tryz.ntmps34;go_upto_region 2 with(go_at_call 67;refine kc.mono ?_;intro e W1 Q;obtain⟨v,rfl,f,U,X⟩:=Q.left hE P;obtain⟨tag',V',h1,old,m1⟩:=HN.out.conn hi X);obtain⟨S,Y⟩:=nm (n.setC i c');have Z:S.g=n.g:=by rw[←Y];rfl
 have aa:S.now=n.now:=by rw[←Y];rfl
 obtain⟨t,ab⟩:∃t:NV,({ M with V:=V' }:NV)=t:=⟨_,rfl⟩;have h1:Net w tag' nb S t W1:=by rw[←Y,←ab];exact h1
 have ac:Hid (∀(G:List SN) wr W',Net w tag' nb { S with g:=upd S.g J G } t wr→Mod (zqx tag') W1 wr→Mod NoB wr W'→zy w tag nb W { n.setC i c' with g:=upd n.g J G } W'):=by
  refine zb fun G wr W' hN m m'=>?_
  have e:({ S with g:=upd S.g J G }:NS)={ n.setC i c' with g:=upd n.g J G }:=by rw[←Y];rfl
  rw[←e];exact zy.trans old (m1.mono (fun g hg=>.inl (fun x=>by rw[x]at hg;simp at hg))) ⟨tag',t,hN.free m' (fun _ x=>x.elim),fun _ _=>rfl,(m.mono (fun g hg=>.inl (by obtain⟨r,_,e⟩:=hg;rw[e];simp))).trans (m'.mono (fun _ x=>x.elim))⟩
 have ad:∀g,v.ownBlock=some g→tag' g=(i+1,8):=fun g hg=>by
  have h2:=U g hg;have h3:=zaA hE h2 (by omega);rw[old g h3,h2]
 have z:Hid (∀wr,Mod (zqx tag') W1 wr→wr.ownsRow 0 154 2 v l.length (zaa l)):=zb fun wr m=>m.owns f (fun g hg x=>by
  obtain⟨r,_,e⟩:=x;rw[ad g hg]at e;simp at e;omega)
 obtain⟨va,vc,rfl,aq,ar,ae⟩:=zj f;rw[N]at aq ae z;unfold maxLen at ar;have ST:Hid (Net w tag' nb { S with g:=upd S.g J (n.g J) } t W1):=by
  refine zb ?_;rw[←Z,zm6];exact h1
 have af:Hid (S.now=nw):=aa.trans O.out;have F:=zb N;rw[N];clear h hE P U f h1 old m1 Z aa ad b1 b2 b3 b4 kc Q X Y ab HN N O;go_wp2_with fail
 go_loopw [6] (fun kv wr=>∃(k:Nat) (G:List SN),k≤L∧kv = .int .i64 (k:Int)∧Hid (Net w tag' nb { S with g:=upd S.g J G } t wr∧Mod (zqx tag') W1 wr∧zdY nw (l.drop k) G=R∧G.length=K)) (fun kv _=>L-(intOf kv).toNat)
 case atStart=>exact⟨0,n.g J,Nat.zero_le _,rfl,zb ⟨ST.out,Mod.refl _ _,HR.out,ap.out⟩⟩
 case round =>
  obtain⟨k,G,hk,rfl,H⟩:=hrel;by_cases ah:k<L
  ·obtain⟨m,hm⟩:∃m,l[k]?=some m:=⟨l[k]'(by rw[F.out];exact ah),List.getElem?_eq_getElem _⟩;obtain⟨gv,rfl⟩:=ae (by omega);have HM:=zb hm;obtain⟨RB,RL,ai⟩:∃RB RL,zbJ nw m.1 m.2 G false=(RB,RL):=⟨_,_,rfl⟩;have u:=zb ai;clear ai hm;go_wp2_with fail
   go_loopw [7,8] (fun fv jv wr=>∃(j:Nat) (r:Bool),j≤K∧fv = .bool r∧jv = .int .i64 (j:Int)∧Hid (zdj w tag' nb S t W1 J G nw m RB RL j r wr)) (fun _ jv _=>K-(intOf jv).toNat)
   case atStart =>
    obtain⟨a1,a2,a3,a4⟩:=H.out;exact⟨0,false,Nat.zero_le _,rfl,rfl,zb (zdj.start a1 a2 u.out)⟩
   case round =>
    obtain⟨j,r,hj,rfl,rfl,HJ⟩:=hrel;have y:=H.out.2.2.2;obtain⟨c4,gg,cg,ga,ca,d1,⟨d2,d3⟩,d4,⟨d5,d6⟩,I,d7⟩:=HJ.out.look B af.out (by omega);rw[y]at d4 d5;obtain⟨r1,r2⟩:=zqw (z.out wr I) F.out HM.out;by_cases au:j<K
    ·obtain⟨g,hg⟩:∃g,G[j]?=some g:=⟨G[j]'(by omega),List.getElem?_eq_getElem _⟩;obtain⟨q,b,rfl,hb,d8,⟨e0,e1,e2,e3,e4⟩⟩:=d7 g hg;have HG:=zb hg;have HB:=zb hb;have t1:(zq g.data).toList=g.data:=by rw[ByteArray.toList_eq,zaK]
     have t2:(zq m.2).toList=m.2:=by rw[ByteArray.toList_eq,zaK]
     clear d7 I hg hb y;by_cases d:g.id=m.1;rotate_left
     ·have q1:((g.id:Int)==(m.1:Int))=false:=by rw[zbD];exact beq_eq_false_iff_ne.2 d
      have A:=zb d;clear d;go_wp2_with fail;go_quiet (fail);go_wp2_with fail;go_roundw
      case rel=>exact⟨j+1,r,by omega,rfl,by go_num,zb (HJ.out.miss HG.out A.out ((Mod.refl _ _).drewN _))⟩
      case measure=>simp[intOf];omega
     ·have q1:((g.id:Int)==(m.1:Int))=true:=by rw[zbD];exact beq_iff_eq.2 d
      have A:Hid (∀rv,rv=(g.data==m.2 && !g.came&&decide (nw≤g.dl))→∀W',Mod NoB (wr.setCell ⟨b,3,none⟩ (.bool true)) W'→zdj w tag' nb S t W1 J G nw m RB RL (j+1) rv W'):=zb fun rv hr W' m'=>by
       rw[hr];exact HJ.out.hit B HG.out HB.out d m'
      clear d;go_wp2_with fail;go_quiet (fail);go_upto_region 11 with fail;by_cases p:g.data=m.2
      ·have q2:(g.data==m.2)=true:=by rw[p];exact beq_self_eq_true _
       obtain⟨cm,av⟩:=nm g.came;rw[av]at e3 A;rw[q2]at A;cases cm
       ·go_quiet (fail);go_wp2_with fail;go_roundw
        case rel=>exact⟨j+1,_,by omega,rfl,by go_num,zb (A.out _ (by simp) _ (ze6 _ _ _ _))⟩
        case measure=>simp[intOf];omega
       ·go_quiet (fail);go_wp2_with fail;go_roundw
        case rel=>exact⟨j+1,_,by omega,rfl,by go_num,zb (A.out _ (by simp) _ (ze6 _ _ _ _))⟩
        case measure=>simp[intOf];omega
      ·have q2:(g.data==m.2)=false:=beq_eq_false_iff_ne.2 p;rw[q2]at A;clear p;go_quiet (fail);go_wp2_with fail;go_roundw
       case rel=>exact⟨j+1,_,by omega,rfl,by go_num,zb (A.out _ (by simp) _ (ze6 _ _ _ _))⟩
       case measure=>simp[intOf];omega
    ·have aw:j=K:=by omega
     subst aw;obtain⟨f1,f2,f3⟩:=HJ.out.done y.symm;subst f1;have HC:=zb (zm5 (now:=nw) HM.out G);have aj:=zb f2;have ak:=zb f3;clear d7 I f2 f3 au;cases r
     ·have s:Hid (R=(false,RL)):=by
       show _=_;have a:=HC.out;rw[u.out,H.out.2.2.1]at a;exact a
      have hr:=s.out;subst hr;go_wp2_with fail;go_ret;exact⟨rfl,ac.out RL wr _ aj.out ak.out (Mod.refl _ _)⟩
     ·have s:Hid (zdY nw (l.drop (k+1)) RL=R):=by
       show _=_;have a:=HC.out;rw[u.out,H.out.2.2.1]at a;exact a.symm
      have al:Hid (RL.length=j):=by
       show _=_;have a:=(zcs nw m.1 m.2 G false).1;rw[u.out]at a;exact a.trans y
      go_wp2_with fail;go_roundw
      case rel=>exact⟨k+1,RL,by omega,by go_num,zb ⟨aj.out,ak.out,s.out,al.out⟩⟩
      case measure=>simp[intOf];omega
  ·have ax:k=L:=by omega
   subst ax;have s:Hid (R=(true,G)):=by
    show _=_;have a:=H.out.2.2.1;have e:l.drop k=[]:=by rw[←F.out];exact List.drop_length
    rw[e]at a;exact a.symm
   have hr:=s.out;subst hr;clear ah;go_wp2_with fail;go_ret;exact⟨rfl,ac.out G wr _ H.out.1 H.out.2.1 (Mod.refl _ _)⟩
def zo8(n:Nat)(l:List Frm):List UInt8:=zL n++l.flatMap zC
theorem ze8(tmps:Array Value)(w:World)(a:Nat)(n fv:Value)(h2:tmps.getD 2 undef = .pointer (some ⟨a,0,none⟩))
  (c0:w.cell? ⟨a,0,none⟩=some n) (c1:w.cell? ⟨a,1,none⟩=some fv) :
  (results Tryz.f42 tmps).run Tryz.prog w = .ok (.tuple #[.agg #[n,fv],tmps.getD 3 undef]) w:=by
 have b:tmps[2]?.getD undef = .pointer (some ⟨a,0,none⟩):=by rw[←h2];simp
 simp[results,Tryz.results42,go_sem,b,c0,c1]
theorem zai.shape{w:World}{r:zgX}{e:Ending}{w':World}(h:zai w r e w'):∃x fa fl fc ev,e = .returned (.tuple #[.agg #[.int .u64 x,.slice fa fl fc],ev]):=by
 cases r with
 | sum=>exact⟨_,_,_,_,_,h.2⟩
 | bad a=>obtain⟨_,fa,b,_⟩:=h;exact⟨_,_,_,_,_,b⟩
 | ok n fs =>
  obtain⟨_,fv,rvs,b,ho,_⟩:=h;obtain⟨fa,fc,rfl,_⟩:=zj ho.1;exact⟨_,_,_,_,_,b⟩
theorem zai.from{w X:World}{r:zgX}{e:Ending}{w':World}(m:Mod NoB w X)(h:zai X r e w'):zai w r e w':=by
 refine⟨m.trans h.1,?_⟩;have hs:=m.size;cases r with
 | sum=>exact h.2
 | bad a =>
  obtain⟨_,fa,b,c,hl⟩:=h;exact⟨fa,b,c,by omega⟩
 | ok n fs =>
  obtain⟨_,fv,d,b,c,hm,h1,h2⟩:=h;exact⟨fv,d,b,c,hm,fun g hg=>by have:=h1 g hg;omega,fun x hx g hg=>by have:=h2 x hx g hg;omega⟩
theorem zai.to{w X Y:World}{r:zgX}{e:Ending}{S:Nat→Prop}(h:zai w r e X)(m:Mod S X Y)(f:∀i,S i→∃cs T fz,X.heap[i]?=some (.cells cs T fz)∧T≠65∧T≠214∧T≠167)(hw:∀i,S i→w.heap.size≤i):zai w r e Y:=by
 refine⟨h.1.then m (fun i hi=>.inr (hw i hi)),?_⟩;cases r with
 | sum=>exact h.2
 | bad a =>
  obtain⟨_,g,c,b,hl⟩:=h;refine⟨g,c,m.obj (fun hx=>?_) b,hl⟩;obtain⟨cs,T,fz,h1,_,_,h4⟩:=f g hx;rw[h1]at b;simp at b;exact h4 b.2.1
 | ok n fs =>
  obtain⟨_,fv,d,c,b,hm,h1,h2⟩:=h;exact⟨fv,d,c,zh9.mod b m (fun i hi=>.inr (by obtain⟨cs,T,fz,q1,q2,q3,_⟩:=f i hi;exact⟨cs,T,fz,q1,q2,q3⟩)),hm,h1,h2⟩
theorem zjj(v:Value)(bs:List UInt8)(w:World)(hb:BR w v bs)(o:Tab w)(hl:bs.length<1099511627776):Calls Tryz.prog 42 #[v] w (zai w (dec bs)):=by
 have g:Mod NoB w (w.alloc (.cells #[.int .u64 0,.slice none 0 0] 56)):=(Mod.refl _ _).alloc _;have b:(w.alloc (.cells #[.int .u64 0,.slice none 0 0] 56)).heap[w.heap.size]?=some (.cells #[.int .u64 0,.slice none 0 0] 56 (0,0)):=heap_alloc_new w _;obtain⟨W0,d⟩:=nm (w.alloc (.cells #[.int .u64 0,.slice none 0 0] 56));rw[d]at g b;have q:=zci v bs W0 (hb.mod g (zaX.no _)) (o.mod g (fun x=>x)) hl;have M0:=zb g;have HQ:=zb b;have l:=zb d;obtain⟨a,cap,rfl,_⟩:=hb;clear g b d o;go_enter Tryz.func42,Tryz.ntmps42;go_wp2_with fail;rw[l.out];refine q.mono ?_;intro e c j;obtain⟨x,m,fl,n,ev,rfl⟩:=j.shape;have b:c.heap[w.heap.size]?=some (.cells #[.int .u64 0,.slice none 0 0] 56 (0,0)):=j.1.obj (fun x=>x) HQ.out;have q0:c.cell? ⟨w.heap.size,0,none⟩=some (.int .u64 0):=za b rfl;have q1:c.cell? ⟨w.heap.size,1,none⟩=some (.slice none 0 0):=za b rfl;have z0:c.frozen? ⟨w.heap.size,0,none⟩=false:=zd b;have z1:c.frozen? ⟨w.heap.size,1,none⟩=false:=zd b;have HD:=zb j;have h:=zb b;clear j q b;go_wp2_with fail;obtain⟨WF,f⟩:=nm ((c.setCell ⟨w.heap.size,0,none⟩ (.int .u64 x)).setCell ⟨w.heap.size,1,none⟩ (.slice m fl n));rw[f];have mF:Mod (fun k=>k=w.heap.size) c WF:=by
  rw[←f];exact((Mod.refl (fun k=>k=w.heap.size) c).setCell (p:=⟨w.heap.size,0,none⟩) (.inl rfl) _).setCell (p:=⟨w.heap.size,1,none⟩) (.inl rfl) _
 have r:WF.heap[w.heap.size]?=some (.cells #[.int .u64 x,.slice m fl n] 56 (0,0)):=by
  rw[←f];exact zc (zc h.out)
 refine bodyPost_ret (ze8 _ _ w.heap.size (.int .u64 x) (.slice m fl n) rfl (za r rfl) (za r rfl)) rfl ?_;refine zai.to (HD.out.from M0.out) mF (fun i hi=>?_) (fun i hi=>?_)
 ·have hi:i=w.heap.size:=hi;subst hi;exact⟨_,_,_,h.out,by decide,by decide,by decide⟩
 ·have hi:i=w.heap.size:=hi;omega
def zna(w:World)(r:zgX)(e:Ending)(w':World):Prop :=
 Mod NoB w w'∧match r with
 | .sum=>e = .returned (.tuple #[.agg #[.int .u64 0,.slice none 0 0],.int .i64 7,.int .i64 (-1)])
 | .bad at_=>e = .returned (.tuple #[.agg #[.int .u64 0,.slice none 0 0],.int .i64 8,.int .i64 (at_:Int)])
 | .ok num fs=>∃fv rvs,e = .returned (.tuple #[.agg #[.int .u64 (num:Int),fv],.int .i64 0,.int .i64 (-1)])∧zh9 w' fv rvs∧rvs.map (·.1)=fs∧(∀g,fv.ownBlock=some g→w.heap.size≤g)∧∀x∈rvs,∀g,x.2.ownBlock=some g→w.heap.size≤g
theorem ze9(tmps:Array Value)(w:World)(a:Nat)(n fv:Value)(h2:tmps.getD 2 undef = .pointer (some ⟨a,0,none⟩))
  (c0:w.cell? ⟨a,0,none⟩=some n) (c1:w.cell? ⟨a,1,none⟩=some fv) :
  (results Tryz.f23 tmps).run Tryz.prog w = .ok (.tuple #[.agg #[n,fv],tmps.getD 3 undef,tmps.getD 4 undef]) w:=by
 have b:tmps[2]?.getD undef = .pointer (some ⟨a,0,none⟩):=by rw[←h2];simp
 simp[results,Tryz.results23,go_sem,b,c0,c1]
def BangAt(W:World)(v:Value)(wr:World):Prop:=zfv (fun k=>v.ownBlock=some k) W wr
theorem zhV{w X:World}{r:zgX}{p ev:Value}(h:zai w r (.returned (.tuple #[p,ev])) X)(hg:zd8 X) :
  ∃n at_,Calls Tryz.prog 43 #[ev] X (zfF X n at_)∧∀w',Mod NoB X w'→zna w r (.returned (.tuple #[p,.int .i64 n,.int .i64 at_])) w':=by
 cases r with
 | sum =>
  obtain⟨m,c⟩:=h;cases c;exact⟨7,-1,zlQ 7 X hg,fun w' b=>⟨m.trans b,rfl⟩⟩
 | bad a =>
  obtain⟨m,fa,c,d,hl⟩:=h;cases c;exact⟨8,a,zpk fa 8 a X hg (za d rfl) (za d rfl),fun w' b=>⟨m.trans b,rfl⟩⟩
 | ok n fs =>
  obtain⟨m,fv,e,c,d,hm,h1,h2⟩:=h;cases c;exact⟨0,-1,zgg X,fun w' b=>⟨m.trans b,fv,e,rfl,zh9.mod d b (fun i hi=>hi.elim),hm,h1,h2⟩⟩
theorem zna.from{w X:World}{r:zgX}{e:Ending}{w':World}(m:Mod NoB w X)(h:zna X r e w'):zna w r e w':=by
 refine⟨m.trans h.1,?_⟩;have hs:=m.size;cases r with
 | sum=>exact h.2
 | bad a=>exact h.2
 | ok n fs =>
  obtain⟨_,fv,b,he,ho,hm,h1,h2⟩:=h;exact⟨fv,b,he,ho,hm,fun g hg=>by have:=h1 g hg;omega,fun x hx g hg=>by have:=h2 x hx g hg;omega⟩
theorem zna.to{w X Y:World}{r:zgX}{e:Ending}{S:Nat→Prop}(h:zna w r e X)(m:Mod S X Y)(hS:∀i,S i→∃cs T fz,X.heap[i]?=some (.cells cs T fz)∧T≠65∧T≠214)(hw:∀i,S i→w.heap.size≤i):zna w r e Y:=by
 refine⟨h.1.then m (fun i hi=>.inr (hw i hi)),?_⟩;cases r with
 | sum=>exact h.2
 | bad a=>exact h.2
 | ok n fs =>
  obtain⟨_,fv,b,he,ho,hm,h1,h2⟩:=h;exact⟨fv,b,he,zh9.mod ho m (fun i hi=>.inr (hS i hi)),hm,h1,h2⟩
theorem zfa(v:Value)(bs:List UInt8)(w:World)(hb:BR w v bs)(ht:Tab w)(hg:zd8 w)(hl:bs.length<1099511627776):Calls Tryz.prog 23 #[v] w (zna w (dec bs)):=by
 obtain⟨y,f⟩:=nm (w.alloc (.cells #[.int .u64 0,.slice none 0 0] 56));have z:Mod NoB w y:=by rw[←f];exact(Mod.refl _ _).alloc _
 have oQ:y.heap[w.heap.size]?=some (.cells #[.int .u64 0,.slice none 0 0] 56 (0,0)):=by rw[←f];exact heap_alloc_new w _
 have hs0:y.heap.size=w.heap.size+1:=by rw[←f];simp
 obtain⟨v1,W1,A,c,m1,T⟩:=zqp y v bs (hb.mod z (zaX.no _)) (by omega);have k1:=zjj v1 bs W1 c.br ((ht.mod z (fun x=>x)).mod m1 (fun x=>x)) hl;have B:zd8 W1:=(hg.mod z (fun x=>x)).mod m1 (fun x=>x);obtain⟨Q,R,rfl,hx1,U,V⟩:=zj c;unfold maxLen at U;have W:=ziu c;obtain⟨a,cap,rfl,_⟩:=hb;have X:=zb f;have HQ:=zb (m1.obj (fun x=>x) oQ);have M1:=zb (z.trans m1);have Y:=zb B;have C:=zb c;have hs1:=m1.size;have h1p:0<w.heap.size:=zk hg;clear z oQ c m1 B ht hg f;go_enter Tryz.func23,Tryz.ntmps23;go_wp2_with (rw[X.out];at_builtin;refine zm rfl _ _ _ _ rfl _ _ _ rfl rfl A ?_;clear A);refine k1.mono ?_;clear k1;intro e r s;obtain⟨x,m,fl,n,ev,rfl⟩:=s.shape;have D:True:=trivial;obtain⟨W2,j⟩:=nm (r.alloc (.cells #[.int .u64 x,.slice m fl n] 56));have E:Mod NoB r W2:=by rw[←j];exact(Mod.refl _ _).alloc _
 have oP:W2.heap[r.heap.size]?=some (.cells #[.int .u64 x,.slice m fl n] 56 (0,0)):=by rw[←j];exact heap_alloc_new r _
 have F:W2.heap[w.heap.size]?=some (.cells #[.int .u64 0,.slice none 0 0] 56 (0,0)):=E.obj (fun x=>x) (s.1.obj (fun x=>x) HQ.out);have G:OB W2 (.slice Q bs.length R) bs:=(C.out.mod0 s.1).mod0 E;have H:zd8 W2:=(Y.out.mod s.1 (fun x=>x)).mod E (fun x=>x);have I:zai w (dec bs) (.returned (.tuple #[.agg #[.int .u64 x,.slice m fl n],ev])) W2:=(s.from M1.out).to E (fun i hi=>hi.elim) (fun i hi=>hi.elim);have hs2:=s.1.size;have Z:=zb j;have HP:=zb oP;have aa:=zb F;have o:=zb G;have J:=zb H;have ab:=zb I;clear s E oP F G H I j D;go_wp2_with fail;rw[Z.out]
 go_loopw [20] (fun i wr=>∃k:Nat,k≤bs.length∧i = .int .i64 k∧BangAt W2 (.slice Q bs.length R) wr) (fun i _=>bs.length-(intOf i).toNat)
 case atStart=>exact⟨0,Nat.zero_le _,rfl,zfv.refl _ _⟩
 case round =>
  obtain⟨k,hk,rfl,q⟩:=hrel;by_cases ah:k<bs.length
  ·obtain⟨g,rfl⟩:=V (by omega);obtain⟨cg,og,sg,_⟩:=zqy o.out;obtain⟨⟨v0,e0⟩,z0⟩:=q.cell (b:=g) rfl og (i:=k) (by omega);have HB:=zb (q.set (b:=g) rfl k (.int .u8 33));clear q og;go_wp2_with fail;go_roundw
   case rel=>exact⟨k+1,by omega,by go_num,HB.out⟩
   case measure=>simp[intOf];omega
  ·have l:∀i,(Value.slice Q bs.length R).ownBlock=some i→y.heap.size≤i∧i<W1.heap.size:=fun i hi=>⟨T i hi,W i hi⟩
   have K:wr.heap[r.heap.size]?=some (.cells #[.int .u64 x,.slice m fl n] 56 (0,0)):=q.1.obj (fun L=>by have:=l _ L;omega) HP.out;have M:wr.heap[w.heap.size]?=some (.cells #[.int .u64 0,.slice none 0 0] 56 (0,0)):=q.1.obj (fun L=>by have:=l _ L;omega) aa.out;have N:zd8 wr:=J.out.mod q.1 (fun L=>by have:=l _ L;omega);have O:=ab.out.to q.1 (fun i hi=>by
    have hi:(Value.slice Q bs.length R).ownBlock=some i:=hi;rcases o.out.2 with⟨hv,_⟩|⟨g,ai,cur,hv,_,hg,_⟩
    ·rw[hv]at hi;cases hi
    ·rw[hv]at hi;have hi:g=i:=by simpa [Value.ownBlock]using hi
     subst hi;exact⟨_,_,_,hg,by decide,by decide,by decide⟩) (fun i hi=>by have:=l _ hi;omega)
   obtain⟨nn,na,hc,hP⟩:=zhV O N;have ac:=zb hP;have ad:=zb K;have ae:=zb M;clear q K M N O hP;go_wp2_with fail;refine hc.mono ?_;rintro e h ⟨rfl,S⟩;clear hc;have t:=S.obj (fun x=>x) ad.out;have d:=S.obj (fun x=>x) ae.out;have p0:h.cell? ⟨r.heap.size,0,none⟩=some (.int .u64 x):=za t rfl;have p1:h.cell? ⟨r.heap.size,1,none⟩=some (.slice m fl n):=za t rfl;have q0:h.cell? ⟨w.heap.size,0,none⟩=some (.int .u64 0):=za d rfl;have q1:h.cell? ⟨w.heap.size,1,none⟩=some (.slice none 0 0):=za d rfl;have z0:h.frozen? ⟨w.heap.size,0,none⟩=false:=zd d;have z1:h.frozen? ⟨w.heap.size,1,none⟩=false:=zd d;have af:=zb (ac.out h S);have P:=zb d;clear S t d;go_wp2_with fail;obtain⟨WF,u⟩:=nm ((h.setCell ⟨w.heap.size,0,none⟩ (.int .u64 x)).setCell ⟨w.heap.size,1,none⟩ (.slice m fl n));rw[u];have mF:Mod (fun k=>k=w.heap.size) h WF:=by
    rw[←u];exact((Mod.refl (fun k=>k=w.heap.size) h).setCell (p:=⟨w.heap.size,0,none⟩) (.inl rfl) _).setCell (p:=⟨w.heap.size,1,none⟩) (.inl rfl) _
   have oF:WF.heap[w.heap.size]?=some (.cells #[.int .u64 x,.slice m fl n] 56 (0,0)):=by
    rw[←u];exact zc (zc P.out)
   refine bodyPost_ret (ze9 _ _ w.heap.size (.int .u64 x) (.slice m fl n) rfl (za oF rfl) (za oF rfl)) rfl ?_;refine zna.to af.out mF (fun i hi=>?_) (fun i hi=>?_)
   ·have hi:i=w.heap.size:=hi;subst hi;exact⟨_,_,_,P.out,by decide,by decide⟩
   ·have hi:i=w.heap.size:=hi;omega
def zcw.cells(s:zcw):Array Value:=#[.int .i64 s.kind,.int .i64 s.side,.int .i64 s.a,.int .i64 s.b,.string (zq s.s)]
structure zcw.Ok(s:zcw):Prop where
 kind : -9223372036854775808≤s.kind∧s.kind≤9223372036854775807
 side : -9223372036854775808≤s.side∧s.side≤9223372036854775807
 a : -9223372036854775808≤s.a∧s.a≤9223372036854775807
 b : -9223372036854775808≤s.b∧s.b≤9223372036854775807
 s:s.s.length≤1099511627776
structure zcJ(W:World)(b:Nat)(s:zcw):Prop where
 c0:W.cell? ⟨b,0,none⟩=some (.int .i64 s.kind)
 c1:W.cell? ⟨b,1,none⟩=some (.int .i64 s.side)
 c2:W.cell? ⟨b,2,none⟩=some (.int .i64 s.a)
 c3:W.cell? ⟨b,3,none⟩=some (.int .i64 s.b)
 c4:W.cell? ⟨b,4,none⟩=some (.string (zq s.s))
theorem zcJ.of{W:World}{b t:Nat}{fz:Nat×Nat}{s:zcw}(h:W.heap[b]?=some (.cells s.cells t fz)):zcJ W b s :=
 ⟨za h rfl,za h rfl,za h rfl,za h rfl,za h rfl⟩
theorem zcJ.mod{S:Nat→Prop}{W W':World}{b:Nat}{s:zcw}(h:zcJ W b s)(m:Mod S W W')(hs:¬S b):zcJ W' b s :=
 ⟨m.cell (a:=⟨b,0,none⟩) hs h.c0,m.cell (a:=⟨b,1,none⟩) hs h.c1,m.cell (a:=⟨b,2,none⟩) hs h.c2,m.cell (a:=⟨b,3,none⟩) hs h.c3,m.cell (a:=⟨b,4,none⟩) hs h.c4⟩
theorem Net.alloc{w:World}{tag:Nat→Nat×Nat}{nb:Nat}{n:NS}{M:NV}{W:World}(h:Net w tag nb n M W)(o:Obj):Net w tag nb n M (W.alloc o) :=
 h.free ((Mod.refl NoB W).alloc o) (fun _ x=>x.elim)
theorem zy.from0{w:World}{tag:Nat→Nat×Nat}{nb:Nat}{n':NS}{W W' W'':World}(m:Mod NoB W W')(h:zy w tag nb W' n' W''):zy w tag nb W n' W'' :=
 zy.trans (fun _ _=>rfl) (m.mono (fun _ x=>x.elim)) h
theorem zkY{w:World}{tag:Nat→Nat×Nat}{nb:Nat}{n:NS}{M:NV}{W:World}(h:Net w tag nb n M W)(hb:n.bag=[])(s:zcw) :
  Calls Tryz.prog 41 #[.pointer (some ⟨nb,0,none⟩),.agg s.cells] W (zct w tag nb W (n.carry s)):=by
 obtain⟨W1,b⟩:=nm (W.alloc (.cells s.cells 37));have h1:Net w tag nb n M W1:=by rw[←b];exact h.alloc _
 have m1:Mod NoB W W1:=by rw[←b];exact(Mod.refl _ _).alloc _
 obtain⟨a,cap,d,q1,q2,_⟩:=zj h1.o.bg.own;have f:W1.cell? ⟨nb,8,none⟩=some M.bg:=h1.o.obj.cell (j:=8) rfl;rw[d,hb]at f;have F:Hid (zy w tag nb W n W1):=zb (zy.from0 m1 h1.left);have e:n.carry s=(true,n):=by unfold NS.carry;rw[if_pos hb]
 rw[e];have c:=zb b;simp only[List.length_nil]at f;clear h hb h1 m1 d b q1 q2 e;unfold zcw.cells at c ⊢;go_enter Tryz.func41,Tryz.ntmps41;go_upto_region 1 with fail;rw[c.out];go_wp2_with fail;go_ret;exact⟨rfl,F.out⟩
theorem zhW(a b:List UInt8):zq a++zq b=zq (a++b):=by
 apply ByteArray.ext;simp[zq]
theorem zfU{w:World}{tag:Nat→Nat×Nat}{nb:Nat}{n:NS}{M:NV}{W:World}(h:Net w tag nb n M W){T:Nat}(hI:n.Inv T)(hT:T≤zbm){s:zcw}(hs:s.Ok)(hk:s.kind=1) :
  Calls Tryz.prog 21 #[.pointer (some ⟨nb,0,none⟩),.agg s.cells] W (zct w tag nb W (n.send (pickN s.side 2) (pickN s.a 8) s.s)):=by
 obtain⟨W1,y⟩:=nm (W.alloc (.cells s.cells 37));have h1:Net w tag nb n M W1:=by rw[←y];exact h.alloc _
 have m1:Mod NoB W W1:=by rw[←y];exact(Mod.refl _ _).alloc _
 obtain⟨sb,ah⟩:=nm W.heap.size;have sA:zcJ W1 sb s:=zcJ.of (by rw[←y,←ah];exact heap_alloc_new W _);have H:tag sb=(0,0):=h.env.ok sb (by omega);have hi:pickN s.side 2<2:=zkT _;have l:pickN s.a 8<8:=zao _ _ (by omega);have L:Calls Tryz.prog 24 #[.int .i64 s.side,.int .i64 2] W1 (fun e w'=>e = .returned (.int .i64 (pickN s.side 2:Int))∧W1=w'):=zaW s.side 2 W1 hs.side.1 hs.side.2 (by omega) (by omega);have N:Calls Tryz.prog 24 #[.int .i64 s.a,.int .i64 8] W1 (fun e w'=>e = .returned (.int .i64 (pickN s.a 8:Int))∧W1=w'):=zaW s.a 8 W1 hs.a.1 hs.a.2 (by omega) (by omega);have O:=hs.s;have P:∀k,k<8→((n.c (pickN s.side 2)).ws k).b.length≤1099511627776:=fun k hk=>by
  have:=((hI.c _ hi).ws k hk).len;omega
 have C:=hI.e _ hi _ l;obtain⟨i,Q⟩:=nm (pickN s.side 2);obtain⟨k,D⟩:=nm (pickN s.a 8);rw[Q]at hi L ⊢;rw[D]at l N;obtain⟨gx,cx,b1,⟨b2,b3⟩,b4⟩:=h1.o.connIs (i:=i) hi;rw[D];rw[Q]at P C;rw[D]at C;obtain⟨g,cap,q,al,a1,⟨a2,a3⟩,a4,⟨a5,a6⟩,a7⟩:=h1.o.endAt (i:=i) (k:=k) hi l;obtain⟨c0,c1,c2,c3,c4⟩:=sA;rw[hk]at c0;obtain⟨t,r⟩:=nm s.s;rw[r]at c4 O;have E:=zb y;have ks:=zlU (h1.cn i hi) (h1.env.to (j:=i+1) (by omega)) (k:Int) t O P;have aa:=C.wl;unfold NS.send;rw[r];obtain⟨R,hR⟩:=nm ((n.c i).send k t);rw[hR]at ks ⊢;obtain⟨v,c'⟩:=R;simp only at ks ⊢;obtain⟨o,ho⟩:=nm (n.e i k);rw[ho]at aa ⊢;have HO:=zb ho;obtain⟨RR,U⟩:∃RR:Bool×NS,(if (o.fin||o.cut)=true then(v==4,n.setC i c')else if 2048<o.wrote.length+t.length then(v==3,n.setC i c')else(v==0,(n.setC i c').setE i k { o with wrote:=o.wrote++t }))=RR:=⟨_,rfl⟩;rw[U];have d:=zb U;clear U;have HN:=zb h1;have ab:=zb m1;have q4:((v:Int)==4)=(v==4):=zbD v 4;have q3:((v:Int)==3)=(v==3):=zbD v 3;have q0:((v:Int)==0)=(v==0):=zbD v 0;unfold zcw.cells at E ⊢;rw[hk,r]at E ⊢;clear r h hI h1 m1 P C y hs hk Q D hR ho hT;go_enter Tryz.func21,Tryz.ntmps21;go_upto_region 1 with fail;rw[E.out];go_upto_region 8 with(first|(go_at_call 24;refine L.mono ?_;rintro _ _ ⟨rfl,rfl⟩;clear L)|(go_at_call 24;refine N.mono ?_;rintro _ _ ⟨rfl,rfl⟩)|(go_at_call 37;refine ks.mono ?_;rintro _ W2 ⟨rfl,hL⟩));obtain⟨tag',V',h2,old,m2⟩:=HN.out.conn hi hL;have e0:=h2.o.enAt hi l;have d4:W2.cell? ⟨sb,4,none⟩=some (.string (zq t)):=m2.cell (a:=⟨sb,4,none⟩) (fun x=>by
  have x:(tag sb).1=i+1:=x;rw[H]at x;simp at x) c4
 have F:(n.setC i c').e i k=o:=HO.out;rw[F]at e0;obtain⟨e0,e1,e2,e3,e4,e5,ez⟩:=e0;obtain⟨S,hS⟩:=nm (n.setC i c');rw[hS]at h2 F;have V:∀{n':NS} {W':World},zy w tag' nb W2 n' W'→zy w tag nb W n' W':=fun hh=>zy.from0 ab.out (zy.trans old (m2.mono (fun g hg=>.inl (fun x=>by rw[x]at hg;simp at hg))) hh)
 have z:Hid (∀W',Mod NoB W2 W'→zy w tag nb W (n.setC i c') W'):=zb fun W' m=>by rw[hS];exact V (zy.then0 h2.left m)
 have ac:tag' (M.eb i k)≠(0,0):=fun x=>by
  have a:=(h2.o.en i hi k l).tag;have a:tag' (M.eb i k)=_:=a;rw[x]at a;simp at a
 have A:=(h2.o.en i hi k l).obj;rw[F]at A;have I:Hid (∀(e':EN) W3 W',Mod (fun g=>g=M.eb i k) W2 W3→W3.heap[M.eb i k]?=some (.cells (za9 e') 89 (0,0))→Mod NoB W3 W'→zy w tag nb W ((n.setC i c').setE i k e') W'):=zb fun e' W3 W' m3 ho m'=>by
  rw[hS];have N3:=h2.endS hi l e' m3 ho;exact V (zy.then0 ⟨tag',_,N3,fun _ _=>rfl,m3.mono (fun g hg=>.inl (by rw[show g=M.eb i k from hg];exact ac))⟩ m')
 obtain⟨eb,X⟩:=nm (M.eb i k);dsimp only at e0 e1 e2 e3 e4 e5 ez A;rw[X]at e0 e1 e2 e3 e4 e5 ez A I;try rw[X]
 have ai:=zb A;clear old m2 h2 V ac A HN ab hL F hS X;have aj:(zq t).size=t.length:=zJ t;have ak:(zq o.wrote).size=o.wrote.length:=zJ o.wrote;clear N ks a1 a2 a3 a4 a5 a6 a7 b1 b2 b3 b4 c0 c1 c2 c3 c4 H E HO;obtain⟨wl,ad⟩:=nm o.wrote.length;obtain⟨sl,ae⟩:=nm t.length;rw[ad]at aa ak d;rw[ae]at O aj d;obtain⟨fn,Y⟩:=nm o.fin;obtain⟨cu,Z⟩:=nm o.cut;rw[Y]at e1;rw[Z]at e2;have u:=zb Y;have G:=zb Z;clear Y Z ad ae;by_cases J:2048<wl+sl
 ·have db:decide ((2048:Int)-(wl:Int)<(sl:Int))=true:=decide_eq_true (by omega);go_quiet (fail);cases fn
  ·cases cu
   ·have f:=d.out;rw[if_neg (by rw[u.out,G.out];simp),if_pos J]at f;subst f;go_wp2_with fail;go_ret;exact⟨by first|rfl|simp only[q3],z.out _ ((Mod.refl _ _).drewN _)⟩
   ·have f:=d.out;rw[if_pos (by rw[u.out,G.out];rfl)]at f;subst f;go_wp2_with fail;go_ret;exact⟨by first|rfl|simp only[q4],z.out _ ((Mod.refl _ _).drewN _)⟩
  ·have f:=d.out;rw[if_pos (by rw[u.out];rfl)]at f;subst f;go_wp2_with fail;go_ret;exact⟨by first|rfl|simp only[q4],z.out _ ((Mod.refl _ _).drewN _)⟩
 ·have db:decide ((2048:Int)-(wl:Int)<(sl:Int))=false:=decide_eq_false (by omega);go_quiet (fail);cases fn
  ·cases cu
   ·have f:=d.out;rw[if_neg (by rw[u.out,G.out];simp),if_neg J]at f;subst f;go_upto_region 13 with fail;obtain⟨W3,B⟩:=nm (W2.drewN nq);have w0:W3.cell? ⟨eb,0,none⟩=some (.string (zq o.wrote)):=by rw[←B];exact e0
    have w4:W3.cell? ⟨sb,4,none⟩=some (.string (zq t)):=by rw[←B];exact d4
    have wz:W3.frozen? ⟨eb,0,none⟩=false:=by rw[←B];exact ez 0
    have happ:=zhW o.wrote t;have hno:¬9223372036854775807<wl+sl:=by omega
    rw[B];refine zl 10 (fun w'=>w'.cell? ⟨eb,0,none⟩=some (.string (zq o.wrote))∧w'.cell? ⟨sb,4,none⟩=some (.string (zq t))) (⟨w0,w4⟩) ?_;refine GI 0 ?_;iterate 10
     refine GS rfl ?_ ?_ ?_;rotate_left
     ·(intro wx af;(try dsimp only at af);obtain⟨f0,f4⟩:=af;go_simp)<;>(try with_reducible rfl)
     try simp only[PS]
    refine zQ rfl (fun K hK=>?_);go_simp;refine hK.out _ _ ?_;clear hK K;try simp only[PS]
    refine zo ?_;go_wp2_with fail;go_ret;refine⟨by first|rfl|simp only[q0],I.out _ (W2.setCell ⟨eb,0,none⟩ (.string (zq (o.wrote++t)))) _ ((Mod.refl (fun g=>g=eb) W2).setCell (p:=⟨eb,0,none⟩) (.inl rfl) _) ?_ ?_⟩
    ·rw[zc ai.out];rfl
    ·rw[←B];exact⟨rfl,rfl,rfl,Nat.le_refl _,fun _ _ _=>rfl⟩
   ·have f:=d.out;rw[if_pos (by rw[u.out,G.out];rfl)]at f;subst f;go_wp2_with fail;go_ret;exact⟨by first|rfl|simp only[q4],z.out _ ((Mod.refl _ _).drewN _)⟩
  ·have f:=d.out;rw[if_pos (by rw[u.out];rfl)]at f;subst f;go_wp2_with fail;go_ret;exact⟨by first|rfl|simp only[q4],z.out _ ((Mod.refl _ _).drewN _)⟩
theorem zhX{w:World}{tag:Nat→Nat×Nat}{nb:Nat}{n:NS}{M:NV}{W:World}(h:Net w tag nb n M W){T:Nat}(hI:n.Inv T)(hT:T≤zbm){s:zcw}(hs:s.Ok)(hk:s.kind=2) :
  Calls Tryz.prog 21 #[.pointer (some ⟨nb,0,none⟩),.agg s.cells] W (zct w tag nb W (n.finish (pickN s.side 2) (pickN s.a 8))):=by
 obtain⟨W1,d⟩:=nm (W.alloc (.cells s.cells 37));have h1:Net w tag nb n M W1:=by rw[←d];exact h.alloc _
 have m1:Mod NoB W W1:=by rw[←d];exact(Mod.refl _ _).alloc _
 obtain⟨sb,Y⟩:=nm W.heap.size;have sA:zcJ W1 sb s:=zcJ.of (by rw[←d,←Y];exact heap_alloc_new W _);have u:tag sb=(0,0):=h.env.ok sb (by omega);have hi:pickN s.side 2<2:=zkT _;have b:pickN s.a 8<8:=zao _ _ (by omega);have A:Calls Tryz.prog 24 #[.int .i64 s.side,.int .i64 2] W1 (fun e w'=>e = .returned (.int .i64 (pickN s.side 2:Int))∧W1=w'):=zaW s.side 2 W1 hs.side.1 hs.side.2 (by omega) (by omega);have B:Calls Tryz.prog 24 #[.int .i64 s.a,.int .i64 8] W1 (fun e w'=>e = .returned (.int .i64 (pickN s.a 8:Int))∧W1=w'):=zaW s.a 8 W1 hs.a.1 hs.a.2 (by omega) (by omega);have Z:=hs.s;obtain⟨i,K⟩:=nm (pickN s.side 2);obtain⟨k,C⟩:=nm (pickN s.a 8);rw[K]at hi A ⊢;rw[C]at b B;obtain⟨gx,cx,b1,⟨b2,b3⟩,b4⟩:=h1.o.connIs (i:=i) hi;rw[C];obtain⟨g,cap,q,ab,a1,⟨a2,a3⟩,a4,⟨a5,a6⟩,a7⟩:=h1.o.endAt (i:=i) (k:=k) hi b;obtain⟨c0,c1,c2,c3,c4⟩:=sA;rw[hk]at c0;obtain⟨ss,f⟩:=nm s.s;rw[f]at c4 Z;have r:=zb d;have U:=ziw (h1.cn i hi) (h1.env.to (j:=i+1) (by omega)) (k:Int);unfold NS.finish;obtain⟨R,hR⟩:=nm ((n.c i).finish k);rw[hR]at U ⊢;obtain⟨v,c'⟩:=R;simp only at U ⊢;obtain⟨o,L⟩:=nm (n.e i k);rw[L];have HO:=zb L;obtain⟨RR,D⟩:∃RR:Bool×NS,(if (o.fin||o.cut)=true then(v==4,n.setC i c')else(v==0,(n.setC i c').setE i k { o with fin:=true }))=RR:=⟨_,rfl⟩;rw[D];have E:=zb D;clear D;have HN:=zb h1;have N:=zb m1;have q4:((v:Int)==4)=(v==4):=zbD v 4;have q0:((v:Int)==0)=(v==0):=zbD v 0;unfold zcw.cells at r ⊢;rw[hk,f]at r ⊢;clear f h hI h1 m1 d hs hk K C hR L hT;go_enter Tryz.func21,Tryz.ntmps21;go_upto_region 1 with fail;rw[r.out];go_upto_region 18 with(first|(go_at_call 24;refine A.mono ?_;rintro _ _ ⟨rfl,rfl⟩;clear A)|(go_at_call 24;refine B.mono ?_;rintro _ _ ⟨rfl,rfl⟩)|(go_at_call 38;refine U.mono ?_;rintro _ W2 ⟨rfl,hL⟩));obtain⟨tag',V',h2,old,m2⟩:=HN.out.conn hi hL;have e0:=h2.o.enAt hi b;have d4:W2.cell? ⟨sb,4,none⟩=some (.string (zq ss)):=m2.cell (a:=⟨sb,4,none⟩) (fun x=>by
  have x:(tag sb).1=i+1:=x;rw[u]at x;simp at x) c4
 have t:(n.setC i c').e i k=o:=HO.out;rw[t]at e0;obtain⟨e0,e1,e2,e3,e4,e5,ez⟩:=e0;obtain⟨S,V⟩:=nm (n.setC i c');rw[V]at h2 t;have F:∀{n':NS} {W':World},zy w tag' nb W2 n' W'→zy w tag nb W n' W':=fun hh=>zy.from0 N.out (zy.trans old (m2.mono (fun g hg=>.inl (fun x=>by rw[x]at hg;simp at hg))) hh)
 have O:Hid (∀W',Mod NoB W2 W'→zy w tag nb W (n.setC i c') W'):=zb fun W' m=>by rw[V];exact F (zy.then0 h2.left m)
 have P:tag' (M.eb i k)≠(0,0):=fun x=>by
  have a:=(h2.o.en i hi k b).tag;have a:tag' (M.eb i k)=_:=a;rw[x]at a;simp at a
 have l:=(h2.o.en i hi k b).obj;rw[t]at l;have y:Hid (∀(X:EN) W3 W',Mod (fun g=>g=M.eb i k) W2 W3→W3.heap[M.eb i k]?=some (.cells (za9 X) 89 (0,0))→Mod NoB W3 W'→zy w tag nb W ((n.setC i c').setE i k X) W'):=zb fun X W3 W' m3 L m'=>by
  rw[V];have N3:=h2.endS hi b X m3 L;exact F (zy.then0 ⟨tag',_,N3,fun _ _=>rfl,m3.mono (fun g hg=>.inl (by rw[show g=M.eb i k from hg];exact P))⟩ m')
 obtain⟨eb,G⟩:=nm (M.eb i k);dsimp only at e0 e1 e2 e3 e4 e5 ez l;rw[G]at e0 e1 e2 e3 e4 e5 ez l y;try rw[G]
 have aa:=zb l;clear old m2 h2 F P l HN N hL t V G;clear B U a1 a2 a3 a4 a5 a6 a7 b1 b2 b3 b4 c0 c1 c2 c3 c4 u r HO;obtain⟨fn,H⟩:=nm o.fin;obtain⟨cu,I⟩:=nm o.cut;rw[H]at e1;rw[I]at e2;have J:=zb H;have Q:=zb I;clear H I;have ez1:=ez 1;cases fn
 ·cases cu
  ·have z:=E.out;rw[if_neg (by rw[J.out,Q.out];simp)]at z;subst z;go_wp2_with fail;go_ret;refine⟨by first|rfl|simp only[q0],y.out _ (W2.setCell ⟨eb,1,none⟩ (.bool true)) _ ((Mod.refl (fun g=>g=eb) W2).setCell (p:=⟨eb,1,none⟩) (.inl rfl) _) ?_ (Mod.refl _ _)⟩;rw[zc aa.out];rfl
  ·have z:=E.out;rw[if_pos (by rw[J.out,Q.out];rfl)]at z;subst z;go_wp2_with fail;go_ret;exact⟨by first|rfl|simp only[q4],O.out _ (Mod.refl _ _)⟩
 ·have z:=E.out;rw[if_pos (by rw[J.out];rfl)]at z;subst z;go_wp2_with fail;go_ret;exact⟨by first|rfl|simp only[q4],O.out _ (Mod.refl _ _)⟩
theorem Net.nowS{w:World}{tag:Nat→Nat×Nat}{nb:Nat}{n:NS}{M:NV}{W:World}(h:Net w tag nb n M W)(x:Nat):Net w tag nb { n with now:=x } M (W.setCell ⟨nb,4,none⟩ (.int .u64 (x:Int))):=by
 have m:Mod (fun g=>g=nb) W (W.setCell ⟨nb,4,none⟩ (.int .u64 (x:Int))):=(Mod.refl (fun g=>g=nb) W).setCell (p:=⟨nb,4,none⟩) (.inl rfl) _;exact h.own (h.o.head (n':={ n with now:=x }) ⟨rfl,rfl,rfl,rfl⟩ rfl rfl ⟨rfl,rfl⟩ m (by rw[zc h.o.obj.obj];rfl)) rfl rfl rfl m (fun g hg=>.inl (by rw[show g=nb from hg,h.o.obj.tag])) (Ext.same h.env.ok m)
theorem znd{T:Nat}{c:CS}(hI:c.Inv T)(hT:T≤zbm){tag:Nat→Nat×Nat}{i b:Nat}{V:CV}{W:World}(h:zg tag i b c V W)(E:Env i tag W):Calls Tryz.prog 26 #[.pointer (some ⟨b,0,none⟩)] W (zbd tag i b W (.tuple #[]) c.tick) :=
 zoR h E.ok E.pos (by have:=hI.now;unfold zbm at hT;unfold zA;omega) (by have:=hI.waits.2;omega) (by have:=hI.fl;omega) hI.ticked.loseOk
theorem zkZ{w:World}{tag:Nat→Nat×Nat}{nb:Nat}{n:NS}{M:NV}{W:World}(h:Net w tag nb n M W){T:Nat}(hI:n.Inv T)(U:T≤zbm){s:zcw}(hs:s.Ok)(hk:s.kind=5)(X:∀tag' M' W',Net w tag' nb n.tick M' W'→Calls Tryz.prog 41 #[.pointer (some ⟨nb,0,none⟩),.agg s.cells] W' (zct w tag' nb W' (n.tick.carry s))) :
  Calls Tryz.prog 21 #[.pointer (some ⟨nb,0,none⟩),.agg s.cells] W (zct w tag nb W (n.tick.carry s)):=by
 obtain⟨W1,f⟩:=nm (W.alloc (.cells s.cells 37));have h1:Net w tag nb n M W1:=by rw[←f];exact h.alloc _
 have m1:Mod NoB W W1:=by rw[←f];exact(Mod.refl _ _).alloc _
 obtain⟨sb,Y⟩:=nm W.heap.size;have sA:zcJ W1 sb s:=zcJ.of (by rw[←f,←Y];exact heap_alloc_new W _);have z:tag sb=(0,0):=h.env.ok sb (by omega);have hi:pickN s.side 2<2:=zkT _;have Z:pickN s.a 8<8:=zao _ _ (by omega);have B:Calls Tryz.prog 24 #[.int .i64 s.side,.int .i64 2] W1 (fun e w'=>e = .returned (.int .i64 (pickN s.side 2:Int))∧W1=w'):=zaW s.side 2 W1 hs.side.1 hs.side.2 (by omega) (by omega);have C:Calls Tryz.prog 24 #[.int .i64 s.a,.int .i64 8] W1 (fun e w'=>e = .returned (.int .i64 (pickN s.a 8:Int))∧W1=w'):=zaW s.a 8 W1 hs.a.1 hs.a.2 (by omega) (by omega);have aa:=hs.s;obtain⟨i,G⟩:=nm (pickN s.side 2);obtain⟨k,H⟩:=nm (pickN s.a 8);rw[G]at hi B;rw[H]at Z C;obtain⟨gx,cx,I,⟨J,K⟩,L⟩:=h1.o.connIs (i:=i) hi;obtain⟨c0,c1,c2,c3,c4⟩:=sA;rw[hk]at c0;obtain⟨ss,l⟩:=nm s.s;rw[l]at c4 aa;have u:=zb f;have N:=hI.c 0 (by omega);have O:=hI.c 1 (by omega);have ab:=hI.now;obtain⟨nw,d⟩:=nm n.now;have p4:W1.cell? ⟨nb,4,none⟩=some (.int .u64 (nw:Int)):=by rw[←d];exact h1.o.obj.cell (j:=4) rfl
 have f4:=h1.o.obj.fz 4;rw[d]at ab;have hTb:T≤268435455:=U;have HN:=zb h1;have ac:=zb m1;have HT:=zb U;obtain⟨RR,P⟩:=nm (n.tick.carry s);rw[P]at X ⊢;have D:=zb z;have v:=zb X;have ad:=zb d;have ae:=zb N;have af:=zb O;unfold zcw.cells at u v ⊢;rw[hk,l]at u v ⊢;clear l h hI h1 m1 f hs hk G H U P z X d N O;go_enter Tryz.func21,Tryz.ntmps21;go_upto_region 1 with fail;rw[u.out];go_upto_region 34 with(first|(go_at_call 24;refine B.mono ?_;rintro _ _ ⟨rfl,rfl⟩;clear B)|(go_at_call 24;refine C.mono ?_;rintro _ _ ⟨rfl,rfl⟩));obtain⟨W2,y⟩:=nm (W1.setCell ⟨nb,4,none⟩ (.int .u64 ((nw:Int)+1)));have Q:Net w tag nb { n with now:=nw+1 } M W2:=by
  rw[←y];exact HN.out.nowS (nw+1)
 have m2:Mod (fun g=>g=nb) W1 W2:=by
  rw[←y];exact(Mod.refl (fun g=>g=nb) W1).setCell (p:=⟨nb,4,none⟩) (.inl rfl) _
 have m:tag nb=(3,0):=HN.out.o.obj.tag;have E:zcJ W2 sb ⟨5,s.side,s.a,s.b,ss⟩:=zcJ.mod ⟨c0,c1,c2,c3,c4⟩ m2 (fun x=>by
  have x:sb=nb:=x;rw[←x,D.out]at m;simp at m)
 try rw[y]
 clear y I J K L;obtain⟨gx,cx,I,⟨J,K⟩,L⟩:=Q.o.connIs (i:=0) (by omega);have R:=znd ae.out HT.out (Q.cn 0 (by omega)) (Q.env.to (j:=0+1) (by omega));go_upto_region 35 with(go_at_call 26;refine R.mono ?_;rintro _ W3 ⟨rfl,F⟩);obtain⟨q,V3,S,r,m3⟩:=Q.conn (by omega) F;clear I J K L R F;obtain⟨gx3,cx3,I,⟨J,K⟩,L⟩:=S.o.connIs (i:=1) (by omega);have al:({ n with now:=nw+1 }:NS).c 1=n.c 1:=rfl;have R:Calls Tryz.prog 26 #[.pointer (some ⟨M.b 1,0,none⟩)] W3 (zbd q (1+1) (M.b 1) W3 (.tuple #[]) (n.c 1).tick):=znd af.out HT.out (S.cn 1 (by omega)) (S.env.to (j:=1+1) (by omega));go_upto_region 41 with(go_at_call 26;refine R.mono ?_;rintro _ W4 ⟨rfl,F⟩);obtain⟨t,V4,N4,A,m4⟩:=S.conn (by omega) F;have e:(({ n with now:=nw+1 }:NS).setC 0 (n.c 0).tick).setC 1 (n.c 1).tick=n.tick:=by
  unfold NS.tick;rw[ad.out];rfl
 have N5:Net w t nb ((({ n with now:=nw+1 }:NS).setC 0 (n.c 0).tick).setC 1 (n.c 1).tick) { ({ M with V:=V3 }:NV)with V:=V4 } W4:=N4;rw[e]at N5;have ah:sb<W2.heap.size:=zk E.c0;have ai:q sb=(0,0):=by rw[r sb ah,D.out]
 have aj:=(E.mod m3 (fun x=>by
  have x:(tag sb).1=0+1:=x;rw[D.out]at x;simp at x)).mod m4 (fun x=>by
  have x:(q sb).1=1+1:=x;rw[ai]at x;simp at x)
 have ak:Hid (∀{n':NS} {W':World},zy w t nb W4 n' W'→zy w tag nb W n' W'):=zb fun hh=>by
  refine zy.from0 ac.out (zy.trans (fun _ _=>rfl) (m2.mono (fun g hg=>.inl (by rw[show g=nb from hg,m];simp))) ?_);refine zy.trans r (m3.mono (fun g hg=>.inl (fun x=>by rw[x]at hg;simp at hg))) ?_;exact zy.trans A (m4.mono (fun g hg=>.inl (fun x=>by rw[x]at hg;simp at hg))) hh
 have kc:=v.out t _ W4 N5;obtain⟨y0,y1,y2,y3,y4⟩:=aj;clear Q S N4 N5 e m2 m3 m4 r A I J K L R F E v HN c0 c1 c2 c3 c4 p4 f4 C u;go_wp2_with (go_at_call 41;refine kc.mono ?_;rintro _ W5 ⟨rfl,F⟩);go_ret;exact⟨rfl,ak.out F⟩
end Go.Proofs.YtddfdpbaiedcjaaGreatDoor
