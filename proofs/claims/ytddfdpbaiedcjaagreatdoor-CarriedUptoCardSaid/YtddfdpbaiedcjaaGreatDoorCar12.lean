/- A part of Carried's proof. Conditions: none. Part 12 of 13. -/
import Derived.Test.YtddfdpbaiedcjaaGreatDoorCar11
set_option maxRecDepth 100000
set_option maxHeartbeats 16000000
set_option linter.all false
namespace Go.Proofs.YtddfdpbaiedcjaaGreatDoor
open Go.RowKit Go.Proofs.Tryz
variable{M:NV}{T i nb:Nat}{W w:World}{tag:Nat->Nat×Nat}
theorem zfm{n:NS}(h:Net w tag nb n M W)(hI:n.Inv T)(hT:T<=zaV)(hi:i<2):Calls prog 34 #[.pointer (some ⟨nb,0,none⟩),.int .i64 i] W (zb7 w tag nb W (n.came i)):=by
 obtain⟨J,hJ⟩:=nm (1-i);have B:J<2:=by omega
 have x1:IntKind.i64.wrap (1-(i:Int))=(J:Int):=by rw[IntKind.wrap_i64];omega
 have x2:(1:Int)-(i:Int)=(J:Int):=by omega
 obtain⟨gx,cx,b1,⟨b2,b3⟩,b4⟩:=h.o.connIs (i:=i) hi;have kc:=zlr (h.cn i hi);have am:(n.g J).length<=268435455:=by
  have:=hI.gl J B;unfold zaV at hT;omega
 have an:(n.c i).datagramsOut.1.length<=268435455:=by
  have:=(hI.c i hi).cl;unfold zaV at hT;show(n.c i).came.length<=_;omega
 unfold NS.came;rw[hJ];obtain⟨l,hl⟩:=nm ((n.c i).datagramsOut.1);obtain⟨c',C⟩:=nm ((n.c i).datagramsOut.2);obtain⟨nw,D⟩:=nm n.now;obtain⟨R,hR⟩:=nm (zcD nw l (n.g J));obtain⟨K,E⟩:=nm ((n.g J).length);obtain⟨L,N⟩:=nm l.length;rw[hl,C]at kc;rw[hl,N]at an;rw[hl,C,D,hR];rw[E]at am;have HN:=zb h;have HR:=zb hR;have ao:=zb E;have O:=zb D;have hE:=h.env.ok;have P:=(h.cn i hi).tb;clear hI hR E D hl C hT;go_enter func34,ntmps34;go_upto_region 2 with(go_at_call 67;refine kc.mono ?_;intro e W1 Q;obtain⟨v,rfl,f,U,X⟩:=Q.left hE P;obtain⟨tag',V',h1,old,m1⟩:=HN.out.conn hi X);obtain⟨S,Y⟩:=nm (n.setC i c');have Z:S.g=n.g:=by rw[<-Y];rfl
 have aa:S.now=n.now:=by rw[<-Y];rfl
 obtain⟨t,ab⟩:∃t:NV,({ M with V:=V' }:NV)=t:=⟨_,rfl⟩;have h1:Net w tag' nb S t W1:=by rw[<-Y,<-ab];exact h1
 have ac:Hid (∀(G:List SN) wr W',Net w tag' nb { S with g:=upd S.g J G } t wr->Mod (zrs tag') W1 wr->Mod NoB wr W'->zx w tag nb W { n.setC i c' with g:=upd n.g J G } W'):=by
  refine zb λG wr W' hN m m'=>?_
  have e:({ S with g:=upd S.g J G }:NS)={ n.setC i c' with g:=upd n.g J G }:=by rw[<-Y];rfl
  rw[<-e];exact zx.trans old (m1.mono (λg hg=>.inl (λx=>by rw[x]at hg;simp at hg))) ⟨tag',t,hN.free m' (λ_ x=>x.elim),λ_ _=>rfl,(m.mono (λg hg=>.inl (by obtain⟨r,_,e⟩:=hg;rw[e];simp))).trans (m'.mono (λ_ x=>x.elim))⟩
 have ad:∀g,v.ownBlock=some g->tag' g=(i+1,8):=λg hg=>by
  have h2:=U g hg;have h3:=zaD hE h2 (by omega);rw[old g h3,h2]
 have z:Hid (∀wr,Mod (zrs tag') W1 wr->wr.ownsRow 0 154 2 v l.length (zac l)):=zb λwr m=>m.owns f (λg hg x=>by
  obtain⟨r,_,e⟩:=x;rw[ad g hg]at e;simp at e;omega)
 obtain⟨va,vc,rfl,ap,aq,ae⟩:=zi f;rw[N]at ap ae z;unfold maxLen at aq;have ST:Hid (Net w tag' nb { S with g:=upd S.g J (n.g J) } t W1):=by
  refine zb ?_;rw[<-Z,znG];exact h1
 have af:Hid (S.now=nw):=aa.trans O.out;have F:=zb N;rw[N];clear h hE P U f h1 old m1 Z aa ad b1 b2 b3 b4 kc Q X Y ab HN N O;go_wp2_with fail
 go_loopw [6] (λkv wr=>∃(k:Nat) (G:List SN),k<=L/\kv = .int .i64 k/\Hid (Net w tag' nb { S with g:=upd S.g J G } t wr/\Mod (zrs tag') W1 wr/\zcD nw (l.drop k) G=R/\G.length=K)) (λkv _=>L-(intOf kv).toNat)
 case atStart=>exact⟨0,n.g J,Nat.zero_le _,rfl,zb ⟨ST.out,Mod.refl _ _,HR.out,ao.out⟩⟩
 case round =>
  obtain⟨k,G,hk,rfl,H⟩:=hrel;by_cases ah:k<L
  ·obtain⟨m,hm⟩:∃m,l[k]?=some m:=⟨l[k]'(by rw[F.out];exact ah),List.getElem?_eq_getElem _⟩;obtain⟨gv,rfl⟩:=ae (by omega);have HM:=zb hm;obtain⟨RB,RL,ai⟩:∃RB RL,zba nw m.1 m.2 G false=(RB,RL):=⟨_,_,rfl⟩;have u:=zb ai;clear ai hm;go_wp2_with fail
   go_loopw [7,8] (λfv jv wr=>∃(j:Nat) (r:Bool),j<=K/\fv = .bool r/\jv = .int .i64 j/\Hid (zdr w tag' nb S t W1 J G nw m RB RL j r wr)) (λ_ jv _=>K-(intOf jv).toNat)
   case atStart =>
    obtain⟨a1,a2,a3,a4⟩:=H.out;exact⟨0,false,Nat.zero_le _,rfl,rfl,zb (zdr.start a1 a2 u.out)⟩
   case round =>
    obtain⟨j,r,hj,rfl,rfl,HJ⟩:=hrel;have y:=H.out.2.2.2;obtain⟨c4,gg,cg,ga,ca,d1,⟨d2,d3⟩,d4,⟨d5,d6⟩,I,d7⟩:=HJ.out.look B af.out (by omega);rw[y]at d4 d5;obtain⟨r1,r2⟩:=zrr (z.out wr I) F.out HM.out;by_cases ar:j<K
    ·obtain⟨g,hg⟩:∃g,G[j]?=some g:=⟨G[j]'(by omega),List.getElem?_eq_getElem _⟩;obtain⟨q,b,rfl,hb,d8,⟨e0,e1,e2,e3,e4⟩⟩:=d7 g hg;have HG:=zb hg;have HB:=zb hb;have t1:(zq g.data).toList=g.data:=by rw[ByteArray.toList_eq,zaL]
     have t2:(zq m.2).toList=m.2:=by rw[ByteArray.toList_eq,zaL]
     clear d7 I hg hb y;by_cases d:g.id=m.1;rotate_left
     ·have q1:((g.id:Int)==(m.1:Int))=false:=by rw[zbE];exact beq_eq_false_iff_ne.2 d
      have A:=zb d;clear d;go_wp2_with fail;go_quiet (fail);go_wp2_with fail;go_roundw
      case rel=>exact⟨j+1,r,by omega,rfl,by go_num,zb (HJ.out.miss HG.out A.out ((Mod.refl _ _).drewN _))⟩
      case measure=>simp[intOf];omega
     ·have q1:((g.id:Int)==(m.1:Int))=true:=by rw[zbE];exact beq_iff_eq.2 d
      have A:Hid (∀rv,rv=(g.data==m.2 && !g.came&&decide (nw<=g.dl))->∀W',Mod NoB (wr.setCell ⟨b,3,none⟩ (.bool true)) W'->zdr w tag' nb S t W1 J G nw m RB RL (j+1) rv W'):=zb λrv hr W' m'=>by
       rw[hr];exact HJ.out.hit B HG.out HB.out d m'
      clear d;go_wp2_with fail;go_quiet (fail);go_upto_region 11 with fail;by_cases p:g.data=m.2
      ·have q2:(g.data==m.2)=true:=by rw[p];exact beq_self_eq_true _
       obtain⟨cm,au⟩:=nm g.came;rw[au]at e3 A;rw[q2]at A;cases cm
       ·go_quiet (fail);go_wp2_with fail;go_roundw
        case rel=>exact⟨j+1,_,by omega,rfl,by go_num,zb (A.out _ (by simp) _ (zfk _ _ _ _))⟩
        case measure=>simp[intOf];omega
       ·go_quiet (fail);go_wp2_with fail;go_roundw
        case rel=>exact⟨j+1,_,by omega,rfl,by go_num,zb (A.out _ (by simp) _ (zfk _ _ _ _))⟩
        case measure=>simp[intOf];omega
      ·have q2:(g.data==m.2)=false:=beq_eq_false_iff_ne.2 p;rw[q2]at A;clear p;go_quiet (fail);go_wp2_with fail;go_roundw
       case rel=>exact⟨j+1,_,by omega,rfl,by go_num,zb (A.out _ (by simp) _ (zfk _ _ _ _))⟩
       case measure=>simp[intOf];omega
    ·have av:j=K:=by omega
     subst av;obtain⟨f1,f2,f3⟩:=HJ.out.done y.symm;subst f1;have HC:=zb (znF (now:=nw) HM.out G);have aj:=zb f2;have ak:=zb f3;clear d7 I f2 f3 ar;cases r
     ·have s:Hid (R=(false,RL)):=by
       show _=_;have a:=HC.out;rw[u.out,H.out.2.2.1]at a;exact a
      have hr:=s.out;subst hr;go_wp2_with fail;go_ret;exact⟨rfl,ac.out RL wr _ aj.out ak.out (Mod.refl _ _)⟩
     ·have s:Hid (zcD nw (l.drop (k+1)) RL=R):=by
       show _=_;have a:=HC.out;rw[u.out,H.out.2.2.1]at a;exact a.symm
      have al:Hid (RL.length=j):=by
       show _=_;have a:=(zcx nw m.1 m.2 G false).1;rw[u.out]at a;exact a.trans y
      go_wp2_with fail;go_roundw
      case rel=>exact⟨k+1,RL,by omega,by go_num,zb ⟨aj.out,ak.out,s.out,al.out⟩⟩
      case measure=>simp[intOf];omega
  ·have aw:k=L:=by omega
   subst aw;have s:Hid (R=(true,G)):=by
    show _=_;have a:=H.out.2.2.1;have e:l.drop k=[]:=by rw[<-F.out];exact List.drop_length
    rw[e]at a;exact a.symm
   have hr:=s.out;subst hr;clear ah;go_wp2_with fail;go_ret;exact⟨rfl,ac.out G wr _ H.out.1 H.out.2.1 (Mod.refl _ _)⟩
variable{k:Nat}
theorem znR{n:NS}(h:Net w tag nb n M W)(hk:k<n.bag.length)(z:n.bag.length<=1099511627776):Calls prog 73 #[.pointer (some ⟨nb,0,none⟩),.int .i64 k] W (λe W'=>e = .returned (.tuple #[])/\zx w tag nb W (n.drop k) W'):=by
 obtain⟨g,cap,A,B,C⟩:=zh5 h.o.bg.own (by omega);have t:=h.o.bg.own;have i:=h.o.bg.tag;rw[A]at t i;have v:W.cell? ⟨nb,8,none⟩=some M.bg:=h.o.obj.cell (j:=8) rfl;rw[A]at v;have fz:=h.o.obj.fz 8;unfold maxLen at C;obtain⟨N,D⟩:=nm n.bag.length;obtain⟨E,W1,l,o1,g1,J⟩:=zjv W (.slice none 0 0) [] ((n.bag.drop 0).take k) ⟨g,0*2,none⟩ cap (World.ownsRow_nil W 0 _ 2) (znD t 0 k) (by simp;omega);rw[List.nil_append,List.drop_zero]at o1;rw[List.drop_zero,List.length_take,Nat.min_eq_left (by omega),Nat.zero_mul]at l;have m1:Mod NoB W W1:=(Mod.refl NoB W).grown g1 (λq b=>by cases b);have d:∀q,E.ownBlock=some q->W.heap.size<=q:=λq b=>(J q b).elim (λx=>by cases x) id
 have m:=m1.owns t (λ_ _ x=>x);obtain⟨G,c⟩:∃G:Addr,(if cap=k+1 then(⟨g,0,none⟩:Addr)else⟨g,(k+1)*2,none⟩)=G:=⟨_,rfl⟩;obtain⟨K,W2,f,p,g2,O⟩:=zjv W1 E (n.bag.take k) ((n.bag.drop (k+1)).take N) G (cap-(k+1)) o1 (by
  rw[<-c];by_cases e:cap=k+1
  ·intro j u P;have:(n.bag.drop (k+1)).take N=[]:=List.eq_nil_of_length_eq_zero (by simp;omega);rw[this]at P;cases P
  ·rw[if_neg e];exact znD m (k+1) N) (by simp;omega)
 have Q:(n.bag.drop (k+1)).take N=n.bag.drop (k+1):=List.take_of_length_le (by simp;omega);rw[Q]at p f;have R:(n.bag.drop (k+1)).length=N-(k+1):=by rw[List.length_drop,D]
 rw[R]at f;have S:Mod (λq=>E.ownBlock=some q) W1 W2:=(Mod.refl _ W1).grown g2 (λq b=>.inl b);have y:Mod NoB W W2:=m1.then S (λq b=>.inr (d q b));have r:∀q,K.ownBlock=some q->q<W2.heap.size:=λq b=>by
  rcases p.2 with⟨e,_⟩|⟨q',c',cur,e,_,x,_⟩
  ·rw[e]at b;cases b
  ·rw[e]at b;cases b;exact(Array.getElem?_eq_some_iff.1 x).1
 have F:Hid (zx w tag nb W (n.drop k) (W2.setCell ⟨nb,8,none⟩ K)):=zb (h.bagS y (λq x=>x.elim) p (λq b=>.inr ⟨by
  rcases O q b with x|x
  ·exact d q x
  ·have:=m1.size;omega,r q b⟩))
 obtain⟨a2,c2,s,-⟩:=zi p;have H:=m1.cell (a:=⟨nb,8,none⟩) id v;have I:=y.cell (a:=⟨nb,8,none⟩) id v;have fz2:W2.frozen? ⟨nb,8,none⟩=false:=zf (y.obj (λx=>x) h.o.obj.obj);rw[D]at hk z v H I B;clear h t i A o1 p g1 g2 J O m1 S y d r m Q R D;obtain⟨L,T⟩:=nm ((n.bag.take k++n.bag.drop (k+1)).length);rw[T]at s;clear T;subst s;go_enter func73,ntmps73;by_cases hc:cap=k+1
 ·rw[if_pos hc]at c;subst c;go_wp2_with (at_builtin;first|(refine zl rfl _ _ _ _ rfl _ _ _ rfl rfl l ?_;clear l)|(refine zl rfl _ _ _ _ rfl _ _ _ rfl rfl f ?_;clear f))
  go_end0
  exact⟨rfl,F.out⟩
 ·rw[if_neg hc]at c;subst c;go_wp2_with (at_builtin;first|(refine zl rfl _ _ _ _ rfl _ _ _ rfl rfl l ?_;clear l)|(refine zl rfl _ _ _ _ rfl _ _ _ rfl rfl f ?_;clear f))
  go_end0
  exact⟨rfl,F.out⟩
structure zb8(x y:WS):Prop where
 b:y.b=x.b
 high:y.high=x.high
 fin:y.finished=x.finished
 cut:y.cut=x.cut
 keep:y.keep=x.keep
 final:y.final=x.final
 credit:y.credit=x.credit
theorem zb8.refl(x:WS):zb8 x x:=⟨rfl,rfl,rfl,rfl,rfl,rfl,rfl⟩
variable{x y:WS}
theorem zb8.trans{z:WS}(h:zb8 x y)(k:zb8 y z):zb8 x z:=⟨k.b.trans h.b,k.high.trans h.high,k.fin.trans h.fin,k.cut.trans h.cut,k.keep.trans h.keep,k.final.trans h.final,k.credit.trans h.credit⟩
structure WLe(x y:WS):Prop where
 b:x.b <+: y.b
 fz:x.finished=true\/x.cut=true->y.b=x.b
 high:x.high<=y.high
 hl:y.high<=y.b.length
 fin:x.finished=true->y.finished=true
 cut:x.cut=true->y.cut=true/\y.final=x.final/\y.keep<=x.keep
 fc:x.finished=true->x.high=x.b.length->x.cut=false->y.cut=true->y.final=x.b.length
def zcA(x:WS):Prop:=x.finished=true/\x.high=x.b.length/\(x.cut=true->x.final=x.b.length)
def zfM(x:WS)(n:Nat):Prop:=(zcA x/\n=x.b.length)\/(x.cut=true/\n=x.final)
theorem WLe.of_same(h:zb8 x y)(hl:x.high<=x.b.length):WLe x y where
 b:=by rw[h.b];exact List.prefix_refl _
 fz:=λ_=>h.b
 high:=by rw[h.high];exact Nat.le_refl _
 hl:=by rw[h.high,h.b];exact hl
 fin:=λe=>by rw[h.fin];exact e
 cut:=λe=>⟨by rw[h.cut];exact e,h.final,by rw[h.keep];exact Nat.le_refl _⟩
 fc:=λ_ _ e a=>by rw[h.cut,e]at a;cases a
theorem zcA.le(h:zcA x)(l:WLe x y):zcA y/\y.b=x.b:=by
 obtain⟨h1,h2,h3⟩:=h;have eb:=l.fz (.inl h1);have hy:=l.hl;have hh:=l.high;rw[eb]at hy;refine⟨⟨l.fin h1,by rw[eb];omega,λhc=>?_⟩,eb⟩;cases hx:x.cut with
 | true =>
  rw[(l.cut hx).2.1,eb];exact h3 hx
 | false =>
  rw[eb];exact l.fc h1 h2 hx hc
variable{n:Nat}
theorem zfM.le(h:zfM x n)(l:WLe x y):zfM y n:=by
 rcases h with⟨h1,h2⟩|⟨h1,h2⟩
 ·obtain⟨a,b⟩:=h1.le l;exact .inl ⟨a,by rw[b];exact h2⟩
 ·exact .inr ⟨(l.cut h1).1,by rw[(l.cut h1).2.1];exact h2⟩
variable{m:Nat}
theorem zfM.uniq(h:zfM x n)(k:zfM x m):n=m:=by
 rcases h with⟨h1,h2⟩|⟨h1,h2⟩<;>rcases k with⟨a,k2⟩|⟨a,k2⟩
 ·omega
 ·have:=h1.2.2 a;omega
 ·have:=a.2.2 h1;omega
 ·omega
theorem zfM.high(h:zfM x n)(hc:x.cut=true->x.high<=x.final):x.high<=n:=by
 rcases h with⟨h1,h2⟩|⟨h1,h2⟩
 ·have:=h1.2.1;omega
 ·have:=hc h1;omega
theorem WLe.trans{z:WS}(h:WLe x y)(k:WLe y z):WLe x z where
 b:=h.b.trans k.b
 fz:=λe=>by
  have d:=h.fz e;rw[<-d];refine k.fz ?_;rcases e with e|e
  ·exact .inl (h.fin e)
  ·exact .inr (h.cut e).1
 high:=Nat.le_trans h.high k.high
 hl:=k.hl
 fin:=λe=>k.fin (h.fin e)
 cut:=λe=>by
  obtain⟨a,b,c⟩:=h.cut e;obtain⟨a',b',c'⟩:=k.cut a;exact⟨a',b'.trans b,Nat.le_trans c' c⟩
 fc:=λd e2 e3 e4=>by
  have eb:=h.fz (.inl d);cases hy:y.cut with
  | true=>exact(k.cut hy).2.1.trans (h.fc d e2 e3 hy)
  | false =>
   have h1:=h.hl;have h2:=h.high;rw[eb]at h1;rw[<-eb];exact k.fc (h.fin d) (by rw[eb];omega) hy e4
structure zij(c:CS)(nx:Nat)(G:List SN)(f:Frm):Prop where
 k2:f.kind=2->∀r∈f.rngs,r.2<nx
 k3:f.kind=3->∃k:Nat,k<8/\f.stream=(k:Int)/\(c.ws k).cut=true/\f.off=(c.ws k).final/\(c.ws k).keep<=f.rel
 k4:f.kind=4->∃k:Nat,k<8/\f.stream=(k:Int)/\f.off+f.data.length<=(c.ws k).high/\f.data=((c.ws k).b.drop f.off).take f.data.length/\(f.fin=true->zcA (c.ws k)/\f.off+f.data.length=(c.ws k).b.length)
 k5:f.kind=5->f.lim<=c.grant
 k6:f.kind=6->∃k:Nat,k<8/\f.stream=(k:Int)/\f.lim<=(c.rs k).grant
 k7:f.kind=7->∃s∈G,s.id=f.id/\s.dl=f.dl/\s.data=f.data
 k8:f.kind≠8
structure SLe(c c':CS):Prop where
 ws:∀k,k<8->WLe (c.ws k) (c'.ws k)
 grant:c.grant<=c'.grant
 rg:∀k,k<8->(c.rs k).grant<=(c'.rs k).grant
variable{c:CS}
theorem SLe.trans{a b:CS}(h:SLe a b)(k:SLe b c):SLe a c:=⟨λj d=>(h.ws j d).trans (k.ws j d),Nat.le_trans h.grant k.grant,λj d=>Nat.le_trans (h.rg j d) (k.rg j d)⟩
theorem zrB{α : Type}{a b:List α}(h:a <+: b)(hn:i+n<=a.length):(b.drop i).take n=(a.drop i).take n:=by
 obtain⟨t,rfl⟩:=h;rw[List.drop_append_of_le_length (by omega),List.take_append_of_le_length (by rw[List.length_drop];omega)]
variable{G:List SN}{c':CS}{f:Frm}{nx:Nat}
theorem zij.mono{j:Nat}{p:List SN}(h:zij c nx G f)(l:SLe c c')(hh:∀k,k<8->(c.ws k).high<=(c.ws k).b.length)(hn:nx<=j)(hG:∀s∈G,∃s'∈p,s'.id=s.id/\s'.dl=s.dl/\s'.data=s.data):zij c' j p f where
 k2:=λe r hr=>Nat.lt_of_lt_of_le (h.k2 e r hr) hn
 k3:=λe=>by
  obtain⟨k,k8,i,g,m,n⟩:=h.k3 e;obtain⟨a,b,d⟩:=(l.ws k k8).cut g;exact⟨k,k8,i,a,by rw[b];exact m,Nat.le_trans d n⟩
 k4:=λe=>by
  obtain⟨k,k8,i,g,m,n⟩:=h.k4 e;have w:=l.ws k k8;refine⟨k,k8,i,Nat.le_trans g w.high,?_,λef=>?_⟩
  ·rw[zrB w.b (Nat.le_trans g (hh k k8))];exact m
  ·obtain⟨a,b⟩:=n ef;obtain⟨a',b'⟩:=a.le w;exact⟨a',by rw[b'];exact b⟩
 k5:=λe=>Nat.le_trans (h.k5 e) l.grant
 k6:=λe=>by
  obtain⟨k,k8,i,g⟩:=h.k6 e;exact⟨k,k8,i,Nat.le_trans g (l.rg k k8)⟩
 k7:=λe=>by
  obtain⟨s,hs,i,g,m⟩:=h.k7 e;obtain⟨s',o,f1,f2,f3⟩:=hG s hs;exact⟨s',o,f1.trans i,f2.trans g,f3.trans m⟩
 k8:=h.k8
theorem zij.canon(h:zij c nx G f):zij c nx G (canon f) where
 k2:=λe=>by
  have hk:f.kind=2:=by rw[zaZ]at e;exact e
  have:(Go.Proofs.YtddfdpbaiedcjaaGreatDoor.canon f).rngs=f.rngs:=by simp[Go.Proofs.YtddfdpbaiedcjaaGreatDoor.canon,hk]
  rw[this];exact h.k2 hk
 k3:=λe=>by
  have hk:f.kind=3:=by rw[zaZ]at e;exact e
  have a:(Go.Proofs.YtddfdpbaiedcjaaGreatDoor.canon f).stream=f.stream:=by simp[Go.Proofs.YtddfdpbaiedcjaaGreatDoor.canon,hk]
  have b:(Go.Proofs.YtddfdpbaiedcjaaGreatDoor.canon f).off=f.off:=by simp[Go.Proofs.YtddfdpbaiedcjaaGreatDoor.canon,hk]
  have d:(Go.Proofs.YtddfdpbaiedcjaaGreatDoor.canon f).rel=f.rel:=by simp[Go.Proofs.YtddfdpbaiedcjaaGreatDoor.canon,hk]
  rw[a,b,d];exact h.k3 hk
 k4:=λe=>by
  have hk:f.kind=4:=by rw[zaZ]at e;exact e
  have a:(Go.Proofs.YtddfdpbaiedcjaaGreatDoor.canon f).stream=f.stream:=by simp[Go.Proofs.YtddfdpbaiedcjaaGreatDoor.canon,hk]
  have b:(Go.Proofs.YtddfdpbaiedcjaaGreatDoor.canon f).off=f.off:=by simp[Go.Proofs.YtddfdpbaiedcjaaGreatDoor.canon,hk]
  have d:(Go.Proofs.YtddfdpbaiedcjaaGreatDoor.canon f).data=f.data:=by simp[Go.Proofs.YtddfdpbaiedcjaaGreatDoor.canon,hk]
  have e4:(Go.Proofs.YtddfdpbaiedcjaaGreatDoor.canon f).fin=f.fin:=by simp[Go.Proofs.YtddfdpbaiedcjaaGreatDoor.canon,hk]
  rw[a,b,d,e4];exact h.k4 hk
 k5:=λe=>by
  have hk:f.kind=5:=by rw[zaZ]at e;exact e
  have a:(Go.Proofs.YtddfdpbaiedcjaaGreatDoor.canon f).lim=f.lim:=by simp[Go.Proofs.YtddfdpbaiedcjaaGreatDoor.canon,hk]
  rw[a];exact h.k5 hk
 k6:=λe=>by
  have hk:f.kind=6:=by rw[zaZ]at e;exact e
  have a:(Go.Proofs.YtddfdpbaiedcjaaGreatDoor.canon f).stream=f.stream:=by simp[Go.Proofs.YtddfdpbaiedcjaaGreatDoor.canon,hk]
  have b:(Go.Proofs.YtddfdpbaiedcjaaGreatDoor.canon f).lim=f.lim:=by simp[Go.Proofs.YtddfdpbaiedcjaaGreatDoor.canon,hk]
  rw[a,b];exact h.k6 hk
 k7:=λe=>by
  have hk:f.kind=7:=by rw[zaZ]at e;exact e
  have a:(Go.Proofs.YtddfdpbaiedcjaaGreatDoor.canon f).id=f.id:=by simp[Go.Proofs.YtddfdpbaiedcjaaGreatDoor.canon,hk]
  have b:(Go.Proofs.YtddfdpbaiedcjaaGreatDoor.canon f).dl=f.dl:=by simp[Go.Proofs.YtddfdpbaiedcjaaGreatDoor.canon,hk]
  have d:(Go.Proofs.YtddfdpbaiedcjaaGreatDoor.canon f).data=f.data:=by simp[Go.Proofs.YtddfdpbaiedcjaaGreatDoor.canon,hk]
  rw[a,b,d];exact h.k7 hk
 k8:=by rw[zaZ];exact h.k8
variable{rs:zA}
theorem zpX:zkU rs n ↔ ∃r∈rs,r.1<=n/\n<=r.2:=by
 constructor
 ·rintro⟨i,hi,h1,h2⟩;have e:=List.mem_of_getElem? (zfZ hi);exact⟨_,e,h1,h2⟩
 ·rintro⟨r,hr,h1,h2⟩;obtain⟨j,hj,e1,e2⟩:=zhQ hr;exact⟨j,hj,by omega,by omega⟩
theorem znV:∀(rs:zA) (lo hi p:Nat),lo<=p->p<(za1 rs lo hi).1->∃r∈rs,r.1<=p/\p<=r.2
 | [],lo,hi,p,h1,h2=>by
  have h2:p<lo:=h2;omega
 | r::l,lo,hi,p,h1,h2=>by
  unfold za1 at h2;split at h2
  ·obtain⟨q,a,b⟩:=znV l lo hi p h1 h2;exact⟨q,List.mem_cons_of_mem _ a,b⟩
  ·split at h2
   ·have h2:p<lo:=h2;omega
   ·by_cases hp:p<=r.2
    ·exact⟨r,List.mem_cons_self,by omega,hp⟩
    ·obtain⟨q,a,b⟩:=znV l (r.2+1) hi p (by omega) h2;exact⟨q,List.mem_cons_of_mem _ a,b⟩
theorem zku(h:WF rs):∀i,i<rs.length->2*i<=loAt rs i
 | 0,_=>by omega
 | i+1,hi=>by
  have a:=zku h i (by omega);have b:=(h.1 i (by omega)).1;have c:=h.2 i (i+1) (by omega) hi;omega
variable{H:Nat}
theorem zpY(h:WF rs)(hh:∀j,j<rs.length->hiAt rs j<H):rs.length<=H / 2+1:=by
 by_cases h0:rs.length=0
 ·omega
 ·have a:=zku h (rs.length-1) (by omega);have b:=(h.1 (rs.length-1) (by omega)).1;have c:=hh (rs.length-1) (by omega);omega
structure Low(s:zaI)(H:Nat):Prop where
 ok:s.Ok
 fl:s.fl=0
 hi:∀j,j<s.rs.length->hiAt s.rs j<H
 most:1025<=s.most
variable{s:zaI}
theorem Low.mono{a:Nat}(h:Low s H)(hh:H<=a):Low s a:=⟨h.ok,h.fl,λj hj=>Nat.lt_of_lt_of_le (h.hi j hj) hh,h.most⟩
variable{hi lo:Nat}
theorem Low.add(h:Low s H)(hH:H<=2048)(hl:lo<=hi)(hh:hi<H):Low (s.add lo hi) H/\∀n,zkU (s.add lo hi).rs n↔zkU s.rs n\/(lo<=n/\n<=hi):=by
 have hm:hi<=zD:=by unfold zD;omega
 have b:=h.ok.add lo hm;have hmo:(s.add lo hi).most=s.most:=zbm s lo hi;have s1:=zaN (zdz s.rs (max lo s.fl)) s.rs.length;have s2:=zaN (zay s.rs hi) s.rs.length;have d:=zbL h.ok.wf (show max lo s.fl<=hi by rw[h.fl];omega) s1 s2;have hw:=zgE h.ok.wf (show max lo s.fl<=hi by rw[h.fl];omega) (by omega) s1 s2;have g:=zeT (m:=max lo s.fl) (B:=H-1) d s2.1 (λj c=>by have:=h.hi j c;omega) (show hi<=H-1 by omega);have i:=zpY hw (H:=H) (λj c=>by have:=g j c;omega);have f:=zo9 h.ok.wf (show max lo s.fl<=hi by rw[h.fl];omega) s1 s2;have a:=h.most;have e:s.add lo hi=⟨zbg s.rs (max lo s.fl) hi (zaQ (zdz s.rs (max lo s.fl)) s.rs.length) (zaQ (zay s.rs hi) s.rs.length),s.fl,s.most⟩:=by
  unfold zaI.add;rw[if_neg (by rw[h.fl];omega),if_neg (by omega)]
 rw[e]at b ⊢;refine⟨⟨b,h.fl,λj c=>by have:=g j c;show hiAt (zbg _ _ _ _ _) j<H;omega,a⟩,λn=>?_⟩;have:=f n;rw[h.fl,Nat.max_zero]at this;show zkU (zbg _ _ _ _ _) n↔_;rw[h.fl,Nat.max_zero];exact this
structure zbU(x:WS)(r:RS)(e:EN):Prop where
 hl:x.high<=x.b.length
 bl:x.b.length<=2048
 hc:x.high<=x.credit
 cg:x.credit<=r.grant
 hf:x.cut=true->x.high<=x.final
 rh:r.high<=x.high
 rl:r.b.length=r.high
 rd:r.read<=r.high
 low:Low r.came r.high
 byt:∀p,zkU r.came.rs p->r.b[p]?=x.b[p]?
 rc:r.cut=true->x.cut=true/\x.keep<=r.keep
 re:r.ended=true->zfM x r.fin
 rf:r.ended=true->r.cut=false->x.finished=true/\r.fin=x.b.length
 st:r.state<=2
 s1:r.state=1->x.finished=true/\r.read=x.b.length
 s2:r.state=2->x.cut=true/\x.keep<=r.read
 wr:e.wrote=x.b
 fi:e.fin=x.finished
 cu:e.cut=x.cut
 ke:x.cut=true->e.keep=x.keep
 er:e.read=r.read
 es:e.state=r.state
variable{p:Nat}
theorem zqp(h:Low s H)(hp:zkU s.rs p):p<H:=by
 obtain⟨i,hi,_,h2⟩:=hp;have:=h.hi i hi;omega
theorem zbU.wle{r:RS}{e f:EN}(h:zbU x r e)(l:WLe x y)(bl:y.b.length<=2048)(hc:y.high<=y.credit)(cg:y.credit<=r.grant)(hf:y.cut=true->y.high<=y.final)
  (wr:f.wrote=y.b) (fi:f.fin=y.finished) (cu:f.cut=y.cut) (ke:y.cut=true->f.keep=y.keep) (er:f.read=e.read) (es:f.state=e.state):zbU y r f where
 hl:=l.hl
 bl:=bl
 hc:=hc
 cg:=cg
 hf:=hf
 rh:=Nat.le_trans h.rh l.high
 rl:=h.rl
 rd:=h.rd
 low:=h.low
 byt:=λp g=>by
  have hp2:=zqp h.low g;have:=h.rh;have:=h.hl;rw[h.byt p g];obtain⟨t,ht⟩:=l.b;rw[<-ht,List.getElem?_append_left (by omega)]
 rc:=λe=>by
  obtain⟨a,b⟩:=h.rc e;obtain⟨c,_,d⟩:=l.cut a;exact⟨c,Nat.le_trans d b⟩
 re:=λe=>(h.re e).le l
 rf:=λe1 e2=>by
  obtain⟨a,b⟩:=h.rf e1 e2;exact⟨l.fin a,by rw[l.fz (.inl a)];exact b⟩
 st:=h.st
 s1:=λe=>by
  obtain⟨a,b⟩:=h.s1 e;exact⟨l.fin a,by rw[l.fz (.inl a)];exact b⟩
 s2:=λe=>by
  obtain⟨a,b⟩:=h.s2 e;obtain⟨c,_,d⟩:=l.cut a;exact⟨c,Nat.le_trans d b⟩
 wr:=wr
 fi:=fi
 cu:=cu
 ke:=ke
 er:=er.trans h.er
 es:=es.trans h.es
theorem zbU.same{r:RS}{e:EN}(h:zbU x r e)(s:zb8 x y):zbU y r e :=
 h.wle (WLe.of_same s h.hl) (by rw[s.b];exact h.bl) (by rw[s.high,s.credit];exact h.hc) (by rw[s.credit];exact h.cg) (by rw[s.cut,s.high,s.final];exact h.hf) (by rw[s.b];exact h.wr) (by rw[s.fin];exact h.fi) (by rw[s.cut];exact h.cu) (by rw[s.cut,s.keep];exact h.ke) rfl rfl
theorem zbU.grant{r:RS}{e:EN}(h:zbU x r e)(g:Nat)(a:Bool)(hg:r.grant<=g):zbU x { r with grant:=g,anew:=a } e :=
 {h with cg:=Nat.le_trans h.cg hg }
theorem znW{b s:List UInt8}(h:i+s.length<=b.length)(p:Nat):(zfG b i s)[p]?=if i<=p/\p<i+s.length then s[p-i]? else b[p]?:=by
 unfold zfG;have hl:(b.take i).length=i:=by rw[List.length_take];omega
 by_cases h1:p<i
 ·rw[if_neg (by omega),List.getElem?_append_left (by omega),List.getElem?_take_of_lt h1]
 ·rw[List.getElem?_append_right (by omega),hl];by_cases h2:p<i+s.length
  ·rw[if_pos ⟨by omega,h2⟩,List.getElem?_append_left (by omega)]
  ·rw[if_neg (by omega),List.getElem?_append_right (by omega),List.getElem?_drop]
   congr 1
   omega
variable{e:Nat}
theorem zqq{d:List UInt8}{off:Nat}{data:List UInt8}(hd:data=(d.drop off).take data.length)(he:e=off+data.length)(f:e<=H)(h:H<=2048):∀(n lo:Nat) (b:List UInt8) (s:zaI),off<=lo->b.length=H->Low s H->(∀p,zkU s.rs p->b[p]?=d[p]?) ->
  (zfx off data e n lo b s).1.length=H/\Low (zfx off data e n lo b s).2 H/\∀p,zkU (zfx off data e n lo b s).2.rs p->(zfx off data e n lo b s).1[p]?=d[p]?
 | 0,lo,b,s,_,h2,h3,h4=>⟨h2,h3,h4⟩
 | n+1,lo,b,s,h1,h2,h3,h4=>by
  unfold zfx;split
  ·rename_i hlt;split
   ·exact⟨h2,h3,h4⟩
   ·rename_i hg;obtain⟨g1,g2⟩:=ze9 s.rs lo e hlt (by omega);have g3:=zd6 s.rs lo e;generalize za1 s.rs lo e=g at *;have a:((data.drop (g.1-off)).take (g.2-g.1)).length=g.2-g.1:=by
     rw[List.length_take,List.length_drop];omega
    obtain⟨l1,l2⟩:=h3.add h (lo:=g.1) (hi:=g.2-1) (by omega) (by omega);refine zqq hd he f h n g.2 _ _ (by omega) ?_ l1 (λp c=>?_)
    ·rw[zbz _ _ _ (by rw[a];omega)];exact h2
    ·rw[znW (by rw[a];omega),a];rcases(l2 p).1 c with c|c
     ·split
      ·rename_i hh;rw[List.getElem?_take_of_lt (by omega),List.getElem?_drop,hd,List.getElem?_take_of_lt (by omega),List.getElem?_drop]
       congr 1
       omega
      ·exact h4 p c
     ·rw[if_pos ⟨by omega,by omega⟩,List.getElem?_take_of_lt (by omega),List.getElem?_drop,hd,List.getElem?_take_of_lt (by omega),List.getElem?_drop]
      congr 1
      omega
  ·exact⟨h2,h3,h4⟩
theorem zbU.badEnd{r:RS}{e:EN}(h:zbU x r e)(h1:f.off+f.data.length<=x.high)(h3:f.fin=true->zcA x/\f.off+f.data.length=x.b.length):r.badEnd f=false:=by
 have h1:f.end_<=x.high:=h1;have h3:f.fin=true->zcA x/\f.end_=x.b.length:=h3;have hr:=h.rh;have hl:=h.hl;have e2:(f.fin&&decide (f.end_<r.high))=false:=by
  cases hf:f.fin with
  | false=>rfl
  | true =>
   obtain⟨a,b⟩:=h3 hf;have:=a.2.1;simp only[Bool.true_and,decide_eq_false_iff_not];omega
 unfold RS.badEnd;rw[e2,Bool.or_false];cases he:r.ended with
 | false=>rfl
 | true =>
  have c:=h.re he;have hh:=c.high h.hf;rw[Bool.true_and,Bool.or_eq_false_iff];refine⟨by simp only[decide_eq_false_iff_not];omega,?_⟩;cases hf:f.fin with
  | false=>rfl
  | true =>
   obtain⟨a,b⟩:=h3 hf;have:=c.uniq (.inl ⟨a,b⟩);rw[Bool.true_and,this];simp
theorem zbU.data{r:RS}{e:EN}(h:zbU x r e)(h1:f.off+f.data.length<=x.high)(h2:f.data=(x.b.drop f.off).take f.data.length)(h3:f.fin=true->zcA x/\f.off+f.data.length=x.b.length):zbU x (r.data f) e:=by
 have hr:=h.rh;have hl:=h.hl;have hb:=h.bl;have hrl:=h.rl;have he:f.end_=f.off+f.data.length:=rfl;obtain⟨l1,l2,l3⟩:=zqq h2 he (Nat.le_max_right r.high f.end_) (by omega) (f.data.length+1) f.off (zhw r.b (max r.high f.end_)) r.came (Nat.le_refl _) (by unfold zhw;simp;omega) (h.low.mono (Nat.le_max_left _ _)) (λp c=>by
  have:=zqp h.low c;unfold zhw;rw[List.getElem?_append_left (by omega)];exact h.byt p c)
 exact
  {h with
   rh:=by show max r.high f.end_<=_;omega
   rl:=l1
   rd:=by have:=h.rd;show r.read<=max r.high f.end_;omega
   low:=l2
   byt:=l3
   rc:=h.rc
   re:=λq=>by
    have q:(r.ended||f.fin)=true:=q;show zfM x (if f.fin then f.end_ else r.fin);by_cases hf:f.fin=true
    ·rw[if_pos hf];obtain⟨a,b⟩:=h3 hf;exact .inl ⟨a,b⟩
    ·rw[if_neg hf];rw[Bool.or_eq_true]at q;exact h.re (q.resolve_right hf)
   rf:=λq hc=>by
    have q:(r.ended||f.fin)=true:=q;show x.finished=true/\(if f.fin then f.end_ else r.fin)=x.b.length;by_cases hf:f.fin=true
    ·rw[if_pos hf];obtain⟨a,b⟩:=h3 hf;exact⟨a.1,b⟩
    ·rw[if_neg hf];rw[Bool.or_eq_true]at q;exact h.rf (q.resolve_right hf) hc
   s1:=h.s1 }
theorem zbU.resetBad{r:RS}{e:EN}(h:zbU x r e)(hc:x.cut=true)(ho:f.off=x.final):((r.ended&&r.fin != f.off)||decide (f.off<r.high))=false:=by
 have hr:=h.rh;have hf:=h.hf hc;rw[Bool.or_eq_false_iff];refine⟨?_,by simp only[decide_eq_false_iff_not];omega⟩;cases he:r.ended with
 | false=>rfl
 | true =>
  have:=(h.re he).uniq (.inr ⟨hc,ho⟩);rw[Bool.true_and,this];simp
theorem zbU.reset{r:RS}{e:EN}(h:zbU x r e)(hc:x.cut=true)(ho:f.off=x.final)(hk:x.keep<=f.rel):zbU x (r.resetAt f) e :=
 {h with
  rc:=λ_=>⟨hc,by
   show x.keep<=(if !r.cut||decide (f.rel<r.keep)then f.rel else r.keep);split
   ·exact hk
   ·rename_i q;simp only[Bool.or_eq_true,not_or,Bool.not_eq_true,Bool.not_eq_false']at q;exact(h.rc q.1).2⟩
  re:=λ_=>.inr ⟨hc,ho⟩
  rf:=λ_ q=>by cases q }
theorem zik{r:RS}{e:EN}(h:zbU x r e)(most:Nat):r.read<=r.readTo most/\r.readTo most<=r.read+most/\r.readTo most<=r.high/\∀p,r.read<=p->p<r.readTo most->zkU r.came.rs p:=by
 have a:=zhW r.came.rs r.read r.high;have b:=zkk r.came.rs (H:=r.high) r.read r.high h.rd (λq hq=>by obtain⟨j,hj,_,e⟩:=zhQ hq;rw[<-e];exact h.low.hi j hj);have c:=λp h1 h2=>zpX.2 (znV r.came.rs r.read r.high p h1 h2)
 have d:=h.rd;unfold RS.readTo;generalize za1 r.came.rs r.read r.high=g at *;split
 ·exact⟨by omega,by omega,by omega,λp h1 h2=>c p h1 (by omega)⟩
 ·exact⟨by omega,by omega,by omega,λp h1 h2=>c p h1 (by omega)⟩
theorem zbU.bytes{r:RS}{e:EN}(h:zbU x r e)(E:Nat)(h1:r.read<=E)(h2:E<=r.high)(h3:∀p,r.read<=p->p<E->zkU r.came.rs p):(r.b.drop r.read).take (E-r.read)=(x.b.drop r.read).take (E-r.read):=by
 apply List.ext_getElem?;intro p;by_cases a:p<E-r.read
 ·rw[List.getElem?_take_of_lt a,List.getElem?_take_of_lt a,List.getElem?_drop,List.getElem?_drop];exact h.byt _ (h3 _ (by omega) (by omega))
 ·rw[List.getElem?_eq_none (by rw[List.length_take];omega),List.getElem?_eq_none (by rw[List.length_take];omega)]
theorem zbU.read0{r:RS}{e:EN}(h:zbU x r e)(most:Nat)(h0:r.state=0):e.wrong most ((r.b.drop r.read).take (r.readTo most-r.read),r.stateAt (r.readTo most),0)=false /\
  (e.more ((r.b.drop r.read).take (r.readTo most-r.read),r.stateAt (r.readTo most),0)).fits=true /\
  zbU x { r with read:=r.readTo most,state:=r.stateAt (r.readTo most) } (e.more ((r.b.drop r.read).take (r.readTo most-r.read),r.stateAt (r.readTo most),0)):=by
 obtain⟨a,b,c,d⟩:=zik h most;have hb:=h.bytes _ a c d;have hr:=h.rh;have hl:=h.hl;have hrl:=h.rl;generalize hE:r.readTo most=E at *;have f:((r.b.drop r.read).take (E-r.read)).length=E-r.read:=by
  rw[List.length_take,List.length_drop];omega
 have t1:r.stateAt E=1->x.finished=true/\E=x.b.length:=λq=>by
  unfold RS.stateAt at q;split at q
  ·cases q
  ·split at q
   ·rename_i hh;simp only[Bool.and_eq_true,Bool.not_eq_true',beq_iff_eq]at hh;obtain⟨p1,p2⟩:=h.rf hh.1.2 hh.1.1;exact⟨p1,by omega⟩
   ·cases q
 have l:r.stateAt E=2->x.cut=true/\x.keep<=E:=λq=>by
  unfold RS.stateAt at q;split at q
  ·rename_i hh;simp only[Bool.and_eq_true,decide_eq_true_eq]at hh;obtain⟨p1,p2⟩:=h.rc hh.1;exact⟨p1,by omega⟩
  ·split at q<;>cases q
 have t3:r.stateAt E<=2:=by
  unfold RS.stateAt;split
  ·omega
  ·split<;>omega
 generalize r.stateAt E=ST at *;have g:=h.er;have i:=h.wr;have j:=h.es;refine⟨?_,?_,?_⟩
 ·unfold EN.wrong;simp only[f,g,i,j,h0];rw[hb];have e1:decide (most<E-r.read)=false:=by simp only[decide_eq_false_iff_not];omega
  have e2:decide (x.b.length<r.read+(E-r.read))=false:=by simp only[decide_eq_false_iff_not];omega
  rw[e1,e2];simp
 ·unfold EN.fits EN.more;simp only[f,g];have e3:r.read+(E-r.read)=E:=by omega
  rw[e3];by_cases m:ST=0
  ·rw[if_pos m]
  ·rw[if_neg m];by_cases k:ST=1
   ·rw[if_pos k];obtain⟨p1,p2⟩:=t1 k;rw[h.fi,p1,h.wr,p2];simp
   ·rw[if_neg k];have n:ST=2:=by omega
    rw[if_pos n];obtain⟨p1,p2⟩:=l n;rw[h.cu,p1,h.ke p1];simp;exact p2
 ·exact
   {h with
    rd:=c
    st:=t3
    s1:=t1
    s2:=l
    er:=by show e.read+((r.b.drop r.read).take (E-r.read)).length=E;rw[f,g];omega
    es:=rfl }
theorem zbU.read1{r:RS}{e:EN}(h:zbU x r e)(most:Nat)(h0:r.state≠0):e.wrong most ([],r.state,0)=false/\(e.more ([],r.state,0)).fits=true/\zbU x r (e.more ([],r.state,0)):=by
 have a:=h.er;have d:=h.wr;have c:=h.es;have hr:=h.rh;have hl:=h.hl;have hd:=h.rd;have e0:e.more ([],r.state,0)=e:=by
  unfold EN.more;rw[<-c];rfl
 rw[e0];refine⟨?_,?_,h⟩
 ·unfold EN.wrong;simp only[List.length_nil,a,d,c];have e2:decide (x.b.length<r.read+0)=false:=by simp only[decide_eq_false_iff_not];omega
  rw[e2];simp
 ·unfold EN.fits;rw[c,if_neg h0];by_cases f:r.state=1
  ·rw[if_pos f];obtain⟨p1,p2⟩:=h.s1 f;rw[h.fi,p1,h.wr,a,p2];simp
  ·rw[if_neg f];have:=h.st;have g:r.state=2:=by omega
   rw[if_pos g];obtain⟨p1,p2⟩:=h.s2 g;rw[h.cu,p1,h.ke p1,a];simp;exact p2
structure zg0(x y:WS):Prop where
 b:y.b=x.b
 fin:y.finished=x.finished
 cut:y.cut=x.cut
 keep:y.keep=x.keep
 final:y.final=x.final
 credit:y.credit=x.credit
 high:x.high<=y.high
 hl:y.high<=y.b.length
 hc:y.high<=y.credit
 hf:y.cut=true->y.high<=y.final
theorem zg0.le(h:zg0 x y):WLe x y where
 b:=by rw[h.b];exact List.prefix_refl _
 fz:=λ_=>h.b
 high:=h.high
 hl:=h.hl
 fin:=λe=>by rw[h.fin];exact e
 cut:=λe=>⟨by rw[h.cut];exact e,h.final,by rw[h.keep];exact Nat.le_refl _⟩
 fc:=λ_ _ e a=>by rw[h.cut,e]at a;cases a
theorem zg0.trans{z:WS}(h:zg0 x y)(k:zg0 y z):zg0 x z:=⟨k.b.trans h.b,k.fin.trans h.fin,k.cut.trans h.cut,k.keep.trans h.keep,k.final.trans h.final,k.credit.trans h.credit,Nat.le_trans h.high k.high,k.hl,k.hc,k.hf⟩
theorem zg0.self(h:zg0 x y):zg0 y y:=⟨rfl,rfl,rfl,rfl,rfl,rfl,Nat.le_refl _,h.hl,h.hc,h.hf⟩
theorem zbU.put{r:RS}{e:EN}(h:zbU x r e)(p:zg0 x y):zbU y r e :=
 h.wle p.le (by rw[p.b];exact h.bl) p.hc (by rw[p.credit];exact h.cg) p.hf (by rw[p.b];exact h.wr) (by rw[p.fin];exact h.fi) (by rw[p.cut];exact h.cu) (by rw[p.cut,p.keep];exact h.ke) rfl rfl
theorem zbU.wput{r:RS}{e:EN}(h:zbU x r e):zg0 x x:=⟨rfl,rfl,rfl,rfl,rfl,rfl,Nat.le_refl _,h.hl,h.hc,h.hf⟩
structure SOk(c:CS)(G:List SN):Prop where
 w:∀k,k<8->zg0 (c.ws k) (c.ws k)
 kf:∀k,k<8->(c.ws k).keep<=(c.ws k).final
 sp:c.spent<=c.credit
 wt:∀f∈c.waits,f.kind=7/\c.now<=f.dl/\∃s∈G,s.id=f.id/\s.dl=f.dl/\s.data=f.data
structure PLe(c c':CS):Prop where
 ws:∀k,k<8->zg0 (c.ws k) (c'.ws k)
 grant:c.grant<=c'.grant
 rg:∀k,k<8->(c.rs k).grant<=(c'.rs k).grant
 now:c'.now=c.now
 credit:c'.credit=c.credit
theorem PLe.sle(h:PLe c c'):SLe c c':=⟨λk hk=>(h.ws k hk).le,h.grant,h.rg⟩
theorem PLe.trans{a b:CS}(h:PLe a b)(k:PLe b c):PLe a c:=⟨λj d=>(h.ws j d).trans (k.ws j d),Nat.le_trans h.grant k.grant,λj d=>Nat.le_trans (h.rg j d) (k.rg j d),k.now.trans h.now,k.credit.trans h.credit⟩
theorem PLe.refl(h:SOk c G):PLe c c:=⟨h.w,Nat.le_refl _,λ_ _=>Nat.le_refl _,rfl,rfl⟩
structure zg1(nx:Nat)(G:List SN)(c:CS)(d:Drf)(r:Bool)(c':CS)(d':Drf):Prop where
 ok:SOk c' G
 le:PLe c c'
 yes:r=true->∃f,d.add f=some d'/\zij c' nx G f/\(f.kind=7->c.now<=f.dl)
variable{d d':Drf}
theorem zg1.none(h:SOk c G):zg1 nx G c d false c d':=⟨h,PLe.refl h,λe=>(by cases e)⟩
theorem frOk_6(hk:k<8)(h:n<=(c.rs k).grant):zij c nx G (zmy k n) :=
 ⟨λe=>(by cases e),λe=>(by cases e),λe=>(by cases e),λe=>(by cases e),λ_=>⟨k,hk,rfl,h⟩,λe=>(by cases e),by simp[zmy]⟩
theorem frOk_5(h:n<=c.grant):zij c nx G (zlP n) :=
 ⟨λe=>(by cases e),λe=>(by cases e),λe=>(by cases e),λ_=>h,λe=>(by cases e),λe=>(by cases e),by simp[zlP]⟩
theorem frOk_3(hk:k<8)(hc:(c.ws k).cut=true):zij c nx G (zod k (c.ws k).final (c.ws k).keep) :=
 ⟨λe=>(by cases e),λ_=>⟨k,hk,rfl,hc,rfl,Nat.le_refl _⟩,λe=>(by cases e),λe=>(by cases e),λe=>(by cases e),λe=>(by cases e),by simp[zod]⟩
theorem zqr(h:SOk c G):∀n k t,n+k=8->∀x,(zgY c d n k t).1=some x->zg1 nx G c d true x.1 x.2
 | 0,_,_,_,x,hx=>by cases hx
 | n+1,k,t,hk,x,hx=>by
  have a:=zqr h n (k+1) (min (t+(c.rs k).used) zD) (by omega);unfold zgY at hx;split at hx
  ·split at hx
   ·rename_i d' hd;cases hx;have hg:∀j,j<8->(c.rs j).grant<=((upd c.rs k { c.rs k with grant:=max (c.rs k).grant ((c.rs k).used+c.window),anew:=false }) j).grant:=λj _=>by
     by_cases e:j=k
     ·subst e;rw[ze];exact Nat.le_max_left _ _
     ·rw[zd _ _ e];exact Nat.le_refl _
    refine⟨⟨h.w,h.kf,h.sp,h.wt⟩,⟨h.w,Nat.le_refl _,hg,rfl,rfl⟩,λ_=>⟨_,hd,frOk_6 (by omega) ?_,λe=>(by cases e)⟩⟩;show _<=(upd c.rs k _ k).grant;rw[ze];exact Nat.le_refl _
   ·exact a x hx
  ·exact a x hx
theorem znX(h:SOk c G):∀n k,n+k=8->∀x,zfw c d n k=some x->zg1 nx G c d true x.1 x.2
 | 0,_,_,x,hx=>by cases hx
 | n+1,k,hk,x,hx=>by
  have f:=znX h n (k+1) (by omega);unfold zfw at hx;split at hx
  ·rename_i hcut;simp only[Bool.and_eq_true]at hcut;split at hx
   ·rename_i d' hd;cases hx;have b:∀j,j<8->zg0 (c.ws j) (upd c.ws k { c.ws k with telling:=true } j):=λj a=>by
     by_cases e:j=k
     ·subst e;rw[ze];have w:=h.w j a;exact⟨rfl,rfl,rfl,rfl,rfl,rfl,Nat.le_refl _,w.hl,w.hc,w.hf⟩
     ·rw[zd _ _ e];exact h.w j a
    have hs:∀n,zG (upd c.ws k { c.ws k with telling:=true }) n=zG c.ws n:=λn=>by
     induction n with
     | zero=>rfl
     | succ n ih2 =>
      show zG _ n+(upd c.ws k _ n).high=zG c.ws n+(c.ws n).high;rw[ih2]
      congr 1
      by_cases e:n=k
      ·subst e;rw[ze]
      ·rw[zd _ _ e]
    refine⟨⟨λj a=>(b j a).self,λj a=>?_,?_,h.wt⟩,⟨b,Nat.le_refl _,λ_ _=>Nat.le_refl _,rfl,rfl⟩,λ_=>⟨_,hd,?_,λe=>(by cases e)⟩⟩
    ·show(upd c.ws k _ j).keep<=(upd c.ws k _ j).final;have p:=b j a;have:=h.kf j a;rw[p.keep,p.final];exact this
    ·show zG _ 8<=c.credit;rw[hs];exact h.sp
    ·have q:=frOk_3 (c:={ c with ws:=upd c.ws k { c.ws k with telling:=true } }) (nx:=nx) (G:=G) (k:=k) (by omega) (by show(upd c.ws k _ k).cut=true;rw[ze];exact hcut.1);have q2:(({ c with ws:=upd c.ws k { c.ws k with telling:=true } }:CS).ws k)={ c.ws k with telling:=true }:=ze _ _ _;rw[q2]at q;exact q
   ·exact f x hx
  ·exact f x hx
theorem znY(h:SOk c G){x:CS×Drf}(a:c.control d=some x):zg1 nx G c d true x.1 x.2:=by
 unfold CS.control at a;split at a
 ·rename_i y hy;cases a;exact zqr h 8 0 c.total rfl _ hy
 ·unfold zrJ at a;split at a
  ·split at a
   ·rename_i d' hd;cases a;exact⟨⟨h.w,h.kf,h.sp,h.wt⟩,⟨h.w,Nat.le_max_right _ _,λ_ _=>Nat.le_refl _,rfl,rfl⟩,λ_=>⟨_,hd,frOk_5 (Nat.le_refl _),λe=>(by cases e)⟩⟩
   ·exact znX h 8 0 rfl x a
  ·exact znX h 8 0 rfl x a
theorem zrC(h:SOk c G){x:CS×Drf}(i:c.datagrams d=some x):zg1 nx G c d true x.1 x.2:=by
 unfold CS.datagrams at i;split at i
 ·cases i
 ·rename_i f l hw;obtain⟨d',h1,h2⟩:=Option.map_eq_some_iff.1 i;subst h2;obtain⟨a,b,e⟩:=h.wt f (by rw[hw];exact List.mem_cons_self);exact⟨⟨h.w,h.kf,h.sp,λg hg=>h.wt g (by rw[hw];exact List.mem_cons_of_mem _ hg)⟩,⟨h.w,Nat.le_refl _,λ_ _=>Nat.le_refl _,rfl,rfl⟩,λ_=>⟨f,h1,⟨λe=>(by rw[a]at e;cases e),λe=>(by rw[a]at e;cases e),λe=>(by rw[a]at e;cases e),λe=>(by rw[a]at e;cases e),λe=>(by rw[a]at e;cases e),λ_=>e,by rw[a];decide⟩,λ_=>b⟩⟩
theorem zea(ws:Nat->WS)(k:Nat)(x:WS):∀n,k<n->zG (upd ws k x) n+(ws k).high=zG ws n+x.high
 | 0,h=>absurd h (Nat.not_lt_zero _)
 | n+1,h=>by
  show zG (upd ws k x) n+(upd ws k x n).high+(ws k).high=zG ws n+(ws n).high+x.high;by_cases e:n=k
  ·subst e;have:∀m,m<=n->zG (upd ws n x) m=zG ws m:=λm=>by
    induction m with
    | zero=>intro _;rfl
    | succ m ih =>
     intro hm;show zG (upd ws n x) m+(upd ws n x m).high=zG ws m+(ws m).high;rw[ih (by omega),zd _ _ (by omega)]
   rw[this n (Nat.le_refl n),ze];omega
  ·rw[zd _ _ e];have:=zea ws k x n (by omega);omega
theorem zgi(h:SOk c G){fin:Bool}(hk:k<8)(hlo:lo<=hi)(l:hi<=c.endOf k)(hf:fin=true->(c.ws k).fin=true/\hi=(c.ws k).b.length):zg1 nx G c d (c.bytesAdd d k lo hi fin).1 (c.bytesAdd d k lo hi fin).2.1 (c.bytesAdd d k lo hi fin).2.2:=by
 unfold CS.bytesAdd;split
 ·exact zg1.none h
 ·rename_i d' hd;have w:=h.w k hk;have hl:=w.hl;have e0:=Nat.le_trans l (zj4 c k);have h0:hi<=(c.ws k).b.length/\hi<=(c.ws k).credit/\hi+c.spent<=(c.ws k).high+c.credit:=by
   have:=h.sp;unfold CS.end0 at e0;omega
  have m:(c.ws k).cut=true->hi<=(c.ws k).final:=λe=>by
   have:=h.kf k hk;unfold CS.endOf at l;rw[if_pos e]at l;omega
  obtain⟨x,n⟩:∃x,x=({ c.ws k with sent:=if lo<hi then(c.ws k).sent.add lo (hi-1)else(c.ws k).sent,ending:=(c.ws k).ending||fin,high:=max (c.ws k).high hi }:WS):=⟨_,rfl⟩;have g:zg0 (c.ws k) x:=by
   rw[n];have:=w.hc;exact⟨rfl,rfl,rfl,rfl,rfl,rfl,Nat.le_max_left _ _,by show max _ _<=(c.ws k).b.length;omega,by show max _ _<=(c.ws k).credit;omega,λe=>by have:=w.hf e;have:=m e;show max _ _<=(c.ws k).final;omega⟩
  have q:x.high=max (c.ws k).high hi:=by rw[n]
  rw[<-n];have o:∀j,j<8->zg0 (c.ws j) (upd c.ws k x j):=λj i=>by
   by_cases e:j=k
   ·subst e;rw[ze];exact g
   ·rw[zd _ _ e];exact h.w j i
  refine⟨⟨λj i=>(o j i).self,λj i=>?_,?_,h.wt⟩,⟨o,Nat.le_refl _,λ_ _=>Nat.le_refl _,rfl,rfl⟩,λ_=>⟨_,hd,?_,λe=>(by cases e)⟩⟩
  ·have p:=o j i;have:=h.kf j i;show(upd c.ws k x j).keep<=(upd c.ws k x j).final;rw[p.keep,p.final];exact this
  ·have:=zea c.ws k x 8 hk;have:=h.sp;unfold CS.spent at *;show zG (upd c.ws k x) 8<=c.credit;omega
  ·have f:(((c.ws k).b.drop lo).take (hi-lo)).length=hi-lo:=by
    rw[List.length_take,List.length_drop];omega
   refine⟨λe=>(by cases e),λe=>(by cases e),λ_=>⟨k,hk,rfl,?_,?_,λef=>?_⟩,λe=>(by cases e),λe=>(by cases e),λe=>(by cases e),by simp[zby]⟩
   ·show lo+(((c.ws k).b.drop lo).take (hi-lo)).length<=(upd c.ws k x k).high;rw[ze,f,q];omega
   ·show((c.ws k).b.drop lo).take (hi-lo)=((upd c.ws k x k).b.drop lo).take (((c.ws k).b.drop lo).take (hi-lo)).length;rw[ze,f,g.b]
   ·obtain⟨a,b⟩:=hf ef;unfold WS.fin at a;simp only[Bool.and_eq_true,Bool.not_eq_true']at a;show zcA (upd c.ws k x k)/\lo+(((c.ws k).b.drop lo).take (hi-lo)).length=(upd c.ws k x k).b.length;rw[ze,f];refine⟨⟨by rw[g.fin];exact a.1,by rw[q,g.b];omega,λe=>by rw[g.cut,a.2]at e;cases e⟩,by rw[g.b];omega⟩
theorem zkv(h:SOk c G)(hk:k<8)(a:lo<=hi)(hh:hi<=c.endOf k):zg1 nx G c d (c.bytesR d k lo hi).1 (c.bytesR d k lo hi).2.1 (c.bytesR d k lo hi).2.2:=by
 unfold CS.bytesR;split
 ·split
  ·exact zg1.none h
  ·exact zgi h hk (by omega) (by omega) (λe=>by cases e)
 ·exact zgi h hk a hh (λe=>by
   simp only[Bool.and_eq_true,beq_iff_eq]at e;exact e)
theorem zrD(h:SOk c G)(hk:k<8):zg1 nx G c d (c.bytes d k).1 (c.bytes d k).2.1 (c.bytes d k).2.2:=by
 unfold CS.bytes;split
 ·exact zg1.none h
 ·split
  ·split
   ·exact zg1.none h
   ·rename_i hc;simp only[Bool.or_eq_true,decide_eq_true_eq,not_or,Nat.not_lt]at hc;exact zkv h hk (Nat.le_refl _) hc.2
  ·exact zkv h hk (by omega) (zd6 _ _ _)
variable{q:Nat}
theorem put_s(h:SOk c G)(a:q<10):zg1 nx G c d (c.put d q).1 (c.put d q).2.1 (c.put d q).2.2:=by
 match q,a with
 | 0,_ =>
  show zg1 nx G c d (c.control d).isSome ((c.control d).getD (c,d)).1 ((c.control d).getD (c,d)).2;cases hc:c.control d with
  | none=>exact zg1.none h
  | some x=>exact znY h hc
 | 1,_ =>
  show zg1 nx G c d (c.datagrams d).isSome ((c.datagrams d).getD (c,d)).1 ((c.datagrams d).getD (c,d)).2;cases hc:c.datagrams d with
  | none=>exact zg1.none h
  | some x=>exact zrC h hc
 | k+2,a=>exact zrD h (by omega)
structure DS(num nx:Nat)(G:List SN)(c:CS)(d:Drf):Prop where
 b:d.b=zpS num d.fs
 fr:∀f∈d.fs,(zS f=true/\f.data.length<4611686018427387904/\f.rngs.length<4611686018427387904)/\zij c nx G f/\(f.kind=7->c.now<=f.dl)
theorem DS.mono{g:Nat}(h:DS g nx G c d)(s:SOk c G)(l:PLe c c'):DS g nx G c' d :=
 ⟨h.b,λf hf=>by
  obtain⟨a,b,e⟩:=h.fr f hf;exact⟨a,b.mono l.sle (λk hk=>(s.w k hk).hl) (Nat.le_refl _) (λs hs=>⟨s,hs,rfl,rfl,rfl⟩),by rw[l.now];exact e⟩⟩
theorem zpZ{g:Frm}(h:d.add f=some d')(k:d.add g=some d'):f=g:=by
 obtain⟨_,e2,_⟩:=Drf.add_some h;obtain⟨_,a,_⟩:=Drf.add_some k;have:=e2.symm.trans a;simpa using this
theorem DS.add{a:Nat}(h:DS a nx G c d)(ha:d.add f=some d')(hs:zS f=true/\f.data.length<4611686018427387904/\f.rngs.length<4611686018427387904)(hf:zij c nx G f)(h7:f.kind=7->c.now<=f.dl):DS a nx G c d':=by
 obtain⟨e1,e,_⟩:=Drf.add_some ha;refine⟨by rw[e1,e,h.b];simp[zpS],λg hg=>?_⟩;rw[e]at hg;rcases List.mem_append.1 hg with x|x
 ·exact h.fr g x
 ·rw[List.mem_singleton.1 x];exact⟨hs,hf,h7⟩
theorem DS.put{a:Nat}(h:DS a nx G c d)(hc:c.Ok)(s:SOk c G)(j:q<10):DS a nx G (c.put d q).2.1 (c.put d q).2.2/\SOk (c.put d q).2.1 G/\PLe c (c.put d q).2.1:=by
 have p:=zhu (d:=d) hc j;have t:=put_s (d:=d) (nx:=nx) s j;refine⟨?_,t.ok,t.le⟩;have i:=h.mono s t.le;generalize hr:(c.put d q).1=r at p t;cases r with
 | true =>
  obtain⟨f,hf,_,ha⟩:=p.yes rfl;obtain⟨g,k,g1,g2⟩:=t.yes rfl;have e:=zpZ k ha;subst e;exact i.add k ⟨hf.sound,by have:=hf.data;omega,by rw[hf.rn];simp⟩ g1 (λx=>by rw[t.le.now];exact g2 x)
 | false =>
  obtain⟨_,e|e⟩:=p.no rfl
  ·rw[e];exact i
  ·rw[e];exact⟨i.b,i.fr⟩
theorem zqs{f:Nat}(g:q<10):∀n (c:CS) (d:Drf),c.Ok->SOk c G->DS f nx G c d->DS f nx G (CS.reps q n c d).1 (CS.reps q n c d).2/\SOk (CS.reps q n c d).1 G/\PLe c (CS.reps q n c d).1
 | 0,c,d,_,s,h=>⟨h,s,PLe.refl s⟩
 | n+1,c,d,hc,s,h=>by
  have p:=zhu (d:=d) hc g;obtain⟨a,b,e⟩:=h.put hc s g;unfold CS.reps;split
  ·obtain⟨a',b',e'⟩:=zqs g n _ _ p.ok b a;exact⟨a',b',e.trans e'⟩
  ·exact⟨a,b,e⟩
theorem znZ{f:Nat}:∀n (c:CS) (d:Drf),n<=10->c.Ok->d.Ok->SOk c G->DS f nx G c d->DS f nx G (CS.fillN n c d).1 (CS.fillN n c d).2/\SOk (CS.fillN n c d).1 G/\PLe c (CS.fillN n c d).1
 | 0,c,d,_,_,_,s,h=>⟨h,s,PLe.refl s⟩
 | n+1,c,d,hn,hc,hd,s,h=>by
  have r:=zi2 (q:=9-n) (by omega) (d.room+1) c d hc hd;obtain⟨a,b,e⟩:=zqs (q:=9-n) (by omega) (d.room+1) c d hc s h;unfold CS.fillN;obtain⟨a',b',e'⟩:=znZ n _ _ (by omega) r.1 r.2.1 b a;exact⟨a',b',e.trans e'⟩
theorem zp0{l:zA}(h:∀r∈l,r.2<nx):zij c nx G (ackF l) :=
 ⟨λ_=>h,λe=>(by cases e),λe=>(by cases e),λe=>(by cases e),λe=>(by cases e),λe=>(by cases e),by simp[ackF]⟩
theorem DS.told{a:Nat}(h:DS a nx G c d){l:zA}(hl:zmU l)(hn:l.length<=1048576)(b:∀r∈l,r.2<nx):DS a nx G c (zs d l).1/\∀r∈(zs d l).2,r.2<nx:=by
 unfold zs;split
 ·exact⟨h,b⟩
 ·rename_i h0;have hp:1<=l.length:=List.length_pos_iff.2 h0;have t1:=zeV d l l.length hp;have t2:=zj6 d l l.length;refine⟨?_,λr f=>b r (List.mem_of_mem_drop f)⟩;show DS a nx G c ((d.add (ackF (l.take (zcB d l l.length)))).getD d);cases ha:d.add (ackF (l.take (zcB d l l.length)))with
  | none=>exact h
  | some d' =>
   refine h.add ha ⟨hl.tell _ t1 t2,by simp[ackF],?_⟩ (zp0 λr f=>b r (List.mem_of_mem_take f)) (λe=>by cases e);show(l.take _).length<_;rw[List.length_take];omega
structure zdb(c:CS)(nx:Nat)(G:List SN)(b:List UInt8):Prop where
 sealed:∃l,b=l++zdt (crc l)
 dec:∃num fs,dec b = .ok num fs/\num<c.next/\∀f∈fs,zij c nx G f
theorem zdb.mono{e:Nat}{i:List SN}{b:List UInt8}(h:zdb c nx G b)(l:SLe c c')(hh:∀k,k<8->(c.ws k).high<=(c.ws k).b.length)(hx:c.next<=c'.next)(hn:nx<=e)(hG:∀s∈G,∃s'∈i,s'.id=s.id/\s'.dl=s.dl/\s'.data=s.data):zdb c' e i b:=by
 obtain⟨g,fs,a,b,d⟩:=h.dec;exact⟨h.sealed,g,fs,a,by omega,λf hf=>(d f hf).mono l hh hn hG⟩
variable{fs:List Frm}{now:Nat}
theorem zlI(h:∀f∈fs,f.kind=7->now<=f.dl):(fs.map canon).any (zcf now)=false:=by
 rw[List.any_eq_false];intro g hg;obtain⟨f,hf,rfl⟩:=List.mem_map.1 hg;unfold zcf;rw[zaZ];by_cases hk:f.kind=7
 ·have:=h f hf hk;have e2:(canon f).dl=f.dl:=by simp[canon,hk]
  rw[e2];simp;omega
 ·simp[hk]
theorem zqt:∀(m:Nat) (c:CS) (l:zA) (n:NS) (i:Nat),zmV c l->SOk c G->(∀r∈l,r.2<nx)->n.mtu=c.mtu->n.count i=c.next->n.now=c.now ->
  (NS.flushL i (CS.pkts m c l).1 n).1=true/\(∃bg,(NS.flushL i (CS.pkts m c l).1 n).2={ n with count:=upd n.count i (CS.pkts m c l).2.next,bag:=n.bag++bg }/\∀p∈bg,p.1=1-i/\zdb (CS.pkts m c l).2 nx G p.2)/\SOk (CS.pkts m c l).2 G/\PLe c (CS.pkts m c l).2/\c.next<=(CS.pkts m c l).2.next
 | 0,c,l,n,i,hk,s,hx,hm,hc,hn=>by
  refine⟨rfl,⟨[],?_,λp y=>(by cases y)⟩,s,PLe.refl s,Nat.le_refl _⟩;show n={ n with count:=upd n.count i c.next,bag:=n.bag++[] };rw[<-hc,zaB,List.append_nil]
 | m+1,c,l,n,i,hk,s,hx,hm,hc,hn=>by
  obtain⟨B,r2,r3,C,r5,r6,r7⟩:=hk.round;have D:=hk.next;have d0:DS c.next nx G c c.pkDraft:=⟨by show zN c.next=zpS c.next [];simp[zpS],λf hf=>(by cases hf)⟩;obtain⟨d1,E⟩:=d0.told hk.desc hk.len hx;have t:=zgK (zb2 hk.ok) l;unfold CS.pkts;have hF:DS c.next nx G (c.pkFill (zs c.pkDraft l).1).1 (c.pkFill (zs c.pkDraft l).1).2/\SOk (c.pkFill (zs c.pkDraft l).1).1 G/\PLe c (c.pkFill (zs c.pkDraft l).1).1/\((c.pkFill (zs c.pkDraft l).1).2.fs≠[]->(c.pkFill (zs c.pkDraft l).1).2.b.length+4<=c.mtu)/\(c.pkFill (zs c.pkDraft l).1).1.mtu=c.mtu:=by
   have h0:DFr (zs c.pkDraft l).1:=DFr.told ⟨λf hf=>(by cases hf),λx=>absurd rfl x⟩ l;have q:=zgJ 10 c (zs c.pkDraft l).1 (Nat.le_refl _) hk.ok B;unfold CS.pkFill;split
   ·obtain⟨u,h,v⟩:=znZ 10 c (zs c.pkDraft l).1 (Nat.le_refl _) hk.ok B s d1;refine⟨u,h,v,λd=>?_,q.2.2.2.2.2.2.2.2.2.2.1⟩;have a:=(h0.fillN 10 c (zs c.pkDraft l).1 (Nat.le_refl _) hk.ok B).fit d;have b:(CS.fillN 10 c (zs c.pkDraft l).1).2.room=c.mtu:=q.2.2.1.trans t.2.1;show(CS.fillN 10 c (zs c.pkDraft l).1).2.b.length+4<=_;omega
   ·refine⟨d1,s,PLe.refl s,λd=>?_,rfl⟩;have a:=h0.fit d;have b:(zs c.pkDraft l).1.room=c.mtu:=t.2.1;show(zs c.pkDraft l).1.b.length+4<=_;omega
  obtain⟨u,h,v,z,H⟩:=hF;by_cases d:(c.pkFill (zs c.pkDraft l).1).2.fs=[]
  ·rw[if_pos d];refine⟨rfl,⟨[],?_,λp y=>(by cases y)⟩,h,v,Nat.le_of_eq C.symm⟩;show n={ n with count:=upd n.count i (c.pkFill (zs c.pkDraft l).1).1.next,bag:=n.bag++[] };rw[C,<-hc,zaB,List.append_nil]
  ·rw[if_neg d];obtain⟨k1,_⟩:=r7 d;have hfl:=z d;generalize c.pkFill (zs c.pkDraft l).1=F at *;generalize (zs c.pkDraft l).2=l2 at *;have o:dec (zcq F.2.b) = .ok c.next (F.2.fs.map canon):=by
    unfold zcq;rw[zlt,u.b];exact zpO c.next F.2.fs (by unfold zD at D;omega) (List.length_pos_iff.2 d) (λf hf=>(u.fr f hf).1)
   have A:(zcq F.2.b).length=F.2.b.length+4:=by unfold zcq;rw[List.length_append,zko]
   have s2:SOk (F.1.pkDone F.2) G:=⟨h.w,h.kf,h.sp,h.wt⟩;have p2:PLe F.1 (F.1.pkDone F.2):=⟨h.w,Nat.le_refl _,λ_ _=>Nat.le_refl _,rfl,rfl⟩;have I:(F.1.pkDone F.2).next=c.next+1:=by show F.1.next+1=_;rw[C]
   obtain⟨i1,⟨bg,i2,i3⟩,i4,J,i6⟩:=zqt m (F.1.pkDone F.2) l2 { n with count:=upd n.count i (n.count i+1),bag:=n.bag++[(1-i,zcq F.2.b)] } i k1 s2 E (by show n.mtu=F.1.mtu;rw[hm,H]) (by show upd n.count i (n.count i+1) i=_;rw[ze,hc,I]) (by show n.now=F.1.now;rw[hn,v.now]);have e:NS.flushL i (zcq F.2.b::(CS.pkts m (F.1.pkDone F.2) l2).1) n=NS.flushL i (CS.pkts m (F.1.pkDone F.2) l2).1 { n with count:=upd n.count i (n.count i+1),bag:=n.bag++[(1-i,zcq F.2.b)] }:=by
    rw[NS.flushL,o];simp only;rw[if_neg (by
     rw[A,hm,hc];rintro(x|x|x)
     ·omega
     ·exact x rfl
     ·exact d (by simpa using x)),zlI (λf hf h7=>by rw[hn,<-v.now];exact(u.fr f hf).2.2 h7)]
    rfl
   show(NS.flushL i (zcq F.2.b::(CS.pkts m (F.1.pkDone F.2) l2).1) n).1=true/\(∃bg,(NS.flushL i (zcq F.2.b::(CS.pkts m (F.1.pkDone F.2) l2).1) n).2={ n with count:=upd n.count i (CS.pkts m (F.1.pkDone F.2) l2).2.next,bag:=n.bag++bg }/\_)/\_;rw[e];refine⟨i1,⟨(1-i,zcq F.2.b)::bg,?_,λp y=>?_⟩,i4,v.trans (p2.trans J),by show c.next<=(CS.pkts m (F.1.pkDone F.2) l2).2.next;omega⟩
   ·rw[i2];have:upd (upd n.count i (n.count i+1)) i (CS.pkts m (F.1.pkDone F.2) l2).2.next=upd n.count i (CS.pkts m (F.1.pkDone F.2) l2).2.next:=by
     funext j;unfold upd;split<;>rfl
    simp only[this,List.append_assoc,List.singleton_append]
   ·rcases List.mem_cons.1 y with x|x
    ·rw[x];refine⟨rfl,⟨F.2.b,rfl⟩,c.next,_,o,by show c.next<(CS.pkts m (F.1.pkDone F.2) l2).2.next;omega,λg hg=>?_⟩;obtain⟨f,hf,rfl⟩:=List.mem_map.1 hg;exact((u.fr f hf).2.1.mono (p2.trans J).sle (λk hk=>(h.w k hk).hl) (Nat.le_refl _) (λs hs=>⟨s,hs,rfl,rfl,rfl⟩)).canon
    ·exact i3 p x
def WB(c c':CS):Prop:=∀k,zb8 (c.ws k) (c'.ws k)
theorem WB.refl(c:CS):WB c c:=λk=>zb8.refl _
theorem WB.trans{a b:CS}(h:WB a b)(k:WB b c):WB a c:=λj=>(h j).trans (k j)
theorem WB.upd(k:Nat)(h:zb8 (c.ws k) x):WB c { c with ws:=upd c.ws k x }:=λj=>by
 show zb8 (c.ws j) (Go.Proofs.YtddfdpbaiedcjaaGreatDoor.upd c.ws k x j);by_cases e:j=k
 ·subst e;rw[ze];exact h
 ·rw[zd _ _ e];exact zb8.refl _
theorem zp1(c:CS)(f:Frm):WB c (c.again f):=by
 unfold CS.again;split
 ·exact WB.upd _ ⟨rfl,rfl,rfl,rfl,rfl,rfl,rfl⟩
 ·split
  ·exact WB.upd _ ⟨rfl,rfl,rfl,rfl,rfl,rfl,rfl⟩
  ·split
   ·exact WB.refl c
   ·split<;>exact WB.refl c
theorem zil:∀(fs:List Frm) (c:CS),WB c (c.agains fs)
 | [],c=>WB.refl c
 | f::fs,c=>(zp1 c f).trans (zil fs (c.again f))
theorem zkw:∀(l:List Fly) (c:CS),WB c (c.loses l)
 | [],c=>WB.refl c
 | p::l,c=>by
  have h1:WB c (c.lose1 p):=by
   unfold CS.lose1;split
   ·exact zil _ _
   ·exact WB.refl c
  exact h1.trans (zkw l (c.lose1 p))
theorem zkx:∀(fs:List Frm) (c:CS),WB c (fs.foldl CS.ackF c)
 | [],c=>WB.refl c
 | f::fs,c=>by
  have h1:WB c (c.ackF f):=by
   unfold CS.ackF;split
   ·exact WB.upd _ ⟨rfl,rfl,rfl,rfl,rfl,rfl,rfl⟩
   ·exact WB.refl c
  exact h1.trans (zkx fs (c.ackF f))
theorem zky(rs:zA):∀(l:List Fly) (c:CS),WB c (c.ackPs rs l)
 | [],c=>WB.refl c
 | p::l,c=>by
  have h1:WB c (c.ackP rs p):=by
   unfold CS.ackP;split
   ·exact zkx _ _
   ·exact WB.refl c
  exact h1.trans (zky rs l (c.ackP rs p))
structure FlB(c c':CS):Prop where
 ws:WB c c'
 rs:∀k,k<8->∃a,c'.rs k={ c.rs k with anew:=a }
 credit:c'.credit=c.credit
 grant:c'.grant=c.grant
 waits:c'.waits=c.waits
 now:c'.now=c.now
 next:c'.next=c.next
 closed:c'.closed=c.closed
 seen:c'.seen=c.seen/\c'.most=c.most/\c'.came=c.came
 ids:c'.lastID=c.lastID/\c'.anyID=c.anyID
 got:c'.got=c.got
 cfg:c'.mtu=c.mtu/\c'.window=c.window
theorem FlB.trans{a b:CS}(h:FlB a b)(k:FlB b c):FlB a c :=
 ⟨h.ws.trans k.ws,λq d=>by
  obtain⟨x,hx⟩:=h.rs q d;obtain⟨y,hy⟩:=k.rs q d;exact⟨y,by rw[hy,hx]⟩,k.credit.trans h.credit,k.grant.trans h.grant,k.waits.trans h.waits,k.now.trans h.now,k.next.trans h.next,k.closed.trans h.closed,⟨k.seen.1.trans h.seen.1,k.seen.2.1.trans h.seen.2.1,k.seen.2.2.trans h.seen.2.2⟩,⟨k.ids.1.trans h.ids.1,k.ids.2.trans h.ids.2⟩,k.got.trans h.got,⟨k.cfg.1.trans h.cfg.1,k.cfg.2.trans h.cfg.2⟩⟩
theorem FlB.of(w:WB c c')(s:zaq c c')(l:List Fly):FlB c (c'.fly l) :=
 ⟨w,s.rs,s.tl.1,s.tl.2.1,s.tl.2.2.2.2.1,s.hd.2.2.2.1,s.hd.2.2.2.2.2.2.1,s.hd.2.2.2.2.1,⟨s.tl.2.2.2.2.2.2.2.1,s.tl.2.2.2.2.2.2.2.2.1,s.tl.2.2.2.2.2.2.2.2.2⟩,⟨s.tl.2.2.2.2.2.1,s.tl.2.2.2.2.2.2.1⟩,s.hd.2.2.2.2.2.2.2.1,⟨s.hd.1,s.hd.2.1⟩⟩
theorem zkz(c:CS):FlB c c.lose:=by
 rw[zgN];exact FlB.of (zkw c.flight c) (zcQ c.flight c) _
theorem zn0{l:zA}(h:¬c.next<=hiAt l 0):(c.acked l).1=0/\FlB c (c.acked l).2:=by
 rw[zeE c l h];refine⟨rfl,?_⟩;have h1:FlB c ({ c with largest:=max c.largest (hiAt l 0) }:CS):=⟨WB.refl c,λk _=>⟨(c.rs k).anew,rfl⟩,rfl,rfl,rfl,rfl,rfl,rfl,⟨rfl,rfl,rfl⟩,⟨rfl,rfl⟩,rfl,⟨rfl,rfl⟩⟩;have h2:FlB ({ c with largest:=max c.largest (hiAt l 0) }:CS) (c.ackedTo l):=FlB.of (zky l c.flight _) (zcR l c.flight _) _;exact h1.trans (h2.trans (zkz _))
structure Dir(a b:CS)(E:Nat->EN):Prop where
 k:∀k,k<8->zbU (a.ws k) (b.rs k) (E k)
 cr:a.credit<=b.grant
theorem Dir.flW{a c b:CS}{E:Nat->EN}(h:Dir a b E)(f:FlB a c):Dir c b E:=⟨λk hk=>(h.k k hk).same (f.ws k),by rw[f.credit];exact h.cr⟩
theorem Dir.flR{a b c:CS}{E:Nat->EN}(h:Dir a b E)(f:FlB b c):Dir a c E :=
 ⟨λk hk=>by
  obtain⟨q,e⟩:=f.rs k hk;rw[e];exact(h.k k hk).grant _ q (Nat.le_refl _),by rw[f.grant];exact h.cr⟩
theorem SOk.fl(h:SOk c G)(f:FlB c c'):SOk c' G:=by
 have hh:∀n,zG c'.ws n=zG c.ws n:=λn=>by
  induction n with
  | zero=>rfl
  | succ n ih =>
   show zG c'.ws n+(c'.ws n).high=_;rw[ih,(f.ws n).high];rfl
 refine⟨λk hk=>?_,λk hk=>?_,?_,λg hg=>?_⟩
 ·have w:=h.w k hk;have s:=f.ws k;exact⟨rfl,rfl,rfl,rfl,rfl,rfl,Nat.le_refl _,by rw[s.high,s.b];exact w.hl,by rw[s.high,s.credit];exact w.hc,by rw[s.cut,s.high,s.final];exact w.hf⟩
 ·rw[(f.ws k).keep,(f.ws k).final];exact h.kf k hk
 ·unfold CS.spent;rw[hh,f.credit];exact h.sp
 ·rw[f.waits]at hg;rw[f.now];exact h.wt g hg
def CS.Knows(c:CS)(id:Nat):Prop:=(∃p∈c.seen,p.1=id)\/(0<c.seen.length/\old c.most id=true)
structure zn1(c:CS)(G:List SN):Prop where
 nd:(G.map (·.id)).Nodup
 se:∀s∈G,s.came=true->c.Knows s.id
 ms:∀p∈c.came,∃s∈G,s.id=p.1/\s.data=p.2/\s.came=false/\c.now<=s.dl
 cn:(c.came.map (·.1)).Nodup
 kn:∀p∈c.came,c.Knows p.1
theorem zn1.same(h:zn1 c G)(e:c'.seen=c.seen/\c'.most=c.most/\c'.came=c.came)(hn:c'.now=c.now):zn1 c' G:=by
 have hk:∀id,c.Knows id->c'.Knows id:=λid x=>by
  unfold CS.Knows;rw[e.1,e.2.1];exact x
 refine⟨h.nd,λs hs q=>hk _ (h.se s hs q),λp a=>?_,by rw[e.2.2];exact h.cn,λp a=>?_⟩
 ·rw[e.2.2]at a;rw[hn];exact h.ms p a
 ·rw[e.2.2]at a;exact hk _ (h.kn p a)
theorem zp2{a id:Nat}(h:m<=a)(ho:old m id=true):old a id=true:=by
 unfold old at *;simp only[Bool.and_eq_true,decide_eq_true_eq]at *;omega
theorem zn1.message(h:zn1 c G)(hf:∃s∈G,s.id=f.id/\s.dl=f.dl/\s.data=f.data)(hm:c.seen=[]->c.most=0):zn1 (c.message f) G:=by
 unfold CS.message;split
 ·exact h
 ·rename_i hn;simp only[Bool.or_eq_true,not_or,Bool.not_eq_true,decide_eq_false_iff_not,Nat.not_lt]at hn;obtain⟨⟨u,n2⟩,v⟩:=hn;obtain⟨s,m,w,e2,e3⟩:=hf;have o:∀p∈c.seen,p.1≠f.id:=λp d e=>by
   have:(c.seen.any λp=>p.1==f.id)=true:=List.any_eq_true.2 ⟨p,d,by simp[e]⟩;rw[this]at u;cases u
  have g:0<c.seen.length->old c.most f.id=false:=λq=>by
   rw[decide_eq_true q,Bool.true_and]at v;exact v
  have i:¬c.Knows f.id:=by
   rintro(⟨p,d,e⟩|⟨q1,n⟩)
   ·exact o p d e
   ·rw[g q1]at n;cases n
  have j:old (max c.most f.id) f.id=false:=by
   by_cases h0:c.seen=[]
   ·have:=hm h0;unfold old;simp only[Bool.and_eq_false_iff,decide_eq_false_iff_not];omega
   ·have:=g (List.length_pos_iff.2 h0);unfold old at *;simp only[Bool.and_eq_false_iff,decide_eq_false_iff_not]at *;omega
  have k:(f.id,f.dl)∈(c.seen++[(f.id,f.dl)]).filter (λp => !old (max c.most f.id) p.1):=List.mem_filter.2 ⟨by simp,by simp[j]⟩;have hk:∀id,c.Knows id->CS.Knows { c with most:=max c.most f.id,seen:=(c.seen++[(f.id,f.dl)]).filter (λp => !old (max c.most f.id) p.1),came:=c.came++[(f.id,f.data)] } id:=by
   intro id r;have l:0<((c.seen++[(f.id,f.dl)]).filter (λp => !old (max c.most f.id) p.1)).length:=List.length_pos_of_mem k;by_cases t:old (max c.most f.id) id=true
   ·exact .inr ⟨l,t⟩
   ·rcases r with⟨p,d,e⟩|⟨_,n⟩
    ·exact .inl ⟨p,List.mem_filter.2 ⟨List.mem_append_left _ d,by rw[e];simpa using t⟩,e⟩
    ·exact absurd (zp2 (Nat.le_max_left _ _) n) t
  refine⟨h.nd,λs m q=>hk _ (h.se s m q),λp d=>?_,?_,λp d=>?_⟩
  ·rcases List.mem_append.1 d with x|x
   ·exact h.ms p x
   ·rw[List.mem_singleton.1 x];refine⟨s,m,w,e3,?_,by rw[e2];exact n2⟩;cases hc:s.came with
    | false=>rfl
    | true=>exact absurd (by rw[<-w];exact h.se s m hc) i
  ·show((c.came++[(f.id,f.data)]).map (·.1)).Nodup;rw[List.map_append,List.nodup_append];refine⟨h.cn,by simp,λa ha b hb e=>?_⟩;obtain⟨p,d,rfl⟩:=List.mem_map.1 ha;have hb:b=f.id:=by simpa using hb
   exact i (by rw[<-hb,<-e];exact h.kn p d)
  ·rcases List.mem_append.1 d with x|x
   ·exact hk _ (h.kn p x)
   ·rw[List.mem_singleton.1 x];exact .inl ⟨_,k,rfl⟩
structure Rc(a b:CS)(Ea Eb:Nat->EN)(Ga Gb:List SN):Prop where
 d1:Dir a b Ea
 d2:Dir b a Eb
 so:SOk b Gb
 ms:zn1 b Ga
 sm:b.seen=[]->b.most=0
structure TkB(c c':CS):Prop where
 next:c'.next=c.next
 now:c'.now=c.now
 ids:c'.lastID=c.lastID/\c'.anyID=c.anyID
 waits:c'.waits=c.waits
 cfg:c'.mtu=c.mtu/\c'.window=c.window
 sle:SLe c c'
 got:c'.got=c.got
theorem SLe.of_w(h:SOk c G)(w:∀k,k<8->zb8 (c.ws k) (c'.ws k)\/∃n,c'.ws k={ c.ws k with credit:=n })(g:c.grant<=c'.grant)(r:∀k,k<8->(c.rs k).grant<=(c'.rs k).grant):SLe c c' :=
 ⟨λk hk=>by
  rcases w k hk with x|⟨n,x⟩
  ·exact WLe.of_same x (h.w k hk).hl
  ·rw[x];exact⟨List.prefix_refl _,λ_=>rfl,Nat.le_refl _,(h.w k hk).hl,id,λe=>⟨e,rfl,Nat.le_refl _⟩,λ_ _ e a=>by rw[show({ c.ws k with credit:=n }:WS).cut=(c.ws k).cut from rfl,e]at a;cases a⟩,g,r⟩
theorem FlB.tk(h:SOk c G)(f:FlB c c'):TkB c c' :=
 ⟨f.next,f.now,f.ids,f.waits,f.cfg,SLe.of_w h (λk _=>.inl (f.ws k)) (Nat.le_of_eq f.grant.symm) (λk hk=>by obtain⟨x,e⟩:=f.rs k hk;rw[e];exact Nat.le_refl _),f.got⟩
theorem SLe.refl(h:SOk c G):SLe c c:=SLe.of_w h (λ_ _=>.inl (zb8.refl _)) (Nat.le_refl _) (λ_ _=>Nat.le_refl _)
theorem Rc.fl{a b c:CS}{d e:Nat->EN}{g i:List SN}(h:Rc a b d e g i)(f:FlB b c):Rc a c d e g i :=
 ⟨h.d1.flR f,h.d2.flW f,h.so.fl f,h.ms.same f.seen f.now,by rw[f.seen.1,f.seen.2.1];exact h.sm⟩
end Go.Proofs.YtddfdpbaiedcjaaGreatDoor
namespace Go.Proofs.YtddfdpbaiedcjaaGreatDoor
open Go.RowKit Go.Proofs.Tryz
variable{k:Nat}
theorem Rc.rs{a b:CS}{c d:Nat->EN}{f g:List SN}(h:Rc a b c d f g){x:RS}(hx:k<8->zbU (a.ws k) x (c k))(hg:x.grant=(b.rs k).grant):Rc a { b with rs:=upd b.rs k x } c d f g/\TkB b { b with rs:=upd b.rs k x }:=by
 have hr:∀j,(b.rs j).grant=(upd b.rs k x j).grant:=λj=>by
  by_cases e:j=k
  ·subst e;rw[ze];exact hg.symm
  ·rw[zd _ _ e]
 refine⟨⟨⟨λj i=>?_,h.d1.cr⟩,⟨h.d2.k,h.d2.cr⟩,⟨h.so.w,h.so.kf,h.so.sp,h.so.wt⟩,h.ms.same ⟨rfl,rfl,rfl⟩ rfl,h.sm⟩,⟨rfl,rfl,⟨rfl,rfl⟩,rfl,⟨rfl,rfl⟩,SLe.of_w h.so (λ_ _=>.inl (zb8.refl _)) (Nat.le_refl _) (λj _=>Nat.le_of_eq (hr j)),rfl⟩⟩;show zbU (a.ws j) (upd b.rs k x j) (c j);by_cases e:j=k
 ·subst e;rw[ze];exact hx i
 ·rw[zd _ _ e];exact h.d1.k j i
theorem zkA{ws:Nat->WS}{rs:Nat->RS}:∀n,(∀j,j<n->(rs j).high<=(ws j).high)->zcC rs n<=zG ws n
 | 0,_=>Nat.le_refl _
 | n+1,h=>by
  have a:=zkA n (λj hj=>h j (by omega));have b:=h n (by omega);show zcC rs n+(rs n).high<=zG ws n+(ws n).high;omega
theorem zim{ws:Nat->WS}{rs:Nat->RS}:∀n,k<n->(∀j,j<n->(rs j).high<=(ws j).high)->zcC rs n+(ws k).high<=zG ws n+(rs k).high
 | 0,hk,_=>absurd hk (Nat.not_lt_zero _)
 | n+1,hk,h=>by
  show zcC rs n+(rs n).high+(ws k).high<=zG ws n+(ws n).high+(rs k).high;have b:=h n (by omega);by_cases e:k=n
  ·subst e;have a:=zkA (ws:=ws) (rs:=rs) k (λj hj=>h j (by omega));omega
  ·have a:=zim (ws:=ws) (rs:=rs) n (by omega) (λj hj=>h j (by omega));omega
variable{n:Nat}{x:WS}
theorem zbU.credit{r:RS}{e:EN}(h:zbU x r e)(hn:n<=r.grant):zbU { x with credit:=max x.credit n } r e :=
 {h with
  hc:=Nat.le_trans h.hc (Nat.le_max_left _ _)
  cg:=Nat.max_le.2 ⟨h.cg,hn⟩ }
variable{f:Frm}
theorem Rc.take{a b:CS}{B u:Nat->EN}{s C:List SN}(h:Rc a b B u s C)(ha:SOk a s)(hf:FrR f)(ok:zij a b.next s f):(b.take f).1=0/\Rc a (b.take f).2 B u s C/\TkB b (b.take f).2:=by
 have rf:TkB b b:=⟨rfl,rfl,⟨rfl,rfl⟩,rfl,⟨rfl,rfl⟩,SLe.refl h.so,rfl⟩;unfold CS.take;split
 ·rename_i e;have h1:=hf.rngs2 e;have h2:¬b.next<=hiAt f.rngs 0:=by
   have:=ok.k2 e _ (List.mem_of_getElem? (zfZ h1));simp only at this;omega
  obtain⟨D,t⟩:=zn0 h2;exact⟨D,h.fl t,FlB.tk h.so t⟩
 ·split
  ·rename_i _ e;obtain⟨k,hk,c,h3,h4,i⟩:=ok.k3 e;have d:=h.d1.k k hk;have hb:=d.resetBad h3 h4;unfold CS.resetAt;rw[c,Int.toNat_natCast,if_neg (by rw[hb];simp)];obtain⟨v,A⟩:=h.rs (k:=k) (x:=(b.rs k).resetAt f) (λ_=>d.reset h3 h4 i) rfl;exact⟨rfl,v,A⟩
  ·split
   ·rename_i e;obtain⟨k,hk,c,h3,h4,i⟩:=ok.k4 e;have d:=h.d1.k k hk;have hb:=d.badEnd h3 i;unfold CS.data;rw[c,Int.toNat_natCast,if_neg (by rw[hb];simp),if_neg (by
     rintro⟨q1,q2⟩;have g1:=d.hc;have g2:=d.cg;have g3:=h.d1.cr;have g4:=ha.sp;have h3':f.end_<=(a.ws k).high:=h3;have g5:=zim (ws:=a.ws) (rs:=b.rs) 8 hk (λj g=>(h.d1.k j g).rh);unfold CS.spent at g4;omega)]
    obtain⟨v,A⟩:=h.rs (k:=k) (x:=(b.rs k).data f) (λ_=>d.data h3 h4 i) rfl;exact⟨rfl,v,A⟩
   ·split
    ·rename_i e;have i:=ok.k5 e;refine⟨rfl,⟨⟨h.d1.k,h.d1.cr⟩,⟨h.d2.k,Nat.max_le.2 ⟨h.d2.cr,i⟩⟩,⟨h.so.w,h.so.kf,Nat.le_trans h.so.sp (Nat.le_max_left _ _),h.so.wt⟩,h.ms.same ⟨rfl,rfl,rfl⟩ rfl,h.sm⟩,⟨rfl,rfl,⟨rfl,rfl⟩,rfl,⟨rfl,rfl⟩,SLe.of_w h.so (λ_ _=>.inl (zb8.refl _)) (Nat.le_refl _) (λ_ _=>Nat.le_refl _),rfl⟩⟩
    ·split
     ·rename_i e;obtain⟨k,hk,c,h6⟩:=ok.k6 e;rw[c,Int.toNat_natCast];have D:∀j,upd b.ws k { b.ws k with credit:=max (b.ws k).credit f.lim } j=if j=k then{ b.ws k with credit:=max (b.ws k).credit f.lim }else b.ws j:=λj=>rfl
      have l:∀n,zG (upd b.ws k { b.ws k with credit:=max (b.ws k).credit f.lim }) n=zG b.ws n:=λn=>by
       induction n with
       | zero=>rfl
       | succ n ih =>
        show zG _ n+(upd b.ws k _ n).high=zG b.ws n+(b.ws n).high;rw[ih]
        congr 1
        by_cases e:n=k
        ·subst e;rw[ze]
        ·rw[zd _ _ e]
      refine⟨rfl,⟨⟨h.d1.k,h.d1.cr⟩,⟨λj g=>?_,h.d2.cr⟩,⟨λj g=>?_,λj g=>?_,?_,h.so.wt⟩,h.ms.same ⟨rfl,rfl,rfl⟩ rfl,h.sm⟩,⟨rfl,rfl,⟨rfl,rfl⟩,rfl,⟨rfl,rfl⟩,SLe.of_w h.so (λj _=>?_) (Nat.le_refl _) (λ_ _=>Nat.le_refl _),rfl⟩⟩
      ·show zbU (upd b.ws k _ j) (a.rs j) (u j);by_cases e:j=k
       ·subst e;rw[ze];exact(h.d2.k j g).credit h6
       ·rw[zd _ _ e];exact h.d2.k j g
      ·show zg0 (upd b.ws k _ j) (upd b.ws k _ j);by_cases e:j=k
       ·subst e;rw[ze];have w:=h.so.w j g;exact⟨rfl,rfl,rfl,rfl,rfl,rfl,Nat.le_refl _,w.hl,Nat.le_trans w.hc (Nat.le_max_left _ _),w.hf⟩
       ·rw[zd _ _ e];exact h.so.w j g
      ·show(upd b.ws k _ j).keep<=(upd b.ws k _ j).final;by_cases e:j=k
       ·subst e;rw[ze];exact h.so.kf j g
       ·rw[zd _ _ e];exact h.so.kf j g
      ·show zG (upd b.ws k _) 8<=b.credit;rw[l];exact h.so.sp
      ·show zb8 (b.ws j) (upd b.ws k _ j)\/∃n,upd b.ws k _ j={ b.ws j with credit:=n };by_cases e:j=k
       ·subst e;rw[ze];exact .inr ⟨_,rfl⟩
       ·rw[zd _ _ e];exact .inl (zb8.refl _)
     ·split
      ·rename_i e;have m:=h.ms.message (ok.k7 e) h.sm;have E:(b.message f).seen=[]->(b.message f).most=0:=by
        unfold CS.message;split
        ·exact h.sm
        ·rename_i hn;simp only[Bool.or_eq_true,not_or,Bool.not_eq_true,decide_eq_false_iff_not,Nat.not_lt]at hn;intro q;exfalso;have q:(b.seen++[(f.id,f.dl)]).filter (λp => !old (max b.most f.id) p.1)=[]:=q;have o:old (max b.most f.id) f.id=false:=by
          by_cases h0:b.seen=[]
          ·have:=h.sm h0;unfold old;simp only[Bool.and_eq_false_iff,decide_eq_false_iff_not];omega
          ·have hp:=List.length_pos_iff.2 h0;have:=hn.2;rw[decide_eq_true hp,Bool.true_and]at this;unfold old at *;simp only[Bool.and_eq_false_iff,decide_eq_false_iff_not]at *;omega
         have r:(f.id,f.dl)∈(b.seen++[(f.id,f.dl)]).filter (λp => !old (max b.most f.id) p.1):=List.mem_filter.2 ⟨by simp,by simp[o]⟩;rw[q]at r;cases r
       have t:∃x y z,b.message f={ b with most:=x,seen:=y,came:=z }:=by
        unfold CS.message;split
        ·exact⟨b.most,b.seen,b.came,rfl⟩
        ·exact⟨_,_,_,rfl⟩
       obtain⟨x,y,z,e3⟩:=t;rw[e3]at m E ⊢;exact⟨rfl,⟨⟨h.d1.k,h.d1.cr⟩,⟨h.d2.k,h.d2.cr⟩,⟨h.so.w,h.so.kf,h.so.sp,h.so.wt⟩,m,E⟩,⟨rfl,rfl,⟨rfl,rfl⟩,rfl,⟨rfl,rfl⟩,SLe.of_w h.so (λ_ _=>.inl (zb8.refl _)) (Nat.le_refl _) (λ_ _=>Nat.le_refl _),rfl⟩⟩
      ·split
       ·rename_i e;exact absurd e ok.k8
       ·exact⟨rfl,h,rf⟩
theorem Rc.answer{a b:CS}{c d:Nat->EN}{e f:List SN}(h:Rc a b c d e f)(w:Bool):Rc a { b with answer:=w } c d e f :=
 ⟨⟨h.d1.k,h.d1.cr⟩,⟨h.d2.k,h.d2.cr⟩,⟨h.so.w,h.so.kf,h.so.sp,h.so.wt⟩,h.ms.same ⟨rfl,rfl,rfl⟩ rfl,h.sm⟩
variable{c:CS}
theorem TkB.trans{a b:CS}(h:TkB a b)(k:TkB b c):TkB a c:=⟨k.next.trans h.next,k.now.trans h.now,⟨k.ids.1.trans h.ids.1,k.ids.2.trans h.ids.2⟩,k.waits.trans h.waits,⟨k.cfg.1.trans h.cfg.1,k.cfg.2.trans h.cfg.2⟩,h.sle.trans k.sle,k.got.trans h.got⟩
theorem Rc.takes{a:CS}{d e:Nat->EN}{c i:List SN}(j:SOk a c):∀(fs:List Frm) (b:CS),Rc a b d e c i->(∀f∈fs,FrR f)->(∀f∈fs,zij a b.next c f)->(CS.takes fs b).1=0/\Rc a (CS.takes fs b).2 d e c i/\TkB b (CS.takes fs b).2
 | [],b,h,_,_=>⟨rfl,h,⟨rfl,rfl,⟨rfl,rfl⟩,rfl,⟨rfl,rfl⟩,SLe.refl h.so,rfl⟩⟩
 | f::fs,b,h,hr,ho=>by
  obtain⟨e1,k,l⟩:=h.take j (hr f List.mem_cons_self) (ho f List.mem_cons_self);have h2:=k.answer ((b.take f).2.answer||f.kind != 2);obtain⟨i1,i2,i3⟩:=Rc.takes j fs _ h2 (λg hg=>hr g (List.mem_cons_of_mem _ hg)) (λg hg=>by
   show zij a (b.take f).2.next c g;rw[l.next];exact ho g (List.mem_cons_of_mem _ hg))
  unfold CS.takes;rw[if_neg (by rw[e1];simp)];have r:=SLe.refl k.so;have h3:TkB (b.take f).2 { (b.take f).2 with answer:=(b.take f).2.answer||f.kind != 2 }:=⟨rfl,rfl,⟨rfl,rfl⟩,rfl,⟨rfl,rfl⟩,⟨r.ws,r.grant,r.rg⟩,rfl⟩;exact⟨i1,i2,l.trans (h3.trans i3)⟩
structure GrIn(c:CS)(G:List SN):Prop where
 ok:zn1 c G
 cm:c.came=[]
 sm:c.seen=[]->c.most=0
structure DgOk(c:CS)(G:List SN)(nx:Nat):Prop where
 id:c.anyID=true->c.lastID<nx
 gi:∀s∈G,s.id<nx
 wl:c.waits.length<=G.length
def zlQ(G G':List SN):Prop:=∀s∈G,∃s'∈G',s'.id=s.id/\s'.dl=s.dl/\s'.data=s.data
theorem zlQ.refl(G:List SN):zlQ G G:=λs hs=>⟨s,hs,rfl,rfl,rfl⟩
structure NS.Safe(n:NS):Prop where
 d:∀i,i<2->Dir (n.c i) (n.c (1-i)) (n.e i)
 so:∀i,i<2->SOk (n.c i) (n.g i)
 gr:∀i,i<2->GrIn (n.c i) (n.g (1-i))
 dg:∀i,i<2->DgOk (n.c i) (n.g i) (n.next i)
 now:∀i,i<2->(n.c i).now=n.now
 mtu:∀i,i<2->(n.c i).mtu=n.mtu
 ct:∀i,i<2->n.count i=(n.c i).next
 got:∀i,i<2->∀r∈(n.c i).got.rs,r.2<(n.c (1-i)).next
 bag:∀p∈n.bag,p.1<2/\zdb (n.c (1-p.1)) (n.c p.1).next (n.g (1-p.1)) p.2
 up:n.Up
variable{i j:Nat}
theorem zfN(hi:i<2)(hj:j<2):j=i\/j=1-i:=by omega
structure zjH(n n':NS)(i:Nat):Prop where
 o:n'.c (1-i)=n.c (1-i)
 l:SLe (n.c i) (n'.c i)
 x:(n.c i).next<=(n'.c i).next
 d1:Dir (n'.c i) (n.c (1-i)) (n'.e i)
 d2:Dir (n.c (1-i)) (n'.c i) (n'.e (1-i))
 so:SOk (n'.c i) (n'.g i)
 g1:zlQ (n.g i) (n'.g i)
 g2:zlQ (n.g (1-i)) (n'.g (1-i))
 gl:(n.g (1-i)).length=(n'.g (1-i)).length
 gr:GrIn (n'.c i) (n'.g (1-i))
 gs:zn1 (n.c (1-i)) (n'.g i)
 dg:DgOk (n'.c i) (n'.g i) (n'.next i)
 di:∀s∈n'.g (1-i),s.id<n'.next (1-i)
 nx:n'.next (1-i)=n.next (1-i)
 now:(n'.c i).now=n.now/\n'.now=n.now
 mtu:(n'.c i).mtu=n.mtu/\n'.mtu=n.mtu
 ct:n'.count i=(n'.c i).next/\n'.count (1-i)=n.count (1-i)
 got:∀r∈(n'.c i).got.rs,r.2<(n.c (1-i)).next
 bag:∀p∈n'.bag,p∈n.bag\/(p.1<2/\zdb (n'.c (1-p.1)) (n'.c p.1).next (n'.g (1-p.1)) p.2)
 up:(n'.c i).closed=0
theorem NS.Safe.turn{n n':NS}(h:n.Safe)(hi:i<2)(t:zjH n n' i):n'.Safe:=by
 have m:1-(1-i)=i:=by omega
 have u:1-i<2:=by omega
 have v:SOk (n.c (1-i)) (n'.g (1-i)):=by
  have s:=h.so (1-i) u;exact⟨s.w,s.kf,s.sp,λf hf=>by
   obtain⟨a,b,s0,hs,e1,e2,e3⟩:=s.wt f hf;obtain⟨s1,y,f1,f2,f3⟩:=t.g2 s0 hs;exact⟨a,b,s1,y,f1.trans e1,f2.trans e2,f3.trans e3⟩⟩
 have pk:∀p:Nat×List UInt8,p.1<2->zdb (n.c (1-p.1)) (n.c p.1).next (n.g (1-p.1)) p.2->zdb (n'.c (1-p.1)) (n'.c p.1).next (n'.g (1-p.1)) p.2:=λp z q=>by
  rcases zfN hi z with e|e
  ·rw[e]at q ⊢;rw[t.o];exact q.mono (SLe.refl (h.so (1-i) u)) (λk hk=>((h.so (1-i) u).w k hk).hl) (Nat.le_refl _) t.x t.g2
  ·rw[e,m]at q ⊢;rw[t.o];exact q.mono t.l (λk hk=>((h.so i hi).w k hk).hl) t.x (Nat.le_refl _) t.g1
 refine⟨λj d=>?_,λj d=>?_,λj d=>?_,λj d=>?_,λj d=>?_,λj d=>?_,λj d=>?_,λj d=>?_,λp z=>?_,λj d=>?_⟩
 ·rcases zfN hi d with e|e
  ·rw[e,t.o];exact t.d1
  ·rw[e,m,t.o];exact t.d2
 ·rcases zfN hi d with e|e
  ·rw[e];exact t.so
  ·rw[e,t.o];exact v
 ·rcases zfN hi d with e|e
  ·rw[e];exact t.gr
  ·rw[e,m,t.o];exact⟨t.gs,(h.gr (1-i) u).cm,(h.gr (1-i) u).sm⟩
 ·rcases zfN hi d with e|e
  ·rw[e];exact t.dg
  ·rw[e,t.o];have a:=h.dg (1-i) u;exact⟨by rw[t.nx];exact a.id,t.di,by rw[<-t.gl];exact a.wl⟩
 ·rcases zfN hi d with e|e
  ·rw[e,t.now.2];exact t.now.1
  ·rw[e,t.o,t.now.2];exact h.now _ u
 ·rcases zfN hi d with e|e
  ·rw[e,t.mtu.2];exact t.mtu.1
  ·rw[e,t.o,t.mtu.2];exact h.mtu _ u
 ·rcases zfN hi d with e|e
  ·rw[e];exact t.ct.1
  ·rw[e,t.o,t.ct.2];exact h.ct _ u
 ·rcases zfN hi d with e|e
  ·rw[e,t.o];exact t.got
  ·rw[e,t.o,m];intro r hr;have:=h.got _ u r hr;rw[m]at this;have:=t.x;omega
 ·rcases t.bag p z with q|q
  ·obtain⟨a,b⟩:=h.bag p q;exact⟨a,pk p a b⟩
  ·exact q
 ·rcases zfN hi d with e|e
  ·rw[e];exact t.up
  ·rw[e,t.o];exact h.up _ u
theorem NS.setC_self(n:NS)(i:Nat):n.setC i (n.c i)=n:=by unfold NS.setC;rw[zaB]
theorem NS.setC_c(n:NS)(i:Nat)(c:CS):(n.setC i c).c i=c:=by show upd n.c i c i=c;rw[ze]
theorem NS.setC_o(n:NS)(hi:i<2)(c:CS):(n.setC i c).c (1-i)=n.c (1-i):=by show upd n.c i c (1-i)=_;rw[zd _ _ (by omega)]
variable{c':CS}
theorem zjH.user{n:NS}(h:n.Safe)(hi:i<2){E:Nat->Nat->EN}(l:SLe (n.c i) c')(x:c'.next=(n.c i).next)(d1:Dir c' (n.c (1-i)) (E i))(d2:Dir (n.c (1-i)) c' (E (1-i)))(so:SOk c' (n.g i))(sn:c'.seen=(n.c i).seen/\c'.most=(n.c i).most/\c'.came=(n.c i).came)
  (ids:c'.lastID=(n.c i).lastID/\c'.anyID=(n.c i).anyID) (wt:c'.waits=(n.c i).waits) (now:c'.now=(n.c i).now) (mtu:c'.mtu=(n.c i).mtu) (got:c'.got=(n.c i).got) (cl:c'.closed=(n.c i).closed):zjH n { n.setC i c' with e:=E } i:=by
 have ec:({ n.setC i c' with e:=E }:NS).c i=c':=NS.setC_c n i c';have d:1-i<2:=by omega
 have g0:=h.gr i hi;have a:=h.dg i hi;have f:=h.gr (1-i) d;have b:1-(1-i)=i:=by omega
 rw[b]at f;refine⟨NS.setC_o n hi c',?_,?_,?_,?_,?_,zlQ.refl _,zlQ.refl _,rfl,?_,f.ok,?_,(h.dg (1-i) d).gi,rfl,⟨?_,rfl⟩,⟨?_,rfl⟩,⟨?_,rfl⟩,?_,λp hp=>.inl hp,?_⟩;all_goals rw[ec]
 ·exact l
 ·exact Nat.le_of_eq x.symm
 ·exact d1
 ·exact d2
 ·exact so
 ·exact⟨g0.ok.same sn now,sn.2.2.trans g0.cm,by rw[sn.1,sn.2.1];exact g0.sm⟩
 ·exact⟨by rw[ids.1,ids.2];exact a.id,a.gi,by rw[wt];exact a.wl⟩
 ·exact now.trans (h.now i hi)
 ·exact mtu.trans (h.mtu i hi)
 ·rw[x];exact h.ct i hi
 ·rw[got];exact h.got i hi
 ·rw[cl];exact h.up i hi
variable{y:WS}
theorem NS.Safe.writer{n:NS}(h:n.Safe)(hi:i<2)(hk:k<8){f:EN}(l:WLe ((n.c i).ws k) y)(hh:y.high=((n.c i).ws k).high)(d:zbU y ((n.c (1-i)).rs k) f)(kf:y.keep<=y.final):((n.setC i { n.c i with ws:=upd (n.c i).ws k y }).setE i k f).Safe:=by
 have a:1-i<2:=by omega
 have hd:=h.d i hi;have b:=h.d (1-i) a;have so:=h.so i hi;have g:1-(1-i)=i:=by omega
 rw[g]at b;have t:zjH n { n.setC i { n.c i with ws:=upd (n.c i).ws k y }with e:=upd n.e i (upd (n.e i) k f) } i:=by
  refine zjH.user h hi (c':={ n.c i with ws:=upd (n.c i).ws k y }) ⟨λj a=>?_,Nat.le_refl _,λ_ _=>Nat.le_refl _⟩ rfl ⟨λj a=>?_,hd.cr⟩ ?_ ⟨λj a=>?_,λj a=>?_,?_,so.wt⟩ ⟨rfl,rfl,rfl⟩ ⟨rfl,rfl⟩ rfl rfl rfl rfl rfl
  ·show WLe ((n.c i).ws j) (upd (n.c i).ws k y j);by_cases e:j=k
   ·subst e;rw[ze];exact l
   ·rw[zd _ _ e];exact(so.w j a).le
  ·show zbU (upd (n.c i).ws k y j) ((n.c (1-i)).rs j) (upd n.e i (upd (n.e i) k f) i j);rw[ze];by_cases e:j=k
   ·subst e;rw[ze,ze];exact d
   ·rw[zd _ _ e,zd _ _ e];exact hd.k j a
  ·show Dir (n.c (1-i)) _ (upd n.e i (upd (n.e i) k f) (1-i));rw[zd _ _ (show 1-i≠i by omega)];exact⟨b.k,b.cr⟩
  ·show zg0 (upd (n.c i).ws k y j) (upd (n.c i).ws k y j);by_cases e:j=k
   ·subst e;rw[ze];exact d.wput
   ·rw[zd _ _ e];exact so.w j a
  ·show(upd (n.c i).ws k y j).keep<=(upd (n.c i).ws k y j).final;by_cases e:j=k
   ·subst e;rw[ze];exact kf
   ·rw[zd _ _ e];exact so.kf j a
  ·have:=zea (n.c i).ws k y 8 hk;have:=so.sp;unfold CS.spent at *;show zG (upd (n.c i).ws k y) 8<=(n.c i).credit;omega
 exact h.turn hi t
theorem zft{n:NS}(h:n.Safe)(hi:i<2)(hk:k<8):(n.c i).stream (k:Int)=0:=by
 unfold CS.stream;rw[if_neg (by rw[h.up i hi];simp),if_neg (by omega)]
theorem NS.Safe.send{n:NS}(h:n.Safe)(hi:i<2)(hk:k<8)(s:List UInt8):(n.send i k s).1=true/\(n.send i k s).2.Safe:=by
 have d:=(h.d i hi).k k hk;have a:=zft h hi hk;have so:=h.so i hi;unfold NS.send;by_cases h1:((n.e i k).fin||(n.e i k).cut)=true
 ·have hc:(n.c i).send k s=(4,n.c i):=by
   unfold CS.send;rw[if_neg (by rw[a];simp),Int.toNat_natCast,if_pos (by rw[<-d.fi,<-d.cu];exact h1)]
  rw[if_pos h1,hc,NS.setC_self];exact⟨rfl,h⟩
 ·rw[if_neg h1];by_cases h2:2048<(n.e i k).wrote.length+s.length
  ·have hc:(n.c i).send k s=(3,n.c i):=by
    unfold CS.send;rw[if_neg (by rw[a];simp),Int.toNat_natCast,if_neg (by rw[<-d.fi,<-d.cu];exact h1),if_pos (by rw[<-d.wr];exact h2)]
   rw[if_pos h2,hc,NS.setC_self];exact⟨rfl,h⟩
  ·have hc:(n.c i).send k s=(0,{ n.c i with ws:=upd (n.c i).ws k { (n.c i).ws k with b:=((n.c i).ws k).b++s } }):=by
    unfold CS.send;rw[if_neg (by rw[a];simp),Int.toNat_natCast,if_neg (by rw[<-d.fi,<-d.cu];exact h1),if_neg (by rw[<-d.wr];exact h2)]
   rw[if_neg h2,hc];rw[d.fi,d.cu]at h1;simp only[Bool.not_eq_true,Bool.or_eq_false_iff]at h1;have hl:=d.hl;rw[d.wr]at h2;have l:WLe ((n.c i).ws k) { (n.c i).ws k with b:=((n.c i).ws k).b++s } :=
    ⟨List.prefix_append _ _,λq=>(by rw[h1.1,h1.2]at q;simp at q),Nat.le_refl _,by show _<=(_++s).length;rw[List.length_append];show((n.c i).ws k).high<=_;omega,id,λq=>(by rw[h1.2]at q;cases q),λq=>(by rw[h1.1]at q;cases q)⟩
   refine⟨rfl,h.writer hi hk l rfl (d.wle l (by show(_++s).length<=_;rw[List.length_append];omega) d.hc d.cg d.hf ?_ d.fi d.cu d.ke rfl rfl) (so.kf k hk)⟩;show(n.e i k).wrote++s=_;rw[d.wr]
theorem NS.Safe.finish{n:NS}(h:n.Safe)(hi:i<2)(hk:k<8):(n.finish i k).1=true/\(n.finish i k).2.Safe:=by
 have d:=(h.d i hi).k k hk;have a:=zft h hi hk;have so:=h.so i hi;unfold NS.finish;by_cases h1:((n.e i k).fin||(n.e i k).cut)=true
 ·have hc:(n.c i).finish k=(4,n.c i):=by
   unfold CS.finish;rw[if_neg (by rw[a];simp),Int.toNat_natCast,if_pos (by rw[<-d.fi,<-d.cu];exact h1)]
  rw[if_pos h1,hc,NS.setC_self];exact⟨rfl,h⟩
 ·have hc:(n.c i).finish k=(0,{ n.c i with ws:=upd (n.c i).ws k { (n.c i).ws k with finished:=true } }):=by
   unfold CS.finish;rw[if_neg (by rw[a];simp),Int.toNat_natCast,if_neg (by rw[<-d.fi,<-d.cu];exact h1)]
  rw[if_neg h1,hc];rw[d.fi,d.cu]at h1;simp only[Bool.not_eq_true,Bool.or_eq_false_iff]at h1;have l:WLe ((n.c i).ws k) { (n.c i).ws k with finished:=true } :=
   ⟨List.prefix_refl _,λ_=>rfl,Nat.le_refl _,d.hl,λ_=>rfl,λq=>⟨q,rfl,Nat.le_refl _⟩,λq=>(by rw[h1.1]at q;cases q)⟩
  exact⟨rfl,h.writer hi hk l rfl (d.wle l d.bl d.hc d.cg d.hf d.wr rfl d.cu d.ke rfl rfl) (so.kf k hk)⟩
theorem NS.Safe.read{n:NS}(h:n.Safe)(hi:i<2)(hk:k<8)(most:Nat):(n.read i k most).1=true/\(n.read i k most).2.Safe:=by
 have l:1-i<2:=by omega
 have m:1-(1-i)=i:=by omega
 have g:=h.d (1-i) l;rw[m]at g;have d:=g.k k hk;have d1:=h.d i hi;have so:=h.so i hi;have o:=zft h hi hk;have step:∀(x:RS) (f:EN),zbU ((n.c (1-i)).ws k) x f->x.grant=((n.c i).rs k).grant->((n.setC i { n.c i with rs:=upd (n.c i).rs k x }).setE (1-i) k f).Safe:=by
  intro x f dx hg;have hr:∀j,((n.c i).rs j).grant=(upd (n.c i).rs k x j).grant:=λj=>by
   by_cases e:j=k
   ·subst e;rw[ze];exact hg.symm
   ·rw[zd _ _ e]
  have t:zjH n { n.setC i { n.c i with rs:=upd (n.c i).rs k x }with e:=upd n.e (1-i) (upd (n.e (1-i)) k f) } i:=by
   refine zjH.user h hi (c':={ n.c i with rs:=upd (n.c i).rs k x }) (SLe.of_w so (λ_ _=>.inl (zb8.refl _)) (Nat.le_refl _) (λj _=>Nat.le_of_eq (hr j))) rfl ?_ ⟨λj l=>?_,g.cr⟩ ⟨so.w,so.kf,so.sp,so.wt⟩ ⟨rfl,rfl,rfl⟩ ⟨rfl,rfl⟩ rfl rfl rfl rfl rfl
   ·rw[zd _ _ (show i≠1-i by omega)];exact⟨d1.k,d1.cr⟩
   ·show zbU ((n.c (1-i)).ws j) (upd (n.c i).rs k x j) (upd n.e (1-i) (upd (n.e (1-i)) k f) (1-i) j);rw[ze];by_cases e:j=k
    ·subst e;rw[ze,ze];exact dx
    ·rw[zd _ _ e,zd _ _ e];exact g.k j l
  exact h.turn hi t
 by_cases h0:((n.c i).rs k).state=0
 ·obtain⟨a,b,e⟩:=d.read0 most h0;have hc:(n.c i).read (k:Int) (most:Int)=(((((n.c i).rs k).b.drop ((n.c i).rs k).read).take (((n.c i).rs k).readTo most-((n.c i).rs k).read),((n.c i).rs k).stateAt (((n.c i).rs k).readTo most),0),{ n.c i with rs:=upd (n.c i).rs k { (n.c i).rs k with read:=((n.c i).rs k).readTo most,state:=((n.c i).rs k).stateAt (((n.c i).rs k).readTo most) } }):=by
   unfold CS.read;rw[if_neg (by rw[o];simp),Int.toNat_natCast,Int.toNat_natCast,if_neg (by rw[h0];simp)]
  unfold NS.read;rw[hc,if_neg (λq=>by have:=a.symm.trans q;cases this)];exact⟨b,step _ _ e rfl⟩
 ·obtain⟨a,b,e⟩:=d.read1 most h0;have hc:(n.c i).read (k:Int) (most:Int)=(([],((n.c i).rs k).state,0),n.c i):=by
   unfold CS.read;rw[if_neg (by rw[o];simp),Int.toNat_natCast,if_pos h0]
  unfold NS.read;rw[hc,if_neg (λq=>by have:=a.symm.trans q;cases this)];refine⟨b,?_⟩;have:=step _ _ e rfl;rw[zaB]at this;exact this
variable{T:Nat}
theorem NS.Safe.flush{n:NS}(h:n.Safe)(hI:n.Inv T)(v:T<=zaV)(hi:i<2):(n.flush i).1=true/\(n.flush i).2.Safe:=by
 have o:1-i<2:=by omega
 have l:1-(1-i)=i:=by omega
 have pk:=(h.d i hi);have hk:=(hI.c i hi).pkOk v;have y:=(hI.c i hi).pkPost v;have so:=h.so i hi;have g0:=h.gr i hi;have q:=h.dg i hi;have z:=h.gr (1-i) o;have d2:=h.d (1-i) o;rw[l]at z d2;have b:=h.got i hi;have a0:SOk (n.c i).acks.2 (n.g i)/\(∀r∈(n.c i).acks.1,r.2<(n.c (1-i)).next)/\(∃w,(n.c i).acks.2={ n.c i with answer:=w }):=by
  unfold CS.acks;split
  ·exact⟨⟨so.w,so.kf,so.sp,so.wt⟩,λr s=>b r (List.mem_reverse.1 s),_,rfl⟩
  ·exact⟨so,λr s=>(by cases s),(n.c i).answer,rfl⟩
 obtain⟨a1,a2,w,A⟩:=a0;have t:(n.c i).acks.2.mtu=(n.c i).mtu/\(n.c i).acks.2.next=(n.c i).next/\(n.c i).acks.2.now=(n.c i).now:=by rw[A];exact⟨rfl,rfl,rfl⟩
 obtain⟨p1,⟨bg,p2,p3⟩,p4,f,u⟩:=zqt (nx:=(n.c (1-i)).next) (G:=n.g i) (12-(n.c i).flight.length+(n.c i).acks.1.length+1) (n.c i).acks.2 (n.c i).acks.1 (n.setC i (n.c i).packets.2) i hk a1 a2 (by rw[t.1];exact(h.mtu i hi).symm) (by rw[t.2.1];exact h.ct i hi) (by rw[t.2.2];exact(h.now i hi).symm);have m:CS.pkts (12-(n.c i).flight.length+(n.c i).acks.1.length+1) (n.c i).acks.2 (n.c i).acks.1=(n.c i).packets:=rfl;rw[m]at p1 p2 p3 p4 f u;have j:=y.but;clear y hk m;rw[A]at f u j;unfold NS.flush;refine⟨p1,?_⟩;rw[p2];obtain⟨b1,b2,b3,B,b5,b6,b7,b8⟩:=j.hd;obtain⟨t1,t2,t3,t4,C,D,E⟩:=j.tl;have bw:=j.wl;have br:=j.rs;clear j;generalize (n.c i).packets.2=c2 at *;have F:({ n.setC i c2 with count:=upd n.count i c2.next,bag:=n.bag++bg }:NS).c i=c2:=NS.setC_c n i c2;have H:({ n.setC i c2 with count:=upd n.count i c2.next,bag:=n.bag++bg }:NS).c (1-i)=n.c (1-i):=NS.setC_o n hi c2;refine h.turn (n':={ n.setC i c2 with count:=upd n.count i c2.next,bag:=n.bag++bg }) hi ⟨H,?_,?_,?_,?_,?_,zlQ.refl _,zlQ.refl _,rfl,?_,z.ok,?_,(h.dg (1-i) o).gi,rfl,⟨?_,rfl⟩,⟨?_,rfl⟩,⟨?_,?_⟩,?_,λp hp=>?_,?_⟩;all_goals try rw[F]
 ·exact⟨f.sle.ws,f.sle.grant,f.sle.rg⟩
 ·exact u
 ·exact⟨λk hk=>(pk.k k hk).put (f.ws k hk),by rw[t1];exact pk.cr⟩
 ·refine⟨λk hk=>?_,Nat.le_trans d2.cr f.grant⟩;obtain⟨g,a,e,_⟩:=br k hk;have hg:=f.rg k hk;rw[e]at hg ⊢;exact(d2.k k hk).grant g a hg
 ·exact p4
 ·exact⟨g0.ok.same ⟨C,D,E⟩ B,E.trans g0.cm,by rw[C,D];exact g0.sm⟩
 ·exact⟨by rw[t3,t4];exact q.id,q.gi,Nat.le_trans bw q.wl⟩
 ·exact B.trans (h.now i hi)
 ·exact b1.trans (h.mtu i hi)
 ·show upd n.count i c2.next i=_;rw[ze]
 ·show upd n.count i c2.next (1-i)=_;rw[zd _ _ (by omega)]
 ·rw[b7];exact b
 ·rcases List.mem_append.1 hp with x|x
  ·exact .inl x
  ·obtain⟨x1,x2⟩:=p3 p x;refine .inr ⟨by omega,?_⟩;rw[x1,l,F,H];exact x2
 ·rw[b5];exact h.up i hi
def zgX(id:Nat)(s:SN):SN:=if s.id=id then{ s with came:=true }else s
theorem zfu(now id:Nat)(data:List UInt8):∀(G:List SN) (r:Bool),(zba now id data G r).2=G.map (zgX id)
 | [],_=>rfl
 | g::l,r=>by
  unfold zba;split
  ·rename_i e;simp only[List.map_cons,zfu now id data l];unfold zgX;rw[if_pos e]
  ·rename_i e;simp only[List.map_cons,zfu now id data l];unfold zgX;rw[if_neg e]
theorem zgj(now id:Nat)(data:List UInt8):∀(G:List SN) (r:Bool),(∀s∈G,s.id≠id)->(zba now id data G r).1=r
 | [],_,_=>rfl
 | g::l,r,h=>by
  unfold zba;rw[if_neg (h g List.mem_cons_self)];exact zgj now id data l r (λs hs=>h s (List.mem_cons_of_mem _ hs))
theorem zin(now id:Nat)(data:List UInt8):∀(G:List SN) (r:Bool),(G.map (·.id)).Nodup->(∃s∈G,s.id=id/\s.data=data/\s.came=false/\now<=s.dl)->(zba now id data G r).1=true
 | [],_,_,h=>by obtain⟨s,a,_⟩:=h;cases a
 | g::l,r,nd,h=>by
  rw[List.map_cons,List.nodup_cons]at nd;obtain⟨s,a,c,d,f,i⟩:=h;unfold zba;by_cases e:g.id=id
  ·rw[if_pos e];have b:∀s∈l,s.id≠id:=λs a q=>nd.1 (by rw[e,<-q];exact List.mem_map.2 ⟨s,a,rfl⟩)
   rcases List.mem_cons.1 a with x|x
   ·subst x;show(zba now id data l _).1=true;rw[zgj now id data l _ b,d,f];simp[i]
   ·exact absurd c (b s x)
  ·rw[if_neg e];rcases List.mem_cons.1 a with x|x
   ·subst x;exact absurd c e
   ·exact zin now id data l r nd.2 ⟨s,x,c,d,f,i⟩
structure zp3(l:List (Nat×List UInt8))(f:SN->SN):Prop where
 id:∀s,(f s).id=s.id
 dl:∀s,(f s).dl=s.dl
 data:∀s,(f s).data=s.data
 no:∀s,(f s).came=true->s.came=true\/∃p∈l,p.1=s.id
 old:∀s,s.came=true->(f s).came=true
 yes:∀s,(∃p∈l,p.1=s.id)->(f s).came=true
theorem zlJ{m:Nat×List UInt8}{l:List (Nat×List UInt8)}{f:SN->SN}(h:zp3 l f):zp3 (m::l) (λs=>f (zgX m.1 s)):=by
 have e:∀s,(zgX m.1 s).id=s.id/\(zgX m.1 s).dl=s.dl/\(zgX m.1 s).data=s.data/\((zgX m.1 s).came=true->s.came=true\/m.1=s.id)/\(s.came=true->(zgX m.1 s).came=true)/\(m.1=s.id->(zgX m.1 s).came=true):=λs=>by
  unfold zgX;split
  ·rename_i q;exact⟨rfl,rfl,rfl,λ_=>.inr q.symm,λ_=>rfl,λ_=>rfl⟩
  ·rename_i q;exact⟨rfl,rfl,rfl,λx=>.inl x,id,λx=>absurd x.symm q⟩
 refine⟨λs=>(h.id _).trans (e s).1,λs=>(h.dl _).trans (e s).2.1,λs=>(h.data _).trans (e s).2.2.1,λs q=>?_,λs q=>h.old _ ((e s).2.2.2.2.1 q),λs ⟨p,hp,q⟩=>?_⟩
 ·rcases h.no _ q with x|⟨p,hp,x⟩
  ·rcases(e s).2.2.2.1 x with y|y
   ·exact .inl y
   ·exact .inr ⟨m,List.mem_cons_self,y⟩
  ·exact .inr ⟨p,List.mem_cons_of_mem _ hp,x.trans (e s).1⟩
 ·rcases List.mem_cons.1 hp with x|x
  ·subst x;exact h.old _ ((e s).2.2.2.2.2 q)
  ·exact h.yes _ ⟨p,x,q.trans (e s).1.symm⟩
theorem zkB(now:Nat):∀(l:List (Nat×List UInt8)) (G:List SN),(G.map (·.id)).Nodup->(l.map (·.1)).Nodup->(∀p∈l,∃s∈G,s.id=p.1/\s.data=p.2/\s.came=false/\now<=s.dl)->(zcD now l G).1=true/\∃f,(zcD now l G).2=G.map f/\zp3 l f
 | [],G,_,_,_=>⟨rfl,id,by show G=G.map _;rw[List.map_id],⟨λ_=>rfl,λ_=>rfl,λ_=>rfl,λ_ h=>.inl h,λ_ h=>h,λs ⟨p,hp,_⟩=>(by cases hp)⟩⟩
 | m::l,G,nd,nl,h=>by
  have h1:=zin now m.1 m.2 G false nd (h m List.mem_cons_self);have h2:=zfu now m.1 m.2 G false;rw[List.map_cons,List.nodup_cons]at nl;have a:∀s,(zgX m.1 s).id=s.id:=λs=>by unfold zgX;split<;>rfl
  have b:((G.map (zgX m.1)).map (·.id)).Nodup:=by
   rw[List.map_map];have:((λx=>x.id) ∘ zgX m.1)=(λx:SN=>x.id):=by funext s;exact a s
   rw[this];exact nd
  obtain⟨i1,f,i2,i3⟩:=zkB now l (G.map (zgX m.1)) b nl.2 (λp hp=>by
   obtain⟨s,hs,d,e2,e3,e4⟩:=h p (List.mem_cons_of_mem _ hp);have c:s.id≠m.1:=λq=>nl.1 (by rw[<-q,d];exact List.mem_map.2 ⟨p,hp,rfl⟩)
   have em:zgX m.1 s=s:=by unfold zgX;rw[if_neg c]
   exact⟨s,List.mem_map.2 ⟨s,hs,em⟩,d,e2,e3,e4⟩)
  unfold zcD;rw[if_pos h1,h2];exact⟨i1,λs=>f (zgX m.1 s),by rw[i2,List.map_map];rfl,zlJ i3⟩
theorem zn2{n:NS}(h:n.Safe)(hi:i<2):Rc (n.c (1-i)) (n.c i) (n.e (1-i)) (n.e i) (n.g (1-i)) (n.g i):=by
 have hj:1-i<2:=by omega
 have a:1-(1-i)=i:=by omega
 have d:=h.d (1-i) hj;rw[a]at d;exact⟨d,h.d i hi,h.so i hi,(h.gr i hi).ok,(h.gr i hi).sm⟩
theorem NS.Safe.took{n:NS}(h:n.Safe)(hi:i<2){c2:CS}(r:Rc (n.c (1-i)) c2 (n.e (1-i)) (n.e i) (n.g (1-i)) (n.g i))(l:SLe (n.c i) c2)(x:c2.next=(n.c i).next)(ids:c2.lastID=(n.c i).lastID/\c2.anyID=(n.c i).anyID)(wt:c2.waits=(n.c i).waits)
  (now:c2.now=(n.c i).now) (mtu:c2.mtu=(n.c i).mtu) (got:∀r∈c2.got.rs,r.2<(n.c (1-i)).next) (cl:c2.closed=0):((n.setC i c2).came i).1=true/\((n.setC i c2).came i).2.Safe/\∃f,((n.setC i c2).came i).2={ n.setC i { c2 with came:=[] }with g:=upd n.g (1-i) ((n.g (1-i)).map f) }/\zp3 c2.came f:=by
 have A:1-i<2:=by omega
 have u:1-(1-i)=i:=by omega
 have g0:=r.ms;have v:=h.dg i hi;have B:=h.gr (1-i) A;rw[u]at B;have C:c2.now=n.now:=now.trans (h.now i hi);obtain⟨m1,f,m2,m⟩:=zkB n.now c2.came (n.g (1-i)) g0.nd g0.cn (λp a=>by rw[<-C];exact g0.ms p a);have es:(n.setC i c2).c i=c2:=NS.setC_c n i c2;have e0:((n.setC i c2).came i).1=(zcD n.now c2.came (n.g (1-i))).1:=by
  unfold NS.came CS.datagramsOut;rw[es];rfl
 have D:((n.setC i c2).came i).2={ n.setC i { c2 with came:=[] }with g:=upd n.g (1-i) ((n.g (1-i)).map f) }:=by
  unfold NS.came CS.datagramsOut;rw[es];have eu:(n.setC i c2).setC i { c2 with came:=[] }=n.setC i { c2 with came:=[] }:=by
   unfold NS.setC;have:upd (upd n.c i c2) i { c2 with came:=[] }=upd n.c i { c2 with came:=[] }:=by
    funext j;unfold upd;split<;>rfl
   simp only[this]
  show{ (n.setC i c2).setC i { c2 with came:=[] }with g:=upd n.g (1-i) (zcD n.now c2.came (n.g (1-i))).2 }=_;rw[eu,m2]
 refine⟨e0.trans m1,?_,f,D,m⟩;rw[D];have ec:({ n.setC i { c2 with came:=[] }with g:=upd n.g (1-i) ((n.g (1-i)).map f) }:NS).c i={ c2 with came:=[] }:=NS.setC_c n i _;have b:upd n.g (1-i) ((n.g (1-i)).map f) i=n.g i:=zd _ _ (by omega);have d:upd n.g (1-i) ((n.g (1-i)).map f) (1-i)=(n.g (1-i)).map f:=ze _ _ _;refine h.turn (n':={ n.setC i { c2 with came:=[] }with g:=upd n.g (1-i) ((n.g (1-i)).map f) }) hi ⟨NS.setC_o n hi _,?_,?_,?_,?_,?_,?_,?_,?_,?_,?_,?_,?_,rfl,⟨?_,rfl⟩,⟨?_,rfl⟩,⟨?_,rfl⟩,?_,λp a=>.inl a,?_⟩;all_goals try rw[ec]
 ·exact⟨l.ws,l.grant,l.rg⟩
 ·exact Nat.le_of_eq x.symm
 ·exact⟨r.d2.k,r.d2.cr⟩
 ·exact⟨r.d1.k,r.d1.cr⟩
 ·show SOk _ (upd n.g (1-i) ((n.g (1-i)).map f) i);rw[b];exact⟨r.so.w,r.so.kf,r.so.sp,r.so.wt⟩
 ·show zlQ (n.g i) (upd n.g (1-i) ((n.g (1-i)).map f) i);rw[b];exact zlQ.refl _
 ·show zlQ (n.g (1-i)) (upd n.g (1-i) ((n.g (1-i)).map f) (1-i));rw[d];exact λs t=>⟨f s,List.mem_map.2 ⟨s,t,rfl⟩,m.id s,m.dl s,m.data s⟩
 ·show _=(upd n.g (1-i) ((n.g (1-i)).map f) (1-i)).length;rw[d,List.length_map]
 ·show GrIn _ (upd n.g (1-i) ((n.g (1-i)).map f) (1-i));rw[d];refine⟨⟨?_,λs t q=>?_,λp a=>(by cases a),List.nodup_nil,λp a=>(by cases a)⟩,rfl,r.sm⟩
  ·rw[List.map_map];have:((λx=>x.id) ∘ f)=(λx:SN=>x.id):=by funext s;exact m.id s
   rw[this];exact g0.nd
  ·obtain⟨z,o,rfl⟩:=List.mem_map.1 t;rw[m.id];rcases m.no _ q with y|⟨p,a,y⟩
   ·exact g0.se z o y
   ·rw[<-y];exact g0.kn p a
 ·show zn1 (n.c (1-i)) (upd n.g (1-i) ((n.g (1-i)).map f) i);rw[b];exact B.ok
 ·show DgOk _ (upd n.g (1-i) ((n.g (1-i)).map f) i) (n.next i);rw[b];exact⟨by show c2.anyID=true->c2.lastID<_;rw[ids.1,ids.2];exact v.id,v.gi,by show c2.waits.length<=_;rw[wt];exact v.wl⟩
 ·show ∀s∈upd n.g (1-i) ((n.g (1-i)).map f) (1-i),s.id<n.next (1-i);rw[d];intro s t;obtain⟨z,o,rfl⟩:=List.mem_map.1 t;rw[m.id];exact(h.dg (1-i) A).gi z o
 ·exact C
 ·exact mtu.trans (h.mtu i hi)
 ·show n.count i=c2.next;rw[x];exact h.ct i hi
 ·exact got
 ·exact cl
theorem NS.Safe.recv{n:NS}(h:n.Safe)(hI:n.Inv T)(hi:i<2){b:List UInt8}(hb:b.length<1099511627776)(p:zdb (n.c (1-i)) (n.c i).next (n.g (1-i)) b):(n.recv i b).1=0/\(n.recv i b).2.1=true/\(n.recv i b).2.2.Safe:=by
 have m:1-i<2:=by omega
 have rc:=zn2 h hi;have d:=h.up i hi;obtain⟨a,fs,o,e2,e3⟩:=p.dec;obtain⟨f1,_,f3⟩:=zhV hb o;have l:=h.got i hi;unfold NS.recv;by_cases u:zp9 (n.c i).got.rs (n.c i).got.fl a=true
 ·have hc:(n.c i).receive b=((0,-1),n.c i):=by
   unfold CS.receive;rw[if_neg (by rw[d];simp),o];simp only;rw[if_pos u]
  rw[hc];obtain⟨t1,q,_⟩:=h.took hi rc (SLe.refl (h.so i hi)) rfl ⟨rfl,rfl⟩ rfl rfl rfl l d;exact⟨rfl,t1,q⟩
 ·have hc:(n.c i).receive b=(((CS.takes fs { n.c i with got:=(n.c i).got.add a a }).1,-1),(CS.takes fs { n.c i with got:=(n.c i).got.add a a }).2):=by
   unfold CS.receive;rw[if_neg (by rw[d];simp),o];simp only;rw[if_neg u]
  rw[hc];have s:Rc (n.c (1-i)) { n.c i with got:=(n.c i).got.add a a } (n.e (1-i)) (n.e i) (n.g (1-i)) (n.g i):=⟨⟨rc.d1.k,rc.d1.cr⟩,⟨rc.d2.k,rc.d2.cr⟩,⟨rc.so.w,rc.so.kf,rc.so.sp,rc.so.wt⟩,rc.ms.same ⟨rfl,rfl,rfl⟩ rfl,rc.sm⟩;obtain⟨t1,q,f⟩:=Rc.takes (h.so (1-i) m) fs _ s f3 e3;have tc:=zcT fs { n.c i with got:=(n.c i).got.add a a } t1;have t:=zkj ((hI.c i hi).got.1) (B:=(n.c (1-i)).next-1) (lo:=a) (hi:=a) (λj m=>by have:=l _ (List.mem_of_getElem? (zfZ m));simp only at this;omega) (by omega) f1;obtain⟨u1,u2,_⟩:=h.took hi q ⟨f.sle.ws,f.sle.grant,f.sle.rg⟩ f.next f.ids f.waits f.now f.cfg.1 (λr v=>by
   rw[f.got]at v;obtain⟨j,m,_,e⟩:=zhQ (show r∈((n.c i).got.add a a).rs from v);have:=t j m;omega) (tc.trans d)
  exact⟨t1,u1,u2⟩
theorem NS.Safe.spoilt{n:NS}(h:n.Safe)(hi:i<2){b:List UInt8}(hd:dec b = .sum):(n.recv i b).1=7/\(n.recv i b).2.1=true/\(n.recv i b).2.2.Safe:=by
 have a:=h.up i hi;have hc:(n.c i).receive b=((7,-1),n.c i):=by
  unfold CS.receive;rw[if_neg (by rw[a];simp),hd]
 unfold NS.recv;rw[hc];obtain⟨t1,t2,_⟩:=h.took hi (zn2 h hi) (SLe.refl (h.so i hi)) rfl ⟨rfl,rfl⟩ rfl rfl rfl (h.got i hi) a;exact⟨rfl,t1,t2⟩
theorem zn3{b:List UInt8}(hs:∃l,b=l++zdt (crc l))(hk:k<b.length){x:UInt8}(hx:x≠0):dec (zeZ b k x) = .sum:=by
 obtain⟨l,rfl⟩:=hs;have e:zeZ (l++zdt (crc l)) k x=(l++zdt (crc l)).set k ((l++zdt (crc l))[k] ^^^ x):=by
  unfold zeZ;have e1:(l++zdt (crc l)).getD k 0=(l++zdt (crc l))[k]:=by rw[List.getD_eq_getElem?_getD,List.getElem?_eq_getElem hk];rfl
  rw[e1,List.set_eq_take_append_cons_drop,if_pos hk];rfl
 rw[e];refine zlu l k _ hk (λq=>hx ?_);generalize (l++zdt (crc l))[k]=y at q;have q2:y.toBitVec=y.toBitVec ^^^ x.toBitVec:=congrArg UInt8.toBitVec q;have q3:x.toBitVec=0#8:=by
  have:=congrArg (λz=>y.toBitVec ^^^ z) q2;simp only[BitVec.xor_self,<-BitVec.xor_assoc,BitVec.zero_xor]at this;exact this.symm
 exact UInt8.toBitVec_inj.1 q3
theorem zrE(s:List UInt8):zpj s≠0:=by
 unfold zpj;split
 ·rename_i h;exact h
 ·decide
theorem NS.Safe.drop{n:NS}(h:n.Safe)(k:Nat):(n.drop k).Safe :=
 ⟨h.d,h.so,h.gr,h.dg,h.now,h.mtu,h.ct,h.got,λp hp=>h.bag p (by
  rcases List.mem_append.1 hp with x|x
  ·exact List.mem_of_mem_take x
  ·exact List.mem_of_mem_drop x),h.up⟩
theorem NS.Safe.carry{n:NS}(h:n.Safe)(hI:n.Inv T)(s:za5):(n.carry s).1=true/\(n.carry s).2.Safe:=by
 unfold NS.carry;split
 ·exact⟨rfl,h⟩
 ·rename_i hb;have hk:pickN s.a n.bag.length<n.bag.length:=zae _ _ (List.length_pos_iff.2 hb);have o:n.bag.getD (pickN s.a n.bag.length) (0,[])∈n.bag:=by simp[List.getD,hk]
  obtain⟨p,d⟩:=h.bag _ o;obtain⟨_,q3,q4⟩:=hI.bag _ o;generalize pickN s.a n.bag.length=k at *;generalize n.bag.getD k (0,[])=f at *;unfold NS.carryK;split
  ·have e:(if pickN s.b 2=0 then n.drop k else n).Safe/\(if pickN s.b 2=0 then n.drop k else n).Inv T/\zdb ((if pickN s.b 2=0 then n.drop k else n).c (1-f.1)) ((if pickN s.b 2=0 then n.drop k else n).c f.1).next ((if pickN s.b 2=0 then n.drop k else n).g (1-f.1)) f.2:=by
    split
    ·exact⟨h.drop k,hI.drop k,d⟩
    ·exact⟨h,hI,d⟩
   generalize (if pickN s.b 2=0 then n.drop k else n)=m at *;obtain⟨i,j,l⟩:=e.1.recv e.2.1 p (by omega) e.2.2;exact⟨by rw[i,j];rfl,l⟩
  ·split
   ·exact⟨rfl,h.drop k⟩
   ·split
    ·obtain⟨i,j,l⟩:=h.spoilt p (zn3 d.sealed (zae s.b _ q3) (zrE s.s));exact⟨by rw[i,j];rfl,l⟩
    ·exact⟨rfl,h⟩
theorem zdT(c:CS):FlB c.ticked c.tick:=zkz c.ticked
variable{G:List SN}
theorem zp4(h:SOk c G):SOk c.tick G:=by
 have h1:SOk c.ticked G:=⟨h.w,h.kf,h.sp,λf hf=>by
  obtain⟨a,b⟩:=List.mem_filter.1 (show f∈c.waits.filter (λf => !decide (f.dl<c.now+1))from hf);obtain⟨x,_,z⟩:=h.wt f a;refine⟨x,?_,z⟩;show c.now+1<=f.dl;simp only[Bool.not_eq_true',decide_eq_false_iff_not,Nat.not_lt]at b;exact b⟩
 exact h1.fl (zdT c)
theorem zp5(h:SOk c G):SLe c c.tick:=by
 have f:=zdT c;exact⟨λk hk=>WLe.of_same (f.ws k) (h.w k hk).hl,Nat.le_of_eq f.grant.symm,λk hk=>by
  obtain⟨a,e⟩:=f.rs k hk;rw[e];exact Nat.le_refl _⟩
theorem zp6{a b:CS}{E:Nat->EN}(h:Dir a b E):Dir a.tick b.tick E:=by
 have h1:Dir a.ticked b.ticked E:=⟨h.k,h.cr⟩;exact(h1.flW (zdT a)).flR (zdT b)
theorem tick_c(n:NS)(hi:i<2):n.tick.c i=(n.c i).tick:=by
 show upd (upd n.c 0 (n.c 0).tick) 1 (n.c 1).tick i=_;by_cases e:i=1
 ·subst e;rw[ze]
 ·have:i=0:=by omega
  subst this;rw[zd _ _ e,ze]
theorem NS.Safe.tick{n:NS}(h:n.Safe):n.tick.Safe:=by
 have hc:=λi (hi:i<2)=>tick_c n hi
 have f:=λi=>zdT (n.c i)
 refine⟨λi hi=>?_,λi hi=>?_,λi hi=>?_,λi hi=>?_,λi hi=>?_,λi hi=>?_,λi hi=>?_,λi hi=>?_,λp e=>?_,λi hi=>?_⟩
 ·rw[hc i hi,hc (1-i) (by omega)];exact zp6 (h.d i hi)
 ·rw[hc i hi];exact zp4 (h.so i hi)
 ·rw[hc i hi];have g:=h.gr i hi;have h1:zn1 (n.c i).ticked (n.g (1-i)):=⟨g.ok.nd,g.ok.se,λp e=>(by rw[show(n.c i).ticked.came=(n.c i).came from rfl,g.cm]at e;cases e),g.ok.cn,g.ok.kn⟩;exact⟨h1.same (f i).seen (f i).now,by rw[(f i).seen.2.2];exact g.cm,by rw[(f i).seen.1,(f i).seen.2.1];exact g.sm⟩
 ·rw[hc i hi];have q:=h.dg i hi;refine⟨by rw[(f i).ids.1,(f i).ids.2];exact q.id,q.gi,?_⟩;rw[(f i).waits];exact Nat.le_trans (List.length_filter_le _ _) q.wl
 ·rw[hc i hi,(f i).now];show(n.c i).now+1=n.now+1;rw[h.now i hi]
 ·rw[hc i hi,(f i).cfg.1];exact h.mtu i hi
 ·rw[hc i hi,(f i).next];exact h.ct i hi
 ·rw[hc i hi,hc (1-i) (by omega),(f i).got,(f (1-i)).next];exact h.got i hi
 ·obtain⟨a,b⟩:=h.bag p e;refine⟨a,?_⟩;rw[hc p.1 a,hc (1-p.1) (by omega)];have s:=h.so (1-p.1) (by omega);exact b.mono (zp5 s) (λk hk=>(s.w k hk).hl) (Nat.le_of_eq (f _).next.symm) (Nat.le_of_eq (f _).next.symm) (zlQ.refl _)
 ·rw[hc i hi,(f i).closed];exact h.up i hi
theorem zrF(c:Int):pickN c 8<8:=zae c 8 (by omega)
theorem NS.Safe.step34{n:NS}(h:n.Safe)(hI:n.Inv T)(hT:T+401<=zaV)(s:za5)(h3:s.kind≠3)(h4:s.kind≠4):(n.step s).1=true/\(n.step s).2.Safe:=by
 unfold NS.step;rw[if_neg h3,if_neg h4];split
 ·exact h.send (zh2 _) (zrF _) _
 ·split
  ·exact h.finish (zh2 _) (zrF _)
  ·split
   ·exact h.tick.carry (hI.tick) s
   ·split
    ·exact h.flush hI (by omega) (zh2 _)
    ·split
     ·exact h.read (zh2 _) (zrF _) _
     ·exact h.carry hI s
theorem NS.Safe.new{mtu window total:Nat}(h:64<=mtu/\mtu<=400):(NS.new mtu window total).Safe:=by
 have l:Low ⟨[],0,4097⟩ 0:=⟨zbf _ (by omega),rfl,λj hj=>absurd hj (Nat.not_lt_zero j),by show 1025<=4097;omega⟩;have c:∀k,zbU ((CS.new mtu window total).ws k) ((CS.new mtu window total).rs k) EN.zero:=λk =>
  ⟨Nat.le_refl _,Nat.zero_le _,Nat.zero_le _,Nat.le_refl _,λ_=>Nat.le_refl _,Nat.le_refl _,rfl,Nat.le_refl _,l,λp ⟨i,hi,_⟩=>absurd hi (Nat.not_lt_zero i),λe=>(by cases e),λe=>(by cases e),λe=>(by cases e),Nat.zero_le _,λe=>(by cases e),λe=>(by cases e),rfl,rfl,rfl,λe=>(by cases e),rfl,rfl⟩
 exact⟨λi _=>⟨λk _=>c k,Nat.le_refl _⟩,λi _=>⟨λk _=>(c k).wput,λ_ _=>Nat.le_refl _,Nat.zero_le _,λf hf=>(by cases hf)⟩,
  λi _=>⟨⟨List.nodup_nil,λs b=>(by cases b),λp a=>(by cases a),List.nodup_nil,λp a=>(by cases a)⟩,rfl,λ_=>rfl⟩,
  λi _=>⟨λe=>(by cases e),λs b=>(by cases b),Nat.le_refl _⟩,λ_ _=>rfl,λ_ _=>rfl,λ_ _=>rfl,λ_ _ r hr=>(by cases hr),λp a=>(by cases a),λ_ _=>rfl⟩
def zio(wo:List Int)(l:List za5):Prop:=∀s∈l,wo.contains s.kind=false->∀(T:Nat) (n:NS),n.Safe->n.Inv T->T+401<=zaV->(n.step s).1=true/\(n.step s).2.Safe
theorem NS.Safe.plays(d:List Int):∀(l:List za5) {T B:Nat} {n:NS},zio d l->n.Safe->n.Inv T->T+401*l.length<=B->B<=zaV->∃n',NS.plays d l n=some n'/\n'.Safe/\n'.Inv B
 | [],T,B,n,_,h,hI,hT,_=>⟨n,rfl,h,hI.mono (by rw[List.length_nil]at hT;omega)⟩
 | s::l,T,B,n,HS,h,hI,hT,hB=>by
  rw[List.length_cons]at hT;have e1:401*(l.length+1)=401*l.length+401:=Nat.mul_succ 401 l.length;rw[e1]at hT;have e:=fun{g:Nat} {n':NS} (a:n'.Safe) (b:n'.Inv g)=>NS.Safe.plays d l (T:=g) (B:=B) (n:=n') (λq hq=>HS q (List.mem_cons_of_mem _ hq)) a b
  generalize 401*l.length=q at *;have f:T+401<=B/\T+q<=B/\T+401+q<=B:=by clear e hB h hI HS;omega
  have c:T+401<=zaV:=Nat.le_trans f.1 hB;unfold NS.plays;split
  ·exact e h hI f.2.1 hB
  ·rename_i hw;obtain⟨s1,s2⟩:=HS s List.mem_cons_self (by simpa using hw) T n h hI c;rw[if_pos s1];exact e s2 (hI.step s c) f.2.2 hB
end Go.Proofs.YtddfdpbaiedcjaaGreatDoor
