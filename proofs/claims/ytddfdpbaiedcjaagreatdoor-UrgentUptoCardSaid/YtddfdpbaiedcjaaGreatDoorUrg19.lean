/- A part of Urgent's proof. Conditions: none. Part 19 of 32. -/
import Derived.Test.YtddfdpbaiedcjaaGreatDoorUrg18
import Derived.Lib.BufferWrite
set_option maxRecDepth 100000
set_option maxHeartbeats 16000000
set_option linter.all false
namespace Go.Proofs.YtddfdpbaiedcjaaGreatDoor
open Go.RowKit
structure zhs(c:CS)(f:Frm):Prop where
 st:∃k:Nat,k<8∧f.stream=(k:Int)
 a:f.kind=4→f.data≠[]→∃k,AgOk c f k
theorem zoH{l:List UInt8}(h:l≠[]):(zq l).toList.isEmpty=false:=by
 rw[ByteArray.toList_eq,zaK];cases l with
 | nil=>exact absurd rfl h
 | cons a l=>rfl
theorem zoI:(zq []).toList.isEmpty=true:=by
 rw[ByteArray.toList_eq,zaK];rfl
theorem zkF{rs:zD}{p:Fly}{q:Nat}(a:q<rs.length)(h1:loAt rs q≤p.n)(h2:p.n≤hiAt rs q):zb9 rs p=true:=by
 unfold zb9;rw[List.any_eq_true];refine⟨rs[q],List.getElem_mem a,?_⟩;have e:rs.getD q (0,0)=rs[q]:=by simp[List.getD,a]
 unfold loAt at h1;unfold hiAt at h2;rw[e]at h1 h2;simp[h1,h2]
theorem zi1{rs:zD}{p:Fly}(h:∀j,j<rs.length→¬(loAt rs j≤p.n∧p.n≤hiAt rs j)):zb9 rs p=false:=by
 unfold zb9;rw[List.any_eq_false];intro r hr;obtain⟨j,a,rfl⟩:=List.mem_iff_getElem.1 hr;have h1:=h j a;have e:rs.getD j (0,0)=rs[j]:=by simp[List.getD,a]
 unfold loAt hiAt at h1;rw[e]at h1;simpa using h1
def zqd(tag:Nat→Nat×Nat)(i b:Nat)(W0:World)(V0:CV)(c:CS)(rs:zD)(p:Fly)(e:Ending)(W':World):Prop :=
 e = .returned (.bool (zb9 rs p))∧∃tag' V',zt tag i b W0 V0 (c.ackP rs p) tag' V' W'
theorem zgq{α : Type}(f:Nat → α)(k:Nat)(x y : α):upd (upd f k x) k y=upd f k y:=by
 funext j;by_cases h:j=k
 ·rw[h,zf,zf]
 ·rw[ze _ _ h,ze _ _ h,ze _ _ h]
def zmx(tag:Nat→Nat×Nat)(i b:Nat)(W0:World)(V0:CV)(c2:CS)(tag':Nat→Nat×Nat)(W':World)(e:Ending)(W'':World):Prop :=
 e = .returned (.tuple #[])∧(∃tag2 V2,zt tag i b W0 V0 c2 tag2 V2 W''∧∀g,g<W'.heap.size→tag2 g=tag' g)∧∀g,g<W'.heap.size→tag' g=(0,0)→W''.heap[g]?=W'.heap[g]?
theorem zt.addCame{tag:Nat→Nat×Nat}{i b:Nat}{o:World}{q:CV}{c:CS}{tag':Nat→Nat×Nat}{f:CV}{W':World}(h:zt tag i b o q c tag' f W'){k:Nat}(hk:k<8)(hs:(c.ws k).came.Ok)(lo hi:Nat)(j:lo≤zA)(l:hi≤zA) :
  Calls Tryz.prog 88 #[.pointer (some ⟨b,9+15*k+4,none⟩),.int .u64 (lo:Int),.int .u64 (hi:Int)] W' (zmx tag i b o q { c with ws:=upd c.ws k { c.ws k with came:=(c.ws k).came.add lo hi } } tag' W'):=by
 have hm:=hs.most;have hrl:=hs.rl;have m:=hs.fl;have hp:=h.p;unfold zA at j l m;have n:(f.wc k).ownBlock≠some b:=fun e=>by
  have h1:=h.c.twc k hk b e;rw[h.c.tb]at h1;have:=congrArg Prod.snd h1;simp only at this;omega
 refine(zcj (c.ws k).came b (9+15*k+4) lo hi (f.wc k) W' (h.c.cameAt hk (by omega)) hs.wf (by omega) (by omega) (by omega) n hm.1 (by omega)).mono ?_;rintro e W'' ⟨v',rfl,h1,h2,h3,h4⟩;refine⟨rfl,?_,fun g hg d=>h3.block g hg (fun x=>?_)⟩
 ·obtain⟨tag2,V2,r,d⟩:=h.came hk ⟨h1,h2,h3,h4⟩ (zbs _ _ _);exact⟨tag2,V2,r,d⟩
 ·rcases x with x|x
  ·have a:=h.c.tb;rw[←x,d]at a;have:=congrArg Prod.snd a;simp at this
  ·have a:=h.c.twc k hk g x;rw[d]at a;have:=congrArg Prod.snd a;simp at this;omega
theorem zt.addSent{tag:Nat→Nat×Nat}{i b:Nat}{o:World}{q:CV}{c:CS}{tag':Nat→Nat×Nat}{f:CV}{W':World}(h:zt tag i b o q c tag' f W'){k:Nat}(hk:k<8)(hs:(c.ws k).sent.Ok)(lo hi:Nat)(j:lo≤zA)(l:hi≤zA) :
  Calls Tryz.prog 88 #[.pointer (some ⟨b,9+15*k+1,none⟩),.int .u64 (lo:Int),.int .u64 (hi:Int)] W' (zmx tag i b o q { c with ws:=upd c.ws k { c.ws k with sent:=(c.ws k).sent.add lo hi } } tag' W'):=by
 have hm:=hs.most;have hrl:=hs.rl;have m:=hs.fl;have hp:=h.p;unfold zA at j l m;have n:(f.ws k).ownBlock≠some b:=fun e=>by
  have h1:=h.c.tws k hk b e;rw[h.c.tb]at h1;have:=congrArg Prod.snd h1;simp only at this;omega
 refine(zcj (c.ws k).sent b (9+15*k+1) lo hi (f.ws k) W' (h.c.sentAt hk (by omega)) hs.wf (by omega) (by omega) (by omega) n hm.1 (by omega)).mono ?_;rintro e W'' ⟨v',rfl,h1,h2,h3,h4⟩;refine⟨rfl,?_,fun g hg d=>h3.block g hg (fun x=>?_)⟩
 ·obtain⟨tag2,V2,r,d⟩:=h.sent hk ⟨h1,h2,h3,h4⟩ (zbs _ _ _);exact⟨tag2,V2,r,d⟩
 ·rcases x with x|x
  ·have a:=h.c.tb;rw[←x,d]at a;have:=congrArg Prod.snd a;simp at this
  ·have a:=h.c.tws k hk g x;rw[d]at a;have:=congrArg Prod.snd a;simp at this;omega
theorem zqe(c:CS)(f:Frm)(k:Nat)(a:f.stream=(k:Int))(h4:f.kind=4)(hd:f.data≠[]){c2 c3:CS}(h2:c2={ c with ws:=upd c.ws k { c.ws k with came:=(c.ws k).came.add f.off (f.off+f.data.length-1) } })(h3:c3={ c2 with ws:=upd c2.ws k { c2.ws k with sent:=(c2.ws k).sent.add f.off (f.off+f.data.length-1) } }):c3=c.ackF f:=by
 subst h3 h2;unfold CS.ackF WS.acked;rw[if_pos ⟨h4,hd⟩,a];simp only[Int.toNat_natCast,zf];rw[zgq]
theorem zht(c:CS)(f:Frm)(h:¬(f.kind=4∧f.data≠[])):c.ackF f=c:=by
 unfold CS.ackF;rw[if_neg h]
theorem zkG{tag:Nat→Nat×Nat}{i b:Nat}{H:World}{S:CV}{c:CS}{w:Nat→Nat×Nat}{V:CV}{W:World}(h:zt tag i b H S c w V W)(cb lb:Nat)(rs:zD)(la:Option Addr)(t:Nat)
  (aK:H.cell? ⟨cb,0,none⟩=some (.pointer (some ⟨b,0,none⟩))) (aL:¬zaf i tag cb) (aM:H.cell? ⟨lb,0,none⟩=some (.slice la rs.length t)) (I:¬zaf i tag lb)
  (am:RR H (.slice la rs.length t) rs) (E:zaX (zaf i tag) (.slice la rs.length t)) (a8:rs.length≤1099511627776)
  (p:Fly) (v:Value) (hp:(p,v)∈c.flight.zip S.fts) (aN:zb9 rs p=true→∀k f,p.fs[k]?=some f→zhs ((p.fs.take k).foldl CS.ackF c) f) (a9:p.fs.length≤1099511627776) :
  Calls Tryz.prog 205 #[.agg #[.int .u64 (p.n:Int),.int .u64 (p.at_:Int),v],.pointer (some ⟨lb,0,none⟩),.pointer (some ⟨cb,0,none⟩)] W (zqd tag i b H S c rs p):=by
 have aO:Hid (∀{c':CS} {tag':Nat→Nat×Nat} {V':CV} {W':World},zt tag i b H S c' tag' V' W'→W'.cell? ⟨cb,0,none⟩=some (.pointer (some ⟨b,0,none⟩))):=zb (fun r=>r.m.cell (a:=⟨cb,0,none⟩) aL aK);have aP:Hid (∀{c':CS} {tag':Nat→Nat×Nat} {V':CV} {W':World},zt tag i b H S c' tag' V' W'→W'.cell? ⟨lb,0,none⟩=some (.slice la rs.length t)):=zb (fun r=>r.m.cell (a:=⟨lb,0,none⟩) I aM);have aQ:Hid (∀{c':CS} {tag':Nat→Nat×Nat} {V':CV} {W':World},zt tag i b H S c' tag' V' W'→RR W' (.slice la rs.length t) rs):=zb (fun r=>am.mod r.m E);have ba:rs.length≤t∧t≤maxLen:=by
  obtain⟨_,_,e,q1,q2,_⟩:=am;cases e;exact⟨q1,q2⟩
 obtain⟨aR,aS⟩:=ba;unfold maxLen at aS;have HP:=zb hp;have aT:=zb aN;obtain⟨pn,J⟩:=nm p.n;obtain⟨pa,aa⟩:=nm p.at_;obtain⟨fs,T⟩:=nm p.fs;rw[T]at aT a9;rw[J,aa];have ao:=zb J;have FT:=h.c.fs (p,v) (by rw[h.ft.2];exact hp);obtain⟨l,hl,aU,-,-⟩:=FT;simp only at hl aU;rw[T]at hl;obtain⟨a,cap,rfl,q1,q2,-⟩:=aU;have ab:l.length=fs.length:=by rw[←hl,List.length_map]
 rw[ab]at HP q1 ⊢;have aV:=zb T;have bb:=aO.out h;have aW:=aP.out h;obtain⟨W1,U⟩:=nm (W.alloc (.cells #[.int .u64 (pn:Int),.int .u64 (pa:Int),.slice a fs.length cap] 173));have m1:Mod NoB W W1:=by rw[←U];exact(Mod.refl _ _).alloc _
 have R1:=zb (h.mod0 m1);have o1:W1.heap[W.heap.size]?=some (.cells #[.int .u64 (pn:Int),.int .u64 (pa:Int),.slice a fs.length cap] 173 (0,0)):=by rw[←U];exact heap_alloc_new W _
 obtain⟨pb,ap⟩:=nm W.heap.size;rw[ap]at o1;have aX:=zb o1;have z0:=za (o:=0) o1 rfl;have z2:W1.cell? ⟨pb,2,none⟩=some (.slice a fs.length cap):=za (o:=2) o1 rfl;have aY:=m1.cell (a:=⟨lb,_,none⟩) (fun x=>x) aW;have bc:=zb U;have bd:=zb ap;obtain⟨RN,aq⟩:=nm rs.length;have ar:=zb aq;rw[aq]at aY a8 aR aP aQ;clear h hp J aa T m1 o1 bb aW U ap hl ab q1 q2 aK aL aM I am E aN aq;go_enter Tryz.func205,Tryz.ntmps205;go_upto_region 1 with fail;rw[bc.out,bd.out];go_wp2_with fail
 go_loopw [12] (fun iv wr=>∃q:Nat,q≤RN∧iv = .int .i64 (q:Int)∧Hid ((∀j,j<q→¬(loAt rs j≤pn∧pn≤hiAt rs j))∧zt tag i b H S c w V wr∧Mod NoB W1 wr)) (fun iv _=>RN-(intOf iv).toNat)
 case atStart=>exact⟨0,Nat.zero_le _,rfl,zb ⟨fun j hj=>absurd hj (Nat.not_lt_zero j),R1.out,Mod.refl _ _⟩⟩
 case round =>
  clear z0 z2 aY R1;obtain⟨q,hq,rfl,u⟩:=hrel;by_cases I:q<RN
  ·obtain⟨a',ac,L,_,_,h3⟩:=aQ.out u.out.2.1;have be:ac=t∧a'=la:=by cases L;exact⟨rfl,rfl⟩
   obtain⟨rfl,rfl⟩:=be;obtain⟨g,o,bf,e1,e2,b1,b2⟩:=h3 q (by rw[ar.out];exact I);subst bf;have z0:=za (o:=0) (u.out.2.2.obj (fun x=>x) aX.out) rfl;have z2:wr.cell? ⟨pb,2,none⟩=some (.slice a fs.length cap):=za (o:=2) (u.out.2.2.obj (fun x=>x) aX.out) rfl;have HQ:Hid (q<rs.length):=zb (by rw[ar.out];exact I);obtain⟨lo,E⟩:=nm (loAt rs q);obtain⟨hi,au⟩:=nm (hiAt rs q);rw[E]at e1 b1;rw[au]at e2 b2;have av:=zb E;have aw:=zb au;have aZ:=zk z0;have bh:=zk e1;obtain⟨Y,M⟩:=nm (wr.alloc (.cells #[.int .u64 (lo:Int),.int .u64 (hi:Int)] 214));have mY:Mod NoB wr Y:=by rw[←M];exact(Mod.refl _ _).alloc _
   have oY:Y.heap[wr.heap.size]?=some (.cells #[.int .u64 (lo:Int),.int .u64 (hi:Int)] 214 (0,0)):=by rw[←M];exact heap_alloc_new wr _
   have MY:=zb mY;have u0:=za (o:=0) oY rfl;have u1:=za (o:=1) oY rfl;have v0:=mY.cell (a:=⟨pb,0,none⟩) (fun x=>x) z0;have v2:=mY.cell (a:=⟨pb,2,none⟩) (fun x=>x) z2;obtain⟨yb,ax⟩:=nm wr.heap.size;rw[ax]at u0 u1;have X:=zb M;have y:=zb ax;clear h3 L E au oY mY M ax;by_cases d1:(lo:Int)≤pn
   ·by_cases d2:(pn:Int)≤hi
    ·have ay:Hid (zb9 rs p=true):=zb (zkF HQ.out (by rw[av.out,ao.out];omega) (by rw[aw.out,ao.out];omega));have RY:=zb (u.out.2.1.mod0 MY.out);have MW:=zb (u.out.2.2.trans MY.out);clear u;go_upto_region 4 with fail;rw[X.out,y.out];go_wp2_with fail
     go_loopw [31] (fun iv wr=>∃(k:Nat) (tag':Nat→Nat×Nat) (V':CV),k≤fs.length∧iv = .int .i64 (k:Int)∧Hid (zt tag i b H S ((fs.take k).foldl CS.ackF c) tag' V' wr)) (fun iv _=>fs.length-(intOf iv).toNat)
     case atStart=>exact⟨0,w,V,Nat.zero_le _,rfl,RY⟩
     case round =>
      clear z0 z2 e1 e2 u0 u1 v0 v2 RY aZ bh MY X y MW;obtain⟨k,z,V1,hk,rfl,u⟩:=hrel;by_cases bB:k<fs.length
      ·obtain⟨l1,N,ad,-,-⟩:=u.out.c.fs (p,.slice a fs.length cap) (by rw[zed,u.out.ft.2];exact HP.out);simp only at N ad;rw[aV.out]at N;obtain⟨a',ac,L,_,_,h3⟩:=ad;have ae:l1.length=fs.length:=by rw[←N,List.length_map]
       rw[ae]at L;cases L;obtain⟨⟨f,rv⟩,az⟩:∃fr,l1[k]?=some fr:=⟨l1[k],List.getElem?_eq_getElem (by omega)⟩;have aA:fs[k]?=some f:=by rw[←N,List.getElem?_map,az];rfl
       obtain⟨⟨g2,o2,rfl,hc⟩,aB⟩:=h3 k (f,rv) az;simp only at hc aB;obtain⟨ra,rc,rfl,_⟩:=id aB;obtain⟨hc0,hc1,hc2,hc3,hc4,hc5,hc6,hc7,hc8,bi⟩:=zbG hc;obtain⟨Y,M⟩:=nm (wr.alloc (.cells (zh f (.slice ra f.rngs.length rc)) 65));have mY:Mod NoB wr Y:=by rw[←M];exact(Mod.refl _ _).alloc _
       have aC:Y.heap.size=wr.heap.size+1:=by rw[←M];simp
       have a0:zi Y wr.heap.size f (.slice ra f.rngs.length rc):=by rw[←M];exact heap_alloc_new wr _
       obtain⟨y0,y1,y2,y3,y4,y5,y6,y7,y8,y9⟩:=a0.cells;have ok:=aT.out ay.out k f aA;have HT:=zb (zkE (c:=c) aA);obtain⟨c1,O⟩:=nm ((fs.take k).foldl CS.ackF c);rw[O]at ok HT u;have D:z wr.heap.size=(0,0):=u.out.e.out _ (Nat.le_refl _);have RY:=zb (u.out.mod0 mY);have aD:=aO.out RY.out;obtain⟨m,a1,F⟩:=ok.st;rw[F]at y1;obtain⟨fb,aE⟩:=nm wr.heap.size;rw[aE]at D y0 y1 y2 y8 aC;have bj:=zb D;have bk:=zb aC;have dm0:(0:Int)≤m:=by omega
       have dm8:(m:Int)<8:=by omega
       obtain⟨RL,a2⟩:=nm f.rngs.length;rw[a2]at bi M;have X:=zb M;have y:=zb aE;obtain⟨off,P⟩:=nm f.off;obtain⟨d,Q⟩:=nm f.data;rw[P]at y2;rw[Q]at y8;have af:=zb P;have A:=zb Q;have HC1:=zb O;unfold zh at X;clear h3 az hc aB mY a0 aA N a2 u M aE O D aC y3 y4 y5 y6 y7 y9 P Q ae;by_cases B:f.kind=4
       ·by_cases C:f.data=[]
        ·have bm:d=[]:=by rw[←A.out];exact C
         subst bm;have HE:Hid (c1.ackF f=c1):=zb (zht c1 f (by simp[C]));rw[B]at y0;have HYD:Hid (f.data=[]):=zb C;have bn:=zoI;clear B F C ok;go_upto_region 8 with fail;rw[X.out,y.out];refine zB ?_;refine zl 7 (fun w'=>w'.cell? ⟨cb,0,none⟩=some (.pointer (some ⟨b,0,none⟩))∧w'.cell? ⟨fb,1,none⟩=some (.int .i64 (m:Int))) (⟨aD,y1⟩) ?_;refine GI 0 ?_;iterate 7
          refine GS rfl ?_ ?_ ?_;rotate_left
          ·(intro wx s;(try dsimp only at s);obtain⟨fc,f1⟩:=s;go_simp)<;>(try with_reducible rfl)
          try simp only[PS]
         refine zo ?_;refine⟨rfl,?_⟩;go_wp2_with fail;go_roundw
         case rel=>exact⟨k+1,z,V1,by omega,by go_num,zb (by rw[HT.out,HE.out];exact RY.out.mod0 (Mod.refl NoB Y).drew)⟩
         case measure=>simp[intOf];omega
        ·obtain⟨m',G⟩:=ok.a B C;have bo:m=m':=by
          have h1:=G.st;rw[F]at h1;omega
         subst bo;have b1:=G.end_;have b2:=G.dl;have ah:d≠[]:=by rw[←A.out];exact C
         have b3:0<d.length:=List.length_pos_iff.2 ah;rw[af.out,A.out]at b1;rw[A.out]at b2;have R:=RY.out.mod0 ((Mod.refl NoB Y).drew.drew);have aF:=R.addCame a1 G.came off (off+d.length-1) (by omega) (by omega);have hz:((off+d.length-1:Nat):Int)=(off:Int)+d.length-1:=by omega
         rw[hz,Nat.mul_comm 15 m]at aF;have a3:=zb aF;have a4:=zb G;have bp:=zb C;have bq:=zb F;have bt:=zb B;rw[B]at y0;unfold zA at b1;have hsz:(zq d).size=d.length:=zJ d;have xw0:IntKind.u64.wrap (d.length:Int)=(d.length:Int):=by rw[IntKind.wrap_u64];omega
         have xw1:IntKind.u64.wrap ((off:Int)+d.length)=(off:Int)+d.length:=by rw[IntKind.wrap_u64];omega
         have xw2:IntKind.u64.wrap ((off:Int)+d.length-1)=(off:Int)+d.length-1:=by rw[IntKind.wrap_u64];omega
         have bn:(zq d).toList.isEmpty=false:=zoH ah;clear aF R ok G F B C hz;go_upto_region 8 with fail;rw[X.out,y.out];refine zB ?_;refine zl 7 (fun w'=>w'.cell? ⟨cb,0,none⟩=some (.pointer (some ⟨b,0,none⟩))∧w'.cell? ⟨fb,1,none⟩=some (.int .i64 (m:Int))) (⟨aD,y1⟩) ?_;refine GI 0 ?_;iterate 7
          refine GS rfl ?_ ?_ ?_;rotate_left
          ·(intro wx s;(try dsimp only at s);obtain⟨fc,f1⟩:=s;go_simp)<;>(try with_reducible rfl)
          try simp only[PS]
         refine zo ?_;refine⟨rfl,?_⟩;go_upto_region 10 with fail;refine zB ?_;refine zl 13 (fun w'=>w'.cell? ⟨fb,2,none⟩=some (.int .u64 (off:Int))∧w'.cell? ⟨fb,8,none⟩=some (.string (zq d))) (⟨y2,y8⟩) ?_;refine GI 0 ?_;iterate 13
          refine GS rfl ?_ ?_ ?_;rotate_left
          ·(intro wx s;(try dsimp only at s);obtain⟨f2,f8⟩:=s;go_simp)<;>(try with_reducible rfl)
          try simp only[PS]
         refine zQ rfl (fun K hK=>?_);go_simp
         with_reducible refine(a3.out).mono ?_
         rintro e Z ⟨rfl,⟨bu,V10,R,ai⟩,aj⟩;have bv:=zb R;have bC:=zb ai;have a5:=zb aj;clear R ai aj;go_simp;refine hK.out _ _ ?_;clear hK K;try simp only[PS]
         refine zo ?_;refine⟨rfl,?_⟩;have hX:Z.heap[fb]?=Y.heap[fb]?:=a5.out fb (by show fb<Y.heap.size;rw[bk.out];omega) bj.out;have x2:Z.cell? ⟨fb,2,none⟩=some (.int .u64 (off:Int)):=(World.cell?_of_block hX).trans y2;have x8:Z.cell? ⟨fb,8,none⟩=some (.string (zq d)):=(World.cell?_of_block hX).trans y8;have aG:=(bv.out.mod0 (Mod.refl NoB Z).drew).addSent a1 (by simp only[zf];exact a4.out.sent) off (off+d.length-1) (by unfold zA;omega) (by unfold zA;omega);have hz:((off+d.length-1:Nat):Int)=(off:Int)+d.length-1:=by omega
         rw[hz,Nat.mul_comm 15 m]at aG;have a6:=zb aG;clear aG hX hz;go_upto_region 11 with fail;refine zB ?_;refine zl 13 (fun w'=>w'.cell? ⟨fb,2,none⟩=some (.int .u64 (off:Int))∧w'.cell? ⟨fb,8,none⟩=some (.string (zq d))) (⟨x2,x8⟩) ?_;refine GI 0 ?_;iterate 13
          refine GS rfl ?_ ?_ ?_;rotate_left
          ·(intro wx s;(try dsimp only at s);obtain⟨f2,f8⟩:=s;go_simp)<;>(try with_reducible rfl)
          try simp only[PS]
         refine zQ rfl (fun K hK=>?_);go_simp
         with_reducible refine(a6.out).mono ?_
         rintro e X11 ⟨rfl,⟨aH,bw,a7,ak⟩,al⟩;have bz:=zb a7;have bD:=zb ak;have bE:=zb al;clear a7 ak al;go_simp;refine hK.out _ _ ?_;clear hK K;try simp only[PS]
         refine zo ?_;refine⟨rfl,?_⟩;go_wp2_with fail;go_roundw
         case rel =>
          refine⟨k+1,aH,bw,by omega,by go_num,zb ?_⟩;rw[HT.out,←zqe c1 f m bq.out bt.out bp.out rfl rfl,af.out,A.out];exact bz.out
         case measure=>simp[intOf];omega
       ·have HE:Hid (c1.ackF f=c1):=zb (zht c1 f (by simp[B]));have hb4:(f.kind==4)=false:=by simpa using B
        clear F ok;go_upto_region 8 with fail;rw[X.out,y.out];refine zB ?_;refine zl 7 (fun w'=>w'.cell? ⟨cb,0,none⟩=some (.pointer (some ⟨b,0,none⟩))∧w'.cell? ⟨fb,1,none⟩=some (.int .i64 (m:Int))) (⟨aD,y1⟩) ?_;refine GI 0 ?_;iterate 7
         refine GS rfl ?_ ?_ ?_;rotate_left
         ·(intro wx s;(try dsimp only at s);obtain⟨fc,f1⟩:=s;go_simp)<;>(try with_reducible rfl)
         try simp only[PS]
        refine zo ?_;refine⟨rfl,?_⟩;go_wp2_with fail;go_roundw
        case rel=>exact⟨k+1,z,V1,by omega,by go_num,zb (by rw[HT.out,HE.out];exact RY.out.mod0 (Mod.refl NoB Y).drew)⟩
        case measure=>simp[intOf];omega
      ·have hk2:fs.length=k:=by omega
       have aI:Hid (zt tag i b H S (c.ackP rs p) z V1 wr):=zb (by
        have:=u.out;rw[List.take_of_length_le (by omega)]at this;unfold CS.ackP;rw[if_pos ay.out,aV.out];exact this)
       go_wp2_with fail;go_ret;exact⟨by rw[ay.out];rfl,z,V1,aI.out⟩
    ·go_upto_region 4 with fail;rw[X.out,y.out];go_wp2_with fail;go_roundw
     case rel =>
      refine⟨q+1,by omega,by go_num,zb ⟨fun j hj x=>?_,u.out.2.1.mod0 MY.out,u.out.2.2.trans MY.out⟩⟩;by_cases aJ:j=q
      ·subst aJ;rw[av.out,aw.out]at x;omega
      ·exact u.out.1 j (by omega) x
     case measure=>simp[intOf];omega
   ·go_upto_region 4 with fail;rw[X.out,y.out];go_wp2_with fail;go_roundw
    case rel =>
     refine⟨q+1,by omega,by go_num,zb ⟨fun j hj x=>?_,u.out.2.1.mod0 MY.out,u.out.2.2.trans MY.out⟩⟩;by_cases aJ:j=q
     ·subst aJ;rw[av.out,aw.out]at x;omega
     ·exact u.out.1 j (by omega) x
    case measure=>simp[intOf];omega
  ·have bA:q=RN:=by omega
   have HN:Hid (zb9 rs p=false):=zb (zi1 (fun j hj=>by
    rw[ao.out];exact u.out.1 j (by rw[ar.out]at hj;omega)))
   have aI:Hid (zt tag i b H S (c.ackP rs p) w V wr):=zb (by
    unfold CS.ackP;rw[if_neg (by rw[HN.out];simp)];exact u.out.2.1)
   clear bA;go_wp2_with fail;go_ret;exact⟨by rw[HN.out];rfl,w,V,aI.out⟩
def zft(tag:Nat→Nat×Nat)(i b:Nat)(W0:World)(G:Nat→CS)(a:Option Addr)(N cap:Nat)(k:Nat)(R:List (Fly×Value))(w:World):Prop :=
 R.length=N∧∃tag' V',zt tag i b W0 V' ((G k).fly (R.map (·.1))) tag' V' w∧V'.ft = .slice a N cap∧V'.fts=R.map (·.2)
theorem zft.row{tag:Nat→Nat×Nat}{i b:Nat}{W0:World}{G:Nat→CS}{a:Option Addr}{N cap k:Nat}{R:List (Fly×Value)}{w:World}(h:zft tag i b W0 G a N cap k R w):w.ownsRow 0 173 3 (.slice a N cap) N (zu R):=by
 obtain⟨hl,tag',V',r,h1,h2⟩:=h;have:=r.c.ft;rw[h1,h2]at this;simp only[CS.fly,List.length_map,zay,hl]at this;exact this
theorem zft.mod0{tag:Nat→Nat×Nat}{i b:Nat}{c:World}{G:Nat→CS}{a:Option Addr}{N cap k:Nat}{R:List (Fly×Value)}{w w':World}(h:zft tag i b c G a N cap k R w)(m:Mod NoB w w'):zft tag i b c G a N cap k R w':=by
 obtain⟨hl,tag',V',r,h1,h2⟩:=h;exact⟨hl,tag',V',r.mod0 m,h1,h2⟩
theorem zft.del{tag:Nat→Nat×Nat}{i b:Nat}{W0:World}{G:Nat→CS}{a:Option Addr}{N cap g:Nat}(ha:0<N→a=some ⟨g,0,none⟩):zqN (zft tag i b W0 G a N cap) N g:=by
 refine⟨fun k R w w' h m=>h.mod0 m,fun k R w h=>h.1,fun k R w h j x c=>?_⟩;have hj:0<N:=by
  have:=(List.getElem?_eq_some_iff.1 c).1;have:=h.1;omega
 have d:=h.row;rw[ha hj]at d;exact zfJ d h.1 j x c
theorem zft.turn{tag:Nat→Nat×Nat}{i b:Nat}{j:World}{G:Nat→CS}{N cap k g:Nat}{R R':List (Fly×Value)}{w w':World}(h:zft tag i b j G (some ⟨g,0,none⟩) N cap k R w)(m:Mod (fun q=>q=g) w w')(l:R'.length=N)(a:w'.ownsRow 0 173 3 (.slice (some ⟨g,0,none⟩) N cap) N (zu R'))(hs:∀p∈R',p∈R∨p=zi2):zft tag i b j G (some ⟨g,0,none⟩) N cap k R' w':=by
 obtain⟨hl0,tag',n,r,h1,h2⟩:=h;have hg:n.ft.ownBlock=some g:=by rw[h1];rfl
 have d:=r.c.tft g hg;have f:∀p∈R',zjz tag' (i,5) w p.2 p.1.fs:=fun p hp=>by
  rcases hs p hp with x|x
  ·exact r.c.fs p (by rw[h2];simp only[CS.fly,zay];exact x)
  ·subst x;exact zjz.none _ _ _
 have c1:=r.c.fly m hg (R':=R') (by rw[h1,l];exact a) f;exact⟨l,tag',{ n with fts:=R'.map (·.2) },⟨c1,⟨r.e.old,r.e.new,r.e.out.mod m⟩,zan r.e r.m (m.mono (fun q hq=>.inl (zbk (r:=4) (by rw[show q=g from hq];exact d) (by decide)))),r.p,⟨rfl,rfl⟩⟩,h1,rfl⟩
theorem zft.delK{tag:Nat→Nat×Nat}{i b:Nat}{W0:World}{G:Nat→CS}{a:Option Addr}{N cap g:Nat}(v:0<N→a=some ⟨g,0,none⟩)(hcm:N≤cap):DelK (zft tag i b W0 G a N cap) N g cap:=by
 refine⟨fun k R w t h=>?_,fun k R w x h z=>?_,fun k R w j x h C z=>?_,fun k R w j h C=>?_⟩
 ·have D:=h.row;rw[v t]at D;obtain⟨d,h1,_⟩:=zdF D;exact⟨d,h1⟩
 ·obtain⟨hl,tag',V',r,h1,h2⟩:=h;obtain⟨l,_,⟨a',E,e,_⟩,_,_⟩:=r.c.fs x (by rw[h2];simp only[CS.fly,zay];exact z);exact⟨_,_,_,e⟩
 ·have t:0<N:=by omega
  have m:=v t;subst m;have u:=zjN x h.row h.1 C;refine h.turn ?_ (by rw[List.length_set];exact h.1) u (fun p A=>?_)
  ·exact(((Mod.refl (fun q=>q=g) w).setCell (p:=⟨g,_,none⟩) (.inl rfl) _).setCell (p:=⟨g,_,none⟩) (.inl rfl) _).setCell (p:=⟨g,_,none⟩) (.inl rfl) _
  ·rcases List.mem_or_eq_of_mem_set A with y|y
   ·exact .inl y
   ·exact .inl (y ▸ z)
 ·have t:0<N:=by omega
  have m:=v t;subst m;obtain⟨d,h1,h2,h3,h4,h5⟩:=zdF h.row;have B:w.heap[g]?=some (.cells d.toList.toArray 173 (0,0)):=by simpa using h1
  have f:d.toList.length=cap*3:=by simpa using h4
  have o:(zu (List.replicate (N-j) zi2)).length=(N-j)*3:=by rw[zX,List.length_replicate]
  refine⟨_,R.take j++List.replicate (N-j) zi2,fun ty=>zaJ (P:=Tryz.prog) w 123 ty 173 (.agg #[.int .u64 0,.int .u64 0,.slice none 0 0]) 3 Tryz.underlying123 zjO rfl (by simp[Value.cells,Value.oneCell']) g (j*3) (N-j) _ d.toList _ B (by rw[f];omega),?_,?_⟩
  ·rw[zfL];have s:(R.take j).length=j:=by rw[List.length_take,h.1];omega
   refine h.turn ?_ (by rw[List.length_append,s,List.length_replicate];omega) ?_ (fun p A=>?_)
   ·exact zcQ w g _
   ·refine⟨by rw[zX,List.length_append,s,List.length_replicate];omega,.inr ⟨g,cap,_,rfl,Nat.zero_le _,setRow_heap w g _ _ _ _ h1,h2,h3,?_,?_⟩⟩
    ·rw[List.size_toArray,length_splice _ _ _ (by rw[o,f];omega),f]
    ·have h6:d.toList.take (j*3)=zu (R.take j):=by
      have:=(zeT h.row h.1 (n:=j) (by omega));obtain⟨F,g1,_,_,_,g5⟩:=zdF this;rw[h1]at g1;cases g1;exact g5
     unfold splice;rw[h6,zbS];have H:(zu (R.take j)).length=j*3:=by rw[zX,s]
     rw[←List.append_assoc];simp only[List.toList_toArray];rw[List.take_append_of_le_length (by rw[List.length_append,H,o];omega),List.take_of_length_le (by rw[List.length_append,H,o];omega)]
   ·rcases List.mem_append.1 A with y|y
    ·exact .inl (List.mem_of_mem_take y)
    ·exact .inr (List.eq_of_mem_replicate y)
  ·rw[List.take_append_of_le_length (by rw[List.length_take,h.1];omega),List.take_take,Nat.min_self]
theorem zft.done{tag:Nat→Nat×Nat}{i b:Nat}{t:World}{G:Nat→CS}{a:Option Addr}{N cap n:Nat}{R:List (Fly×Value)}{w:World}(h:zft tag i b t G a N cap N R w)(hn:n≤N) :
  ∃tag' V',zt tag i b t V' ((G N).fly ((R.take n).map (·.1))) tag' V' (w.setCell ⟨b,236,none⟩ (.slice a n cap)):=by
 have f:=zmy h.row h.1 hn;obtain⟨hl,tag',V',r,h1,h2⟩:=h;have m:Mod (fun q=>q=b) w (w.setCell ⟨b,236,none⟩ (.slice a n cap)):=(Mod.refl (fun q=>q=b) w).setCell (p:=⟨b,_,none⟩) (.inl rfl) _;have d:∀g,(Value.slice a n cap).ownBlock=some g→tag' g=(i,4):=fun g hg=>r.c.tft g (by rw[h1];cases a<;>exact hg)
 have s:∀g,(Value.slice a n cap).ownBlock=some g→¬g=b:=fun g hg e=>by
  have h3:=d g hg;rw[e,r.c.tb]at h3;simp at h3
 have l:(R.take n).length=n:=by rw[List.length_take,hl];omega
 refine⟨tag',{ V' with ft:=.slice a n cap,fts:=(R.take n).map (·.2) },⟨?_,⟨r.e.old,r.e.new,r.e.out.mod m⟩,zan r.e r.m (m.mono (fun q o=>.inl (zbk (r:=1) (by rw[show q=b from o];exact r.c.tb) (by decide)))),r.p,⟨rfl,rfl⟩⟩⟩;refine r.c.build (R:=fun r=>r=1) m (fun q o=>⟨1,rfl,by rw[show q=b from o];exact r.c.tb⟩) (fun _ _=>rfl) ?_ (.inl ⟨rfl,rfl,rfl,by omega,by omega⟩) (fun k hk=>.inl ⟨rfl,rfl,by omega⟩) (fun k hk=>.inl ⟨rfl,rfl,by omega⟩) (fun k hk=>.inl ⟨rfl,rfl,by omega⟩) (fun k hk=>.inl ⟨rfl,rfl,by omega⟩) (fun k hk=>.inl ⟨rfl,rfl,by omega⟩) (.inr ⟨?_,?_,?_,?_⟩) (.inl ⟨rfl,rfl,by omega⟩) (.inl ⟨rfl,rfl,by omega⟩) (.inl ⟨rfl,rfl,by omega⟩)
 ·rw[zc r.c.obj];simp only[List.setIfInBounds_toArray];rw[show(236:Nat)=233+3 from rfl,zV (j:=3) ((G N).fly (R.map (·.1))) ((G N).fly ((R.take n).map (·.1))) V' { V' with ft:=.slice a n cap,fts:=(R.take n).map (·.2) } (.slice a n cap) rfl rfl rfl rfl]
 ·simp only[CS.fly,List.length_map,zay,l];exact m.owns f s
 ·simp[CS.fly]
 ·simp only[CS.fly,zay];intro p hp;refine(r.c.fs p (by rw[h2];simp only[CS.fly,zay];exact List.mem_of_mem_take hp)).mod m (fun q o e=>?_) (fun _ e=>e);rw[show q=b from o,r.c.tb]at e;simp at e
 ·exact d
structure zeW(c:CS)(rs:zD):Prop where
 sz:∀p∈c.flight,p.fs.length≤1099511627776
 ag:∀(k:Nat) p,c.flight[k]?=some p→zb9 rs p=true→∀(j:Nat) f,p.fs[j]?=some f→zhs ((p.fs.take j).foldl CS.ackF (c.ackPs rs (c.flight.take k))) f
theorem zhs.fly{c:CS}{f:Frm}(h:zhs c f)(l:List Fly):zhs (c.fly l) f :=
 ⟨h.st,fun h4 hd=>by
  obtain⟨k,o⟩:=h.a h4 hd;exact⟨k,⟨o.lt,o.st,o.sent,o.came,o.end_,o.dl⟩⟩⟩
def zoK(c:CS)(rs:zD)(k:Nat):CS:=c.ackPs rs (c.flight.take k)
theorem zmz{tag:Nat→Nat×Nat}{i b cb lb:Nat}{l:World}{c:CS}{rs:zD}{s:Option Addr}{d:Nat}{a:Option Addr}{N cap k:Nat}{R:List (Fly×Value)}{w v:World}(h:zft tag i b l (zoK c rs) a N cap k R w)(ok:zeW c rs)(y:l.cell? ⟨cb,0,none⟩=some (.pointer (some ⟨b,0,none⟩)))(t:¬zaf i tag cb)(z:l.cell? ⟨lb,0,none⟩=some (.slice s rs.length d))(u:¬zaf i tag lb)
  (K:RR l (.slice s rs.length d) rs) (A:zaX (zaf i tag) (.slice s rs.length d)) (L:∀g o n cc,Value.slice s rs.length d = .slice (some ⟨g,o,none⟩) n cc→g<l.heap.size) (M:rs.length≤1099511627776) (m:Mod NoB w v) (x:Fly×Value) (hx:R[k]?=some x) (J:c.flight[k]?=some x.1) :
  Calls Tryz.prog 205 #[.agg #[.int .u64 (x.1.n:Int),.int .u64 (x.1.at_:Int),x.2],.pointer (some ⟨lb,0,none⟩),.pointer (some ⟨cb,0,none⟩)] v (fun e w'=>e = .returned (.bool (zb9 rs x.1))∧zft tag i b l (zoK c rs) a N cap (k+1) R w'∧∀q,w.heap.size≤q→q<v.heap.size→w'.heap[q]?=v.heap[q]?):=by
 obtain⟨hl,tag',V',r,h1,h2⟩:=h;have B:=r.mod0 m;have O:cb<l.heap.size:=zk y;have P:lb<l.heap.size:=zk z;have C:v.cell? ⟨cb,0,none⟩=some (.pointer (some ⟨b,0,none⟩)):=B.m.cell (a:=⟨cb,0,none⟩) t y;have D:v.cell? ⟨lb,0,none⟩=some (.slice s rs.length d):=B.m.cell (a:=⟨lb,0,none⟩) u z;have E:¬zaf i tag' cb:=by unfold zaf at t ⊢;rw[r.e.old cb O];exact t
 have F:¬zaf i tag' lb:=by unfold zaf at u ⊢;rw[r.e.old lb P];exact u
 have G:zaX (zaf i tag') (.slice s rs.length d):=by
  intro g o n cc e x;unfold zaf at x;rw[r.e.old g (L g o n cc e)]at x;exact A g o n cc e x
 have H:x.1∈c.flight:=List.mem_of_getElem? J;have s3:=ok.sz _ H;have kc:=zkG B.refl cb lb rs s d C E D F (K.mod B.m A) G M x.1 x.2 (by rw[h2];simp only[CS.fly,zay];exact List.mem_of_getElem? hx) (fun e j f hf=>by
  rw[zeU];exact(ok.ag k x.1 J e j f hf).fly _) s3
 refine kc.mono ?_;rintro e w' ⟨rfl,tag2,V2,I⟩;have Q:((zoK c rs k).fly (R.map (·.1))).ackP rs x.1=(zoK c rs (k+1)).fly (R.map (·.1)):=by
  unfold zoK;rw[zmw c rs c.flight k x.1 J,zoF]
 rw[Q]at I;refine⟨rfl,⟨hl,tag2,V2,B.trans I,I.ft.1.trans h1,I.ft.2.trans h2⟩,fun q hq S=>?_⟩;refine I.m.block q S (fun hc=>?_);have:=hc.1;rw[r.e.out q hq]at this;have J:=r.p;simp at this;omega
theorem zmA{tag:Nat→Nat×Nat}{i b cb lb N cap:Nat}{rs:zD}{C:Option Addr}{d:Nat}{a:Option Addr}{c:CS}{V:CV}{W W1:World}(h:zg tag i b c V W)(ht:zP tag W)(hi:0<i)(ok:zeW c rs)(hb:c.flight.length≤1099511627776)(q:W.cell? ⟨cb,0,none⟩=some (.pointer (some ⟨b,0,none⟩)))(r:¬zaf i tag cb)(s:W.cell? ⟨lb,0,none⟩=some (.slice C rs.length d))(t:¬zaf i tag lb)
  (u:RR W (.slice C rs.length d) rs) (v:zaX (zaf i tag) (.slice C rs.length d)) (y:∀g o n cc,Value.slice C rs.length d = .slice (some ⟨g,o,none⟩) n cc→g<W.heap.size) (z:rs.length≤1099511627776) (m:Mod NoB W W1) (G:V.ft = .slice a N cap) (H:c.flight.length=N) :
  Calls Tryz.prog 78 #[.slice a N cap,.func (.func 205) #[] #[.pointer (some ⟨lb,0,none⟩),.pointer (some ⟨cb,0,none⟩)]] W1 (zjM (zft tag i b W (zoK c rs) a N cap) (zb9 rs) (c.flight.zip V.fts) a cap):=by
 have A:(c.flight.zip V.fts).length=N:=by rw[List.length_zip,h.fl,Nat.min_self,H]
 have B:(c.flight.zip V.fts).map (·.1)=c.flight:=List.map_fst_zip (Nat.le_of_eq h.fl.symm);have D:(c.flight.zip V.fts).map (·.2)=V.fts:=List.map_snd_zip (Nat.le_of_eq h.fl);have f:=h.ft;rw[G,H]at f;obtain⟨a',I,e,J,q2,q3⟩:=zj f;cases e;have K:∀(k:Nat) (x:Fly×Value),(c.flight.zip V.fts)[k]?=some x→c.flight[k]?=some x.1:=fun k x j=>by
  have:=congrArg (fun l=>l[k]?) B;simp only[List.getElem?_map,j]at this;exact this.symm
 have r0:zt tag i b W V c tag V W:=⟨h,Ext.same ht (Mod.refl NoB W),Mod.refl _ _,hi,⟨rfl,rfl⟩⟩;have j0:zft tag i b W (zoK c rs) a N cap 0 (c.flight.zip V.fts) W:=⟨A,tag,V,by rw[B];exact r0,G,D.symm⟩;obtain⟨g,hg⟩:∃g,0<N→a=some ⟨g,0,none⟩:=by
  by_cases h0:0<N
  ·obtain⟨g,hg⟩:=q3 h0;exact⟨g,fun _=>hg⟩
  ·exact⟨0,fun x=>absurd x h0⟩
 refine zhr (zft tag i b W (zoK c rs) a N cap) (zb9 rs) (c.flight.zip V.fts) N g cap lb cb a A (by omega) J q2 hg (zft.del hg) (zft.delK hg J) (fun k w x E j=>?_) (fun k R w o x E j F=>?_) W1 (j0.mod0 m)
 ·exact(zmz E ok q r s t u v y z (Mod.refl NoB w) x j (K k x j)).mono (fun e w' p=>⟨p.1,p.2.1⟩)
 ·exact(zmz E ok q r s t u v y z ((Mod.refl NoB w).alloc o) x j (K k x F)).mono (fun e w' p=>⟨p.1,p.2.1,p.2.2 _ (Nat.le_refl _) (by simp)⟩)
def CS.ackedTo(c:CS)(rs:zD):CS:=(({ c with largest:=max c.largest (hiAt rs 0) }:CS).ackPs rs c.flight).fly (c.flight.filter fun p => !zb9 rs p)
theorem zgr(c:CS)(rs:zD)(h:¬c.next≤hiAt rs 0):c.acked rs=(0,(c.ackedTo rs).lose):=zoG c rs h
theorem boxes{W W1 W2:World}{x y:Value}{t u:Nat}(h1:W.alloc (.cells #[x] t)=W1)(h2:W1.alloc (.cells #[y] u)=W2):Mod NoB W W2∧W2.cell? ⟨W.heap.size,0,none⟩=some x∧W2.cell? ⟨W.heap.size+1,0,none⟩=some y:=by
 have m1:Mod NoB W W1:=by rw[←h1];exact(Mod.refl _ _).alloc _
 have b:Mod NoB W1 W2:=by rw[←h2];exact(Mod.refl _ _).alloc _
 have hs:W1.heap.size=W.heap.size+1:=by rw[←h1];simp
 refine⟨m1.trans b,?_,?_⟩
 ·refine b.cell (a:=⟨_,0,none⟩) (fun x=>x) ?_;rw[←h1];exact za (heap_alloc_new W _) rfl
 ·rw[←hs,←h2];exact za (heap_alloc_new W1 _) rfl
theorem zkH{tag:Nat→Nat×Nat}{i b:Nat}{c:CS}{V:CV}{W:World}(h:zg tag i b c V W)(C:zP tag W)(hi:0<i)(rs:zD)(t:Option Addr)(a:Nat)(u:RR W (.slice t rs.length a) rs)(D:∀g,Value.blk (.slice t rs.length a)=some g→(tag g).1≠i)(h0:0<rs.length)(E:rs.length≤1099511627776)(hn:c.next≤hiAt rs 0) :
  Calls Tryz.prog 158 #[.pointer (some ⟨b,0,none⟩),.slice t rs.length a] W (zbd tag i b W (.int .i64 11) c):=by
 obtain⟨M,k⟩:=nm (W.alloc (.cells #[.pointer (some ⟨b,0,none⟩)] 69));obtain⟨W1,d⟩:=nm (M.alloc (.cells #[.slice t rs.length a] 63));obtain⟨m1,v,q⟩:=boxes k d;have l:M.heap.size=W.heap.size+1:=by rw[←k];simp
 have w:W1.heap.size=W.heap.size+2:=by rw[←d];simp[l]
 have n:=u.mod m1 (zaX.no _);obtain⟨a',p,r,q1,q2,h3⟩:=id n;obtain⟨g,o,y,e1,B,b1,b2⟩:=h3 0 h0;have B:W1.cell? ⟨g,o+1,none⟩=some (.int .u64 (hiAt rs 0:Int)):=by simpa using B
 have F:t=some ⟨g,o,none⟩:=by cases r;exact y
 have G:p=a:=by cases r;rfl
 subst F;subst G;have h1:=h.mod0 m1;have H:zP tag W1:=C.mod m1;obtain⟨RL,m⟩:=nm rs.length;obtain⟨cb,e⟩:=nm W.heap.size;obtain⟨z,f⟩:=nm (hiAt rs 0);obtain⟨nx,s⟩:=nm c.next;have d0:0<RL:=by omega
 have d1:(nx:Int)≤z:=by rw[←s,←f];omega
 rw[e]at v q l w;rw[m]at q;rw[f]at B b2;have c6:W1.cell? ⟨b,6,none⟩=some (.int .u64 (nx:Int)):=by rw[←s];exact h1.hd (j:=6) rfl
 have H0:=zb (h1.mod0 (Mod.refl NoB W1).drew);have HM:=zb m1;have HT:=zb C;rw[m]at d;have I:=zb k;have J:=zb d;have K:=zb l;have L:=zb e;rw[m];clear h C h1 H u n D h0 h3 y r q1 q2 e1 b1 k d l w m f s e m1 hn E hi;go_enter Tryz.func158,Tryz.ntmps158;go_upto_region 1 with fail;rw[I.out,J.out,L.out];try rw[K.out]
 refine zB ?_;refine zl 9 (fun w'=>w'.cell? ⟨cb,0,none⟩=some (.pointer (some ⟨b,0,none⟩))∧w'.cell? ⟨cb+1,0,none⟩=some (.slice (some ⟨g,o,none⟩) RL p)∧w'.cell? ⟨g,o+1,none⟩=some (.int .u64 (z:Int))∧w'.cell? ⟨b,6,none⟩=some (.int .u64 (nx:Int))) (⟨v,q,B,c6⟩) ?_;refine GI 0 ?_;iterate 9
  refine GS rfl ?_ ?_ ?_;rotate_left
  ·(intro wx A;(try dsimp only at A);obtain⟨f0,f1,f2,f6⟩:=A;go_simp)<;>(try with_reducible rfl)
  try simp only[PS]
 refine zo ?_;refine⟨rfl,?_⟩;go_wp2_with fail;go_ret;exact⟨rfl,H0.out.left HT.out (HM.out.drew.mono (fun _ x=>x.elim))⟩
theorem zkI{tag:Nat→Nat×Nat}{i b:Nat}{c:CS}{V:CV}{W:World}(h:zg tag i b c V W)(ht:zP tag W)(hi:0<i)(rs:zD)(la:Option Addr)(k:Nat)(ab:RR W (.slice la rs.length k) rs)(ac:∀g,Value.blk (.slice la rs.length k)=some g→(tag g).1≠i)(h0:0<rs.length)(ad:rs.length≤1099511627776)(hn:¬c.next≤hiAt rs 0)(hb:c.flight.length≤1099511627776)(ok:zeW { c with largest:=max c.largest (hiAt rs 0) } rs)(ae:zeV (c.ackedTo rs)) :
  Calls Tryz.prog 158 #[.pointer (some ⟨b,0,none⟩),.slice la rs.length k] W (zbd tag i b W (.int .i64 0) (c.ackedTo rs).lose):=by
 obtain⟨W0,E⟩:=nm (W.alloc (.cells #[.pointer (some ⟨b,0,none⟩)] 69));obtain⟨W1,t⟩:=nm (W0.alloc (.cells #[.slice la rs.length k] 63));obtain⟨m1,u,s⟩:=boxes E t;have F:W0.heap.size=W.heap.size+1:=by rw[←E];simp
 have af:W1.heap.size=W.heap.size+2:=by rw[←t];simp[F]
 have v:=ab.mod m1 (zaX.no _);obtain⟨a',w,M,q1,q2,h3⟩:=id v;obtain⟨g,o,ah,e1,O,b1,b2⟩:=h3 0 h0;have O:W1.cell? ⟨g,o+1,none⟩=some (.int .u64 (hiAt rs 0:Int)):=by simpa using O
 have ay:la=some ⟨g,o,none⟩:=by cases M;exact ah
 have az:w=k:=by cases M;rfl
 subst ay;subst az;have h1:=h.mod0 m1;have ai:zP tag W1:=ht.mod m1;obtain⟨RL,y⟩:=nm rs.length;obtain⟨cb,z⟩:=nm W.heap.size;obtain⟨A,B⟩:=nm (hiAt rs 0);obtain⟨nx,P⟩:=nm c.next;have d0:0<RL:=by omega
 have d1:¬(nx:Int)≤A:=by rw[←P,←B];omega
 rw[z]at u s F af;rw[y]at s;rw[B]at O b2;have c6:W1.cell? ⟨b,6,none⟩=some (.int .u64 (nx:Int)):=by rw[←P];exact h1.hd (j:=6) rfl
 have Q:W1.cell? ⟨b,237,none⟩=some (.int .u64 (c.largest:Int)):=h1.tl (j:=4) rfl;have aj:W1.frozen? ⟨b,237,none⟩=false:=h1.fz 237;obtain⟨lg,ak⟩:=nm c.largest;obtain⟨L2,S⟩:=nm (max c.largest (hiAt rs 0));rw[S]at ok;have ez:(if lg<A then(A:Int)else(lg:Int))=(L2:Int):=by split<;>omega
 rw[ak]at Q;obtain⟨W2,G⟩:=nm (W1.setCell ⟨b,237,none⟩ (.int .u64 (L2:Int)));have T:Mod (fun q=>q=b) W1 W2:=by rw[←G];exact(Mod.refl (fun q=>q=b) W1).setCell (p:=⟨b,_,none⟩) (.inl rfl) _
 have h2:zg tag i b { c with largest:=L2 } V W2:=by
  rw[←G];exact h1.store (233+4) _ (zV c { c with largest:=L2 } V V (j:=4) _ rfl rfl rfl rfl) ⟨rfl,fun _ _=>⟨rfl,rfl,rfl⟩,fun _ _=>⟨rfl,rfl⟩,rfl,rfl,rfl,rfl⟩
 have al:zP tag W2:=ai.mod T;have C:∀q,cb≤q→¬zaf i tag q:=fun q hq x=>by
  have h5:=x.1;rw[ht q (by omega)]at h5;simp at h5;omega
 have U:∀q,cb≤q→q≠b:=fun q hq e=>C q hq (by rw[e];exact zbk h.tb (by decide))
 have D:=T.cell (a:=⟨cb,0,none⟩) (U _ (Nat.le_refl _)) u;have H:=T.cell (a:=⟨cb+1,0,none⟩) (U _ (by show cb≤cb+1;omega)) s;have X:(tag g).1≠i:=ac g rfl;have Y:¬g=b:=fun e=>X (by rw[e,h.tb])
 have I:=v.mod T (fun g' o' n' c' e x=>by cases e;exact Y x);obtain⟨a,cap,hv,_⟩:=zj h2.ft;obtain⟨N,hN⟩:=nm c.flight.length;have hv:V.ft = .slice a N cap:=by rw[hv];simp only[hN]
 have am:g<W2.heap.size:=zk (T.cell (a:=⟨g,_,none⟩) Y O);have kd:=zmA h2 al hi ok hb D (C _ (Nat.le_refl _)) (by rw[y];exact H) (C _ (by omega)) I (fun g' o' n' c' e x=>by cases e;exact X x.1) (fun g' o' n' c' e=>by cases e;exact am) ad ((Mod.refl NoB W2).drew.drew.drew) hv hN;have ao:W2.cell? ⟨b,236,none⟩=some (.slice a N cap):=by rw[←hv];exact h2.tl (j:=3) rfl
 have fz:W2.frozen? ⟨b,236,none⟩=false:=h2.fz 236;have ap:(c.flight.zip V.fts).length=N:=by rw[List.length_zip,h.fl,Nat.min_self,hN]
 have aq:(c.flight.zip V.fts).map (·.1)=c.flight:=List.map_fst_zip (Nat.le_of_eq h.fl.symm);have ar:c.ackedTo rs=(({ c with largest:=L2 }:CS).ackPs rs c.flight).fly (c.flight.filter fun p => !zb9 rs p):=by unfold CS.ackedTo;rw[S]
 have MW:Hid (Mod (zaf i tag) W W2):=zb ((m1.mono (fun _ x=>x.elim)).trans (T.mono (fun q hq=>.inl (zbk (r:=1) (by rw[show q=b from hq];exact h.tb) (by decide)))));have KD:=zb kd;have HT:=zb ht;have HI:=zb hi;have au:=zb C;have aa:=zb D;have HZ:=zb (And.intro ap aq);have HN:=zb hN;have aA:=zb G;have av:=zb ae;have HB:=zb hb;have aB:=zb ar;rw[y]at t;have aC:=zb E;have aD:=zb t;have aE:=zb F;have aF:=zb z;rw[y];clear h ht h1 ai ab v I ac h0 h3 ah M q1 q2 e1 b1 E t G F af y B P z m1 T hn ad hi h2 al ak S ok ae hb C U D H X Y am kd ap aq ar hN hv;go_enter Tryz.func158,Tryz.ntmps158;go_upto_region 1 with fail;rw[aC.out,aD.out,aF.out];try rw[aE.out]
 refine zB ?_;refine zl 9 (fun w'=>w'.cell? ⟨cb,0,none⟩=some (.pointer (some ⟨b,0,none⟩))∧w'.cell? ⟨cb+1,0,none⟩=some (.slice (some ⟨g,o,none⟩) RL w)∧w'.cell? ⟨g,o+1,none⟩=some (.int .u64 (A:Int))∧w'.cell? ⟨b,6,none⟩=some (.int .u64 (nx:Int))) (⟨u,s,O,c6⟩) ?_;refine GI 0 ?_;iterate 9
  refine GS rfl ?_ ?_ ?_;rotate_left
  ·(intro wx d;(try dsimp only at d);obtain⟨f0,f1,f2,f6⟩:=d;go_simp)<;>(try with_reducible rfl)
  try simp only[PS]
 refine zo ?_;refine⟨rfl,?_⟩;go_upto_region 3 with fail;refine zB ?_;refine zl 12 (fun w'=>w'.cell? ⟨cb,0,none⟩=some (.pointer (some ⟨b,0,none⟩))∧w'.cell? ⟨cb+1,0,none⟩=some (.slice (some ⟨g,o,none⟩) RL w)∧w'.cell? ⟨g,o+1,none⟩=some (.int .u64 (A:Int))∧w'.cell? ⟨b,237,none⟩=some (.int .u64 (lg:Int))∧w'.frozen? ⟨b,237,none⟩=false) (⟨u,s,O,Q,aj⟩) ?_;refine GI 0 ?_;iterate 12
  refine GS rfl ?_ ?_ ?_;rotate_left
  ·(intro wx d;(try dsimp only at d);obtain⟨f0,f1,f2,f6,f7⟩:=d;go_simp)<;>(try with_reducible rfl)
  try simp only[PS]
 refine zQ rfl (fun K J=>?_);go_simp;try simp only[ez]
 refine J.out _ _ ?_;clear J K;try simp only[PS]
 refine zo ?_;refine⟨rfl,?_⟩;go_upto_region 4 with fail;rw[aA.out];refine zB ?_;refine zl 9 (fun w'=>w'.cell? ⟨cb,0,none⟩=some (.pointer (some ⟨b,0,none⟩))∧w'.cell? ⟨b,236,none⟩=some (.slice a N cap)∧w'.frozen? ⟨b,236,none⟩=false) (⟨aa.out,ao,fz⟩) ?_;refine GI 0 ?_;iterate 6
  refine GS rfl ?_ ?_ ?_;rotate_left
  ·(intro wx d;(try dsimp only at d);obtain⟨f0,f1,f2⟩:=d;go_simp)<;>(try with_reducible rfl)
  try simp only[PS]
 refine zx 6 rfl (fun K J=>?_);go_simp
 with_reducible refine(KD.out).mono ?_
 rintro e w6 ⟨n,R,rfl,aw,hj,hR⟩;have HJ:=zb (And.intro aw (And.intro hj hR));have hF:w6.cell? ⟨cb,0,none⟩=some (.pointer (some ⟨b,0,none⟩))∧w6.cell? ⟨b,236,none⟩=some (.slice a N cap)∧w6.frozen? ⟨b,236,none⟩=false:=by
  obtain⟨hl,tag',V',r,g1,g2⟩:=hj;exact⟨r.m.cell (a:=⟨cb,0,none⟩) (au.out _ (Nat.le_refl _)) aa.out,by rw[←g1];exact r.c.tl (j:=3) rfl,r.c.fz 236⟩
 clear hj aw hR;go_simp;refine J.out _ _ hF ?_;obtain⟨p0,p1,p2⟩:=hF;clear J K;try simp only[PS]
 refine GI 7 ?_;iterate 2
  refine GS rfl ?_ ?_ ?_;rotate_left
  ·(intro wx d;(try dsimp only at d);obtain⟨f0,f1,f2⟩:=d;go_simp)<;>(try with_reducible rfl)
  try simp only[PS]
 refine zQ rfl (fun K J=>?_);go_simp;refine J.out _ _ ?_;clear J K;try simp only[PS]
 refine zo ?_;refine⟨rfl,?_⟩;obtain⟨Z,hZ⟩:=nm (w6.setCell ⟨b,236,none⟩ (.slice a n cap));have hD:∃tag' V',zt tag i b W2 V' (c.ackedTo rs) tag' V' Z:=by
  obtain⟨j1,j2,j3⟩:=HJ.out;rw[HZ.out.1]at j1 j2;have hR:(R.take n).map (·.1)=c.flight.filter fun p => !zb9 rs p:=by
   rw[j3];have e:=List.filter_map (f:=fun x:Fly×Value=>x.1) (p:=fun p => !zb9 rs p) (l:=c.flight.zip V.fts);rw[HZ.out.2]at e;exact e.symm
  have:=j2.done j1;rw[hZ,hR]at this;rw[aB.out];unfold zoK at this;rw[←HN.out,List.take_of_length_le (Nat.le_refl _)]at this;exact this
 obtain⟨aG,V7,r7⟩:=hD;have L:(c.ackedTo rs).flight.length≤1099511627776:=Nat.le_trans (List.length_filter_le _ _) HB.out;have kl:=zjP r7.c r7.e.out HI.out av.out L;have zcb:Z.cell? ⟨cb,0,none⟩=some (.pointer (some ⟨b,0,none⟩)):=r7.m.cell (a:=⟨cb,0,none⟩) (au.out _ (Nat.le_refl _)) aa.out;have KL:=zb kl;have R7:=zb r7;clear kl r7 p0 p1 p2 ao fz u s O Q aj c6 L;try rw[hZ]
 clear hZ;go_wp2_with fail;refine(KL.out).mono ?_;rintro e w9 ⟨rfl,ax,V9,r1,r2,r3⟩;have R9:=zb (And.intro r1 (And.intro r2 r3));clear r1 r2 r3;go_wp2_with fail;go_ret;refine⟨rfl,ax,V9,R9.out.1,?_,?_⟩
 ·have x1:Ext i tag tag W W2:=Ext.same HT.out MW.out;exact(x1.trans R7.out.e MW.out.size).trans R9.out.2.1 (Nat.le_trans MW.out.size R7.out.m.size)
 ·refine(MW.out.trans R7.out.m).ofC.then R9.out.2.2 (fun g hg=>?_);by_cases hz:g<W2.heap.size
  ·rw[R7.out.e.old g hz]at hg;exact .inl hg
  ·exact .inr (Nat.le_trans MW.out.size (by omega))
theorem zg.rcameAt{tag:Nat→Nat×Nat}{i b:Nat}{c:CS}{V:CV}{W:World}(h:zg tag i b c V W){k:Nat}(hk:k<8)(hl:(c.rs k).came.rs.length≤1099511627776):zbz W b (129+13*k+1) (V.rc k) (c.rs k).came.rs (c.rs k).came.fl (c.rs k).came.most :=
 ⟨h.r (j:=1) hk rfl,h.r (j:=2) hk rfl,h.r (j:=3) hk rfl,h.rc k hk,hl,fun j=>h.fz j⟩
theorem zt.rcame{tag:Nat→Nat×Nat}{i b:Nat}{w:World}{x:CV}{c:CS}{tag':Nat→Nat×Nat}{d:CV}{W' W'':World}{v':Value}{s:zaQ}(h:zt tag i b w x c tag' d W'){k:Nat}(hk:k<8)(ha:zhn s b (129+13*k+1) (d.rc k) W' W'' v')(hm:s.most=(c.rs k).came.most) :
  ∃tag2 V2,zt tag i b w x { c with rs:=upd c.rs k { c.rs k with came:=s } } tag2 V2 W''∧∀g,g<W'.heap.size→tag2 g=tag' g:=by
 obtain⟨l,n,f,v⟩:=ha;have z:=h.p;have o:∀{g r:Nat},tag' g=(i,r)→g<W'.heap.size:=fun hg=>zaA h.e.out hg z
 have t:∀g,(tag' g).1=i→retag tag' W' W'' (i,50+k) g=tag' g:=fun g hg=>zw (o (r:=(tag' g).2) (by rw[←hg]))
 have A:∀g,(g=b∨(d.rc k).ownBlock=some g)→∃r,(r=1∨r=50+k)∧tag' g=(i,r):=fun g hg=>by
  rcases hg with hg|hg
  ·exact⟨1,.inl rfl,by rw[hg,h.c.tb]⟩
  ·exact⟨50+k,.inr rfl,h.c.trc k hk g hg⟩
 refine⟨retag tag' W' W'' (i,50+k),{ d with rc:=upd d.rc k v' },⟨?_,h.e.trans (zbj f.size) h.m.size,zan h.e h.m (f.mono (fun g hg=>.inl ?_)),z,h.ft⟩,fun g hg=>zw hg⟩
 ·refine h.c.build (R:=fun r=>r=1∨r=50+k) f A t ?_ (.inl ⟨rfl,rfl,rfl,by omega,by omega⟩) (fun q u=>.inl ⟨rfl,rfl,by omega⟩) (fun q u=>.inl ⟨rfl,rfl,by omega⟩) (fun q u=>.inl ⟨rfl,rfl,by omega⟩) (fun q u=>.inl ⟨?_,rfl,by omega⟩) (fun q u=>?_) (.inl ⟨rfl,rfl,rfl,by omega,by omega⟩) (.inl ⟨rfl,rfl,by omega⟩) (.inl ⟨rfl,rfl,by omega⟩) (.inl ⟨rfl,rfl,by omega⟩)
  ·rw[n,zc (zc h.c.obj)];simp only[List.setIfInBounds_toArray];have e1:=zbp c c d { d with rc:=upd d.rc k v' } (k:=k) (j:=1) v' hk (by decide) (fun q _=>by
    by_cases a:q=k
    ·subst a;simp only[zf,if_true];rfl
    ·simp only[ze _ _ a,if_neg a]) rfl rfl rfl
   rw[e1];have e2:=zbp c { c with rs:=upd c.rs k { c.rs k with came:=s } } { d with rc:=upd d.rc k v' } { d with rc:=upd d.rc k v' } (k:=k) (j:=2) (.int .u64 (s.fl:Int)) hk (by decide) (fun q _=>by
    by_cases a:q=k
    ·subst a;simp only[zf,if_true,zbO,hm];rfl
    ·simp only[ze _ _ a,if_neg a]) rfl rfl rfl
   rw[show 129+13*k+1+1=129+13*k+2 from rfl,e2]
  ·by_cases a:q=k
   ·subst a;simp only[zf]
   ·simp only[ze _ _ a]
  ·by_cases a:q=k
   ·subst a;simp only[zf];refine .inr ⟨l,fun g hg=>?_⟩;rcases v g hg with y|y
    ·rw[zw (o (h.c.trc q hk g y)),h.c.trc q hk g y]
    ·exact zaj y (zE l g hg)
   ·exact .inl ⟨by simp only[ze _ _ a],by simp only[ze _ _ a],by omega⟩
 ·obtain⟨r,hr,e⟩:=A g hg;exact zbk e (by omega)
theorem zt.rbytes{tag:Nat→Nat×Nat}{i b:Nat}{v:World}{w:CV}{c:CS}{tag':Nat→Nat×Nat}{f:CV}{W' W'':World}{v':Value}{bs:List UInt8}(h:zt tag i b v w c tag' f W'){k:Nat}(hk:k<8)(l:OB W'' v' bs)(n:W''.heap[b]?=(W'.setCell ⟨b,129+13*k,none⟩ v').heap[b]?)(d:Mod (fun q=>q=b∨(f.rb k).ownBlock=some q) W' W'')(u:zaG W' (f.rb k) v') :
  ∃tag2 V2,zt tag i b v w { c with rs:=upd c.rs k { c.rs k with b:=bs } } tag2 V2 W''∧∀g,g<W'.heap.size→tag2 g=tag' g:=by
 have x:=h.p;have o:∀{g r:Nat},tag' g=(i,r)→g<W'.heap.size:=fun hg=>zaA h.e.out hg x
 have s:∀g,(tag' g).1=i→retag tag' W' W'' (i,40+k) g=tag' g:=fun g hg=>zw (o (r:=(tag' g).2) (by rw[←hg]))
 have z:∀g,(g=b∨(f.rb k).ownBlock=some g)→∃r,(r=1∨r=40+k)∧tag' g=(i,r):=fun g hg=>by
  rcases hg with hg|hg
  ·exact⟨1,.inl rfl,by rw[hg,h.c.tb]⟩
  ·exact⟨40+k,.inr rfl,h.c.trb k hk g hg⟩
 refine⟨retag tag' W' W'' (i,40+k),{ f with rb:=upd f.rb k v' },⟨?_,h.e.trans (zbj d.size) h.m.size,zan h.e h.m (d.mono (fun g hg=>.inl ?_)),x,h.ft⟩,fun g hg=>zw hg⟩
 ·refine h.c.build (R:=fun r=>r=1∨r=40+k) d z s ?_ (.inl ⟨rfl,rfl,rfl,by omega,by omega⟩) (fun q t=>.inl ⟨rfl,rfl,by omega⟩) (fun q t=>.inl ⟨rfl,rfl,by omega⟩) (fun q t=>.inl ⟨rfl,rfl,by omega⟩) (fun q t=>?_) (fun q t=>.inl ⟨?_,rfl,by omega⟩) (.inl ⟨rfl,rfl,rfl,by omega,by omega⟩) (.inl ⟨rfl,rfl,by omega⟩) (.inl ⟨rfl,rfl,by omega⟩) (.inl ⟨rfl,rfl,by omega⟩)
  ·rw[n,zc h.c.obj];simp only[List.setIfInBounds_toArray];rw[show 129+13*k=129+13*k+0 from rfl,zbp c { c with rs:=upd c.rs k { c.rs k with b:=bs } } f { f with rb:=upd f.rb k v' } (k:=k) (j:=0) v' hk (by decide) (fun q _=>by
    by_cases a:q=k
    ·subst a;simp only[zf,if_true];rfl
    ·simp only[ze _ _ a,if_neg a]) rfl rfl rfl]
  ·by_cases a:q=k
   ·subst a;simp only[zf];refine .inr ⟨l,fun g hg=>?_⟩;rcases u g hg with y|y
    ·rw[zw (o (h.c.trb q hk g y)),h.c.trb q hk g y]
    ·exact zaj y (zE l g hg)
   ·exact .inl ⟨by simp only[ze _ _ a],by simp only[ze _ _ a],by omega⟩
  ·by_cases a:q=k
   ·subst a;simp only[zf]
   ·simp only[ze _ _ a]
 ·obtain⟨r,hr,e⟩:=z g hg;exact zbk e (by omega)
theorem zt.addRcame{tag:Nat→Nat×Nat}{i b:Nat}{o:World}{q:CV}{c:CS}{tag':Nat→Nat×Nat}{f:CV}{W':World}(h:zt tag i b o q c tag' f W'){k:Nat}(hk:k<8)(hs:(c.rs k).came.Ok)(lo hi:Nat)(j:lo≤zA)(l:hi≤zA) :
  Calls Tryz.prog 88 #[.pointer (some ⟨b,129+13*k+1,none⟩),.int .u64 (lo:Int),.int .u64 (hi:Int)] W' (zmx tag i b o q { c with rs:=upd c.rs k { c.rs k with came:=(c.rs k).came.add lo hi } } tag' W'):=by
 have hm:=hs.most;have hrl:=hs.rl;have m:=hs.fl;have hp:=h.p;unfold zA at j l m;have n:(f.rc k).ownBlock≠some b:=fun e=>by
  have h1:=h.c.trc k hk b e;rw[h.c.tb]at h1;have:=congrArg Prod.snd h1;simp only at this;omega
 refine(zcj (c.rs k).came b (129+13*k+1) lo hi (f.rc k) W' (h.c.rcameAt hk (by omega)) hs.wf (by omega) (by omega) (by omega) n hm.1 (by omega)).mono ?_;rintro e W'' ⟨v',rfl,h1,h2,h3,h4⟩;refine⟨rfl,?_,fun g hg d=>h3.block g hg (fun x=>?_)⟩
 ·obtain⟨tag2,V2,r,d⟩:=h.rcame hk ⟨h1,h2,h3,h4⟩ (zbs _ _ _);exact⟨tag2,V2,r,d⟩
 ·rcases x with x|x
  ·have a:=h.c.tb;rw[←x,d]at a;have:=congrArg Prod.snd a;simp at this
  ·have a:=h.c.trc k hk g x;rw[d]at a;have:=congrArg Prod.snd a;simp at this;omega
theorem zhu(rs:zD):∀lo e,lo<e→(zaD rs lo e).1<e→lo≤(zaD rs lo e).1∧(zaD rs lo e).1<(zaD rs lo e).2:=by
 induction rs with
 | nil=>intro lo e h _;exact⟨Nat.le_refl _,h⟩
 | cons r l ih =>
  intro lo e c h;unfold zaD at h ⊢;by_cases h1:r.2<lo
  ·rw[if_pos h1]at h ⊢;exact ih lo e c h
  ·rw[if_neg h1]at h ⊢;by_cases h2:lo<r.1
   ·rw[if_pos h2]at h ⊢;exact⟨Nat.le_refl _,Nat.lt_min.2 ⟨c,h2⟩⟩
   ·rw[if_neg h2]at h ⊢;have hk:∀(l:zD) lo e,(zaD l lo e).1<e→lo<e:=by
     intro l
     induction l with
     | nil=>intro lo e h;exact h
     | cons q l ih2 =>
      intro lo e h;unfold zaD at h;by_cases g1:q.2<lo
      ·rw[if_pos g1]at h;exact ih2 _ _ h
      ·rw[if_neg g1]at h;by_cases d:lo<q.1
       ·rw[if_pos d]at h;exact h
       ·rw[if_neg d]at h;have:=ih2 _ _ h;omega
    have:=hk _ _ _ h;obtain⟨a,b⟩:=ih (r.2+1) e this h;exact⟨by omega,b⟩
theorem zdG(l:List UInt8)(a b:Nat):(zq l).extract a b=zq ((l.drop a).take (b-a)):=by
 rw[Lib.extract_eq,zaK];rfl
theorem zb0(b:List UInt8)(i:Nat)(s:List UInt8)(h:i+s.length≤b.length):(zhg b i s).length=b.length:=by
 unfold zhg;simp only[List.length_append,List.length_take,List.length_drop];omega
theorem zqf{w:World}{bs s:List UInt8}{g cap lo:Nat}(h:OB w (.slice (some ⟨g,0,none⟩) bs.length cap) bs)(d:lo+s.length≤bs.length)(c f:Nat)(hd:s.length≤c) :
  ∃w',(∀ty,(Builtin.copy_ #[60,9] ty #[.slice (some ⟨g,lo,none⟩) c f,.string (zq s)]).run Tryz.prog w = .ok (goInt s.length) w')∧OB w' (.slice (some ⟨g,0,none⟩) bs.length cap) (zhg bs lo s)∧Mod (fun q=>q=g) w w':=by
 rcases h.2 with⟨e,_⟩|⟨g',i,a,e,_,h1,h2,h3,h4,b⟩
 ·cases e
 ·cases e;have hcs:a.size=cap:=by simpa using h4
  have b:a.toList.take bs.length=zO bs:=by simpa using b
  have hk:∀ty,_:=fun ty=>Lib.run_copy_row_string (P:=Tryz.prog) w 60 9 ty 5 g lo c f (zq s) a _ Tryz.underlying60 (by kernel_rfl) h1 (by rw[zJ];exact hd) (by rw[zJ];omega)
  rw[zJ]at hk;refine⟨_,hk,?_,zcQ w g _⟩;unfold OB;rw[zb0 bs lo s d];refine⟨?_,.inr ⟨g,cap,_,rfl,Nat.zero_le _,setRow_heap w g a _ _ _ h1,h2,h3,?_,?_⟩⟩
  ·rw[zal,zb0 bs lo s d,Nat.mul_one]
  ·simp only[List.size_toArray,List.length_append,List.length_take,List.length_drop,Array.length_toList,Lib.byteCells_length,zaK];omega
  ·simp only[Nat.mul_one,zaK,zhg,zbg];have hl:Lib.byteCells s=zO s:=rfl;have e1:zO (bs.take lo)=a.toList.take lo:=by
    have:zO (bs.take lo)=(zO bs).take lo:=by simp[zO,List.map_take]
    rw[this,←b,List.take_take,Nat.min_eq_left (by omega)]
   have e2:zO (bs.drop (lo+s.length))=(a.toList.drop (lo+s.length)).take (bs.length-(lo+s.length)):=by
    have:zO (bs.drop (lo+s.length))=(zO bs).drop (lo+s.length):=by simp[zO,List.map_drop]
    rw[this,←b,List.drop_take]
   rw[e1,e2,hl,List.append_assoc];have j:(a.toList.take lo).length=lo:=by rw[List.length_take,Array.length_toList];omega
   generalize a.toList.take lo=A at j ⊢;generalize a.toList.drop (lo+s.length)=B;have e3:A.take bs.length=A:=List.take_of_length_le (by omega);have e4:(zO s).take (bs.length-lo)=zO s:=List.take_of_length_le (by rw[zal];omega);rw[List.take_append,j,e3,List.take_append,zal,e4,show bs.length-lo-s.length=bs.length-(lo+s.length)by omega]
theorem zt.rbne{tag:Nat→Nat×Nat}{i b:Nat}{W0:World}{V0:CV}{c:CS}{tag':Nat→Nat×Nat}{a:CV}{W':World}(h:zt tag i b W0 V0 c tag' a W'){k:Nat}(hk:k<8):¬(a.rb k).ownBlock=some b:=fun e=>by
 have h1:=h.c.trb k hk b e;rw[h.c.tb]at h1;have:=congrArg Prod.snd h1;simp only at this;omega
theorem zt.rapp{tag:Nat→Nat×Nat}{i b:Nat}{n:World}{o:CV}{c:CS}{tag':Nat→Nat×Nat}{d:CV}{W' W2:World}{v':Value}{s:List UInt8}(h:zt tag i b n o c tag' d W'){k:Nat}(hk:k<8)(f:App W' (d.rb k) (c.rs k).b s v' W2) :
  (∃tag2 V2,zt tag i b n o { c with rs:=upd c.rs k { c.rs k with b:=(c.rs k).b++s } } tag2 V2 (W2.setCell ⟨b,129+13*k,none⟩ v'))∧W2.cell? ⟨b,129+13*k,none⟩=some (d.rb k)∧W2.frozen? ⟨b,129+13*k,none⟩=false:=by
 have hb:=h.rbne hk;have m1:Mod (fun g=>(d.rb k).ownBlock=some g) W' W2:=(Mod.refl _ W').grown f.grown (fun g hg=>.inl hg);have o1:=m1.obj hb h.c.obj;have hw:Mod (fun g=>g=b) W2 (W2.setCell ⟨b,129+13*k,none⟩ v'):=(Mod.refl (fun g=>g=b) _).setCell (p:=⟨b,129+13*k,none⟩) (.inl rfl) _;have l:b<W'.heap.size:=zaA h.e.out h.c.tb h.p;have m:∀g,v'.ownBlock=some g→¬g=b:=fun g hg x=>by
  subst x;rcases f.at_ g hg with y|y
  ·exact hb y
  ·omega
 obtain⟨tag2,V2,r,_⟩:=h.rbytes hk (hw.owns f.own m) (zbf (m1.block b l hb) _ _) ((m1.mono (fun g hg=>.inl (.inr hg))).setCell (p:=⟨b,_,none⟩) (.inl (.inl rfl)) _) f.at_;exact⟨⟨tag2,V2,r⟩,m1.cell (a:=⟨b,_,none⟩) hb (h.c.r (j:=0) hk rfl),zd o1⟩
theorem zt.rturn{tag:Nat→Nat×Nat}{i b g n cap:Nat}{l:World}{o:CV}{c:CS}{tag':Nat→Nat×Nat}{a:CV}{W' W2:World}{bs:List UInt8}(h:zt tag i b l o c tag' a W'){k:Nat}(hk:k<8)(d:a.rb k = .slice (some ⟨g,0,none⟩) n cap)(ho:OB W2 (.slice (some ⟨g,0,none⟩) n cap) bs)(m:Mod (fun q=>q=g) W' W2) :
  ∃tag2 V2,zt tag i b l o { c with rs:=upd c.rs k { c.rs k with b:=bs } } tag2 V2 W2:=by
 have hb:=h.rbne hk;have f:¬b=g:=fun e=>hb (by rw[d,e];rfl)
 have c0:W'.cell? ⟨b,129+13*k,none⟩=some (a.rb k):=h.c.r (j:=0) hk rfl;obtain⟨tag2,V2,r,_⟩:=h.rbytes hk (v':=a.rb k) (by rw[d];exact ho) (by rw[zax c0];exact m.block b (zaA h.e.out h.c.tb h.p) f) (m.mono (fun q hq=>.inl (.inr (by rw[d,show q=g from hq];rfl)))) (zaG.refl _ _);exact⟨tag2,V2,r⟩
end Go.Proofs.YtddfdpbaiedcjaaGreatDoor
