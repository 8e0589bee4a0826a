/- A part of Urgent's proof. Conditions: none. Part 23 of 32. -/
import Derived.Test.YtddfdpbaiedcjaaGreatDoorUrg20
import Derived.Test.YtddfdpbaiedcjaaGreatDoorUrg22
set_option maxRecDepth 100000
set_option maxHeartbeats 16000000
set_option linter.all false
namespace Go.Proofs.YtddfdpbaiedcjaaGreatDoor
open Go.RowKit
structure zjS(c:CS)(f:Frm):Prop where
 ack:f.kind=2→0<f.rngs.length∧f.rngs.length≤1099511627776∧c.flight.length≤1099511627776∧(¬c.next≤hiAt f.rngs 0→zeW { c with largest:=max c.largest (hiAt f.rngs 0) } f.rngs∧zeV (c.ackedTo f.rngs))
 reset:f.kind=3→∃k:Nat,k<8∧f.stream=(k:Int)
 data:f.kind=4→∃k,zmB c f k
 ms:f.kind=6→∃k:Nat,k<8∧f.stream=(k:Int)
 msg:f.kind=7→zqg c f
theorem zmH{tag:Nat→Nat×Nat}{i b:Nat}{c:CS}{V:CV}{W:World}(h:zg tag i b c V W)(p:zP tag W)(hi:0<i)(f:Frm)(q:Option Addr)(rn d:Nat)(h2:¬f.kind=2)(h3:¬f.kind=3)(h4:¬f.kind=4)(v:¬f.kind=5)(w:¬f.kind=6)(y:¬f.kind=7)(z:¬f.kind=8) :
  Calls Tryz.prog 89 #[.pointer (some ⟨b,0,none⟩),.agg (zh f (.slice q rn d))] W (zbd tag i b W (.int .i64 0) c):=by
 obtain⟨W1,a⟩:=nm (W.alloc (.cells (zh f (.slice q rn d)) 65));have m1:Mod NoB W W1:=by rw[←a];exact(Mod.refl _ _).alloc _
 have j:zi W1 W.heap.size f (.slice q rn d):=by rw[←a];exact heap_alloc_new W _
 have h1:=h.mod0 m1;have n:zP tag W1:=p.mod m1;have A:zt tag i b W1 V c tag V W1:=⟨h1,Ext.same n (Mod.refl NoB W1),Mod.refl _ _,hi,⟨rfl,rfl⟩⟩;have o:Hid (∀{c':CS} {tag':Nat→Nat×Nat} {V':CV} {W':World},zt tag i b W1 V c' tag' V' W'→zbc tag i b W c' W'):=zb (fun r =>
  ⟨_,_,r.c,zaT p m1 r.e,(m1.mono (fun _ x=>x.elim)).then r.m.ofC (fun g hg=>.inl hg)⟩)
 have s:Hid (∀{c':CS} {W':World},zbc tag i b W1 c' W'→zbc tag i b W c' W'):=zb (fun l=>l.from0 p hi m1);obtain⟨fb,k⟩:=nm W.heap.size;rw[k]at j;obtain⟨y0,y1,y2,y3,y4,y5,y6,y7,y8,y9⟩:=j.cells;have g2:(f.kind==2)=false:=by simpa using h2
 have g3:(f.kind==3)=false:=by simpa using h3
 have g4:(f.kind==4)=false:=by simpa using h4
 have g5:(f.kind==5)=false:=by simpa using v
 have g6:(f.kind==6)=false:=by simpa using w
 have g7:(f.kind==7)=false:=by simpa using y
 have g8:(f.kind==8)=false:=by simpa using z
 have R0:=zb A;have t:=zb a;have u:=zb k;clear h p hi m1 j h1 n A a k y1 y2 y3 y4 y5 y6 y7 y8 y9 h2 h3 h4 v w y z;go_enter Tryz.func89,Tryz.ntmps89;go_upto_region 1 with fail;rw[t.out,u.out];go_wp2_with fail;go_ret;exact⟨rfl,o.out R0.out⟩
theorem zmI{tag:Nat→Nat×Nat}{i b:Nat}{c:CS}{V:CV}{W:World}(h:zg tag i b c V W)(p:zP tag W)(hi:0<i)(f:Frm)(q:Option Addr)(rn d:Nat)(v:f.kind=8) :
  Calls Tryz.prog 89 #[.pointer (some ⟨b,0,none⟩),.agg (zh f (.slice q rn d))] W (zbd tag i b W (.int .i64 13) c):=by
 obtain⟨W1,a⟩:=nm (W.alloc (.cells (zh f (.slice q rn d)) 65));have m1:Mod NoB W W1:=by rw[←a];exact(Mod.refl _ _).alloc _
 have j:zi W1 W.heap.size f (.slice q rn d):=by rw[←a];exact heap_alloc_new W _
 have h1:=h.mod0 m1;have n:zP tag W1:=p.mod m1;have w:zt tag i b W1 V c tag V W1:=⟨h1,Ext.same n (Mod.refl NoB W1),Mod.refl _ _,hi,⟨rfl,rfl⟩⟩;have o:Hid (∀{c':CS} {tag':Nat→Nat×Nat} {V':CV} {W':World},zt tag i b W1 V c' tag' V' W'→zbc tag i b W c' W'):=zb (fun r =>
  ⟨_,_,r.c,zaT p m1 r.e,(m1.mono (fun _ x=>x.elim)).then r.m.ofC (fun g hg=>.inl hg)⟩)
 have s:Hid (∀{c':CS} {W':World},zbc tag i b W1 c' W'→zbc tag i b W c' W'):=zb (fun l=>l.from0 p hi m1);obtain⟨fb,k⟩:=nm W.heap.size;rw[k]at j;obtain⟨y0,y1,y2,y3,y4,y5,y6,y7,y8,y9⟩:=j.cells;rw[v]at y0;have R0:=zb w;have t:=zb a;have u:=zb k;clear h p hi m1 j h1 n w a k y1 y2 y3 y4 y5 y6 y7 y8 y9 v;go_enter Tryz.func89,Tryz.ntmps89;go_upto_region 1 with fail;rw[t.out,u.out];go_wp2_with fail;go_ret;exact⟨rfl,o.out R0.out⟩
theorem zmJ{tag:Nat→Nat×Nat}{i b:Nat}{c:CS}{V:CV}{W:World}(h:zg tag i b c V W)(w:zP tag W)(hi:0<i)(f:Frm)(y:Option Addr)(rn d:Nat)(H:f.kind=5) :
  Calls Tryz.prog 89 #[.pointer (some ⟨b,0,none⟩),.agg (zh f (.slice y rn d))] W (zbd tag i b W (.int .i64 0) { c with credit:=max c.credit f.lim }):=by
 obtain⟨W1,a⟩:=nm (W.alloc (.cells (zh f (.slice y rn d)) 65));have m1:Mod NoB W W1:=by rw[←a];exact(Mod.refl _ _).alloc _
 have k:zi W1 W.heap.size f (.slice y rn d):=by rw[←a];exact heap_alloc_new W _
 have h1:=h.mod0 m1;have s:zP tag W1:=w.mod m1;have z:zt tag i b W1 V c tag V W1:=⟨h1,Ext.same s (Mod.refl NoB W1),Mod.refl _ _,hi,⟨rfl,rfl⟩⟩;have t:Hid (∀{c':CS} {tag':Nat→Nat×Nat} {V':CV} {W':World},zt tag i b W1 V c' tag' V' W'→zbc tag i b W c' W'):=zb (fun r =>
  ⟨_,_,r.c,zaT w m1 r.e,(m1.mono (fun _ x=>x.elim)).then r.m.ofC (fun g hg=>.inl hg)⟩)
 have A:Hid (∀{c':CS} {W':World},zbc tag i b W1 c' W'→zbc tag i b W c' W'):=zb (fun l=>l.from0 w hi m1);obtain⟨fb,n⟩:=nm W.heap.size;rw[n]at k;obtain⟨y0,y1,y2,y3,I,y5,y6,y7,y8,y9⟩:=k.cells;rw[H]at y0;have u:W1.cell? ⟨b,233,none⟩=some (.int .u64 (c.credit:Int)):=h1.tl (j:=0) rfl;have B:=h1.fz 233;obtain⟨C,o⟩:=nm (max c.credit f.lim);have J:=z.store (233+0) (.int .u64 (C:Int)) (zV c { c with credit:=C } V V (j:=0) _ rfl rfl rfl rfl) ⟨rfl,fun _ _=>⟨rfl,rfl,rfl⟩,fun _ _=>⟨rfl,rfl⟩,rfl,rfl,rfl,rfl⟩;rw[o];obtain⟨D,p⟩:=nm c.credit;obtain⟨E,q⟩:=nm f.lim;rw[p,q]at o;rw[p]at u;rw[q]at I;have ez:(if D<E then(E:Int)else(D:Int))=(C:Int):=by split<;>omega
 have HS:=zb J;have R0:=zb z;have F:=zb a;have G:=zb n;clear h w hi m1 k h1 s z a n y1 y2 y3 y5 y6 y7 y8 y9 H J o p q;go_enter Tryz.func89,Tryz.ntmps89;go_upto_region 1 with fail;rw[F.out,G.out];go_upto_region 14 with fail;refine zB ?_;refine zl 10 (fun w'=>w'.cell? ⟨b,233,none⟩=some (.int .u64 (D:Int))∧w'.frozen? ⟨b,233,none⟩=false∧w'.cell? ⟨fb,4,none⟩=some (.int .u64 (E:Int))) (⟨u,B,I⟩) ?_;refine GI 0 ?_;iterate 10
  refine GS rfl ?_ ?_ ?_;rotate_left
  ·(intro wx v;(try dsimp only at v);obtain⟨f0,f1,f2⟩:=v;go_simp)<;>(try with_reducible rfl)
  try simp only[PS]
 refine zQ rfl (fun K L=>?_);go_simp;try simp only[ez]
 refine L.out _ _ ?_;clear L K;try simp only[PS]
 refine zo ?_;refine⟨rfl,?_⟩;go_wp2_with fail;go_ret;exact⟨rfl,t.out (HS.out.mod0 (Mod.refl NoB _).drew)⟩
theorem zmK{tag:Nat→Nat×Nat}{i b:Nat}{c:CS}{V:CV}{W:World}(h:zg tag i b c V W)(B:zP tag W)(hi:0<i)(f:Frm)(C:Option Addr)(rn n:Nat)(N:f.kind=6)(k:Nat)(hk:k<8)(u:f.stream=(k:Int)) :
  Calls Tryz.prog 89 #[.pointer (some ⟨b,0,none⟩),.agg (zh f (.slice C rn n))] W (zbd tag i b W (.int .i64 0) { c with ws:=upd c.ws k { c.ws k with credit:=max (c.ws k).credit f.lim } }):=by
 obtain⟨W1,a⟩:=nm (W.alloc (.cells (zh f (.slice C rn n)) 65));have m1:Mod NoB W W1:=by rw[←a];exact(Mod.refl _ _).alloc _
 have o:zi W1 W.heap.size f (.slice C rn n):=by rw[←a];exact heap_alloc_new W _
 have h1:=h.mod0 m1;have v:zP tag W1:=B.mod m1;have D:zt tag i b W1 V c tag V W1:=⟨h1,Ext.same v (Mod.refl NoB W1),Mod.refl _ _,hi,⟨rfl,rfl⟩⟩;have y:Hid (∀{c':CS} {tag':Nat→Nat×Nat} {V':CV} {W':World},zt tag i b W1 V c' tag' V' W'→zbc tag i b W c' W'):=zb (fun r =>
  ⟨_,_,r.c,zaT B m1 r.e,(m1.mono (fun _ x=>x.elim)).then r.m.ofC (fun g hg=>.inl hg)⟩)
 have E:Hid (∀{c':CS} {W':World},zbc tag i b W1 c' W'→zbc tag i b W c' W'):=zb (fun l=>l.from0 B hi m1);obtain⟨fb,p⟩:=nm W.heap.size;rw[p]at o;obtain⟨y0,O,y2,y3,P,y5,y6,y7,y8,y9⟩:=o.cells;rw[N]at y0;rw[u]at O;have z:W1.cell? ⟨b,9+k*15+14,none⟩=some (.int .u64 ((c.ws k).credit:Int)):=by rw[Nat.mul_comm k 15];exact h1.w (j:=14) hk rfl
 have F:=h1.fz (9+k*15+14);obtain⟨G,q⟩:=nm (max (c.ws k).credit f.lim);have A:({ c with ws:=upd c.ws k (c.ws k) }:CS)=c:=by rw[za2]
 have H:=(D.same A.symm).storeW hk 14 (by decide) (.int .u64 (G:Int)) { c.ws k with credit:=G } rfl rfl rfl rfl;rw[Nat.mul_comm 15 k]at H;rw[q];obtain⟨I,s⟩:=nm ((c.ws k).credit);obtain⟨J,t⟩:=nm f.lim;rw[s,t]at q;rw[s]at z;rw[t]at P;have ez:(if I<J then(J:Int)else(I:Int))=(G:Int):=by split<;>omega
 have dk0:(0:Int)≤k:=by omega
 have dk8:(k:Int)<8:=by omega
 have HS:=zb H;have R0:=zb D;have L:=zb a;have M:=zb p;clear h B hi m1 o h1 v D a p y2 y3 y5 y6 y7 y8 y9 N H q s t u A;go_enter Tryz.func89,Tryz.ntmps89;go_upto_region 1 with fail;rw[L.out,M.out];go_upto_region 16 with fail;refine zB ?_;refine zl 7 (fun w'=>w'.cell? ⟨fb,1,none⟩=some (.int .i64 (k:Int))) (O) ?_;refine GI 0 ?_;iterate 7
  refine GS rfl ?_ ?_ ?_;rotate_left
  ·(intro wx d;(try dsimp only at d);go_simp)<;>(try with_reducible rfl)
  try simp only[PS]
 refine zo ?_;refine⟨rfl,?_⟩;go_upto_region 17 with fail;refine zB ?_;refine zl 10 (fun w'=>w'.cell? ⟨b,9+k*15+14,none⟩=some (.int .u64 (I:Int))∧w'.frozen? ⟨b,9+k*15+14,none⟩=false∧w'.cell? ⟨fb,4,none⟩=some (.int .u64 (J:Int))) (⟨z,F,P⟩) ?_;refine GI 0 ?_;iterate 10
  refine GS rfl ?_ ?_ ?_;rotate_left
  ·(intro wx d;(try dsimp only at d);obtain⟨f0,f1,f2⟩:=d;go_simp)<;>(try with_reducible rfl)
  try simp only[PS]
 refine zQ rfl (fun K Q=>?_);go_simp;try simp only[ez]
 refine Q.out _ _ ?_;clear Q K;try simp only[PS]
 refine zo ?_;refine⟨rfl,?_⟩;go_wp2_with fail;go_ret;exact⟨rfl,y.out (HS.out.mod0 (Mod.refl NoB _).drew.drew)⟩
theorem zmL{tag:Nat→Nat×Nat}{i b:Nat}{c:CS}{V:CV}{W:World}(h:zg tag i b c V W)(u:zP tag W)(hi:0<i)(f:Frm)(k:Option Addr)(rn a:Nat)(h2:f.kind=2)(v:rn=f.rngs.length)(w:RR W (.slice k rn a) f.rngs)(n:∀g,Value.blk (.slice k rn a)=some g→(tag g).1≠i)(ok:zjS c f) :
  Calls Tryz.prog 89 #[.pointer (some ⟨b,0,none⟩),.agg (zh f (.slice k rn a))] W (zbd tag i b W (.int .i64 ((c.acked f.rngs).1:Int)) (c.acked f.rngs).2):=by
 obtain⟨W1,d⟩:=nm (W.alloc (.cells (zh f (.slice k rn a)) 65));have m1:Mod NoB W W1:=by rw[←d];exact(Mod.refl _ _).alloc _
 have o:zi W1 W.heap.size f (.slice k rn a):=by rw[←d];exact heap_alloc_new W _
 have h1:=h.mod0 m1;have j:zP tag W1:=u.mod m1;have D:zt tag i b W1 V c tag V W1:=⟨h1,Ext.same j (Mod.refl NoB W1),Mod.refl _ _,hi,⟨rfl,rfl⟩⟩;have E:Hid (∀{c':CS} {tag':Nat→Nat×Nat} {V':CV} {W':World},zt tag i b W1 V c' tag' V' W'→zbc tag i b W c' W'):=zb (fun r =>
  ⟨_,_,r.c,zaT u m1 r.e,(m1.mono (fun _ x=>x.elim)).then r.m.ofC (fun g hg=>.inl hg)⟩)
 have p:Hid (∀{c':CS} {W':World},zbc tag i b W1 c' W'→zbc tag i b W c' W'):=zb (fun l=>l.from0 u hi m1);obtain⟨fb,q⟩:=nm W.heap.size;rw[q]at o;obtain⟨y0,y1,y2,y3,y4,y5,y6,y7,y8,y9⟩:=o.cells;subst v;obtain⟨o1,y,F,z⟩:=ok.ack h2;have A:Calls Tryz.prog 158 #[.pointer (some ⟨b,0,none⟩),.slice k f.rngs.length a] W1 (zbd tag i b W1 (.int .i64 ((c.acked f.rngs).1:Int)) (c.acked f.rngs).2):=by
  by_cases s:c.next≤hiAt f.rngs 0
  ·have e:c.acked f.rngs=(11,c):=by unfold CS.acked;rw[if_pos s]
   rw[e];exact zkH h1 j hi f.rngs k a (w.mod m1 (zaX.no _)) n o1 y s
  ·rw[zgr c f.rngs s];exact zkI h1 j hi f.rngs k a (w.mod m1 (zaX.no _)) n o1 y s F (z s).1 (z s).2
 rw[h2]at y0;obtain⟨RL,t⟩:=nm f.rngs.length;rw[t]at A y9 d ⊢;have KA:=zb A;have R0:=zb D;have B:=zb d;have C:=zb q;clear h u hi m1 o h1 j D d q y1 y2 y3 y4 y5 y6 y7 y8 h2 w n ok A o1 y F z t;go_enter Tryz.func89,Tryz.ntmps89;go_upto_region 1 with fail;rw[B.out,C.out];go_upto_region 3 with fail;go_wp2_with fail;refine(KA.out).mono ?_;rintro e W6 ⟨rfl,G⟩;have L6:=zb G;clear G;go_wp2_with fail;go_ret;exact⟨rfl,p.out L6.out⟩
theorem zmM{tag:Nat→Nat×Nat}{i b:Nat}{c:CS}{V:CV}{W:World}(h:zg tag i b c V W)(q:zP tag W)(hi:0<i)(f:Frm)(s:Option Addr)(rn a:Nat)(hk:f.kind=4)(k:Nat)(ok:zmB c f k) :
  Calls Tryz.prog 89 #[.pointer (some ⟨b,0,none⟩),.agg (zh f (.slice s rn a))] W (zbd tag i b W (.int .i64 ((c.data f).1:Int)) (c.data f).2):=by
 obtain⟨W1,d⟩:=nm (W.alloc (.cells (zh f (.slice s rn a)) 65));have m1:Mod NoB W W1:=by rw[←d];exact(Mod.refl _ _).alloc _
 have j:zi W1 W.heap.size f (.slice s rn a):=by rw[←d];exact heap_alloc_new W _
 have h1:=h.mod0 m1;have n:zP tag W1:=q.mod m1;have w:zt tag i b W1 V c tag V W1:=⟨h1,Ext.same n (Mod.refl NoB W1),Mod.refl _ _,hi,⟨rfl,rfl⟩⟩;have y:Hid (∀{c':CS} {tag':Nat→Nat×Nat} {V':CV} {W':World},zt tag i b W1 V c' tag' V' W'→zbc tag i b W c' W'):=zb (fun r =>
  ⟨_,_,r.c,zaT q m1 r.e,(m1.mono (fun _ x=>x.elim)).then r.m.ofC (fun g hg=>.inl hg)⟩)
 have o:Hid (∀{c':CS} {W':World},zbc tag i b W1 c' W'→zbc tag i b W c' W'):=zb (fun l=>l.from0 q hi m1);obtain⟨fb,p⟩:=nm W.heap.size;rw[p]at j;obtain⟨y0,y1,y2,y3,y4,y5,y6,y7,y8,y9⟩:=j.cells;have t:=zmE h1 n hi f (.slice s rn a) k ok ⟨_,_,_,rfl⟩;rw[hk]at y0;unfold zh at t;rw[hk]at t;have KA:=zb t;have R0:=zb w;have u:=zb d;have v:=zb p;clear h q hi m1 j h1 n w d p t ok;have HK:=zb hk;clear hk;go_enter Tryz.func89,Tryz.ntmps89;go_upto_region 1 with fail;rw[u.out,v.out];go_upto_region 12 with fail;go_wp2_with fail;refine(KA.out).mono ?_;rintro e W6 ⟨rfl,z⟩;have L6:=zb z;clear z;go_wp2_with fail;go_ret;exact⟨rfl,o.out L6.out⟩
theorem zmN{tag:Nat→Nat×Nat}{i b:Nat}{c:CS}{V:CV}{W:World}(h:zg tag i b c V W)(p:zP tag W)(hi:0<i)(f:Frm)(q:Option Addr)(rn a:Nat)(hk:f.kind=7)(ok:zqg c f) :
  Calls Tryz.prog 89 #[.pointer (some ⟨b,0,none⟩),.agg (zh f (.slice q rn a))] W (zbd tag i b W (.int .i64 0) (c.message f)):=by
 obtain⟨W1,d⟩:=nm (W.alloc (.cells (zh f (.slice q rn a)) 65));have m1:Mod NoB W W1:=by rw[←d];exact(Mod.refl _ _).alloc _
 have j:zi W1 W.heap.size f (.slice q rn a):=by rw[←d];exact heap_alloc_new W _
 have h1:=h.mod0 m1;have k:zP tag W1:=p.mod m1;have v:zt tag i b W1 V c tag V W1:=⟨h1,Ext.same k (Mod.refl NoB W1),Mod.refl _ _,hi,⟨rfl,rfl⟩⟩;have w:Hid (∀{c':CS} {tag':Nat→Nat×Nat} {V':CV} {W':World},zt tag i b W1 V c' tag' V' W'→zbc tag i b W c' W'):=zb (fun r =>
  ⟨_,_,r.c,zaT p m1 r.e,(m1.mono (fun _ x=>x.elim)).then r.m.ofC (fun g hg=>.inl hg)⟩)
 have n:Hid (∀{c':CS} {W':World},zbc tag i b W1 c' W'→zbc tag i b W c' W'):=zb (fun l=>l.from0 p hi m1);obtain⟨fb,o⟩:=nm W.heap.size;rw[o]at j;obtain⟨y0,y1,y2,y3,y4,y5,y6,y7,y8,y9⟩:=j.cells;have s:=zhA h1 k hi f (.slice q rn a) ok ⟨_,_,_,rfl⟩;rw[hk]at y0;unfold zh at s;rw[hk]at s;have KA:=zb s;have R0:=zb v;have t:=zb d;have u:=zb o;clear h p hi m1 j h1 k v d o s ok;have HK:=zb hk;clear hk;go_enter Tryz.func89,Tryz.ntmps89;go_upto_region 1 with fail;rw[t.out,u.out];go_upto_region 19 with fail;go_wp2_with fail;refine(KA.out).mono ?_;rintro e W6 ⟨rfl,y⟩;have L6:=zb y;clear y;go_wp2_with fail;go_ret;exact⟨rfl,n.out L6.out⟩
theorem zmO{tag:Nat→Nat×Nat}{i b:Nat}{c:CS}{V:CV}{W:World}(h:zg tag i b c V W)(X:zP tag W)(hi:0<i)(f:Frm)(ra:Option Addr)(rn w:Nat)(h3:f.kind=3)(k:Nat)(hk:k<8)(F:f.stream=(k:Int)) :
  Calls Tryz.prog 89 #[.pointer (some ⟨b,0,none⟩),.agg (zh f (.slice ra rn w))] W (zbd tag i b W (.int .i64 ((c.resetAt f).1:Int)) (c.resetAt f).2):=by
 obtain⟨W1,y⟩:=nm (W.alloc (.cells (zh f (.slice ra rn w)) 65));have m1:Mod NoB W W1:=by rw[←y];exact(Mod.refl _ _).alloc _
 have z:zi W1 W.heap.size f (.slice ra rn w):=by rw[←y];exact heap_alloc_new W _
 have h1:=h.mod0 m1;have Y:zP tag W1:=X.mod m1;have r0:zt tag i b W1 V c tag V W1:=⟨h1,Ext.same Y (Mod.refl NoB W1),Mod.refl _ _,hi,⟨rfl,rfl⟩⟩;have C:Hid (∀{c':CS} {tag':Nat→Nat×Nat} {V':CV} {W':World},zt tag i b W1 V c' tag' V' W'→zbc tag i b W c' W'):=zb (fun r =>
  ⟨_,_,r.c,zaT X m1 r.e,(m1.mono (fun _ x=>x.elim)).then r.m.ofC (fun g hg=>.inl hg)⟩)
 have ae:Hid (∀{c':CS} {W':World},zbc tag i b W1 c' W'→zbc tag i b W c' W'):=zb (fun l=>l.from0 X hi m1);obtain⟨fb,A⟩:=nm W.heap.size;rw[A]at z;obtain⟨y0,y1,G,y3,y4,y5,y6,y7,y8,y9⟩:=z.cells;rw[h3]at y0;rw[F]at y1;have H:Hid (∀{c':CS} {tag':Nat→Nat×Nat} {V':CV} {W':World},zt tag i b W1 V c' tag' V' W'→zi W' fb f (.slice ra rn w)):=zb (fun r=>z.mod r.m (fun x=>by
  have h1:=x.1;rw[←A,X _ (Nat.le_refl _)]at h1;simp at h1;omega))
 obtain⟨x,D⟩:=nm (c.rs k);obtain⟨en,I⟩:=nm x.ended;obtain⟨cu,J⟩:=nm x.cut;obtain⟨t,L⟩:=nm x.fin;obtain⟨S,M⟩:=nm x.high;obtain⟨u,B⟩:=nm x.keep;obtain⟨n,p⟩:=nm f.off;obtain⟨RL,N⟩:=nm f.rel;have r4:W1.cell? ⟨b,129+k*13+4,none⟩=some (.int .u64 (S:Int)):=by rw[←M,←D,Nat.mul_comm k 13];exact h1.r (j:=4) hk rfl
 have r5:W1.cell? ⟨b,129+k*13+5,none⟩=some (.int .u64 (t:Int)):=by rw[←L,←D,Nat.mul_comm k 13];exact h1.r (j:=5) hk rfl
 have r6:W1.cell? ⟨b,129+k*13+6,none⟩=some (.bool en):=by rw[←I,←D,Nat.mul_comm k 13];exact h1.r (j:=6) hk rfl
 have r7:W1.cell? ⟨b,129+k*13+7,none⟩=some (.bool cu):=by rw[←J,←D,Nat.mul_comm k 13];exact h1.r (j:=7) hk rfl
 have r8:W1.cell? ⟨b,129+k*13+8,none⟩=some (.int .u64 (u:Int)):=by rw[←B,←D,Nat.mul_comm k 13];exact h1.r (j:=8) hk rfl
 have fz:=h1.fz;rw[p]at G;rw[N]at y3;have Z:c={ c with rs:=upd c.rs k x }:=by rw[←D,za2]
 have RX:=zb (r0.same Z);have q:Hid (c.resetAt f=if (en&&t != n)||decide (n<S)then(10,c)else(0,{ c with rs:=upd c.rs k (x.resetAt f) })):=zb (by
  unfold CS.resetAt;rw[F];simp only[Int.toNat_natCast,D,I,L,p,M])
 have aa:Hid (x.resetAt f={ x with keep:=if !cu||decide (RL<u)then RL else u,cut:=true,ended:=true,fin:=n }):=zb (by
  unfold RS.resetAt;rw[J,N,B,p])
 have af:=zb B;have O:=zb p;have dk0:(0:Int)≤k:=by omega
 have dk8:(k:Int)<8:=by omega
 have R0:=zb r0;have ah:=zb y;have ai:=zb A;obtain⟨bad,s⟩:=nm (((en&&t != n)||decide (n<S)));rw[s]at q;have ab:=zb s;obtain⟨T,P⟩:=nm ((!cu||decide (RL<u)));rw[P]at aa;have aj:=zb P;clear h X hi m1 z h1 Y r0 y A y4 y5 y6 y7 y8 y9 h3 F D I J L M B p N Z s P;go_enter Tryz.func89,Tryz.ntmps89;go_upto_region 1 with fail;rw[ah.out,ai.out];go_upto_region 5 with fail;refine zB ?_;refine zl 7 (fun w'=>w'.cell? ⟨fb,1,none⟩=some (.int .i64 (k:Int))) (y1) ?_;refine GI 0 ?_;iterate 7
  refine GS rfl ?_ ?_ ?_;rotate_left
  ·(intro d a;(try dsimp only at a);go_simp)<;>(try with_reducible rfl)
  try simp only[PS]
 refine zo ?_;refine⟨rfl,?_⟩;go_upto_region 6 with fail
 go_cut [44] (fun bv d=>bv = .bool bad∧d=W1.drew.drew)
 case first=>as_aux_lemma =>
  have hB:=ab.out;subst hB;cases en
  ·refine zB ?_;refine zl 22 (fun w'=>w'.cell? ⟨b,129+k*13+6,none⟩=some (.bool false)∧w'.cell? ⟨b,129+k*13+5,none⟩=some (.int .u64 (t:Int))∧w'.cell? ⟨b,129+k*13+4,none⟩=some (.int .u64 (S:Int))∧w'.cell? ⟨fb,2,none⟩=some (.int .u64 (n:Int))) (⟨r6,r5,r4,G⟩) ?_;refine GI 0 ?_;iterate 5
    refine GS rfl ?_ ?_ ?_;rotate_left
    ·(intro d a;(try dsimp only at a);obtain⟨f6,f5,f4,f2⟩:=a;go_simp)<;>(try with_reducible rfl)
    try simp only[PS]
   refine GI 5 ?_;iterate 7
    refine GU rfl (fun _ _ _ h=>nomatch h.1) ?_;try simp only[PS]
   refine GI 12 ?_;iterate 10
    refine GS rfl ?_ ?_ ?_;rotate_left
    ·(intro d a;(try dsimp only at a);obtain⟨f6,f5,f4,f2⟩:=a;go_simp)<;>(try with_reducible rfl)
    try simp only[PS]
   refine zo ?_;refine⟨rfl,?_⟩;go_wp2_with fail;go_meet;exact⟨by simp,rfl⟩
  ·by_cases e1:t=n
   ·subst e1;refine zB ?_;refine zl 22 (fun w'=>w'.cell? ⟨b,129+k*13+6,none⟩=some (.bool true)∧w'.cell? ⟨b,129+k*13+5,none⟩=some (.int .u64 (t:Int))∧w'.cell? ⟨b,129+k*13+4,none⟩=some (.int .u64 (S:Int))∧w'.cell? ⟨fb,2,none⟩=some (.int .u64 (t:Int))) (⟨r6,r5,r4,G⟩) ?_;refine GI 0 ?_;iterate 22
     refine GS rfl ?_ ?_ ?_;rotate_left
     ·(intro d a;(try dsimp only at a);obtain⟨f6,f5,f4,f2⟩:=a;go_simp)<;>(try with_reducible rfl)
     try simp only[PS]
    refine zo ?_;refine⟨rfl,?_⟩;go_wp2_with fail;go_meet;exact⟨by simp,rfl⟩
   ·have ak:((t:Int)==(n:Int))=false:=by rw[zdZ];simpa using e1
    have e1d:((t:Int) != (n:Int))=true:=by simp only[bne,ak];rfl
    have E1:=zb e1;clear e1;refine zB ?_;refine zl 22 (fun w'=>w'.cell? ⟨b,129+k*13+6,none⟩=some (.bool true)∧w'.cell? ⟨b,129+k*13+5,none⟩=some (.int .u64 (t:Int))∧w'.cell? ⟨b,129+k*13+4,none⟩=some (.int .u64 (S:Int))∧w'.cell? ⟨fb,2,none⟩=some (.int .u64 (n:Int))) (⟨r6,r5,r4,G⟩) ?_;refine GI 0 ?_;iterate 14
     refine GS rfl ?_ ?_ ?_;rotate_left
     ·(intro d a;(try dsimp only at a);obtain⟨f6,f5,f4,f2⟩:=a;go_simp)<;>(try with_reducible rfl)
     try simp only[PS]
    refine GI 14 ?_;iterate 7
     refine GU rfl (fun _ _ _ h=>nomatch h.1) ?_;try simp only[PS]
    refine GI 21 ?_;refine GS rfl ?_ ?_ ?_;rotate_left
    ·(intro d a;(try dsimp only at a);obtain⟨f6,f5,f4,f2⟩:=a;go_simp)<;>(try with_reducible rfl)
    try simp only[PS]
    refine zo ?_;refine⟨rfl,?_⟩;go_wp2_with fail;go_meet;exact⟨by simp[E1.out],rfl⟩
 case rest =>
 obtain⟨rfl,hw⟩:=hcut;obtain⟨WA,Q⟩:=nn wc;subst Q;subst hw;clear r4 r5 r6;cases bad with
 | true =>
  have o:=q.out;simp only[if_true]at o;have R:=zb o;clear o;go_wp2_with fail;go_ret;rw[R.out];exact⟨rfl,C.out (R0.out.mod0 (Mod.refl NoB W1).drew.drew)⟩
 | false =>
 have o:=q.out;simp only[Bool.false_eq_true,if_false]at o;have R:=zb o;clear o;go_upto_region 8 with fail
 go_cut [58] (fun bv d=>bv = .bool T∧d=W1.drew.drew.drew)
 case first=>as_aux_lemma =>
  have hB:=aj.out;subst hB;cases cu
  ·refine zB ?_;refine zl 14 (fun w'=>w'.cell? ⟨b,129+k*13+7,none⟩=some (.bool false)∧w'.cell? ⟨b,129+k*13+8,none⟩=some (.int .u64 (u:Int))∧w'.cell? ⟨fb,3,none⟩=some (.int .u64 (RL:Int))) (⟨r7,r8,y3⟩) ?_;refine GI 0 ?_;iterate 6
    refine GS rfl ?_ ?_ ?_;rotate_left
    ·(intro d a;(try dsimp only at a);obtain⟨f7,f8,f3⟩:=a;go_simp)<;>(try with_reducible rfl)
    try simp only[PS]
   refine GI 6 ?_;iterate 7
    refine GU rfl (fun _ _ _ h=>nomatch h.1) ?_;try simp only[PS]
   refine GI 13 ?_;refine GS rfl ?_ ?_ ?_;rotate_left
   ·(intro d a;(try dsimp only at a);obtain⟨f7,f8,f3⟩:=a;go_simp)<;>(try with_reducible rfl)
   try simp only[PS]
   refine zo ?_;refine⟨rfl,?_⟩;go_wp2_with fail;go_meet;exact⟨by simp,rfl⟩
  ·refine zB ?_;refine zl 14 (fun w'=>w'.cell? ⟨b,129+k*13+7,none⟩=some (.bool true)∧w'.cell? ⟨b,129+k*13+8,none⟩=some (.int .u64 (u:Int))∧w'.cell? ⟨fb,3,none⟩=some (.int .u64 (RL:Int))) (⟨r7,r8,y3⟩) ?_;refine GI 0 ?_;iterate 14
    refine GS rfl ?_ ?_ ?_;rotate_left
    ·(intro d a;(try dsimp only at a);obtain⟨f7,f8,f3⟩:=a;go_simp)<;>(try with_reducible rfl)
    try simp only[PS]
   refine zo ?_;refine⟨rfl,?_⟩;go_wp2_with fail;go_meet;exact⟨by simp,rfl⟩
 case rest =>
 obtain⟨rfl,hw⟩:=hcut;obtain⟨WA,Q⟩:=nn wc;subst Q;subst hw;have rk:=(RX.out.mod0 (Mod.refl NoB W1).drew.drew.drew).storeR hk 8 (by decide) (.int .u64 (RL:Int)) { x with keep:=RL } (by rfl) rfl rfl;rw[Nat.mul_comm 13 k]at rk;have f8:=fz (129+k*13+8);have RK:=zb rk;clear rk;go_upto_if 58 with fail
 go_cut [] (fun d=>Hid (zt tag i b W1 V { c with rs:=upd c.rs k { x with keep:=if T then RL else u } } tag V d))
 case first=>as_aux_lemma =>
  cases T
  ·go_wp2_with fail;go_meet;exact zb ((RX.out.mod0 (Mod.refl NoB W1).drew.drew.drew).same (by rw[←af.out];simp))
  ·go_wp2_with fail;go_meet;exact zb (RK.out.same (by simp))
 case rest =>
 obtain⟨U,al⟩:=nn wc;subst al;have RB:=hcut;clear hcut RK y1 G y3 r7 r8 f8 fz;have G:U.cell? ⟨fb,2,none⟩=some (.int .u64 (n:Int)):=by rw[←O.out];exact(H.out RB.out).cells.2.2.1
 have fzb:=RB.out.c.fz;obtain⟨u7,c7⟩:∃v,U.cell? ⟨b,129+k*13+7,none⟩=some v:=⟨_,by rw[Nat.mul_comm k 13];exact RB.out.c.r (j:=7) hk rfl⟩;have r1:=RB.out.storeR hk 7 (by decide) (.bool true) { x with keep:=if T then RL else u,cut:=true } (by rfl) rfl rfl;have r2:=r1.storeR hk 6 (by decide) (.bool true) { x with keep:=if T then RL else u,cut:=true,ended:=true } (by rfl) rfl rfl;have r3:=r2.storeR hk 5 (by decide) (.int .u64 (n:Int)) { x with keep:=if T then RL else u,cut:=true,ended:=true,fin:=n } (by rfl) rfl rfl;have ac:(U.setCell ⟨b,129+13*k+7,none⟩ (.bool true)).cell? ⟨fb,2,none⟩=some (.int .u64 (n:Int)):=by rw[←O.out];exact(H.out r1).cells.2.2.1
 have ad:((U.setCell ⟨b,129+13*k+7,none⟩ (.bool true)).setCell ⟨b,129+13*k+6,none⟩ (.bool true)).cell? ⟨fb,2,none⟩=some (.int .u64 (n:Int)):=by rw[←O.out];exact(H.out r2).cells.2.2.1
 have am:=r1.c.fz;have ao:=r2.c.fz;obtain⟨u6,c6⟩:∃v,(U.setCell ⟨b,129+13*k+7,none⟩ (.bool true)).cell? ⟨b,129+k*13+6,none⟩=some v:=⟨_,by rw[Nat.mul_comm k 13];exact r1.c.r (j:=6) hk rfl⟩;obtain⟨u5,c5⟩:∃v,((U.setCell ⟨b,129+13*k+7,none⟩ (.bool true)).setCell ⟨b,129+13*k+6,none⟩ (.bool true)).cell? ⟨b,129+k*13+5,none⟩=some v:=⟨_,by rw[Nat.mul_comm k 13];exact r2.c.r (j:=5) hk rfl⟩;rw[Nat.mul_comm 13 k]at r3 ac ad am ao c6 c5;have R3:=zb (r3.same (c':={ c with rs:=upd c.rs k (x.resetAt f) }) (by rw[aa.out]));clear r1 r2 r3;go_upto_region 10 with fail;refine zB ?_;refine zl 13 (fun w'=>w'.cell? ⟨fb,2,none⟩=some (.int .u64 (n:Int))) (G) ?_;refine GI 0 ?_;iterate 7
  refine GS rfl ?_ ?_ ?_;rotate_left
  ·(intro d a;(try dsimp only at a);go_simp)<;>(try with_reducible rfl)
  try simp only[PS]
 refine zx 7 rfl (fun K E=>?_);go_simp;go_simp;refine E.out _ _ ac ?_;clear E K;try simp only[PS]
 refine GI 8 ?_;iterate 2
  refine GS rfl ?_ ?_ ?_;rotate_left
  ·(intro d a;(try dsimp only at a);go_simp)<;>(try with_reducible rfl)
  try simp only[PS]
 refine zx 10 rfl (fun K E=>?_);go_simp;go_simp;refine E.out _ _ ad ?_;clear E K;try simp only[PS]
 refine GI 11 ?_;iterate 2
  refine GS rfl ?_ ?_ ?_;rotate_left
  ·(intro d a;(try dsimp only at a);go_simp)<;>(try with_reducible rfl)
  try simp only[PS]
 refine zQ rfl (fun K E=>?_);go_simp;refine E.out _ _ ?_;clear E K;try simp only[PS]
 refine zo ?_;refine⟨rfl,?_⟩;go_wp2_with fail;go_ret;rw[R.out];exact⟨rfl,C.out (R3.out.mod0 (Mod.refl NoB _).drew)⟩
theorem zmP{tag:Nat→Nat×Nat}{i b:Nat}{c:CS}{V:CV}{W:World}(h:zg tag i b c V W)(j:zP tag W)(hi:0<i)(f:Frm)(r:Value)(t:RR W r f.rngs)(s:∀g,Value.blk r=some g→(tag g).1≠i)(ok:zjS c f) :
  Calls Tryz.prog 89 #[.pointer (some ⟨b,0,none⟩),.agg (zh f r)] W (zbd tag i b W (.int .i64 ((c.take f).1:Int)) (c.take f).2):=by
 obtain⟨l,a,e,_,_,_⟩:=id t;subst e;unfold CS.take;by_cases h2:f.kind=2
 ·rw[if_pos h2];exact zmL h j hi f l _ a h2 rfl t s ok
 rw[if_neg h2];by_cases h3:f.kind=3
 ·rw[if_pos h3];obtain⟨k,hk,d⟩:=ok.reset h3;exact zmO h j hi f l _ a h3 k hk d
 rw[if_neg h3];by_cases h4:f.kind=4
 ·rw[if_pos h4];obtain⟨k,o⟩:=ok.data h4;exact zmM h j hi f l _ a h4 k o
 rw[if_neg h4];by_cases p:f.kind=5
 ·rw[if_pos p];exact zmJ h j hi f l _ a p
 rw[if_neg p];by_cases m:f.kind=6
 ·rw[if_pos m];obtain⟨k,hk,d⟩:=ok.ms m;have:=zmK h j hi f l f.rngs.length a m k hk d;rw[d];exact this
 rw[if_neg m];by_cases n:f.kind=7
 ·rw[if_pos n];exact zmN h j hi f l _ a n (ok.msg n)
 rw[if_neg n];by_cases q:f.kind=8
 ·rw[if_pos q];exact zmI h j hi f l _ a q
 rw[if_neg q];exact zmH h j hi f l _ a h2 h3 h4 p m n q
def FS(f:Frm):Prop:=(∃k:Nat,k<8∧f.stream=(k:Int))∧(f.kind=4→f.off+f.data.length≤zA∧f.data.length≤1099511627776)
structure RS.Inv(G:Nat)(x:RS):Prop where
 came:x.came.Ok
 in_:∀j,j<x.came.rs.length→hiAt x.came.rs j<x.high
 bl:x.b.length=x.high
 rd:x.read≤x.high
 hg:x.high≤x.grant
 gr:x.grant≤G
 fin:x.fin≤zA
 keep:x.keep≤zA
 st:x.state=2→x.cut=true∧x.keep≤x.read
structure CS.Inv(T:Nat)(c:CS):Prop where
 mtu:64≤c.mtu∧c.mtu≤65536
 win:c.window≤4096
 tot:c.total≤4096
 grant:c.grant≤zA
 credit:c.credit≤zA
 ws:∀k,k<8→(c.ws k).Ok
 rs:∀k,k<8→(c.rs k).Inv (4096*(T+1))
 waits:(∀f∈c.waits,f.Fits)∧c.waits.length≤16
 fl:c.flight.length≤12
 fly:∀p∈c.flight,p.n≤zA∧p.at_≤zA∧p.fs.length≤1099511627776∧∀f∈p.fs,FS f
 now:c.now≤T
 next:c.next≤32*T
 got:c.got.Ok∧c.got.most≤8
 nd:(c.seen.map (·.1)).Nodup
 ids:∀p∈c.seen,p.1≤zA
 sl:c.seen.length≤T
 most:c.most≤zA
 cl:c.came.length≤T
def zbm:Nat:=268435455
theorem RS.Inv.mono{G a:Nat}{x:RS}(h:x.Inv G)(hG:G≤a):x.Inv a:=⟨h.came,h.in_,h.bl,h.rd,h.hg,Nat.le_trans h.gr hG,h.fin,h.keep,h.st⟩
theorem CS.Inv.mono{T a:Nat}{c:CS}(h:c.Inv T)(hT:T≤a):c.Inv a :=
 ⟨h.mtu,h.win,h.tot,h.grant,h.credit,h.ws,fun k hk=>(h.rs k hk).mono (by omega),h.waits,h.fl,h.fly,by have:=h.now;omega,by have:=h.next;omega,h.got,h.nd,h.ids,by have:=h.sl;omega,h.most,by have:=h.cl;omega⟩
theorem RS.Inv.used{G:Nat}{x:RS}(h:x.Inv G)(hG:G≤1099511627776):(x.used≤zA∧x.grant≤zA)∧(x.hopes=true→x.used≤G):=by
 have h1:=h.rd;have h2:=h.hg;have h3:=h.gr;have h4:=h.fin;unfold zA at *;refine⟨⟨?_,by omega⟩,fun c=>?_⟩
 ·unfold RS.used;split<;>omega
 ·unfold RS.used;split
  ·rename_i e;obtain⟨a,b⟩:=h.st e;unfold RS.hopes at c;rw[a]at c;simp[e]at c;omega
  ·omega
theorem CS.Inv.ok{T:Nat}{c:CS}(h:c.Inv T)(hT:T≤zbm):c.Ok:=by
 unfold zbm at hT;refine⟨h.mtu.2,h.win,h.tot,h.grant,h.credit,h.ws,fun k hk=>?_,h.waits.1⟩;obtain⟨a,b⟩:=(h.rs k hk).used (by omega);exact⟨a,fun hh=>by have:=b hh;omega⟩
theorem zpt{rs:zD}{r:Nat×Nat}(h:r∈rs):∃j,j<rs.length∧loAt rs j=r.1∧hiAt rs j=r.2:=by
 obtain⟨j,a,rfl⟩:=List.mem_iff_getElem.1 h;have e:rs.getD j (0,0)=rs[j]:=by simp[List.getD,a]
 exact⟨j,a,by unfold loAt;rw[e],by unfold hiAt;rw[e]⟩
theorem zaQ.Ok.mem{s:zaQ}(h:s.Ok){r:Nat×Nat}(hr:r∈s.rs):r.2≤zA:=by
 obtain⟨j,hj,_,e⟩:=zpt hr;rw[←e];exact h.hi j hj
theorem zaQ.Ok.adds:∀(l:zD) {s:zaQ},s.Ok→(∀r∈l,r.2≤zA)→(s.adds l).Ok
 | [],_,h,_=>h
 | r::l,s,h,hl=>zaQ.Ok.adds l (h.add r.1 (hl r List.mem_cons_self)) (fun q hq=>hl q (List.mem_cons_of_mem _ hq))
theorem WS.Ok.again{x:WS}(h:x.Ok)(f:Frm):(x.again f).Ok:=by
 refine⟨?_,h.came,h.cut,h.len,h.credit,h.high⟩;unfold WS.again;refine zaQ.Ok.adds _ ?_ (fun r a=>h.came.mem (List.mem_reverse.1 a));exact zdd _ _ _ _ (fun r a=>h.sent.mem a) (zbq _ h.sent.most)
theorem WS.Ok.acked{x:WS}(h:x.Ok){f:Frm}(hf:f.off+f.data.length≤zA):(x.acked f).Ok :=
 ⟨h.sent.add _ (by omega),h.came.add _ (by omega),h.cut,h.len,h.credit,h.high⟩
structure zau(c c':CS):Prop where
 hd:c'.mtu=c.mtu∧c'.window=c.window∧c'.total=c.total∧c'.now=c.now∧c'.closed=c.closed∧c'.said=c.said∧c'.next=c.next∧c'.got=c.got∧c'.answer=c.answer
 tl:c'.credit=c.credit∧c'.grant=c.grant∧c'.flight=c.flight∧c'.largest=c.largest∧c'.waits=c.waits∧c'.lastID=c.lastID∧c'.anyID=c.anyID∧c'.seen=c.seen∧c'.most=c.most∧c'.came=c.came
 rs:∀k,k<8→∃a,c'.rs k={ c.rs k with anew:=a }
theorem zau.refl(c:CS):zau c c:=⟨⟨rfl,rfl,rfl,rfl,rfl,rfl,rfl,rfl,rfl⟩,⟨rfl,rfl,rfl,rfl,rfl,rfl,rfl,rfl,rfl,rfl⟩,fun k _=>⟨(c.rs k).anew,rfl⟩⟩
theorem zau.trans{c c' a:CS}(h:zau c c')(k:zau c' a):zau c a:=by
 obtain⟨a1,a2,a3,a4,a5,a6,a7,a8,a9⟩:=h.hd;obtain⟨b1,b2,b3,b4,b5,b6,b7,b8,b9⟩:=k.hd;obtain⟨c1,c2,c3,c4,c5,c6,c7,c8,c9,b⟩:=h.tl;obtain⟨d1,d2,d3,d4,d5,d6,d7,d8,d9,d⟩:=k.tl;refine⟨⟨b1.trans a1,b2.trans a2,b3.trans a3,b4.trans a4,b5.trans a5,b6.trans a6,b7.trans a7,b8.trans a8,b9.trans a9⟩,⟨d1.trans c1,d2.trans c2,d3.trans c3,d4.trans c4,d5.trans c5,d6.trans c6,d7.trans c7,d8.trans c8,d9.trans c9,d.trans b⟩,fun q e=>?_⟩;obtain⟨x,hx⟩:=h.rs q e;obtain⟨y,hy⟩:=k.rs q e;exact⟨y,by rw[hy,hx]⟩
theorem RS.Inv.anew{G:Nat}{x:RS}(h:x.Inv G)(a:Bool):({ x with anew:=a }:RS).Inv G:=⟨h.came,h.in_,h.bl,h.rd,h.hg,h.gr,h.fin,h.keep,h.st⟩
theorem CS.Inv.but{T:Nat}{c c':CS}(h:c.Inv T)(s:zau c c')(hw:∀k,k<8→(c'.ws k).Ok):c'.Inv T:=by
 obtain⟨a1,a2,a3,a4,a5,a6,a7,a8,a9⟩:=s.hd;obtain⟨c1,c2,c3,c4,c5,c6,c7,b,c9,d⟩:=s.tl;exact
  {mtu:=by rw[a1];exact h.mtu
   win:=by rw[a2];exact h.win
   tot:=by rw[a3];exact h.tot
   grant:=by rw[c2];exact h.grant
   credit:=by rw[c1];exact h.credit
   ws:=hw
   rs:=fun k hk=>by obtain⟨a,e⟩:=s.rs k hk;rw[e];exact(h.rs k hk).anew a
   waits:=by rw[c5];exact h.waits
   fl:=by rw[c3];exact h.fl
   fly:=by rw[c3];exact h.fly
   now:=by rw[a4];exact h.now
   next:=by rw[a7];exact h.next
   got:=by rw[a8];exact h.got
   nd:=by rw[b];exact h.nd
   ids:=by rw[b];exact h.ids
   sl:=by rw[b];exact h.sl
   most:=by rw[c9];exact h.most
   cl:=by rw[d];exact h.cl }
theorem zmQ(c:CS)(f:Frm):zau c (c.again f):=by
 have a:=zau.refl c;unfold CS.again;split
 ·exact⟨a.hd,a.tl,a.rs⟩
 ·split
  ·exact⟨a.hd,a.tl,a.rs⟩
  ·split
   ·exact⟨a.hd,a.tl,a.rs⟩
   ·split
    ·refine⟨a.hd,a.tl,fun k _=>?_⟩;by_cases e:k=f.stream.toNat
     ·subst e;exact⟨(c.rs f.stream.toNat).anew||f.lim==(c.rs f.stream.toNat).grant,by simp only[zf]⟩
     ·exact⟨(c.rs k).anew,by simp only[ze _ _ e]⟩
    ·exact a
theorem zoS{c:CS}(f:Frm)(h:∀k,k<8→(c.ws k).Ok):∀k,k<8→((c.again f).ws k).Ok:=by
 intro k hk;unfold CS.again;split
 ·by_cases e:k=f.stream.toNat
  ·subst e;simp only[zf];exact(h _ hk).again f
  ·simp only[ze _ _ e];exact h k hk
 ·split
  ·by_cases e:k=f.stream.toNat
   ·subst e;simp only[zf];have w:=h _ hk;exact⟨w.sent,w.came,w.cut,w.len,w.credit,w.high⟩
   ·simp only[ze _ _ e];exact h k hk
  ·split
   ·exact h k hk
   ·split
    ·exact h k hk
    ·exact h k hk
theorem zfN:∀(fs:List Frm) (c:CS),zau c (c.agains fs)
 | [],c=>zau.refl c
 | f::fs,c=>(zmQ c f).trans (zfN fs (c.again f))
theorem zeY:∀(fs:List Frm) {c:CS},(∀k,k<8→(c.ws k).Ok)→∀k,k<8→((c.agains fs).ws k).Ok
 | [],_,h=>h
 | f::fs,_,h=>zeY fs (zoS f h)
theorem zmR(c:CS)(p:Fly):zau c (c.lose1 p):=by
 unfold CS.lose1;split
 ·exact zfN _ _
 ·exact zau.refl c
theorem zoT{c:CS}(p:Fly)(h:∀k,k<8→(c.ws k).Ok):∀k,k<8→((c.lose1 p).ws k).Ok:=by
 unfold CS.lose1;split
 ·exact zeY _ h
 ·exact h
theorem zdI:∀(l:List Fly) (c:CS),zau c (c.loses l)
 | [],c=>zau.refl c
 | p::l,c=>(zmR c p).trans (zdI l (c.lose1 p))
theorem zgu:∀(l:List Fly) {c:CS},(∀k,k<8→(c.ws k).Ok)→∀k,k<8→((c.loses l).ws k).Ok
 | [],_,h=>h
 | p::l,_,h=>zgu l (zoT p h)
theorem CS.Inv.loseOk{T:Nat}{c:CS}(h:c.Inv T):zeV c:=by
 refine⟨fun p a=>⟨(h.fly p a).1,(h.fly p a).2.1,(h.fly p a).2.2.1⟩,fun k p a _ j f hf=>?_⟩;obtain⟨⟨q,d,b⟩,h4⟩:=(h.fly p (List.mem_of_getElem? a)).2.2.2 f (List.mem_of_getElem? hf);have g:=zeY (p.fs.take j) (zgu (c.flight.take k) h.ws) q d;refine⟨fun e=>?_,fun _=>by omega,fun _=>by omega⟩;rw[b,Int.toNat_natCast];exact⟨d,b,g.sent,g.came,(h4 e).1,(h4 e).2⟩
theorem CS.Inv.sub{T:Nat}{c:CS}(h:c.Inv T)(p:Fly→Bool):(c.fly (c.flight.filter p)).Inv T :=
 {mtu:=h.mtu,win:=h.win,tot:=h.tot,grant:=h.grant,credit:=h.credit,ws:=h.ws,rs:=h.rs,waits:=h.waits,now:=h.now,next:=h.next,got:=h.got,nd:=h.nd,ids:=h.ids,sl:=h.sl,most:=h.most,cl:=h.cl
  fl:=Nat.le_trans (List.length_filter_le _ _) h.fl
  fly:=fun q hq=>h.fly q (List.mem_filter.1 hq).1 }
theorem CS.Inv.lose{T:Nat}{c:CS}(h:c.Inv T):c.lose.Inv T:=by
 have h1:=h.but (zdI c.flight c) (zgu c.flight h.ws);rw[ziZ];have h2:=h1.sub (fun p => !c.late p);rw[(zdI c.flight c).tl.2.2.1]at h2;exact h2
theorem CS.Inv.ticked{T:Nat}{c:CS}(h:c.Inv T):c.ticked.Inv (T+1):=by
 have a:=h.mono (show T≤T+1 by omega);exact
  {mtu:=h.mtu,win:=h.win,tot:=h.tot,grant:=h.grant,credit:=h.credit,ws:=h.ws,rs:=a.rs,fl:=h.fl,fly:=h.fly,next:=a.next,got:=h.got,nd:=h.nd,ids:=h.ids,sl:=a.sl,most:=h.most,cl:=a.cl
   now:=by have:=h.now;show c.now+1≤_;omega
   waits:=⟨fun f hf=>h.waits.1 f (List.mem_filter.1 hf).1,Nat.le_trans (List.length_filter_le _ _) h.waits.2⟩ }
theorem CS.Inv.tick{T:Nat}{c:CS}(h:c.Inv T):c.tick.Inv (T+1):=h.ticked.lose
theorem zoU(c:CS)(f:Frm):zau c (c.ackF f):=by
 have a:=zau.refl c;unfold CS.ackF;split
 ·exact⟨a.hd,a.tl,a.rs⟩
 ·exact a
theorem zqj{c:CS}{f:Frm}(hf:FS f)(h:∀k,k<8→(c.ws k).Ok):∀k,k<8→((c.ackF f).ws k).Ok:=by
 intro k hk;unfold CS.ackF;split
 ·rename_i e;by_cases a:k=f.stream.toNat
  ·subst a;simp only[zf];exact(h _ hk).acked (hf.2 e.1).1
  ·simp only[ze _ _ a];exact h k hk
 ·exact h k hk
theorem zhD:∀(fs:List Frm) (c:CS),zau c (fs.foldl CS.ackF c)
 | [],c=>zau.refl c
 | f::fs,c=>(zoU c f).trans (zhD fs (c.ackF f))
theorem zgv:∀(fs:List Frm) {c:CS},(∀f∈fs,FS f)→(∀k,k<8→(c.ws k).Ok)→∀k,k<8→((fs.foldl CS.ackF c).ws k).Ok
 | [],_,_,h=>h
 | f::fs,_,hf,h=>zgv fs (fun g hg=>hf g (List.mem_cons_of_mem _ hg)) (zqj (hf f List.mem_cons_self) h)
theorem zoV(c:CS)(rs:zD)(p:Fly):zau c (c.ackP rs p):=by
 unfold CS.ackP;split
 ·exact zhD _ _
 ·exact zau.refl c
theorem zqk{c:CS}(rs:zD){p:Fly}(hp:∀f∈p.fs,FS f)(h:∀k,k<8→(c.ws k).Ok):∀k,k<8→((c.ackP rs p).ws k).Ok:=by
 unfold CS.ackP;split
 ·exact zgv _ hp h
 ·exact h
theorem zdJ(rs:zD):∀(l:List Fly) (c:CS),zau c (c.ackPs rs l)
 | [],c=>zau.refl c
 | p::l,c=>(zoV c rs p).trans (zdJ rs l (c.ackP rs p))
theorem zgw(rs:zD):∀(l:List Fly) {c:CS},(∀p∈l,∀f∈p.fs,FS f)→(∀k,k<8→(c.ws k).Ok)→∀k,k<8→((c.ackPs rs l).ws k).Ok
 | [],_,_,h=>h
 | p::l,_,hp,h=>zgw rs l (fun q hq=>hp q (List.mem_cons_of_mem _ hq)) (zqk rs (hp p List.mem_cons_self) h)
theorem CS.Inv.large{T:Nat}{c:CS}(h:c.Inv T)(n:Nat):({ c with largest:=n }:CS).Inv T :=
 {mtu:=h.mtu,win:=h.win,tot:=h.tot,grant:=h.grant,credit:=h.credit,ws:=h.ws,rs:=h.rs,waits:=h.waits,now:=h.now,next:=h.next,got:=h.got,nd:=h.nd,ids:=h.ids,sl:=h.sl,most:=h.most,cl:=h.cl,fl:=h.fl,fly:=h.fly }
theorem CS.Inv.ackedOk{T:Nat}{c:CS}(h:c.Inv T)(rs:zD):zeW c rs:=by
 refine⟨fun p d=>(h.fly p d).2.2.1,fun k p d _ j f hf=>?_⟩;have a:=List.mem_of_getElem? d;have e:=List.mem_of_getElem? hf;have b:=(h.fly p a).2.2.2 f e;refine⟨b.1,fun h4 _=>?_⟩;obtain⟨⟨q,l,i⟩,hb⟩:=b;have m:=zgv (p.fs.take j) (fun g hg=>(h.fly p a).2.2.2 g (List.mem_of_mem_take hg)) (zgw rs (c.flight.take k) (fun r hr=>(h.fly r (List.mem_of_mem_take hr)).2.2.2) h.ws) q l;exact⟨q,l,i,m.sent,m.came,(hb h4).1,(hb h4).2⟩
theorem CS.Inv.ackedTo{T:Nat}{c:CS}(h:c.Inv T)(rs:zD):(c.ackedTo rs).Inv T:=by
 have h0:=h.large (max c.largest (hiAt rs 0));have h1:=h0.but (zdJ rs c.flight _) (zgw rs c.flight (fun p hp=>(h.fly p hp).2.2.2) h0.ws);have h2:=h1.sub (fun p => !zb9 rs p);rw[(zdJ rs c.flight _).tl.2.2.1]at h2;exact h2
theorem CS.Inv.acked{T:Nat}{c:CS}(h:c.Inv T)(rs:zD):(c.acked rs).2.Inv T:=by
 by_cases a:c.next≤hiAt rs 0
 ·unfold CS.acked;rw[if_pos a];exact h
 ·rw[zgr c rs a];exact(h.ackedTo rs).lose
def zi7(w0 w:World)(ev:Value)(n:Nat)(at_:Int):Prop :=
 (at_ = -1∧ev=zdt n)∨∃fa,ev = .iface 162 (.pointer (some ⟨fa,0,none⟩))∧w.heap[fa]?=some (.cells #[.int .i64 (n:Int),.int .i64 at_] 167 (0,0))∧w0.heap.size≤fa
def zdK(tag:Nat→Nat×Nat)(i b:Nat)(W:World)(n:Nat)(at_:Int)(c':CS)(e:Ending)(W':World):Prop :=
 ∃ev,e = .returned ev∧zi7 W W' ev n at_∧zbc tag i b W c' W'
def zeZ:List Frm→CS→Prop
 | [],_=>True
 | f::fs,c=>zjS c f∧((c.take f).1=0→zeZ fs { (c.take f).2 with answer:=(c.take f).2.answer||f.kind != 2 })
theorem zql{tag:Nat→Nat×Nat}{i b:Nat}{c:CS}{V:CV}{W W':World}(h:zg tag i b c V W)(ht:zP tag W)(hi:0<i)(m:c.got.Ok)(lo a:Nat)(n:a≤zA){e:Ending}(ha:zp7 c.got V.g 0 lo a V.gv W e W') :
  e = .returned (.tuple #[])∧zbc tag i b W { c with got:=c.got.add lo a } W':=by
 obtain⟨v',rfl,h1,h2,h3,h4⟩:=ha;refine⟨rfl,?_⟩;have p:∀{g r:Nat},tag g=(i,r)→g<W.heap.size:=fun hg=>zaA ht hg hi
 have q:∀g,(g=V.g∨V.gv.ownBlock=some g)→∃r,(r=2∨r=3)∧tag g=(i,r):=fun g hg=>by
  rcases hg with hg|hg
  ·exact⟨2,.inl rfl,by rw[hg];exact h.tg⟩
  ·exact⟨3,.inr rfl,h.tgv g hg⟩
 have d:∀g,(tag g).1=i→retag tag W W' (i,3) g=tag g:=fun g hg=>zw (p (r:=(tag g).2) (by rw[←hg]))
 have hb:¬(b=V.g∨V.gv.ownBlock=some b):=fun x=>by
  obtain⟨r,hr,e⟩:=q b x;rw[h.tb]at e;have:=congrArg Prod.snd e;simp at this;omega
 refine⟨retag tag W W' (i,3),{ V with gv:=v' },h.build (R:=fun r=>r=2∨r=3) h3 q d (h3.obj hb h.obj) (.inr ⟨?_,?_,fun g hg=>?_⟩) (fun k hk=>.inl ⟨rfl,rfl,by omega⟩) (fun k hk=>.inl ⟨rfl,rfl,by omega⟩) (fun k hk=>.inl ⟨rfl,rfl,by omega⟩) (fun k hk=>.inl ⟨rfl,rfl,by omega⟩) (fun k hk=>.inl ⟨rfl,rfl,by omega⟩) (.inl ⟨rfl,rfl,rfl,by omega,by omega⟩) (.inl ⟨rfl,rfl,by omega⟩) (.inl ⟨rfl,rfl,by omega⟩) (.inl ⟨rfl,rfl,by omega⟩),zbj h3.size,h3.mono (fun g hg=>.inl ?_)⟩
 ·have hm:(c.got.add lo a).most=c.got.most:=zbs _ _ _;obtain⟨cs,T,l,hc⟩:∃cs T l,W.heap[V.g]?=some (.cells cs T l):=by
   have:=h.got.cl;unfold World.cell? at this;split at this
   ·rename_i o ho;exact⟨_,_,_,ho⟩
   ·cases this
  have f:W'.heap[V.g]?=some (.cells ((cs.setIfInBounds 0 v').setIfInBounds (0+1) (.int .u64 ((c.got.add lo a).fl:Int))) T l):=by
   rw[h2,zc (zc hc)]
  have hsz:2<cs.size:=by
   have:=h.got.cm;unfold World.cell? at this;simp only[hc]at this;exact(Array.getElem?_eq_some_iff.1 (by simpa using this)).1
  refine⟨za f (by rw[Array.getElem?_setIfInBounds_ne (by omega),Array.getElem?_setIfInBounds_self_of_lt (by omega)]),za f (by rw[Array.getElem?_setIfInBounds_self_of_lt (by simp;omega)]),?_,h1,?_,fun j=>?_⟩
  ·refine za f ?_;have:=h.got.cm;unfold World.cell? at this;simp only[hc]at this;simp[Array.getElem?_setIfInBounds];rw[hm];simpa using this
  ·have hk:=m.add lo n;have:=hk.rl;have:=hk.most.2;show(c.got.add lo a).rs.length≤_;omega
  ·have:=h.got.fz j;unfold World.frozen? at this ⊢;simp only[hc]at this;simp only[f];exact this
 ·rw[d _ (by rw[h.tg]),h.tg]
 ·rcases h4 g hg with y|y
  ·rw[d _ (by rw[h.tgv g y]),h.tgv g y]
  ·exact zaj y (zE h1 g hg)
 ·obtain⟨r,_,e⟩:=q g hg;rw[e]
theorem has_eq{rs:zD}{fl n m:Nat}(hw:WF rs)(h:zag rs.length (zpD rs n) m):(decide (n<fl)||decide (m<rs.length)&&decide (loAt rs m≤n))=zpE rs fl n:=by
 unfold zpE
 congr 1
 rw[Bool.eq_iff_iff,←Bool.decide_and,decide_eq_true_eq,zp6 hw h,List.any_eq_true];constructor
 ·rintro⟨i,hi,h1,h2⟩;refine⟨rs[i],List.getElem_mem hi,?_⟩;have e:rs.getD i (0,0)=rs[i]:=by simp[List.getD,hi]
  unfold loAt at h1;unfold hiAt at h2;rw[e]at h1 h2;simp[h1,h2]
 ·rintro⟨r,hr,h1⟩;obtain⟨i,hi,rfl⟩:=List.mem_iff_getElem.1 hr;have e:rs.getD i (0,0)=rs[i]:=by simp[List.getD,hi]
  simp only[Bool.and_eq_true,decide_eq_true_eq]at h1;refine⟨i,hi,?_,?_⟩
  ·unfold loAt;rw[e];exact h1.1
  ·unfold hiAt;rw[e];exact h1.2
theorem zqm(s:zaQ)(b o n:Nat)(v:Value)(w:World)(h:zbz w b o v s.rs s.fl s.most)(hw:WF s.rs) :
  Calls Tryz.prog 87 #[.pointer (some ⟨b,o,none⟩),.int .u64 (n:Int)] w (fun e w'=>e = .returned (.bool (zpE s.rs s.fl n))∧Mod NoB w w'):=by
 refine(znF s.rs s.fl s.most b o n v w h).mono ?_;rintro e w' ⟨m,hm,rfl,hb⟩;exact⟨by rw[has_eq hw hm],Mod.of_below hb⟩
theorem eq_sum(w:World):(binOp .eql 98 (.iface 57 (.int .i64 7)) (.iface 57 (.int .i64 7))).run Tryz.prog w = .ok (.bool true) w:=by kernel_rfl
theorem zoW(p:Addr)(w:World):(binOp .eql 98 (.iface 162 (.pointer (some p))) (.iface 57 (.int .i64 7))).run Tryz.prog w = .ok (.bool false) w:=by kernel_rfl
theorem eq_nil(w:World):(binOp .eql 98 .nilIface (.iface 57 (.int .i64 7))).run Tryz.prog w = .ok (.bool false) w:=by kernel_rfl
def zjV(c:CS)(bs:List UInt8):Prop:=c.closed=0→∀n fs,dec bs = .ok n fs→c.got.Ok∧n≤zA∧(zpE c.got.rs c.got.fl n=false→zeZ fs { c with got:=c.got.add n n })
theorem zi8{c:CS}(bs:List UInt8)(h:c.closed≠0):c.receive bs=((12,-1),c):=by
 unfold CS.receive;rw[if_pos h]
theorem zkL{tag:Nat→Nat×Nat}{i b:Nat}{c:CS}{V:CV}{W:World}(h:zg tag i b c V W)(d:zP tag W)(v:Value)(bs:List UInt8)(hc:c.closed≠0) :
  Calls Tryz.prog 51 #[.pointer (some ⟨b,0,none⟩),v] W (zdK tag i b W 12 (-1) c):=by
 have c4:W.cell? ⟨b,4,none⟩=some (.int .i64 (c.closed:Int)):=h.hd (j:=4) rfl;have hb:((c.closed:Int)==0)=false:=beq_eq_false_iff_ne.2 (by omega);have HL:=zb (h.left d (Mod.refl _ _));obtain⟨cl,a⟩:=nm c.closed;rw[a]at c4 hb;clear h d hc a;go_enter Tryz.func51,Tryz.ntmps51;go_wp2_with fail;go_ret;exact⟨_,rfl,.inl ⟨rfl,rfl⟩,HL.out⟩
theorem zkM{tag:Nat→Nat×Nat}{i b:Nat}{c:CS}{V:CV}{W:World}(h:zg tag i b c V W)(g:zP tag W)(v:Value)(bs:List UInt8)(d:BR W v bs)(a:Tab W)(hl:bs.length<1099511627776)(hc:c.closed=0)(hd:dec bs = .sum) :
  Calls Tryz.prog 51 #[.pointer (some ⟨b,0,none⟩),v] W (zdK tag i b W 7 (-1) c):=by
 have f:=zci v bs W d a hl;rw[hd]at f;have c4:W.cell? ⟨b,4,none⟩=some (.int .i64 (c.closed:Int)):=h.hd (j:=4) rfl;rw[hc]at c4;have HH:=zb h;have HT:=zb g;have KD:=zb f;obtain⟨va,vc,rfl,_⟩:=d;clear h g hc f a;go_enter Tryz.func51,Tryz.ntmps51;go_wp2_with fail;refine(KD.out).mono ?_;rintro e W2 ⟨k,rfl⟩;have l:=zb k;clear k;have hE:=eq_sum;go_wp2_with fail;go_ret;exact⟨_,rfl,.inl ⟨rfl,rfl⟩,((HH.out.mod0 l.out).mod0 ((Mod.refl NoB _).alloc _)).left HT.out ((l.out.alloc _).mono (fun _ x=>x.elim))⟩
theorem zkN{tag:Nat→Nat×Nat}{i b:Nat}{c:CS}{V:CV}{W:World}(h:zg tag i b c V W)(s:zP tag W)(hi:0<i)(v:Value)(bs:List UInt8)(at_:Nat)(m:BR W v bs)(f:Tab W)(hl:bs.length<1099511627776)(hc:c.closed=0)(hd:dec bs = .bad at_) :
  Calls Tryz.prog 51 #[.pointer (some ⟨b,0,none⟩),v] W (zdK tag i b W 8 at_ { c with closed:=8 }):=by
 have t:=zci v bs W m f hl;rw[hd]at t;have c4:W.cell? ⟨b,4,none⟩=some (.int .i64 (c.closed:Int)):=h.hd (j:=4) rfl;rw[hc]at c4;have z:=zb h;have HT:=zb s;have KD:=zb t;have hbW:b<W.heap.size:=zaA s h.tb hi;obtain⟨va,vc,rfl,_⟩:=m;clear h s hc t f;go_enter Tryz.func51,Tryz.ntmps51;go_wp2_with fail;refine(KD.out).mono ?_;rintro e W2 ⟨A,o,rfl,n,u⟩;obtain⟨l,d⟩:=nm (W2.alloc (.cells #[.int .u64 0,.slice none 0 0] 56));have r:Mod NoB W l:=by rw[←d];exact A.alloc _
 have c3:=z.out.mod0 r;have fz:=c3.fz 4;have c4':=r.cell (a:=⟨b,4,none⟩) (fun x=>x) c4;have B:zg tag i b { c with closed:=8 } V (l.setCell ⟨b,4,none⟩ (.int .i64 8)):=c3.store 4 _ (za4 _ _ _ _ _ (by decide) rfl rfl rfl rfl) ⟨rfl,fun _ _=>⟨rfl,rfl,rfl⟩,fun _ _=>⟨rfl,rfl⟩,rfl,rfl,rfl,rfl⟩;have C:Mod (fun q=>q=b) W (l.setCell ⟨b,4,none⟩ (.int .i64 8)):=Mod.setCell (S:=fun q=>q=b) (r.mono (fun _ x=>x.elim)) (p:=⟨b,4,none⟩) (.inl rfl) _;have g:l.heap[o]?=some (.cells #[.int .i64 8,.int .i64 (at_:Int)] 167 (0,0)):=by
  have:Mod NoB W2 l:=by rw[←d];exact(Mod.refl _ _).alloc _
  exact this.obj (fun x=>x) n
 have k:(l.setCell ⟨b,4,none⟩ (.int .i64 8)).heap[o]?=some (.cells #[.int .i64 8,.int .i64 (at_:Int)] 167 (0,0)):=((Mod.refl (fun q=>q=b) l).setCell (p:=⟨b,4,none⟩) (.inl rfl) _).obj (by show ¬o=b;omega) g;have HF:=zb k;have w:=zb u;have HL:=zb (B.left HT.out (z.out.modb C));have y:=zb d;clear A n r c3 B C g k d;have hE:=zoW;go_upto_region 4 with fail;rw[y.out];go_wp2_with fail;go_ret;exact⟨_,rfl,.inr ⟨o,rfl,HF.out,w.out⟩,HL.out⟩
end Go.Proofs.YtddfdpbaiedcjaaGreatDoor
