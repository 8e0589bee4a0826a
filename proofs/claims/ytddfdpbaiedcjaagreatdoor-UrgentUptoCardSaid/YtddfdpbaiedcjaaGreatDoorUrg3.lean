/- A part of Urgent's proof. Conditions: none. Part 3 of 32. -/
import Derived.Test.YtddfdpbaiedcjaaGreatDoorUrg2
import Derived.Laws.EntriesVeiled
import Derived.Lib.LazyBuf
import Derived.WalkLawsBesides
set_option maxRecDepth 100000
set_option maxHeartbeats 16000000
set_option linter.all false
namespace Go.Proofs.YtddfdpbaiedcjaaGreatDoor
open Go.RowKit
def zcW(rs:zD):Nat→List UInt8
 | 0=>[]
 | k+1=>(zcW rs k++zL (loAt rs k-hiAt rs (k+1)-2))++zL (hiAt rs (k+1)-loAt rs (k+1))
theorem zc4(rs:zD):∀k,(zcW rs k).length≤16*k
 | 0=>by simp[zcW]
 | k+1=>by
  have h1:=zc4 rs k;have h2:=zs (loAt rs k-hiAt rs (k+1)-2);have h3:=zs (hiAt rs (k+1)-loAt rs (k+1));simp only[zcW,List.length_append];omega
def za3(f:Frm):List UInt8:=((([2]++zL (hiAt f.rngs 0))++zL (f.rngs.length-1))++zL (hiAt f.rngs 0-loAt f.rngs 0))++zcW f.rngs (f.rngs.length-1)
theorem zpG{rs:zD}(h:zav rs=true){i:Nat}(hi:i<rs.length):znu rs i=true:=by
 unfold zav znv at h;simp only[Bool.and_eq_true,List.all_eq_true,List.mem_range]at h;exact h.1 i hi
theorem zcN{rs:zD}(h:zav rs=true){i:Nat}(hi:i<rs.length):loAt rs i≤hiAt rs i∧hiAt rs i≤4611686018427387903∧(0<i→hiAt rs i+2≤loAt rs (i-1)):=by
 have:=zpG h hi;simp only[znu,Bool.and_eq_true,Bool.or_eq_true,decide_eq_true_eq]at this;obtain⟨⟨h1,h2⟩,h3⟩:=this;refine⟨h1,h2,fun h0=>?_⟩;rcases h3 with h3|h3
 ·omega
 ·exact h3.2
theorem App.alloc{w w':World}{v v':Value}{l new:List UInt8}(h:App w v l new v' w')(o:Obj):App w v l new v' (w'.alloc o) :=
 ⟨World.ownsRow.alloc h.own o,World.ownsRow.alloc h.old o,⟨h.grown.os,h.grown.tape,h.grown.output,Nat.le_trans h.grown.size (by simp),fun k hk hn=>(Below.heap_alloc w' o k (Nat.lt_of_lt_of_le hk h.grown.size)).trans (h.grown.block k hk hn)⟩,h.at_⟩
theorem App.drewR{w w':World}{v v':Value}{l new:List UInt8}(h:App w v l new v' w'):App w v l new v' w'.drew :=
 ⟨h.own,h.old,⟨h.grown.os,h.grown.tape,h.grown.output,h.grown.size,h.grown.block⟩,h.at_⟩
theorem RR.cell0{w:World}{g o n c:Nat}{rs:zD}(h:RR w (.slice (some ⟨g,o,none⟩) n c) rs)(hp:0<rs.length):w.cell? ⟨g,o+0*2,none⟩=some (.int .u64 (loAt rs 0:Int)):=by
 obtain⟨a,cap,hv,_,_,h3⟩:=h;obtain⟨g',o',e,e1,_⟩:=h3 0 hp;cases hv;cases e;exact e1
theorem OB.mod0{w w':World}{v:Value}{l:List UInt8}(h:OB w v l)(m:Mod NoB w w'):OB w' v l:=m.owns h (fun _ _ x=>x)
theorem zpH{w:World}{v:Value}{l:List UInt8}(h:OB w v l):∀g,v.ownBlock=some g→g<w.heap.size:=by
 intro g hg;rcases h.2 with⟨rfl,_⟩|⟨g',cap,cur,rfl,_,h0,_⟩
 ·cases hg
 ·simp[Value.ownBlock]at hg;subst hg;exact(Array.getElem?_eq_some_iff.1 h0).1
theorem write2(v:Value)(l:List UInt8)(b:Nat)(f:Frm)(rv:Value)(w:World)(hf:zi w b f rv)(hr:RR w rv f.rngs)(hs:zav f.rngs=true)(hn:f.rngs.length≤1099511627776)(H:zaX (fun k=>v.ownBlock=some k) rv)(h:OB w v l)(hl:l.length≤35184372088832) :
  Calls Tryz.prog 173 #[v,.pointer (some ⟨b,0,none⟩)] w (znt w v l (za3 f)):=by
 have E:=hf.cells.2.2.2.2.2.2.2.2.2;have hbl:=zk E;have I:0<f.rngs.length:=by
  unfold zav at hs;simp only[Bool.and_eq_true,decide_eq_true_eq]at hs;exact hs.2
 obtain⟨a,cap,rfl,h1,h2,h3⟩:=id hr;unfold maxLen at h2;obtain⟨g,o,rfl,J,e2,b1,b2⟩:=h3 0 I;have ao:=zk J;obtain⟨k1,k2,_⟩:=zcN hs I;have HB:Hid (za3 f=((([2]++zL (hiAt f.rngs 0))++zL (f.rngs.length-1))++zL (hiAt f.rngs 0-loAt f.rngs 0))++zcW f.rngs (f.rngs.length-1)):=rfl;have hH:∀i,i<f.rngs.length→loAt f.rngs i≤hiAt f.rngs i∧hiAt f.rngs i≤4611686018427387903∧(0<i→hiAt f.rngs i+2≤loAt f.rngs (i-1)):=fun i hi=>zcN hs hi
 have HH:=zb hH;clear hH;obtain⟨lo,Q⟩:=nm (loAt f.rngs 0);obtain⟨hi,R⟩:=nm (hiAt f.rngs 0);rw[Q]at J b1 k1;rw[R]at e2 b2 k1 k2;rw[Q,R]at HB;simp only[Nat.zero_mul,Nat.add_zero]at J e2;clear Q R h3;have z1:IntKind.i64.wrap ((f.rngs.length:Int)-1)=(f.rngs.length:Int)-1:=IntWalk.i64_in _ (by omega);have z2:IntKind.u64.wrap ((f.rngs.length:Int)-1)=((f.rngs.length-1:Nat):Int):=by rw[IntKind.wrap_u64];omega
 have z3:IntKind.u64.wrap ((hi:Int)-lo)=((hi-lo:Nat):Int):=by rw[IntKind.wrap_u64];omega
 go_enter Tryz.func173,Tryz.ntmps173;go_wp2_with fail;obtain⟨t,C⟩:=nm ((w.alloc (.cells #[.int .u64 (lo:Int),.int .u64 (hi:Int)] 214)).drew);have A:Mod NoB w t:=by rw[←C];exact((Mod.refl _ _).alloc _).drew
 have B:zi t b f (.slice (some ⟨g,o,none⟩) f.rngs.length cap):=hf.mod A (fun x=>x);have hB:t.heap[w.heap.size]?=some (.cells #[.int .u64 (lo:Int),.int .u64 (hi:Int)] 214 (0,0)):=by rw[←C];exact heap_alloc_new w _
 have j:t.cell? ⟨w.heap.size,0,none⟩=some (.int .u64 (lo:Int)):=za hB rfl;have m:t.cell? ⟨w.heap.size,1,none⟩=some (.int .u64 (hi:Int)):=za hB rfl;have n:¬v.ownBlock=some w.heap.size:=fun hx=>by have:=zpH h _ hx;omega
 have hX:OB t v l:=h.mod0 A;obtain⟨v1,w1,ae,A1⟩:=zbW t v l 2 2 hX rfl (by omega);have F1:zi w1 b f (.slice (some ⟨g,o,none⟩) f.rngs.length cap)∧w1.cell? ⟨w.heap.size,0,none⟩=some (.int .u64 (lo:Int))∧w1.cell? ⟨w.heap.size,1,none⟩=some (.int .u64 (hi:Int)):=⟨zi.app (w:=t) B (h.mod0 A) A1,A1.mod.cell (a:=⟨w.heap.size,0,none⟩) n j,A1.mod.cell (a:=⟨w.heap.size,1,none⟩) n m⟩;have L1:(l++[(2:UInt8)]).length≤35184372088832+1:=by simp;omega
 have T:=zb (A.trans (S:=NoB) (Mod.refl _ _));refine zl 21 (fun w'=>zi w' b f (.slice (some ⟨g,o,none⟩) f.rngs.length cap)∧w'.cell? ⟨w.heap.size,0,none⟩=some (.int .u64 (lo:Int))∧w'.cell? ⟨w.heap.size,1,none⟩=some (.int .u64 (hi:Int))) ?_ ?_
 ·rw[C];exact⟨B,j,m⟩
 rw[C];clear C;refine GI 0 ?_;refine GS rfl ?_ ?_ ?_;rotate_left
 ·(intro U c;(try dsimp only at c);have hc:=c.1.cells;obtain⟨V,cb⟩:=c.2;clear c;obtain⟨c0,c1,c2,c3,c4,W,X,Z,c8,E⟩:=hc;go_simp)<;>(try with_reducible rfl)
 try simp only[PS]
 refine GI 3 ?_;iterate 2
  refine GS rfl ?_ ?_ ?_;rotate_left
  ·(intro U c;(try dsimp only at c);have hc:=c.1.cells;obtain⟨V,cb⟩:=c.2;clear c;obtain⟨c0,c1,c2,c3,c4,W,X,Z,c8,E⟩:=hc;go_simp)<;>(try with_reducible rfl)
  try simp only[PS]
 refine GI 6 ?_;iterate 7
  refine GS rfl ?_ ?_ ?_;rotate_left
  ·(intro U c;(try dsimp only at c);have hc:=c.1.cells;obtain⟨V,cb⟩:=c.2;clear c;obtain⟨c0,c1,c2,c3,c4,W,X,Z,c8,E⟩:=hc;go_simp)<;>(try with_reducible rfl)
  try simp only[PS]
 refine GI 14 ?_;iterate 5
  refine GS rfl ?_ ?_ ?_;rotate_left
  ·(intro U c;(try dsimp only at c);have hc:=c.1.cells;obtain⟨V,cb⟩:=c.2;clear c;obtain⟨c0,c1,c2,c3,c4,W,X,Z,c8,E⟩:=hc;go_simp)<;>(try with_reducible rfl)
  try simp only[PS]
 refine zx 1 rfl (fun K p=>?_);go_simp;refine p.out _ _ ?_ ?_
 ·exact⟨B.mod (S:=NoB) ((Mod.refl _ _).alloc _) (fun x=>x),((Mod.refl NoB t).alloc _).cell (a:=⟨w.heap.size,0,none⟩) (fun x=>x) j,((Mod.refl NoB t).alloc _).cell (a:=⟨w.heap.size,1,none⟩) (fun x=>x) m⟩
 clear p K;try simp only[PS]
 refine zx 2 rfl (fun K p=>?_);refine zF rfl _ _ _ _ rfl _ _ _ rfl rfl ae ?_;refine p.out _ _ F1 ?_;clear p K;try simp only[PS]
 refine zx 5 rfl (fun K p=>?_);go_simp;refine(zY v1 (l++([2])) hi w1 A1.own (by omega) (by omega)).mono ?_;rintro e w2 ⟨v2,rfl,L⟩;have A2:=A1.trans L;have F2:zi w2 b f (.slice (some ⟨g,o,none⟩) f.rngs.length cap)∧w2.cell? ⟨w.heap.size,0,none⟩=some (.int .u64 (lo:Int))∧w2.cell? ⟨w.heap.size,1,none⟩=some (.int .u64 (hi:Int)):=⟨zi.app (w:=t) B (h.mod0 A) A2,A2.mod.cell (a:=⟨w.heap.size,0,none⟩) n j,A2.mod.cell (a:=⟨w.heap.size,1,none⟩) n m⟩;have L2:(l++([2]++zL hi)).length≤35184372088832+9:=by have:=zs hi;simp at this L1 ⊢;omega
 refine p.out _ _ F2 ?_;clear L;clear p K;try simp only[PS]
 refine zx 13 rfl (fun K p=>?_);go_simp;refine(zY v2 (l++([2]++zL hi)) (f.rngs.length-1) w2 A2.own (by omega) (by omega)).mono ?_;rintro e w3 ⟨v3,rfl,L⟩;have A3:=A2.trans L;have F3:zi w3 b f (.slice (some ⟨g,o,none⟩) f.rngs.length cap)∧w3.cell? ⟨w.heap.size,0,none⟩=some (.int .u64 (lo:Int))∧w3.cell? ⟨w.heap.size,1,none⟩=some (.int .u64 (hi:Int)):=⟨zi.app (w:=t) B (h.mod0 A) A3,A3.mod.cell (a:=⟨w.heap.size,0,none⟩) n j,A3.mod.cell (a:=⟨w.heap.size,1,none⟩) n m⟩;have L3:(l++([2]++zL hi++zL (f.rngs.length-1))).length≤35184372088832+17:=by have:=zs (f.rngs.length-1);simp at this L2 ⊢;omega
 refine p.out _ _ F3 ?_;clear L;clear p K;try simp only[PS]
 refine zx 19 rfl (fun K p=>?_);go_simp;refine(zY v3 (l++([2]++zL hi++zL (f.rngs.length-1))) (hi-lo) w3 A3.own (by omega) (by omega)).mono ?_;rintro e w4 ⟨v4,rfl,L⟩;have A4:=A3.trans L;have F4:zi w4 b f (.slice (some ⟨g,o,none⟩) f.rngs.length cap)∧w4.cell? ⟨w.heap.size,0,none⟩=some (.int .u64 (lo:Int))∧w4.cell? ⟨w.heap.size,1,none⟩=some (.int .u64 (hi:Int)):=⟨zi.app (w:=t) B (h.mod0 A) A4,A4.mod.cell (a:=⟨w.heap.size,0,none⟩) n j,A4.mod.cell (a:=⟨w.heap.size,1,none⟩) n m⟩;have L4:(l++([2]++zL hi++zL (f.rngs.length-1)++zL (hi-lo))).length≤35184372088832+25:=by have:=zs (hi-lo);simp at this L3 ⊢;omega
 refine p.out _ _ F4 ?_;clear L;clear p K;try simp only[PS]
 refine GI 20 ?_;refine GS rfl ?_ ?_ ?_;rotate_left
 ·(intro U c;(try dsimp only at c);have hc:=c.1.cells;obtain⟨V,cb⟩:=c.2;clear c;obtain⟨c0,c1,c2,c3,c4,W,X,Z,c8,E⟩:=hc;go_simp)<;>(try with_reducible rfl)
 try simp only[PS]
 refine zo ?_;have c9b:=F4.1.cells.2.2.2.2.2.2.2.2.2;have af:RR t (.slice (some ⟨g,o,none⟩) f.rngs.length cap) f.rngs:=hr.mod A (zaX.no _);have aa:=zb A4;have aq:=zb B;have HvB:=zb n;obtain⟨r,D⟩:=nm ([2]++zL hi++zL (f.rngs.length-1)++zL (hi-lo));rw[D]at aa HB;have M:(l++r).length≤35184372088832+25:=by rw[←D];exact L4
 have ar:=zb hX;have ah:=zb af;clear F1 F2 F3 F4 A1 A2 A3 A4 L1 L2 L3 L4 D z1 z2 z3 hf hr h hX af ae j m hB A B n k1 k2 b1 b2 J e2 E;have N:Hid (∀k vb wr,za3 f=r++zcW f.rngs k→App t v l (r++zcW f.rngs k) vb wr→App w v l (za3 f) vb wr):=by
  intro k vb wr hq u;rw[hq];exact⟨u.own,u.old,⟨u.grown.os.trans T.out.os,u.grown.tape.trans T.out.tape,u.grown.output.trans T.out.output,Nat.le_trans T.out.size u.grown.size,fun i hi hn=>(u.grown.block i (Nat.lt_of_lt_of_le hi T.out.size) hn).trans (T.out.block i hi (fun x=>x))⟩,fun i hi=>(u.at_ i hi).imp id (fun q=>Nat.le_trans T.out.size q)⟩
 by_cases au:f.rngs.length≤1
 ·have HF:Hid (za3 f=r++zcW f.rngs 0):=by
   have:f.rngs.length-1=0:=by omega
   show _=_;rw[HB.out,this]
  have Hn:=zb au;have hn2:(f.rngs.length:Int)-1≤0:=by omega
  have hn3:f.rngs.length-1≤0:=by omega
  go_wp2_with fail;all_goals
   refine wp_loop_rounds 1 ?_;rw[rounds_succ];go_wp2_with fail
  all_goals
   go_ret;exact⟨_,rfl,N.out 0 _ _ HF.out (by simpa [zcW]using aa.out)⟩
 have av:1<cap:=by omega
 have aw:¬(1=cap):=by omega
 have ax:¬(cap=1):=by omega
 go_wp2_with fail
 go_loopw [0,40] (fun vb i wr=>∃k:Nat,k≤f.rngs.length-1∧i = .int .i64 k∧App t v l (r++zcW f.rngs k) vb wr) (fun _ i _=>f.rngs.length-1-(intOf i).toNat)
 case atStart=>exact⟨0,Nat.zero_le _,rfl,by simpa [zcW]using aa.out⟩
 case round =>
  obtain⟨k,hk,rfl,u⟩:=hrel;have ay:=zpH u.own;have az:RR wr (.slice (some ⟨g,o,none⟩) f.rngs.length cap) f.rngs:=ah.out.mod u.mod H;have ab:zi wr b f (.slice (some ⟨g,o,none⟩) f.rngs.length cap):=zi.app aq.out ar.out u;have ai:=ab.cells.2.2.2.2.2.2.2.2.2;have aB:=zk ai;obtain⟨_,_,aA,_,_,h3⟩:=az;cases aA;by_cases hlt:k<f.rngs.length-1
  ·obtain⟨g',o',ac,J,_,b1,_⟩:=h3 k (by omega);cases ac;obtain⟨g',o',ac,e3,e4,b3,b4⟩:=h3 (k+1) (by omega);cases ac;obtain⟨q1,q2,q3⟩:=HH.out (k+1) (by omega);have q4:=q3 (by omega);obtain⟨r1,r2,_⟩:=HH.out k (by omega);simp only[Nat.add_sub_cancel]at q4;have ao:=zk J;have aC:k<f.rngs.length:=by omega
   have HS:Hid (zcW f.rngs (k+1)=(zcW f.rngs k++zL (loAt f.rngs k-hiAt f.rngs (k+1)-2))++zL (hiAt f.rngs (k+1)-loAt f.rngs (k+1))):=rfl;have HL:=zc4 f.rngs k;obtain⟨pl,aj⟩:=nm (loAt f.rngs k);obtain⟨s,O⟩:=nm (loAt f.rngs (k+1));obtain⟨d,P⟩:=nm (hiAt f.rngs (k+1));rw[aj]at J b1 q4 HS r1;have r3:=Nat.le_trans r1 r2;clear r1 r2;rw[O]at e3 b3 q1 HS;rw[P]at e4 b4 q1 q2 q4 HS;clear aj O P q3 h3;have p1:o+(k+1)*2=o+2+k*2:=by omega
   rw[p1]at e3 e4;have z1:IntKind.u64.wrap ((pl:Int)-d)=(pl:Int)-d:=by rw[IntKind.wrap_u64];omega
   have z2:IntKind.u64.wrap ((pl:Int)-d-2)=((pl-d-2:Nat):Int):=by rw[IntKind.wrap_u64];omega
   have z3:IntKind.u64.wrap ((d:Int)-s)=((d-s:Nat):Int):=by rw[IntKind.wrap_u64];omega
   have F:=zb u;clear u p1;go_wp2_with fail;obtain⟨Y,hY⟩:=nm ((wr.alloc (.cells #[.int .u64 (s:Int),.int .u64 (d:Int)] 214)).drew);have A:Mod NoB wr Y:=by rw[←hY];exact((Mod.refl _ _).alloc _).drew
   have AY:App t v l (r++zcW f.rngs k) u0 Y:=by rw[←hY];exact(F.out.alloc _).drewR
   have ad:=AY.own;have B:zi Y b f (.slice (some ⟨g,o,none⟩) f.rngs.length cap):=ab.mod A (fun x=>x);have hB:Y.heap[wr.heap.size]?=some (.cells #[.int .u64 (s:Int),.int .u64 (d:Int)] 214 (0,0)):=by rw[←hY];exact heap_alloc_new wr _
   have j:Y.cell? ⟨wr.heap.size,0,none⟩=some (.int .u64 (s:Int)):=za hB rfl;have m:Y.cell? ⟨wr.heap.size,1,none⟩=some (.int .u64 (d:Int)):=za hB rfl;have eX:Y.cell? ⟨g,o+k*2,none⟩=some (.int .u64 (pl:Int)):=A.cell (a:=⟨g,_,none⟩) (fun x=>x) J;have G:¬u0.ownBlock=some wr.heap.size:=fun hx=>by have:=ay _ hx;omega
   have ak:¬u0.ownBlock=some g:=fun hx=>by
    rcases F.out.at_ _ hx with h1|h1
    ·exact H g o _ _ rfl h1
    ·exact absurd (zk (ah.out.cell0 (by omega))) (by omega)
   clear ab ai;refine zl 21 (fun w'=>zi w' b f (.slice (some ⟨g,o,none⟩) f.rngs.length cap)∧w'.cell? ⟨wr.heap.size,0,none⟩=some (.int .u64 (s:Int))∧w'.cell? ⟨wr.heap.size,1,none⟩=some (.int .u64 (d:Int))∧w'.cell? ⟨g,o+k*2,none⟩=some (.int .u64 (pl:Int))) ?_ ?_
   ·rw[hY];exact⟨B,j,m,eX⟩
   rw[hY];clear hY;refine GI 0 ?_;iterate 13
    refine GS rfl ?_ ?_ ?_;rotate_left
    ·(intro U c;(try dsimp only at c);have hc:=c.1.cells;obtain⟨V,cb,cd⟩:=c.2;clear c;obtain⟨c0,c1,c2,c3,c4,W,X,Z,c8,E⟩:=hc;go_simp)<;>(try with_reducible rfl)
    try simp only[PS]
   refine GI 14 ?_;iterate 5
    refine GS rfl ?_ ?_ ?_;rotate_left
    ·(intro U c;(try dsimp only at c);have hc:=c.1.cells;obtain⟨V,cb,cd⟩:=c.2;clear c;obtain⟨c0,c1,c2,c3,c4,W,X,Z,c8,E⟩:=hc;go_simp)<;>(try with_reducible rfl)
    try simp only[PS]
   refine zx 13 rfl (fun K p=>?_);go_simp;refine(zY u0 (l++(r++zcW f.rngs k)) (pl-d-2) Y ad (by simp at M ⊢;omega) (by omega)).mono ?_;rintro e y1 ⟨x1,rfl,z⟩;have G1:zi y1 b f (.slice (some ⟨g,o,none⟩) f.rngs.length cap)∧y1.cell? ⟨wr.heap.size,0,none⟩=some (.int .u64 (s:Int))∧y1.cell? ⟨wr.heap.size,1,none⟩=some (.int .u64 (d:Int))∧y1.cell? ⟨g,o+k*2,none⟩=some (.int .u64 (pl:Int)):=⟨zi.app B (ad) z,z.mod.cell (a:=⟨wr.heap.size,0,none⟩) G j,z.mod.cell (a:=⟨wr.heap.size,1,none⟩) G m,z.mod.cell (a:=⟨g,_,none⟩) ak eX⟩;have B1:=AY.trans z;have hl1:=zs (pl-d-2);refine p.out _ _ G1 ?_;clear p K;try simp only[PS]
   refine zx 19 rfl (fun K p=>?_);go_simp;refine(zY x1 (l++(r++zcW f.rngs k++zL (pl-d-2))) (d-s) y1 B1.own (by simp at M ⊢;omega) (by omega)).mono ?_;rintro e y2 ⟨x2,rfl,al⟩;have B2:=B1.trans al;have y:=z.trans (by rw[List.append_assoc];exact al);have G2:zi y2 b f (.slice (some ⟨g,o,none⟩) f.rngs.length cap)∧y2.cell? ⟨wr.heap.size,0,none⟩=some (.int .u64 (s:Int))∧y2.cell? ⟨wr.heap.size,1,none⟩=some (.int .u64 (d:Int))∧y2.cell? ⟨g,o+k*2,none⟩=some (.int .u64 (pl:Int)):=⟨zi.app B (ad) y,y.mod.cell (a:=⟨wr.heap.size,0,none⟩) G j,y.mod.cell (a:=⟨wr.heap.size,1,none⟩) G m,y.mod.cell (a:=⟨g,_,none⟩) ak eX⟩;refine p.out _ _ G2 ?_;clear p K;try simp only[PS]
   refine GI 20 ?_;refine GS rfl ?_ ?_ ?_;rotate_left
   ·(intro U c;(try dsimp only at c);have hc:=c.1.cells;obtain⟨V,cb,cd⟩:=c.2;clear c;obtain⟨c0,c1,c2,c3,c4,W,X,Z,c8,E⟩:=hc;go_simp)<;>(try with_reducible rfl)
   try simp only[PS]
   refine zo ?_;go_wp2_with fail;go_roundw
   case rel=>exact⟨k+1,by omega,by go_num,by rw[HS.out,←List.append_assoc,←List.append_assoc];exact B2⟩
   case measure=>simp[intOf];omega
  ·have am:k=f.rngs.length-1:=by omega
   have HF:Hid (za3 f=r++zcW f.rngs k):=by rw[am];exact HB.out
   have F:=zb u;clear u am;go_wp2_with fail;go_ret;exact⟨_,rfl,N.out k _ _ HF.out F.out⟩
def zeq(F:FuncId):Prop:=∀args w,(callFunc F args).run Tryz.prog w = .ok (.enter F args) w
def zbM(w:World)(b:Nat)(wv rv sv:Value):Prop:=w.cell? ⟨b,0,none⟩=some wv∧w.cell? ⟨b,1,none⟩=some rv∧w.cell? ⟨b,2,none⟩=some sv
theorem zbM.mod{S:Nat→Prop}{w w':World}{b:Nat}{c d e:Value}(h:zbM w b c d e)(m:Mod S w w')(hs:¬S b):zbM w' b c d e :=
 ⟨m.cell (a:=⟨b,0,none⟩) hs h.1,m.cell (a:=⟨b,1,none⟩) hs h.2.1,m.cell (a:=⟨b,2,none⟩) hs h.2.2⟩
def fnv(F:FuncId):Value:=.func (.func F) #[] #[]
def zdQ(w:World)(wv rv sv:Value)(e:Ending)(w':World):Prop:=∃b,e = .returned (.pointer (some ⟨b,0,none⟩))∧zbM w' b wv rv sv∧Mod NoB w w'∧w.heap.size≤b
def IsNum(w:World)(t:UInt8)(e:Ending)(w':World):Prop:=∃b tb ab,e = .returned (.pointer (some ⟨b,0,none⟩))∧zbM w' b (.func (.func 213) #[] #[.pointer (some ⟨tb,0,none⟩),.pointer (some ⟨ab,0,none⟩)]) (.func (.func 214) #[] #[.pointer (some ⟨ab,0,none⟩)]) (fnv 172)∧zc3 w' tb ab t∧Mod NoB w w'∧w.heap.size≤b∧w.heap.size≤tb∧w.heap.size≤ab
theorem zfz(t:UInt8)(w:World):Calls Tryz.prog 185 #[.int .u8 (t.toNat:Int),.func (.func 186) #[] #[]] w fun e w'=>e = .returned (.agg #[.func (.func 213) #[] #[.pointer (some ⟨w.heap.size,0,none⟩),.pointer (some ⟨w.heap.size+1,0,none⟩)],.func (.func 214) #[] #[.pointer (some ⟨w.heap.size+1,0,none⟩)],.func (.func 172) #[] #[]]) ∧
  w'=((w.alloc (.cells #[.int .u8 (t.toNat:Int)] 5)).alloc (.cells #[.func (.func 186) #[] #[]] 284)).alloc (.cells #[.func (.func 213) #[] #[.pointer (some ⟨w.heap.size,0,none⟩),.pointer (some ⟨w.heap.size+1,0,none⟩)],.func (.func 214) #[] #[.pointer (some ⟨w.heap.size+1,0,none⟩)],.func (.func 172) #[] #[]] 241):=by
 go_enter Tryz.func185,Tryz.ntmps185;go_wp2_with fail;exact bodyPost_ret (by simp[results,Tryz.results185,go_sem]) rfl ⟨rfl,rfl⟩
theorem of_1(w:World):Calls Tryz.prog 131 #[.int .i64 1] w (zdQ w (fnv 170) (fnv 171) (fnv 172)):=by
 go_enter Tryz.func131,Tryz.ntmps131;go_wp2_with fail;go_ret;exact⟨w.heap.size,rfl,⟨by simp[fnv],by simp[fnv],by simp[fnv]⟩,(Mod.refl _ _).alloc _,Nat.le_refl _⟩
theorem of_2(w:World):Calls Tryz.prog 131 #[.int .i64 2] w (zdQ w (fnv 173) (fnv 174) (fnv 175)):=by
 go_enter Tryz.func131,Tryz.ntmps131;go_wp2_with fail;go_ret;exact⟨w.heap.size,rfl,⟨by simp[fnv],by simp[fnv],by simp[fnv]⟩,(Mod.refl _ _).alloc _,Nat.le_refl _⟩
theorem of_3(w:World):Calls Tryz.prog 131 #[.int .i64 3] w (zdQ w (fnv 176) (fnv 177) (fnv 179)):=by
 go_enter Tryz.func131,Tryz.ntmps131;go_wp2_with fail;go_ret;exact⟨w.heap.size,rfl,⟨by simp[fnv],by simp[fnv],by simp[fnv]⟩,(Mod.refl _ _).alloc _,Nat.le_refl _⟩
theorem of_4(w:World):Calls Tryz.prog 131 #[.int .i64 4] w (zdQ w (fnv 180) (fnv 182) (fnv 184)):=by
 go_enter Tryz.func131,Tryz.ntmps131;go_wp2_with fail;go_ret;exact⟨w.heap.size,rfl,⟨by simp[fnv],by simp[fnv],by simp[fnv]⟩,(Mod.refl _ _).alloc _,Nat.le_refl _⟩
theorem of_6(w:World):Calls Tryz.prog 131 #[.int .i64 6] w (zdQ w (fnv 187) (fnv 188) (fnv 172)):=by
 go_enter Tryz.func131,Tryz.ntmps131;go_wp2_with fail;go_ret;exact⟨w.heap.size,rfl,⟨by simp[fnv],by simp[fnv],by simp[fnv]⟩,(Mod.refl _ _).alloc _,Nat.le_refl _⟩
theorem of_7(w:World):Calls Tryz.prog 131 #[.int .i64 7] w (zdQ w (fnv 189) (fnv 190) (fnv 172)):=by
 go_enter Tryz.func131,Tryz.ntmps131;go_wp2_with fail;go_ret;exact⟨w.heap.size,rfl,⟨by simp[fnv],by simp[fnv],by simp[fnv]⟩,(Mod.refl _ _).alloc _,Nat.le_refl _⟩
theorem zjp(w:World)(o o':Obj)(t:UInt8)(z:Int)(T b:Nat)(hz:z=(t.toNat:Int)):zc3 ((((w.alloc o).alloc (.cells #[.int .u8 z] T)).alloc (.cells #[.func (.func 186) #[] #[]] b)).alloc o') (w.heap.size+1) (w.heap.size+1+1) t:=by
 subst hz;have e1:(w.alloc o).heap.size=w.heap.size+1:=by simp
 have e2:((w.alloc o).alloc (.cells #[.int .u8 (t.toNat:Int)] T)).heap.size=w.heap.size+1+1:=by simp
 have c1:((w.alloc o).alloc (.cells #[.int .u8 (t.toNat:Int)] T)).cell? ⟨w.heap.size+1,0,none⟩=some (.int .u8 (t.toNat:Int)):=by rw[←e1];exact za (heap_alloc_new _ _) rfl
 have c2:(((w.alloc o).alloc (.cells #[.int .u8 (t.toNat:Int)] T)).alloc (.cells #[.func (.func 186) #[] #[]] b)).cell? ⟨w.heap.size+1+1,0,none⟩=some (.func (.func 186) #[] #[]):=by rw[←e2];exact za (heap_alloc_new _ _) rfl
 exact⟨(((Mod.refl NoB _).alloc _).alloc _).cell (a:=⟨_,0,none⟩) (fun x=>x) c1,((Mod.refl NoB _).alloc _).cell (a:=⟨_,0,none⟩) (fun x=>x) c2⟩
theorem of_5(w:World):Calls Tryz.prog 131 #[.int .i64 5] w (IsNum w 16):=by
 go_enter Tryz.func131,Tryz.ntmps131;go_wp2_with (go_at_call 185;refine(zfz 16 _).mono ?_;rintro e w' ⟨rfl,rfl⟩);go_ret;refine⟨w.heap.size,w.heap.size+1,w.heap.size+1+1,rfl,?_,?_,?_,Nat.le_refl _,by omega,by omega⟩
 ·have h0:∀(a b c:Value),zbM (w.alloc (.cells #[a,b,c] 241)) w.heap.size a b c:=fun a b c=>⟨za (heap_alloc_new w _) rfl,za (heap_alloc_new w _) rfl,za (heap_alloc_new w _) rfl⟩
  exact(h0 _ _ _).mod ((((Mod.refl NoB _).alloc _).alloc _).alloc _) (fun x=>x)
 ·exact zjp w _ _ _ _ _ _ rfl
 ·exact((((Mod.refl _ _).alloc _).alloc _).alloc _).alloc _
theorem of_8(w:World):Calls Tryz.prog 131 #[.int .i64 8] w (IsNum w 28):=by
 go_enter Tryz.func131,Tryz.ntmps131;go_wp2_with (go_at_call 185;refine(zfz 28 _).mono ?_;rintro e w' ⟨rfl,rfl⟩);go_ret;refine⟨w.heap.size,w.heap.size+1,w.heap.size+1+1,rfl,?_,?_,?_,Nat.le_refl _,by omega,by omega⟩
 ·have h0:∀(a b c:Value),zbM (w.alloc (.cells #[a,b,c] 241)) w.heap.size a b c:=fun a b c=>⟨za (heap_alloc_new w _) rfl,za (heap_alloc_new w _) rfl,za (heap_alloc_new w _) rfl⟩
  exact(h0 _ _ _).mod ((((Mod.refl NoB _).alloc _).alloc _).alloc _) (fun x=>x)
 ·exact zjp w _ _ _ _ _ _ rfl
 ·exact((((Mod.refl _ _).alloc _).alloc _).alloc _).alloc _
theorem of_no(k:Int)(hk:k<1∨8<k)(w:World):Calls Tryz.prog 131 #[.int .i64 k] w fun e w'=>e = .returned (.pointer none)∧Mod NoB w w':=by
 have d1:(k==1)=false:=by simp;omega
 have d2:(k==2)=false:=by simp;omega
 have d3:(k==3)=false:=by simp;omega
 have d4:(k==4)=false:=by simp;omega
 have d5:(k==5)=false:=by simp;omega
 have d6:(k==6)=false:=by simp;omega
 have d7:(k==7)=false:=by simp;omega
 have d8:(k==8)=false:=by simp;omega
 go_enter Tryz.func131,Tryz.ntmps131;go_wp2_with fail;go_ret;exact⟨rfl,(Mod.refl _ _).alloc _⟩
theorem zaL(p:Value)(w:World):Calls Tryz.prog 172 #[p] w (Says w true):=by
 go_enter Tryz.func172,Tryz.ntmps172;go_wp2_with fail;go_ret;exact⟨rfl,Mod.refl _ _⟩
theorem zpe(b:Nat)(f:Frm)(rv:Value)(w:World)(hf:zi w b f rv) :
  Calls Tryz.prog 179 #[.pointer (some ⟨b,0,none⟩)] w (Says w (decide (f.rel≤f.off))):=by
 obtain⟨c0,c1,c2,c3,c4,c5,c6,c7,c8,c9⟩:=hf.cells;go_enter Tryz.func179,Tryz.ntmps179;go_wp2_with fail;go_quiet (fail);go_wp2_with fail;go_ret;exact⟨rfl,(Mod.refl _ _).drewN _⟩
theorem zpf(b:Nat)(f:Frm)(rv:Value)(w:World)(hf:zi w b f rv)(ho:f.off≤4611686018427387903)(hd:f.data.length≤4611686018427387903) :
  Calls Tryz.prog 184 #[.pointer (some ⟨b,0,none⟩)] w (Says w (decide (f.data.length+f.off≤4611686018427387903))):=by
 obtain⟨c0,c1,c2,c3,c4,c5,c6,c7,c8,c9⟩:=hf.cells;have hz:=zJ f.data;have e1:IntKind.u64.wrap (4611686018427387903-(f.off:Int))=4611686018427387903-(f.off:Int):=by rw[IntKind.wrap_u64];omega
 have e2:IntKind.u64.wrap (f.data.length:Int)=(f.data.length:Int):=by rw[IntKind.wrap_u64];omega
 have HE:Hid (decide ((f.data.length:Int)≤4611686018427387903-(f.off:Int))=decide (f.data.length+f.off≤4611686018427387903)):=by
  show _=_;rw[decide_eq_decide];omega
 go_enter Tryz.func184,Tryz.ntmps184;go_wp2_with fail;go_quiet (fail);go_wp2_with fail;go_ret;exact⟨by rw[←HE.out];rfl,(Mod.refl _ _).drewN _⟩
def zh8(f:Frm):List Nat:=[f.off,f.rel,f.lim,f.id,f.dl]
def zaz(f:Frm):Bool:=(zh8 f).all fun n=>decide (n≤4611686018427387903)
def nAt(f:Frm)(k:Nat):Nat:=(zh8 f).getD k 0
theorem zgM{f:Frm}{k:Nat}(hk:k<5)(h:4611686018427387903<nAt f k):zaz f=false:=by
 cases hq:zaz f
 ·rfl
 ·unfold zaz at hq;rw[List.all_eq_true]at hq;have hm:nAt f k∈zh8 f:=by
   unfold nAt;rw[List.getD_eq_getElem?_getD,List.getElem?_eq_getElem (by simpa [zh8]using hk)];exact List.getElem_mem _
  have:=hq _ hm;simp at this;omega
theorem zif{f:Frm}(h:∀k,k<5→nAt f k≤4611686018427387903):zaz f=true:=by
 have h0:=h 0 (by omega);have h1:=h 1 (by omega);have h2:=h 2 (by omega);have h3:=h 3 (by omega);have h4:=h 4 (by omega);simp[nAt,zh8]at h0 h1 h2 h3 h4;simp[zaz,zh8];omega
theorem zcB{f:Frm}(h:zaz f=true):f.off≤4611686018427387903∧f.rel≤4611686018427387903∧f.lim≤4611686018427387903∧f.id≤4611686018427387903∧f.dl≤4611686018427387903:=by
 simpa [zaz,zh8]using h
def zbA(f:Frm):Bool:=decide (0≤f.stream)&&decide (f.stream<8)
theorem zgN(b cb:Nat)(f:Frm)(H wv ev:Value)(G:FuncId)(sc:Bool)(w:World)(o:zi w b f H)(hc:zbM w cb wv ev (.func (.func G) #[] #[]))(I:zeq G)
  (J:∀w',Mod NoB w w'→zaz f=true→Calls Tryz.prog G #[.pointer (some ⟨b,0,none⟩)] w' (Says w' sc)) :
  Calls Tryz.prog 132 #[.pointer (some ⟨b,0,none⟩),.pointer (some ⟨cb,0,none⟩)] w (Says w (zaz f&&zbA f&&sc)):=by
 have z:=zk o.cells.1;have hE':∀args w,(callFunc G args).run Tryz.prog w = .ok (.enter G args) w:=I;have HG:=zb J;clear J I;go_enter Tryz.func132,Tryz.ntmps132;go_wp2_with fail;refine zl 23 (fun w'=>zi w' b f H) (o) ?_;refine GI 0 ?_;iterate 20
  refine GS rfl ?_ ?_ ?_;rotate_left
  ·(intro L a;(try dsimp only at a);have hc:=a.cells;clear a;obtain⟨c0,c1,c2,c3,c4,M,N,O,P,Q⟩:=hc;go_simp)<;>(try with_reducible rfl)
  try simp only[PS]
 refine GI 22 ?_;refine GS rfl ?_ ?_ ?_;rotate_left
 ·(intro L a;(try dsimp only at a);have hc:=a.cells;clear a;obtain⟨c0,c1,c2,c3,c4,M,N,O,P,Q⟩:=hc;go_simp)<;>(try with_reducible rfl)
 try simp only[PS]
 refine zx 20 rfl (fun K R=>?_);go_simp;refine R.out _ _ ?_ ?_
 ·exact zi.mod (w:=w.drew) (S:=NoB) o ((Mod.refl _ _).alloc _) (fun x=>x)
 clear R K;try simp only[PS]
 refine GI 21 ?_;refine GS rfl ?_ ?_ ?_;rotate_left
 ·(intro L a;(try dsimp only at a);have hc:=a.cells;clear a;obtain⟨c0,c1,c2,c3,c4,M,N,O,P,Q⟩:=hc;go_simp)<;>(try with_reducible rfl)
 try simp only[PS]
 refine zo ?_;obtain⟨X,u⟩:=nm ((w.alloc (.cells #[.int .u64 (f.off:Int),.int .u64 (f.rel:Int),.int .u64 (f.lim:Int),.int .u64 (f.id:Int),.int .u64 (f.dl:Int)] 43)).drew);have v:Mod NoB w X:=by rw[←u];exact((Mod.refl _ _).alloc _).drew
 have A:∀k,k<5→X.cell? ⟨w.heap.size,k,none⟩=some (.int .u64 (nAt f k:Int)):=fun k hk=>by
  rw[←u];refine za (heap_alloc_new w _) ?_
  match k,hk with
  | 0,_=>rfl
  | 1,_=>rfl
  | 2,_=>rfl
  | 3,_=>rfl
  | 4,_=>rfl
 rw[u];have T:=o.mod v (fun x=>x);have cX:=(hc.mod v (fun x=>x)).2.2;have c1:=T.cells.2.1;clear u o hc T z;have p:=zb v;clear v;go_wp2_with fail
 go_loop [6,29] (fun _ i=>∃k:Nat,k≤5∧i = .int .i64 k∧Hid (∀j,j<k→nAt f j≤4611686018427387903)) (fun _ i=>5-(intOf i).toNat)
 case atStart=>exact⟨0,by omega,rfl,zb (fun j B=>absurd B (Nat.not_lt_zero j))⟩
 case round =>
  obtain⟨k,hk,rfl,C⟩:=hrel;by_cases q:k<5
  ·have c:=A k q;obtain⟨n,d⟩:=nm (nAt f k);rw[d]at c;have U:=zb d;clear A d;by_cases r:4611686018427387903<n
   ·have HF:=zb (zgM q (by rw[U.out];exact r));have g:(4611686018427387903:Int)<n:=by omega
    go_wp2_with fail;go_ret;exact⟨by rw[HF.out];rfl,p.out⟩
   ·have g:¬(4611686018427387903:Int)<n:=by omega
    go_wp2_with fail
    go_round
    case rel=>exact⟨k+1,by omega,by go_num,zb (fun j B=>by
     by_cases h:j<k
     ·exact C.out j h
     ·have:j=k:=by omega
      rw[this,U.out];omega)⟩
    case measure=>simp[intOf];omega
  ·have D:k=5:=by omega
   have l:=zif (f:=f) (fun j B=>C.out j (by omega));have E:=zb l;have m:=HG.out X p.out l;clear l A D C;by_cases s:0≤f.stream
   ·by_cases y:f.stream<8
    ·have t:Hid (zbA f=true):=by show _=_;simp[zbA,s,y]
     have V:decide (0≤f.stream)=true:=by simpa using s
     have e2:decide (f.stream<8)=true:=by simpa using y
     go_wp2_with (refine m.mono ?_;rintro e w' ⟨rfl,F⟩);go_ret;exact⟨by rw[E.out,t.out,Bool.true_and,Bool.true_and];rfl,p.out.trans F⟩
    ·have t:Hid (zbA f=false):=by show _=_;simp[zbA,y]
     have V:decide (0≤f.stream)=true:=by simpa using s
     have e2:decide (f.stream<8)=false:=by simpa using y
     go_wp2_with fail;go_ret;exact⟨by rw[E.out,t.out,Bool.true_and,Bool.false_and];rfl,p.out⟩
   ·have t:Hid (zbA f=false):=by show _=_;simp[zbA,s]
    have V:decide (0≤f.stream)=false:=by simpa using s
    go_wp2_with fail;go_ret;exact⟨by rw[E.out,t.out,Bool.true_and,Bool.false_and];rfl,p.out⟩
theorem App.after{w Y w':World}{v v':Value}{l new:List UInt8}(m:Mod NoB w Y)(h:App Y v l new v' w'):App w v l new v' w' :=
 ⟨h.own,h.old,⟨h.grown.os.trans m.os,h.grown.tape.trans m.tape,h.grown.output.trans m.output,Nat.le_trans m.size h.grown.size,fun i hi hn=>(h.grown.block i (Nat.lt_of_lt_of_le hi m.size) hn).trans (m.block i hi (fun x=>x))⟩,fun i hi=>(h.at_ i hi).imp id (fun q=>Nat.le_trans m.size q)⟩
def zdo(f:Frm)(a:Value)(l new:List UInt8)(sc:Bool)(w:World)(e:Ending)(w':World):Prop :=
 ∃b F caps G ev,e = .returned (.pointer (some ⟨b,0,none⟩))∧zbM w' b (.func (.func F) #[] caps) ev (.func (.func G) #[] #[])∧zeq F∧zeq G∧Mod NoB w w' ∧
  (∀Y bf,Mod NoB w' Y→zi Y bf f a→zaz f=true→Calls Tryz.prog G #[.pointer (some ⟨bf,0,none⟩)] Y (Says Y sc)) ∧
  (∀Y v bf,Mod NoB w' Y→zi Y bf f a→OB Y v l→(∀g,v.ownBlock=some g→g<w.heap.size)→(0<f.rngs.length→zaX (fun k=>v.ownBlock=some k) a)→(zaz f&&zbA f&&sc)=true→Calls Tryz.prog F (#[v,.pointer (some ⟨bf,0,none⟩)]++caps) Y (znt Y v l new))
def zer(w:World)(v:Value)(l:List UInt8)(ok:Bool)(new:List UInt8)(e:Ending)(w':World):Prop :=
 (ok=true∧znt w v l new e w')∨(ok=false∧e = .returned (.slice none 0 0)∧Mod NoB w w')
theorem zba(v:Value)(l:List UInt8)(f:Frm)(d:Value)(new:List UInt8)(sc:Bool)(w:World)(h:OB w v l)(j:0<f.rngs.length→zaX (fun k=>v.ownBlock=some k) d)
  (t:∀w1,Mod NoB w w1→Calls Tryz.prog 131 #[.int .i64 f.kind] w1 (zdo f d l new sc w1)) :
  Calls Tryz.prog 144 #[v,.agg (zh f d)] w (zer w v l (zaz f&&zbA f&&sc) new):=by
 have u:Mod NoB w (w.alloc (.cells (zh f d) 65)):=(Mod.refl _ _).alloc _;have i:zi (w.alloc (.cells (zh f d) 65)) w.heap.size f d:=heap_alloc_new w _;have c0:=i.cells.1;have c:=t _ u;have y:=zpH h;have n:=zb j;obtain⟨X,I⟩:=nm (w.alloc (.cells (zh f d) 65));rw[I]at c i c0 u;have B:w.heap.size≤X.heap.size:=u.size;have HH:=zb h;have C:=zb i;have o:=zb u;have D:=zb y;clear h t j i u y;obtain⟨ok,p⟩:=nm ((zaz f&&zbA f&&sc));have z:=zb p;rw[p];unfold zh at I ⊢;cases ok;all_goals
  clear p;go_enter Tryz.func144,Tryz.ntmps144;go_wp2_with fail;refine c.mono ?_;rintro e w1 ⟨b,F,J,G,ev,rfl,hc,K,L,m1,hs,M⟩;have A:zi w1 w.heap.size f d:=C.out.mod m1 (fun x=>x);have a:=zgN w.heap.size b f d _ ev G sc w1 A hc L (fun w' m hn=>hs w' _ m (A.mod m (fun x=>x)) hn);rw[z.out]at a;have Hc:=zb hc;have q:=zb m1;have Hw:=zb M;have E:=zb A;have hF':∀args w,(callFunc F args).run Tryz.prog w = .ok (.enter F args) w:=K;clear hc m1 M hs A L K c;go_wp2_with fail;refine a.mono ?_;rintro e w2 ⟨rfl,r⟩;clear a
 ·go_wp2_with fail;go_ret;exact .inr ⟨rfl,rfl,(o.out.trans q.out).trans r⟩
 ·have hc2:=(Hc.out.mod r (fun x=>x)).1;have s:=Hw.out w2 v w.heap.size r (E.out.mod r (fun x=>x)) (((HH.out.mod0 o.out).mod0 q.out).mod0 r) (fun g hg=>Nat.lt_of_lt_of_le (D.out g hg) B) n.out z.out;have H:=zb r;clear r;go_wp2_with fail;refine s.mono ?_;rintro e w3 ⟨v3,rfl,N⟩;have Ha:=zb N;clear N;go_wp2_with fail;go_ret;exact .inl ⟨rfl,_,rfl,App.after ((o.out.trans q.out).trans H.out) Ha.out⟩
def zK(f:Frm):Bool :=
 if f.kind=2 then zav f.rngs
 else if f.kind=3 then decide (f.rel≤f.off)
 else if f.kind=4 then decide (f.data.length+f.off≤4611686018427387903)
 else decide (1≤f.kind)&&decide (f.kind≤8)
def zT(f:Frm):Bool:=zaz f&&zbA f&&zK f
def zC(f:Frm):List UInt8 :=
 if f.kind=1 then [1]
 else if f.kind=2 then za3 f
 else if f.kind=3 then zcy f
 else if f.kind=4 then(if f.fin then zbX f else zcA f)
 else if f.kind=5 then zlb 16 f
 else if f.kind=6 then zcx f
 else if f.kind=7 then zcz f
 else zlb 28 f
theorem zbN{f:Frm}{sc:Bool}(h:(zaz f&&zbA f&&sc)=true)(hd:f.data.length≤35184372088832):f.Bounds:=by
 simp only[Bool.and_eq_true]at h;obtain⟨⟨h1,h2⟩,_⟩:=h;obtain⟨a,b,c,d,e⟩:=zcB h1;simp only[zbA,Bool.and_eq_true,decide_eq_true_eq]at h2;exact⟨h2.1,h2.2,by omega,by omega,by omega,by omega,by omega,hd⟩
theorem zaM {F : FuncId} {fn : Func} {c : Code} (hf : Tryz.prog.funcs[F]? = some fn) (a : (fn.name == "runtime.NumGoroutine") = false) (hb : fn.body = some c) : zeq F := fun args w => zdn hf a hb args w
theorem zbr:zeq 172:=zaM Tryz.func172 (by kernel_rfl) rfl
theorem zjq:zeq 213:=zaM Tryz.func213 (by kernel_rfl) rfl
theorem znH:zeq 170:=zaM Tryz.func170 (by kernel_rfl) rfl
theorem znI:zeq 189:=zaM Tryz.func189 (by kernel_rfl) rfl
theorem znJ:zeq 176:=zaM Tryz.func176 (by kernel_rfl) rfl
theorem zjr:zeq 179:=zaM Tryz.func179 (by kernel_rfl) rfl
theorem znK:zeq 180:=zaM Tryz.func180 (by kernel_rfl) rfl
theorem zjs:zeq 184:=zaM Tryz.func184 (by kernel_rfl) rfl
theorem znL:zeq 187:=zaM Tryz.func187 (by kernel_rfl) rfl
theorem zjt:zeq 175:=zaM Tryz.func175 (by kernel_rfl) rfl
theorem znM:zeq 173:=zaM Tryz.func173 (by kernel_rfl) rfl
theorem znN(f:Frm)(a:Value)(l:List UInt8)(w:World)(hk:f.kind=1)(hr:RR w a f.rngs)(hn:f.rngs.length≤1099511627776)(hd:f.data.length≤35184372088832)(hl:l.length≤35184372088832) :
  Calls Tryz.prog 131 #[.int .i64 f.kind] w (zdo f a l ([1]) (true) w):=by
 rw[hk];refine(of_1 w).mono ?_;rintro e w' ⟨b,rfl,hc,hm,hb⟩;refine⟨b,170,#[],172,_,rfl,hc,znH,zbr,hm,fun Y c m hf hq=>zaL _ Y,fun Y v c m hf ho hlt d hok=>?_⟩;exact write1 v l c Y ho hl
theorem znO(f:Frm)(d:Value)(l:List UInt8)(w:World)(hk:f.kind=2)(j:RR w d f.rngs)(k:f.rngs.length≤1099511627776)(hd:f.data.length≤35184372088832)(hl:l.length≤35184372088832) :
  Calls Tryz.prog 131 #[.int .i64 f.kind] w (zdo f d l (za3 f) (zav f.rngs) w):=by
 rw[hk];refine(of_2 w).mono ?_;rintro e w' ⟨b,rfl,hc,g,hb⟩;refine⟨b,173,#[],175,_,rfl,hc,znM,zjt,g,fun Y h m i hq=>zd6 h f d Y i (j.mod (g.trans m) (zaX.no _)) k,fun Y v h m i ho hlt c a=>?_⟩;exact write2 v l h f d Y i (j.mod (g.trans m) (zaX.no _)) (by simp only[Bool.and_eq_true]at a;exact a.2) k (c (by simp only[Bool.and_eq_true,zav,decide_eq_true_eq]at a;exact a.2.2)) ho hl
theorem znP(f:Frm)(a:Value)(l:List UInt8)(w:World)(hk:f.kind=3)(hr:RR w a f.rngs)(hn:f.rngs.length≤1099511627776)(hd:f.data.length≤35184372088832)(hl:l.length≤35184372088832) :
  Calls Tryz.prog 131 #[.int .i64 f.kind] w (zdo f a l (zcy f) (decide (f.rel≤f.off)) w):=by
 rw[hk];refine(of_3 w).mono ?_;rintro e w' ⟨b,rfl,hc,hm,hb⟩;refine⟨b,176,#[],179,_,rfl,hc,znJ,zjr,hm,fun Y c m d hq=>zpe c f a Y d,fun Y v c m d ho hlt h g=>?_⟩;exact write3 v l c f a Y d ho hl (zbN g hd)
theorem znQ(f:Frm)(a:Value)(l:List UInt8)(w:World)(hk:f.kind=4)(hr:RR w a f.rngs)(hn:f.rngs.length≤1099511627776)(hd:f.data.length≤35184372088832)(h:l.length≤35184372088832) :
  Calls Tryz.prog 131 #[.int .i64 f.kind] w (zdo f a l (if f.fin then zbX f else zcA f) (decide (f.data.length+f.off≤4611686018427387903)) w):=by
 rw[hk];refine(of_4 w).mono ?_;rintro e w' ⟨b,rfl,hc,hm,hb⟩;refine⟨b,180,#[],184,_,rfl,hc,znK,zjs,hm,fun Y d m g hq=>zpf d f a Y g (zcB hq).1 (by omega),fun Y v d m g i hlt j c=>?_⟩;cases hfin:f.fin
 ·exact write4 v l d f a Y g i h (zbN c hd) hfin
 ·exact zpC v l d f a Y g i h (zbN c hd) hfin
theorem znR(f:Frm)(d:Value)(l:List UInt8)(w:World)(hk:f.kind=5)(hr:RR w d f.rngs)(hn:f.rngs.length≤1099511627776)(hd:f.data.length≤35184372088832)(hl:l.length≤35184372088832) :
  Calls Tryz.prog 131 #[.int .i64 f.kind] w (zdo f d l (zlb 16 f) (true) w):=by
 rw[hk];refine(of_5 w).mono ?_;rintro e w' ⟨b,tb,ab,rfl,hc,a,hm,hb,htb,hab⟩;refine⟨b,_,_,172,_,rfl,hc,zjq,zbr,hm,fun Y i _ _ _=>zaL _ Y,fun Y v i m hf ho c j g=>?_⟩;exact zgL v l i tb ab _ f d Y hf (a.mod m (fun x=>x) (fun x=>x)) (fun h=>by have:=c _ h;omega) (fun h=>by have:=c _ h;omega) ho hl (zbN g hd)
theorem znS(f:Frm)(a:Value)(l:List UInt8)(w:World)(hk:f.kind=6)(hr:RR w a f.rngs)(hn:f.rngs.length≤1099511627776)(hd:f.data.length≤35184372088832)(hl:l.length≤35184372088832) :
  Calls Tryz.prog 131 #[.int .i64 f.kind] w (zdo f a l (zcx f) (true) w):=by
 rw[hk];refine(of_6 w).mono ?_;rintro e w' ⟨b,rfl,hc,hm,hb⟩;refine⟨b,187,#[],172,_,rfl,hc,znL,zbr,hm,fun Y d m g hq=>zaL _ Y,fun Y v d m g ho hlt h c=>?_⟩;exact write6 v l d f a Y g ho hl (zbN c hd)
theorem znT(f:Frm)(a:Value)(l:List UInt8)(w:World)(hk:f.kind=7)(hr:RR w a f.rngs)(hn:f.rngs.length≤1099511627776)(hd:f.data.length≤35184372088832)(hl:l.length≤35184372088832) :
  Calls Tryz.prog 131 #[.int .i64 f.kind] w (zdo f a l (zcz f) (true) w):=by
 rw[hk];refine(of_7 w).mono ?_;rintro e w' ⟨b,rfl,hc,hm,hb⟩;refine⟨b,189,#[],172,_,rfl,hc,znI,zbr,hm,fun Y d m g hq=>zaL _ Y,fun Y v d m g ho hlt h c=>?_⟩;exact write7 v l d f a Y g ho hl (zbN c hd)
theorem znU(f:Frm)(d:Value)(l:List UInt8)(w:World)(hk:f.kind=8)(hr:RR w d f.rngs)(hn:f.rngs.length≤1099511627776)(hd:f.data.length≤35184372088832)(hl:l.length≤35184372088832) :
  Calls Tryz.prog 131 #[.int .i64 f.kind] w (zdo f d l (zlb 28 f) (true) w):=by
 rw[hk];refine(of_8 w).mono ?_;rintro e w' ⟨b,tb,ab,rfl,hc,a,hm,hb,htb,hab⟩;refine⟨b,_,_,172,_,rfl,hc,zjq,zbr,hm,fun Y i _ _ _=>zaL _ Y,fun Y v i m hf ho c j g=>?_⟩;exact zgL v l i tb ab _ f d Y hf (a.mod m (fun x=>x) (fun x=>x)) (fun h=>by have:=c _ h;omega) (fun h=>by have:=c _ h;omega) ho hl (zbN g hd)
theorem zln(v:Value)(l:List UInt8)(f:Frm)(b:Value)(w:World)(hk:f.kind<1∨8<f.kind)(hv:∃a n c,v = .slice a n c) :
  Calls Tryz.prog 144 #[v,.agg (zh f b)] w fun e w'=>e = .returned (.slice none 0 0)∧Mod NoB w w':=by
 have c0:(w.alloc (.cells (zh f b) 65)).cell? ⟨w.heap.size,0,none⟩=some (.int .i64 f.kind):=za (heap_alloc_new w _) rfl;have g:Mod NoB w (w.alloc (.cells (zh f b) 65)):=(Mod.refl _ _).alloc _;have d:=of_no f.kind hk (w.alloc (.cells (zh f b) 65));obtain⟨X,i⟩:=nm (w.alloc (.cells (zh f b) 65));rw[i]at d g c0;have h:=zb g;clear g hk;obtain⟨a,n,c,rfl⟩:=hv;unfold zh at i ⊢;go_enter Tryz.func144,Tryz.ntmps144;go_wp2_with fail;refine d.mono ?_;rintro e w1 ⟨rfl,m1⟩;go_wp2_with fail;go_ret;exact⟨rfl,h.out.trans m1⟩
theorem zdR(v:Value)(l:List UInt8)(f:Frm)(d:Value)(w:World)(h:OB w v l)(b:0<f.rngs.length→zaX (fun k=>v.ownBlock=some k) d)(n:RR w d f.rngs)(o:f.rngs.length≤1099511627776)(hd:f.data.length≤35184372088832)(p:l.length≤35184372088832) :
  Calls Tryz.prog 144 #[v,.agg (zh f d)] w (zer w v l (zT f) (zC f)):=by
 by_cases hk:f.kind<1∨8<f.kind
 ·have hs:zT f=false:=by
   have:zK f=false:=by
    unfold zK;rw[if_neg (by omega),if_neg (by omega),if_neg (by omega)];simp;omega
   rw[zT,this,Bool.and_false]
  refine(zln v l f d w hk (by obtain⟨a,c,rfl,_⟩:=zj h;exact⟨a,_,c,rfl⟩)).mono ?_;rintro e w' ⟨rfl,hm⟩;exact .inr ⟨hs,rfl,hm⟩
 ·have q:f.kind=1∨f.kind=2∨f.kind=3∨f.kind=4∨f.kind=5∨f.kind=6∨f.kind=7∨f.kind=8:=by omega
  rcases q with e|e|e|e|e|e|e|e
  ·have g:zC f=[1]:=by simp[zC,e]
   have i:zK f=(true):=by simp[zK,e]
   rw[zT,g,i];exact zba v l f d _ _ w h b (fun j m=>znN f d l j e (n.mod m (zaX.no _)) o hd p)
  ·have g:zC f=za3 f:=by simp[zC,e]
   have i:zK f=(zav f.rngs):=by simp[zK,e]
   rw[zT,g,i];exact zba v l f d _ _ w h b (fun j m=>znO f d l j e (n.mod m (zaX.no _)) o hd p)
  ·have g:zC f=zcy f:=by simp[zC,e]
   have i:zK f=(decide (f.rel≤f.off)):=by simp[zK,e]
   rw[zT,g,i];exact zba v l f d _ _ w h b (fun j m=>znP f d l j e (n.mod m (zaX.no _)) o hd p)
  ·have g:zC f=if f.fin then zbX f else zcA f:=by simp[zC,e]
   have i:zK f=(decide (f.data.length+f.off≤4611686018427387903)):=by simp[zK,e]
   rw[zT,g,i];exact zba v l f d _ _ w h b (fun j m=>znQ f d l j e (n.mod m (zaX.no _)) o hd p)
  ·have g:zC f=zlb 16 f:=by simp[zC,e]
   have i:zK f=(true):=by simp[zK,e]
   rw[zT,g,i];exact zba v l f d _ _ w h b (fun j m=>znR f d l j e (n.mod m (zaX.no _)) o hd p)
  ·have g:zC f=zcx f:=by simp[zC,e]
   have i:zK f=(true):=by simp[zK,e]
   rw[zT,g,i];exact zba v l f d _ _ w h b (fun j m=>znS f d l j e (n.mod m (zaX.no _)) o hd p)
  ·have g:zC f=zcz f:=by simp[zC,e]
   have i:zK f=(true):=by simp[zK,e]
   rw[zT,g,i];exact zba v l f d _ _ w h b (fun j m=>znT f d l j e (n.mod m (zaX.no _)) o hd p)
  ·have g:zC f=zlb 28 f:=by simp[zC,e]
   have i:zK f=(true):=by simp[zK,e]
   rw[zT,g,i];exact zba v l f d _ _ w h b (fun j m=>znU f d l j e (n.mod m (zaX.no _)) o hd p)
def zc5(w:World)(v:Value)(fs:List (Frm×Value)):Prop :=
 ∃a cap,v = .slice a fs.length cap∧fs.length≤cap∧cap≤maxLen∧∀i fr,fs[i]?=some fr →
  (∃g o,a=some ⟨g,o,none⟩∧∀j x,(zh fr.1 fr.2)[j]?=some x→w.cell? ⟨g,o+i*10+j,none⟩=some x)∧RR w fr.2 fr.1.rngs
theorem zc5.mod{S:Nat→Prop}{w w':World}{v:Value}{fs:List (Frm×Value)}(h:zc5 w v fs)(m:Mod S w w')(hs:zaX S v)(hr:∀fr∈fs,zaX S fr.2):zc5 w' v fs:=by
 obtain⟨a,cap,rfl,h1,h2,h3⟩:=h;refine⟨a,cap,rfl,h1,h2,fun i fr hi=>?_⟩;obtain⟨⟨g,o,rfl,hc⟩,b⟩:=h3 i fr hi;exact⟨⟨g,o,rfl,fun j x hx=>m.cell (a:=⟨g,_,none⟩) (hs g o _ _ rfl) (hc j x hx)⟩,b.mod m (hr fr (List.mem_of_getElem? hi))⟩
theorem zc5.mod0{w w':World}{v:Value}{fs:List (Frm×Value)}(h:zc5 w v fs)(m:Mod NoB w w'):zc5 w' v fs:=h.mod m (zaX.no _) (fun _ _=>zaX.no _)
theorem App.mod0{w w':World}{v':Value}{l new:List UInt8}(h:App w (.slice none 0 0) l new v' w'):Mod NoB w w':=h.mod.mono (fun i hi=>by cases hi)
def bodyTo(fs:List (Frm×Value))(k:Nat):List UInt8:=(fs.take k).flatMap fun fr=>zC fr.1
def body(n:Nat)(fs:List (Frm×Value)):List UInt8:=zL n++bodyTo fs fs.length
theorem zbG{w:World}{g b:Nat}{f:Frm}{a:Value}(h:∀j x,(zh f a)[j]?=some x→w.cell? ⟨g,b+j,none⟩=some x) :
  w.cell? ⟨g,b,none⟩=some (.int .i64 f.kind)∧w.cell? ⟨g,b+1,none⟩=some (.int .i64 f.stream)∧w.cell? ⟨g,b+2,none⟩=some (.int .u64 (f.off:Int))∧w.cell? ⟨g,b+3,none⟩=some (.int .u64 (f.rel:Int))∧w.cell? ⟨g,b+4,none⟩=some (.int .u64 (f.lim:Int)) ∧
  w.cell? ⟨g,b+5,none⟩=some (.bool f.fin)∧w.cell? ⟨g,b+6,none⟩=some (.int .u64 (f.id:Int))∧w.cell? ⟨g,b+7,none⟩=some (.int .u64 (f.dl:Int))∧w.cell? ⟨g,b+8,none⟩=some (.string (zq f.data))∧w.cell? ⟨g,b+9,none⟩=some a :=
 ⟨h 0 _ rfl,h 1 _ rfl,h 2 _ rfl,h 3 _ rfl,h 4 _ rfl,h 5 _ rfl,h 6 _ rfl,h 7 _ rfl,h 8 _ rfl,h 9 _ rfl⟩
def zac:Ending:=.panicked [{ v:=.iface 230 (.agg #[]),recovered:=false }]
def zcv(w:World)(rb:Nat)(v:Value)(pos:Nat):Prop:=w.heap[rb]?=some (.cells #[v,.int .i64 (pos:Int)] 229 (0,0))
theorem zcv.mod{S:Nat→Prop}{w w':World}{rb pos:Nat}{v:Value}(h:zcv w rb v pos)(m:Mod S w w')(hs:¬S rb):zcv w' rb v pos:=m.obj hs h
theorem zcv.c0{w:World}{rb pos:Nat}{v:Value}(h:zcv w rb v pos):w.cell? ⟨rb,0,none⟩=some v:=za h rfl
theorem zcv.c1{w:World}{rb pos:Nat}{v:Value}(h:zcv w rb v pos):w.cell? ⟨rb,1,none⟩=some (.int .i64 (pos:Int)):=za h rfl
theorem BR.mod{S:Nat→Prop}{w w':World}{v:Value}{l:List UInt8}(h:BR w v l)(m:Mod S w w')(hs:zaX S v):BR w' v l:=by
 obtain⟨a,cap,rfl,h1,h2,h3⟩:=h;refine⟨a,cap,rfl,h1,h2,fun i c hi=>?_⟩;obtain⟨g,o,rfl,hc⟩:=h3 i c hi;exact⟨g,o,rfl,m.cell (a:=⟨g,_,none⟩) (hs g o _ _ rfl) hc⟩
def zdm(rb:Nat):Nat→Prop:=fun k=>k=rb
theorem zbY(p:Value)(w:World):Calls Tryz.prog 128 #[p] w fun e w'=>e=zac∧w=w':=by
 go_enter Tryz.func128,Tryz.ntmps128;go_wp2_with fail;exact⟨rfl,rfl,rfl⟩
theorem zc{w:World}{b i t:Nat}{cs:Array Value}{fz:Nat×Nat}{v:Value}(h:w.heap[b]?=some (.cells cs t fz)):(w.setCell ⟨b,i,none⟩ v).heap[b]?=some (.cells (cs.setIfInBounds i v) t fz):=by
 simp[World.setCell,Array.getElem?_modify,h]
theorem BR.sub{w:World}{a:Option Addr}{cap pos n:Nat}{bs:List UInt8}(h:BR w (.slice a bs.length cap) bs)(hp:pos+n≤bs.length):BR w (.slice (a.map fun x=>x.add pos) n (cap-pos)) ((bs.drop pos).take n):=by
 obtain⟨a',d,hv,h1,h2,h3⟩:=h;cases hv;have hl:((bs.drop pos).take n).length=n:=by simp;omega
 refine⟨a.map fun x=>x.add pos,cap-pos,by rw[hl],by omega,by unfold maxLen at h2 ⊢;omega,fun i c hi=>?_⟩;have b:i<n:=by
  have:=(List.getElem?_eq_some_iff.1 hi).1;omega
 rw[List.getElem?_take,if_pos b,List.getElem?_drop]at hi;obtain⟨g,o,rfl,hc⟩:=h3 (pos+i) c hi;refine⟨g,o+pos,?_,?_⟩
 ·simp only[Option.map_some,addr_add]
 ·rw[Nat.add_assoc];exact hc
theorem BR.nil(w:World)(a:Option Addr)(c:Nat)(h:c≤maxLen):BR w (.slice a 0 c) []:=⟨a,c,rfl,Nat.zero_le _,h,fun i c hi=>by simp at hi⟩
def zpg(rb:Nat)(w:World)(e:Ending)(w':World):Prop:=e=zac∧Mod (zdm rb) w w'
theorem zig(rb n pos:Nat)(z:Int)(hz:z=(n:Int))(v:Value)(bs:List UInt8)(w:World)(h:zcv w rb v pos)(hb:BR w v bs)(hp:pos≤bs.length)(hn:bs.length-pos<n) :
  Calls Tryz.prog 129 #[.pointer (some ⟨rb,0,none⟩),.int .u64 z] w (zpg rb w):=by
 subst hz;obtain⟨a,cap,rfl,h1,h2,h3⟩:=hb;unfold maxLen at h2;have c0:=h.c0;have c1:=h.c1;have e1:IntKind.i64.wrap ((bs.length:Int)-pos)=(bs.length:Int)-pos:=IntWalk.i64_in _ (by omega);have e2:IntKind.u64.wrap ((bs.length:Int)-pos)=(bs.length:Int)-pos:=by rw[IntKind.wrap_u64];omega
 have d:(bs.length:Int)-pos<n:=by omega
 clear h3 h;go_enter Tryz.func129,Tryz.ntmps129;go_wp2_with fail;go_quiet (fail);go_wp2_with (go_at_call 128;refine(zbY _ _).mono ?_;rintro e w' ⟨b,rfl⟩;unfold zac at b;subst b);exact⟨rfl,rfl,(Mod.refl _ _).drewN _⟩
theorem zf4(rb n pos:Nat)(z:Int)(hz:z=(n:Int))(v:Value)(bs:List UInt8)(w:World)(h:zcv w rb v pos)(hb:BR w v bs)(hv:zaX (zdm rb) v)(hp:pos+n≤bs.length) :
  Calls Tryz.prog 129 #[.pointer (some ⟨rb,0,none⟩),.int .u64 z] w fun e w'=>∃sv,e = .returned sv∧BR w' sv ((bs.drop pos).take n)∧zcv w' rb v (pos+n)∧Mod (zdm rb) w w':=by
 subst hz;obtain⟨a,cap,rfl,h1,h2,h3⟩:=id hb;unfold maxLen at h2;have c0:=h.c0;have c1:=h.c1;have e1:IntKind.i64.wrap ((bs.length:Int)-pos)=(bs.length:Int)-pos:=IntWalk.i64_in _ (by omega);have e2:IntKind.u64.wrap ((bs.length:Int)-pos)=(bs.length:Int)-pos:=by rw[IntKind.wrap_u64];omega
 have e3:IntKind.i64.wrap (n:Int)=(n:Int):=IntWalk.i64_in _ (by omega);have e4:IntKind.i64.wrap ((pos:Int)+n)=(pos:Int)+n:=IntWalk.i64_in _ (by omega);have d:¬((bs.length:Int)-pos<n):=by omega
 have c:w.frozen? ⟨rb,1,none⟩=false:=zd h;clear h3;have H:=zb h;have Hb:=zb hb;clear h hb;go_enter Tryz.func129,Tryz.ntmps129;go_wp2_with fail;go_quiet (fail);go_wp2_with fail;obtain⟨W,b⟩:=nm ((w.drewN nq).setCell ⟨rb,1,none⟩ (.int .i64 ((pos:Int)+n)));have f:Mod (zdm rb) w W:=by rw[←b];exact((Mod.refl (zdm rb) w).drewN nq).setCell (p:=⟨rb,1,none⟩) (.inl rfl) _
 have k1:W.cell? ⟨rb,1,none⟩=some (.int .i64 ((pos:Int)+n)):=by rw[←b];exact World.cell?_setCell_same _ _ _ c1
 have k0:W.cell? ⟨rb,0,none⟩=some (.slice a bs.length cap):=by rw[←b,World.cell?_setCell_other _ _ _ _ (by simp)];exact c0
 have i:Hid (zcv W rb (.slice a bs.length cap) (pos+n)):=by
  show W.heap[rb]?=_;rw[←b,zc (w:=w.drewN nq) H.out];simp
 have HB:=zb (Hb.out.mod f hv);have j:=zb f;rw[b];clear b f c0 c1 c;have k:IntKind.i64.wrap ((pos:Int)+n-n)=(pos:Int):=by rw[show(pos:Int)+n-n=pos by omega];exact IntWalk.i64_in _ (by omega)
 have e6:((pos:Int)+n).toNat=pos+n:=by omega
 by_cases hc:pos=cap
 ·have g:n=0:=by omega
  subst g;have l:bs.length=pos:=by omega
  have HL:=zb l;subst hc;clear l k e6;have k:IntKind.i64.wrap ((pos:Int)+((0:Nat):Int)-((0:Nat):Int))=(pos:Int):=by rw[show(pos:Int)+((0:Nat):Int)-((0:Nat):Int)=pos by omega];exact IntWalk.i64_in _ (by omega)
  go_quiet (fail);go_wp2_with fail;go_ret;refine⟨_,rfl,?_,i.out.mod (S:=NoB) ((Mod.refl _ _).drewN _) (fun x=>x),j.out.drewN _⟩;rw[List.take_zero];exact BR.nil _ _ _ (by unfold maxLen;omega)
 ·have hc':¬cap=pos:=fun h=>hc h.symm
  go_quiet (fail);go_wp2_with fail;go_ret;refine⟨_,rfl,?_,i.out.mod (S:=NoB) ((Mod.refl _ _).drewN _) (fun x=>x),j.out.drewN _⟩;exact(HB.out.sub hp).mod (S:=NoB) ((Mod.refl _ _).drewN _) (zaX.no _)
def vsz(c:UInt8):Nat:=2 ^ (c.toNat / 64)
def zcT(c:UInt8)(l:List UInt8):Nat:=l.foldl (fun n x=>n*256+x.toNat) (c.toNat % 64)
def zaq(bs:List UInt8)(pos:Nat):Option (Nat×Nat) :=
 match bs[pos]? with
 | none=>none
 | some c=>if pos+vsz c≤bs.length then some (zcT c ((bs.drop (pos+1)).take (vsz c-1)),pos+vsz c)else none
theorem zka(c:UInt8)(l:List UInt8)(x:UInt8):zcT c (l++[x])=zcT c l*256+x.toNat:=by simp[zcT]
theorem zgO(l:List UInt8):∀n b,n<b→l.foldl (fun n x=>n*256+x.toNat) n<b*256 ^ l.length:=by
 induction l with
 | nil=>intro n b h;simpa using h
 | cons x l ih =>
  intro n b h;have hx:=x.toNat_lt;have:=ih (n*256+x.toNat) (b*256) (by omega);simp only[List.foldl_cons,List.length_cons,Nat.pow_succ];rw[Nat.mul_assoc,Nat.mul_comm 256]at this;exact this
theorem zju(c:UInt8)(l:List UInt8):zcT c l<64*256 ^ l.length:=zgO l _ 64 (Nat.mod_lt _ (by decide))
theorem znV:∀a:Fin 256,bits .and .u8 ((a.val:Nat):Int) 63=((a.val % 64:Nat):Int):=by decide +kernel
theorem zkb(a b:Nat)(ha:a<18446744073709551616)(hb:b<18446744073709551616):bits .or .u64 (a:Int) (b:Int)=((a ||| b:Nat):Int):=by
 have hx:a ||| b<2 ^ 64:=Nat.or_lt_two_pow (by omega) (by omega);have h1:(BitVec.ofInt 64 (a:Int)).toNat=a:=by
  rw[BitVec.ofInt_natCast,BitVec.toNat_ofNat];exact Nat.mod_eq_of_lt (by omega)
 have h2:(BitVec.ofInt 64 (b:Int)).toNat=b:=by
  rw[BitVec.ofInt_natCast,BitVec.toNat_ofNat];exact Nat.mod_eq_of_lt (by omega)
 show IntKind.u64.wrap ((BitVec.ofInt 64 (a:Int) ||| BitVec.ofInt 64 (b:Int)).toNat:Int)=_;rw[BitVec.toNat_or,h1,h2,IntKind.wrap_u64];omega
theorem or_256(a c:Nat)(hc:c<256):a*256 ||| c=a*256+c:=by
 have:=Nat.two_pow_add_eq_or_of_lt (b:=c) (i:=8) hc a;rw[Nat.mul_comm]at this;exact this.symm
theorem u64_or(a c:Nat)(ha:a<72057594037927936)(hc:c<256):bits .or .u64 ((a:Int)*256) (c:Int)=((a*256+c:Nat):Int):=by
 have:=zkb (a*256) c (by omega) (by omega);rw[or_256 a c hc]at this;rw[←this]
 congr 1
def Rds(w:World)(rb:Nat)(v:Value)(r:Option (Value×Nat))(e:Ending)(w':World):Prop :=
 (∃x p,r=some (x,p)∧e = .returned x∧zcv w' rb v p∧Mod (zdm rb) w w')∨(r=none∧zpg rb w e w')
theorem zU(rb pos:Nat)(v:Value)(bs:List UInt8)(w:World)(h:zcv w rb v pos)(hb:BR w v bs)(r:zaX (zdm rb) v)(hp:pos≤bs.length) :
  Calls Tryz.prog 127 #[.pointer (some ⟨rb,0,none⟩)] w (Rds w rb v ((zaq bs pos).map fun q=>(.int .u64 (q.1:Int),q.2))):=by
 by_cases s:pos<bs.length
 ·obtain⟨c,hc⟩:∃c,bs[pos]?=some c:=⟨bs[pos],List.getElem?_eq_getElem s⟩;have t:(bs.drop pos).take 1=[c]:=by
   rw[List.take_one,List.head?_drop,hc];rfl
  have t1:=zf4 rb 1 pos 1 rfl v bs w h hb r (by omega);rw[t]at t1;have hcl:=c.toNat_lt;have u:=znV ⟨c.toNat,by omega⟩;simp only at u;have L:c.toNat / 64=0∨c.toNat / 64=1∨c.toNat / 64=2∨c.toNat / 64=3:=by omega
  have M:=zb L;have N:=zb hb;have O:=zb hc;clear h hb L hc t;go_enter Tryz.func127,Tryz.ntmps127;go_wp2_with fail;refine t1.mono ?_;rintro e G ⟨sv,rfl,hs,h1,m1⟩;obtain⟨a,cap,rfl,_,_,h3⟩:=hs;obtain⟨g,o,rfl,d⟩:=h3 0 c rfl;clear h3 t1;simp only[Nat.add_zero]at d;have y:=zb h1;have f:=zb m1;clear h1 m1;simp only[List.length_cons,List.length_nil];have z:IntKind.u64.wrap (IntKind.u64.wrap (2 ^ (c.toNat / 64))-1)=((vsz c-1:Nat):Int):=by
   unfold vsz;rcases M.out with e|e|e|e<;>rw[e]<;>rfl
  have hz1:1≤vsz c:=Nat.one_le_two_pow;have hz8:vsz c≤8:=by
   unfold vsz;rcases M.out with e|e|e|e<;>rw[e]<;>decide
  by_cases j:pos+vsz c≤bs.length
  ·have A:=zf4 rb (vsz c-1) (pos+1) _ z v bs G y.out (N.out.mod f.out r) r (by omega);have B:((bs.drop (pos+1)).take (vsz c-1)).length=vsz c-1:=by simp;omega
   have F:Hid (zaq bs pos=some (zcT c ((bs.drop (pos+1)).take (vsz c-1)),pos+vsz c)):=by
    show _=_;unfold zaq;rw[O.out];simp only[if_pos j]
   obtain⟨b,l⟩:=nm ((bs.drop (pos+1)).take (vsz c-1));rw[l]at A B F;clear l;have Zv:=zb z;clear z;go_wp2_with fail;refine A.mono ?_;rintro e P ⟨sv,rfl,H,h2,Q⟩;have H2:Hid (zcv P rb v (pos+vsz c)):=by
    have e:pos+1+(vsz c-1)=pos+vsz c:=by omega
    rw[e]at h2;exact h2
   have HM:=zb (f.out.trans Q);obtain⟨a2,R,rfl,hq1,I,h4⟩:=H;have S:b.length≤7:=by omega
   unfold maxLen at I;clear h2 Q A B u d Zv;go_wp2_with fail
   go_loop [4,6,21] (fun n _ i=>∃k:Nat,k≤b.length∧i = .int .i64 k∧n = .int .u64 (zcT c (b.take k):Int)) (fun _ _ i=>b.length-(intOf i).toNat)
   case atStart=>exact⟨0,Nat.zero_le _,rfl,by simp[zcT]⟩
   case round =>
    obtain⟨k,hk,rfl,rfl⟩:=hrel;by_cases J:k<b.length
    ·obtain⟨x,K⟩:∃x,b[k]?=some x:=⟨b[k],List.getElem?_eq_getElem J⟩;obtain⟨g2,o2,rfl,hc2⟩:=h4 k x K;have T:Hid (zcT c (b.take (k+1))=zcT c (b.take k)*256+x.toNat):=by
      show _=_;rw[zd4 b k x K,zka]
     have C:zcT c (b.take k)<72057594037927936:=by
      have h1:=zju c (b.take k);have h2:(b.take k).length≤6:=by rw[List.length_take];omega
      have h3:256 ^ (b.take k).length≤256 ^ 6:=Nat.pow_le_pow_right (by omega) h2;have h5:64*256 ^ (b.take k).length≤64*256 ^ 6:=Nat.mul_le_mul_left _ h3;have h6:64*256 ^ 6≤72057594037927936:=by decide
      exact Nat.lt_of_lt_of_le h1 (Nat.le_trans h5 h6)
     obtain⟨m,p⟩:=nm (zcT c (b.take k));have hxl:=x.toNat_lt;rw[p]at C T ⊢;have hor:=u64_or m x.toNat C (by omega);have hw1:IntKind.u64.wrap ((m:Int)*256)=(m:Int)*256:=by rw[IntKind.wrap_u64];omega
     clear p h4 K;go_wp2_with fail
     go_round
     case rel=>exact⟨k+1,by omega,by go_num,by rw[T.out];go_num⟩
     case measure=>simp[intOf];omega
    ·have D:b.take k=b:=List.take_of_length_le (by omega);rw[D];clear D h4;go_wp2_with fail;go_ret;exact .inl ⟨_,_,by rw[F.out];rfl,rfl,H2.out,HM.out⟩
  ·have A:=zig rb (vsz c-1) (pos+1) _ z v bs G y.out (N.out.mod f.out r) (by omega) (by omega);have F:Hid (zaq bs pos=none):=by
    show _=_;unfold zaq;rw[O.out];simp only[if_neg j]
   clear z;go_wp2_with (go_at_call 129;refine A.mono ?_;rintro e P ⟨E,p⟩;unfold zac at E;subst E);exact⟨rfl,.inr ⟨by rw[F.out];rfl,rfl,f.out.trans p⟩⟩
 ·have hr:Hid (zaq bs pos=none):=by
   show _=_;unfold zaq;rw[List.getElem?_eq_none (by omega)]
  have t1:=zig rb 1 pos 1 rfl v bs w h hb hp (by omega);clear h hb r s;go_enter Tryz.func127,Tryz.ntmps127;go_wp2_with (go_at_call 129;refine t1.mono ?_;rintro e G ⟨E,p⟩;unfold zac at E;subst E);exact⟨rfl,.inr ⟨by rw[hr.out];rfl,rfl,p⟩⟩
end Go.Proofs.YtddfdpbaiedcjaaGreatDoor
