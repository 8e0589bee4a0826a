/- A part of Urgent's proof. Conditions: none. Part 30 of 32. -/
import Derived.Test.YtddfdpbaiedcjaaGreatDoorUrg29
set_option maxRecDepth 100000
set_option maxHeartbeats 16000000
set_option linter.all false
namespace Go.Proofs.YtddfdpbaiedcjaaGreatDoor
open Go.RowKit
theorem zqC:(Tryz.prog.info? (bty 0)).map (fun i=>(i.zero,i.size,i.bytes))=some (some (.pointer none),1,8):=by kernel_rfl
theorem zqD:(Tryz.prog.info? (bty 1)).map (fun i=>(i.zero,i.size,i.bytes))=some (some (.slice none 0 0),1,24):=by kernel_rfl
theorem zqE:(Tryz.prog.info? (bty 2)).map (fun i=>(i.zero,i.size,i.bytes))=some (some (.slice none 0 0),1,24):=by kernel_rfl
theorem zqF:(Tryz.prog.info? (bty 3)).map (fun i=>(i.zero,i.size,i.bytes))=some (some (.int .u64 0),1,8):=by kernel_rfl
theorem zqG:(Tryz.prog.info? (bty 4)).map (fun i=>(i.zero,i.size,i.bytes))=some (some (.int .u64 0),1,8):=by kernel_rfl
theorem Net.base{w a:World}{tag:Nat→Nat×Nat}{nb:Nat}{n:NS}{M:NV}{W:World}(h:Net a tag nb n M W)(m:Mod NoB w a):Net w tag nb n M W :=
 ⟨h.o,h.cn,h.env,h.nd,m.trans h.mod,fun g hg=>Nat.le_trans m.size (h.t1 g hg)⟩
def zh2(w:World)(n:NS)(e:Ending)(W':World):Prop:=∃nb tag M,e = .returned (.pointer (some ⟨nb,0,none⟩))∧Net w tag nb n M W'
structure BSh(L:Nat→List Value)(b:Nat→Nat)(er:Nat→Value)(c0 c1 c2 c3 c4:Nat):Prop where
 h0:L 0=(List.range c0).map fun j=>zaO (b j)
 h1:L 1=(List.range c1).map er
 h2:L 2=List.replicate c2 (.slice none 0 0)
 h3:L 3=List.replicate c3 (.int .u64 0)
 h4:L 4=List.replicate c4 (.int .u64 0)
def cv0:CV:=⟨0,.slice none 0 0,fun _=>.slice none 0 0,fun _=>.slice none 0 0,fun _=>.slice none 0 0,fun _=>.slice none 0 0,fun _=>.slice none 0 0,.slice none 0 0,[],.slice none 0 0,0,.slice none 0 0⟩
theorem BN.start{a:World}(E:Env 1 (fun _=>(0,0)) a)(mt wn tt:Nat):BN a (fun g=>if g=a.heap.size then(3,0)else(0,0)) a.heap.size mt wn tt (fun _=>.slice none 0 0) (fun _=>[]) 0 (fun _=>0) (fun _=>cv0) 0 (fun _=>.slice none 0 0) (fun _=>0) (a.alloc (.cells (zcK mt wn tt (fun _=>.slice none 0 0)) 48)):=by
 have m:Mod NoB a (a.alloc (.cells (zcK mt wn tt (fun _=>.slice none 0 0)) 48)):=(Mod.refl _ _).alloc _;have p0:0<a.heap.size:=zk E.err;have p1:=E.tab.lt;exact
  {obj:=⟨heap_alloc_new a _,if_pos rfl⟩
   row:=fun r hr=>⟨World.ownsRow_nil _ 0 _ 1,fun g hg=>by cases hg⟩
   en:=fun d hd=>absurd hd (Nat.not_lt_zero d)
   er:=fun j b hd=>absurd hd (by omega)
   cn:=fun j b=>absurd b (Nat.not_lt_zero j)
   c2:=by omega
   d16:=by omega
   env:=⟨fun g hg=>if_neg (by simp at hg;omega),E.pos,(E.mod0 m).err,(E.mod0 m).tab,if_neg (by omega),if_neg (by omega)⟩
   nd:=fun j b g r hr=>by
    simp only;split
    ·intro x;have:=congrArg Prod.fst x;simp at this;omega
    ·intro x;have:=congrArg Prod.fst x;simp at this
   mod:=m
   t1:=fun g hg=>by
    by_cases x:g=a.heap.size
    ·omega
    ·simp only[if_neg x]at hg;exact absurd rfl hg }
section
variable {L:Nat→List Value} {b:Nat→Nat} {er:Nat→Value} {c0 c1 c2 c3 c4:Nat}
theorem BSh.len(h:BSh L b er c0 c1 c2 c3 c4):(L 0).length=c0∧(L 1).length=c1∧(L 2).length=c2∧(L 3).length=c3∧(L 4).length=c4:=by
 rw[h.h0,h.h1,h.h2,h.h3,h.h4];simp
theorem BSh.p0(h:BSh L b er c0 c1 c2 c3 c4)(q:Nat):BSh (upd L 0 (L 0++[.pointer (some ⟨q,0,none⟩)])) (upd b c0 q) er (c0+1) c1 c2 c3 c4:=by
 refine⟨?_,by rw[ze _ _ (by omega)];exact h.h1,by rw[ze _ _ (by omega)];exact h.h2,by rw[ze _ _ (by omega)];exact h.h3,by rw[ze _ _ (by omega)];exact h.h4⟩;rw[zf,List.range_succ,List.map_append,List.map_singleton,zf,h.h0]
 congr 1
 refine List.map_congr_left fun k hk=>?_
 rw[ze _ _ (by have:=List.mem_range.1 hk;omega)]
theorem BSh.p1(h:BSh L b er c0 c1 c2 c3 c4){u:Value}(hu:er c1=u):BSh (upd L 1 (L 1++[u])) b er c0 (c1+1) c2 c3 c4:=by
 refine⟨by rw[ze _ _ (by omega)];exact h.h0,?_,by rw[ze _ _ (by omega)];exact h.h2,by rw[ze _ _ (by omega)];exact h.h3,by rw[ze _ _ (by omega)];exact h.h4⟩;rw[zf,List.range_succ,List.map_append,List.map_singleton,h.h1,hu]
theorem BSh.p2(h:BSh L b er c0 c1 c2 c3 c4):BSh (upd L 2 (L 2++[.slice none 0 0])) b er c0 c1 (c2+1) c3 c4:=by
 refine⟨by rw[ze _ _ (by omega)];exact h.h0,by rw[ze _ _ (by omega)];exact h.h1,?_,by rw[ze _ _ (by omega)];exact h.h3,by rw[ze _ _ (by omega)];exact h.h4⟩;rw[zf,List.replicate_succ',h.h2]
theorem BSh.p3(h:BSh L b er c0 c1 c2 c3 c4):BSh (upd L 3 (L 3++[.int .u64 0])) b er c0 c1 c2 (c3+1) c4:=by
 refine⟨by rw[ze _ _ (by omega)];exact h.h0,by rw[ze _ _ (by omega)];exact h.h1,by rw[ze _ _ (by omega)];exact h.h2,?_,by rw[ze _ _ (by omega)];exact h.h4⟩;rw[zf,List.replicate_succ',h.h3]
theorem BSh.p4(h:BSh L b er c0 c1 c2 c3 c4):BSh (upd L 4 (L 4++[.int .u64 0])) b er c0 c1 c2 c3 (c4+1):=by
 refine⟨by rw[ze _ _ (by omega)];exact h.h0,by rw[ze _ _ (by omega)];exact h.h1,by rw[ze _ _ (by omega)];exact h.h2,by rw[ze _ _ (by omega)];exact h.h3,?_⟩;rw[zf,List.replicate_succ',h.h4]
theorem BSh.setEr(h:BSh L b er c0 c1 c2 c3 c4){i:Nat}(hi:c1≤i)(v:Value):BSh L b (upd er i v) c0 c1 c2 c3 c4:=by
 refine⟨h.h0,?_,h.h2,h.h3,h.h4⟩;rw[h.h1];refine List.map_congr_left fun k hk=>?_
 rw[ze _ _ (by have:=List.mem_range.1 hk;omega)]
end
theorem zfW(a b c:Int)(ha : -9223372036854775808≤a∧a≤9223372036854775807)(hb : -9223372036854775808≤b∧b≤9223372036854775807)(hc : -9223372036854775808≤c∧c≤9223372036854775807)(w:World)(E:Env 1 (fun _=>(0,0)) w) :
  Calls Tryz.prog 20 #[.int .i64 a,.int .i64 b,.int .i64 c] w (zh2 w (NS.build a b c)):=by
 have aX:=zao a 337 (by omega);have aY:=zao b 300 (by omega);have aZ:=zao c 600 (by omega);have C:Calls Tryz.prog 24 #[.int .i64 a,.int .i64 337] w (fun e w'=>e = .returned (.int .i64 (pickN a 337:Int))∧w=w'):=zaW a 337 w ha.1 ha.2 (by omega) (by omega);have D:Calls Tryz.prog 24 #[.int .i64 b,.int .i64 300] w (fun e w'=>e = .returned (.int .i64 (pickN b 300:Int))∧w=w'):=zaW b 300 w hb.1 hb.2 (by omega) (by omega);have F:Calls Tryz.prog 24 #[.int .i64 c,.int .i64 600] w (fun e w'=>e = .returned (.int .i64 (pickN c 600:Int))∧w=w'):=zaW c 600 w hc.1 hc.2 (by omega) (by omega);unfold NS.build;obtain⟨p1,e1⟩:=nm (pickN a 337);obtain⟨p2,e2⟩:=nm (pickN b 300);obtain⟨p3,e3⟩:=nm (pickN c 600);rw[e1]at C aX ⊢;rw[e2]at D aY ⊢;rw[e3]at F aZ ⊢;obtain⟨mt,ai⟩:=nm (64+p1);obtain⟨wn,aj⟩:=nm (16+p2);obtain⟨tt,ak⟩:=nm (16+p3);have z1:(64:Int)+(p1:Int)=(mt:Int):=by omega
 have z2:(16:Int)+(p2:Int)=(wn:Int):=by omega
 have z3:(16:Int)+(p3:Int)=(tt:Int):=by omega
 have y1:IntKind.i64.wrap (mt:Int)=(mt:Int):=by rw[IntKind.wrap_i64];omega
 have y2:IntKind.i64.wrap (wn:Int)=(wn:Int):=by rw[IntKind.wrap_i64];omega
 have y3:IntKind.i64.wrap (tt:Int)=(tt:Int):=by rw[IntKind.wrap_i64];omega
 rw[ai,aj,ak];have al:zhi mt wn tt=true:=by
  unfold zhi;simp only[Bool.and_eq_true,decide_eq_true_eq];omega
 have HE:=zb E;have a0:=zb al;obtain⟨W1,v⟩:=nm (w.alloc (.cells #[.int .i64 (mt:Int),.int .i64 (wn:Int),.int .i64 (tt:Int)] 45));have m1:Mod NoB w W1:=by rw[←v];exact(Mod.refl _ _).alloc _
 have d:W1.heap[w.heap.size]?=some (.cells #[.int .i64 (mt:Int),.int .i64 (wn:Int),.int .i64 (tt:Int)] 45 (0,0)):=by rw[←v];exact heap_alloc_new w _
 obtain⟨cb,am⟩:=nm w.heap.size;rw[am]at d;have g0:W1.cell? ⟨cb,0,none⟩=some (.int .i64 (mt:Int)):=za d rfl;have g1:W1.cell? ⟨cb,1,none⟩=some (.int .i64 (wn:Int)):=za d rfl;have g2:W1.cell? ⟨cb,2,none⟩=some (.int .i64 (tt:Int)):=za d rfl;have HG:Hid (∀Wx,Mod NoB W1 Wx→Wx.cell? ⟨cb,0,none⟩=some (.int .i64 (mt:Int))∧Wx.cell? ⟨cb,1,none⟩=some (.int .i64 (wn:Int))∧Wx.cell? ⟨cb,2,none⟩=some (.int .i64 (tt:Int))):=zb fun Wx m=>⟨m.cell (a:=⟨cb,0,none⟩) (fun x=>x) g0,m.cell (a:=⟨cb,1,none⟩) (fun x=>x) g1,m.cell (a:=⟨cb,2,none⟩) (fun x=>x) g2⟩
 have ao:=zb m1;have ST:=zb (BN.start (E.mod0 m1) mt wn tt);have a1:=zb v;obtain⟨nb,a2⟩:=nm W1.heap.size;rw[a2]at ST;unfold zcK at ST;obtain⟨W2,G⟩:=nm (W1.alloc (.cells #[.slice none 0 0,.slice none 0 0,.slice none 0 0,.slice none 0 0,.int .u64 0,.int .i64 (mt:Int),.int .i64 (wn:Int),.int .i64 (tt:Int),.slice none 0 0,.slice none 0 0] 48));have a3:=zb G;rw[G]at ST;clear E al m1 d v G ai aj ak ha hb hc e1 e2 e3;go_enter Tryz.func20,Tryz.ntmps20;go_upto_region 2 with(first|(go_at_call 24;refine C.mono ?_;rintro _ _ ⟨rfl,rfl⟩;clear C)|(go_at_call 24;refine D.mono ?_;rintro _ _ ⟨rfl,rfl⟩;clear D)|(go_at_call 24;refine F.mono ?_;rintro _ _ ⟨rfl,rfl⟩;clear F));try rw[a1.out]
 go_wp2_with fail;try rw[a3.out]
 go_loopw [9] (fun iv wr=>∃(i:Nat) (tag:Nat→Nat×Nat) (R:Nat→Value) (L:Nat→List Value) (bb:Nat→Nat) (V:Nat→CV) (er:Nat→Value) (eb:Nat→Nat),i≤2∧iv = .int .i64 (i:Int)∧Hid (BN W1 tag nb mt wn tt R L i bb V (8*i) er eb wr∧BSh L bb er i i i i i)) (fun iv _=>2-(intOf iv).toNat)
 case atStart=>exact⟨0,_,_,_,_,_,_,_,by omega,rfl,zb ⟨ST.out,⟨rfl,rfl,rfl,rfl,rfl⟩⟩⟩
 case round =>
  obtain⟨i,tag,R,L,bb,V,er,eb,hi,rfl,HB⟩:=hrel;by_cases f:i<2;rotate_left
  ·have h2:i=2:=by omega
   subst h2;have HN:=zb ((HB.out.1.done HB.out.2.h0 HB.out.2.h1 HB.out.2.h2 HB.out.2.h3 HB.out.2.h4).base ao.out);clear f;go_wp2_with fail;go_ret;exact⟨nb,tag,_,rfl,HN.out⟩
  have xw:IntKind.i64.wrap ((i:Int)+1)=(i:Int)+1:=by rw[IntKind.wrap_i64];omega
  have xc:((i+1:Nat):Int)=(i:Int)+1:=by omega
  obtain⟨u0,u1,u2⟩:=HG.out wr HB.out.1.mod;have kn:=zoA tag (i+1) mt wn tt wr (HB.out.1.env.to (by omega));go_upto_region 9 with(go_at_call 36;refine kn.mono ?_;rintro e Wn hp;rcases hp with⟨hf,-⟩|⟨q,ap,Vn,-,rfl,n1,n2,n3,n4⟩;exact absurd (a0.out.symm.trans hf) (by simp));simp only[Int.toNat_natCast]at n1;have hL:zbc tag (i+1) q wr (CS.new mt wn tt) Wn:=⟨ap,Vn,n1,n2,n3.mono (fun _ x=>x.elim)⟩;obtain⟨a9,V1,C1⟩:=HB.out.1.conn f hL;obtain⟨l0,l1,l2,l3,H⟩:=HB.out.2.len;obtain⟨aq,ar,au,av,I,-,x0,g,y,J,tg0,M⟩:=C1.push (r:=0) (by decide) (.pointer (some ⟨q,0,none⟩)) rfl 39 8 zqC rfl Tryz.underlying39 (by decide) (by rw[l0];exact Nat.le_trans hi (by decide));rw[l0]at x0 g y M;have x0:Wn.cell? ⟨nb,0,none⟩=some (.slice aq i ar):=x0;have y:I.cell? ⟨nb,0,none⟩=some (.slice aq i ar):=y;have J:I.frozen? ⟨nb,0,none⟩=false:=J;obtain⟨a4,h⟩:=nm (I.setCell ⟨nb,0,none⟩ (.slice au (i+1) av));have B0:=zb (M a4 (by rw[←h];exact Mod.refl _ _));have S0:=zb (HB.out.2.p0 q);obtain⟨R0,aw⟩:=nm (upd R 0 (Value.slice au (i+1) av));obtain⟨L0,N⟩:=nm (upd L 0 (L 0++[(.pointer (some ⟨q,0,none⟩):Value)]));rw[aw,N]at B0;rw[N]at S0;clear M aw N;clear C1 n1 n2 n3 n4 kn u0 u1 u2 hL;go_upto_region 10 with(at_builtin;refine zm rfl _ _ _ _ rfl _ _ _ rfl rfl g ?_);try rw[h]
  clear h x0 g y J;clear HB l0;obtain⟨b0,O⟩:=nm (upd bb i q);rw[O]at B0;rw[O]at S0;clear O;go_wp2_with fail
  go_loopw [12,13] (fun lv kv wr=>∃(K:Nat) (tag:Nat→Nat×Nat) (er:Nat→Value) (eb:Nat→Nat),K≤8∧lv=znh er i K∧kv = .int .i64 (K:Int)∧Hid (BN W1 tag nb mt wn tt R0 L0 (i+1) b0 V1 (8*i+K) er eb wr∧BSh L0 b0 er (i+1) i i i i)) (fun _ kv _=>8-(intOf kv).toNat)
  case atStart=>exact⟨0,_,_,_,by omega,rfl,rfl,zb ⟨B0.out,S0.out⟩⟩
  case round =>
   obtain⟨K,tag,er,eb,hK,rfl,rfl,HB⟩:=hrel;by_cases ax:K<8
   ·obtain⟨va,ca,a5,c5,W5,ay,f5,r5,B5⟩:=HB.out.1.pushEnd f ax rfl;have S5:=zb (HB.out.2.setEr (Nat.le_refl i) (.slice a5 (K+1) c5));have a6:=zb B5;have e5:znh (upd er i (.slice a5 (K+1) c5)) i (K+1) = .slice a5 (K+1) c5:=by unfold znh;rw[if_neg (by omega),zf]
    have E5:=zb e5;rw[f5];unfold za9 EN.zero at r5;clear B5 e5 f5 HB;go_wp2_with (at_builtin;refine zm rfl _ _ _ _ rfl _ _ _ rfl rfl r5 ?_;clear r5);go_roundw
    case rel=>exact⟨K+1,ay,_,_,by omega,E5.out.symm,by go_num,zb ⟨a6.out,S5.out⟩⟩
    case measure=>simp[intOf];omega
   ·have h8:K=8:=by omega
    subst h8;obtain⟨_,_,_,_,_⟩:=HB.out.2.len;have j:=HB.out.1.er i f (by omega);rw[show min 8 (8*i+8-8*i)=8 by omega]at j;obtain⟨va,ca,f5,-⟩:=zj j.own;have e5:znh er i 8 = .slice va 8 ca:=by unfold znh;rw[if_neg (by omega),f5]
    rw[e5];have a7:=zb f5;obtain⟨-,l1,l2,l3,H⟩:=HB.out.2.len;clear j e5 f5 ax;obtain⟨az,aA,aB,aC,P,-,x1,k,z,Q,tg1,S⟩:=HB.out.1.push (r:=1) (by decide) (.slice va 8 ca) rfl 40 24 zqD rfl Tryz.underlying40 (by decide) (by rw[l1];exact Nat.le_trans hi (by decide));rw[l1]at x1 k z S;have x1:wr.cell? ⟨nb,1,none⟩=some (.slice az i aA):=x1;have z:P.cell? ⟨nb,1,none⟩=some (.slice az i aA):=z;have Q:P.frozen? ⟨nb,1,none⟩=false:=Q;obtain⟨aD,l⟩:=nm (P.setCell ⟨nb,1,none⟩ (.slice aB (i+1) aC));have B1:=zb (S aD (by rw[←l];exact Mod.refl _ _));have S1:=zb (HB.out.2.p1 a7.out);obtain⟨R1,aE⟩:=nm (upd R0 1 (Value.slice aB (i+1) aC));obtain⟨L1,T⟩:=nm (upd L0 1 (L0 1++[(.slice va 8 ca:Value)]));rw[aE,T]at B1;rw[T]at S1;clear S aE T;go_upto_region 16 with(at_builtin;refine zm rfl _ _ _ _ rfl _ _ _ rfl rfl k ?_);try rw[l]
    clear l x1 k z Q;obtain⟨-,-,l2,l3,H⟩:=S1.out.len;obtain⟨aF,aG,aH,aI,U,-,x2,n,A,W,tg2,X⟩:=B1.out.push (r:=2) (by decide) (.slice none 0 0) rfl 41 24 zqE rfl Tryz.underlying41 (by decide) (by rw[l2];exact Nat.le_trans hi (by decide));rw[l2]at x2 n A X;have x2:aD.cell? ⟨nb,2,none⟩=some (.slice aF i aG):=x2;have A:U.cell? ⟨nb,2,none⟩=some (.slice aF i aG):=A;have W:U.frozen? ⟨nb,2,none⟩=false:=W;obtain⟨aJ,o⟩:=nm (U.setCell ⟨nb,2,none⟩ (.slice aH (i+1) aI));have B2:=zb (X aJ (by rw[←o];exact Mod.refl _ _));have S2:=zb (S1.out.p2);obtain⟨R2,aK⟩:=nm (upd R1 2 (Value.slice aH (i+1) aI));obtain⟨L2,Y⟩:=nm (upd L1 2 (L1 2++[(.slice none 0 0:Value)]));rw[aK,Y]at B2;rw[Y]at S2;clear X aK Y;go_upto_region 17 with(at_builtin;refine zm rfl _ _ _ _ rfl _ _ _ rfl rfl n ?_);try rw[o]
    clear o x2 n A W;obtain⟨-,-,-,l3,H⟩:=S2.out.len;obtain⟨aL,aM,aN,aO,Z,-,x3,p,B,aa,tg3,ab⟩:=B2.out.push (r:=3) (by decide) (.int .u64 0) rfl 42 8 zqF rfl Tryz.underlying42 (by decide) (by rw[l3];exact Nat.le_trans hi (by decide));rw[l3]at x3 p B ab;have x3:aJ.cell? ⟨nb,3,none⟩=some (.slice aL i aM):=x3;have B:Z.cell? ⟨nb,3,none⟩=some (.slice aL i aM):=B;have aa:Z.frozen? ⟨nb,3,none⟩=false:=aa;obtain⟨aP,s⟩:=nm (Z.setCell ⟨nb,3,none⟩ (.slice aN (i+1) aO));have B3:=zb (ab aP (by rw[←s];exact Mod.refl _ _));have S3:=zb (S2.out.p3);obtain⟨R3,aQ⟩:=nm (upd R2 3 (Value.slice aN (i+1) aO));obtain⟨L3,ac⟩:=nm (upd L2 3 (L2 3++[(.int .u64 0:Value)]));rw[aQ,ac]at B3;rw[ac]at S3;clear ab aQ ac;go_upto_region 18 with(at_builtin;refine zm rfl _ _ _ _ rfl _ _ _ rfl rfl p ?_);try rw[s]
    clear s x3 p B aa;obtain⟨-,-,-,-,H⟩:=S3.out.len;obtain⟨aR,aS,aT,aU,ad,-,x4,t,ae,aV,tg4,af⟩:=B3.out.push (r:=4) (by decide) (.int .u64 0) rfl 42 8 zqG rfl Tryz.underlying42 (by decide) (by rw[H];exact Nat.le_trans hi (by decide));rw[H]at x4 t ae af;have x4:aP.cell? ⟨nb,9,none⟩=some (.slice aR i aS):=x4;have ae:ad.cell? ⟨nb,9,none⟩=some (.slice aR i aS):=ae;have aV:ad.frozen? ⟨nb,9,none⟩=false:=aV;obtain⟨a8,u⟩:=nm (ad.setCell ⟨nb,9,none⟩ (.slice aT (i+1) aU));have B4:=zb (af a8 (by rw[←u];exact Mod.refl _ _));have S4:=zb (S3.out.p4);obtain⟨R4,aW⟩:=nm (upd R3 4 (Value.slice aT (i+1) aU));obtain⟨L4,ah⟩:=nm (upd L3 4 (L3 4++[(.int .u64 0:Value)]));rw[aW,ah]at B4;rw[ah]at S4;clear af aW ah;clear HB B0 S0 B1 B2 B3 S1 S2 S3 H;go_wp2_with (at_builtin;refine zm rfl _ _ _ _ rfl _ _ _ rfl rfl t ?_;clear t);try rw[u]
    clear u;go_roundw
    case rel =>
     have x:=B4.out;rw[show 8*i+8=8*(i+1)from rfl]at x;exact⟨i+1,_,_,_,_,_,_,_,f,by first|rfl|(rw[xc])|(rw[xc,←xw];rfl),zb ⟨x,S4.out⟩⟩
    case measure =>
     clear HG ao xw;simp only[intOf,Int.toNat_natCast];omega
theorem zgB{w:World}{tag:Nat→Nat×Nat}{nb:Nat}{n:NS}{M:NV}{W:World}(h:Net w tag nb n M W){T:Nat}(hI:n.Inv T)(hT:T≤zbm){i:Nat}(hi:i<2){s:zcw}(hs:s.Ok) :
  Calls Tryz.prog 40 #[.pointer (some ⟨nb,0,none⟩),.int .i64 (i:Int),.agg s.cells] W (zct w tag nb W (n.datagram i s)):=by
 obtain⟨W1,L⟩:=nm (W.alloc (.cells s.cells 37));have h1:Net w tag nb n M W1:=by rw[←L];exact h.alloc _
 have m1:Mod NoB W W1:=by rw[←L];exact(Mod.refl _ _).alloc _
 obtain⟨sb,aN⟩:=nm W.heap.size;have sA:zcJ W1 sb s:=zcJ.of (by rw[←L,←aN];exact heap_alloc_new W _);have aa:tag sb=(0,0):=h.env.ok sb (by omega);have am:=hs.a;have N:=hs.b;have ay:=hs.s;obtain⟨c0,c1,c2,c3,c4⟩:=sA;obtain⟨H,cx,b1,⟨b2,b3⟩,b4⟩:=h1.o.connIs (i:=i) hi;obtain⟨gx',cx',az,_,_,aj⟩:=h1.o.x.form (by omega);obtain⟨gn,cn,hn0,n1,⟨n2,n3⟩,n4,n5,ao⟩:=h1.o.nxAt hi;have E:=h1.o.obj.tag;have aA:tag H=(3,1):=by
  have x:W1.cell? ⟨nb,0,none⟩=some M.x:=h1.o.obj.cell (j:=0) rfl;rw[b1,az]at x;cases x;exact aj
 have p4:W1.cell? ⟨nb,4,none⟩=some (.int .u64 (n.now:Int)):=h1.o.obj.cell (j:=4) rfl;have p5:W1.cell? ⟨nb,5,none⟩=some (.int .i64 (n.mtu:Int)):=h1.o.obj.cell (j:=5) rfl;have aO:=hI.mtu;have aP:=hI.now;have aQ:=hI.next i hi;have ab:=hI.gl i hi;have ap:=hI.c i hi;have hTb:T≤268435455:=hT;obtain⟨mt,aB⟩:=nm n.mtu;obtain⟨nw,aC⟩:=nm n.now;obtain⟨id,aq⟩:=nm (n.next i);obtain⟨t,ar⟩:=nm s.s;obtain⟨sa,ac⟩:=nm s.a;obtain⟨sc,ad⟩:=nm s.b;obtain⟨Y,ae⟩:=nm (M.b i);obtain⟨p,ep⟩:=nm (pickN s.a 9);obtain⟨r,er⟩:=nm (pickN s.b 3);have hp9:p<9:=by rw[←ep];exact zao _ _ (by omega)
 have hr3:r<3:=by rw[←er];exact zao _ _ (by omega)
 obtain⟨RR,k⟩:=nm (n.datagram i s);rw[k];unfold NS.datagram at k;rw[aB]at aO p5 k;rw[aC]at aP p4 k;rw[aq]at aQ n4 k;rw[ar]at c4 ay k;rw[ae]at b4;rw[ep,er]at k;have hsz:(zq t).size=t.length:=zJ t;have hi2:(i:Int)<2:=by omega
 have hi0:(0:Int)≤(i:Int):=by omega
 have aD:Hid (∀Wx,Calls Tryz.prog 24 #[.int .i64 sa,.int .i64 9] Wx (fun e w'=>e = .returned (.int .i64 (p:Int))∧Wx=w')):=zb fun Wx=>by
  rw[←ep,←ac];exact zaW s.a 9 Wx am.1 am.2 (by omega) (by omega)
 have aE:Hid (∀Wx,Calls Tryz.prog 24 #[.int .i64 sc,.int .i64 3] Wx (fun e w'=>e = .returned (.int .i64 (r:Int))∧Wx=w')):=zb fun Wx=>by
  rw[←er,←ad];exact zaW s.b 3 Wx N.1 N.2 (by omega) (by omega)
 have O:Hid (∀(Wx:World) (dl:Nat),Mod NoB W1 Wx→Calls Tryz.prog 72 #[.pointer (some ⟨Y,0,none⟩),.int .u64 (id:Int),.int .u64 (dl:Int),.string (zq t)] Wx (zbd tag (i+1) Y Wx (.int .i64 (((n.c i).datagram id dl t).1:Int)) ((n.c i).datagram id dl t).2)):=zb fun Wx dl m=>by
  rw[←ae];exact zgt ((h1.cn i hi).mod0 m) ((h1.env.to (j:=i+1) (by omega)).mod0 m) id dl t ap.mtu.2 ay (by have:=ap.waits.2;omega)
 have y:Hid (∀g,(tag g).1=3→(tag g).1=i+1→False):=zb fun g a b=>by omega
 have P:Hid (∀g,tag g=(0,0)→(tag g).1=i+1→False):=zb fun g a b=>by rw[a]at b;simp at b
 have HN:=zb h1;have aF:=zb m1;have Q:=zb L;have a3:=zb E;have aG:=zb ae;have aR:=zb aq;rw[ac]at c2;rw[ad]at c3;unfold zcw.cells at Q ⊢;rw[ar,ac,ad]at Q ⊢;clear aq ae h h1 m1 L hs hI ap az aj aB aC ar ac ad ep er am N hT;by_cases ak:mt<t.length+40
 ·have db:decide ((mt:Int)-40<(t.length:Int))=true:=decide_eq_true (by omega);rw[if_pos ak]at k;have aS:=O;obtain⟨R,hR⟩:=nm ((n.c i).datagram id nw t);have B:Hid (∀Wx,Mod NoB W1 Wx→Calls Tryz.prog 72 #[.pointer (some ⟨Y,0,none⟩),.int .u64 (id:Int),.int .u64 (nw:Int),.string (zq t)] Wx (zbd tag (i+1) Y Wx (.int .i64 (R.1:Int)) R.2)):=zb fun Wx m=>by
   rw[←hR];exact O.out Wx nw m
  rw[hR]at k;obtain⟨D,c'⟩:=R;simp only at B k;subst k;have q6:((D:Int)==6)=(D==6):=zbD D 6;clear aS O hR;go_enter Tryz.func40,Tryz.ntmps40;go_upto_region 1 with fail;rw[Q.out];go_quiet (fail);go_upto_region 2 with fail;have NA:=zb (HN.out.free (((Mod.refl NoB W1).drewN nq).drew) (fun _ x=>x.elim));have KD:=zb (B.out _ (((Mod.refl NoB W1).drewN nq).drew));refine zl 22 (fun w'=>w'.cell? ⟨nb,0,none⟩=some (.slice (some ⟨H,0,none⟩) 2 cx)∧w'.cell? ⟨H,i,none⟩=some (.pointer (some ⟨Y,0,none⟩))∧w'.cell? ⟨nb,3,none⟩=some (.slice (some ⟨gn,0,none⟩) 2 cn)∧w'.cell? ⟨gn,i,none⟩=some (.int .u64 (id:Int))∧w'.cell? ⟨nb,4,none⟩=some (.int .u64 (nw:Int))∧w'.cell? ⟨sb,4,none⟩=some (.string (zq t))) (⟨b1,b4,n1,n4,p4,c4⟩) ?_;refine GI 0 ?_;iterate 20
   refine GS rfl ?_ ?_ ?_;rotate_left
   ·(intro wx d;(try dsimp only at d);obtain⟨f0,f1,f2,f3,f4,f5⟩:=d;go_simp)<;>(try with_reducible rfl)
   try simp only[PS]
  refine zx 20 rfl (fun K l=>?_);go_simp;refine(KD.out).mono ?_;rintro _ u ⟨rfl,hL⟩;rw[←aG.out]at hL;obtain⟨f,V3,N3,v,C⟩:=NA.out.conn hi hL;have G0:u.cell? ⟨nb,0,none⟩=some (.slice (some ⟨H,0,none⟩) 2 cx):=C.cell (a:=⟨nb,0,none⟩) (fun x=>y.out nb (by rw[E]) x) b1;have G1:u.cell? ⟨H,i,none⟩=some (.pointer (some ⟨Y,0,none⟩)):=C.cell (a:=⟨H,i,none⟩) (fun x=>y.out H (by rw[aA]) x) b4;have G2:u.cell? ⟨nb,3,none⟩=some (.slice (some ⟨gn,0,none⟩) 2 cn):=C.cell (a:=⟨nb,3,none⟩) (fun x=>y.out nb (by rw[E]) x) n1;have G3:u.cell? ⟨gn,i,none⟩=some (.int .u64 (id:Int)):=C.cell (a:=⟨gn,i,none⟩) (fun x=>y.out gn (by rw[ao]) x) n4;have G4:u.cell? ⟨nb,4,none⟩=some (.int .u64 (nw:Int)):=C.cell (a:=⟨nb,4,none⟩) (fun x=>y.out nb (by rw[E]) x) p4;have G5:u.cell? ⟨sb,4,none⟩=some (.string (zq t)):=C.cell (a:=⟨sb,4,none⟩) (fun x=>P.out sb aa x) c4;refine l.out _ _ ⟨G0,G1,G2,G3,G4,G5⟩ ?_;clear l K;try simp only[PS]
  refine GI 21 ?_;refine GS rfl ?_ ?_ ?_;rotate_left
  ·(intro wx d;(try dsimp only at d);obtain⟨f0,f1,f2,f3,f4,f5⟩:=d;go_simp)<;>(try with_reducible rfl)
  try simp only[PS]
  refine zo ?_;have au:Hid (∀W',Mod NoB u W'→zy w tag nb W (n.setC i c') W'):=zb fun W' m=>zy.from0 (aF.out.trans (((Mod.refl NoB W1).drewN nq).drew)) (zy.trans v (C.mono (fun g hg=>.inl (fun x=>by rw[x]at hg;simp at hg))) (zy.then0 N3.left m))
  clear N3 v C hL NA KD;go_wp2_with fail;go_ret;exact⟨by first|rfl|simp only[q6],au.out _ (Mod.refl _ _)⟩
 ·have db:decide ((mt:Int)-40<(t.length:Int))=false:=decide_eq_false (by omega);rw[if_neg ak]at k;have aT:nw+p≤536870911:=by omega
  have x4:IntKind.u64.wrap (p:Int)=(p:Int):=by rw[IntKind.wrap_u64];omega
  have x6:(nw:Int)+(p:Int)=((nw+p:Nat):Int):=by omega
  obtain⟨dl,aH⟩:=nm (nw+p);rw[aH]at k aT x6;have x5:IntKind.u64.wrap (dl:Int)=(dl:Int):=by rw[IntKind.wrap_u64];omega
  obtain⟨R,hR⟩:=nm ((n.c i).datagram id dl t);have B:Hid (∀Wx,Mod NoB W1 Wx→Calls Tryz.prog 72 #[.pointer (some ⟨Y,0,none⟩),.int .u64 (id:Int),.int .u64 (dl:Int),.string (zq t)] Wx (zbd tag (i+1) Y Wx (.int .i64 (R.1:Int)) R.2)):=zb fun Wx m=>by
   rw[←hR];exact O.out Wx dl m
  rw[hR]at k;obtain⟨D,c'⟩:=R;simp only at B k;have q3:((D:Int)==3)=(D==3):=zbD D 3;have q0:((D:Int) != 0)=(D != 0):=zjg D 0;have af:=zb k;clear O hR aH k;go_enter Tryz.func40,Tryz.ntmps40;go_upto_region 1 with fail;rw[Q.out];go_quiet (fail);go_upto_region 4 with fail;have aU:=zb (aD.out (W1.drewN nq).drew);refine zl 10 (fun w'=>w'.cell? ⟨nb,4,none⟩=some (.int .u64 (nw:Int))∧w'.cell? ⟨sb,2,none⟩=some (.int .i64 sa)) (⟨p4,c2⟩) ?_;refine GI 0 ?_;iterate 6
   refine GS rfl ?_ ?_ ?_;rotate_left
   ·(intro wx d;(try dsimp only at d);obtain⟨f0,f1⟩:=d;go_simp)<;>(try with_reducible rfl)
   try simp only[PS]
  refine zx 6 rfl (fun K l=>?_);go_simp;refine(aU.out).mono ?_;rintro _ _ ⟨rfl,rfl⟩;refine l.out _ _ ⟨p4,c2⟩ ?_;clear l K;try simp only[PS]
  refine GI 7 ?_;iterate 3
   refine GS rfl ?_ ?_ ?_;rotate_left
   ·(intro wx d;(try dsimp only at d);obtain⟨f0,f1⟩:=d;go_simp)<;>(try with_reducible rfl)
   try simp only[PS]
  refine zo ?_;go_upto_region 5 with fail;have NA:=zb (HN.out.free ((((Mod.refl NoB W1).drewN nq).drew).drew) (fun _ x=>x.elim));have KD:=zb (B.out _ ((((Mod.refl NoB W1).drewN nq).drew).drew));refine zl 19 (fun w'=>w'.cell? ⟨nb,0,none⟩=some (.slice (some ⟨H,0,none⟩) 2 cx)∧w'.cell? ⟨H,i,none⟩=some (.pointer (some ⟨Y,0,none⟩))∧w'.cell? ⟨nb,3,none⟩=some (.slice (some ⟨gn,0,none⟩) 2 cn)∧w'.cell? ⟨gn,i,none⟩=some (.int .u64 (id:Int))∧w'.cell? ⟨nb,4,none⟩=some (.int .u64 (nw:Int))∧w'.cell? ⟨sb,4,none⟩=some (.string (zq t))) (⟨b1,b4,n1,n4,p4,c4⟩) ?_;refine GI 0 ?_;iterate 17
   refine GS rfl ?_ ?_ ?_;rotate_left
   ·(intro wx d;(try dsimp only at d);obtain⟨f0,f1,f2,f3,f4,f5⟩:=d;go_simp)<;>(try with_reducible rfl)
   try simp only[PS]
  refine zx 17 rfl (fun K l=>?_);go_simp;refine(KD.out).mono ?_;rintro _ u ⟨rfl,hL⟩;rw[←aG.out]at hL;obtain⟨f,V3,N3,v,C⟩:=NA.out.conn hi hL;have G0:u.cell? ⟨nb,0,none⟩=some (.slice (some ⟨H,0,none⟩) 2 cx):=C.cell (a:=⟨nb,0,none⟩) (fun x=>y.out nb (by rw[E]) x) b1;have G1:u.cell? ⟨H,i,none⟩=some (.pointer (some ⟨Y,0,none⟩)):=C.cell (a:=⟨H,i,none⟩) (fun x=>y.out H (by rw[aA]) x) b4;have G2:u.cell? ⟨nb,3,none⟩=some (.slice (some ⟨gn,0,none⟩) 2 cn):=C.cell (a:=⟨nb,3,none⟩) (fun x=>y.out nb (by rw[E]) x) n1;have G3:u.cell? ⟨gn,i,none⟩=some (.int .u64 (id:Int)):=C.cell (a:=⟨gn,i,none⟩) (fun x=>y.out gn (by rw[ao]) x) n4;have G4:u.cell? ⟨nb,4,none⟩=some (.int .u64 (nw:Int)):=C.cell (a:=⟨nb,4,none⟩) (fun x=>y.out nb (by rw[E]) x) p4;have G5:u.cell? ⟨sb,4,none⟩=some (.string (zq t)):=C.cell (a:=⟨sb,4,none⟩) (fun x=>P.out sb aa x) c4;refine l.out _ _ ⟨G0,G1,G2,G3,G4,G5⟩ ?_;clear l K;try simp only[PS]
  refine GI 18 ?_;refine GS rfl ?_ ?_ ?_;rotate_left
  ·(intro wx d;(try dsimp only at d);obtain⟨f0,f1,f2,f3,f4,f5⟩:=d;go_simp)<;>(try with_reducible rfl)
  try simp only[PS]
  refine zo ?_;have ah:Hid (∀{n':NS} {W':World},zy w f nb u n' W'→zy w tag nb W n' W'):=zb fun hh=>zy.from0 (aF.out.trans ((((Mod.refl NoB W1).drewN nq).drew).drew)) (zy.trans v (C.mono (fun g hg=>.inl (fun x=>by rw[x]at hg;simp at hg))) hh)
  obtain⟨M3,aI⟩:∃x:NV,({ M with V:=V3 }:NV)=x:=⟨_,rfl⟩;obtain⟨S,hS⟩:=nm (n.setC i c');rw[aI,hS]at N3;rw[hS]at af;have I:S.g=n.g:=by rw[←hS];rfl
  have aV:S.next i=id:=by rw[←hS];exact aR.out
  have U:f sb=(0,0):=by
   have hl:sb<W1.heap.size:=zk c4;rw[v sb hl,aa]
  have aJ:f gn=(3,4):=by
   have hl:gn<W1.heap.size:=zk n4;rw[v gn hl,ao]
  have d3:u.cell? ⟨sb,3,none⟩=some (.int .i64 sc):=C.cell (a:=⟨sb,3,none⟩) (fun x=>P.out sb aa x) c3;have F:=zb N3;have HS:=zb hS;clear N3 v C hL NA KD b1 b4 n1 n4 p4 p5 c0 c1 c2 c3 c4 Q B aI hS db;by_cases J:D=3
  ·have e3:(D==3)=true:=by rw[J];rfl
   have hr:=af.out;rw[if_pos J]at hr;subst hr;obtain⟨gg,cg,ga,ca,y1,⟨y2,y3⟩,y4,⟨y5,y6⟩,-⟩:=F.out.o.gramAt hi;have X:(S.g i).length≤T:=by rw[I];exact ab
   have aW:=zb I;obtain⟨GL,G⟩:=nm ((S.g i).length);rw[G]at y4 y5 X;rw[aW.out]at G;have aX:=zb G;have q16:decide ((16:Int)≤(GL:Int))=decide (16≤GL):=decide_eq_decide.2 (by omega);clear I G ab J;go_wp2_with fail;go_ret;exact⟨by rw[aX.out];rfl,ah.out (zy.then0 F.out.left (Mod.refl _ _))⟩
  ·have e3:(D==3)=false:=beq_eq_false_iff_ne.2 J;by_cases ai:D=0;rotate_left
   ·have e0:(D != 0)=true:=bne_iff_ne.2 ai;have hr:=af.out;rw[if_neg J,if_pos ai]at hr;subst hr;go_wp2_with fail;go_ret;exact⟨rfl,ah.out (zy.then0 F.out.left (Mod.refl _ _))⟩
   ·have e0:(D != 0)=false:=by simp[ai]
    have hr:=af.out;rw[if_neg J,if_neg (by simp[ai])]at hr;subst hr;obtain⟨gg,cg,ga,ca,a7,aY,W7,u1,⟨u2,u3⟩,u4,aZ,r7,z7,⟨u7,z8⟩,m7,H7⟩:=(F.out.free ((Mod.refl NoB u).drew) (fun _ x=>x.elim)).gramPushed hi ⟨id,dl,t,false⟩ (by rw[I];omega);have X:(S.g i).length≤T:=by rw[I];exact ab
    obtain⟨GL,G⟩:=nm ((S.g i).length);rw[G]at u4 r7 H7 X;have HA:Hid (∀Wx,Mod (fun q=>f q=(3,9+i)) u Wx→Wx.cell? ⟨nb,2,none⟩=some (.slice (some ⟨gg,0,none⟩) 2 cg)∧Wx.cell? ⟨gg,i,none⟩=some (.slice ga GL ca)∧Wx.cell? ⟨nb,3,none⟩=some (.slice (some ⟨gn,0,none⟩) 2 cn)∧Wx.cell? ⟨gn,i,none⟩=some (.int .u64 (id:Int))∧Wx.cell? ⟨sb,4,none⟩=some (.string (zq t))):=zb fun Wx m =>
     ⟨m.cell (a:=⟨nb,2,none⟩) (fun x=>by have x:f nb=(3,9+i):=x;rw[F.out.o.obj.tag]at x;have x:=congrArg Prod.snd x;simp only at x;omega) u1,
      m.cell (a:=⟨gg,i,none⟩) (fun x=>by have x:f gg=(3,9+i):=x;rw[aZ]at x;simp at x;omega) u4,
      m.cell (a:=⟨nb,3,none⟩) (fun x=>by have x:f nb=(3,9+i):=x;rw[F.out.o.obj.tag]at x;have x:=congrArg Prod.snd x;simp only at x;omega) G2,
      m.cell (a:=⟨gn,i,none⟩) (fun x=>by have x:f gn=(3,9+i):=x;rw[aJ]at x;simp at x;omega) G3,
      m.cell (a:=⟨sb,4,none⟩) (fun x=>by have x:f sb=(3,9+i):=x;rw[U]at x;simp at x) G5⟩
    have M7:=zb m7;have R7:=zb r7;have Z7:=zb z7;have Z8:=zb z8;have aK:=zb H7;unfold zcH at R7;have a0:=zb U;clear m7 r7 z7 z8 H7 G0 G1 aJ U G I ab;go_upto_region 10 with fail;refine zl 27 (fun w'=>w'.cell? ⟨nb,2,none⟩=some (.slice (some ⟨gg,0,none⟩) 2 cg)∧w'.cell? ⟨gg,i,none⟩=some (.slice ga GL ca)∧w'.cell? ⟨nb,3,none⟩=some (.slice (some ⟨gn,0,none⟩) 2 cn)∧w'.cell? ⟨gn,i,none⟩=some (.int .u64 (id:Int))∧w'.cell? ⟨sb,4,none⟩=some (.string (zq t))) (HA.out _ ((Mod.refl _ u).drew)) ?_;refine GI 0 ?_;iterate 23
     refine GS rfl ?_ ?_ ?_;rotate_left
     ·(intro wx d;(try dsimp only at d);obtain⟨f0,f1,f2,f3,f4⟩:=d;go_simp)<;>(try with_reducible rfl)
     try simp only[PS]
    refine zx 23 rfl (fun K l=>?_);go_simp;refine l.out _ _ (HA.out _ (((Mod.refl (fun q=>f q=(3,9+i)) u).drew).alloc _)) ?_;clear l K;try simp only[PS]
    refine zx 24 rfl (fun K l=>?_);go_simp;refine l.out _ _ (HA.out _ ((((Mod.refl (fun q=>f q=(3,9+i)) u).drew).alloc _).alloc _)) ?_;clear l K;try simp only[PS]
    refine zx 25 rfl (fun K l=>?_);refine zF rfl _ _ _ _ rfl _ _ _ rfl rfl R7.out ?_;refine l.out _ _ (HA.out _ (((Mod.refl (fun q=>f q=(3,9+i)) u).drew).trans M7.out)) ?_;clear l K;try simp only[PS]
    refine GI 26 ?_;refine GS rfl ?_ ?_ ?_;rotate_left
    ·(intro wx d;(try dsimp only at d);obtain⟨f0,f1,f2,f3,f4⟩:=d;go_simp)<;>(try with_reducible rfl)
    try simp only[PS]
    refine zQ rfl (fun K l=>?_);have z7:=Z7.out;have z8:=Z8.out;go_simp;refine l.out _ _ ?_;clear l K;try simp only[PS]
    refine zo ?_;obtain⟨Z,av⟩:=nm (W7.setCell ⟨gg,i,none⟩ (.slice a7 (GL+1) aY));obtain⟨aL,M8,N8,al,aw⟩:=aK.out Z (by rw[av];exact Mod.refl _ _);try rw[av]
    obtain⟨A,a1,e8,y1,⟨y2,y3⟩,y4,y5,y6⟩:=N8.o.nxAt hi;have y4:Z.cell? ⟨A,i,none⟩=some (.int .u64 (id:Int)):=by
     have z:Z.cell? ⟨A,i,none⟩=some (.int .u64 (S.next i:Int)):=y4;rw[aV]at z;exact z
    have aM:Z.cell? ⟨sb,3,none⟩=some (.int .i64 sc):=aw.cell (a:=⟨sb,3,none⟩) (fun x=>x a0.out) d3;have N9:=(N8.free ((Mod.refl NoB Z).drew) (fun _ x=>x.elim)).nxS hi (id+1+r) e8;have ax:((id+1+r:Nat):Int)=(id:Int)+1+(r:Int):=by omega
    rw[ax]at N9;have x7:IntKind.u64.wrap (r:Int)=(r:Int):=by rw[IntKind.wrap_u64];omega
    have x8:IntKind.u64.wrap ((id:Int)+1)=(id:Int)+1:=by rw[IntKind.wrap_u64];omega
    have x9:IntKind.u64.wrap ((id:Int)+1+(r:Int))=(id:Int)+1+(r:Int):=by rw[IntKind.wrap_u64];omega
    have m9:Mod (fun q=>q=A) Z (Z.drew.setCell ⟨A,i,none⟩ (.int .u64 ((id:Int)+1+(r:Int)))):=((Mod.refl (fun q=>q=A) Z).drew).setCell (p:=⟨A,i,none⟩) (.inl rfl) _;have au:Hid (∀W',Mod NoB (Z.drew.setCell ⟨A,i,none⟩ (.int .u64 ((id:Int)+1+(r:Int)))) W'→zy w tag nb W { S with g:=upd n.g i (n.g i++[⟨id,dl,t,false⟩]),next:=upd n.next i (id+1+r) } W'):=by
     refine zb fun W' m'=>ah.out (zy.from0 ((Mod.refl NoB u).drew) (zy.trans al aw (zy.then0 ⟨aL,M8,?_,fun _ _=>rfl,m9.mono (fun g hg=>.inl (by rw[show g=A from hg,y6];simp))⟩ m')))
     have e:({ ({ S with g:=upd S.g i (S.g i++[⟨id,dl,t,false⟩]) }:NS)with next:=upd ({ S with g:=upd S.g i (S.g i++[⟨id,dl,t,false⟩]) }:NS).next i (id+1+r) }:NS)={ S with g:=upd n.g i (n.g i++[⟨id,dl,t,false⟩]),next:=upd n.next i (id+1+r) }:=by rw[←HS.out];rfl
     rw[e]at N9;exact N9
    have a2:=zb (aE.out Z.drew);clear N8 al aw N9 m9 av e8 aK R7 M7 Z7 Z8 HA u1 u4 F ah;go_upto_region 11 with fail;refine zl 19 (fun w'=>w'.cell? ⟨nb,3,none⟩=some (.slice (some ⟨A,0,none⟩) 2 a1)∧w'.cell? ⟨A,i,none⟩=some (.int .u64 (id:Int))∧w'.cell? ⟨sb,3,none⟩=some (.int .i64 sc)) (⟨y1,y4,aM⟩) ?_;refine GI 0 ?_;iterate 15
     refine GS rfl ?_ ?_ ?_;rotate_left
     ·(intro wx d;(try dsimp only at d);obtain⟨f0,f1,f2⟩:=d;go_simp)<;>(try with_reducible rfl)
     try simp only[PS]
    refine zx 15 rfl (fun K l=>?_);go_simp;refine(a2.out).mono ?_;rintro _ _ ⟨rfl,rfl⟩;refine l.out _ _ ⟨y1,y4,aM⟩ ?_;clear l K;try simp only[PS]
    refine GI 16 ?_;iterate 3
     refine GS rfl ?_ ?_ ?_;rotate_left
     ·(intro wx d;(try dsimp only at d);obtain⟨f0,f1,f2⟩:=d;go_simp)<;>(try with_reducible rfl)
     try simp only[PS]
    refine zQ rfl (fun K l=>?_);go_simp;refine l.out _ _ ?_;clear l K;try simp only[PS]
    refine zo ?_;go_wp2_with fail;go_ret;exact⟨rfl,au.out _ ⟨rfl,rfl,rfl,Nat.le_refl _,fun _ _ _=>rfl⟩⟩
theorem zfw{w:World}{tag:Nat→Nat×Nat}{nb:Nat}{n:NS}{M:NV}{W:World}(h:Net w tag nb n M W){T:Nat}(hI:n.Inv T)(z:T≤zbm){s:zcw}(hs:s.Ok)(hk:s.kind=4) :
  Calls Tryz.prog 21 #[.pointer (some ⟨nb,0,none⟩),.agg s.cells] W (zct w tag nb W (n.datagram (pickN s.side 2) s)):=by
 obtain⟨W1,b⟩:=nm (W.alloc (.cells s.cells 37));have h1:Net w tag nb n M W1:=by rw[←b];exact h.alloc _
 have m1:Mod NoB W W1:=by rw[←b];exact(Mod.refl _ _).alloc _
 obtain⟨sb,t⟩:=nm W.heap.size;have sA:zcJ W1 sb s:=zcJ.of (by rw[←b,←t];exact heap_alloc_new W _);have j:tag sb=(0,0):=h.env.ok sb (by omega);have hi:pickN s.side 2<2:=zkT _;have u:pickN s.a 8<8:=zao _ _ (by omega);have f:Calls Tryz.prog 24 #[.int .i64 s.side,.int .i64 2] W1 (fun e w'=>e = .returned (.int .i64 (pickN s.side 2:Int))∧W1=w'):=zaW s.side 2 W1 hs.side.1 hs.side.2 (by omega) (by omega);have l:Calls Tryz.prog 24 #[.int .i64 s.a,.int .i64 8] W1 (fun e w'=>e = .returned (.int .i64 (pickN s.a 8:Int))∧W1=w'):=zaW s.a 8 W1 hs.a.1 hs.a.2 (by omega) (by omega);have v:=hs.s;obtain⟨i,p⟩:=nm (pickN s.side 2);obtain⟨k,q⟩:=nm (pickN s.a 8);rw[p]at hi f ⊢;rw[q]at u l;obtain⟨gx,cx,b1,⟨b2,b3⟩,b4⟩:=h1.o.connIs (i:=i) hi;obtain⟨c0,c1,c2,c3,c4⟩:=sA;rw[hk]at c0;obtain⟨ss,c⟩:=nm s.s;rw[c]at c4 v;have g:=zb b;have d:Hid (∀Wx,Mod NoB W1 Wx→Calls Tryz.prog 40 #[.pointer (some ⟨nb,0,none⟩),.int .i64 (i:Int),.agg s.cells] Wx (zct w tag nb Wx (n.datagram i s))):=zb fun Wx m=>zgB (h1.free m (fun _ x=>x.elim)) hI z hi hs
 have y:=zb m1;obtain⟨RR,r⟩:=nm (n.datagram i s);rw[r]at d ⊢;unfold zcw.cells at g d ⊢;rw[hk,c]at g d ⊢;clear c h hI h1 m1 b hs hk p q z r j;have kc:=d.out W1 (Mod.refl _ _);go_enter Tryz.func21,Tryz.ntmps21;go_upto_region 1 with fail;rw[g.out];go_wp2_with (first|(go_at_call 24;refine f.mono ?_;rintro _ _ ⟨rfl,rfl⟩;clear f)|(go_at_call 24;refine l.mono ?_;rintro _ _ ⟨rfl,rfl⟩)|(go_at_call 40;refine kc.mono ?_;rintro _ W5 ⟨rfl,hL⟩));go_ret;exact⟨rfl,zy.from0 y.out hL⟩
end Go.Proofs.YtddfdpbaiedcjaaGreatDoor
