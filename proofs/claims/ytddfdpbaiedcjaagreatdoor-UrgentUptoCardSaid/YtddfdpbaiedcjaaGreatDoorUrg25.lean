/- A part of Urgent's proof. Conditions: none. Part 25 of 32. -/
import Derived.Test.YtddfdpbaiedcjaaGreatDoorUrg24
set_option maxRecDepth 100000
set_option maxHeartbeats 16000000
set_option linter.all false
namespace Go.Proofs.YtddfdpbaiedcjaaGreatDoor
open Go.RowKit
theorem zoZ(w:World):OB (w.alloc (.cells #[] 5)) (.slice (some ⟨w.heap.size,0,none⟩) 0 0) []:=by
 refine⟨rfl,.inr ⟨w.heap.size,0,#[],rfl,Nat.zero_le _,heap_alloc_new w _,Nat.le_refl _,Nat.zero_le _,by simp,by simp[zO]⟩⟩
def zqq(l:List UInt8)(w:World)(e:Ending)(w':World):Prop:=∃v',e = .returned v'∧OB w' v' l∧Mod NoB w w'∧∀g,v'.ownBlock=some g→w.heap.size≤g
theorem zmS(v:Value)(l:List UInt8)(w:World)(h:BR w v l)(hl:l.length≤1099511627776) :
  Calls Tryz.prog 92 #[v] w (zqq l w):=by
 obtain⟨a,cap,rfl,h1,h2,h3⟩:=id h;cases a with
 | none =>
  have d:l=[]:=by
   cases l with
   | nil=>rfl
   | cons x l =>
    obtain⟨g,o,e,_⟩:=h3 0 x rfl;cases e
  subst d;have q1:=_root_.Go.run_eql_slice_nil w 60 _ none 0 cap (P:=Tryz.prog) Tryz.underlying60;clear h h1 h2 h3;go_enter Tryz.func92,Tryz.ntmps92;go_wp2_with fail;go_ret;exact⟨_,rfl,OB.nil _,Mod.refl _ _,fun g hg=>by cases hg⟩
 | some a =>
  obtain⟨W1,b⟩:=nm (w.alloc (.cells #[] 5));have m1:Mod NoB w W1:=by rw[←b];exact(Mod.refl _ _).alloc _
  have f:OB W1 (.slice (some ⟨w.heap.size,0,none⟩) 0 0) []:=by rw[←b];exact zoZ w
  obtain⟨v',w',happ,c⟩:=zlS W1 (.slice (some ⟨w.heap.size,0,none⟩) 0 0) [] a cap l f (BR.mod h m1 (fun _ _ _ _ _ x=>x)) (by simp;omega);have H:Hid (zqq l w (.returned v') w'):=zb ⟨v',rfl,c.own,((m1.mono (fun _ x=>x.elim)).then ((Mod.refl (fun g=>(Value.slice (some ⟨w.heap.size,0,none⟩) 0 0).ownBlock=some g) W1).grown c.grown (fun g hg=>.inl hg)) (fun g hg=>.inr (by
   simp[Value.ownBlock]at hg;omega))),fun g hg=>by
    rcases c.at_ g hg with x|x
    ·simp[Value.ownBlock]at x;omega
    ·have:=m1.size;omega⟩
  have q1:=_root_.Go.run_eql_slice_nil w 60 _ (some a) l.length cap (P:=Tryz.prog) Tryz.underlying60;clear h h1 h2 h3 m1 f c;go_enter Tryz.func92,Tryz.ntmps92;go_wp2_with (at_builtin;refine zm rfl _ _ _ _ rfl _ _ _ rfl rfl happ ?_);go_ret;exact H.out
def zdL(tag:Nat→Nat×Nat)(i b:Nat)(W:World)(l:List (Nat×List UInt8))(c':CS)(e:Ending)(W':World):Prop :=
 ∃v V',e = .returned v∧W'.ownsRow 0 154 2 v l.length (zaa l)∧(∀g,v.ownBlock=some g→tag g=(i,8))∧zg tag i b c' V' W'∧V'.cm = .slice none 0 0∧Mod (fun g=>g=b) W W'
theorem zkS{tag:Nat→Nat×Nat}{i b:Nat}{c:CS}{V:CV}{W:World}(h:zg tag i b c V W) :
  Calls Tryz.prog 67 #[.pointer (some ⟨b,0,none⟩)] W (zdL tag i b W c.datagramsOut.1 c.datagramsOut.2):=by
 have d:W.cell? ⟨b,243,none⟩=some V.cm:=h.tl (j:=10) rfl;have fz:=h.fz 243;obtain⟨a,cap,e,_⟩:=zj h.cm;have m:Mod (fun g=>g=b) W (W.setCell ⟨b,243,none⟩ (.slice none 0 0)):=(Mod.refl (fun g=>g=b) W).setCell (p:=⟨b,243,none⟩) (.inl rfl) _;have H:Hid (zdL tag i b W c.datagramsOut.1 c.datagramsOut.2 (.returned V.cm) (W.setCell ⟨b,243,none⟩ (.slice none 0 0))):=by
  refine zb ⟨V.cm,{ V with cm:=.slice none 0 0 },rfl,m.owns h.cm (fun g hg x=>zg.apart (h.tcm g hg) (x ▸ h.tb) (by decide) rfl),h.tcm,?_,rfl,m⟩;refine h.build (R:=fun r=>r=1) m (fun g hg=>⟨1,rfl,by rw[hg,h.tb]⟩) (fun _ _=>rfl) ?_ (.inl ⟨rfl,rfl,rfl,by omega,by omega⟩) (fun k hk=>.inl ⟨rfl,rfl,by omega⟩) (fun k hk=>.inl ⟨rfl,rfl,by omega⟩) (fun k hk=>.inl ⟨rfl,rfl,by omega⟩) (fun k hk=>.inl ⟨rfl,rfl,by omega⟩) (fun k hk=>.inl ⟨rfl,rfl,by omega⟩) (.inl ⟨rfl,rfl,rfl,by omega,by omega⟩) (.inl ⟨rfl,rfl,by omega⟩) (.inl ⟨rfl,rfl,by omega⟩) (.inr ⟨World.ownsRow_nil _ 0 _ 2,fun g hg=>by simp[Value.ownBlock]at hg⟩);rw[zc h.obj,List.setIfInBounds_toArray];rw[show(243:Nat)=233+10 from rfl,zV c c.datagramsOut.2 V { V with cm:=.slice none 0 0 } _ rfl rfl rfl rfl]
 rw[e]at d H;clear h m e;go_enter Tryz.func67,Tryz.ntmps67;go_wp2_with fail;go_ret;exact H.out
structure zfO(x:RS):Prop where
 len:x.b.length≤1099511627776
 lo:x.read≤(zaD x.came.rs x.read x.high).1
 hi:(zaD x.came.rs x.read x.high).1≤x.b.length
 top:∀k,k<x.came.rs.length→hiAt x.came.rs k<9223372036854775808
 rl:x.came.rs.length≤1099511627776
 keep:x.keep≤zA
 fin:x.fin≤zA
theorem zfO.to{x:RS}(h:zfO x)(most:Nat):x.read≤x.readTo most∧x.readTo most≤x.b.length:=by
 have a:=h.lo;have b:=h.hi;unfold RS.readTo;split<;>omega
def zfP(tag:Nat→Nat×Nat)(i b:Nat)(W:World)(s:List UInt8)(st er:Nat)(c':CS)(e:Ending)(W':World):Prop :=
 ∃bv,e = .returned (.tuple #[bv,.int .i64 (st:Int),zdt er])∧OB W' bv s∧(∀g,bv.ownBlock=some g→W.heap.size≤g)∧∃V',zg tag i b c' V' W'∧Mod (fun g=>g=b) W W'
theorem zg.camR{tag:Nat→Nat×Nat}{i b:Nat}{c:CS}{V:CV}{W:World}(h:zg tag i b c V W){k:Nat}(hk:k<8)(hl:(c.rs k).came.rs.length≤1099511627776):zbz W b (129+13*k+1) (V.rc k) (c.rs k).came.rs (c.rs k).came.fl (c.rs k).came.most :=
 ⟨h.r (j:=1) hk rfl,h.r (j:=2) hk rfl,h.r (j:=3) hk rfl,h.rc k hk,hl,fun j=>h.fz j⟩
theorem zmT{tag:Nat→Nat×Nat}{i b:Nat}{c:CS}{V:CV}{W:World}(h:zg tag i b c V W)(k most:Int)(hm:most≤9223372036854775807)(ok:∀k,k<8→zfO (c.rs k)) :
  Calls Tryz.prog 52 #[.pointer (some ⟨b,0,none⟩),.int .i64 k,.int .i64 most] W (zfP tag i b W (c.read k most).1.1 (c.read k most).1.2.1 (c.read k most).1.2.2 (c.read k most).2):=by
 have ks:=zda h k;unfold CS.read;by_cases hs:c.stream k=0;rotate_left
 ·obtain⟨n,Y⟩:=nm (c.stream k);have H0:Hid (zfP tag i b W [] 0 n c (.returned (.tuple #[.slice none 0 0,.int .i64 0,zdt n])) W):=zb ⟨_,rfl,OB.nil _,fun g hg=>by simp[Value.ownBlock]at hg,V,h,Mod.refl _ _⟩;rw[Y]at ks hs;simp only[Y,hs,ne_eq,not_false_eq_true,if_true];rw[zbZ hs]at ks H0;clear h Y hs ok;go_enter Tryz.func52,Tryz.ntmps52;go_wp2_with (go_at_call 90;refine ks.mono ?_;rintro _ _ ⟨rfl,rfl⟩);go_ret3;exact H0.out
 obtain⟨k0,k8,-⟩:=zcD hs;obtain⟨q,rfl⟩:∃q:Nat,k=(q:Int):=⟨k.toNat,by omega⟩;have z:q<8:=by omega
 rw[hs]at ks;simp only[hs,Int.toNat_natCast,ne_eq,not_true_eq_false,if_false];have HH:=zb h;have d:=ok q z;obtain⟨x,hx⟩:=nm (c.rs q);have HX:=zb hx;have I:W.cell? ⟨b,129+q*13,none⟩=some (V.rb q):=by rw[Nat.mul_comm];exact h.r (j:=0) z rfl
 obtain⟨R,rc,aa,_⟩:=zj (h.rb q z);rw[aa]at I;have r4:W.cell? ⟨b,129+q*13+4,none⟩=some (.int .u64 ((c.rs q).high:Int)):=by rw[Nat.mul_comm];exact h.r (j:=4) z rfl
 have r5:W.cell? ⟨b,129+q*13+5,none⟩=some (.int .u64 ((c.rs q).fin:Int)):=by rw[Nat.mul_comm];exact h.r (j:=5) z rfl
 have r6:W.cell? ⟨b,129+q*13+6,none⟩=some (.bool (c.rs q).ended):=by rw[Nat.mul_comm];exact h.r (j:=6) z rfl
 have r7:W.cell? ⟨b,129+q*13+7,none⟩=some (.bool (c.rs q).cut):=by rw[Nat.mul_comm];exact h.r (j:=7) z rfl
 have r8:W.cell? ⟨b,129+q*13+8,none⟩=some (.int .u64 ((c.rs q).keep:Int)):=by rw[Nat.mul_comm];exact h.r (j:=8) z rfl
 have B:W.cell? ⟨b,129+q*13+9,none⟩=some (.int .u64 ((c.rs q).read:Int)):=by rw[Nat.mul_comm];exact h.r (j:=9) z rfl
 have J:W.cell? ⟨b,129+q*13+10,none⟩=some (.int .i64 ((c.rs q).state:Int)):=by rw[Nat.mul_comm];exact h.r (j:=10) z rfl
 have kg:=ziA (c.rs q).came.rs (c.rs q).came.fl (c.rs q).came.most b (129+13*q+1) (c.rs q).read (c.rs q).high (V.rc q) W.drew ((h.mod0 (Mod.refl NoB W).drew).camR z d.rl) (by have:=d.lo;have:=d.hi;have:=d.len;omega) d.top;rw[Nat.mul_comm 13 q]at kg;have C:=d.to most.toNat;have D:=(h.rb q z).br;rw[aa]at D;rw[hx]at I r4 r5 r6 r7 r8 B J d kg C D ⊢;have d1:(q:Int)<8:=by omega
 have d0:(0:Int)≤q:=by omega
 by_cases F:x.state=0;rotate_left
 ·rw[if_pos F];have d2:((x.state:Int)==0)=false:=beq_eq_false_iff_ne.2 (by omega);have H0:Hid (∀W',Mod NoB W W'→zfP tag i b W [] x.state 0 c (.returned (.tuple #[.slice none 0 0,.int .i64 (x.state:Int),zdt 0])) W'):=zb fun W' m=>⟨_,rfl,OB.nil _,fun g hg=>by simp[Value.ownBlock]at hg,V,h.mod0 m,m.mono (fun _ x=>x.elim)⟩
  clear h hs ok d kg C D F hx I r4 r5 r6 r7 r8 B;go_enter Tryz.func52,Tryz.ntmps52;go_upto_region 6 with(go_at_call 90;refine ks.mono ?_;rintro _ _ ⟨rfl,rfl⟩;unfold zdt;simp only[if_true]);go_quiet (fail);go_wp2_with fail;go_ret3;exact H0.out _ ((Mod.refl NoB W).drewN _)
 rw[if_neg (by simpa using F)];rw[F]at J;have aj:=zb F;obtain⟨E,hE⟩:=nm (x.readTo most.toNat);obtain⟨ST,l⟩:=nm (x.stateAt E);rw[hE]at C;rw[hE,l];obtain⟨s,ab⟩:=nm ((x.b.drop x.read).take (E-x.read));rw[ab];have az:=zb ab;clear ab;have HE:=zb hE;have HST:=zb l;have HR:=zb d;obtain⟨hi,ac⟩:=nm x.high;obtain⟨fn,ad⟩:=nm x.fin;obtain⟨en,ae⟩:=nm x.ended;obtain⟨cu,S⟩:=nm x.cut;obtain⟨kp,T⟩:=nm x.keep;obtain⟨rd,L⟩:=nm x.read;obtain⟨lo,af⟩:=nm ((zaD x.came.rs x.read x.high).1);obtain⟨N,hN⟩:=nm x.b.length;have b1:=d.lo;have b2:=d.hi;have b3:=d.len;have b4:=d.keep;have b5:=d.fin;unfold zA at b4 b5;rw[af]at b1 b2 kg;rw[hN]at b2 b3 C I D;rw[L]at b1 C B;rw[ac]at r4;rw[ad]at r5 b5;rw[ae]at r6;rw[S]at r7;rw[T]at r8 b4;rw[L,ac]at kg;have U:Hid (E=if cu then max rd (min (min lo (rd+most.toNat)) kp)else min lo (rd+most.toNat)):=by
  show _=_;rw[←hE,RS.readTo,S,af,T,L]
 have O:Hid (ST=if cu&&decide (kp≤E)then 2 else if !cu&&en&&E==fn then 1 else 0):=by
  show _=_;rw[←l,RS.stateAt,S,ae,T,ad]
 have aA:=zb L;have HN:=zb hN;have KG:=zb kg;have ak:=zb D;have fz:∀p,W.frozen? ⟨b,p,none⟩=false:=fun p=>h.fz p
 clear h hs ok d kg F hx hE l ac ad ae S T L af hN D aa;have aB:=zb I;have aC:=zb r5;have aD:=zb r6;have aE:=zb r7;have aF:=zb r8;have al:=zb B;have am:=zb J;go_enter Tryz.func52,Tryz.ntmps52;go_upto_region 7 with(go_at_call 90;refine ks.mono ?_;rintro _ _ ⟨rfl,rfl⟩;unfold zdt;simp only[if_true]);refine zl 17 (fun w'=>w'.cell? ⟨b,129+q*13+9,none⟩=some (.int .u64 (rd:Int))∧w'.cell? ⟨b,129+q*13+4,none⟩=some (.int .u64 (hi:Int))) (⟨B,r4⟩) ?_;refine GI 0 ?_;iterate 11
  refine GS rfl ?_ ?_ ?_;rotate_left
  ·(intro P o;(try dsimp only at o);obtain⟨f6,f0⟩:=o;go_simp)<;>(try with_reducible rfl)
  try simp only[PS]
 refine zx 11 rfl (fun K hK=>?_);go_simp;refine KG.out.mono ?_;rintro _ W2 ⟨rfl,u⟩;have u:Mod NoB W W2:=(Mod.refl NoB W).drew.trans u;refine hK.out _ _ ⟨u.cell (a:=⟨b,_,none⟩) (fun x=>x) B,u.cell (a:=⟨b,_,none⟩) (fun x=>x) r4⟩ ?_;clear hK K;try simp only[PS]
 refine GI 12 ?_;iterate 5
  refine GS rfl ?_ ?_ ?_;rotate_left
  ·(intro P o;(try dsimp only at o);obtain⟨f6,f0⟩:=o;go_simp)<;>(try with_reducible rfl)
  try simp only[PS]
 refine zo ?_;have q0:=u.cell (a:=⟨b,_,none⟩) (fun x=>x) I;have q5:=u.cell (a:=⟨b,_,none⟩) (fun x=>x) r5;have q6:=u.cell (a:=⟨b,_,none⟩) (fun x=>x) r6;have q7:=u.cell (a:=⟨b,_,none⟩) (fun x=>x) r7;have q8:=u.cell (a:=⟨b,_,none⟩) (fun x=>x) r8;have q9:=u.cell (a:=⟨b,_,none⟩) (fun x=>x) B;have aG:=u.cell (a:=⟨b,_,none⟩) (fun x=>x) J;have M2:=zb u;clear I r4 r5 r6 r7 r8 B J KG u fz;obtain⟨M,hM⟩:=nm most.toNat;rw[hM]at U;have Q:((M:Int)=most∧0≤most)∨(M=0∧most<0):=by omega
 obtain⟨e0,ah⟩:=nm (min lo (rd+M));have ao:=zb ah;have x1:IntKind.u64.wrap (M:Int)=(M:Int):=by rw[IntKind.wrap_u64];omega
 have x2:IntKind.u64.wrap ((rd:Int)+M)=(rd:Int)+M:=by rw[IntKind.wrap_u64];omega
 have x5:IntKind.u64.wrap 0=0:=by rw[IntKind.wrap_u64];rfl
 have x6:IntKind.u64.wrap (rd:Int)=(rd:Int):=by rw[IntKind.wrap_u64];omega
 have x3:IntKind.u64.wrap most=most∨most<0:=by rw[IntKind.wrap_u64];omega
 have x4:IntKind.u64.wrap ((rd:Int)+most)=(rd:Int)+most∨most<0:=by rw[IntKind.wrap_u64];omega
 rw[ah]at U;clear hM ah;go_upto_region 8 with fail
 go_cut [13] (fun ev P=>ev = .int .u64 (e0:Int)∧P=W2)
 case first=>as_aux_lemma =>
  rcases Q with⟨Q,aO⟩|⟨Q,aP⟩
  ·subst Q;clear x3 x4;go_wp2_with fail;all_goals first|(exfalso;omega)|skip
   all_goals
    go_meet;have h2:=ao.out;exact⟨by congr 1;omega,rfl⟩
  ·subst Q;go_wp2_with fail;all_goals first|(exfalso;omega)|skip
   all_goals
    go_meet;have h2:=ao.out;exact⟨by congr 1;omega,rfl⟩
 case rest =>
 obtain⟨rfl,hw⟩:=hcut;have hw:=hw.symm;subst hw;clear x1 x2 x3 x4 x5 x6;go_upto_if 63 with fail
 go_cut [13] (fun ev P=>ev = .int .u64 (E:Int)∧Hid (Mod NoB W P))
 case first=>as_aux_lemma =>
  cases cu
  ·have h2:E=e0:=U.out;subst h2;go_wp2_with fail;go_meet;exact⟨rfl,M2⟩
  ·go_upto_region 10 with fail;go_quiet (fail);go_wp2_with fail;all_goals
    go_meet;have h2:E=max rd (min e0 kp):=U.out;exact⟨by congr 1;omega,zb (M2.out.drewN _)⟩
 case rest =>
 obtain⟨rfl,M3⟩:=hcut;obtain⟨y,aH⟩:=nn wc;subst aH;have hs:(x.b.drop rd).take (E-rd)=s:=by
  rw[←aA.out];exact az.out
 have ap:s.length=E-rd:=by
  rw[←hs,List.length_take,List.length_drop,HN.out];omega
 have c3:=HH.out.mod0 M3.out;have I:y.cell? ⟨b,129+q*13,none⟩=some (.slice R N rc):=M3.out.cell (a:=⟨b,_,none⟩) (fun x=>x) aB.out;have B:y.cell? ⟨b,129+q*13+9,none⟩=some (.int .u64 (rd:Int)):=M3.out.cell (a:=⟨b,_,none⟩) (fun x=>x) al.out;have A:BR y.drew (.slice R N rc) x.b:=BR.mod ak.out (M3.out.drew) (fun _ _ _ _ _ x=>x);have aq:N≤rc∧rc≤9223372036854775807:=by
  obtain⟨a',c',e,q1,q2,_⟩:=A;cases e;rw[HN.out]at q1;unfold maxLen at q2;exact⟨q1,by omega⟩
 obtain⟨aI,aJ⟩:=aq;have Z:∀v,v = .slice (R.map fun x=>x.add rd) (E-rd) (rc-rd)→BR y.drew v s:=by
  rintro v rfl;rw[←hs];rw[←HN.out]at A;exact A.sub (by rw[HN.out];omega)
 have ar:BR y.drew (.slice (if rc=rd then R else R.map fun x=>x.add rd) (E-rd) (rc-rd)) s:=by
  by_cases e:rc=rd
  ·rw[if_pos e];have:s=[]:=List.eq_nil_of_length_eq_zero (by omega);rw[this,show E-rd=0 by omega,show rc-rd=0 by omega];exact BR.nil _ R 0 (by unfold maxLen;omega)
  ·rw[if_neg e];exact Z _ rfl
 have au:∀v,BR y.drew v s→Calls Tryz.prog 92 #[v] y.drew (zqq s y.drew):=fun v hv=>zmS v s y.drew hv (by omega)
 have av:Hid (∀W4,Mod NoB y.drew W4→∀bv,OB W4 bv s→(∀g,bv.ownBlock=some g→y.heap.size≤g) →
   (ST=0→∀W',Mod NoB (W4.setCell ⟨b,129+q*13+9,none⟩ (.int .u64 (E:Int))) W'→zfP tag i b W s ST 0 { c with rs:=upd c.rs q { x with read:=E,state:=ST } } (.returned (.tuple #[if s=[]then .slice none 0 0 else bv,.int .i64 (ST:Int),.nilIface])) W') ∧
   (∀W5,Mod NoB (W4.setCell ⟨b,129+q*13+9,none⟩ (.int .u64 (E:Int))) W5→∀W',Mod NoB (W5.setCell ⟨b,129+q*13+10,none⟩ (.int .i64 (ST:Int))) W'→zfP tag i b W s ST 0 { c with rs:=upd c.rs q { x with read:=E,state:=ST } } (.returned (.tuple #[if s=[]then .slice none 0 0 else bv,.int .i64 (ST:Int),.nilIface])) W')):=by
  intro W4 m4 bv ho Y;have c0:zg tag i b { c with rs:=upd c.rs q x } V y:=by
   rw[←HX.out,za2];exact c3
  have aw:=aj.out;have c4:=(c0.mod0 (Mod.refl NoB y).drew).mod0 m4;have c5:=c4.storeR2 z 9 (by decide) (.int .u64 (E:Int)) { x with read:=E } rfl rfl rfl;rw[Nat.mul_comm 13 q]at c5;have m5:∀W4 p v,Mod (fun g=>g=b) W4 (W4.setCell ⟨b,p,none⟩ v):=fun W4 p v=>(Mod.refl (fun g=>g=b) W4).setCell (p:=⟨b,p,none⟩) (.inl rfl) v
  have mm:Mod NoB W W4:=(M3.out.drew).trans m4;have aK:∀g,bv.ownBlock=some g→¬(g=b):=fun g hg e=>by
   have h1:=Y g hg;have h2:=zk B;omega
  have hsz:=M3.out.size;have last:∀W',zg tag i b { c with rs:=upd c.rs q { x with read:=E,state:=ST } } V W'→Mod (fun g=>g=b) W4 W'→zfP tag i b W s ST 0 { c with rs:=upd c.rs q { x with read:=E,state:=ST } } (.returned (.tuple #[if s=[]then .slice none 0 0 else bv,.int .i64 (ST:Int),.nilIface])) W':=by
   intro W' hc hm;refine⟨_,rfl,?_,?_,V,hc,(mm.mono (fun _ x=>x.elim)).trans hm⟩
   ·split
    ·rename_i e;rw[e];exact OB.nil _
    ·exact hm.owns ho aK
   ·intro g hg;split at hg
    ·simp[Value.ownBlock]at hg
    ·have:=Y g hg;omega
  refine⟨fun e W' m=>?_,fun W5 ma W' m=>?_⟩
  ·have:({ x with read:=E,state:=ST }:RS)={ x with read:=E }:=by
    rw[e,←aw]
   refine last W' ?_ ((m5 _ _ _).trans (m.mono (fun _ x=>x.elim)));rw[this];exact c5.mod0 m
  ·have c6:=(c5.mod0 ma).storeR2 z 10 (by decide) (.int .i64 (ST:Int)) { x with read:=E,state:=ST } rfl rfl rfl;rw[Nat.mul_comm 13 q]at c6;exact last W' (c6.mod0 m) (((m5 _ _ _).trans (ma.mono (fun _ x=>x.elim))).trans ((m5 _ _ _).trans (m.mono (fun _ x=>x.elim))))
 have ax:=zb ar;have ay:=zb au;have aL:=zb ap;have z9:∀W4,Mod NoB y.drew W4→Hid ((∀p,W4.frozen? ⟨b,p,none⟩=false)∧(∀p v p',(W4.setCell ⟨b,p,none⟩ v).frozen? ⟨b,p',none⟩=false)∧W4.cell? ⟨b,129+q*13+9,none⟩=some (.int .u64 (rd:Int))∧W4.cell? ⟨b,129+q*13+7,none⟩=some (.bool cu)∧W4.cell? ⟨b,129+q*13+8,none⟩=some (.int .u64 (kp:Int))∧W4.cell? ⟨b,129+q*13+6,none⟩=some (.bool en)∧W4.cell? ⟨b,129+q*13+5,none⟩=some (.int .u64 (fn:Int))∧W4.cell? ⟨b,129+q*13+10,none⟩=some (.int .i64 0)):=fun W4 m4=>by
  have mm:Mod NoB y W4:=((Mod.refl NoB y).drew).trans m4;have u:Mod NoB W W4:=M3.out.trans mm;have co:=(HH.out.mod0 u).obj;exact zb ⟨fun p=>zd co,fun p v p'=>zd (zc co),u.cell (a:=⟨b,_,none⟩) (fun x=>x) al.out,u.cell (a:=⟨b,_,none⟩) (fun x=>x) aE.out,u.cell (a:=⟨b,_,none⟩) (fun x=>x) aF.out,u.cell (a:=⟨b,_,none⟩) (fun x=>x) aD.out,u.cell (a:=⟨b,_,none⟩) (fun x=>x) aC.out,u.cell (a:=⟨b,_,none⟩) (fun x=>x) am.out⟩
 have Z9:=zb z9;have dE0:(rd:Int)≤E:=by omega
 have dE1:(E:Int)≤rc:=by omega
 have nE0:rd≤E:=C.1;have nE1:E≤rc:=by omega
 clear c3 hs ap A Z ar au z9 q0 q5 q6 q7 q8 q9 aG;go_upto_region 11 with fail
 go_cut [14] (fun bv P=>∃bw:Option Addr×Nat,bv = .slice bw.1 s.length bw.2∧Hid (Mod NoB y.drew P∧OB P (.slice bw.1 s.length bw.2) s∧∀g,(Value.slice bw.1 s.length bw.2).ownBlock=some g→y.heap.size≤g))
 case first =>
  refine zl 12 (fun w'=>w'.cell? ⟨b,129+q*13,none⟩=some (.slice R N rc)∧w'.cell? ⟨b,129+q*13+9,none⟩=some (.int .u64 (rd:Int))) (⟨I,B⟩) ?_;refine GI 0 ?_;iterate 9
   refine GS rfl ?_ ?_ ?_;rotate_left
   ·(intro P o;(try dsimp only at o);obtain⟨f0,f9⟩:=o;go_simp)<;>(try with_reducible rfl)
   try simp only[PS]
  refine zby (i:=9) (v:=.slice (if rc=rd then R else R.map fun x=>x.add rd) (E-rd) (rc-rd)) rfl (by kernel_rfl) (fun _ _ _ h=>h) (Or.inl ⟨by rfl,?_⟩) ?_
  ·(intro P o;(try dsimp only at o);obtain⟨f0,f9⟩:=o;go_simp)<;>(try with_reducible rfl)
  try simp only[PS]
  refine zx 10 rfl (fun K hK=>?_);go_simp;refine(ay.out _ (ax.out)).mono ?_;rintro e W4 ⟨v',rfl,ho,m4,Y⟩;obtain⟨aM,aN,rfl,_⟩:=zj ho;refine hK.out _ _ ⟨m4.cell (a:=⟨b,_,none⟩) (fun x=>x) I,m4.cell (a:=⟨b,_,none⟩) (fun x=>x) B⟩ ?_;clear hK K;try simp only[PS]
  refine GI 11 ?_;refine GS rfl ?_ ?_ ?_;rotate_left
  ·(intro P o;(try dsimp only at o);obtain⟨f0,f9⟩:=o;go_simp)<;>(try with_reducible rfl)
  try simp only[PS]
  refine zo ?_;go_wp2_with fail;all_goals
   go_meet;exact⟨(aM,aN),rfl,zb ⟨m4,ho,Y⟩⟩
 case rest =>
 obtain⟨⟨ba,bc⟩,rfl,HB⟩:=hcut;obtain⟨z1,z2,y9,y7,y8,y6,y5,y10⟩:=(Z9.out wc HB.out.1).out;have t:=zb (av.out wc HB.out.1 _ HB.out.2.1 HB.out.2.2);obtain⟨H,G⟩:=nm s.length;have aQ:=zb G;have hz:Hid ((if s=[]then Value.slice none 0 0 else .slice ba H bc)=if H=0 then .slice none 0 0 else .slice ba H bc):=by
  show _=_;by_cases h:s=[]
  ·have h2:H=0:=by rw[←G,h];rfl
   rw[if_pos h,if_pos h2]
  ·have h2:H≠0:=fun e=>h (List.eq_nil_of_length_eq_zero (by rw[G,e]))
   rw[if_neg h,if_neg h2]
 rw[G]at t;rw[hz.out]at t;rw[G];clear ax ay aL Z9 av I B HB G hz HR ak;have f:H=0∨H≠0:=by omega
 go_upto_region 13 with fail;cases cu
 ·cases en
  ·have l:ST=0:=O.out;subst l;go_quiet (fail);go_upto_region 15 with fail;go_quiet (fail);have w:=zb (t.out.1 rfl);clear t;rcases f with rfl|f
   ·go_wp2_with fail;go_quiet (fail);go_wp2_with fail;go_ret3;exact w.out _ (by repeat (first|exact Mod.refl _ _|refine Mod.drewN ?_ _))
   ·have dz:((H:Int)==0)=false:=beq_eq_false_iff_ne.2 (by omega);rw[if_neg f]at w;go_wp2_with fail;go_quiet (fail);go_wp2_with fail;go_ret3;exact w.out _ (by repeat (first|exact Mod.refl _ _|refine Mod.drewN ?_ _))
  ·by_cases ai:E=fn
   ·have l:ST=1:=by
     have:=O.out;simp[ai]at this;exact this
    subst l;subst ai;go_quiet (fail);go_upto_region 15 with fail;go_quiet (fail);have w:=zb (t.out.2);clear t;rcases f with rfl|f
    ·go_wp2_with fail;go_quiet (fail);go_wp2_with fail;go_ret3;exact w.out _ ((Mod.refl NoB _).drewN _) _ ((Mod.refl NoB _).drewN _)
    ·have dz:((H:Int)==0)=false:=beq_eq_false_iff_ne.2 (by omega);rw[if_neg f]at w;go_wp2_with fail;go_quiet (fail);go_wp2_with fail;go_ret3;exact w.out _ ((Mod.refl NoB _).drewN _) _ ((Mod.refl NoB _).drewN _)
   ·have l:ST=0:=by
     have:=O.out;simp[ai]at this;exact this
    subst l;have dE:((E:Int)==(fn:Int))=false:=beq_eq_false_iff_ne.2 (by omega);go_quiet (fail);go_upto_region 15 with fail;go_quiet (fail);have w:=zb (t.out.1 rfl);clear t;rcases f with rfl|f
    ·go_wp2_with fail;go_quiet (fail);go_wp2_with fail;go_ret3;exact w.out _ (by repeat (first|exact Mod.refl _ _|refine Mod.drewN ?_ _))
    ·have dz:((H:Int)==0)=false:=beq_eq_false_iff_ne.2 (by omega);rw[if_neg f]at w;go_wp2_with fail;go_quiet (fail);go_wp2_with fail;go_ret3;exact w.out _ (by repeat (first|exact Mod.refl _ _|refine Mod.drewN ?_ _))
 ·by_cases X:kp≤E
  ·have l:ST=2:=by
    have:=O.out;simp[X]at this;exact this
   subst l;have dE:decide (kp≤E)=true:=by simp[X]
   go_quiet (fail);have w:=zb (t.out.2);clear t;rcases f with rfl|f
   ·go_wp2_with fail;go_quiet (fail);go_wp2_with fail;go_ret3;exact w.out _ ((Mod.refl NoB _).drewN _) _ ((Mod.refl NoB _).drewN _)
   ·have dz:((H:Int)==0)=false:=beq_eq_false_iff_ne.2 (by omega);rw[if_neg f]at w;go_wp2_with fail;go_quiet (fail);go_wp2_with fail;go_ret3;exact w.out _ ((Mod.refl NoB _).drewN _) _ ((Mod.refl NoB _).drewN _)
  ·have l:ST=0:=by
    have:=O.out;simp[X]at this;exact this
   subst l;have dE:decide (kp≤E)=false:=by simp[X]
   go_quiet (fail);go_upto_region 15 with fail;go_quiet (fail);have w:=zb (t.out.1 rfl);clear t;rcases f with rfl|f
   ·go_wp2_with fail;go_quiet (fail);go_wp2_with fail;go_ret3;exact w.out _ (by repeat (first|exact Mod.refl _ _|refine Mod.drewN ?_ _))
   ·have dz:((H:Int)==0)=false:=beq_eq_false_iff_ne.2 (by omega);rw[if_neg f]at w;go_wp2_with fail;go_quiet (fail);go_wp2_with fail;go_ret3;exact w.out _ (by repeat (first|exact Mod.refl _ _|refine Mod.drewN ?_ _))
def za8(w:World)(g n:Nat):Prop:=∃cs t,w.heap[g]?=some (.cells cs t (0,0))∧n≤cs.size
theorem za8.cell{w:World}{g n:Nat}(h:za8 w g n){j:Nat}(hj:j<n):(∃v,w.cell? ⟨g,j,none⟩=some v)∧w.frozen? ⟨g,j,none⟩=false:=by
 obtain⟨cs,t,h1,h2⟩:=h;exact⟨⟨cs[j],za h1 (by simp[show j<cs.size by omega])⟩,zd h1⟩
theorem za8.set{w:World}{g n:Nat}(h:za8 w g n)(j:Nat)(v:Value):za8 (w.setCell ⟨g,j,none⟩ v) g n:=by
 obtain⟨cs,t,h1,h2⟩:=h;exact⟨_,t,zc h1,by simpa using h2⟩
theorem za8.mod{S:Nat→Prop}{w w':World}{g n:Nat}(h:za8 w g n)(m:Mod S w w')(hs:¬S g):za8 w' g n:=by
 obtain⟨cs,t,h1,h2⟩:=h;exact⟨cs,t,m.obj hs h1,h2⟩
theorem OB.open_{w:World}{g n cap:Nat}{l:List UInt8}(h:OB w (.slice (some ⟨g,0,none⟩) n cap) l):za8 w g l.length:=by
 rcases h.2 with⟨e,_⟩|⟨g',b,a,e,_,h1,h2,h3,h4,h5⟩
 ·cases e
 ·cases e;exact⟨a,_,h1,by omega⟩
theorem zmU{tag:Nat→Nat×Nat}{i b:Nat}{c:CS}{V:CV}{W:World}(h:zg tag i b c V W)(E:Env i tag W)(k most:Int)(hm:most≤9223372036854775807)(ok:∀k,k<8→zfO (c.rs k))(B:(c.read k most).1.1.length≤1099511627776) :
  Calls Tryz.prog 29 #[.pointer (some ⟨b,0,none⟩),.int .i64 k,.int .i64 most] W (zbd tag i b W (.tuple #[.string (zq (c.read k most).1.1),.int .i64 ((c.read k most).1.2.1:Int),.int .i64 ((c.read k most).1.2.2:Int)]) (c.read k most).2):=by
 have y:=zmT h k most hm ok;obtain⟨R,U⟩:=nm (c.read k most);rw[U]at y B ⊢;obtain⟨⟨s,st,er⟩,c'⟩:=R;simp only at y B ⊢;have d:=zb E;have C:=zb h;have X:=zb y;clear h E ok y U;go_enter Tryz.func29,Tryz.ntmps29;go_wp2_with fail;refine(X.out).mono ?_;rintro _ W2 ⟨bv,rfl,a,l,V',h2,z⟩;clear X;obtain⟨m,sc,rfl,D,F,n⟩:=zj a;unfold maxLen at F;obtain⟨N,G⟩:=nm s.length;have hcv:(convert 60 9 (.slice m N sc)).run Tryz.prog W2 = .ok (.string (zq s)) W2:=by
  have:=zbh (OB.br a);rw[G]at this;exact this
 have Y:Env i tag W2:=d.out.mod z (fun g hg=>.inl (by
  have hg:g=b:=hg;rw[hg,C.out.tb];have:=d.out.pos;simp;omega))
 have Z:zbc tag i b W c' W2:=h2.left d.out.ok (C.out.modb z);have o:zdt er = .nilIface∨∃t u,zdt er = .iface t u:=by
  unfold zdt;split
  ·exact .inl rfl
  ·exact .inr ⟨_,_,rfl⟩
 have q:∀g,m=some ⟨g,0,none⟩→za8 W2 g N:=fun g hg=>by
  subst hg;rw[←G];exact a.open_
 have r:∀g,m=some ⟨g,0,none⟩→W.heap.size≤g:=fun g hg=>by
  subst hg;exact l g rfl
 rw[G]at D n B ⊢;have HL:=zb Z;have H:=zb Y;have I:=zb q;have e:=zb r;have H2:=zb h2;have M2:=zb z;have J:Hid (zdt er=zdt er):=zb rfl;obtain⟨ev,f⟩:=nm (zdt er);have K:=zb f;rw[f]at o ⊢;clear a l h2 z Y Z q r f J;rcases o with rfl|⟨et,eu,rfl⟩;all_goals
  go_wp2_with fail
  go_loopw [26] (fun L wr=>∃j:Nat,j≤N∧L = .int .i64 j∧Hid (∀g,m=some ⟨g,0,none⟩→za8 wr g N)∧Hid (Mod (fun g=>m=some ⟨g,0,none⟩) W2 wr)) (fun L _=>N-(intOf L).toNat)
  case atStart=>exact⟨0,Nat.zero_le _,rfl,I,zb (Mod.refl _ _)⟩
  case round =>
   obtain⟨j,hj,rfl,HQ,A⟩:=hrel;by_cases M:j<N
   ·obtain⟨g,hg⟩:=n (by omega);subst hg;obtain⟨⟨v0,e0⟩,z0⟩:=(HQ.out g rfl).cell M;have O:Hid (∀g',some (⟨g,0,none⟩:Addr)=some ⟨g',0,none⟩→za8 (wr.setCell ⟨g,j,none⟩ (.int .u8 33)) g' N):=zb (fun g' P=>by
     cases P;exact(HQ.out g rfl).set j _)
    have Q:=zb (A.out.setCell (p:=⟨g,j,none⟩) (.inl rfl) (.int .u8 33));go_wp2_with fail;go_roundw
    case rel=>exact⟨j+1,by omega,by go_num,O,Q⟩
    case measure=>simp[intOf];omega
   ·have S:=zbL er wr (H.out.err.mod A.out (fun x=>by
     have h5:=e.out 0 x;have:=d.out.tab.lt;omega))
    rw[K.out]at S;have KT:=zb S;clear S;go_wp2_with fail;refine(KT.out).mono ?_;rintro _ W4 ⟨rfl,T⟩;have v:zg tag i b c' V' W4:=(H2.out.mod A.out (fun g hg=>by
     rw[d.out.ok g (e.out g hg)];have:=d.out.pos;simp;omega) (fun _ _=>rfl)).mod0 T
    have w:Mod (fun g=>g=b) W W4:=(M2.out.then A.out (fun g hg=>.inr (e.out g hg))).trans (T.mono (fun _ x=>x.elim));have H4:=zb (v.left d.out.ok (C.out.modb w));clear T v w;go_wp2_with fail;go_ret3;exact⟨rfl,H4.out⟩
theorem zmY:(Tryz.prog.info? 9).map (fun i=>(i.zero,i.size,i.bytes))=some (some (.string ⟨#[]⟩),1,16):=by kernel_rfl
def zhJ(l:List (List UInt8)):List Value:=l.map fun s=>.string (zq s)
theorem zo2(w:World)(v:Value)(l:List (List UInt8))(s:List UInt8)(h:w.ownsRow 0 9 1 v l.length (zhJ l))(hl:l.length≤1099511627776) :
  ∃v' w',(∀ty,(Builtin.append_ #[53,53] ty #[v,.slice (some ⟨w.heap.size,0,none⟩) 1 1]).run Tryz.prog (w.alloc (.cells #[.string (zq s)] 9)) = .ok v' w')∧w'.ownsRow 0 9 1 v' (l.length+1) (zhJ (l++[s]))∧(w.alloc (.cells #[.string (zq s)] 9)).grownBy w' v.ownBlock∧zaG w v v':=by
 obtain⟨o,d⟩:=nm ((Obj.cells #[.string (zq s)] 9 (0,0)));obtain⟨i,a,hz,b,c⟩:=info_parts zmY;have hc:∀(j:Nat) u,(zhJ [s])[j]?=some u→(w.alloc o).cell? ((⟨w.heap.size,0,none⟩:Addr).add j)=some u:=fun j u hj=>by
  rw[addr_add,←d];refine za (heap_alloc_new w _) ?_;rw[Nat.zero_add,←Array.getElem?_toList];exact hj
 obtain⟨v',w',k1,k2,k3,k4⟩:=zH (P:=Tryz.prog) (w.alloc o) 53 9 i _ 1 16 Tryz.underlying53 a hz b c rfl (by decide) v l.length (zhJ l) (((Mod.refl NoB w).alloc o).owns h (fun _ _ x=>x))
  ⟨w.heap.size,0,none⟩ 1 1 (zhJ [s]) rfl hc (by
   intro u f;simp[zhJ]at f;subst f;rfl) (by unfold maxLen;omega) (by omega)
 have e:zhJ (l++[s])=zhJ l++zhJ [s]:=by simp[zhJ]
 rw[d,e];refine⟨v',w',k1,k2,k3,fun g hg=>?_⟩;rcases k4 g hg with x|x
 ·exact .inl x
 ·refine .inr ?_;simp at x;omega
def PPost(tag:Nat→Nat×Nat)(i b:Nat)(W:World)(a:List (List UInt8))(c':CS)(e:Ending)(W':World):Prop :=
 ∃v tag' V',e = .returned v∧zg tag' i b c' V' W'∧Ext i tag tag' W W'∧Mod (zaf i tag) W W'∧zia i tag'∧W'.ownsRow 0 9 1 v a.length (zhJ a)∧∀g,v.ownBlock=some g→W.heap.size≤g∧tag' g=(0,0)
def zja(vs:List Value)(k:Nat)(g:Nat):Prop:=∃j u,j<k∧vs[j]?=some u∧u.ownBlock=some g
theorem zhK{tag:Nat→Nat×Nat}{i b:Nat}{c:CS}{V:CV}{W:World}(h:zg tag i b c V W)(E:Env i tag W)(nd:zia i tag)(h0:c.closed=0)(ok:zmj c.acks.2 c.acks.1)(hg:c.got.Ok)(I:c.packets.1.length≤1099511627776)(s:∀l∈c.packets.1,l.length≤1099511627776) :
  Calls Tryz.prog 27 #[.pointer (some ⟨b,0,none⟩)] W (PPost tag i b W c.packets.1 c.packets.2):=by
 have k1:=zi9 h E nd h0 ok hg;obtain⟨R,hR⟩:=nm c.packets;rw[hR]at k1 I s ⊢;obtain⟨d,c'⟩:=R;simp only at k1 I s ⊢;have HE:=zb E;have HC:=zb h;have K1:=zb k1;have ak:=zb s;clear h E ok k1 hR nd hg s h0;go_enter Tryz.func27,Tryz.ntmps27;go_wp2_with fail;refine(K1.out).mono ?_;rintro _ W2 ⟨v,o,tag',V',rfl,h2,e2,m2,t,T⟩;clear K1;obtain⟨N,hN⟩:=nm d.length;have J:o.length=N:=by rw[t.len,hN]
 obtain⟨oa,oc,rfl,al,am,U⟩:=zj t.own;rw[J]at al U ⊢;rw[hN]at I;unfold maxLen at am;have H2:=zb h2;have E2:=zb e2;have M2:=zb m2;have ao:=zb T;have Q:=zb t;have X:=zb J;have B:=zb hN;have ap:Hid (W.heap.size≤W2.heap.size):=zb m2.size;clear h2 e2 m2 T t J hN;go_wp2_with fail
 go_loopw [3,10] (fun sv K wr=>∃k:Nat,k≤N∧K = .int .i64 (k:Int)∧Hid (wr.ownsRow 0 9 1 sv (d.take k).length (zhJ (d.take k))∧(∀g,sv.ownBlock=some g→W2.heap.size≤g)∧Mod (zja o k) W2 wr)) (fun _ K _=>N-(intOf K).toNat)
 case atStart=>exact⟨0,Nat.zero_le _,rfl,zb ⟨World.ownsRow_nil _ 0 _ 1,fun g hg=>by simp[Value.ownBlock]at hg,Mod.refl _ _⟩⟩
 case round =>
  obtain⟨k,hk,rfl,C⟩:=hrel;obtain⟨sa,sc,aq,ar,au,_⟩:=zj C.out.1;subst aq;have m:(d.take k).length=k:=by rw[List.length_take,B.out];omega
  by_cases w:k<N
  ·obtain⟨u,Y⟩:∃u,o[k]?=some u:=⟨o[k]'(by rw[X.out];exact w),List.getElem?_eq_getElem (by rw[X.out];exact w)⟩;obtain⟨l,hl⟩:∃l,d[k]?=some l:=⟨d[k]'(by rw[B.out];exact w),List.getElem?_eq_getElem (by rw[B.out];exact w)⟩;obtain⟨y,av⟩:=Q.out.each k u l Y hl;have Z:=ak.out l (List.mem_of_getElem? hl);have D:∀g,u.ownBlock=some g→¬zja o k g:=fun g hg ⟨j,x,hj,hx,hxg⟩=>Q.out.apart j k x u hj hx Y g hxg hg
   have e:OB wr u l:=C.out.2.2.owns y D;obtain⟨g0,rfl⟩:=U (by omega);have aw:wr.cell? ⟨g0,k,none⟩=some u:=by
    have aa:¬zja o k g0:=fun⟨j,x,hj,hx,hxg⟩=>by
     obtain⟨lj,M⟩:∃l,d[j]?=some l:=⟨d[j]'(by rw[B.out];omega),List.getElem?_eq_getElem (by rw[B.out];omega)⟩;exact zhf Q.out.own (Q.out.each j x lj hx M).1 (by decide) (g:=g0) rfl hxg
    have h5:=Q.out.own.cells (g:=g0) rfl k u Y;rw[addr_add]at h5;have h6:=C.out.2.2.cell (a:=⟨g0,0+k,none⟩) aa h5;rw[Nat.zero_add]at h6;exact h6
   obtain⟨O,uc,ax,ay,az,P⟩:=zj e;subst ax;unfold maxLen at az;obtain⟨L,hL⟩:=nm l.length;have hcv:(convert 60 9 (.slice O L uc)).run Tryz.prog wr = .ok (.string (zq l)) wr:=by
    have:=zbh (OB.br e);rw[hL]at this;exact this
   rw[hL]at ay P aw Z;obtain⟨v',S,happ,z,A,ab⟩:=zo2 wr (.slice sa (d.take k).length sc) (d.take k) l C.out.1 (by omega);obtain⟨va,vc,rfl,_⟩:=zj z;have m3:Mod (fun g=>(Value.slice sa (d.take k).length sc).ownBlock=some g) wr S:=(((Mod.refl NoB wr).alloc _).mono (fun _ x=>x.elim)).trans ((Mod.refl _ _).grown A (fun g hg=>.inl hg));have f:=C.out.2.1;have ac:∀g,O=some ⟨g,0,none⟩→g<W2.heap.size:=fun g hg=>by subst hg;exact zE y g rfl
   have F:OB S (.slice O l.length uc) l:=m3.owns e (fun g hg x=>by
    have h5:=f g x;have h6:=zE y g hg;omega)
   have G:∀g,O=some ⟨g,0,none⟩→za8 S g L:=fun g hg=>by
    subst hg;rw[←hL];exact F.open_
   have ad:=C.out.2.2.size;have n:∀g,(Value.slice va ((d.take k).length+1) vc).ownBlock=some g→W2.heap.size≤g:=fun g hg=>by
    rcases ab g hg with x|x
    ·exact f g x
    ·omega
   have ae:d.take (k+1)=d.take k++[l]:=by rw[List.take_add_one,hl];rfl
   have af:Mod (zja o k) W2 S:=C.out.2.2.then m3 (fun g hg=>.inr (f g hg));have ah:Hid (S.ownsRow 0 9 1 (.slice va (k+1) vc) (d.take (k+1)).length (zhJ (d.take (k+1)))):=zb (by
    rw[ae,List.length_append,List.length_singleton];rw[m]at z ⊢;exact z)
   rw[m]at happ n;have ai:=zb n;have aA:=zb ac;have aB:=zb P;have aC:=zb G;have aD:=zb af;have aE:Hid (∀g,O=some ⟨g,0,none⟩→zja o (k+1) g):=zb (fun g hg=>⟨k,_,by omega,Y,by rw[hg];rfl⟩);have HTL:=zb m;rw[m];clear y av D e Y hl P z A ab m3 f ac F G ad n ae af m Z ar au;go_wp2_with (at_builtin;refine zm rfl _ _ _ _ rfl _ _ _ rfl rfl happ ?_)
   go_loopw [21] (fun K wr=>∃j:Nat,j≤L∧K = .int .i64 j∧Hid (∀g,O=some ⟨g,0,none⟩→za8 wr g L)∧Hid (Mod (fun g=>O=some ⟨g,0,none⟩) S wr)) (fun K _=>L-(intOf K).toNat)
   case atStart=>exact⟨0,Nat.zero_le _,rfl,aC,zb (Mod.refl _ _)⟩
   case round =>
    obtain⟨j,hj,rfl,HP,HM⟩:=hrel;by_cases aj:j<L
    ·obtain⟨g,hg⟩:=aB.out (by omega);subst hg;obtain⟨⟨v0,e0⟩,z0⟩:=(HP.out g rfl).cell aj;have aF:Hid (∀g',some (⟨g,0,none⟩:Addr)=some ⟨g',0,none⟩→za8 (wr.setCell ⟨g,j,none⟩ (.int .u8 33)) g' L):=zb (fun g' A=>by
      cases A;exact(HP.out g rfl).set j _)
     have aG:=zb (HM.out.setCell (p:=⟨g,j,none⟩) (.inl rfl) (.int .u8 33));go_wp2_with fail;go_roundw
     case rel=>exact⟨j+1,by omega,by go_num,aF,aG⟩
     case measure=>simp[intOf];omega
    ·have HF:Hid (wr.ownsRow 0 9 1 (.slice va (k+1) vc) (d.take (k+1)).length (zhJ (d.take (k+1)))∧(∀g,(Value.slice va (k+1) vc).ownBlock=some g→W2.heap.size≤g)∧Mod (zja o (k+1)) W2 wr):=zb
      ⟨HM.out.owns ah.out (fun g hg x=>by
       have h5:=ai.out g hg;have h6:=aA.out g x;omega),ai.out,(aD.out.mono (fun g ⟨q,x,hq,r⟩=>.inl ⟨q,x,by omega,r⟩)).then HM.out (fun g hg=>.inl (aE.out g hg))⟩
     go_wp2_with fail;go_roundw
     case rel=>exact⟨k+1,by omega,by go_num,HF⟩
     case measure=>simp[intOf];omega
  ·have aH:k=N:=by omega
   have ht:d.take k=d:=List.take_of_length_le (by rw[B.out];omega);have H:=C.out;rw[ht]at H;have hz:∀g,zja o k g→(tag' g)=(0,0)∧W.heap.size≤g:=fun g ⟨j,x,hj,hx,hxg⟩=>by
    obtain⟨lj,M⟩:∃l,d[j]?=some l:=⟨d[j]'(by rw[B.out];omega),List.getElem?_eq_getElem (by rw[B.out];omega)⟩;obtain⟨a,b⟩:=(Q.out.each j x lj hx M).2 g hxg;exact⟨b,a⟩
   have HF:Hid (PPost tag i b W d c' (.returned (.slice sa d.length sc)) wr):=zb
    ⟨_,tag',V',rfl,H2.out.mod H.2.2 (fun g hg=>by rw[(hz g hg).1];have:=HE.out.pos;simp;omega) (fun _ _=>rfl),⟨E2.out.old,E2.out.new,E2.out.out.mod H.2.2⟩,M2.out.then H.2.2 (fun g hg=>.inr (hz g hg).2),ao.out,H.1,fun g hg=>⟨Nat.le_trans ap.out (H.2.1 g hg),E2.out.out g (H.2.1 g hg)⟩⟩
   rw[ht];clear aH;go_wp2_with fail;go_ret;exact HF.out
end Go.Proofs.YtddfdpbaiedcjaaGreatDoor
