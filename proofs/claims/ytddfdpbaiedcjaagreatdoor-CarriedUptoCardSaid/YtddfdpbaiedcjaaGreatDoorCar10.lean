/- A part of Carried's proof. Conditions: none. Part 10 of 13. -/
import Derived.Test.YtddfdpbaiedcjaaGreatDoorCar7
import Derived.Lib.LaidTab
import Derived.Deep.DeepHandedRow
import Derived.ProofKit
import Derived.OpenShut
set_option maxRecDepth 100000
set_option maxHeartbeats 16000000
set_option linter.all false
namespace Go.Proofs.YtddfdpbaiedcjaaGreatDoor
open Go.RowKit Go.Proofs.Tryz
variable{cap e g n o:Nat}{v:Value}{w:World}{xs:List Value}
theorem zez.cells{size:Nat}(h:zez w e size v n xs)(c:v = .slice (some ⟨g,o,none⟩) n cap):∀j u,xs[j]?=some u→w.cell? ⟨g,o+j,none⟩=some u:=by
 intro j u a;rcases h.2 with⟨rfl,rfl⟩|⟨g',o',d,cur,rfl,hg,_,_,hs,ht⟩
 ·cases c
 ·cases c;have b:j<n*size:=by
   have:=(List.getElem?_eq_some_iff.1 a).1;rw[h.1]at this;exact this
  rw[←ht,List.getElem?_take,if_pos b,List.getElem?_drop]at a;unfold World.cell?;simp only[hg];simpa using a
theorem zaa(l:List Frm):(zp l).length=l.length*10:=by
 induction l with
 | nil=>rfl
 | cons f l ih =>
  have:zp (f::l)=(zj f (.slice none 0 0)).toList++zp l:=by simp[zp]
  rw[this,List.length_append,ih,List.length_cons];have e:(zj f (.slice none 0 0)).toList.length=10:=rfl;omega
variable{W W1 W2:World}{b i:Nat}{c:CS}{tag:Nat→Nat×Nat}
theorem zbo.after(ht:zR tag W)(m:Mod (fun g=>(tag g).1=i) W W1)(h:zbo tag i b W1 c W2):zbo tag i b W c W2:=by
 obtain⟨tag',V',h1,h2,h3⟩:=h;exact⟨tag',V',h1,(Ext.same ht m).trans h2 m.size,m.trans h3⟩
theorem zpG(w:World):OB (w.alloc (.cells #[] 5)) (.slice (some ⟨w.heap.size,0,none⟩) 0 0) []:=by
 refine⟨rfl,.inr ⟨w.heap.size,0,#[],rfl,Nat.zero_le _,heap_alloc_new w _,Nat.le_refl _,Nat.zero_le _,by simp,by simp[zP]⟩⟩
def zrm(l:List UInt8)(w:World)(e:Ending)(w':World):Prop:=∃v',e = .returned v'∧OB w' v' l∧Mod NoB w w'∧∀g,v'.ownBlock=some g→w.heap.size≤g
theorem zns(v:Value)(l:List UInt8)(w:World)(h:BR w v l)(hl:l.length≤1099511627776):Calls prog 92 #[v] w (zrm l w):=by
 obtain⟨a,cap,rfl,h1,h2,h3⟩:=id h;cases a with
 | none =>
  have d:l=[]:=by
   cases l with
   | nil=>rfl
   | cons x l =>
    obtain⟨g,o,e,_⟩:=h3 0 x rfl;cases e
  subst d;have q1:=_root_.Go.run_eql_slice_nil w 60 _ none 0 cap (P:=prog) underlying60;clear h h1 h2 h3;go_enter func92,ntmps92;go_wp2_with fail;go_ret;exact⟨_,rfl,OB.nil _,Mod.refl _ _,fun g hg=>by cases hg⟩
 | some a =>
  obtain⟨W1,b⟩:=nm (w.alloc (.cells #[] 5));have m1:Mod NoB w W1:=by rw[←b];exact(Mod.refl _ _).alloc _
  have f:OB W1 (.slice (some ⟨w.heap.size,0,none⟩) 0 0) []:=by rw[←b];exact zpG w
  obtain⟨v',w',happ,c⟩:=zmt W1 (.slice (some ⟨w.heap.size,0,none⟩) 0 0) [] a cap l f (BR.mod h m1 (fun _ _ _ _ _ x=>x)) (by simp;omega);have H:Hid (zrm l w (.returned v') w'):=zb ⟨v',rfl,c.own,((m1.mono (fun _ x=>x.elim)).then ((Mod.refl (fun g=>(Value.slice (some ⟨w.heap.size,0,none⟩) 0 0).ownBlock=some g) W1).grown c.grown (fun g hg=>.inl hg)) (fun g hg=>.inr (by
   simp[Value.ownBlock]at hg;omega))),fun g hg=>by
    rcases c.at_ g hg with x|x
    ·simp[Value.ownBlock]at x;omega
    ·have:=m1.size;omega⟩
  have q1:=_root_.Go.run_eql_slice_nil w 60 _ (some a) l.length cap (P:=prog) underlying60;clear h h1 h2 h3 m1 f c;go_enter func92,ntmps92;go_wp2_with (at_builtin;refine zl rfl _ _ _ _ rfl _ _ _ rfl rfl happ ?_);go_ret;exact H.out
def zdP(tag:Nat→Nat×Nat)(i b:Nat)(W:World)(l:List (Nat×List UInt8))(c':CS)(e:Ending)(W':World):Prop :=
 ∃v V',e = .returned v∧W'.ownsRow 0 154 2 v l.length (zac l)∧(∀g,v.ownBlock=some g→tag g=(i,8))∧zg tag i b c' V' W'∧V'.cm = .slice none 0 0∧Mod (fun g=>g=b) W W'
variable{V:CV}
theorem zlr(h:zg tag i b c V W):Calls prog 67 #[.pointer (some ⟨b,0,none⟩)] W (zdP tag i b W c.datagramsOut.1 c.datagramsOut.2):=by
 have d:W.cell? ⟨b,243,none⟩=some V.cm:=h.tl (j:=10) rfl;have fz:=h.fz 243;obtain⟨a,cap,e,_⟩:=zi h.cm;have m:Mod (fun g=>g=b) W (W.setCell ⟨b,243,none⟩ (.slice none 0 0)):=(Mod.refl (fun g=>g=b) W).setCell (p:=⟨b,243,none⟩) (.inl rfl) _;have H:Hid (zdP tag i b W c.datagramsOut.1 c.datagramsOut.2 (.returned V.cm) (W.setCell ⟨b,243,none⟩ (.slice none 0 0))):=by
  refine zb ⟨V.cm,{ V with cm:=.slice none 0 0 },rfl,m.owns h.cm (fun g hg x=>zg.apart (h.tcm g hg) (x ▸ h.tb) (by decide) rfl),h.tcm,?_,rfl,m⟩;refine h.build (R:=fun r=>r=1) m (fun g hg=>⟨1,rfl,by rw[hg,h.tb]⟩) (fun _ _=>rfl) ?_ (.inl ⟨rfl,rfl,rfl,by omega,by omega⟩) (fun k hk=>.inl ⟨rfl,rfl,by omega⟩) (fun k hk=>.inl ⟨rfl,rfl,by omega⟩) (fun k hk=>.inl ⟨rfl,rfl,by omega⟩) (fun k hk=>.inl ⟨rfl,rfl,by omega⟩) (fun k hk=>.inl ⟨rfl,rfl,by omega⟩) (.inl ⟨rfl,rfl,rfl,by omega,by omega⟩) (.inl ⟨rfl,rfl,by omega⟩) (.inl ⟨rfl,rfl,by omega⟩) (.inr ⟨World.ownsRow_nil _ 0 _ 2,fun g hg=>by simp[Value.ownBlock]at hg⟩);rw[zc h.obj,List.setIfInBounds_toArray];rw[show(243:Nat)=233+10 from rfl,zaj c c.datagramsOut.2 V { V with cm:=.slice none 0 0 } _ rfl rfl rfl rfl]
 rw[e]at d H;clear h m e;go_enter func67,ntmps67;go_wp2_with fail;go_ret;exact H.out
structure zf7(x:RS):Prop where
 len:x.b.length≤1099511627776
 lo:x.read≤(za1 x.came.rs x.read x.high).1
 hi:(za1 x.came.rs x.read x.high).1≤x.b.length
 top:∀k,k<x.came.rs.length→hiAt x.came.rs k<9223372036854775808
 rl:x.came.rs.length≤1099511627776
 keep:x.keep≤zD
 fin:x.fin≤zD
theorem zf7.to{x:RS}(h:zf7 x)(most:Nat):x.read≤x.readTo most∧x.readTo most≤x.b.length:=by
 have a:=h.lo;have b:=h.hi;unfold RS.readTo;split<;>omega
def zf8(tag:Nat→Nat×Nat)(i b:Nat)(W:World)(s:List UInt8)(st er:Nat)(c':CS)(e:Ending)(W':World):Prop :=
 ∃bv,e = .returned (.tuple #[bv,.int .i64 (st:Int),zdV er])∧OB W' bv s∧(∀g,bv.ownBlock=some g→W.heap.size≤g)∧∃V',zg tag i b c' V' W'∧Mod (fun g=>g=b) W W'
variable{k:Nat}
theorem zg.camR(h:zg tag i b c V W)(hk:k<8)(hl:(c.rs k).came.rs.length≤1099511627776):zbA W b (129+13*k+1) (V.rc k) (c.rs k).came.rs (c.rs k).came.fl (c.rs k).came.most :=
 ⟨h.r (j:=1) hk rfl,h.r (j:=2) hk rfl,h.r (j:=3) hk rfl,h.rc k hk,hl,fun j=>h.fz j⟩
theorem znt(h:zg tag i b c V W)(k most:Int)(hm:most≤9223372036854775807)(ok:∀k,k<8→zf7 (c.rs k)):Calls prog 52 #[.pointer (some ⟨b,0,none⟩),.int .i64 k,.int .i64 most] W (zf8 tag i b W (c.read k most).1.1 (c.read k most).1.2.1 (c.read k most).1.2.2 (c.read k most).2):=by
 have ks:=zdi h k;unfold CS.read;by_cases B:c.stream k=0;rotate_left
 ·obtain⟨n,Z⟩:=nm (c.stream k);have H0:Hid (zf8 tag i b W [] 0 n c (.returned (.tuple #[.slice none 0 0,.int .i64 0,zdV n])) W):=zb ⟨_,rfl,OB.nil _,fun g hg=>by simp[Value.ownBlock]at hg,V,h,Mod.refl _ _⟩;rw[Z]at ks B;simp only[Z,B,ne_eq,not_false_eq_true,if_true];rw[zbZ B]at ks H0;clear h Z B ok;go_enter func52,ntmps52;go_wp2_with (go_at_call 90;refine ks.mono ?_;rintro _ _ ⟨rfl,rfl⟩);go_ret3;exact H0.out
 obtain⟨k0,k8,-⟩:=zcN B;obtain⟨q,rfl⟩:∃q:Nat,k=(q:Int):=⟨k.toNat,by omega⟩;have z:q<8:=by omega
 rw[B]at ks;simp only[B,Int.toNat_natCast,ne_eq,not_true_eq_false,if_false];have HH:=zb h;have d:=ok q z;obtain⟨x,hx⟩:=nm (c.rs q);have HX:=zb hx;have J:W.cell? ⟨b,129+q*13,none⟩=some (V.rb q):=by rw[Nat.mul_comm];exact h.r (j:=0) z rfl
 obtain⟨S,rc,ac,_⟩:=zi (h.rb q z);rw[ac]at J;have r4:W.cell? ⟨b,129+q*13+4,none⟩=some (.int .u64 ((c.rs q).high:Int)):=by rw[Nat.mul_comm];exact h.r (j:=4) z rfl
 have r5:W.cell? ⟨b,129+q*13+5,none⟩=some (.int .u64 ((c.rs q).fin:Int)):=by rw[Nat.mul_comm];exact h.r (j:=5) z rfl
 have r6:W.cell? ⟨b,129+q*13+6,none⟩=some (.bool (c.rs q).ended):=by rw[Nat.mul_comm];exact h.r (j:=6) z rfl
 have r7:W.cell? ⟨b,129+q*13+7,none⟩=some (.bool (c.rs q).cut):=by rw[Nat.mul_comm];exact h.r (j:=7) z rfl
 have r8:W.cell? ⟨b,129+q*13+8,none⟩=some (.int .u64 ((c.rs q).keep:Int)):=by rw[Nat.mul_comm];exact h.r (j:=8) z rfl
 have C:W.cell? ⟨b,129+q*13+9,none⟩=some (.int .u64 ((c.rs q).read:Int)):=by rw[Nat.mul_comm];exact h.r (j:=9) z rfl
 have L:W.cell? ⟨b,129+q*13+10,none⟩=some (.int .i64 ((c.rs q).state:Int)):=by rw[Nat.mul_comm];exact h.r (j:=10) z rfl
 have kg:=ziT (c.rs q).came.rs (c.rs q).came.fl (c.rs q).came.most b (129+13*q+1) (c.rs q).read (c.rs q).high (V.rc q) W.drew ((h.mod0 (Mod.refl NoB W).drew).camR z d.rl) (by have:=d.lo;have:=d.hi;have:=d.len;omega) d.top;rw[Nat.mul_comm 13 q]at kg;have D:=d.to most.toNat;have F:=(h.rb q z).br;rw[ac]at F;rw[hx]at J r4 r5 r6 r7 r8 C L d kg D F ⊢;have d1:(q:Int)<8:=by omega
 have d0:(0:Int)≤q:=by omega
 by_cases G:x.state=0;rotate_left
 ·rw[if_pos G];have d2:((x.state:Int)==0)=false:=beq_eq_false_iff_ne.2 (by omega);have H0:Hid (∀W',Mod NoB W W'→zf8 tag i b W [] x.state 0 c (.returned (.tuple #[.slice none 0 0,.int .i64 (x.state:Int),zdV 0])) W'):=zb fun W' m=>⟨_,rfl,OB.nil _,fun g hg=>by simp[Value.ownBlock]at hg,V,h.mod0 m,m.mono (fun _ x=>x.elim)⟩
  clear h B ok d kg D F G hx J r4 r5 r6 r7 r8 C;go_enter func52,ntmps52;go_upto_region 6 with(go_at_call 90;refine ks.mono ?_;rintro _ _ ⟨rfl,rfl⟩;unfold zdV;simp only[if_true]);go_quiet (fail);go_wp2_with fail;go_ret3;exact H0.out _ ((Mod.refl NoB W).drewN _)
 rw[if_neg (by simpa using G)];rw[G]at L;have al:=zb G;obtain⟨E,hE⟩:=nm (x.readTo most.toNat);obtain⟨ST,l⟩:=nm (x.stateAt E);rw[hE]at D;rw[hE,l];obtain⟨s,ad⟩:=nm ((x.b.drop x.read).take (E-x.read));rw[ad];have aA:=zb ad;clear ad;have HE:=zb hE;have HST:=zb l;have HR:=zb d;obtain⟨hi,ae⟩:=nm x.high;obtain⟨fn,af⟩:=nm x.fin;obtain⟨en,ah⟩:=nm x.ended;obtain⟨cu,T⟩:=nm x.cut;obtain⟨kp,U⟩:=nm x.keep;obtain⟨rd,O⟩:=nm x.read;obtain⟨lo,ai⟩:=nm ((za1 x.came.rs x.read x.high).1);obtain⟨N,hN⟩:=nm x.b.length;have b1:=d.lo;have b2:=d.hi;have b3:=d.len;have b4:=d.keep;have b5:=d.fin;unfold zD at b4 b5;rw[ai]at b1 b2 kg;rw[hN]at b2 b3 D J F;rw[O]at b1 D C;rw[ae]at r4;rw[af]at r5 b5;rw[ah]at r6;rw[T]at r7;rw[U]at r8 b4;rw[O,ae]at kg;have X:Hid (E=if cu then max rd (min (min lo (rd+most.toNat)) kp)else min lo (rd+most.toNat)):=by
  show _=_;rw[←hE,RS.readTo,T,ai,U,O]
 have P:Hid (ST=if cu&&decide (kp≤E)then 2 else if !cu&&en&&E==fn then 1 else 0):=by
  show _=_;rw[←l,RS.stateAt,T,ah,U,af]
 have aB:=zb O;have HN:=zb hN;have KG:=zb kg;have am:=zb F;have fz:∀p,W.frozen? ⟨b,p,none⟩=false:=fun p=>h.fz p
 clear h B ok d kg G hx hE l ae af ah T U O ai hN F ac;have aC:=zb J;have aD:=zb r5;have aE:=zb r6;have aF:=zb r7;have aG:=zb r8;have an:=zb C;have ao:=zb L;go_enter func52,ntmps52;go_upto_region 7 with(go_at_call 90;refine ks.mono ?_;rintro _ _ ⟨rfl,rfl⟩;unfold zdV;simp only[if_true]);refine zm 17 (fun w'=>w'.cell? ⟨b,129+q*13+9,none⟩=some (.int .u64 (rd:Int))∧w'.cell? ⟨b,129+q*13+4,none⟩=some (.int .u64 (hi:Int))) (⟨C,r4⟩) ?_;refine GI 0 ?_;iterate 11
  refine GS rfl ?_ ?_ ?_;rotate_left
  ·(intro Q u;obtain⟨f6,f0⟩:=u;go_simp;try with_reducible rfl)
  try simp only[PS]
 refine zz 11 rfl (fun K hK=>?_);go_simp;refine KG.out.mono ?_;rintro _ W2 ⟨rfl,t⟩;have t:Mod NoB W W2:=(Mod.refl NoB W).drew.trans t;refine hK.out _ _ ⟨t.cell (a:=⟨b,_,none⟩) id C,t.cell (a:=⟨b,_,none⟩) id r4⟩ ?_;clear hK K;try simp only[PS]
 refine GI 12 ?_;iterate 5
  refine GS rfl ?_ ?_ ?_;rotate_left
  ·(intro Q u;obtain⟨f6,f0⟩:=u;go_simp;try with_reducible rfl)
  try simp only[PS]
 refine zo ?_;have q0:=t.cell (a:=⟨b,_,none⟩) id J;have q5:=t.cell (a:=⟨b,_,none⟩) id r5;have q6:=t.cell (a:=⟨b,_,none⟩) id r6;have q7:=t.cell (a:=⟨b,_,none⟩) id r7;have q8:=t.cell (a:=⟨b,_,none⟩) id r8;have q9:=t.cell (a:=⟨b,_,none⟩) id C;have aH:=t.cell (a:=⟨b,_,none⟩) id L;have M2:=zb t;clear J r4 r5 r6 r7 r8 C L KG t fz;obtain⟨M,hM⟩:=nm most.toNat;rw[hM]at X;have R:((M:Int)=most∧0≤most)∨(M=0∧most<0):=by omega
 obtain⟨e0,aj⟩:=nm (min lo (rd+M));have ap:=zb aj;have x1:IntKind.u64.wrap (M:Int)=(M:Int):=by rw[IntKind.wrap_u64];omega
 have x2:=wu ((rd:Int)+M) (by omega);have x5:IntKind.u64.wrap 0=0:=by rw[IntKind.wrap_u64];rfl
 have x6:IntKind.u64.wrap (rd:Int)=(rd:Int):=by rw[IntKind.wrap_u64];omega
 have x3:IntKind.u64.wrap most=most∨most<0:=by rw[IntKind.wrap_u64];omega
 have x4:IntKind.u64.wrap ((rd:Int)+most)=(rd:Int)+most∨most<0:=by rw[IntKind.wrap_u64];omega
 rw[aj]at X;clear hM aj;go_upto_region 8 with fail
 go_cut [13] (fun ev Q=>ev = .int .u64 (e0:Int)∧Q=W2)
 case first=>as_aux_lemma =>
  rcases R with⟨R,aP⟩|⟨R,aQ⟩
  ·subst R;clear x3 x4;go_wp2_with fail;all_goals first|(exfalso;omega)|skip
   all_goals
    go_meet;have h2:=ap.out;exact⟨by congr 1;omega,rfl⟩
  ·subst R;go_wp2_with fail;all_goals first|(exfalso;omega)|skip
   all_goals
    go_meet;have h2:=ap.out;exact⟨by congr 1;omega,rfl⟩
 case rest =>
 obtain⟨rfl,hw⟩:=hcut;have hw:=hw.symm;subst hw;clear x1 x2 x3 x4 x5 x6;go_upto_if 63 with fail
 go_cut [13] (fun ev Q=>ev = .int .u64 (E:Int)∧Hid (Mod NoB W Q))
 case first=>as_aux_lemma =>
  cases cu
  ·have h2:E=e0:=X.out;subst h2;go_wp2_with fail;go_meet;exact⟨rfl,M2⟩
  ·go_upto_region 10 with fail;go_quiet (fail);go_wp2_with fail;all_goals
    go_meet;have h2:E=max rd (min e0 kp):=X.out;exact⟨by congr 1;omega,zb (M2.out.drewN _)⟩
 case rest =>
 obtain⟨rfl,M3⟩:=hcut;obtain⟨y,aI⟩:=nn wc;subst aI;have B:(x.b.drop rd).take (E-rd)=s:=by
  rw[←aB.out];exact aA.out
 have aq:s.length=E-rd:=by
  rw[←B,List.length_take,List.length_drop,HN.out];omega
 have c3:=HH.out.mod0 M3.out;have J:y.cell? ⟨b,129+q*13,none⟩=some (.slice S N rc):=M3.out.cell (a:=⟨b,_,none⟩) id aC.out;have C:y.cell? ⟨b,129+q*13+9,none⟩=some (.int .u64 (rd:Int)):=M3.out.cell (a:=⟨b,_,none⟩) id an.out;have A:BR y.drew (.slice S N rc) x.b:=BR.mod am.out (M3.out.drew) (fun _ _ _ _ _ x=>x);have ar:N≤rc∧rc≤9223372036854775807:=by
  obtain⟨a',c',e,q1,q2,_⟩:=A;cases e;rw[HN.out]at q1;unfold maxLen at q2;exact⟨q1,by omega⟩
 obtain⟨aJ,aK⟩:=ar;have aa:∀v,v = .slice (S.map fun x=>x.add rd) (E-rd) (rc-rd)→BR y.drew v s:=by
  rintro v rfl;rw[←B];rw[←HN.out]at A;exact A.sub (by rw[HN.out];omega)
 have au:BR y.drew (.slice (if rc=rd then S else S.map fun x=>x.add rd) (E-rd) (rc-rd)) s:=by
  by_cases e:rc=rd
  ·rw[if_pos e];have:s=[]:=List.eq_nil_of_length_eq_zero (by omega);rw[this,show E-rd=0 by omega,show rc-rd=0 by omega];exact BR.nil _ S 0 (by unfold maxLen;omega)
  ·rw[if_neg e];exact aa _ rfl
 have av:∀v,BR y.drew v s→Calls prog 92 #[v] y.drew (zrm s y.drew):=fun v hv=>zns v s y.drew hv (by omega)
 have aw:Hid (∀W4,Mod NoB y.drew W4→∀bv,OB W4 bv s→(∀g,bv.ownBlock=some g→y.heap.size≤g) →
   (ST=0→∀W',Mod NoB (W4.setCell ⟨b,129+q*13+9,none⟩ (.int .u64 (E:Int))) W'→zf8 tag i b W s ST 0 { c with rs:=upd c.rs q { x with read:=E,state:=ST } } (.returned (.tuple #[if s=[]then .slice none 0 0 else bv,.int .i64 (ST:Int),.nilIface])) W') ∧
   (∀W5,Mod NoB (W4.setCell ⟨b,129+q*13+9,none⟩ (.int .u64 (E:Int))) W5→∀W',Mod NoB (W5.setCell ⟨b,129+q*13+10,none⟩ (.int .i64 (ST:Int))) W'→zf8 tag i b W s ST 0 { c with rs:=upd c.rs q { x with read:=E,state:=ST } } (.returned (.tuple #[if s=[]then .slice none 0 0 else bv,.int .i64 (ST:Int),.nilIface])) W')):=by
  intro W4 m4 bv ho Z;have c0:zg tag i b { c with rs:=upd c.rs q x } V y:=by
   rw[←HX.out,zaB];exact c3
  have ax:=al.out;have c4:=(c0.mod0 (Mod.refl NoB y).drew).mod0 m4;have c5:=c4.storeR2 z 9 (by decide) (.int .u64 (E:Int)) { x with read:=E } rfl rfl rfl;rw[Nat.mul_comm 13 q]at c5;have m5:∀W4 p v,Mod (fun g=>g=b) W4 (W4.setCell ⟨b,p,none⟩ v):=fun W4 p v=>(Mod.refl (fun g=>g=b) W4).setCell (p:=⟨b,p,none⟩) (.inl rfl) v
  have mm:Mod NoB W W4:=(M3.out.drew).trans m4;have aL:∀g,bv.ownBlock=some g→¬(g=b):=fun g hg e=>by
   have h1:=Z g hg;have h2:=zk C;omega
  have hsz:=M3.out.size;have ab:∀W',zg tag i b { c with rs:=upd c.rs q { x with read:=E,state:=ST } } V W'→Mod (fun g=>g=b) W4 W'→zf8 tag i b W s ST 0 { c with rs:=upd c.rs q { x with read:=E,state:=ST } } (.returned (.tuple #[if s=[]then .slice none 0 0 else bv,.int .i64 (ST:Int),.nilIface])) W':=by
   intro W' hc hm;refine⟨_,rfl,?_,?_,V,hc,(mm.mono (fun _ x=>x.elim)).trans hm⟩
   ·split
    ·rename_i e;rw[e];exact OB.nil _
    ·exact hm.owns ho aL
   ·intro g hg;split at hg
    ·simp[Value.ownBlock]at hg
    ·have:=Z g hg;omega
  refine⟨fun e W' m=>?_,fun W5 ma W' m=>?_⟩
  ·have:({ x with read:=E,state:=ST }:RS)={ x with read:=E }:=by
    rw[e,←ax]
   refine ab W' ?_ ((m5 _ _ _).trans (m.mono (fun _ x=>x.elim)));rw[this];exact c5.mod0 m
  ·have c6:=(c5.mod0 ma).storeR2 z 10 (by decide) (.int .i64 (ST:Int)) { x with read:=E,state:=ST } rfl rfl rfl;rw[Nat.mul_comm 13 q]at c6;exact ab W' (c6.mod0 m) (((m5 _ _ _).trans (ma.mono (fun _ x=>x.elim))).trans ((m5 _ _ _).trans (m.mono (fun _ x=>x.elim))))
 have ay:=zb au;have az:=zb av;have aM:=zb aq;have z9:∀W4,Mod NoB y.drew W4→Hid ((∀p,W4.frozen? ⟨b,p,none⟩=false)∧(∀p v p',(W4.setCell ⟨b,p,none⟩ v).frozen? ⟨b,p',none⟩=false)∧W4.cell? ⟨b,129+q*13+9,none⟩=some (.int .u64 (rd:Int))∧W4.cell? ⟨b,129+q*13+7,none⟩=some (.bool cu)∧W4.cell? ⟨b,129+q*13+8,none⟩=some (.int .u64 (kp:Int))∧W4.cell? ⟨b,129+q*13+6,none⟩=some (.bool en)∧W4.cell? ⟨b,129+q*13+5,none⟩=some (.int .u64 (fn:Int))∧W4.cell? ⟨b,129+q*13+10,none⟩=some (.int .i64 0)):=fun W4 m4=>by
  have mm:Mod NoB y W4:=((Mod.refl NoB y).drew).trans m4;have t:Mod NoB W W4:=M3.out.trans mm;have co:=(HH.out.mod0 t).obj;exact zb ⟨fun p=>zf co,fun p v p'=>zf (zc co),t.cell (a:=⟨b,_,none⟩) id an.out,t.cell (a:=⟨b,_,none⟩) id aF.out,t.cell (a:=⟨b,_,none⟩) id aG.out,t.cell (a:=⟨b,_,none⟩) id aE.out,t.cell (a:=⟨b,_,none⟩) id aD.out,t.cell (a:=⟨b,_,none⟩) id ao.out⟩
 have Z9:=zb z9;have dE0:(rd:Int)≤E:=by omega
 have dE1:(E:Int)≤rc:=by omega
 have nE0:rd≤E:=D.1;have nE1:E≤rc:=by omega
 clear c3 B aq A aa au av z9 q0 q5 q6 q7 q8 q9 aH;go_upto_region 11 with fail
 go_cut [14] (fun bv Q=>∃bw:Option Addr×Nat,bv = .slice bw.1 s.length bw.2∧Hid (Mod NoB y.drew Q∧OB Q (.slice bw.1 s.length bw.2) s∧∀g,(Value.slice bw.1 s.length bw.2).ownBlock=some g→y.heap.size≤g))
 case first =>
  refine zm 12 (fun w'=>w'.cell? ⟨b,129+q*13,none⟩=some (.slice S N rc)∧w'.cell? ⟨b,129+q*13+9,none⟩=some (.int .u64 (rd:Int))) (⟨J,C⟩) ?_;refine GI 0 ?_;iterate 9
   refine GS rfl ?_ ?_ ?_;rotate_left
   ·(intro Q u;obtain⟨f0,f9⟩:=u;go_simp;try with_reducible rfl)
   try simp only[PS]
  refine zcG (i:=9) (v:=.slice (if rc=rd then S else S.map fun x=>x.add rd) (E-rd) (rc-rd)) rfl (by kernel_rfl) (fun _ _ _ h=>h) (Or.inl ⟨by rfl,?_⟩) ?_
  ·(intro Q u;obtain⟨f0,f9⟩:=u;go_simp;try with_reducible rfl)
  try simp only[PS]
  refine zz 10 rfl (fun K hK=>?_);go_simp;refine(az.out _ (ay.out)).mono ?_;rintro e W4 ⟨v',rfl,ho,m4,Z⟩;obtain⟨aN,aO,rfl,_⟩:=zi ho;refine hK.out _ _ ⟨m4.cell (a:=⟨b,_,none⟩) id J,m4.cell (a:=⟨b,_,none⟩) id C⟩ ?_;clear hK K;try simp only[PS]
  refine GI 11 ?_;refine GS rfl ?_ ?_ ?_;rotate_left
  ·(intro Q u;obtain⟨f0,f9⟩:=u;go_simp;try with_reducible rfl)
  try simp only[PS]
  refine zo ?_;go_wp2_with fail;all_goals
   go_meet;exact⟨(aN,aO),rfl,zb ⟨m4,ho,Z⟩⟩
 case rest =>
 obtain⟨⟨ba,bc⟩,rfl,HB⟩:=hcut;obtain⟨z1,z2,y9,y7,y8,y6,y5,y10⟩:=(Z9.out wc HB.out.1).out;have o:=zb (aw.out wc HB.out.1 _ HB.out.2.1 HB.out.2.2);obtain⟨I,H⟩:=nm s.length;have aR:=zb H;have hz:Hid ((if s=[]then Value.slice none 0 0 else .slice ba I bc)=if I=0 then .slice none 0 0 else .slice ba I bc):=by
  show _=_;by_cases h:s=[]
  ·have h2:I=0:=by rw[←H,h];rfl
   rw[if_pos h,if_pos h2]
  ·have h2:I≠0:=fun e=>h (List.eq_nil_of_length_eq_zero (by rw[H,e]))
   rw[if_neg h,if_neg h2]
 rw[H]at o;rw[hz.out]at o;rw[H];clear ay az aM Z9 aw J C HB H hz HR am;have f:I=0∨I≠0:=by omega
 go_upto_region 13 with fail;cases cu
 ·cases en
  ·have l:ST=0:=P.out;subst l;go_quiet (fail);go_upto_region 15 with fail;go_quiet (fail);have w:=zb (o.out.1 rfl);clear o;rcases f with rfl|f
   ·go_wp2_with fail;go_quiet (fail);go_wp2_with fail;go_ret3;exact w.out _ (by repeat (first|exact Mod.refl _ _|refine Mod.drewN ?_ _))
   ·have dz:((I:Int)==0)=false:=beq_eq_false_iff_ne.2 (by omega);rw[if_neg f]at w;go_wp2_with fail;go_quiet (fail);go_wp2_with fail;go_ret3;exact w.out _ (by repeat (first|exact Mod.refl _ _|refine Mod.drewN ?_ _))
  ·by_cases ak:E=fn
   ·have l:ST=1:=by
     have:=P.out;simp[ak]at this;exact this
    subst l;subst ak;go_quiet (fail);go_upto_region 15 with fail;go_quiet (fail);have w:=zb (o.out.2);clear o;rcases f with rfl|f
    ·go_wp2_with fail;go_quiet (fail);go_wp2_with fail;go_ret3;exact w.out _ ((Mod.refl NoB _).drewN _) _ ((Mod.refl NoB _).drewN _)
    ·have dz:((I:Int)==0)=false:=beq_eq_false_iff_ne.2 (by omega);rw[if_neg f]at w;go_wp2_with fail;go_quiet (fail);go_wp2_with fail;go_ret3;exact w.out _ ((Mod.refl NoB _).drewN _) _ ((Mod.refl NoB _).drewN _)
   ·have l:ST=0:=by
     have:=P.out;simp[ak]at this;exact this
    subst l;have dE:((E:Int)==(fn:Int))=false:=beq_eq_false_iff_ne.2 (by omega);go_quiet (fail);go_upto_region 15 with fail;go_quiet (fail);have w:=zb (o.out.1 rfl);clear o;rcases f with rfl|f
    ·go_wp2_with fail;go_quiet (fail);go_wp2_with fail;go_ret3;exact w.out _ (by repeat (first|exact Mod.refl _ _|refine Mod.drewN ?_ _))
    ·have dz:((I:Int)==0)=false:=beq_eq_false_iff_ne.2 (by omega);rw[if_neg f]at w;go_wp2_with fail;go_quiet (fail);go_wp2_with fail;go_ret3;exact w.out _ (by repeat (first|exact Mod.refl _ _|refine Mod.drewN ?_ _))
 ·by_cases Y:kp≤E
  ·have l:ST=2:=by
    have:=P.out;simp[Y]at this;exact this
   subst l;have dE:decide (kp≤E)=true:=by simp[Y]
   go_quiet (fail);have w:=zb (o.out.2);clear o;rcases f with rfl|f
   ·go_wp2_with fail;go_quiet (fail);go_wp2_with fail;go_ret3;exact w.out _ ((Mod.refl NoB _).drewN _) _ ((Mod.refl NoB _).drewN _)
   ·have dz:((I:Int)==0)=false:=beq_eq_false_iff_ne.2 (by omega);rw[if_neg f]at w;go_wp2_with fail;go_quiet (fail);go_wp2_with fail;go_ret3;exact w.out _ ((Mod.refl NoB _).drewN _) _ ((Mod.refl NoB _).drewN _)
  ·have l:ST=0:=by
    have:=P.out;simp[Y]at this;exact this
   subst l;have dE:decide (kp≤E)=false:=by simp[Y]
   go_quiet (fail);go_upto_region 15 with fail;go_quiet (fail);have w:=zb (o.out.1 rfl);clear o;rcases f with rfl|f
   ·go_wp2_with fail;go_quiet (fail);go_wp2_with fail;go_ret3;exact w.out _ (by repeat (first|exact Mod.refl _ _|refine Mod.drewN ?_ _))
   ·have dz:((I:Int)==0)=false:=beq_eq_false_iff_ne.2 (by omega);rw[if_neg f]at w;go_wp2_with fail;go_quiet (fail);go_wp2_with fail;go_ret3;exact w.out _ (by repeat (first|exact Mod.refl _ _|refine Mod.drewN ?_ _))
def zbb(w:World)(g n:Nat):Prop:=∃cs t,w.heap[g]?=some (.cells cs t (0,0))∧n≤cs.size
variable{j:Nat}
theorem zbb.cell(h:zbb w g n)(hj:j<n):(∃v,w.cell? ⟨g,j,none⟩=some v)∧w.frozen? ⟨g,j,none⟩=false:=by
 obtain⟨cs,t,h1,h2⟩:=h;exact⟨⟨cs[j],za h1 (by simp[show j<cs.size by omega])⟩,zf h1⟩
theorem zbb.set(h:zbb w g n)(j:Nat)(v:Value):zbb (w.setCell ⟨g,j,none⟩ v) g n:=by
 obtain⟨cs,t,h1,h2⟩:=h;exact⟨_,t,zc h1,by simpa using h2⟩
variable{S:Nat→Prop}{w':World}
theorem zbb.mod(h:zbb w g n)(m:Mod S w w')(hs:¬S g):zbb w' g n:=by
 obtain⟨cs,t,h1,h2⟩:=h;exact⟨cs,t,m.obj hs h1,h2⟩
variable{l:List UInt8}
theorem OB.open_(h:OB w (.slice (some ⟨g,0,none⟩) n cap) l):zbb w g l.length:=by
 rcases h.2 with⟨e,_⟩|⟨g',b,a,e,_,h1,h2,h3,h4,h5⟩
 ·cases e
 ·cases e;exact⟨a,_,h1,by omega⟩
theorem znu(h:zg tag i b c V W)(E:Env i tag W)(k most:Int)(hm:most≤9223372036854775807)(ok:∀k,k<8→zf7 (c.rs k))(hl:(c.read k most).1.1.length≤1099511627776):Calls prog 29 #[.pointer (some ⟨b,0,none⟩),.int .i64 k,.int .i64 most] W (zbC tag i b W (.tuple #[.string (zq (c.read k most).1.1),.int .i64 ((c.read k most).1.2.1:Int),.int .i64 ((c.read k most).1.2.2:Int)]) (c.read k most).2):=by
 have y:=znt h k most hm ok;obtain⟨R,T⟩:=nm (c.read k most);rw[T]at y hl ⊢;obtain⟨⟨s,st,er⟩,c'⟩:=R;simp only at y hl ⊢;have d:=zb E;have B:=zb h;have U:=zb y;clear h E ok y T;go_enter func29,ntmps29;go_wp2_with fail;refine(U.out).mono ?_;rintro _ W2 ⟨bv,rfl,a,l,V',h2,z⟩;clear U;obtain⟨m,sc,rfl,C,D,n⟩:=zi a;unfold maxLen at D;obtain⟨N,F⟩:=nm s.length;have hcv:(convert 60 9 (.slice m N sc)).run prog W2 = .ok (.string (zq s)) W2:=by
  have:=zbu (OB.br a);rw[F]at this;exact this
 have X:Env i tag W2:=d.out.mod z (fun g hg=>.inl (by
  have hg:g=b:=hg;rw[hg,B.out.tb];have:=d.out.pos;simp;omega))
 have Y:zbo tag i b W c' W2:=h2.left d.out.ok (B.out.modb z);have o:zdV er = .nilIface∨∃t u,zdV er = .iface t u:=by
  unfold zdV;split
  ·exact .inl rfl
  ·exact .inr ⟨_,_,rfl⟩
 have q:∀g,m=some ⟨g,0,none⟩→zbb W2 g N:=fun g hg=>by
  subst hg;rw[←F];exact a.open_
 have r:∀g,m=some ⟨g,0,none⟩→W.heap.size≤g:=fun g hg=>by
  subst hg;exact l g rfl
 rw[F]at C n hl ⊢;have HL:=zb Y;have G:=zb X;have H:=zb q;have e:=zb r;have H2:=zb h2;have M2:=zb z;have I:Hid (zdV er=zdV er):=zb rfl;obtain⟨ev,f⟩:=nm (zdV er);have J:=zb f;rw[f]at o ⊢;clear a l h2 z X Y q r f I;rcases o with rfl|⟨et,eu,rfl⟩;all_goals
  go_wp2_with fail
  go_loopw [26] (fun K wr=>∃j:Nat,j≤N∧K = .int .i64 j∧Hid (∀g,m=some ⟨g,0,none⟩→zbb wr g N)∧Hid (Mod (fun g=>m=some ⟨g,0,none⟩) W2 wr)) (fun K _=>N-(intOf K).toNat)
  case atStart=>exact⟨0,Nat.zero_le _,rfl,H,zb (Mod.refl _ _)⟩
  case round =>
   obtain⟨j,hj,rfl,Z,A⟩:=hrel;by_cases L:j<N
   ·obtain⟨g,hg⟩:=n (by omega);subst hg;obtain⟨⟨v0,e0⟩,z0⟩:=(Z.out g rfl).cell L;have M:Hid (∀g',some (⟨g,0,none⟩:Addr)=some ⟨g',0,none⟩→zbb (wr.setCell ⟨g,j,none⟩ (.int .u8 33)) g' N):=zb (fun g' O=>by
     cases O;exact(Z.out g rfl).set j _)
    have P:=zb (A.out.setCell (p:=⟨g,j,none⟩) (.inl rfl) (.int .u8 33));go_wp2_with fail;go_roundw
    case rel=>exact⟨j+1,by omega,by go_num,M,P⟩
    case measure=>simp[intOf];omega
   ·have Q:=zca er wr (G.out.err.mod A.out (fun x=>by
     have h5:=e.out 0 x;have:=d.out.tab.lt;omega))
    rw[J.out]at Q;have KT:=zb Q;clear Q;go_wp2_with fail;refine(KT.out).mono ?_;rintro _ W4 ⟨rfl,S⟩;have v:zg tag i b c' V' W4:=(H2.out.mod A.out (fun g hg=>by
     rw[d.out.ok g (e.out g hg)];have:=d.out.pos;simp;omega) (fun _ _=>rfl)).mod0 S
    have w:Mod (fun g=>g=b) W W4:=(M2.out.then A.out (fun g hg=>.inr (e.out g hg))).trans (S.mono (fun _ x=>x.elim));have H4:=zb (v.left d.out.ok (B.out.modb w));clear S v w;go_wp2_with fail;go_ret3;exact⟨rfl,H4.out⟩
def zdq(b o:Nat)(w:World):Nat:=match w.cell? ⟨b,o,none⟩with|some (.slice _ n _)=>n|_=>0
def znv:Value→Nat|.slice _ n _=>n|_=>0
theorem zg.flLen(h:zg tag i b c V W):zdq b 236 W=c.flight.length:=by
 obtain⟨a,cap,e,_⟩:=zi h.ft;have c0:W.cell? ⟨b,236,none⟩=some V.ft:=h.tl (j:=3) rfl;unfold zdq;rw[c0,e]
theorem RRT.form{t:Nat×Nat}{l:zA}(h:RRT tag t W v l):∃a cap,v = .slice a l.length cap:=by
 obtain⟨a,cap,e,_⟩:=h.1;exact⟨a,cap,e⟩
def ziu(i:Nat)(tag:Nat→Nat×Nat):Prop:=∀g r,90≤r→tag g≠(i,r)
def znw(tag:Nat→Nat×Nat)(i b:Nat)(c:World)(a:List (List UInt8))(c':CS)(e:Ending)(W':World):Prop :=
 ∃v vs tag' V',e = .returned v∧zg tag' i b c' V' W'∧Ext i tag tag' c W'∧Mod (zai i tag) c W'∧zc4 tag' c W' v vs a∧ziu i tag'
def undr(i:Nat)(tag:Nat→Nat×Nat):Nat→Nat×Nat:=fun g=>if (tag g).1=i∧90≤(tag g).2 then(0,0)else tag g
theorem zro(hi:0<i):ziu i (undr i tag):=by
 intro g r hr h;unfold undr at h;split at h
 ·simp at h;omega
 ·rename_i hn;rw[h]at hn;exact hn ⟨rfl,hr⟩
variable{r:Nat}
theorem zpH(hr:r<90)(h:tag g=(i,r)):undr i tag g=(i,r):=by
 unfold undr;rw[if_neg (by rw[h];simp;omega),h]
theorem zhX(h:tag g=(0,0)):undr i tag g=(0,0):=by
 unfold undr;split
 ·rfl
 ·exact h
variable{W':World}{tag':Nat→Nat×Nat}
theorem Ext.undr(e:Ext i tag tag' W W')(nd:ziu i tag):Ext i tag (Go.Proofs.YtddfdpbaiedcjaaGreatDoor.undr i tag') W W':=by
 refine⟨fun g hg=>?_,fun g hg=>?_,fun g hg=>zhX (e.out g hg)⟩
 ·have h1:=e.old g hg;unfold Go.Proofs.YtddfdpbaiedcjaaGreatDoor.undr;rw[if_neg,h1];rintro⟨x,y⟩;rw[h1]at x y;exact nd g (tag g).2 y (by rw[←x])
 ·unfold Go.Proofs.YtddfdpbaiedcjaaGreatDoor.undr;split
  ·exact .inr rfl
  ·exact e.new g hg
variable{W0:World}{outs:List (List UInt8)}{ov tv:Value}{told:zA}{vs:List Value}
theorem zgZ.post(h:zgZ tag i b W0 c told outs tag' V vs ov tv W)(nd:ziu i tag):znw tag i b W0 outs c (.returned ov) W :=
 ⟨ov,vs,undr i tag',V,rfl,h.c.retag (fun g r hr hg=>zpH hr hg),h.e.undr nd,h.m,h.o.mod (Mod.refl NoB W) (fun _ x=>x.elim) (fun _ _ x=>zhX x),zro h.p⟩
variable{bv fv:Value}{d:Drf}{db:Nat}
theorem zb5.post{l:List (Frm×Value)}(h:zb5 tag i b db W0 c d told outs tag' V bv fv l vs ov tv W)(nd:ziu i tag):znw tag i b W0 outs c (.returned ov) W :=
 zgZ.post ⟨h.s.c,h.s.e,h.s.m,h.o,h.t,h.s.p⟩ nd
theorem zai.i_(h:zai i tag g):(tag g).1=i:=h.1
theorem zgZ.env(h:zgZ tag i b W0 c told outs tag' V vs ov tv W)(E:Env i tag W0):Env i tag' W:=E.left h.e (h.m.mono (fun g hg=>.inl hg.i_))
theorem zb5.env{l:List (Frm×Value)}(h:zb5 tag i b db W0 c d told outs tag' V bv fv l vs ov tv W)(E:Env i tag W0):Env i tag' W:=E.left h.s.e (h.s.m.mono (fun g hg=>.inl hg.i_))
theorem zjo(h:zg tag i b c V W)(E:Env i tag W)(nd:ziu i tag)(h0:c.closed=0)(ok:zmV c.acks.2 c.acks.1)(hg:c.got.Ok):Calls prog 50 #[.pointer (some ⟨b,0,none⟩)] W (znw tag i b W c.packets.1 c.packets.2):=by
 have c4:W.cell? ⟨b,4,none⟩=some (.int .i64 (c.closed:Int)):=h.hd (j:=4) rfl;rw[h0]at c4;have ka:=zpc h E hg;have EE:=zb E;have ND:=zb nd;have OK:=zb ok;obtain⟨R,hR⟩:=nm c.packets;have HR:=zb hR;rw[hR];obtain⟨T0,al⟩:=nm c.acks.1;obtain⟨C0,Y⟩:=nm c.acks.2;have I:Hid (CS.pkts (12-c.flight.length+T0.length+1) C0 T0=R∧zmV C0 T0∧zi3 C0 T0<12-c.flight.length+T0.length+1):=by
  refine⟨?_,?_,?_⟩
  ·rw[←hR,CS.packets,al,Y]
  ·rw[←al,←Y];exact ok
  ·have:C0.flight=c.flight:=by
    rw[←Y];unfold CS.acks;split<;>rfl
   unfold zi3;rw[this];omega
 rw[al,Y]at ka;have KA:=zb ka;clear h E nd ok hg h0 hR al Y ka;go_enter func50,ntmps50;go_wp2_with (go_at_call 82;refine KA.out.mono ?_;rintro e W1 ⟨v,aB,V1,rfl,aY,aZ,a0,a1⟩;have H1:Hid (zgZ tag i b W C0 T0 [] aB V1 [] (.slice none 0 0) v W1):=zb ⟨aZ,a0,a1,zc4.nil _ _ _,aY,EE.out.pos⟩;clear aY aZ a0 a1);clear c4 KA
 go_loopw [3,4] (fun ov tv wr=>∃(n:Nat) (c':CS) (told:zA) (f:List (List UInt8)) (tag':Nat→Nat×Nat) (V':CV) (z:List Value),Hid (zgZ tag i b W c' told f tag' V' z ov tv wr)∧Hid (zmV c' told∧zi3 c' told<n∧f++(CS.pkts n c' told).1=R.1∧(CS.pkts n c' told).2=R.2)∧Hid (f.length+n≤2097152)) (fun _ tv wr=>(12-zdq b 236 wr)+znv tv)
 case atStart=>exact⟨_,C0,T0,[],aB,V1,[],H1,zb ⟨I.out.2.1,I.out.2.2,by rw[I.out.1];rfl,by rw[I.out.1]⟩,zb (by have:=I.out.2.1.len;show 0+_≤_;omega)⟩
 case round =>
  clear H1 I;obtain⟨n,c',told,f,tag',V',z,HH,y,a2⟩:=hrel;have c6:wr.cell? ⟨b,6,none⟩=some (.int .u64 (c'.next:Int)):=HH.out.c.hd (j:=6) rfl;have c0:wr.cell? ⟨b,0,none⟩=some (.int .i64 (c'.mtu:Int)):=HH.out.c.hd (j:=0) rfl;obtain⟨ta,tc,bn⟩:=HH.out.t.form;have aF:Hid ((12-zdq b 236 wr)+told.length=zi3 c' told):=by
   show _=_;rw[HH.out.c.flLen];rfl
  have a3:c'.next<4611686018427387904:=by have:=y.out.1.next;unfold zD at this;omega
  have kv:=zZ (.slice none 0 0) [] c'.next wr.drew (World.ownsRow_nil _ 0 _ 1) (Nat.zero_le _) a3;have KV:=zb kv;obtain⟨nx,Z⟩:=nm c'.next;obtain⟨mt,aG⟩:=nm c'.mtu;rw[Z]at c6 KV;rw[aG]at c0;have a4:=zb Z;have bo:=zb aG;clear kv a3 Z aG;subst bn;go_upto_region 5 with fail;refine zm 13 (fun w'=>w'.cell? ⟨b,6,none⟩=some (.int .u64 (nx:Int))∧w'.cell? ⟨b,0,none⟩=some (.int .i64 (mt:Int))) (⟨c6,c0⟩) ?_;refine GI 0 ?_;iterate 4
   refine GS rfl ?_ ?_ ?_;rotate_left
   ·(intro S r;obtain⟨f6,f0⟩:=r;go_simp;try with_reducible rfl)
   try simp only[PS]
  refine GI 5 ?_;iterate 5
   refine GS rfl ?_ ?_ ?_;rotate_left
   ·(intro S r;obtain⟨f6,f0⟩:=r;go_simp;try with_reducible rfl)
   try simp only[PS]
  refine zz 4 rfl (fun K F=>?_);go_simp;refine KV.out.mono ?_;rintro e W2 ⟨bv,rfl,A⟩;obtain⟨am,an,a5,_⟩:=zi A.own;rw[List.nil_append]at a5;subst a5;have m2:Mod NoB wr W2:=((Mod.refl NoB wr).drew).trans ((Mod.refl NoB wr.drew).grown A.grown (fun g hg=>by simp[Value.ownBlock]at hg));have AP:=zb A;have ao:=zb (show W2.cell? ⟨b,6,none⟩=some (.int .u64 (nx:Int))∧W2.cell? ⟨b,0,none⟩=some (.int .i64 (mt:Int))from⟨m2.cell (a:=⟨b,6,none⟩) id c6,m2.cell (a:=⟨b,0,none⟩) id c0⟩);refine F.out _ _ ao.out ?_;clear A m2;clear F K;try simp only[PS]
  refine zcG (i:=10) (v:=.agg #[.slice am (zN nx).length an,.slice none 0 0,.int .i64 (mt:Int),.bool false,.bool false]) rfl (by kernel_rfl) (fun _ _ _ h=>h) (Or.inl ⟨by rfl,?_⟩) ?_
  ·(intro S r;(try dsimp only at r);go_simp;try with_reducible rfl)
  try simp only[PS]
  refine zz 11 rfl (fun K F=>?_);go_simp;have bp:=fun o=>(show(W2.alloc o).cell? ⟨b,6,none⟩=some (.int .u64 (nx:Int))∧(W2.alloc o).cell? ⟨b,0,none⟩=some (.int .i64 (mt:Int))from⟨((Mod.refl NoB W2).alloc o).cell (a:=⟨b,6,none⟩) id ao.out.1,((Mod.refl NoB W2).alloc o).cell (a:=⟨b,0,none⟩) id ao.out.2⟩)
  refine F.out _ _ (bp _) ?_;clear F K;try simp only[PS]
  refine GI 12 ?_;refine GS rfl ?_ ?_ ?_;rotate_left
  ·(intro S r;obtain⟨f6,f0⟩:=r;go_simp;try with_reducible rfl)
  try simp only[PS]
  refine zo ?_;obtain⟨W3,aH⟩:=nm (W2.alloc (.cells #[.slice am (zN nx).length an,.slice none 0 0,.int .i64 (mt:Int),.bool false,.bool false] 180));obtain⟨db,aI⟩:=nm W2.heap.size;obtain⟨aa,HM⟩:∃aa,Hid (zb5 tag i b db W c' c'.pkDraft told f aa V' (.slice am (zN nx).length an) (.slice none 0 0) [] z u3 (.slice ta told.length tc) W3):=by
   have A:=AP.out;rw[←a4.out]at A;obtain⟨t1,h1⟩:=HH.out.draft ((Mod.refl NoB wr).drew) A;rw[a4.out,bo.out,aH,aI]at h1;exact⟨t1,h1⟩
  try rw[aH]
  try rw[aI]
  obtain⟨T,aJ⟩:=nm ((zs c'.pkDraft told).1);obtain⟨G,aK⟩:=nm ((zs c'.pkDraft told).2);have ab:=y.out.1.round;rw[aJ,aK]at ab;have H:=zb ab;have ac:=zb (And.intro aJ aK);have bq:=zgK (zb2 y.out.1.ok) told;have kt:=fun h1=>zpd HM.out.s.c HM.out.s.d (HM.out.env EE.out) HM.out.t h1 y.out.1.desc.tell y.out.1.len (by have:=(zb2 y.out.1.ok).b;omega) (by have:=(zb2 y.out.1.ok).fs;have:=(zb2 y.out.1.ok).b;omega) (by have:=(zb2 y.out.1.ok).room;omega)
  have KT:=zb kt;obtain⟨N,hN⟩:=nm told.length;rw[hN]at KT HM ⊢;have a6:=zb hN;clear aJ aK ab bq kt hN aH aI ao AP HH c6 c0 KV;go_upto_if 29 with fail
  go_cut [4] (fun t2 S=>∃(tag2:Nat→Nat×Nat) (V2:CV) (aq ar:Value) (l2:List (Frm×Value)),Hid (zb5 tag i b db W c' T G f tag2 V2 aq ar l2 z u3 t2 S))
  case first =>
   by_cases J:told=[]
   ·have bt:N=0:=by rw[←a6.out,J];rfl
    subst bt;have U:Hid (zb5 tag i b db W c' T G f aa V' (.slice am (zN nx).length an) (.slice none 0 0) [] z u3 (.slice ta 0 tc) W3):=by
     have e:zs c'.pkDraft told=(c'.pkDraft,told):=by unfold zs;rw[if_pos J]
     have e1:=ac.out.1;have e2:=ac.out.2;rw[e]at e1 e2;rw[←e1,←e2];exact HM
    clear J KT HM;go_wp2_with fail;go_meet;exact⟨_,_,_,_,_,U⟩
   ·have d1:(0:Int)<N:=by
     have:=List.length_pos_iff.2 J;have:=a6.out;omega
    have hd:(zeu c'.pkDraft told).1=T∧(zeu c'.pkDraft told).2=G:=by
     have e:zs c'.pkDraft told=zeu c'.pkDraft told:=by unfold zs;rw[if_neg J]
     rw[←e];exact ac.out
    have k2:=KT.out (by omega);rw[hd.1,hd.2]at k2;have K2:=zb k2;clear J KT hd k2;go_wp2_with (go_at_call 84;refine K2.out.mono ?_;intro e W4 hp;obtain⟨v,tag2,V2,aq,ar,l2,rfl,h2⟩:=HM.out.tell hp;have U:=zb h2;clear hp h2);go_meet;exact⟨_,_,_,_,_,U⟩
  case rest =>
  obtain⟨tag2,V2,aq,ar,l2,U⟩:=hcut;clear HM KT;have a7:wc.cell? ⟨b,236,none⟩=some V2.ft:=U.out.s.c.tl (j:=3) rfl;obtain⟨fa,fc,a8,_⟩:=zi U.out.s.c.ft;rw[a8]at a7;obtain⟨FL,aL⟩:=nm c'.flight.length;rw[aL]at a7;have a9:=zb aL;obtain⟨k,aM⟩:=nm ((c'.pkFill T).1);obtain⟨l,aN⟩:=nm ((c'.pkFill T).2);have L:=zb (And.intro aM aN);have aO:=H.out;rw[aM,aN]at aO;have ba:=zb aO;clear aO;have kf:=zpf U.out.s.c U.out.s.d (U.out.env EE.out) y.out.1.ok H.out.1;have KF:=zb kf;clear a8 aL aM aN kf;go_upto_if 39 with fail
  go_cut [] (fun S=>∃(ad:Nat→Nat×Nat) (X:CV) (w M:Value) (l3:List (Frm×Value)),Hid (zb5 tag i b db W k l G f ad X w M l3 z u3 u4 S))
  case first =>
   by_cases au:FL<12
   ·have d1:(FL:Int)<12:=by omega
    have e:c'.pkFill T=c'.fill T:=by unfold CS.pkFill;rw[if_pos (by rw[a9.out];exact au)]
    have C:(c'.fill T).1=k∧(c'.fill T).2=l:=by rw[←e];exact L.out
    have k2:=KF.out;rw[C.1,C.2]at k2;have K2:=zb k2;clear au KF e C k2;go_wp2_with (go_at_call 85;refine K2.out.mono ?_;intro e W4 hp;obtain⟨rfl,ad,X,w,M,l3,h3⟩:=U.out.fill hp;have B:=zb h3;clear hp h3);go_meet;exact⟨_,_,_,_,_,B⟩
   ·have d1:¬(FL:Int)<12:=by omega
    have e:c'.pkFill T=(c',T):=by unfold CS.pkFill;rw[if_neg (by rw[a9.out];exact au)]
    have C:c'=k∧T=l:=by
     have:=L.out;rw[e]at this;exact this
    have B:Hid (zb5 tag i b db W k l G f tag2 V2 aq ar l2 z u3 u4 wc):=by
     rw[←C.1,←C.2];exact U
    clear au KF e C;go_wp2_with fail;go_meet;exact⟨_,_,_,_,_,B⟩
  case rest =>
  obtain⟨ad,X,w,M,l3,B⟩:=hcut;clear U KF;have o3:=B.out.s.d.obj;obtain⟨fa3,fc3,ae,_⟩:=zi B.out.s.d.own;have bb:l3.length=l.fs.length:=by rw[←B.out.s.d.lf,List.length_map]
  rw[bb]at ae;obtain⟨ba3,bc3,aC,_⟩:=zi B.out.s.d.ob;have e0:wc.cell? ⟨db,0,none⟩=some w:=za o3 rfl;have e1:wc.cell? ⟨db,1,none⟩=some M:=za o3 rfl;rw[ae]at e1;obtain⟨NF,aP⟩:=nm l.fs.length;rw[aP]at e1;obtain⟨m,hm⟩:∃m,n=m+1:=⟨n-1,by have:=y.out.2.1;omega⟩;subst hm;have av:Hid (CS.pkts (m+1) c' told=if l.fs=[]then([],k)else(zcq l.b::(CS.pkts m (k.pkDone l) G).1,(CS.pkts m (k.pkDone l) G).2)):=by
   show _=_;rw[CS.pkts,ac.out.1,ac.out.2,L.out.1,L.out.2]
  have bc:=zb aP;have bd:=zb aC;clear o3 ae bb aP aC;go_upto_if 48 with fail;by_cases O:l.fs=[]
  ·have hz:NF=0:=by rw[←bc.out,O];rfl
   subst hz;have be:Hid (f=R.1∧k=R.2):=by
    have h1:=y.out.2.2.1;have h2:=y.out.2.2.2;rw[av.out,if_pos O]at h1 h2;exact⟨by simpa using h1,h2⟩
   have H4:=zb (B.out.post ND.out);clear O av y e0;go_wp2_with fail;go_ret;have h4:=H4.out;rw[be.out.1,be.out.2]at h4;exact h4
  have hz:NF≠0:=fun e=>O (List.eq_nil_of_length_eq_zero (by rw[bc.out,e]))
  have dz:((NF:Int)==0)=false:=beq_eq_false_iff_ne.2 (by omega);have aQ:=zb O;have ks:=zoi w l.b wc B.out.s.d.ob (by have:=ba.out.2.2.1.b;omega) (B.out.env EE.out).tab;have kb:∀W5 sv,App wc w l.b (zdt (crc l.b)) sv W5→∃sa sn sc ov' W6,sv = .slice sa sn sc∧(∀ty,(Builtin.append_ #[130,130] ty #[u3,.slice (some ⟨W5.heap.size,0,none⟩) 1 1]).run prog (W5.alloc (.cells #[.slice sa sn sc] 60)) = .ok ov' W6)∧∃tag4 oa' oc',Hid (zj8 tag i b db W k l G (f++[zcq l.b]) tag4 X w M (z++[sv]) ov' u4 W6)∧ov' = .slice oa' (z.length+1) oc':=by
   intro W5 sv A;obtain⟨sa,sc,bf,_⟩:=zi A.own;have m1:Mod (fun g=>w.ownBlock=some g) wc W5:=(Mod.refl (fun g=>w.ownBlock=some g) wc).grown A.grown (fun g hg=>.inl hg);have ho:=B.out.o.mod m1 (fun g hg x=>by
    have:=B.out.s.d.tbv g hg;rw[x]at this;have:=B.out.s.p;simp at *) (fun _ _ x=>x)
   obtain⟨ov',W6,h1,h2,h3,h4⟩:=zpg W5 u3 z sa _ sc ho.own (by
    have:=ho.len;have:=y.out.1.next;have:=a2.out;omega)
   obtain⟨tag4,h5⟩:=B.out.sealed ND.out A (by rw[bf];exact h2) h3 h4;obtain⟨oa',oc',h6,_⟩:=zi h2;exact⟨sa,_,sc,ov',W6,bf,h1,tag4,oa',oc',h5,h6⟩
  obtain⟨oa,oc,bh,_⟩:=zi B.out.o.own;rw[bd.out]at ks e0;have KS:=zb ks;have KB:=zb kb;clear ks kb O hz e1;rw[bh]at KB ⊢;clear bh;go_upto_region 13 with(first|(go_at_call 86;refine KS.out.mono ?_;rintro e W5 ⟨sv,rfl,A⟩;have A:=(show App wc w l.b (zdt (crc l.b)) sv W5 by rw[bd.out];exact A);obtain⟨sa,sn,sc,ov',W6,rfl,happ,tag4,oa',oc',q,rfl⟩:=KB.out W5 sv A;clear A)|(at_builtin;refine zl rfl _ _ _ _ rfl _ _ _ rfl rfl happ ?_));have o6:=q.out.obj;have e3:W6.cell? ⟨db,3,none⟩=some (.bool l.wants):=za o6 rfl;obtain⟨wa,aR⟩:=nm l.wants;rw[aR]at e3;have bi:=zb aR;clear o6 aR KS KB;go_upto_if 61 with fail
  go_cut [] (fun S=>∃(u:Nat→Nat×Nat) (V5:CV),Hid (zgZ tag i b W { k with flight:=if l.wants then k.flight++[⟨k.next,k.now,l.fs⟩]else k.flight } G (f++[zcq l.b]) u V5 (z++[.slice sa sn sc]) (.slice oa' (z.length+1) oc') u4 S))
  case first =>
   cases wa
   ·have H7:Hid (zgZ tag i b W { k with flight:=if l.wants then k.flight++[⟨k.next,k.now,l.fs⟩]else k.flight } G (f++[zcq l.b]) tag4 X (z++[.slice sa sn sc]) (.slice oa' (z.length+1) oc') u4 W6):=by
     rw[bi.out];exact q.out.h
    go_wp2_with fail;go_meet;exact⟨_,_,H7⟩
   ·have af:W6.cell? ⟨b,236,none⟩=some X.ft:=q.out.h.c.tl (j:=3) rfl;have q6:W6.cell? ⟨b,6,none⟩=some (.int .u64 (k.next:Int)):=q.out.h.c.hd (j:=6) rfl;have q3:W6.cell? ⟨b,3,none⟩=some (.int .u64 (k.now:Int)):=q.out.h.c.hd (j:=3) rfl;have q1:W6.cell? ⟨db,1,none⟩=some M:=za q.out.obj rfl;obtain⟨ga,gc,aS⟩:=q.out.fv;obtain⟨ka,kc,aT,_⟩:=zi q.out.h.c.ft;have ah:(k.flight.zip X.fts).length=k.flight.length:=by
     rw[List.length_zip,q.out.h.c.fl,Nat.min_self]
    have aD:k.flight.length≤1099511627776:=by
     have h1:=H.out.2.2.2.2.2.1;rw[L.out.1]at h1;rw[h1];have:=y.out.1.fl;omega
    have P:∀g,X.ft.ownBlock=some g→g≠b∧g≠db:=fun g hg=>by
     have h1:=q.out.h.c.tft g hg;refine⟨fun e=>?_,fun e=>?_⟩
     ·rw[e,q.out.h.c.tb]at h1;simp at h1
     ·rw[e,q.out.db]at h1;simp at h1
    obtain⟨bu,W7,D,aw,aU,bj⟩:=zph W6.drew X.ft (k.flight.zip X.fts) ⟨k.next,k.now,l.fs⟩ ga _ gc (by rw[ah];exact q.out.h.c.ft) (by rw[ah];exact aD);have H7:Hid (∃u V5,Hid (zgZ tag i b W { k with flight:=if l.wants then k.flight++[⟨k.next,k.now,l.fs⟩]else k.flight } G (f++[zcq l.b]) u V5 (z++[.slice sa sn sc]) (.slice oa' (z.length+1) oc') u4 (W7.setCell ⟨b,236,none⟩ bu))):=by
     rw[ah,←aS]at aw;obtain⟨u,h7⟩:=q.out.fly ((Mod.refl NoB W6).drew) aw aU bj;rw[bi.out];exact⟨u,_,h7⟩
    have m7:Mod (fun g=>X.ft.ownBlock=some g) W6 W7:=((Mod.refl NoB W6).drew.mono (fun _ x=>x.elim)).trans ((Mod.refl (fun g=>X.ft.ownBlock=some g) W6.drew).grown aU (fun g hg=>.inl hg));have f7:∀p,W7.frozen? ⟨b,p,none⟩=false:=fun p=>zf (m7.obj (fun x=>(P b x).1 rfl) q.out.h.c.obj)
    obtain⟨bw,bz,bk,_⟩:=zi aw;rw[aS]at q1;rw[aT]at af;have Q:=zb (show W7.cell? ⟨b,236,none⟩=some (.slice ka k.flight.length kc)∧W7.cell? ⟨b,6,none⟩=some (.int .u64 (k.next:Int))∧W7.cell? ⟨b,3,none⟩=some (.int .u64 (k.now:Int))∧W7.cell? ⟨db,1,none⟩=some (.slice ga l.fs.length gc)from⟨m7.cell (a:=⟨b,236,none⟩) (fun x=>(P b x).1 rfl) af,m7.cell (a:=⟨b,6,none⟩) (fun x=>(P b x).1 rfl) q6,m7.cell (a:=⟨b,3,none⟩) (fun x=>(P b x).1 rfl) q3,m7.cell (a:=⟨db,1,none⟩) (fun x=>(P db x).2 rfl) q1⟩);rw[aT]at D;rw[ah]at bk;subst bk;have aV:=zb D;have bA:=zb f7;clear aS aT ah aD P aw aU bj m7 D f7 e3;obtain⟨NW,aW⟩:=nm k.next;obtain⟨AT,aX⟩:=nm k.now;obtain⟨ax,ai⟩:=nm l.fs.length;obtain⟨ay,aE⟩:=nm k.flight.length;rw[aE]at af Q aV H7;rw[aW]at q6 Q;rw[aX]at q3 Q;rw[ai]at q1 Q;have bB:Hid (∀ty,(Builtin.append_ #[123,123] ty #[.slice ka ay kc,.slice (some ⟨W6.drew.heap.size,0,none⟩) 1 1]).run prog (W6.drew.alloc (.cells #[.int .u64 (NW:Int),.int .u64 (AT:Int),.slice ga ax gc] 173)) = .ok (.slice bw (ay+1) bz) W7):=by
     have h8:=aV.out;rw[aW,aX,ai]at h8;exact h8
    clear aW aX ai aE aV;go_wp2_with fail;refine zm 22 (fun w'=>w'.cell? ⟨b,236,none⟩=some (.slice ka ay kc)∧w'.cell? ⟨b,6,none⟩=some (.int .u64 (NW:Int))∧w'.cell? ⟨b,3,none⟩=some (.int .u64 (AT:Int))∧w'.cell? ⟨db,1,none⟩=some (.slice ga ax gc)) (⟨af,q6,q3,q1⟩) ?_;refine GI 0 ?_;iterate 17
     refine GS rfl ?_ ?_ ?_;rotate_left
     ·(intro S r;obtain⟨bC,f6,f3,f1⟩:=r;go_simp;try with_reducible rfl)
     try simp only[PS]
    refine zcG (i:=17) (v:=.agg #[.int .u64 (NW:Int),.int .u64 (AT:Int),.slice ga ax gc]) rfl (by kernel_rfl) (fun _ _ _ h=>h) (Or.inl ⟨by rfl,?_⟩) ?_
    ·(intro S r;(try dsimp only at r);go_simp;try with_reducible rfl)
    try simp only[PS]
    refine zz 18 rfl (fun K F=>?_);go_simp;have bD:=fun o=>(show(W6.drew.alloc o).cell? ⟨b,236,none⟩=some (.slice ka ay kc)∧(W6.drew.alloc o).cell? ⟨b,6,none⟩=some (.int .u64 (NW:Int))∧(W6.drew.alloc o).cell? ⟨b,3,none⟩=some (.int .u64 (AT:Int))∧(W6.drew.alloc o).cell? ⟨db,1,none⟩=some (.slice ga ax gc)from⟨((Mod.refl NoB W6.drew).alloc o).cell (a:=⟨b,236,none⟩) id af,((Mod.refl NoB W6.drew).alloc o).cell (a:=⟨b,6,none⟩) id q6,((Mod.refl NoB W6.drew).alloc o).cell (a:=⟨b,3,none⟩) id q3,((Mod.refl NoB W6.drew).alloc o).cell (a:=⟨db,1,none⟩) id q1⟩)
    refine F.out _ _ (bD _) ?_;clear F K;try simp only[PS]
    refine zz 19 rfl (fun K F=>?_);refine zO rfl _ _ _ _ rfl _ _ _ rfl rfl bB.out ?_;refine F.out _ _ Q.out ?_;clear F K;try simp only[PS]
    refine GI 20 ?_;iterate 2
     refine GS rfl ?_ ?_ ?_;rotate_left
     ·(intro S r;obtain⟨bC,f6,f3,f1⟩:=r;go_simp;try with_reducible rfl)
     try simp only[PS]
    refine zW rfl (fun K F=>?_);have f7:=bA.out;obtain⟨u36,u6,u3_,u1⟩:=Q.out;go_simp;refine F.out _ _ ?_;clear F K;try simp only[PS]
    refine zo ?_;go_wp2_with fail;go_meet;exact H7.out
  case rest =>
  obtain⟨u,V5,H7⟩:=hcut;clear q;obtain⟨C7,az⟩:∃C7:CS,{ k with flight:=if l.wants then k.flight++[⟨k.next,k.now,l.fs⟩]else k.flight }=C7:=⟨_,rfl⟩;have aj:Hid ({ C7 with next:=C7.next+1 }=k.pkDone l):=by
   show _=_;rw[←az];rfl
  have bm:C7.next=c'.next:=by
   have h1:=H.out.2.2.2.1;rw[L.out.1]at h1;rw[←az,←h1]
  rw[az]at H7;have p6:wc.cell? ⟨b,6,none⟩=some (.int .u64 (C7.next:Int)):=H7.out.c.hd (j:=6) rfl;have pf:=H7.out.c.fz;obtain⟨NX,aA⟩:=nm C7.next;have bE:NX+1<18446744073709551616:=by
   have:=y.out.1.next;unfold zD at this;omega
  have H8:Hid (zgZ tag i b W (k.pkDone l) G (f++[zcq l.b]) u V5 (z++[.slice sa sn sc]) (.slice oa' (z.length+1) oc') u4 (wc.setCell ⟨b,6,none⟩ (.int .u64 ((NX+1:Nat):Int)))):=by
   have h8:=H7.out.next;rw[aA]at h8;rw[←aj.out,aA];exact h8
  rw[aA]at p6;have yx:IntKind.u64.wrap ((NX:Int)+1)=((NX+1:Nat):Int):=by rw[IntKind.wrap_u64];omega
  have ak:Hid (zmV (k.pkDone l) G∧zi3 (k.pkDone l) G<zi3 c' told):=ba.out.2.2.2.2.2.2 aQ.out;clear az aj bm H7 aA;go_wp2_with fail;go_roundw
  case rel =>
   refine⟨m,_,_,_,u,V5,_,H8,zb ⟨ak.out.1,by have:=y.out.2.1;have:=ak.out.2;omega,?_,?_⟩,zb (by have:=a2.out;rw[List.length_append,List.length_singleton];omega)⟩
   ·have h1:=y.out.2.2.1;rw[av.out,if_neg aQ.out]at h1;rw[←h1];simp
   ·have h1:=y.out.2.2.2;rw[av.out,if_neg aQ.out]at h1;exact h1
  case measure =>
   have h1:=ak.out.2;have h2:=aF.out;obtain⟨xa,xc,hx⟩:=H8.out.t.form;have h3:=H8.out.c.flLen;show(12-zdq b 236 (wc.setCell ⟨b,6,none⟩ (.int .u64 ((NX+1:Nat):Int))))+znv u4<(12-zdq b 236 wr)+znv (.slice ta told.length tc);rw[h3,hx];show _<(12-zdq b 236 wr)+told.length;rw[h2];exact h1
theorem znx:(prog.info? 9).map (fun i=>(i.zero,i.size,i.bytes))=some (some (.string ⟨#[]⟩),1,16):=by kernel_rfl
def zhY(l:List (List UInt8)):List Value:=l.map fun s=>.string (zq s)
theorem zpI(w:World)(v:Value)(l:List (List UInt8))(s:List UInt8)(h:w.ownsRow 0 9 1 v l.length (zhY l))(hl:l.length≤1099511627776):∃v' w',(∀ty,(Builtin.append_ #[53,53] ty #[v,.slice (some ⟨w.heap.size,0,none⟩) 1 1]).run prog (w.alloc (.cells #[.string (zq s)] 9)) = .ok v' w')∧w'.ownsRow 0 9 1 v' (l.length+1) (zhY (l++[s]))∧(w.alloc (.cells #[.string (zq s)] 9)).grownBy w' v.ownBlock∧zaH w v v':=by
 obtain⟨o,d⟩:=nm ((Obj.cells #[.string (zq s)] 9 (0,0)));obtain⟨i,a,hz,b,c⟩:=info_parts znx;have hc:∀(j:Nat) u,(zhY [s])[j]?=some u→(w.alloc o).cell? ((⟨w.heap.size,0,none⟩:Addr).add j)=some u:=fun j u hj=>by
  rw[zU,←d];refine za (heap_alloc_new w _) ?_;rw[Nat.zero_add,←Array.getElem?_toList];exact hj
 obtain⟨v',w',k1,k2,k3,k4⟩:=zQ (P:=prog) (w.alloc o) 53 9 i _ 1 16 underlying53 a hz b c rfl (by decide) v l.length (zhY l) (((Mod.refl NoB w).alloc o).owns h (fun _ _ x=>x))
  ⟨w.heap.size,0,none⟩ 1 1 (zhY [s]) rfl hc (by
   intro u f;simp[zhY]at f;subst f;rfl) (by unfold maxLen;omega) (by omega)
 have e:zhY (l++[s])=zhY l++zhY [s]:=by simp[zhY]
 rw[d,e];refine⟨v',w',k1,k2,k3,fun g hg=>?_⟩;rcases k4 g hg with x|x
 ·exact .inl x
 ·refine .inr ?_;simp at x;omega
def PPost(tag:Nat→Nat×Nat)(i b:Nat)(W:World)(a:List (List UInt8))(c':CS)(e:Ending)(W':World):Prop :=
 ∃v tag' V',e = .returned v∧zg tag' i b c' V' W'∧Ext i tag tag' W W'∧Mod (zai i tag) W W'∧ziu i tag'∧W'.ownsRow 0 9 1 v a.length (zhY a)∧∀g,v.ownBlock=some g→W.heap.size≤g∧tag' g=(0,0)
def zjp(vs:List Value)(k:Nat)(g:Nat):Prop:=∃j u,j<k∧vs[j]?=some u∧u.ownBlock=some g
theorem zhZ(h:zg tag i b c V W)(E:Env i tag W)(nd:ziu i tag)(h0:c.closed=0)(ok:zmV c.acks.2 c.acks.1)(hg:c.got.Ok)(I:c.packets.1.length≤1099511627776)(s:∀l∈c.packets.1,l.length≤1099511627776):Calls prog 27 #[.pointer (some ⟨b,0,none⟩)] W (PPost tag i b W c.packets.1 c.packets.2):=by
 have k1:=zjo h E nd h0 ok hg;obtain⟨R,hR⟩:=nm c.packets;rw[hR]at k1 I s ⊢;obtain⟨d,c'⟩:=R;simp only at k1 I s ⊢;have HE:=zb E;have HC:=zb h;have K1:=zb k1;have ak:=zb s;clear h E ok k1 hR nd hg s h0;go_enter func27,ntmps27;go_wp2_with fail;refine(K1.out).mono ?_;rintro _ W2 ⟨v,o,tag',V',rfl,h2,e2,m2,t,T⟩;clear K1;obtain⟨N,hN⟩:=nm d.length;have J:o.length=N:=by rw[t.len,hN]
 obtain⟨oa,oc,rfl,al,am,U⟩:=zi t.own;rw[J]at al U ⊢;rw[hN]at I;unfold maxLen at am;have H2:=zb h2;have E2:=zb e2;have M2:=zb m2;have an:=zb T;have Q:=zb t;have X:=zb J;have B:=zb hN;have ao:Hid (W.heap.size≤W2.heap.size):=zb m2.size;clear h2 e2 m2 T t J hN;go_wp2_with fail
 go_loopw [3,10] (fun sv K wr=>∃k:Nat,k≤N∧K = .int .i64 (k:Int)∧Hid (wr.ownsRow 0 9 1 sv (d.take k).length (zhY (d.take k))∧(∀g,sv.ownBlock=some g→W2.heap.size≤g)∧Mod (zjp o k) W2 wr)) (fun _ K _=>N-(intOf K).toNat)
 case atStart=>exact⟨0,Nat.zero_le _,rfl,zb ⟨World.ownsRow_nil _ 0 _ 1,fun g hg=>by simp[Value.ownBlock]at hg,Mod.refl _ _⟩⟩
 case round =>
  obtain⟨k,hk,rfl,C⟩:=hrel;obtain⟨sa,sc,ap,aq,ar,_⟩:=zi C.out.1;subst ap;have m:(d.take k).length=k:=by rw[List.length_take,B.out];omega
  by_cases w:k<N
  ·obtain⟨u,Y⟩:∃u,o[k]?=some u:=⟨o[k]'(by rw[X.out];exact w),List.getElem?_eq_getElem (by rw[X.out];exact w)⟩;obtain⟨l,hl⟩:∃l,d[k]?=some l:=⟨d[k]'(by rw[B.out];exact w),List.getElem?_eq_getElem (by rw[B.out];exact w)⟩;obtain⟨y,au⟩:=Q.out.each k u l Y hl;have Z:=ak.out l (List.mem_of_getElem? hl);have D:∀g,u.ownBlock=some g→¬zjp o k g:=fun g hg ⟨j,x,hj,hx,hxg⟩=>Q.out.apart j k x u hj hx Y g hxg hg
   have e:OB wr u l:=C.out.2.2.owns y D;obtain⟨g0,rfl⟩:=U (by omega);have av:wr.cell? ⟨g0,k,none⟩=some u:=by
    have aa:¬zjp o k g0:=fun⟨j,x,hj,hx,hxg⟩=>by
     obtain⟨lj,M⟩:∃l,d[j]?=some l:=⟨d[j]'(by rw[B.out];omega),List.getElem?_eq_getElem (by rw[B.out];omega)⟩;exact zhv Q.out.own (Q.out.each j x lj hx M).1 (by decide) (g:=g0) rfl hxg
    have h5:=Q.out.own.cells (g:=g0) rfl k u Y;rw[zU]at h5;have h6:=C.out.2.2.cell (a:=⟨g0,0+k,none⟩) aa h5;rw[Nat.zero_add]at h6;exact h6
   obtain⟨O,uc,aw,ax,ay,P⟩:=zi e;subst aw;unfold maxLen at ay;obtain⟨L,hL⟩:=nm l.length;have hcv:(convert 60 9 (.slice O L uc)).run prog wr = .ok (.string (zq l)) wr:=by
    have:=zbu (OB.br e);rw[hL]at this;exact this
   rw[hL]at ax P av Z;obtain⟨v',S,happ,z,A,ab⟩:=zpI wr (.slice sa (d.take k).length sc) (d.take k) l C.out.1 (by omega);obtain⟨va,vc,rfl,_⟩:=zi z;have m3:Mod (fun g=>(Value.slice sa (d.take k).length sc).ownBlock=some g) wr S:=(((Mod.refl NoB wr).alloc _).mono (fun _ x=>x.elim)).trans ((Mod.refl _ _).grown A (fun g hg=>.inl hg));have f:=C.out.2.1;have ac:∀g,O=some ⟨g,0,none⟩→g<W2.heap.size:=fun g hg=>by subst hg;exact zE y g rfl
   have F:OB S (.slice O l.length uc) l:=m3.owns e (fun g hg x=>by
    have h5:=f g x;have h6:=zE y g hg;omega)
   have G:∀g,O=some ⟨g,0,none⟩→zbb S g L:=fun g hg=>by
    subst hg;rw[←hL];exact F.open_
   have ad:=C.out.2.2.size;have n:∀g,(Value.slice va ((d.take k).length+1) vc).ownBlock=some g→W2.heap.size≤g:=fun g hg=>by
    rcases ab g hg with x|x
    ·exact f g x
    ·omega
   have ae:d.take (k+1)=d.take k++[l]:=by rw[List.take_add_one,hl];rfl
   have af:Mod (zjp o k) W2 S:=C.out.2.2.then m3 (fun g hg=>.inr (f g hg));have ah:Hid (S.ownsRow 0 9 1 (.slice va (k+1) vc) (d.take (k+1)).length (zhY (d.take (k+1)))):=zb (by
    rw[ae,List.length_append,List.length_singleton];rw[m]at z ⊢;exact z)
   rw[m]at happ n;have ai:=zb n;have az:=zb ac;have aA:=zb P;have aB:=zb G;have aC:=zb af;have aD:Hid (∀g,O=some ⟨g,0,none⟩→zjp o (k+1) g):=zb (fun g hg=>⟨k,_,by omega,Y,by rw[hg];rfl⟩);have HTL:=zb m;rw[m];clear y au D e Y hl P z A ab m3 f ac F G ad n ae af m Z aq ar;go_wp2_with (at_builtin;refine zl rfl _ _ _ _ rfl _ _ _ rfl rfl happ ?_)
   go_loopw [21] (fun K wr=>∃j:Nat,j≤L∧K = .int .i64 j∧Hid (∀g,O=some ⟨g,0,none⟩→zbb wr g L)∧Hid (Mod (fun g=>O=some ⟨g,0,none⟩) S wr)) (fun K _=>L-(intOf K).toNat)
   case atStart=>exact⟨0,Nat.zero_le _,rfl,aB,zb (Mod.refl _ _)⟩
   case round =>
    obtain⟨j,hj,rfl,HP,HM⟩:=hrel;by_cases aj:j<L
    ·obtain⟨g,hg⟩:=aA.out (by omega);subst hg;obtain⟨⟨v0,e0⟩,z0⟩:=(HP.out g rfl).cell aj;have aE:Hid (∀g',some (⟨g,0,none⟩:Addr)=some ⟨g',0,none⟩→zbb (wr.setCell ⟨g,j,none⟩ (.int .u8 33)) g' L):=zb (fun g' A=>by
      cases A;exact(HP.out g rfl).set j _)
     have aF:=zb (HM.out.setCell (p:=⟨g,j,none⟩) (.inl rfl) (.int .u8 33));go_wp2_with fail;go_roundw
     case rel=>exact⟨j+1,by omega,by go_num,aE,aF⟩
     case measure=>simp[intOf];omega
    ·have HF:Hid (wr.ownsRow 0 9 1 (.slice va (k+1) vc) (d.take (k+1)).length (zhY (d.take (k+1)))∧(∀g,(Value.slice va (k+1) vc).ownBlock=some g→W2.heap.size≤g)∧Mod (zjp o (k+1)) W2 wr):=zb
      ⟨HM.out.owns ah.out (fun g hg x=>by
       have h5:=ai.out g hg;have h6:=az.out g x;omega),ai.out,(aC.out.mono (fun g ⟨q,x,hq,r⟩=>.inl ⟨q,x,by omega,r⟩)).then HM.out (fun g hg=>.inl (aD.out g hg))⟩
     go_wp2_with fail;go_roundw
     case rel=>exact⟨k+1,by omega,by go_num,HF⟩
     case measure=>simp[intOf];omega
  ·have aG:k=N:=by omega
   have ht:d.take k=d:=List.take_of_length_le (by rw[B.out];omega);have H:=C.out;rw[ht]at H;have hz:∀g,zjp o k g→(tag' g)=(0,0)∧W.heap.size≤g:=fun g ⟨j,x,hj,hx,hxg⟩=>by
    obtain⟨lj,M⟩:∃l,d[j]?=some l:=⟨d[j]'(by rw[B.out];omega),List.getElem?_eq_getElem (by rw[B.out];omega)⟩;obtain⟨a,b⟩:=(Q.out.each j x lj hx M).2 g hxg;exact⟨b,a⟩
   have HF:Hid (PPost tag i b W d c' (.returned (.slice sa d.length sc)) wr):=zb
    ⟨_,tag',V',rfl,H2.out.mod H.2.2 (fun g hg=>by rw[(hz g hg).1];have:=HE.out.pos;simp;omega) (fun _ _=>rfl),⟨E2.out.old,E2.out.new,E2.out.out.mod H.2.2⟩,M2.out.then H.2.2 (fun g hg=>.inr (hz g hg).2),an.out,H.1,fun g hg=>⟨Nat.le_trans ao.out (H.2.1 g hg),E2.out.out g (H.2.1 g hg)⟩⟩
   rw[ht];clear aG;go_wp2_with fail;go_ret;exact HF.out
def At(bs:List UInt8)(pos:Nat)(l:List UInt8):Prop:=∃pre post,bs=pre++(l++post)∧pre.length=pos
variable{bs:List UInt8}{pos:Nat}
theorem At.left{a b:List UInt8}(h:At bs pos (a++b)):At bs pos a:=by
 obtain⟨pre,post,rfl,rfl⟩:=h;exact⟨pre,b++post,by simp,rfl⟩
theorem At.right{a b:List UInt8}(h:At bs pos (a++b)):At bs (pos+a.length) b:=by
 obtain⟨pre,post,rfl,rfl⟩:=h;exact⟨pre++a,post,by simp,by simp⟩
theorem At.le{a:List UInt8}(h:At bs pos a):pos+a.length≤bs.length:=by
 obtain⟨pre,post,rfl,rfl⟩:=h;simp
theorem At.head{a:UInt8}(h:At bs pos (a::l)):bs[pos]?=some a:=by
 obtain⟨pre,post,rfl,rfl⟩:=h;simp
theorem At.tail{a:UInt8}(h:At bs pos (a::l)):At bs (pos+1) l:=At.right (a:=[a]) h
theorem At.sub(h:At bs pos l):(bs.drop pos).take l.length=l:=by
 obtain⟨pre,post,rfl,rfl⟩:=h;simp
theorem zaW(hn:n<4611686018427387904)(h:At bs pos (zN n)):zas bs pos=some (n,pos+(zN n).length):=by
 have a:=h.le;unfold zN at h a ⊢;unfold zas;split at h
 ·rename_i h1;rw[h.head];have e:(UInt8.ofNat n).toNat=n:=by rw[UInt8.toNat_ofNat'];omega
  have c:vsz (UInt8.ofNat n)=1:=by unfold vsz;rw[e];rw[show n / 64=0 by omega]
  simp only[h1,if_true]at a ⊢;simp only[List.length_singleton]at a;rw[c];rw[if_pos a];simp[zc3,e];omega
 ·rename_i h1;split at h
  ·rename_i h2;rw[h.head];have e:(UInt8.ofNat (n / 256+64)).toNat=n / 256+64:=by rw[UInt8.toNat_ofNat'];omega
   have c:vsz (UInt8.ofNat (n / 256+64))=2:=by unfold vsz;rw[e];rw[show(n / 256+64) / 64=1 by omega]
   simp only[h1,h2,if_true,if_false]at a ⊢;simp only[List.length_cons,List.length_nil]at a;rw[c];rw[if_pos (by omega)];have b:=h.tail.sub;simp only[List.length_cons,List.length_nil]at b;simp only[Nat.zero_add]at b;rw[show(2:Nat)-1=1 from rfl,b];simp[zc3,UInt8.toNat_ofNat'];omega
  ·rename_i h2;split at h
   ·rename_i h3;rw[h.head];have e:(UInt8.ofNat (n / 16777216+128)).toNat=n / 16777216+128:=by rw[UInt8.toNat_ofNat'];omega
    have c:vsz (UInt8.ofNat (n / 16777216+128))=4:=by unfold vsz;rw[e];rw[show(n / 16777216+128) / 64=2 by omega]
    simp only[h1,h2,h3,if_true,if_false]at a ⊢;simp only[List.length_cons,List.length_nil]at a;rw[c];rw[if_pos (by omega)];have b:=h.tail.sub;simp only[List.length_cons,List.length_nil]at b;simp only[Nat.zero_add]at b;rw[show(4:Nat)-1=1+1+1 from rfl,b];simp[zc3,UInt8.toNat_ofNat'];omega
   ·rename_i h3;rw[h.head];have e:(UInt8.ofNat (n / 72057594037927936+192)).toNat=n / 72057594037927936+192:=by rw[UInt8.toNat_ofNat'];omega
    have c:vsz (UInt8.ofNat (n / 72057594037927936+192))=8:=by unfold vsz;rw[e];rw[show(n / 72057594037927936+192) / 64=3 by omega]
    simp only[h1,h2,h3,if_false]at a ⊢;simp only[List.length_cons,List.length_nil]at a;rw[c];rw[if_pos (by omega)];have b:=h.tail.sub;simp only[List.length_cons,List.length_nil]at b;simp only[Nat.zero_add]at b;rw[show(8:Nat)-1=1+1+1+1+1+1+1 from rfl,b];simp[zc3,UInt8.toNat_ofNat'];omega
theorem zdS(hn:n<8)(h:At bs pos (zN n)):zao bs pos=some (n,pos+(zN n).length):=by
 unfold zao;rw[zaW (by omega) h];simp[hn]
theorem zjw(hn:l.length<4611686018427387904)(h:At bs pos (zN l.length++l)):zbv bs pos=some (l,pos+(zN l.length++l).length):=by
 unfold zbv;rw[zaW hn h.left];have h2:=h.right.le;have h3:=h.right.sub;simp only[Option.bind_some];rw[if_pos (by omega),h3];simp;omega
theorem zh9(rs:zA)(k:Nat):∀m,k≤m→∃t,zc5 rs m=zc5 rs k++t∧(k<m→∃u,t=zN (loAt rs k-hiAt rs (k+1)-2)++(zN (hiAt rs (k+1)-loAt rs (k+1))++u)∧zc5 rs m=zc5 rs (k+1)++u)
 | 0,h=>⟨[],by simp[show k=0 by omega],fun x=>by omega⟩
 | m+1,h=>by
  by_cases hk:k=m+1
  ·subst hk;exact⟨[],by simp,fun x=>by omega⟩
  ·obtain⟨t,h1,h2⟩:=zh9 rs k m (by omega);refine⟨t++(zN (loAt rs m-hiAt rs (m+1)-2)++zN (hiAt rs (m+1)-loAt rs (m+1))),?_,fun _=>?_⟩
   ·simp only[zc5,h1,List.append_assoc]
   ·by_cases hm:k=m
    ·subst hm;have:t=[]:=by
      have:=congrArg List.length h1;simp at this;exact this
     subst this;exact⟨[],by simp,by simp⟩
    ·obtain⟨u,e1,e2⟩:=h2 (by omega);refine⟨u++(zN (loAt rs m-hiAt rs (m+1)-2)++zN (hiAt rs (m+1)-loAt rs (m+1))),?_,?_⟩
     ·rw[e1];simp only[List.append_assoc]
     ·simp only[zc5,e2,List.append_assoc]
theorem zia(rs:zA)(k:Nat)(hk:k<rs.length):rs.take (k+1)=rs.take k++[(loAt rs k,hiAt rs k)]:=by
 rw[List.take_add_one,List.getElem?_eq_getElem hk];unfold loAt hiAt;rw[List.getD_eq_getElem?_getD,List.getElem?_eq_getElem hk];rfl
theorem znI(rs:zA)(a:zaw rs=true):∀(d k fuel pos:Nat) (l:List UInt8),rs.length=k+1+d→d<fuel→zc5 rs (rs.length-1)=zc5 rs k++l→At bs pos l →
  zc6 bs fuel (hiAt rs k) d (hiAt rs k-loAt rs k) pos (rs.take k)=some (rs,pos+l.length)
 | 0,k,fuel+1,pos,l,hl,hf,he,ha=>by
  obtain⟨f1,f2,f3⟩:=zcX a (i:=k) (by omega);have:l=[]:=by
   have:=congrArg List.length he;rw[show rs.length-1=k by omega]at this;simp at this;exact this
  subst this;unfold zc6;rw[if_neg (by omega),if_pos rfl];have e:=zia rs k (by omega);rw[show hiAt rs k-(hiAt rs k-loAt rs k)=loAt rs k by omega,←e,List.take_of_length_le (by omega)];simp
 | d+1,k,fuel+1,pos,l,hl,hf,he,ha=>by
  obtain⟨f1,f2,f3⟩:=zcX a (i:=k) (by omega);obtain⟨g1,g2,b⟩:=zcX a (i:=k+1) (by omega);have b:=b (by omega);simp only[Nat.add_sub_cancel]at b;obtain⟨t,e1,e2⟩:=zh9 rs k (rs.length-1) (by omega);have:t=l:=List.append_cancel_left (e1.symm.trans he);subst this;obtain⟨u,e3,e4⟩:=e2 (by omega);subst e3;unfold zc6;rw[if_neg (by omega),if_neg (by omega)];rw[zaW (by omega) ha.left];simp only[Option.bind_some];rw[zaW (by omega) ha.right.left];simp only[Option.bind_some];have e5:hiAt rs k-(hiAt rs k-loAt rs k)=loAt rs k:=by omega
  rw[e5,if_neg (by omega)];have:=znI rs a d (k+1) fuel (pos+(zN (loAt rs k-hiAt rs (k+1)-2)).length+(zN (hiAt rs (k+1)-loAt rs (k+1))).length) u (by omega) (by omega) e4 (ha.right.right);rw[zia rs k (by omega)]at this;rw[show loAt rs k-2-(loAt rs k-hiAt rs (k+1)-2)=hiAt rs (k+1)by omega,Nat.add_sub_cancel,this];simp only[List.length_append]
  congr 2
  omega
def canon(f:Frm):Frm :=
 let z:Frm:=f0 f.kind false
 if f.kind=1 then z
 else if f.kind=2 then{ z with rngs:=f.rngs }
 else if f.kind=3 then{ z with stream:=f.stream,off:=f.off,rel:=f.rel }
 else if f.kind=4 then{ z with stream:=f.stream,off:=f.off,fin:=f.fin,data:=f.data }
 else if f.kind=5 then{ z with lim:=f.lim }
 else if f.kind=6 then{ z with stream:=f.stream,lim:=f.lim }
 else if f.kind=7 then{ z with id:=f.id,dl:=f.dl,data:=f.data }
 else{ z with lim:=f.lim }
variable{f:Frm}
theorem zkp(h:zS f=true):f.kind=1∨f.kind=2∨f.kind=3∨f.kind=4∨f.kind=5∨f.kind=6∨f.kind=7∨f.kind=8:=by
 simp only[zS,zK,Bool.and_eq_true]at h;obtain⟨_,h⟩:=h;by_cases h2:f.kind=2
 ·omega
 ·by_cases h3:f.kind=3
  ·omega
  ·by_cases h4:f.kind=4
   ·omega
   ·simp only[h2,h3,h4,if_false,Bool.and_eq_true,decide_eq_true_eq]at h;omega
theorem zfn(h:zS f=true):f.off≤4611686018427387903∧f.rel≤4611686018427387903∧f.lim≤4611686018427387903∧f.id≤4611686018427387903∧f.dl≤4611686018427387903∧0≤f.stream∧f.stream<8∧zK f=true:=by
 simp only[zS,zaC,zir,zbB,Bool.and_eq_true,List.all_cons,List.all_nil,decide_eq_true_eq]at h;obtain⟨⟨h1,h2⟩,h3⟩:=h;exact⟨h1.1,h1.2.1,h1.2.2.1,h1.2.2.2.1,h1.2.2.2.2.1,h2.1,h2.2,h3⟩
theorem zaZ(f:Frm):(canon f).kind=f.kind:=by
 unfold canon;simp only;repeat' split
 all_goals rfl
theorem zjx(h:zS f=true):zS (canon f)=true:=by
 obtain⟨a1,a2,a3,a4,a5,a6,a7,a⟩:=zfn h;rcases zkp h with hk|hk|hk|hk|hk|hk|hk|hk;all_goals
  simp only[zK,hk]at a;simp[canon,hk,zS,zaC,zir,zbB,zK,f0]at a ⊢;try omega
 all_goals exact a
theorem zib(f:Frm):0<(zC f).length:=by
 unfold zC;repeat' split
 all_goals simp[za6,zcI,zcK,zbW,zcH,zcJ,zlN]
theorem zpM(h:zS f=true)(hd:f.data.length<4611686018427387904)(hr:f.rngs.length<4611686018427387904)(a:At bs pos (zC f)):za8 bs pos=some (canon f,pos+(zC f).length):=by
 have c:=zjx h;have hck:=zaZ f;obtain⟨a1,a2,a3,a4,a5,a6,a7,a8⟩:=zfn h;have g:((f.stream.toNat:Nat):Int)=f.stream:=Int.toNat_of_nonneg a6;unfold za8;rcases zkp h with hk|hk|hk|hk|hk|hk|hk|hk
 ·have eb:zC f=[1]:=by simp[zC,hk]
  rw[eb]at a ⊢;rw[a.head];have er:zH 1 false bs (pos+1)=some (canon f,pos+1):=by simp[zH,canon,hk]
  simp[zbe,er,c]
 ·have eb:zC f=2::(zN (hiAt f.rngs 0)++(zN (f.rngs.length-1)++(zN (hiAt f.rngs 0-loAt f.rngs 0)++zc5 f.rngs (f.rngs.length-1)))):=by simp[zC,hk,za6]
  rw[eb]at a ⊢;rw[a.head];have i:zaw f.rngs=true:=by simpa [zK,hk]using a8
  have l:0<f.rngs.length:=by
   simp only[zaw,Bool.and_eq_true,decide_eq_true_eq]at i;exact i.2
  obtain⟨g1,g2,_⟩:=zcX i l;have b:=a.tail;have d:=zaW (by omega) b.left;have e:=zaW (by omega) b.right.left;have j:=zaW (by omega) b.right.right.left;have hle:=b.right.right.right.le;have m:f.rngs.length-1<bs.length+1:=by
   have:∀k,2*k≤(zc5 f.rngs k).length:=by
    intro k;have o:∀n,1≤(zN n).length:=by
     intro n;unfold zN;repeat' split
     all_goals simp
    induction k with
    | zero=>simp
    | succ k ih =>
     have:=o (loAt f.rngs k-hiAt f.rngs (k+1)-2);have:=o (hiAt f.rngs (k+1)-loAt f.rngs (k+1));simp only[zc5,List.length_append];omega
   have:=this (f.rngs.length-1);omega
  have p:=znI f.rngs i (f.rngs.length-1) 0 (bs.length+1) _ _ (by omega) m (by simp[zc5]) b.right.right.right;simp only[List.take_zero]at p;have er:zH 2 false bs (pos+1)=some (canon f,pos+(2::(zN (hiAt f.rngs 0)++(zN (f.rngs.length-1)++(zN (hiAt f.rngs 0-loAt f.rngs 0)++zc5 f.rngs (f.rngs.length-1))))).length):=by
   rw[show zH 2 false bs (pos+1)=rd2 false bs (pos+1)by simp[zH],rd2,d];simp only[Option.bind_some];rw[e];simp only[Option.bind_some];rw[j];simp only[Option.bind_some];rw[p];simp[canon,hk];omega
  simp[zbe,er,c]
 ·have eb:zC f=36::(zN f.stream.toNat++(zN f.off++zN f.rel)):=by simp[zC,hk,zcI]
  rw[eb]at a ⊢;rw[a.head];have b:=a.tail;have d:=zdS (by omega) b.left;have e:=zaW (by omega) b.right.left;have j:=zaW (by omega) b.right.right;have er:zH 3 false bs (pos+1)=some (canon f,pos+(36::(zN f.stream.toNat++(zN f.off++zN f.rel))).length):=by
   rw[show zH 3 false bs (pos+1)=rd3 false bs (pos+1)by simp[zH],rd3,d];simp only[Option.bind_some];rw[e];simp only[Option.bind_some];rw[j];simp[canon,hk,g];omega
  simp[zbe,er,c]
 ·cases hfin:f.fin
  ·have eb:zC f=8::(zN f.stream.toNat++(zN f.off++(zN f.data.length++f.data))):=by simp[zC,hk,zcK,hfin]
   rw[eb]at a ⊢;rw[a.head];have b:=a.tail;have d:=zdS (by omega) b.left;have e:=zaW (by omega) b.right.left;have j:=zjw hd b.right.right;have er:zH 4 false bs (pos+1)=some (canon f,pos+(8::(zN f.stream.toNat++(zN f.off++(zN f.data.length++f.data)))).length):=by
    rw[show zH 4 false bs (pos+1)=rd4 false bs (pos+1)by simp[zH],rd4,d];simp only[Option.bind_some];rw[e];simp only[Option.bind_some];rw[j];simp[canon,hk,g,hfin,f0];omega
   simp[zbe,er,c]
  ·have eb:zC f=9::(zN f.stream.toNat++(zN f.off++(zN f.data.length++f.data))):=by simp[zC,hk,zbW,hfin]
   rw[eb]at a ⊢;rw[a.head];have b:=a.tail;have d:=zdS (by omega) b.left;have e:=zaW (by omega) b.right.left;have j:=zjw hd b.right.right;have er:zH 4 true bs (pos+1)=some (canon f,pos+(9::(zN f.stream.toNat++(zN f.off++(zN f.data.length++f.data)))).length):=by
    rw[show zH 4 true bs (pos+1)=rd4 true bs (pos+1)by simp[zH],rd4,d];simp only[Option.bind_some];rw[e];simp only[Option.bind_some];rw[j];simp[canon,hk,g,hfin,f0];omega
   simp[zbe,er,c]
 ·have eb:zC f=16::zN f.lim:=by simp[zC,hk,zlN]
  rw[eb]at a ⊢;rw[a.head];have d:=zaW (by omega) a.tail;have er:zH 5 false bs (pos+1)=some (canon f,pos+(16::zN f.lim).length):=by
   rw[show zH 5 false bs (pos+1)=zbF 5 false bs (pos+1)by simp[zH],zbF,d];simp[canon,hk];omega
  simp[zbe,er,c]
 ·have eb:zC f=17::(zN f.stream.toNat++zN f.lim):=by simp[zC,hk,zcH]
  rw[eb]at a ⊢;rw[a.head];have b:=a.tail;have d:=zdS (by omega) b.left;have e:=zaW (by omega) b.right;have er:zH 6 false bs (pos+1)=some (canon f,pos+(17::(zN f.stream.toNat++zN f.lim)).length):=by
   rw[show zH 6 false bs (pos+1)=rd6 false bs (pos+1)by simp[zH],rd6,d];simp only[Option.bind_some];rw[e];simp[canon,hk,g];omega
  simp[zbe,er,c]
 ·have eb:zC f=48::(zN f.id++(zN f.dl++(zN f.data.length++f.data))):=by simp[zC,hk,zcJ]
  rw[eb]at a ⊢;rw[a.head];have b:=a.tail;have d:=zaW (by omega) b.left;have e:=zaW (by omega) b.right.left;have j:=zjw hd b.right.right;have er:zH 7 false bs (pos+1)=some (canon f,pos+(48::(zN f.id++(zN f.dl++(zN f.data.length++f.data)))).length):=by
   rw[show zH 7 false bs (pos+1)=rd7 false bs (pos+1)by simp[zH],rd7,d];simp only[Option.bind_some];rw[e];simp only[Option.bind_some];rw[j];simp[canon,hk,f0];omega
  simp[zbe,er,c]
 ·have eb:zC f=28::zN f.lim:=by simp[zC,hk,zlN]
  rw[eb]at a ⊢;rw[a.head];have d:=zaW (by omega) a.tail;have er:zH 8 false bs (pos+1)=some (canon f,pos+(28::zN f.lim).length):=by
   rw[show zH 8 false bs (pos+1)=zbF 8 false bs (pos+1)by simp[zH],zbF,d];simp[canon,hk];omega
  simp[zbe,er,c]
def allOk(fs:List Frm):Prop:=∀f∈fs,zS f=true∧f.data.length<4611686018427387904∧f.rngs.length<4611686018427387904
theorem znJ(b:Nat):∀(fs:List Frm) (fuel pos:Nat) (a:List Frm),allOk fs→fs.length<fuel→At bs pos (fs.flatMap zC)→pos+(fs.flatMap zC).length=bs.length →
  zc8 bs fuel b pos a = .ok b (a++fs.map canon)
 | [],fuel+1,pos,a,_,_,_,he=>by
  simp at he;unfold zc8;rw[if_neg (by omega)];simp
 | f::fs,fuel+1,pos,a,hok,hf,ha,he=>by
  obtain⟨k1,k2,k3⟩:=hok f (by simp);have hp:=zib f;simp only[List.flatMap_cons]at ha he;rw[List.length_append]at he;unfold zc8;rw[if_pos (by omega),zpM k1 k2 k3 ha.left];simp only;rw[znJ b fs fuel _ _ (fun g hg=>hok g (by simp[hg])) (by simpa using hf) ha.right (by omega)];simp
theorem zpN(fs:List Frm):fs.length≤(fs.flatMap zC).length:=by
 induction fs with
 | nil=>simp
 | cons f fs ih =>
  have:=zib f;simp only[List.flatMap_cons,List.length_append,List.length_cons];omega
theorem zpO(n:Nat)(fs:List Frm)(hn:n≤4611686018427387903)(h0:0<fs.length)(a:allOk fs):zaE (zN n++fs.flatMap zC) = .ok n (fs.map canon):=by
 have b:At (zN n++fs.flatMap zC) 0 (zN n++fs.flatMap zC):=⟨[],[],by simp,rfl⟩;have hl:=zpN fs;unfold zaE;rw[zaW (by omega) b.left];simp only[List.length_append,Nat.zero_add];rw[if_neg (by omega),znJ n fs _ _ [] a (by omega) (by simpa using b.right) (by simp)];simp
theorem zjy(l:List UInt8)(s:Nat)(hs:s<4294967296):be4 (l++zdt s) l.length=s:=by
 unfold be4 byteAt zdt;simp only[List.getD_eq_getElem?_getD];rw[List.getElem?_append_right (by omega),List.getElem?_append_right (by omega),List.getElem?_append_right (by omega),List.getElem?_append_right (by omega)];simp[show l.length+1-l.length=1 by omega,show l.length+2-l.length=2 by omega,show l.length+3-l.length=3 by omega];omega
theorem zlt(l:List UInt8):dec (l++zdt (crc l))=zaE l:=by
 have hl:(l++zdt (crc l)).length=l.length+4:=by simp[zdt]
 unfold dec;rw[hl,if_neg (by omega),Nat.add_sub_cancel,zjy l _ (zfO l),List.take_left,if_pos rfl]
variable{t:Nat}
theorem zgT{a:Nat}(h:a ^^^ t=b ^^^ t):a=b:=by
 have:=congrArg (· ^^^ t) h;simpa [Nat.xor_assoc]using this
theorem ct_top:∀a b:Fin 16,ct a.val / 268435456=ct b.val / 268435456→a.val=b.val:=by decide +kernel
theorem znK(c:Nat)(h:c<4294967296):nib c / 268435456=ct (c % 16) / 268435456:=by
 unfold nib;have e:∀x:Nat,x / 268435456=x >>> 28:=fun x=>by rw[Nat.shiftRight_eq_div_pow]
 rw[e,e,Nat.shiftRight_xor_distrib,←e (c / 16),show c / 16 / 268435456=0 by omega,Nat.zero_xor]
theorem zgU{c d:Nat}(hc:c<4294967296)(hd:d<4294967296)(h:nib c=nib d):c=d:=by
 have e:c % 16=d % 16:=ct_top ⟨c % 16,by omega⟩ ⟨d % 16,by omega⟩ (by
  show ct (c % 16) / _=ct (d % 16) / _;rw[←znK c hc,←znK d hd,h])
 unfold nib at h;rw[e]at h;have:=zgT h;omega
theorem zpP{c d:Nat}{x:UInt8}(hc:c<4294967296)(hd:d<4294967296)(h:zlM c x=zlM d x):c=d :=
 zgT (zgU (zb4 c x hc) (zb4 d x hd) (zgU (zeH _ (zb4 c x hc)) (zeH _ (zb4 d x hd)) h))
theorem znL{c:Nat}{x y:UInt8}(hc:c<4294967296)(h:zlM c x=zlM c y):x=y:=by
 have:=zgU (zb4 c x hc) (zb4 c y hc) (zgU (zeH _ (zb4 c x hc)) (zeH _ (zb4 c y hc)) h);rw[Nat.xor_comm c,Nat.xor_comm c]at this;exact UInt8.toNat_inj.1 (zgT this)
theorem zpQ(b:List UInt8):∀c d,c<4294967296→d<4294967296→b.foldl zlM c=b.foldl zlM d→c=d:=by
 induction b with
 | nil=>intro c d _ _ h;exact h
 | cons x b ih=>intro c d hc hd h;exact zpP hc hd (ih _ _ (zeI c x hc) (zeI d x hd) h)
theorem zru{a b:List UInt8}{x y:UInt8}(h:crc (a++x::b)=crc (a++y::b)):x=y:=by
 unfold crc at h;rw[Nat.xor_comm,Nat.xor_comm 4294967295]at h;have:=zgT h;unfold crcL at this;simp only[List.foldl_append,List.foldl_cons]at this;have hl:=zec a 4294967295 (by omega);exact znL hl (zpQ b _ _ (zeI _ _ hl) (zeI _ _ hl) this)
theorem zpR(l:List UInt8)(i:Nat)(h:i<l.length)(y:UInt8):∃a b,l=a++l[i]::b∧l.set i y=a++y::b∧a.length=i:=by
 refine⟨l.take i,l.drop (i+1),by simp,?_,by simp;omega⟩;rw[List.set_eq_take_append_cons_drop,if_pos h]
theorem zlu(l:List UInt8)(i:Nat)(y:UInt8)(hi:i<(l++zdt (crc l)).length)(c:(l++zdt (crc l))[i]≠y):dec ((l++zdt (crc l)).set i y) = .sum:=by
 have hl:(l++zdt (crc l)).length=l.length+4:=by simp[zdt]
 unfold dec;rw[List.length_set,hl,if_neg (by omega),Nat.add_sub_cancel,if_neg];intro hc;by_cases h:i<l.length
 ·rw[List.set_append_left i y h,List.take_left' (by simp)]at hc;have hb:=zjy (l.set i y) (crc l) (zfO l);rw[List.length_set]at hb;rw[hb]at hc;obtain⟨a,b,f,d,e3⟩:=zpR l i h y;rw[d]at hc;have e4:crc l=crc (a++l[i]::b):=by rw[←f]
  rw[e4]at hc;have:=zru hc;rw[List.getElem_append_left h]at c;exact c this
 ·have e:∃s,(l++zdt (crc l)).set i y=l++s∧s=(zdt (crc l)).set (i-l.length) y:=⟨_,List.set_append_right i y (by omega),rfl⟩;obtain⟨s,f,d⟩:=e;rw[f,List.take_left]at hc;have hs:be4 (l++s) l.length=be4 s 0:=by
   have hx:s.length=4:=by rw[d];simp[zdt]
   unfold be4 byteAt;simp only[List.getD_eq_getElem?_getD];rw[List.getElem?_append_right (by omega),List.getElem?_append_right (by omega),List.getElem?_append_right (by omega),List.getElem?_append_right (by omega)];simp[show l.length+1-l.length=1 by omega,show l.length+2-l.length=2 by omega,show l.length+3-l.length=3 by omega]
  rw[hs]at hc;have h0:=zjy [] (crc l) (zfO l);simp only[List.nil_append,List.length_nil]at h0;rw[←h0,d]at hc;have hk:i-l.length<4:=by rw[hl]at hi;omega
  obtain⟨k,g⟩:=nm (i-l.length);rw[List.getElem_append_right (by omega)]at c;simp only[g]at c hc hk;have hyl:=y.toNat_lt;have hb:∀n,(UInt8.ofNat n).toNat<256:=fun n=>(UInt8.ofNat n).toNat_lt
  unfold zdt at hc c;have hb0:=hb (crc l / 16777216);have hb1:=hb (crc l / 65536);have hb2:=hb (crc l / 256);have hb3:=hb (crc l);have j:∀z:UInt8,z≠y→z.toNat≠y.toNat:=fun z h e=>h (UInt8.toNat_inj.1 e)
  have m:k=0∨k=1∨k=2∨k=3:=by omega
  rcases m with rfl|rfl|rfl|rfl;all_goals
   simp[be4,byteAt,-UInt8.toNat_ofNat']at hc c;have:=j _ c;omega
def zpS(n:Nat)(l:List Frm):List UInt8:=zN n++l.flatMap zC
theorem zfo(tmps:Array Value)(w:World)(a:Nat)(n fv:Value)(h2:tmps.getD 2 undef = .pointer (some ⟨a,0,none⟩))
  (c0:w.cell? ⟨a,0,none⟩=some n) (c1:w.cell? ⟨a,1,none⟩=some fv) :
  (results f42 tmps).run prog w = .ok (.tuple #[.agg #[n,fv],tmps.getD 3 undef]) w:=by
 have b:tmps[2]?.getD undef = .pointer (some ⟨a,0,none⟩):=by rw[←h2];simp
 simp[results,results42,go_sem,b,c0,c1]
theorem zal.shape{r:zit}{e:Ending}(h:zal w r e w'):∃x fa fl fc ev,e = .returned (.tuple #[.agg #[.int .u64 x,.slice fa fl fc],ev]):=by
 cases r with
 | sum=>exact⟨_,_,_,_,_,h.2⟩
 | bad a=>obtain⟨_,fa,b,_⟩:=h;exact⟨_,_,_,_,_,b⟩
 | ok n fs =>
  obtain⟨_,fv,rvs,b,ho,_⟩:=h;obtain⟨fa,fc,rfl,_⟩:=zi ho.1;exact⟨_,_,_,_,_,b⟩
variable{X:World}
theorem zal.from{r:zit}{e:Ending}(m:Mod NoB w X)(h:zal X r e w'):zal w r e w':=by
 refine⟨m.trans h.1,?_⟩;have hs:=m.size;cases r with
 | sum=>exact h.2
 | bad a =>
  obtain⟨_,fa,b,c,hl⟩:=h;exact⟨fa,b,c,by omega⟩
 | ok n fs =>
  obtain⟨_,fv,d,b,c,hm,h1,h2⟩:=h;exact⟨fv,d,b,c,hm,fun g hg=>by have:=h1 g hg;omega,fun x hx g hg=>by have:=h2 x hx g hg;omega⟩
theorem zal.to{Y:World}{r:zit}{e:Ending}(h:zal w r e X)(m:Mod S X Y)(f:∀i,S i→∃cs T fz,X.heap[i]?=some (.cells cs T fz)∧T≠65∧T≠214∧T≠167)(hw:∀i,S i→w.heap.size≤i):zal w r e Y:=by
 refine⟨h.1.then m (fun i hi=>.inr (hw i hi)),?_⟩;cases r with
 | sum=>exact h.2
 | bad a =>
  obtain⟨_,g,c,b,hl⟩:=h;refine⟨g,c,m.obj (fun hx=>?_) b,hl⟩;obtain⟨cs,T,fz,h1,_,_,h4⟩:=f g hx;rw[h1]at b;simp at b;exact h4 b.2.1
 | ok n fs =>
  obtain⟨_,fv,d,c,b,hm,h1,h2⟩:=h;exact⟨fv,d,c,zis.mod b m (fun i hi=>.inr (by obtain⟨cs,T,fz,q1,q2,q3,_⟩:=f i hi;exact⟨cs,T,fz,q1,q2,q3⟩)),hm,h1,h2⟩
theorem zjz(v:Value)(bs:List UInt8)(w:World)(hb:BR w v bs)(n:Tab w)(hl:bs.length<1099511627776):Calls prog 42 #[v] w (zal w (dec bs)):=by
 have g:Mod NoB w (w.alloc (.cells #[.int .u64 0,.slice none 0 0] 56)):=(Mod.refl _ _).alloc _;have b:(w.alloc (.cells #[.int .u64 0,.slice none 0 0] 56)).heap[w.heap.size]?=some (.cells #[.int .u64 0,.slice none 0 0] 56 (0,0)):=heap_alloc_new w _;obtain⟨W0,d⟩:=nm (w.alloc (.cells #[.int .u64 0,.slice none 0 0] 56));rw[d]at g b;have o:=zcn v bs W0 (hb.mod g (za2.no _)) (n.mod g (fun x=>x)) hl;have M0:=zb g;have HQ:=zb b;have l:=zb d;obtain⟨a,cap,rfl,_⟩:=hb;clear g b d n;go_enter func42,ntmps42;go_wp2_with fail;rw[l.out];refine o.mono ?_;intro e c j;obtain⟨x,m,fl,fc,ev,rfl⟩:=j.shape;have b:c.heap[w.heap.size]?=some (.cells #[.int .u64 0,.slice none 0 0] 56 (0,0)):=j.1.obj (fun x=>x) HQ.out;have q0:c.cell? ⟨w.heap.size,0,none⟩=some (.int .u64 0):=za b rfl;have q1:c.cell? ⟨w.heap.size,1,none⟩=some (.slice none 0 0):=za b rfl;have z0:c.frozen? ⟨w.heap.size,0,none⟩=false:=zf b;have z1:c.frozen? ⟨w.heap.size,1,none⟩=false:=zf b;have HD:=zb j;have h:=zb b;clear j o b;go_wp2_with fail;obtain⟨WF,f⟩:=nm ((c.setCell ⟨w.heap.size,0,none⟩ (.int .u64 x)).setCell ⟨w.heap.size,1,none⟩ (.slice m fl fc));rw[f];have mF:Mod (fun k=>k=w.heap.size) c WF:=by
  rw[←f];exact((Mod.refl (fun k=>k=w.heap.size) c).setCell (p:=⟨w.heap.size,0,none⟩) (.inl rfl) _).setCell (p:=⟨w.heap.size,1,none⟩) (.inl rfl) _
 have q:WF.heap[w.heap.size]?=some (.cells #[.int .u64 x,.slice m fl fc] 56 (0,0)):=by
  rw[←f];exact zc (zc h.out)
 refine bodyPost_ret (zfo _ _ w.heap.size (.int .u64 x) (.slice m fl fc) rfl (za q rfl) (za q rfl)) rfl ?_;refine zal.to (HD.out.from M0.out) mF (fun i hi=>?_) (fun i hi=>?_)
 ·have hi:i=w.heap.size:=hi;subst hi;exact⟨_,_,_,h.out,by decide,by decide,by decide⟩
 ·have hi:i=w.heap.size:=hi;omega
def zrL(w:World)(r:zit)(e:Ending)(w':World):Prop :=
 Mod NoB w w'∧match r with
 | .sum=>e = .returned (.tuple #[.agg #[.int .u64 0,.slice none 0 0],.int .i64 7,.int .i64 (-1)])
 | .bad at_=>e = .returned (.tuple #[.agg #[.int .u64 0,.slice none 0 0],.int .i64 8,.int .i64 (at_:Int)])
 | .ok num fs=>∃fv rvs,e = .returned (.tuple #[.agg #[.int .u64 (num:Int),fv],.int .i64 0,.int .i64 (-1)])∧zis w' fv rvs∧rvs.map (·.1)=fs∧(∀g,fv.ownBlock=some g→w.heap.size≤g)∧∀x∈rvs,∀g,x.2.ownBlock=some g→w.heap.size≤g
theorem zfp(tmps:Array Value)(w:World)(a:Nat)(n fv:Value)(h2:tmps.getD 2 undef = .pointer (some ⟨a,0,none⟩))
  (c0:w.cell? ⟨a,0,none⟩=some n) (c1:w.cell? ⟨a,1,none⟩=some fv) :
  (results f23 tmps).run prog w = .ok (.tuple #[.agg #[n,fv],tmps.getD 3 undef,tmps.getD 4 undef]) w:=by
 have b:tmps[2]?.getD undef = .pointer (some ⟨a,0,none⟩):=by rw[←h2];simp
 simp[results,results23,go_sem,b,c0,c1]
def BangAt(W:World)(v:Value)(wr:World):Prop:=zfL (fun k=>v.ownBlock=some k) W wr
theorem zic{r:zit}{p ev:Value}(h:zal w r (.returned (.tuple #[p,ev])) X)(hg:zei X):∃n at_,Calls prog 43 #[ev] X (zfW X n at_)∧∀w',Mod NoB X w'→zrL w r (.returned (.tuple #[p,.int .i64 n,.int .i64 at_])) w':=by
 cases r with
 | sum =>
  obtain⟨m,c⟩:=h;cases c;exact⟨7,-1,zmq 7 X hg,fun w' b=>⟨m.trans b,rfl⟩⟩
 | bad a =>
  obtain⟨m,fa,c,d,hl⟩:=h;cases c;exact⟨8,a,zqg fa 8 a X hg (za d rfl) (za d rfl),fun w' b=>⟨m.trans b,rfl⟩⟩
 | ok n fs =>
  obtain⟨m,fv,e,c,d,hm,h1,h2⟩:=h;cases c;exact⟨0,-1,zgD X,fun w' b=>⟨m.trans b,fv,e,rfl,zis.mod d b (fun i hi=>hi.elim),hm,h1,h2⟩⟩
theorem zrL.to{Y:World}{r:zit}{e:Ending}(h:zrL w r e X)(m:Mod S X Y)(hS:∀i,S i→∃cs T fz,X.heap[i]?=some (.cells cs T fz)∧T≠65∧T≠214)(hw:∀i,S i→w.heap.size≤i):zrL w r e Y:=by
 refine⟨h.1.then m (fun i hi=>.inr (hw i hi)),?_⟩;cases r with
 | sum=>exact h.2
 | bad a=>exact h.2
 | ok n fs =>
  obtain⟨_,fv,b,he,ho,hm,h1,h2⟩:=h;exact⟨fv,b,he,zis.mod ho m (fun i hi=>.inr (hS i hi)),hm,h1,h2⟩
theorem zjA(v:Value)(bs:List UInt8)(w:World)(hb:BR w v bs)(ht:Tab w)(hg:zei w)(hl:bs.length<1099511627776):Calls prog 23 #[v] w (zrL w (dec bs)):=by
 obtain⟨u,f⟩:=nm (w.alloc (.cells #[.int .u64 0,.slice none 0 0] 56));have y:Mod NoB w u:=by rw[←f];exact(Mod.refl _ _).alloc _
 have oQ:u.heap[w.heap.size]?=some (.cells #[.int .u64 0,.slice none 0 0] 56 (0,0)):=by rw[←f];exact heap_alloc_new w _
 have hs0:u.heap.size=w.heap.size+1:=by rw[←f];simp
 obtain⟨v1,W1,z,c,m1,S⟩:=zrl u v bs (hb.mod y (za2.no _)) (by omega);have k1:=zjz v1 bs W1 c.br ((ht.mod y (fun x=>x)).mod m1 (fun x=>x)) hl;have A:zei W1:=(hg.mod y (fun x=>x)).mod m1 (fun x=>x);obtain⟨P,Q,rfl,hx1,T,U⟩:=zi c;unfold maxLen at T;have V:=ziN c;obtain⟨a,cap,rfl,_⟩:=hb;have W:=zb f;have HQ:=zb (m1.obj (fun x=>x) oQ);have M1:=zb (y.trans m1);have X:=zb A;have B:=zb c;have hs1:=m1.size;have h1p:0<w.heap.size:=zk hg;clear y oQ c m1 A ht hg f;go_enter func23,ntmps23;go_wp2_with (rw[W.out];at_builtin;refine zl rfl _ _ _ _ rfl _ _ _ rfl rfl z ?_;clear z);refine k1.mono ?_;clear k1;intro e q r;obtain⟨x,m,fl,fc,ev,rfl⟩:=r.shape;have C:True:=trivial;obtain⟨W2,j⟩:=nm (q.alloc (.cells #[.int .u64 x,.slice m fl fc] 56));have D:Mod NoB q W2:=by rw[←j];exact(Mod.refl _ _).alloc _
 have oP:W2.heap[q.heap.size]?=some (.cells #[.int .u64 x,.slice m fl fc] 56 (0,0)):=by rw[←j];exact heap_alloc_new q _
 have E:W2.heap[w.heap.size]?=some (.cells #[.int .u64 0,.slice none 0 0] 56 (0,0)):=D.obj (fun x=>x) (r.1.obj (fun x=>x) HQ.out);have F:OB W2 (.slice P bs.length Q) bs:=(B.out.mod0 r.1).mod0 D;have G:zei W2:=(X.out.mod r.1 (fun x=>x)).mod D (fun x=>x);have H:zal w (dec bs) (.returned (.tuple #[.agg #[.int .u64 x,.slice m fl fc],ev])) W2:=(r.from M1.out).to D (fun i hi=>hi.elim) (fun i hi=>hi.elim);have hs2:=r.1.size;have Y:=zb j;have HP:=zb oP;have Z:=zb E;have n:=zb F;have I:=zb G;have aa:=zb H;clear r D oP E F G H j C;go_wp2_with fail;rw[Y.out]
 go_loopw [20] (fun i wr=>∃k:Nat,k≤bs.length∧i = .int .i64 k∧BangAt W2 (.slice P bs.length Q) wr) (fun i _=>bs.length-(intOf i).toNat)
 case atStart=>exact⟨0,Nat.zero_le _,rfl,zfL.refl _ _⟩
 case round =>
  obtain⟨k,hk,rfl,o⟩:=hrel;by_cases af:k<bs.length
  ·obtain⟨g,rfl⟩:=U (by omega);obtain⟨cg,og,sg,_⟩:=zrt n.out;obtain⟨⟨v0,e0⟩,z0⟩:=o.cell (b:=g) rfl og (i:=k) (by omega);have HB:=zb (o.set (b:=g) rfl k (.int .u8 33));clear o og;go_wp2_with fail;go_roundw
   case rel=>exact⟨k+1,by omega,by go_num,HB.out⟩
   case measure=>simp[intOf];omega
  ·have l:∀i,(Value.slice P bs.length Q).ownBlock=some i→u.heap.size≤i∧i<W1.heap.size:=fun i hi=>⟨S i hi,V i hi⟩
   have J:wr.heap[q.heap.size]?=some (.cells #[.int .u64 x,.slice m fl fc] 56 (0,0)):=o.1.obj (fun K=>by have:=l _ K;omega) HP.out;have L:wr.heap[w.heap.size]?=some (.cells #[.int .u64 0,.slice none 0 0] 56 (0,0)):=o.1.obj (fun K=>by have:=l _ K;omega) Z.out;have M:zei wr:=I.out.mod o.1 (fun K=>by have:=l _ K;omega);have N:=aa.out.to o.1 (fun i hi=>by
    have hi:(Value.slice P bs.length Q).ownBlock=some i:=hi;rcases n.out.2 with⟨hv,_⟩|⟨g,ah,cur,hv,_,hg,_⟩
    ·rw[hv]at hi;cases hi
    ·rw[hv]at hi;have hi:g=i:=by simpa [Value.ownBlock]using hi
     subst hi;exact⟨_,_,_,hg,by decide,by decide,by decide⟩) (fun i hi=>by have:=l _ hi;omega)
   obtain⟨nn,na,hc,hP⟩:=zic N M;have ab:=zb hP;have ac:=zb J;have ad:=zb L;clear o J L M N hP;go_wp2_with fail;refine hc.mono ?_;rintro e h ⟨rfl,R⟩;clear hc;have s:=R.obj (fun x=>x) ac.out;have d:=R.obj (fun x=>x) ad.out;have p0:h.cell? ⟨q.heap.size,0,none⟩=some (.int .u64 x):=za s rfl;have p1:h.cell? ⟨q.heap.size,1,none⟩=some (.slice m fl fc):=za s rfl;have q0:h.cell? ⟨w.heap.size,0,none⟩=some (.int .u64 0):=za d rfl;have q1:h.cell? ⟨w.heap.size,1,none⟩=some (.slice none 0 0):=za d rfl;have z0:h.frozen? ⟨w.heap.size,0,none⟩=false:=zf d;have z1:h.frozen? ⟨w.heap.size,1,none⟩=false:=zf d;have ae:=zb (ab.out h R);have O:=zb d;clear R s d;go_wp2_with fail;obtain⟨WF,t⟩:=nm ((h.setCell ⟨w.heap.size,0,none⟩ (.int .u64 x)).setCell ⟨w.heap.size,1,none⟩ (.slice m fl fc));rw[t];have mF:Mod (fun k=>k=w.heap.size) h WF:=by
    rw[←t];exact((Mod.refl (fun k=>k=w.heap.size) h).setCell (p:=⟨w.heap.size,0,none⟩) (.inl rfl) _).setCell (p:=⟨w.heap.size,1,none⟩) (.inl rfl) _
   have oF:WF.heap[w.heap.size]?=some (.cells #[.int .u64 x,.slice m fl fc] 56 (0,0)):=by
    rw[←t];exact zc (zc O.out)
   refine bodyPost_ret (zfp _ _ w.heap.size (.int .u64 x) (.slice m fl fc) rfl (za oF rfl) (za oF rfl)) rfl ?_;refine zrL.to ae.out mF (fun i hi=>?_) (fun i hi=>?_)
   ·have hi:i=w.heap.size:=hi;subst hi;exact⟨_,_,_,O.out,by decide,by decide⟩
   ·have hi:i=w.heap.size:=hi;omega
end Go.Proofs.YtddfdpbaiedcjaaGreatDoor
namespace Go.Proofs.YtddfdpbaiedcjaaGreatDoor
open Go.ChangeShapes Go.WideShapes Go.ChangeAt Go.RowKit
open Go.Proofs.Tryz
def zrH {H : Type} : List (String × DataW H) := [("errors.errorType", Rows.laid_errors_errorType), ("mediawire/wire.table", Rows.laid_mediawire_wire_table)]
theorem gErr : prog.globalNamed "errors.errorType" = some 0 := by kernel_rfl
theorem gTab : prog.globalNamed "mediawire/wire.table" = some 1 := by kernel_rfl
theorem tyTab:(prog.globals[1]?).map (·.type)=some 281:=by kernel_rfl
theorem zn5:prog.cellsOf 281=16:=by kernel_rfl
theorem zn6:prog.cellsOf 189=1:=by kernel_rfl
theorem zn7 : (prog.cutTypes.find? (·.1 == "internal/reflectlite.rtype")).map (·.2) = some 286 := by kernel_rfl
theorem zn8:((List.range prog.types.size).filter fun t=>prog.rowNamed t [101,114,114,111,114])=[98]:=by kernel_rfl
theorem zlL:typeHandle prog 98 = .pointer (some ⟨2,98,none⟩):=by kernel_rfl
def zn9:List Int:=[0,498536548,997073096,651767980,1994146192,1802195444,1303535960,1342533948,3988292384,4027552580,3604390888,3412177804,2607071920,2262029012,2685067896,3183342108]
variable{W:World}
theorem tab_of(h:laidMetH prog zrH W):Tab W:=by
 have h' : laidMet prog [("mediawire/wire.table", Lib.tabData .u32 zn9)] W ∧ handlesMet prog [("errors.errorType", Rows.laid_errors_errorType)] W := h;have ht:=Lib.tabIs_of_head (rest:=[]) gTab tyTab underlying281 underlying189 zn6 zn5 h'.1;intro i hi;have:=ht.cell gTab i (by simpa [zn9]using hi);rw[this];have e:∀j:Fin 16,zn9.getD j.val 0=(ct j.val:Int):=by decide
 rw[e ⟨i,hi⟩]
theorem errT_of(h:laidMetH prog zrH W):zei W:=by
 have h' : laidMet prog [("mediawire/wire.table", Lib.tabData .u32 zn9)] W ∧ handlesMet prog [("errors.errorType", Rows.laid_errors_errorType)] W := h;obtain⟨name,u,ty,e1,e2,e3,e4,a⟩:=h'.2 _ (List.mem_singleton.2 rfl);have en:name=[101,114,114,111,114]:=(Option.some.inj e1).symm;subst en;obtain rfl:=Option.some.inj (zn7.symm.trans e2);have b:ty∈(List.range prog.types.size).filter fun t=>prog.rowNamed t [101,114,114,111,114]:=List.mem_filter.2 ⟨List.mem_range.2 e3,e4⟩
 rw[zn8]at b;obtain rfl:=List.mem_singleton.1 b;rw[zlL]at a;unfold zei;simpa using World.var?_cell gErr a 0
noncomputable def laidWorld(os:Os):World :=
 let w0:=World.holding prog os ⟨#[],#[],[]⟩
 let w1:World:={ w0 with heap:=w0.heap.modify 0 fun
   | .cells _ t frozen=>.cells #[.iface 286 (.agg #[.pointer (some ⟨2,98,none⟩)])] t frozen
   | o=>o }
 {w1 with heap:=w1.heap.modify 1 fun
   | .cells _ t frozen=>.cells (zn9.map fun z=>Value.int .u32 z).toArray t frozen
   | o=>o }
theorem laid_met(os:Os)(args:Array Value):laidMetH prog zrH ((laidWorld os).forCall (fun _ _=>0) ⟨#[],args,[]⟩).memory :=
 laidMetH_of_parts (laidMet_of_run' 8 (by kernel_rfl) (by kernel_rfl)) (by kernel_rfl)
variable{P:Program}{W':World}
theorem ziq{H:Type}{enc:TypeId×Value→H}(hl:laidOutB P=true)(hb:Below W.heap.size W W'):∀{a:List TypeId} {f:List Value} {g:List (DataW H)} {c:List MemPlace},(∀t∈a,P.readableRec t=true∧t<P.types.size) →
   DataW.TrodAll enc P W 0 (fun _=>true) true a f g c→(∀x∈c,x.block<W.heap.size)→DataW.TrodAll enc P W' 0 (fun b=>decide (b<W.heap.size)) true a f g c
 | [],[],[],_,_,h,_=>h
 | t::_,_::_,_::_,_,hT,⟨p,q,h1,h2,e⟩,hs =>
  ⟨p,q,Below.trod hl (hT t (List.mem_cons.2 (Or.inl rfl))).1 (hT t (List.mem_cons.2 (Or.inl rfl))).2 h1 hb (fun x d=>hs x (by rw[e];exact List.mem_append_left _ d)),
   ziq hl hb (fun t ht=>hT t (List.mem_cons.2 (Or.inr ht))) h2 (fun x d=>hs x (by rw[e];exact List.mem_append_right _ d)),e⟩
theorem post_true{H:Type}{enc:TypeId×Value→H}{f:Func}{s:ChangeSpec}{apart c b:Bool}{args:Array Value}{e gs:List (DataW H)}{a:List MemPlace}{tb:TypeId}
  (i:DataW.Whole enc P f.params.toList s.vars apart W args.toList e gs a) (hl:laidOutB P=true) (j:∀t∈f.params.toList,P.readableRec t=true∧t<P.types.size)
  (u:s.vars=[]) (g:(s.fn H (e++gs)).results=[.lit (.bool true)]) (d:(s.fn H (e++gs)).args=e) (k:(s.fn H (e++gs)).vars=[])
  (l:f.resultTypes=#[tb]) (m:P.underlying tb=some .bool) (hb:Below W.heap.size W W') :
  s.post enc P f apart c b false W args (.bool true) W':=by
 have n:∀x∈a,x.block<W.heap.size:=fun x o=>by simpa using i.lt x o
 have r:=i;obtain⟨p,q,hA,v,rfl,hfz,hnd⟩:=i;rw[u]at v;obtain⟨rfl,rfl⟩:=trodVars_none v;refine⟨e,[],p++[],[],p,[],r,?_,?_,?_,hb.frame _,fun h=>by cases h⟩
 ·rw[g,l];exact trodAll_mk1 (shut_bool m true)
 ·rw[d];exact ziq hl hb j hA (fun x o=>n x (List.mem_append_left _ o))
 ·rw[u,k];exact rfl
end Go.Proofs.YtddfdpbaiedcjaaGreatDoor
