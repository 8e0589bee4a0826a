/- A part of Urgent's proof. Conditions: none. Part 13 of 32. -/
import Derived.Test.YtddfdpbaiedcjaaGreatDoorUrg11
import Derived.Test.YtddfdpbaiedcjaaGreatDoorUrg12
set_option maxRecDepth 100000
set_option maxHeartbeats 16000000
set_option linter.all false
namespace Go.Proofs.YtddfdpbaiedcjaaGreatDoor
open Go.RowKit
structure ziD(c:CS)(k:Nat):Prop where
 lt:k<8
 cut:(c.ws k).keep≤zA
 len:(c.ws k).b.length≤1048576
 credit:(c.ws k).credit≤zA
 high:(c.ws k).high≤zA
 all:c.credit≤zA
 spent:c.spent≤zA
 wf:WF (c.ws k).sent.rs
 hi:∀j,j<(c.ws k).sent.rs.length→hiAt (c.ws k).sent.rs j<9223372036854775808
 fl:(c.ws k).sent.fl≤zA
 most:1≤(c.ws k).sent.most∧(c.ws k).sent.most≤1099511627776
 rl:(c.ws k).sent.rs.length≤1099511627776
theorem zgi(rs:zD):∀lo hi,(zaD rs lo hi).2≤hi:=by
 induction rs with
 | nil=>intro lo hi;exact Nat.le_refl _
 | cons r l ih =>
  intro lo hi;unfold zaD;split
  ·exact ih lo hi
  ·split
   ·exact Nat.min_le_left _ _
   ·exact ih _ _
theorem zl3(rs:zD)(h:∀r∈rs,r.2<9223372036854775808):∀lo hi,lo≤9223372036854775808→(zaD rs lo hi).1≤9223372036854775808:=by
 induction rs with
 | nil=>intro lo hi b;exact b
 | cons r l ih =>
  intro lo hi b;have hr:=h r List.mem_cons_self;have a:=ih (fun x hx=>h x (List.mem_cons_of_mem _ hx));unfold zaD;split
  ·exact a lo hi b
  ·split
   ·exact b
   ·exact a _ _ (by omega)
theorem zha{W:World}{v:Value}{n:Nat}{xs:List Value}(h:zc8 W 65 10 v n xs):∃a cap,v = .slice a n cap:=by
 rcases h.2 with⟨e,e2⟩|⟨g,o,cap,cur,e,_⟩
 ·exact⟨none,0,by rw[e,e2]⟩
 ·exact⟨_,cap,e⟩
theorem zdu{w w':World}{new:List UInt8}{N:Nat}{e:Ending}(h:zer w (.slice none 0 0) [] true new e w')(hN:new.length=N):∃a c,e = .returned (.slice a N c)∧Mod NoB w w':=by
 rcases h with⟨_,v',rfl,b⟩|⟨hx,_⟩
 ·obtain⟨a,c,e,_⟩:=zj b.own;rw[List.nil_append,hN]at e;exact⟨a,c,by rw[e],(Mod.refl NoB w).grown b.grown (fun g hg=>by simp[Value.ownBlock]at hg)⟩
 ·cases hx
theorem zg.sentAt{tag:Nat→Nat×Nat}{i b:Nat}{c:CS}{V:CV}{W:World}(h:zg tag i b c V W){k:Nat}(hk:k<8)(hl:(c.ws k).sent.rs.length≤1099511627776):zbz W b (9+15*k+1) (V.ws k) (c.ws k).sent.rs (c.ws k).sent.fl (c.ws k).sent.most :=
 ⟨h.w (j:=1) hk rfl,h.w (j:=2) hk rfl,h.w (j:=3) hk rfl,h.ws k hk,hl,fun j=>h.fz j⟩
theorem zl4{tag:Nat→Nat×Nat}{i b db:Nat}{c:CS}{V:CV}{d:Drf}{bv fv:Value}{l:List (Frm×Value)}{W:World}(h:zg tag i b c V W)(hD:zae tag i db d bv fv l W)(E:Env i tag W)(k:Nat)(ok:ziD c k)(bP:d.b.length≤1073741824)(bQ:d.fs.length≤1073741824)(bR:d.room≤1073741824) :
  Calls Tryz.prog 149 #[.pointer (some ⟨b,0,none⟩),.pointer (some ⟨db,0,none⟩),.int .i64 (k:Int)] W (za7 tag i b db W (c.bytes d k).2.1 (c.bytes d k).2.2 (c.bytes d k).1):=by
 have S0:Hid (zI tag i b db W c d tag V bv fv l W):=zb ⟨h,hD,Ext.same E.ok (Mod.refl NoB _),Mod.refl _ _,E.pos⟩;have hk:=ok.lt;have hk0:(0:Int)≤k:=by omega
 have hk8:(k:Int)<8:=by omega
 have c5:W.cell? ⟨b,238,none⟩=some V.wt:=h.tl (j:=5) rfl;obtain⟨wta,wtc,a9⟩:=zha h.wt;rw[a9]at c5;have e4:W.cell? ⟨db,4,none⟩=some (.bool d.full):=za hD.obj rfl;have w0:W.cell? ⟨b,9+k*15,none⟩=some (V.wb k):=by rw[Nat.mul_comm];exact h.w (j:=0) hk rfl
 obtain⟨wa,n,ae,_⟩:=zj (h.wb k hk);rw[ae]at w0;have w7:W.cell? ⟨b,9+k*15+7,none⟩=some (.int .u64 ((c.ws k).high:Int)):=by rw[Nat.mul_comm];exact h.w (j:=7) hk rfl
 have af:W.cell? ⟨b,9+k*15+14,none⟩=some (.int .u64 ((c.ws k).credit:Int)):=by rw[Nat.mul_comm];exact h.w (j:=14) hk rfl
 have U:W.cell? ⟨b,9+k*15+10,none⟩=some (.bool (c.ws k).cut):=by rw[Nat.mul_comm];exact h.w (j:=10) hk rfl
 have ah:W.cell? ⟨b,9+k*15+11,none⟩=some (.int .u64 ((c.ws k).keep:Int)):=by rw[Nat.mul_comm];exact h.w (j:=11) hk rfl
 have g0:W.cell? ⟨b,233,none⟩=some (.int .u64 (c.credit:Int)):=h.tl (j:=0) rfl;have ks:=zlV (h.mod0 ((Mod.refl NoB W).drew)) (by have:=ok.spent;unfold zA at this;omega);obtain⟨R,hR⟩:=nm (c.bytes d k);rw[hR];have HR:=zb hR;have OK:=zb ok;obtain⟨L,hL⟩:=nm ((c.ws k).b.length);obtain⟨hh,aM⟩:=nm ((c.ws k).high);obtain⟨cr,aN⟩:=nm ((c.ws k).credit);obtain⟨X,aO⟩:=nm c.credit;obtain⟨cu,ai⟩:=nm ((c.ws k).cut);obtain⟨kp,aP⟩:=nm ((c.ws k).keep);obtain⟨sp,aQ⟩:=nm c.spent;obtain⟨nw,aR⟩:=nm c.waits.length;obtain⟨df,aS⟩:=nm d.full;have b1:=ok.len;have b2:=ok.credit;have b3:=ok.high;have b4:=ok.all;have b5:=ok.spent;have b6:=ok.cut;unfold zA at b2 b3 b4 b5 b6;have HE:Hid (c.endOf k=if cu=true then min (min (min L cr) (hh+X-min X sp)) kp else min (min L cr) (hh+X-min X sp)):=by
  show _=_;rw[CS.endOf,CS.end0,hL,aM,aN,aO,aQ,ai,aP]
 rw[hL]at w0 b1;rw[aM]at w7 b3;rw[aN]at af b2;rw[aO]at g0 b4;rw[ai]at U;rw[aP]at ah b6;have bS:=zb ai;rw[aQ]at ks b5;rw[aR]at c5;rw[aS]at e4;have HL:=zb hL;have Y:Hid (V.wb k = .slice wa L n):=by rw[hL]at ae;exact ae
 have bb:=zb aR;have bd:=zb aS;have aj:0<nw∨(nw=0∧df=true)∨(nw=0∧df=false):=by
  cases df
  ·by_cases e:nw=0
   ·exact .inr (.inr ⟨e,rfl⟩)
   ·exact .inl (by omega)
  ·by_cases e:nw=0
   ·exact .inr (.inl ⟨e,rfl⟩)
   ·exact .inl (by omega)
 clear h hD E ok hR a9 ae hL aM aN aO aQ aR aS ai aP;rcases aj with hA|⟨rfl,rfl⟩|⟨rfl,rfl⟩
 ·have C:Hid (R=(false,c,d)):=by
   show _=_;rw[←HR.out,CS.bytes,if_pos (.inl (fun e=>by have:=bb.out;rw[e]at this;simp at this;omega))]
  have d1:(0:Int)<nw:=by omega
  clear hA ks w0 w7 af U ah g0;go_enter Tryz.func149,Tryz.ntmps149;go_wp2_with fail;go_ret;rw[C.out];exact S0.out.post false
 ·have C:Hid (R=(false,c,d)):=by
   show _=_;rw[←HR.out,CS.bytes,if_pos (.inr bd.out)]
  clear ks w0 w7 af U ah g0;go_enter Tryz.func149,Tryz.ntmps149;go_wp2_with fail;go_ret;rw[C.out];exact S0.out.post false
 have be:Hid (R=if (zaD (c.ws k).sent.rs 0 (c.endOf k)).2≤(zaD (c.ws k).sent.rs 0 (c.endOf k)).1 then
  if (!(c.ws k).fin||(c.ws k).ending)||decide (c.endOf k<(c.ws k).b.length)then(false,c,d)
  else c.bytesR d k (c.ws k).b.length (c.ws k).b.length
 else c.bytesR d k (zaD (c.ws k).sent.rs 0 (c.endOf k)).1 (zaD (c.ws k).sent.rs 0 (c.endOf k)).2):=by
  show _=_;rw[←HR.out,CS.bytes,if_neg];rintro(e|e)
  ·exact e (List.eq_nil_of_length_eq_zero bb.out)
  ·rw[bd.out]at e;cases e
 obtain⟨q1,aT⟩:=nm (min X sp);obtain⟨e0,aU⟩:=nm (min (min L cr) (hh+X-q1));obtain⟨en,aV⟩:=nm ((if cu=true then min e0 kp else e0));have bT:Hid (c.endOf k=en):=by
  show _=_;rw[HE.out,aT,aU,aV]
 have bf:=zb aT;have Z:=zb aV;have bh:=zb aU;have x1:IntKind.u64.wrap (L:Int)=(L:Int):=by rw[IntKind.wrap_u64];omega
 have x2:IntKind.u64.wrap ((hh:Int)+X)=(hh:Int)+X:=by rw[IntKind.wrap_u64];omega
 have x3:IntKind.u64.wrap ((hh:Int)+X-q1)=(hh:Int)+X-q1:=by rw[IntKind.wrap_u64];omega
 clear aT aV aU HE HR;go_enter Tryz.func149,Tryz.ntmps149;go_upto_region 4 with fail
 go_cut [8] (fun ev o=>ev = .int .u64 (e0:Int)∧o=W.drew)
 case first=>as_aux_lemma =>
  refine zl 29 (fun w'=>w'=W.drew) (rfl) ?_;refine GI 0 ?_;iterate 24
   refine GS rfl ?_ ?_ ?_;rotate_left
   ·(intro o q;(try dsimp only at q);subst q;go_simp)<;>(try with_reducible rfl)
   try simp only[PS]
  refine zx 24 rfl (fun K hK=>?_);go_simp;refine ks.mono ?_;rintro _ _ ⟨rfl,rfl⟩;refine hK.out _ _ rfl ?_;clear hK K;try simp only[PS]
  refine zby (i:=25) (v:=.int .u64 (q1:Int)) rfl (by kernel_rfl) (fun _ _ _ h=>h) (Or.inl ⟨by rfl,?_⟩) ?_
  ·intro o q;subst q;go_simp;have:=bf.out;split<;>omega
  try simp only[PS]
  refine GI 26 ?_;refine GS rfl ?_ ?_ ?_;rotate_left
  ·(intro o q;(try dsimp only at q);subst q;go_simp)<;>(try with_reducible rfl)
  try simp only[PS]
  refine zby (i:=27) (v:=.int .u64 (e0:Int)) rfl (by kernel_rfl) (fun _ _ _ h=>h) (Or.inl ⟨by rfl,?_⟩) ?_
  ·intro o q;subst q;go_simp;have h1:=bf.out;have h2:=bh.out
   (repeat' split)<;>omega
  try simp only[PS]
  refine GI 28 ?_;refine GS rfl ?_ ?_ ?_;rotate_left
  ·(intro o q;(try dsimp only at q);subst q;go_simp)<;>(try with_reducible rfl)
  try simp only[PS]
  refine zo ?_;go_wp2_with fail;go_meet;exact⟨rfl,rfl⟩
 case rest =>
 obtain⟨rfl,S⟩:=hcut;subst S;go_upto_if 64 with fail
 go_cut [8] (fun ev o=>ev = .int .u64 (en:Int)∧o=W.drew)
 case first=>as_aux_lemma =>
  cases cu
  ·have h2:e0=en:=Z.out;subst h2;go_wp2_with fail;go_meet;exact⟨rfl,rfl⟩
  ·go_wp2_with fail;all_goals
    go_meet;have h2:min e0 kp=en:=Z.out;exact⟨by congr 1;omega,rfl⟩
 case rest =>
 obtain⟨rfl,S⟩:=hcut;subst S;have bi:en≤L:=by
  have h1:(if cu=true then min e0 kp else e0)=en:=Z.out;have h2:min (min L cr) (hh+X-q1)=e0:=bh.out;have h3:e0≤L:=by rw[←h2];exact Nat.le_trans (Nat.min_le_left _ _) (Nat.min_le_left _ _)
  clear h2;split at h1
  ·have:=Nat.min_le_left e0 kp;omega
  ·omega
 have S1:=zb (S0.out.mod0 (Mod.refl NoB W).drew);have kg:=ziA (c.ws k).sent.rs (c.ws k).sent.fl (c.ws k).sent.most b (9+15*k+1) 0 en (V.ws k) W.drew (S1.out.c.sentAt hk OK.out.rl) (by omega) OK.out.hi;rw[Nat.mul_comm 15 k]at kg;have aF:=zl3 (c.ws k).sent.rs (fun r hr=>by
  obtain⟨j,hj⟩:=List.getElem?_of_mem hr;have bj:=(List.getElem?_eq_some_iff.1 hj).1;have e:=zl0 bj;rw[hj]at e;cases e;exact OK.out.hi j bj) 0 en (by omega)
 have aG:=zgi (c.ws k).sent.rs 0 en;obtain⟨u,P⟩:=nm ((zaD (c.ws k).sent.rs 0 en).1);obtain⟨y,Q⟩:=nm ((zaD (c.ws k).sent.rs 0 en).2);rw[P]at aF;rw[Q]at aG;have bk:Hid (R=if y≤u then(if (!(c.ws k).fin||(c.ws k).ending)||decide (en<L)then(false,c,d)else c.bytesR d k L L)else c.bytesR d k u y):=by
  show _=_;rw[be.out,bT.out,P,Q,HL.out]
 rw[P,Q]at kg;have KG:=zb kg;clear kg P Q be ks x1 x2 x3 w0 w7 af ah g0 c5 e4;go_upto_region 7 with fail
 go_cut [9,10] (fun lv hv o=>lv = .int .u64 (u:Int)∧hv = .int .u64 (y:Int)∧Hid (Mod NoB W.drew o))
 case first=>as_aux_lemma =>
  go_wp2_with (go_at_call 91;refine KG.out.mono ?_;rintro _ W2 ⟨rfl,m2⟩);go_meet;exact⟨rfl,rfl,m2⟩
 case rest =>
 obtain⟨rfl,rfl,m2⟩:=hcut;obtain⟨W2,aW⟩:=nn wc;subst aW;have S2:=zb (S1.out.mod0 m2.out);have w0:W2.cell? ⟨b,9+k*15,none⟩=some (.slice wa L n):=by
  rw[Nat.mul_comm k 15,←Y.out];exact S2.out.c.w (j:=0) hk rfl
 have w8:W2.cell? ⟨b,9+k*15+8,none⟩=some (.bool (c.ws k).finished):=by
  rw[Nat.mul_comm k 15];exact S2.out.c.w (j:=8) hk rfl
 have w9:W2.cell? ⟨b,9+k*15+9,none⟩=some (.bool (c.ws k).ending):=by
  rw[Nat.mul_comm k 15];exact S2.out.c.w (j:=9) hk rfl
 have bm:W2.cell? ⟨b,9+k*15+10,none⟩=some (.bool cu):=m2.out.cell (a:=⟨b,_,none⟩) (fun x=>x) U;obtain⟨fi,ak⟩:=nm ((c.ws k).fin);obtain⟨fq,aX⟩:=nm ((c.ws k).finished);have bU:Hid ((fq && !cu)=fi):=by
  show _=_;rw[←aX,←bS.out,←ak];rfl
 obtain⟨eg,al⟩:=nm ((c.ws k).ending);have bV:=zb ak;have am:=zb al;have D:=bk.out;rw[ak,al]at D;rw[aX]at w8;rw[al]at w9;replace D:=zb D;have M2:=zb m2.out;have x1:IntKind.u64.wrap (L:Int)=(L:Int):=by rw[IntKind.wrap_u64];omega
 clear ak aX al bk m2 U;go_upto_region 9 with fail
 go_cut [12] (fun fv o=>fv = .bool fi∧o=W2)
 case first=>as_aux_lemma =>
  cases fq;all_goals
   cases cu;all_goals
    have bn:=bU.out;subst bn;go_wp2_with fail;go_meet;exact⟨rfl,rfl⟩
 case rest =>
 obtain⟨rfl,S⟩:=hcut;obtain⟨W2,aW⟩:=nn wc;subst aW;subst S;go_upto_if 98 with fail
 go_cut [9,10] (fun lv hv o=>∃lo hi:Nat,lv = .int .u64 (lo:Int)∧hv = .int .u64 (hi:Int)∧o=W2∧lo≤hi∧hi≤L∧Hid (R=c.bytesR d k lo hi))
 case first=>as_aux_lemma =>
  by_cases ao:y≤u
  ·have F:Hid (R=if (!fi||eg)||decide (en<L)then(false,c,d)else c.bytesR d k L L):=by
    show _=_;rw[D.out,if_pos ao]
   have d1:(y:Int)≤u:=by omega
   clear ao D;cases fi
   ·have C:Hid (R=(false,c,d)):=by
     show _=_;rw[F.out];simp
    clear F;go_wp2_with fail;go_ret;rw[C.out];exact S2.out.post false
   ·cases eg
    ·by_cases ap:en<L
     ·have C:Hid (R=(false,c,d)):=by
       show _=_;rw[F.out];simp[ap]
      have d2:(en:Int)<L:=by omega
      clear F ap;go_wp2_with fail;go_ret;rw[C.out];exact S2.out.post false
     ·have C:Hid (R=c.bytesR d k L L):=by
       show _=_;rw[F.out];simp[ap]
      have d2:¬(en:Int)<L:=by omega
      clear F ap;go_wp2_with fail;go_meet;exact⟨L,L,rfl,rfl,rfl,Nat.le_refl _,Nat.le_refl _,C⟩
    ·have C:Hid (R=(false,c,d)):=by
      show _=_;rw[F.out];simp
     clear F;go_wp2_with fail;go_ret;rw[C.out];exact S2.out.post false
  ·have C:Hid (R=c.bytesR d k u y):=by
    show _=_;rw[D.out,if_neg ao]
   have d1:¬(y:Int)≤u:=by omega
   have bW:u≤y:=by omega
   clear ao D;go_wp2_with fail;go_meet;exact⟨u,y,rfl,rfl,rfl,bW,by omega,C⟩
 case rest =>
 obtain⟨lo,hi,rfl,rfl,S,bX,hhL,bo⟩:=hcut;clear D;have S:=S.symm;subst S;obtain⟨f0,bp⟩:=nm ((fi&&hi==L));have aq:=zb bp;clear bp;obtain⟨W3,ar⟩:=nm (W2.alloc (.cells (zh (zbB k lo f0 []) (.slice none 0 0)) 65));go_upto_region 14 with fail
 go_cut [13] (fun pv o=>pv = .pointer (some ⟨W2.heap.size,0,none⟩)∧o=W3)
 case first=>as_aux_lemma =>
  have hd:W3=W2.alloc (.cells #[.int .i64 4,.int .i64 (k:Int),.int .u64 (lo:Int),.int .u64 0,.int .u64 0,.bool f0,.int .u64 0,.int .u64 0,.string ⟨#[]⟩,.slice none 0 0] 65):=ar.symm;have aY:=zb hd;clear hd;cases fi
  ·have e0:f0=false:=by rw[←aq.out];rfl
   subst e0;go_wp2_with fail;go_meet;exact⟨rfl,aY.out.symm⟩
  ·by_cases e:hi=L
   ·have e0:f0=true:=by rw[←aq.out,e];simp
    have e1:((hi:Int)==(L:Int))=true:=by rw[e];simp
    subst e0;clear e;go_wp2_with fail;go_meet;exact⟨rfl,aY.out.symm⟩
   ·have e0:f0=false:=by rw[←aq.out];simp[e]
    have e1:((hi:Int)==(L:Int))=false:=beq_eq_false_iff_ne.2 (by omega);subst e0;clear e;go_wp2_with fail;go_meet;exact⟨rfl,aY.out.symm⟩
 case rest =>
 obtain⟨rfl,S⟩:=hcut;obtain⟨W4,bY⟩:=nn wc;subst bY;subst S;have bq:Mod NoB W2 W4:=by rw[←ar];exact(Mod.refl _ _).alloc _
 have oF:W4.heap[W2.heap.size]?=some (.cells (zh (zbB k lo f0 []) (.slice none 0 0)) 65 (0,0)):=by rw[←ar];exact heap_alloc_new W2 _
 have S4:=zb (S2.out.mod0 bq);have OF:=zb oF;obtain⟨s,hs⟩:=nm (((c.ws k).b.drop lo).take (hi-lo));have bZ:s.length=hi-lo:=by
  rw[←hs,List.length_take,List.length_drop,HL.out];omega
 have H:BR W4 (.slice wa L n) (c.ws k).b:=by
  have:=(S4.out.c.wb k hk).br;rw[Y.out]at this;exact this
 have bt:L≤n∧n≤9223372036854775807:=by
  obtain⟨a',c',e,q1,q2,_⟩:=H;cases e;rw[HL.out]at q1;unfold maxLen at q2;exact⟨q1,by omega⟩
 obtain⟨b0,b7⟩:=bt;rw[←HL.out]at H;have aa:(convert 60 9 (.slice (wa.map fun x=>x.add lo) (hi-lo) (n-lo))).run Tryz.prog W4 = .ok (.string (zq s)) W4:=by
  rw[←hs];exact zbh (H.sub (by rw[HL.out];omega))
 have ab:∀a,(convert 60 9 (.slice a 0 0)).run Tryz.prog W4 = .ok (.string (zq [])) W4:=fun a=>zbh (BR.nil _ a 0 (by unfold maxLen;omega))
 have bu:zT (zbB k lo false s)=true:=by
  have e1:decide ((k:Int)<8)=true:=decide_eq_true (by omega);simp[zT,zaz,zh8,zbA,zK,zbB]
  and_intros<;>first|omega|exact decide_eq_true (by omega)
 have bw:=zb8 (zbB k lo false s) rfl;have aZ:(zbB k lo false s).data.length=hi-lo:=bZ;rw[aZ]at bw;have a0:=zdR (.slice none 0 0) [] (zbB k lo false s) (.slice none 0 0) W4 (OB.nil W4) (fun h=>absurd h (Nat.not_lt_zero _)) ⟨none,0,rfl,Nat.le_refl _,Nat.zero_le _,fun i hi=>absurd hi (Nat.not_lt_zero i)⟩ (Nat.zero_le _) (by rw[aZ];omega) (Nat.zero_le _);rw[bu]at a0;obtain⟨N,hN⟩:=nm ((zC (zbB k lo false s)).length);rw[hN]at bw;have C:=zb hN;have b8:=zb hs;have bz:=zb a0;have w0:W4.cell? ⟨b,9+k*15,none⟩=some (.slice wa L n):=by
  rw[Nat.mul_comm k 15,←Y.out];exact S4.out.c.w (j:=0) hk rfl
 have x1:IntKind.u64.wrap ((hi:Int)-lo)=(hi:Int)-lo:=by rw[IntKind.wrap_u64];omega
 have x2:IntKind.i64.wrap ((hi:Int)-lo)=(hi:Int)-lo:=IntWalk.i64_in _ (by omega);have x3:IntKind.i64.wrap ((N:Int)-((hi:Int)-lo))=(N:Int)-((hi:Int)-lo):=IntWalk.i64_in _ (by omega);clear hs hN a0 H w8 w9 bm ar oF aF aG b2 b3 b4 b5 bi bu aZ bq;go_upto_region 15 with fail
 go_cut [14] (fun hv o=>hv = .int .i64 ((N:Int)-((hi:Int)-lo))∧Hid (Mod NoB W4 o))
 case first=>as_aux_lemma =>
  by_cases hc:lo=n
  ·have a1:hi=lo:=by omega
   subst a1;have a2:s=[]:=List.eq_nil_of_length_eq_zero (by omega);subst a2;subst hc;go_wp2_with (go_at_call 144;refine bz.out.mono ?_;intro e W5 ac;obtain⟨va,vc,rfl,m5⟩:=zdu ac C.out;have M5:=zb m5;clear ac m5);all_goals
    go_meet;exact⟨by congr 1;omega,M5⟩
  ·have b9:¬n=lo:=fun h=>hc h.symm
   go_wp2_with (go_at_call 144;refine bz.out.mono ?_;intro e W5 ac;obtain⟨va,vc,rfl,m5⟩:=zdu ac C.out;have M5:=zb m5;clear ac m5);all_goals
    go_meet;exact⟨rfl,M5⟩
 case rest =>
 obtain⟨rfl,m4⟩:=hcut;obtain⟨W5,ca⟩:=nn wc;subst ca;have S5:=zb (S4.out.mod0 m4.out);have cd:=zb (m4.out.obj (fun x=>x) OF.out);obtain⟨cy,a3,bA,l5,D5⟩:∃(t5:Nat→Nat×Nat) (a3 bA:Value) (l5:List (Frm×Value)),Hid (zae t5 i db d a3 bA l5 W5):=⟨_,_,_,_,S5.out.d⟩;have e0:W5.cell? ⟨db,0,none⟩=some a3:=za D5.out.obj rfl;have e2:W5.cell? ⟨db,2,none⟩=some (.int .i64 (d.room:Int)):=za D5.out.obj rfl;obtain⟨ba,bc,bB,_⟩:=zj D5.out.ob;rw[bB]at e0;obtain⟨B,hB⟩:=nm d.b.length;obtain⟨Rm,au⟩:=nm d.room;have I:Hid (zeJ c d k lo hi=(Rm:Int)-4-B-((N:Int)-((hi:Int)-lo))):=by
  show _=_;rw[zeJ,b8.out,C.out,hB,au]
 rw[hB]at e0 bP;rw[au]at e2 bR;have HB:=zb hB;have HRm:=zb au;have y1:IntKind.i64.wrap ((Rm:Int)-4)=(Rm:Int)-4:=IntWalk.i64_in _ (by omega);have y2:IntKind.i64.wrap ((Rm:Int)-4-B)=(Rm:Int)-4-B:=IntWalk.i64_in _ (by omega);have y3:IntKind.i64.wrap ((Rm:Int)-4-B-((N:Int)-((hi:Int)-lo)))=(Rm:Int)-4-B-((N:Int)-((hi:Int)-lo)):=IntWalk.i64_in _ (by omega);clear bB hB au w0 ab aa x3;go_upto_region 16 with fail
 go_cut [15] (fun rv o=>rv = .int .i64 (zeJ c d k lo hi)∧Hid (Mod NoB W5 o))
 case first=>as_aux_lemma =>
  go_quiet (fail);go_wp2_with fail;go_meet;exact⟨by rw[I.out],(Mod.refl NoB W5).drewN _⟩
 case rest =>
 obtain⟨rfl,m5⟩:=hcut;obtain⟨W6,ce⟩:=nn wc;subst ce;have S6:=zb (S5.out.mod0 m5.out);have av:=zb (m5.out.obj (fun x=>x) cd.out);obtain⟨z,hz⟩:=nm (zeJ c d k lo hi);have HZ:=zb hz;have hzb : -2199023255552≤z∧z≤2199023255552:=by
  have:=I.out;rw[hz]at this;omega
 rw[hz];have J:Hid (R=if z<(hi:Int)-lo then(if z<1 then(false,c,{ d with full:=true })else c.bytesAdd d k lo (lo+z.toNat) false)else c.bytesAdd d k lo hi f0):=by
  show _=_;rw[bo.out,CS.bytesR,hz,bV.out,HL.out,aq.out]
 have bC:W.heap.size≤W2.heap.size:=S2.out.m.size;have e4:W6.cell? ⟨db,4,none⟩=some (.bool d.full):=za S6.out.d.obj rfl;have bD:∀j,W6.frozen? ⟨db,j,none⟩=false:=fun j=>zd S6.out.d.obj
 have cg:W6.cell? ⟨W2.heap.size,5,none⟩=some (.bool f0):=za av.out rfl;have ci:∀j,W6.frozen? ⟨W2.heap.size,j,none⟩=false:=fun j=>zd av.out
 have aw:Hid (tag W2.heap.size=(0,0)):=zb (S2.out.e.out _ (Nat.le_refl _));clear hz bo m5 e0 e2 y1 y2 y3 I;go_upto_if 159 with fail
 go_cut [10] (fun hv o=>∃(f:Nat) (M:Bool),hv = .int .u64 (f:Int)∧lo≤f∧f≤hi∧Hid (R=c.bytesAdd d k lo f M)∧Hid (o.heap[W2.heap.size]?=some (.cells (zh (zbB k lo M []) (.slice none 0 0)) 65 (0,0)))∧Hid (Mod (fun g=>g=W2.heap.size) W6 o))
 case first=>as_aux_lemma =>
  by_cases a4:z<(hi:Int)-lo
  ·by_cases bE:z<1
   ·have A:Hid (R=(false,c,{ d with full:=true })):=by
     show _=_;rw[J.out,if_pos a4,if_pos bE]
    clear J;go_wp2_with fail;go_ret;rw[A.out];exact S6.out.setFull.post false
   ·have A:Hid (R=c.bytesAdd d k lo (lo+z.toNat) false):=by
     show _=_;rw[J.out,if_pos a4,if_neg bE]
    have z1:IntKind.u64.wrap z=z:=by rw[IntKind.wrap_u64];omega
    have z2:IntKind.u64.wrap ((lo:Int)+z)=(lo:Int)+z:=by rw[IntKind.wrap_u64];omega
    have cj:Hid ((W6.setCell ⟨W2.heap.size,5,none⟩ (.bool false)).heap[W2.heap.size]?=some (.cells (zh (zbB k lo false []) (.slice none 0 0)) 65 (0,0))):=by
     show _=_;rw[zc av.out];rfl
    clear J;go_wp2_with fail;go_meet;exact⟨lo+z.toNat,false,by congr 1;omega,by omega,by omega,A,cj,(Mod.refl (fun g=>g=W2.heap.size) _).setCell (p:=⟨W2.heap.size,5,none⟩) (.inl rfl) _⟩
  ·have A:Hid (R=c.bytesAdd d k lo hi f0):=by
    show _=_;rw[J.out,if_neg a4]
   clear J;go_wp2_with fail;go_meet;exact⟨hi,f0,rfl,bX,Nat.le_refl _,A,av,Mod.refl _ _⟩
 case rest =>
 obtain⟨f,M,rfl,hl2,hh2,bF,a5,m7⟩:=hcut;obtain⟨W7,ck⟩:=nn wc;subst ck;have S7:=zb (S6.out.free m7.out (fun g hg=>by
  have hg:g=W2.heap.size:=hg;rw[hg];exact⟨aw.out,bC⟩))
 obtain⟨s2,ax⟩:=nm (((c.ws k).b.drop lo).take (f-lo));have bG:s2.length=f-lo:=by
  rw[←ax,List.length_take,List.length_drop,HL.out];omega
 have H:BR W7 (.slice wa L n) (c.ws k).b:=by
  have:=(S7.out.c.wb k hk).br;rw[Y.out]at this;exact this
 rw[←HL.out]at H;have aa:(convert 60 9 (.slice (wa.map fun x=>x.add lo) (f-lo) (n-lo))).run Tryz.prog W7 = .ok (.string (zq s2)) W7:=by
  rw[←ax];exact zbh (H.sub (by rw[HL.out];omega))
 have ab:∀a,(convert 60 9 (.slice a 0 0)).run Tryz.prog W7 = .ok (.string (zq [])) W7:=fun a=>zbh (BR.nil _ a 0 (by unfold maxLen;omega))
 have w0:W7.cell? ⟨b,9+k*15,none⟩=some (.slice wa L n):=by
  rw[Nat.mul_comm k 15,←Y.out];exact S7.out.c.w (j:=0) hk rfl
 have v8:W7.cell? ⟨W2.heap.size,8,none⟩=some (.string ⟨#[]⟩):=za a5.out rfl;have co:∀j,W7.frozen? ⟨W2.heap.size,j,none⟩=false:=fun j=>zd a5.out
 obtain⟨W8,ay⟩:=nm (W7.setCell ⟨W2.heap.size,8,none⟩ (.string (zq s2)));have a6:Hid (zi W8 W2.heap.size (zbB k lo M s2) (.slice none 0 0)):=by
  show _=_;rw[←ay,zc a5.out];rfl
 have S8:=zb (S7.out.free (show Mod (fun g=>g=W2.heap.size) W7 W8 by rw[←ay];exact(Mod.refl (fun g=>g=W2.heap.size) _).setCell (p:=⟨W2.heap.size,8,none⟩) (.inl rfl) _) (fun g hg=>by
  have hg:g=W2.heap.size:=hg;rw[hg];exact⟨aw.out,bC⟩))
 have cp:=zb ax;have bH:=zb ay;clear ax H ay cg ci e4 bD J;go_upto_region 23 with fail
 go_cut [] (fun o=>o=W8)
 case first=>as_aux_lemma =>
  by_cases hc:lo=n
  ·have a1:f=lo:=by omega
   subst a1;have a2:s2=[]:=List.eq_nil_of_length_eq_zero (by omega);subst a2;subst hc;go_wp2_with fail;all_goals
    go_meet;exact bH.out
  ·have b9:¬n=lo:=fun h=>hc h.symm
   go_wp2_with fail;all_goals
    go_meet;exact bH.out
 case rest =>
 have S:=hcut.symm;subst S;clear ab aa w0 v8 co hcut;have cq:(zbB k lo M s2).Fits:=zg9 hk (by omega) (by rw[bG];unfold zA;omega);have aH:=zcE S8.out.d S8.out.ok S8.out.p (zbB k lo M s2) cq (by rw[HB.out];omega) bQ;obtain⟨dn,a7⟩:=nm (d.add (zbB k lo M s2));have az:=zb a7;have aA:Hid (R=c.bytesGot d k lo f M dn):=by
  show _=_;rw[bF.out,ziC,cp.out,a7]
 have aI:=zb aH;obtain⟨y0,y1,y2,y3,y4,y5,y6,y7,y8,y9⟩:=a6.out.cells;have cv:W2.heap.size<W8.heap.size:=(Array.getElem?_eq_some_iff.1 a6.out).1;clear aH a7 bF;cases dn with
 | none=>as_aux_lemma =>
  go_wp2_with fail;refine aI.out.mono ?_;intro e W9 hd;obtain⟨rfl,ad,bI,bJ,l9,t,_,_⟩:=S8.out.add2 hd;rw[az.out]at t;rw[az.out];clear hd;have e4:W9.cell? ⟨db,4,none⟩=some (.bool d.full):=za t.d.obj rfl;have bD:∀j,W9.frozen? ⟨db,j,none⟩=false:=fun j=>zd t.d.obj
  have t:=zb t;have A:Hid (R=(false,c,{ d with full:=true })):=aA.out;clear aA y0 y1 y2 y3 y4 y5 y6 y7 y8 y9;go_wp2_with fail;go_ret;rw[A.out];exact t.out.setFull.post false
 | some d1 =>
  go_wp2_with fail;refine aI.out.mono ?_;intro e W9 hd;obtain⟨rfl,ad,bI,bJ,l9,t,bK,bL⟩:=S8.out.add2 hd;rw[az.out]at t;rw[az.out];have cz:=S8.out.p;have aB:zi W9 W2.heap.size (zbB k lo M s2) (.slice none 0 0):=bL.obj (fun⟨r,hr,hx⟩=>by
   rw[aw.out]at hx;simp at hx;omega) a6.out
  have aC:ad W2.heap.size=(0,0):=by rw[bK _ cv,aw.out]
  have A:Hid (R=(true,{ c with ws:=upd c.ws k { c.ws k with sent:=if lo<f then(c.ws k).sent.add lo (f-1)else(c.ws k).sent,ending:=(c.ws k).ending||M,high:=max (c.ws k).high f } },d1)):=aA.out;clear hd aA y0 y1 y2 y3 y4 y5 y6 y7 y8 y9 bL bK;have bM:∀(tx:Nat→Nat×Nat) (Vx:CV) (WX:World) (sn:zaQ),sn=(if lo<f then(c.ws k).sent.add lo (f-1)else(c.ws k).sent)→zI tag i b db W { c with ws:=upd c.ws k { c.ws k with sent:=sn } } d1 tx Vx bI bJ l9 WX→za7 tag i b db W R.2.1 R.2.2 R.1 (.returned (.bool true)) ((WX.setCell ⟨b,9+k*15+9,none⟩ (.bool ((c.ws k).ending||M))).setCell ⟨b,9+k*15+7,none⟩ (.int .u64 ((max (c.ws k).high f:Nat):Int))):=fun tx Vx WX sn cw SX=>by
   have G:=SX.sentHigh hk ((c.ws k).ending||M) (max (c.ws k).high f);simp only[zdb,zf]at G;rw[A.out];rw[Nat.mul_comm 15 k]at G;rw[cw]at G;exact G.post true
  have aJ:=zb bM;have t:=zb t;have aB:=zb aB;clear bM;obtain⟨h7,bN⟩:=nm ((c.ws k).high);have aD:=zb bN;clear bN;by_cases aE:lo<f
  ·as_aux_lemma =>
   have ka:=zcj (c.ws k).sent b (9+15*k+1) lo (f-1) (V.ws k) W9 (t.out.c.sentAt hk OK.out.rl) OK.out.wf (by omega) (by omega) (by have:=OK.out.fl;unfold zA at this;omega) (fun x=>zg.apart t.out.c.tb (t.out.c.tws k hk b x) (by omega) rfl) OK.out.most.1 (by have:=OK.out.most.2;omega);rw[Nat.mul_comm 15 k]at ka;have KA:=zb ka;have d1:(lo:Int)<f:=by omega
   have y1:IntKind.u64.wrap ((f:Int)-1)=((f-1:Nat):Int):=by rw[IntKind.wrap_u64];omega
   have cx:=zb aE;clear ka aE;go_wp2_with fail;refine KA.out.mono ?_;intro e T ha;have a8:=ha;rw[Nat.mul_comm k 15]at a8;obtain⟨rfl,tx,Vx,SX⟩:=t.out.sentAdd hk a8 (zbs _ _ _);obtain⟨v',_,_,_,aK,_⟩:=ha;have bO:¬(W2.heap.size=b∨(V.ws k).ownBlock=some W2.heap.size):=by
    rintro(x|x)
    ·rw[x,t.out.c.tb]at aC;simp at aC
    ·rw[t.out.c.tws k hk _ x]at aC;simp at aC
   have aL:zi T W2.heap.size (zbB k lo M s2) (.slice none 0 0):=aK.obj bO aB.out;have w9:T.cell? ⟨b,9+k*15+9,none⟩=some (.bool eg):=by
    rw[Nat.mul_comm k 15,←am.out];exact SX.c.w (j:=9) hk (by simp only[zf];rfl)
   have w7:T.cell? ⟨b,9+k*15+7,none⟩=some (.int .u64 (h7:Int)):=by
    rw[Nat.mul_comm k 15,←aD.out];exact SX.c.w (j:=7) hk (by simp only[zf];rfl)
   have wf:∀p,T.frozen? ⟨b,p,none⟩=false:=fun p=>SX.c.fz p
   have v5:T.cell? ⟨W2.heap.size,5,none⟩=some (.bool M):=aL.cells.2.2.2.2.2.1;have G:=aJ.out tx Vx T _ (by rw[if_pos cx.out]) SX;rw[am.out,aD.out]at G;clear a8 SX aK aL bO;rcases Nat.lt_trichotomy h7 f with hx|hx|hx;all_goals
    first
     | (have O:max h7 f=f:=by omega)
     | (have O:max h7 f=h7:=by omega)
    rw[O]at G;have HG:=zb G;clear G O;cases eg;all_goals
     go_wp2_with fail;all_goals first
      | (exfalso;omega)
      | (go_ret;exact HG.out)
      | (go_ret;subst hx;exact HG.out)
  ·as_aux_lemma =>
   have d1:¬(lo:Int)<f:=by omega
   have w9:W9.cell? ⟨b,9+k*15+9,none⟩=some (.bool eg):=by
    rw[Nat.mul_comm k 15,←am.out];exact t.out.c.w (j:=9) hk rfl
   have w7:W9.cell? ⟨b,9+k*15+7,none⟩=some (.int .u64 (h7:Int)):=by
    rw[Nat.mul_comm k 15,←aD.out];exact t.out.c.w (j:=7) hk rfl
   have wf:∀p,W9.frozen? ⟨b,p,none⟩=false:=fun p=>t.out.c.fz p
   have v5:W9.cell? ⟨W2.heap.size,5,none⟩=some (.bool M):=aB.out.cells.2.2.2.2.2.1;have G:=aJ.out ad V W9 _ (by rw[if_neg aE]) (by
    have:=t.out;have e:{ c with ws:=upd c.ws k { c.ws k with sent:=(c.ws k).sent } }=c:=by
     show{ c with ws:=upd c.ws k (c.ws k) }=c;rw[za2]
    rw[e];exact this)
   rw[am.out,aD.out]at G;clear aE;rcases Nat.lt_trichotomy h7 f with hx|hx|hx;all_goals
    first
     | (have O:max h7 f=f:=by omega)
     | (have O:max h7 f=h7:=by omega)
    rw[O]at G;have HG:=zb G;clear G O;cases eg;all_goals
     go_wp2_with fail;all_goals first
      | (exfalso;omega)
      | (go_ret;exact HG.out)
      | (go_ret;subst hx;exact HG.out)
theorem zbt(p:Nat→Bool)(n:Nat):zag n p (zaZ p n):=by
 have a:=List.findIdx_le_length (xs:=List.range n) (p:=p);rw[List.length_range]at a;refine⟨a,fun h=>?_,fun h=>?_⟩
 ·have:=List.not_of_lt_findIdx (p:=p) (xs:=List.range n) (i:=zaZ p n-1) (by unfold zaZ at h ⊢;omega);simpa using this
 ·have:=List.findIdx_getElem (xs:=List.range n) (p:=p) (w:=by rw[List.length_range];exact h);simpa [zaZ]using this
structure zaQ.Ok(s:zaQ):Prop where
 wf:WF s.rs
 hi:∀j,j<s.rs.length→hiAt s.rs j≤zA
 fl:s.fl≤zA
 most:1≤s.most∧s.most≤1099511627776
 rl:s.rs.length≤s.most
theorem zhc{rs:zD}{m hi m1 a B:Nat}(h1:m1≤a)(h2:a≤rs.length)(b:∀j,j<rs.length→hiAt rs j≤B)(hb:hi≤B):∀i,i<(zbw rs m hi m1 a).length→hiAt (zbw rs m hi m1 a) i≤B:=by
 intro i hl;rw[zcF rs m hi m1 a h1 h2]at hl;rcases Nat.lt_trichotomy i m1 with hc|hc|hc
 ·rw[(zev rs m hi m1 a i h1 h2 hc).2];exact b i (by omega)
 ·subst hc;rw[(zg8 rs m hi i a h1 h2).2];unfold zfm;split
  ·have:=b (a-1) (by omega);exact Nat.max_le.2 ⟨hb,this⟩
  ·exact hb
 ·rw[(zcP rs m hi m1 a i h1 h2 hc).2];exact b _ (by omega)
theorem zp8{rs:zD}(h:WF rs)(k:Nat):WF (rs.drop k):=by
 refine⟨fun i hi=>?_,fun i j hij hj=>?_⟩
 ·rw[(zbQ rs k i).1,(zbQ rs k i).2];exact h.1 _ (by rw[List.length_drop]at hi;omega)
 ·rw[(zbQ rs k i).2,(zbQ rs k j).1];exact h.2 _ _ (by omega) (by rw[List.length_drop]at hj;omega)
theorem zaQ.Ok.add{s:zaQ}(h:s.Ok)(lo:Nat){hi:Nat}(k:hi≤zA):(s.add lo hi).Ok:=by
 have hb:hi<18446744073709551616:=by unfold zA at k;omega
 unfold zaQ.add;split
 ·exact h
 ·rename_i hin;have l:=zbt (zel s.rs (max lo s.fl)) s.rs.length;have d:=zbt (zaH s.rs hi) s.rs.length;have e:=zcO h.wf (by omega) l d;have f:=zjI h.wf (by omega) hb l d;have hl:=zcF s.rs (max lo s.fl) hi _ _ e d.1;have g:=zhc (m:=max lo s.fl) e d.1 h.hi k;have i:=h.rl;have n:=h.most;have hs2:=d.1;have hL:(zbw s.rs (max lo s.fl) hi (zaZ (zel s.rs (max lo s.fl)) s.rs.length) (zaZ (zaH s.rs hi) s.rs.length)).length≤s.rs.length+1:=by
   rw[hl];omega
  split
  ·rename_i hgt;refine⟨zp8 f 1,fun j hj=>?_,?_,n,?_⟩
   ·rw[(zbQ _ 1 j).2];exact g _ (by rw[List.length_drop]at hj;omega)
   ·have a:=f.2 0 1 (by omega) (by omega);have b:=f.1 1 (by omega);have c:=g 1 (by omega);show _+1≤zA;omega
   ·rw[List.length_drop];exact Nat.le_trans (Nat.sub_le_of_le_add hL) i
  ·rename_i hgt;exact⟨f,g,h.fl,n,Nat.le_of_not_lt hgt⟩
structure WS.Ok(x:WS):Prop where
 sent:x.sent.Ok
 came:x.came.Ok
 cut:x.keep≤x.final∧x.final≤zA∧x.keep≤zA
 len:x.b.length≤1048576
 credit:x.credit≤zA
 high:x.high≤x.b.length
structure CS.Ok(c:CS):Prop where
 mtu:c.mtu≤65536
 win:c.window≤4096
 tot:c.total≤4096
 grant:c.grant≤zA
 credit:c.credit≤zA
 ws:∀k,k<8→(c.ws k).Ok
 rs:∀k,k<8→((c.rs k).used≤zA∧(c.rs k).grant≤zA)∧((c.rs k).hopes=true→(c.rs k).used≤2305843009213693951)
 waits:∀f∈c.waits,f.Fits
theorem CS.Ok.ctl{c:CS}(h:c.Ok):CtlOk c :=
 ⟨h.win,h.tot,h.grant,fun k hk=>(h.rs k hk).1,fun k hk q=>by have:=(h.rs k hk).2 q;have:=h.win;unfold zA;omega,fun k hk=>⟨(h.ws k hk).cut.1,(h.ws k hk).cut.2.1⟩⟩
theorem zkp{f:Nat→WS}{B:Nat}:∀n,(∀k,k<n→(f k).high≤B)→zat f n≤n*B:=by
 intro n
 induction n with
 | zero=>intro _;simp[zat]
 | succ n ih =>
  intro h;have h1:=ih (fun k hk=>h k (by omega));have h2:=h n (by omega);have:zat f (n+1)=zat f n+(f n).high:=rfl;rw[this,Nat.add_mul];omega
theorem CS.Ok.by_{c:CS}(h:c.Ok){k:Nat}(hk:k<8):ziD c k:=by
 have w:=h.ws k hk;have hi:=w.high;have hl:=w.len;refine⟨hk,w.cut.2.2,hl,w.credit,by unfold zA;omega,h.credit,?_,w.sent.wf,fun j hj=>by have:=w.sent.hi j hj;unfold zA at this;omega,w.sent.fl,w.sent.most,Nat.le_trans w.sent.rl w.sent.most.2⟩;have:=zkp (f:=c.ws) (B:=1048576) 8 (fun k hk=>by have a:=(h.ws k hk).high;have b:=(h.ws k hk).len;omega);show zat c.ws 8≤zA;unfold zA;omega
def CS.put(c:CS)(d:Drf):Nat→Bool×CS×Drf
 | 0=>((c.control d).isSome,((c.control d).getD (c,d)).1,((c.control d).getD (c,d)).2)
 | 1=>((c.datagrams d).isSome,((c.datagrams d).getD (c,d)).1,((c.datagrams d).getD (c,d)).2)
 | k+2=>c.bytes d k
structure zcu(c:CS)(d:Drf)(r:Bool)(c':CS)(d':Drf):Prop where
 ok:c'.Ok
 yes:r=true→∃f,f.Fits∧f.kind≠2∧d.add f=some d'
 no:r=false→c'=c∧(d'=d∨d'={ d with full:=true })
 next:c'.next=c.next∧c'.now=c.now∧c'.closed=c.closed∧c'.flight=c.flight∧c'.mtu=c.mtu∧c'.answer=c.answer∧c'.got=c.got
theorem zp9{c:CS}{d:Drf}(h:c.Ok):∀n k t,n+k=8→t≤zA→(zgE c d n k t).2≤zA∧∀x,(zgE c d n k t).1=some x→zcu c d true x.1 x.2:=by
 intro n
 induction n with
 | zero=>intro k t _ g;exact⟨g,fun x f=>by cases f⟩
 | succ n ih =>
  intro k t hk g;have a:k<8:=by omega
  have i:min (t+(c.rs k).used) zA≤zA:=Nat.min_le_right _ _;have b:=ih (k+1) (min (t+(c.rs k).used) zA) (by omega) i;unfold zgE;split
  ·rename_i hcond;simp only[Bool.and_eq_true]at hcond;split
   ·rename_i d' hd;refine⟨i,fun x f=>?_⟩;cases f;have g1:=(h.rs k a).2 hcond.2;have g0:=(h.rs k a).1.1;have g2:=(h.rs k a).1.2;have hw:=h.win;have hg:max (c.rs k).grant ((c.rs k).used+c.window)≤zA:=by unfold zA at g2 ⊢;omega
    refine⟨⟨h.mtu,h.win,h.tot,h.grant,h.credit,h.ws,fun j hj=>?_,h.waits⟩,fun _=>⟨_,ziy a hg,by simp[zlX],hd⟩,(by intro x;cases x),⟨rfl,rfl,rfl,rfl,rfl,rfl,rfl⟩⟩;by_cases e:j=k
    ·subst e;show(((upd c.rs j _) j).used≤_∧((upd c.rs j _) j).grant≤_)∧(((upd c.rs j _) j).hopes=true→((upd c.rs j _) j).used≤_);rw[zf];exact⟨⟨g0,hg⟩,fun _=>g1⟩
    ·show(((upd c.rs k _) j).used≤_∧((upd c.rs k _) j).grant≤_)∧(((upd c.rs k _) j).hopes=true→((upd c.rs k _) j).used≤_);rw[ze _ _ e];exact h.rs j hj
   ·exact b
  ·exact b
theorem zqa{c:CS}{d:Drf}(h:c.Ok):∀n k,n+k=8→∀x,zfi c d n k=some x→zcu c d true x.1 x.2:=by
 intro n
 induction n with
 | zero=>intro k _ x a;cases a
 | succ n ih =>
  intro k hk x a;have b:k<8:=by omega
  have f:=ih (k+1) (by omega);unfold zfi at a;split at a
  ·split at a
   ·rename_i d' hd;cases a;have w:=h.ws k b;refine⟨⟨h.mtu,h.win,h.tot,h.grant,h.credit,fun j hj=>?_,h.rs,h.waits⟩,fun _=>⟨_,zlZ b w.cut.2.1 w.cut.1,by simp[zpm],hd⟩,(by intro x;cases x),⟨rfl,rfl,rfl,rfl,rfl,rfl,rfl⟩⟩;by_cases e:j=k
    ·subst e;show(upd c.ws j _ j).Ok;rw[zf];exact⟨w.sent,w.came,w.cut,w.len,w.credit,w.high⟩
    ·show(upd c.ws k _ j).Ok;rw[ze _ _ e];exact h.ws j hj
   ·exact f x a
  ·exact f x a
theorem zkq{c:CS}{d:Drf}(h:c.Ok):∀x,c.control d=some x→zcu c d true x.1 x.2:=by
 intro x a;have b:=zp9 (d:=d) h 8 0 c.total rfl (by have:=h.tot;unfold zA;omega);unfold CS.control at a;split at a
 ·rename_i y hy;cases a;exact b.2 _ hy
 ·unfold zqM at a;have e:=zqa (d:=d) h 8 0 rfl;split at a
  ·split at a
   ·rename_i d' hd;cases a;have hg:max (zgE c d 8 0 c.total).2 c.grant≤zA:=Nat.max_le.2 ⟨b.1,h.grant⟩;exact⟨⟨h.mtu,h.win,h.tot,hg,h.credit,h.ws,h.rs,h.waits⟩,fun _=>⟨_,zlY hg,by simp[zld],hd⟩,(by intro x;cases x),⟨rfl,rfl,rfl,rfl,rfl,rfl,rfl⟩⟩
   ·exact e x a
  ·exact e x a
theorem zeK{c:CS}{d:Drf}{k lo hi:Nat}{fin:Bool}(h:c.Ok)(hk:k<8)(hlo:lo≤(c.ws k).b.length)(hh:hi≤(c.ws k).b.length):zcu c d (c.bytesAdd d k lo hi fin).1 (c.bytesAdd d k lo hi fin).2.1 (c.bytesAdd d k lo hi fin).2.2:=by
 have w:=h.ws k hk;have hl:=w.len;unfold CS.bytesAdd;split
 ·exact⟨h,(by intro x;cases x),fun _=>⟨rfl,.inr rfl⟩,⟨rfl,rfl,rfl,rfl,rfl,rfl,rfl⟩⟩
 ·rename_i d' hd;refine⟨⟨h.mtu,h.win,h.tot,h.grant,h.credit,fun j hj=>?_,h.rs,h.waits⟩,fun _=>⟨_,zg9 hk ?_ ?_,by simp[zbB],hd⟩,(by intro x;cases x),⟨rfl,rfl,rfl,rfl,rfl,rfl,rfl⟩⟩
  ·by_cases e:j=k
   ·subst e;show(upd c.ws j _ j).Ok;rw[zf];refine⟨?_,w.came,w.cut,w.len,w.credit,Nat.max_le.2 ⟨w.high,hh⟩⟩;split
    ·exact w.sent.add lo (by unfold zA;omega)
    ·exact w.sent
   ·show(upd c.ws k _ j).Ok;rw[ze _ _ e];exact h.ws j hj
  ·rw[List.length_take,List.length_drop];omega
  ·rw[List.length_take,List.length_drop];unfold zA;omega
theorem zhd{c:CS}{d:Drf}{k lo hi:Nat}(h:c.Ok)(hk:k<8)(a:lo≤(c.ws k).b.length)(hh:hi≤(c.ws k).b.length):zcu c d (c.bytesR d k lo hi).1 (c.bytesR d k lo hi).2.1 (c.bytesR d k lo hi).2.2:=by
 unfold CS.bytesR;split
 ·rename_i hr;split
  ·exact⟨h,(by intro x;cases x),fun _=>⟨rfl,.inr rfl⟩,⟨rfl,rfl,rfl,rfl,rfl,rfl,rfl⟩⟩
  ·exact zeK h hk a (by omega)
 ·exact zeK h hk a hh
theorem zos{c:CS}{d:Drf}{k:Nat}(h:c.Ok)(hk:k<8):zcu c d (c.bytes d k).1 (c.bytes d k).2.1 (c.bytes d k).2.2:=by
 have hle:=zgi (c.ws k).sent.rs 0 (c.endOf k);have hen:c.endOf k≤(c.ws k).b.length:=Nat.le_trans (zor c k) (Nat.le_trans (Nat.min_le_left _ _) (Nat.min_le_left _ _));have no:zcu c d false c d:=⟨h,(by intro x;cases x),fun _=>⟨rfl,.inl rfl⟩,⟨rfl,rfl,rfl,rfl,rfl,rfl,rfl⟩⟩;unfold CS.bytes;split
 ·exact no
 ·split
  ·split
   ·exact no
   ·exact zhd h hk (Nat.le_refl _) (Nat.le_refl _)
  ·exact zhd h hk (by omega) (by omega)
theorem zmd{f:Frm}(h:f.Fits)(hr:f.kind=2):False:=by
 have h1:=h.sound;have h2:=h.rn
 revert h1
 simp[zT,hr,h2,zK];intro _ _;rfl
theorem zfI{c:CS}{d:Drf}{q:Nat}(h:c.Ok)(hq:q<10):zcu c d (c.put d q).1 (c.put d q).2.1 (c.put d q).2.2:=by
 have no:zcu c d false c d:=⟨h,(by intro x;cases x),fun _=>⟨rfl,.inl rfl⟩,⟨rfl,rfl,rfl,rfl,rfl,rfl,rfl⟩⟩
 match q,hq with
 | 0,_ =>
  show zcu c d (c.control d).isSome ((c.control d).getD (c,d)).1 ((c.control d).getD (c,d)).2;cases hc:c.control d with
  | none=>exact no
  | some x=>exact zkq h x hc
 | 1,_ =>
  show zcu c d (c.datagrams d).isSome ((c.datagrams d).getD (c,d)).1 ((c.datagrams d).getD (c,d)).2;unfold CS.datagrams;cases hw:c.waits with
  | nil=>exact no
  | cons f l =>
   cases hd:d.add f with
   | none=>simp only[hd,Option.map_none];exact no
   | some d' =>
    simp only[hd,Option.map_some];have a:=h.waits f (by rw[hw];exact List.mem_cons_self);exact⟨⟨h.mtu,h.win,h.tot,h.grant,h.credit,h.ws,h.rs,fun g hg=>h.waits g (by rw[hw];exact List.mem_cons_of_mem _ hg)⟩,fun _=>⟨f,a,fun e=>zmd a e,hd⟩,(by intro x;cases x),⟨rfl,rfl,rfl,rfl,rfl,rfl,rfl⟩⟩
 | k+2,hk =>
  exact zos h (show k<8 by omega)
structure Drf.Ok(d:Drf):Prop where
 b:d.b.length≤65536
 fs:d.fs.length≤d.b.length
 room:d.room≤65536
theorem zdX(f:Frm):1≤(zC f).length:=by
 unfold zC zcx zcy zcA zbX zcz zlb za3;repeat' split
 all_goals simp
theorem Drf.add_some{d a:Drf}{f:Frm}(h:d.add f=some a):a.b=d.b++zC f∧a.fs=d.fs++[f]∧a.room=d.room∧a.full=d.full∧a.wants=(d.wants||f.kind != 2)∧a.b.length+4≤d.room:=by
 unfold Drf.add at h;split at h
 ·cases h
 ·rename_i hn;cases h;exact⟨rfl,rfl,rfl,rfl,rfl,by simp only;omega⟩
theorem zcu.drf{c c':CS}{d a:Drf}{r:Bool}(h:zcu c d r c' a)(hd:d.Ok):a.Ok∧a.room=d.room∧(r=true→d.b.length<a.b.length∧a.b.length+4≤d.room)∧d.b.length≤a.b.length:=by
 cases r with
 | true =>
  obtain⟨f,hf,_,ha⟩:=h.yes rfl;obtain⟨h1,h2,h3,_,_,h4⟩:=Drf.add_some ha;have hb:=zdX f;have hl:a.b.length=d.b.length+(zC f).length:=by rw[h1,List.length_append]
  have hr:=hd.room;have hs:=hd.fs;exact⟨⟨by omega,by rw[h2,List.length_append,List.length_singleton];omega,by omega⟩,h3,fun _=>⟨by omega,h4⟩,by omega⟩
 | false =>
  obtain⟨_,e|e⟩:=h.no rfl
  ·rw[e];exact⟨hd,rfl,(by intro x;cases x),Nat.le_refl _⟩
  ·rw[e];exact⟨⟨hd.b,hd.fs,hd.room⟩,rfl,(by intro x;cases x),Nat.le_refl _⟩
def CS.reps(q:Nat):Nat→CS→Drf→CS×Drf
 | 0,c,d=>(c,d)
 | n+1,c,d=>if (c.put d q).1=true then CS.reps q n (c.put d q).2.1 (c.put d q).2.2 else((c.put d q).2.1,(c.put d q).2.2)
def CS.fillN:Nat→CS→Drf→CS×Drf
 | 0,c,d=>(c,d)
 | n+1,c,d=>CS.fillN n (CS.reps (9-n) (d.room+1) c d).1 (CS.reps (9-n) (d.room+1) c d).2
def CS.fill(c:CS)(d:Drf):CS×Drf:=CS.fillN 10 c d
def popL(l:List Nat):List Nat:=(zdw (l.length-1) (zck l 0 (l.length-1)) 0 (l.length-1)).take (l.length-1)
def zdz:Nat→List Nat
 | 0=>List.range 10
 | n+1=>popL (zdz n)
theorem zec:∀n,n≤10→(zdz n).length=10-n:=by decide
theorem zme:∀n,n<10→zdw ((zdz n).length-1) (zck (zdz n) 0 ((zdz n).length-1)) 0 ((zdz n).length-1)=zdz (n+1)++[n]:=by decide
def RRT(tag:Nat→Nat×Nat)(t:Nat×Nat)(W:World)(v:Value)(l:zD):Prop:=RR W v l∧∀g,Value.blk v=some g→tag g=t
theorem RRT.mod{S:Nat→Prop}{tag tag':Nat→Nat×Nat}{t:Nat×Nat}{W W':World}{v:Value}{l:zD}(h:RRT tag t W v l)(m:Mod S W W')(hS:∀g,S g→tag g≠t)(ht:∀g,tag g=t→tag' g=t):RRT tag' t W' v l :=
 ⟨h.1.mod m (zaB fun g hg x=>hS g x (h.2 g hg)),fun g hg=>ht g (h.2 g hg)⟩
theorem RRT.nil(tag:Nat→Nat×Nat)(t:Nat×Nat)(W:World):RRT tag t W (.slice none 0 0) [] :=
 ⟨⟨none,0,rfl,Nat.le_refl _,Nat.zero_le _,fun i hi=>absurd hi (Nat.not_lt_zero i)⟩,fun g hg=>by simp[Value.blk]at hg⟩
def CS.acks(c:CS):zD×CS:=if c.answer then(c.got.rs.reverse,{ c with answer:=false })else([],c)
def zot(tag:Nat→Nat×Nat)(i b:Nat)(W:World)(l:zD)(c':CS)(e:Ending)(W':World):Prop :=
 ∃v tag' V',e = .returned v∧RRT tag' (i,5) W' v l∧zg tag' i b c' V' W'∧Ext i tag tag' W W'∧Mod (zaf i tag) W W'
theorem ziG{w:World}{e sz n:Nat}{v:Value}{xs:List Value}(h:w.ownsRow 0 e sz v n xs){g:Nat}(hg:Value.blk v=some g):v.ownBlock=some g:=by
 rcases h.2 with⟨rfl,_⟩|⟨g',cap,cur,rfl,_⟩
 ·simp[Value.blk]at hg
 ·simpa [Value.blk,Value.ownBlock]using hg
theorem zou{tag:Nat→Nat×Nat}{i b:Nat}{c:CS}{V:CV}{W:World}(h:zg tag i b c V W)(E:Env i tag W)(hg:c.got.Ok) :
  Calls Tryz.prog 82 #[.pointer (some ⟨b,0,none⟩)] W (zot tag i b W c.acks.1 c.acks.2):=by
 have n:W.cell? ⟨b,8,none⟩=some (.bool c.answer):=h.hd (j:=8) rfl;have c7:W.cell? ⟨b,7,none⟩=some (.pointer (some ⟨V.g,0,none⟩)):=h.hd (j:=7) rfl;have HH:=zb h;have o:=zb E;have HG:=zb hg;cases ha:c.answer with
 | false =>
  rw[ha]at n;have a:c.acks=([],c):=by simp[CS.acks,ha]
  rw[a];clear h E hg a ha;go_enter Tryz.func82,Tryz.ntmps82;go_wp2_with fail;go_ret;exact⟨_,tag,V,rfl,RRT.nil _ _ _,HH.out,Ext.same o.out.ok (Mod.refl NoB _),Mod.refl _ _⟩
 | true =>
  rw[ha]at n;have a:c.acks=(c.got.rs.reverse,{ c with answer:=false }):=by simp[CS.acks,ha]
  rw[a];have p:V.g≠b:=fun e=>by
   have s:=h.tg;have t:=h.tb;rw[e,t]at s;simp at s
  obtain⟨W1,d⟩:=nm (W.setCell ⟨b,8,none⟩ (.bool false));have h1:zg tag i b { c with answer:=false } V W1:=by
   rw[←d];exact h.store 8 (.bool false) (za4 c { c with answer:=false } V V (j:=8) (.bool false) (by decide) rfl rfl rfl rfl) ⟨rfl,fun _ _=>⟨rfl,rfl,rfl⟩,fun _ _=>⟨rfl,rfl⟩,rfl,rfl,rfl,rfl⟩
  have m1:Mod (fun g=>g=b) W W1:=by rw[←d];exact(Mod.refl (fun g=>g=b) _).setCell (.inl rfl) _
  have k:Mod (zaf i tag) W W1:=m1.mono (fun g hg=>.inl (zbk (r:=1) (by rw[show g=b from hg];exact h.tb) (by decide)));have hs:=fun W2 (m:Mod NoB W1 W2) (D:Nat) (u:W2.cell? ⟨D,0,none⟩=some (.pointer (some ⟨V.g,0,none⟩)))=>zih c.got.rs c.got.fl c.got.most V.g D V.gv W2 (h1.mod0 m).got (fun j w=>by have:=hg.wf.1 j w;omega) u
  have F:=zlt V.g W1;have c71:W1.cell? ⟨b,7,none⟩=some (.pointer (some ⟨V.g,0,none⟩)):=h1.hd (j:=7) rfl;have fz:=h.fz 8;have H1:=zb h1;have M1:=zb m1;have y:=zb k;have KC:=zb hs;have KD:=zb F;clear h E hg a ha h1 m1 k hs F p;go_enter Tryz.func82,Tryz.ntmps82;go_upto_region 4 with fail;clear d n c7;go_wp2_with (first|(go_at_call 141;refine KD.out.mono ?_;rintro e w2 ⟨rfl,rfl⟩)|(go_at_call 143;refine(KC.out _ ((Mod.refl NoB W1).alloc _) _ (za (heap_alloc_new W1 _) rfl)).mono ?_;rintro e f ⟨v,rfl,z,hn,hm⟩));go_ret;have G:Mod NoB W1 f:=((Mod.refl NoB W1).alloc (.cells #[.pointer (some ⟨V.g,0,none⟩)] 114)).trans hm;have A:=zE z;have hsz:W.heap.size≤W1.heap.size:=M1.out.size;have H:Mod (zaf i tag) W f:=y.out.trans (G.mono (fun _ x=>x.elim));have l:∀g,(tag g).1=i→retag tag W f (i,5) g=tag g:=fun g hg=>zw (by
   by_cases q:g<W.heap.size
   ·exact q
   ·have:=o.out.ok g (by omega);rw[this]at hg;have:=o.out.pos;have hg:(0:Nat)=i:=hg;omega)
  refine⟨v,retag tag W f (i,5),V,rfl,⟨?_,fun g hg=>?_⟩,H1.out.mod G (fun _ x=>x.elim) l,⟨fun g hg=>zw hg,fun g hg=>?_,fun g hg=>?_⟩,H⟩
  ·have B:c.got.rs.reverse.length=c.got.rs.length:=by simp
   have C:f.ownsRow 0 214 2 v c.got.rs.reverse.length (zn c.got.rs.reverse):=by rw[B];exact z
   exact zlq (rs:=c.got.rs) C (fun j w=>by have:=HG.out.wf.1 j w;omega) (fun x a=>List.mem_reverse.1 a)
  ·have hb:=ziG z hg;have s:=hn g hb;have t:=A g hb;have a3:(W1.alloc (.cells #[.pointer (some ⟨V.g,0,none⟩)] 114)).heap.size=W1.heap.size+1:=by simp
   exact zaj (by omega) t
  ·by_cases q:g<f.heap.size
   ·exact .inl (by rw[zaj hg q])
   ·exact .inr (by simp only[retag,show ¬g<W.heap.size by omega,q,if_neg,not_false_eq_true])
  ·have:=H.size;simp only[retag,show ¬g<W.heap.size by omega,show ¬g<f.heap.size by omega,if_neg,not_false_eq_true]
def ackF(rs:zD):Frm:=⟨2,0,0,0,0,false,0,0,[],rs⟩
def zdA(d:Drf)(l:zD):Nat→Nat
 | 0=>0
 | n+1=>if 1<n+1∧d.room<(d.b++zC (ackF (l.take (n+1)))).length+4 then zdA d l n else n+1
def zem(d:Drf)(l:zD):Drf×zD:=((d.add (ackF (l.take (zdA d l l.length)))).getD d,l.drop (zdA d l l.length))
theorem zhe(d:Drf)(l:zD):∀n,1≤n→1≤zdA d l n
 | 0,h=>h
 | n+1,_=>by
  unfold zdA;split
  ·rename_i h;exact zhe d l n (by omega)
  ·omega
def zpo(l:zD):Prop:=∀n,1≤n→n≤l.length→zT (ackF (l.take n))=true
theorem zgm(l:zD):(zC (ackF l)).length≤64+16*l.length:=by
 have e:zC (ackF l)=za3 (ackF l):=rfl;have w1:=zs (hiAt l 0);have w2:=zs (l.length-1);have w3:=zs (hiAt l 0-loAt l 0);have w4:=zc4 l (l.length-1);have e2:(ackF l).rngs=l:=rfl;rw[e];unfold za3;rw[e2];simp only[List.length_append,List.length_cons,List.length_nil];omega
theorem ziH{w:World}{a:Option Addr}{n cap:Nat}{l:zD}(h:RR w (.slice a l.length cap) l)(hn:n≤l.length)(c2:Nat)(h1:n≤c2)(h2:c2≤maxLen):RR w (.slice a n c2) (l.take n):=by
 obtain⟨a',b,e,_,_,h3⟩:=h;cases e;have hl:(l.take n).length=n:=by rw[List.length_take];omega
 refine⟨a,c2,by rw[hl],by omega,h2,fun i hi=>?_⟩;obtain⟨g,o,e,x1,x2,x3⟩:=h3 i (by omega);have c:=zeI l n i (by omega);rw[c.1,c.2];exact⟨g,o,e,x1,x2,x3⟩
theorem zmf{w:World}{g o n cap:Nat}{l:zD}(h:RR w (.slice (some ⟨g,o,none⟩) l.length cap) l)(hn:n≤l.length):RR w (.slice (some ⟨g,o+n*2,none⟩) (l.length-n) (cap-n)) (l.drop n):=by
 obtain⟨a',a,e,h1,h2,h3⟩:=h;cases e;refine⟨_,cap-n,by rw[List.length_drop],by rw[List.length_drop];omega,by omega,fun i hi=>?_⟩;rw[List.length_drop]at hi;obtain⟨g',o',e,x1,x2,x3⟩:=h3 (n+i) (by omega);cases e;have b:=zbQ l n i;rw[b.1,b.2];refine⟨g,o+n*2,rfl,?_,?_,x3⟩
 ·rw[show o+n*2+i*2=o+(n+i)*2 by omega];exact x1
 ·rw[show o+n*2+i*2+1=o+(n+i)*2+1 by omega];exact x2
theorem zmg{w:World}{a:Option Addr}{n:Nat}{l:zD}(hn:l.length-n=0):RR w (.slice a (l.length-n) 0) (l.drop n):=by
 refine⟨a,0,by rw[List.length_drop],by rw[List.length_drop];omega,Nat.zero_le _,fun i hi=>?_⟩;rw[List.length_drop]at hi;omega
theorem zI.probe{tag:Nat→Nat×Nat}{i b db:Nat}{W:World}{c:CS}{d:Drf}{tag':Nat→Nat×Nat}{t:CV}{f k:Value}{o:List (Frm×Value)}{W1 W2:World}{new:List UInt8}{v':Value}(h:zI tag i b db W c d tag' t f k o W1)(u:App W1 f d.b new v' W2) :
  zI tag i b db W c d (retag tag' W1 W2 (i,91)) t f k o W2∧Ext i tag' (retag tag' W1 W2 (i,91)) W1 W2∧Mod (zg6 i tag') W1 W2:=by
 have hk:=h.ok;have a:=h.d;have l:Mod (fun g=>f.ownBlock=some g) W1 W2:=(Mod.refl (fun g=>f.ownBlock=some g) W1).grown u.grown (fun g hg=>.inl hg);have j:∀{g r:Nat},tag' g=(i,r)→g<W1.heap.size:=fun hg=>zaA hk hg h.p
 have dd:zae (retag tag' W1 W2 (i,91)) i db d f k o W2 :=
  ⟨l.obj (fun x=>zg.apart a.tb (a.tbv _ x) (by decide) rfl) a.obj,by rw[zw (j a.tb),a.tb],u.old,fun g hg=>by rw[zw (j (a.tbv g hg)),a.tbv g hg],l.owns a.own (fun g hg x=>zg.apart (a.tfv g hg) (a.tbv g x) (by decide) rfl),a.lf,
   fun x n=>⟨(a.rr x n).1.mod l (zaB fun g hg y=>zg.apart ((a.rr x n).2 g hg) (a.tbv g y) (by decide) rfl),fun g hg=>by rw[zw (j ((a.rr x n).2 g hg)),(a.rr x n).2 g hg]⟩,fun g hg=>by rw[zw (j (a.tfv g hg)),a.tfv g hg]⟩
 have md:Mod (zg6 i tag') W1 W2:=l.mono (fun g hg=>.inl ⟨91,by decide,a.tbv g hg⟩);have s:DExt i tag' (retag tag' W1 W2 (i,91)) W1 W2:=by
  refine⟨fun g hg=>zw hg,fun g hg=>?_,fun g hg=>?_⟩
  ·by_cases q:g<W2.heap.size
   ·exact .inl ⟨91,by decide,zaj hg q⟩
   ·exact .inr (by simp only[retag,show ¬g<W1.heap.size by omega,q,if_neg,not_false_eq_true])
  ·have:=l.size;simp only[retag,show ¬g<W1.heap.size by omega,show ¬g<W2.heap.size by omega,if_neg,not_false_eq_true]
 exact⟨⟨h.c.modR hk h.p md s.old,dd,h.e.trans s.ext h.m.size,zan h.e h.m (zb7 md),h.p⟩,s.ext,md⟩
def zew(tag:Nat→Nat×Nat)(i b db:Nat)(W:World)(c:CS)(d':Drf)(l':zD)(e:Ending)(W':World):Prop :=
 ∃v tag' V' bv' fv' fl',e = .returned v∧RRT tag' (i,5) W' v l'∧zI tag i b db W c d' tag' V' bv' fv' fl' W'
theorem RRT.drole{tag tag':Nat→Nat×Nat}{i:Nat}{W W':World}{v:Value}{l:zD}(h:RRT tag (i,5) W v l)(hk:zP tag W)(hi:0<i)(m:Mod (zg6 i tag) W W')(e:∀g,g<W.heap.size→tag' g=tag g):RRT tag' (i,5) W' v l :=
 h.mod m (fun g ⟨r,hr,hx⟩ x=>by rw[hx]at x;simp at x;omega) (fun g hg=>by rw[e g (zaA hk hg hi),hg])
theorem zov{tag:Nat→Nat×Nat}{i b db:Nat}{c:CS}{V:CV}{d:Drf}{bv fv lv:Value}{l:List (Frm×Value)}{f:zD}{W:World}(h:zg tag i b c V W)(R:zae tag i db d bv fv l W)(E:Env i tag W)(z:RRT tag (i,5) W lv f)(T:1≤f.length)(H:zpo f)(ac:f.length≤1048576)(hbl:d.b.length≤1073741824)(hll:d.fs.length≤1073741824)(hrm:d.room≤1073741824) :
  Calls Tryz.prog 84 #[.pointer (some ⟨b,0,none⟩),.pointer (some ⟨db,0,none⟩),lv] W (zew tag i b db W c (zem d f).1 (zem d f).2):=by
 have S0:Hid (zI tag i b db W c d tag V bv fv l W):=zb ⟨h,R,Ext.same E.ok (Mod.refl NoB _),Mod.refl _ _,E.pos⟩;have w:l.length=d.fs.length:=by rw[←R.lf,List.length_map]
 obtain⟨I,m,U,_⟩:=zj R.ob;subst U;obtain⟨a,cap,e,n1,n2,n3⟩:=z.1;subst e;obtain⟨g,o,ea,_⟩:=n3 0 (by omega);subst ea;obtain⟨N,X⟩:=nm (zdA d f f.length);have hT:zem d f=((d.add (ackF (f.take N))).getD d,f.drop N):=by unfold zem;rw[X]
 rw[hT];have R0:=zb z;have G:=zb X;have A:=zb H;have J:=zb w;have Y:=n2;unfold maxLen at Y;clear h R E z n3 H hT X w;go_enter Tryz.func84,Tryz.ntmps84;go_wp2_with fail
 go_loopw [7] (fun Z wr=>∃(n:Nat) (tag':Nat→Nat×Nat),Z = .int .i64 (n:Int)∧1≤n∧n≤f.length∧Hid (zdA d f n=N)∧Hid (zI tag i b db W c d tag' V (.slice I d.b.length m) fv l wr)∧Hid (RRT tag' (i,5) wr (.slice (some ⟨g,o,none⟩) f.length cap) f)) (fun Z _=>(intOf Z).toNat)
 case atStart=>exact⟨f.length,tag,rfl,T,Nat.le_refl _,G,S0,R0⟩
 case round =>
  clear S0 R0 G;obtain⟨n,tag',rfl,h1,h2,G,SS,M⟩:=hrel;have d1:(0:Int)≤n:=by omega
  have d2:(n:Int)≤cap:=by omega
  have hnt:((n:Int)).toNat=n:=by omega
  by_cases O:1<n
  ·have d3:(1:Int)<n:=by omega
   have ht:(f.take n).length=n:=by rw[List.length_take];omega
   have aa:=zgm (f.take n);have B:=SS.out.mod0 ((Mod.refl NoB wr).drew);have rd:RRT tag' (i,5) wr.drew (.slice (some ⟨g,o,none⟩) f.length cap) f:=M.out.mod ((Mod.refl NoB wr).drew) (fun _ x=>x.elim) (fun _ x=>x);have od:=B.d.obj;have ka:=zdR (.slice I d.b.length m) d.b (ackF (f.take n)) (.slice (some ⟨g,o,none⟩) n cap) wr.drew B.d.ob (fun _=>zaB fun q r x=>zg.apart (rd.2 q r) (B.d.tbv q x) (by decide) rfl) (ziH rd.1 h2 cap (by omega) n2) (by show(f.take n).length≤_;omega) (by show(0:Nat)≤_;omega) (by omega);rw [show zh (ackF (f.take n)) (.slice (some ⟨g, o, none⟩) n cap) = #[.int .i64 2, .int .i64 0, .int .u64 0, .int .u64 0, .int .u64 0, .bool false, .int .u64 0, .int .u64 0, .string "".toUTF8, .slice (some ⟨g, o, none⟩) n cap] from rfl] at ka;have kb:∀e w2,zer wr.drew (.slice I d.b.length m) d.b (zT (ackF (f.take n))) (zC (ackF (f.take n))) e w2→∃a2 c2 tag2,e = .returned (.slice a2 (d.b++zC (ackF (f.take n))).length c2)∧Hid (zI tag i b db W c d tag2 V (.slice I d.b.length m) fv l w2)∧Hid (RRT tag2 (i,5) w2 (.slice (some ⟨g,o,none⟩) f.length cap) f):=by
    rintro e w2 (⟨_,v',rfl,hA⟩|⟨hx,_⟩)
    ·obtain⟨s2,e2,m2⟩:=B.probe hA;obtain⟨a2,c2,e3,_⟩:=zj hA.own;exact⟨a2,c2,_,by rw[e3],s2,rd.drole B.ok B.p m2 e2.old⟩
    ·rw[A.out n h1 h2]at hx;cases hx
   obtain⟨L,S⟩:=nm ((d.b++zC (ackF (f.take n))).length);rw[S]at kb;have hLb:L≤2147483648:=by rw[←S,List.length_append];omega
   have q4:IntKind.i64.wrap ((L:Int)+4)=(L:Int)+4:=IntWalk.i64_in _ (by omega);have KA:=zb (ka.mono kb);have HL:=zb S;have ab:=zb od;clear ka kb aa S ht B rd od;go_wp2_with fail;refine zl 20 (fun w'=>w'.heap[db]?=some (.cells #[.slice I d.b.length m,fv,.int .i64 (d.room:Int),.bool d.wants,.bool d.full] 180 (0,0))) (ab.out) ?_;refine GI 0 ?_;iterate 11
    refine GS rfl ?_ ?_ ?_;rotate_left
    ·(intro wx j;(try dsimp only at j);have c0:=za (o:=0) j rfl;have c2:=za (o:=2) j rfl;go_simp)<;>(try with_reducible rfl)
    try simp only[PS]
   refine GI 14 ?_;iterate 4
    refine GS rfl ?_ ?_ ?_;rotate_left
    ·(intro wx j;(try dsimp only at j);have c0:=za (o:=0) j rfl;have c2:=za (o:=2) j rfl;go_simp)<;>(try with_reducible rfl)
    try simp only[PS]
   refine zx 11 rfl (fun K hK=>?_);go_simp;refine KA.out.mono ?_;rintro e w2 ⟨a2,c2,tag2,rfl,s,v⟩;refine hK.out _ _ s.out.d.obj ?_;clear hK K;try simp only[PS]
   refine GI 12 ?_;iterate 2
    refine GS rfl ?_ ?_ ?_;rotate_left
    ·(intro wx j;(try dsimp only at j);have c0:=za (o:=0) j rfl;have c2:=za (o:=2) j rfl;go_simp)<;>(try with_reducible rfl)
    try simp only[PS]
   refine GI 18 ?_;iterate 2
    refine GS rfl ?_ ?_ ?_;rotate_left
    ·(intro wx j;(try dsimp only at j);have c0:=za (o:=0) j rfl;have c2:=za (o:=2) j rfl;go_simp)<;>(try with_reducible rfl)
    try simp only[PS]
   refine zo ?_;by_cases y:d.room<L+4
   ·have d4:(d.room:Int)<(L:Int)+4:=by omega
    have q5:IntKind.i64.wrap ((n:Int)-1)=((n-1:Nat):Int):=by rw[IntWalk.i64_in _ (by omega)];omega
    go_wp2_with fail;go_roundw
    case rel =>
     have z:=HL.out;have hn:=G.out;refine⟨n-1,tag2,rfl,by omega,by omega,zb ?_,s,v⟩;obtain⟨k,rfl⟩:∃k,n=k+1:=⟨n-1,by omega⟩;rw[←hn,Nat.add_sub_cancel]
     conv=>rhs;unfold zdA
     rw[if_pos ⟨O,by rw[z];exact y⟩]
    case measure =>
     simp[intOf];omega
   ·have d4:¬(d.room:Int)<(L:Int)+4:=by omega
    have C:N=n:=by
     have z:=HL.out;rw[←G.out];obtain⟨k,rfl⟩:∃k,n=k+1:=⟨n-1,by omega⟩;unfold zdA;rw[if_neg (fun x=>y (by have:=x.2;rw[z]at this;exact this))]
    subst C;go_upto_region 4 with fail;have D:=zeu s.out.d s.out.ok s.out.p (ackF (f.take N)) (some ⟨g,o,none⟩) N N (A.out N h1 h2) (ziH v.out.1 h2 N (Nat.le_refl _) (by omega)) (fun q r=>v.out.2 q (by simpa [Value.blk]using r)) (by show(f.take N).length≤_;rw[List.length_take];omega) (by show(0:Nat)≤_;omega) (by omega) (by have:=zgm (f.take N);rw[List.length_take]at this;omega) (by rw[J.out];omega);rw [show zh (ackF (f.take N)) (.slice (some ⟨g, o, none⟩) N N) = #[.int .i64 2, .int .i64 0, .int .u64 0, .int .u64 0, .int .u64 0, .bool false, .int .u64 0, .int .u64 0, .string "".toUTF8, .slice (some ⟨g, o, none⟩) N N] from rfl] at D;have KD:=zb (D.mono (R':=fun e u=>∃x tag3 bv3 fv3 l3,e = .returned (.bool x)∧Hid (zI tag i b db W c ((d.add (ackF (f.take N))).getD d) tag3 V bv3 fv3 l3 u)∧Hid (RRT tag3 (i,5) u (.slice (some ⟨g,o,none⟩) f.length cap) f)) (fun e u F=>by
     obtain⟨e1,tag3,bv3,fv3,l3,s3,t,m3⟩:=s.out.add2 F;exact⟨_,tag3,bv3,fv3,l3,e1,s3,v.out.drole s.out.ok s.out.p m3 t⟩))
    clear D;go_upto_region 5 with(go_at_call 142;refine KD.out.mono ?_;rintro e u ⟨x,tag3,bv3,fv3,l3,rfl,S3,P⟩);have Q:Hid (∀v2,RR u v2 (f.drop N)→(∀q,Value.blk v2=some q→q=g)→zew tag i b db W c ((d.add (ackF (f.take N))).getD d) (f.drop N) (.returned v2) u):=zb fun v2 hv r=>⟨v2,tag3,V,bv3,fv3,l3,rfl,⟨hv,fun q hb=>by rw[r q hb];exact P.out.2 g rfl⟩,S3.out⟩
    have d5:(N:Int)≤f.length:=by omega
    go_wp2_with fail;all_goals go_ret
    ·exact Q.out _ (zmg (by omega)) (fun q r=>by simpa [Value.blk]using r.symm)
    ·exact Q.out _ (zmf P.out.1 h2) (fun q r=>by simpa [Value.blk]using r.symm)
  ·have d3:¬(1:Int)<n:=by omega
   have C:N=n:=by
    rw[←G.out];obtain⟨k,rfl⟩:∃k,n=k+1:=⟨n-1,by omega⟩;unfold zdA;rw[if_neg (fun x=>O x.1)]
   subst C;have hd:decide ((1:Int)<N)=false:=by simpa using d3
   go_wp2_with fail;go_quiet (fail);have s:=fun a=>zb (SS.out.mod0 ((Mod.refl NoB wr).drewN a))
   have v:∀a,Hid (RRT tag' (i,5) (wr.drewN a) (.slice (some ⟨g,o,none⟩) f.length cap) f):=fun a=>zb (M.out.mod ((Mod.refl NoB wr).drewN a) (fun _ x=>x.elim) (fun _ x=>x))
   replace s:=s ‹Nat›;replace v:=v ‹Nat›;go_upto_region 4 with fail;have D:=zeu s.out.d s.out.ok s.out.p (ackF (f.take N)) (some ⟨g,o,none⟩) N N (A.out N h1 h2) (ziH v.out.1 h2 N (Nat.le_refl _) (by omega)) (fun q r=>v.out.2 q (by simpa [Value.blk]using r)) (by show(f.take N).length≤_;rw[List.length_take];omega) (by show(0:Nat)≤_;omega) (by omega) (by have:=zgm (f.take N);rw[List.length_take]at this;omega) (by rw[J.out];omega);rw [show zh (ackF (f.take N)) (.slice (some ⟨g, o, none⟩) N N) = #[.int .i64 2, .int .i64 0, .int .u64 0, .int .u64 0, .int .u64 0, .bool false, .int .u64 0, .int .u64 0, .string "".toUTF8, .slice (some ⟨g, o, none⟩) N N] from rfl] at D;have KD:=zb (D.mono (R':=fun e u=>∃x tag3 bv3 fv3 l3,e = .returned (.bool x)∧Hid (zI tag i b db W c ((d.add (ackF (f.take N))).getD d) tag3 V bv3 fv3 l3 u)∧Hid (RRT tag3 (i,5) u (.slice (some ⟨g,o,none⟩) f.length cap) f)) (fun e u F=>by
    obtain⟨e1,tag3,bv3,fv3,l3,s3,t,m3⟩:=s.out.add2 F;exact⟨_,tag3,bv3,fv3,l3,e1,s3,v.out.drole s.out.ok s.out.p m3 t⟩))
   clear D;go_upto_region 5 with(go_at_call 142;refine KD.out.mono ?_;rintro e u ⟨x,tag3,bv3,fv3,l3,rfl,S3,P⟩);have Q:Hid (∀v2,RR u v2 (f.drop N)→(∀q,Value.blk v2=some q→q=g)→zew tag i b db W c ((d.add (ackF (f.take N))).getD d) (f.drop N) (.returned v2) u):=zb fun v2 hv r=>⟨v2,tag3,V,bv3,fv3,l3,rfl,⟨hv,fun q hb=>by rw[r q hb];exact P.out.2 g rfl⟩,S3.out⟩
   have d5:(N:Int)≤f.length:=by omega
   go_wp2_with fail;all_goals go_ret
   ·exact Q.out _ (zmg (by omega)) (fun q r=>by simpa [Value.blk]using r.symm)
   ·exact Q.out _ (zmf P.out.1 h2) (fun q r=>by simpa [Value.blk]using r.symm)
end Go.Proofs.YtddfdpbaiedcjaaGreatDoor
