/- A part of Urgent's proof. Conditions: none. Part 26 of 32. -/
import Derived.Test.YtddfdpbaiedcjaaGreatDoorUrg23
import Derived.Test.YtddfdpbaiedcjaaGreatDoorUrg25
set_option maxRecDepth 100000
set_option maxHeartbeats 16000000
set_option linter.all false
namespace Go.Proofs.YtddfdpbaiedcjaaGreatDoor
open Go.RowKit
theorem zcR{tag tag':Nat→Nat×Nat}{i b:Nat}{W c X e:World}{c2:CS}(hi:0<i)(d:Ext i tag tag' W c)(m1:Mod (fun g=>(tag g).1=i) W c)(mx:Mod NoB c X)(h2:zbc tag' i b X c2 e):zbc tag i b W c2 e:=by
 obtain⟨tag2,V2,a,b',c'⟩:=h2.from0 d.out hi mx;refine⟨tag2,V2,a,d.trans b' m1.size,m1.then c' (fun g hg=>?_)⟩;by_cases q:g<W.heap.size
 ·exact .inl (by rw[←d.old g q];exact hg)
 ·exact .inr (by omega)
theorem zd1{tag:Nat→Nat×Nat}{i b:Nat}{W W':World}{c c':CS}(h:zbc tag i b W c W')(hi:0<i)(j:Nat)(v:Value)(hc:∀V,(zr c V).set j v=zr c' V)(s:zbH c c'):zbc tag i b W c' (W'.setCell ⟨b,j,none⟩ v):=by
 obtain⟨tag',a,h1,h2,h3⟩:=h;have m:Mod (fun q=>q=b) W' (W'.setCell ⟨b,j,none⟩ v):=(Mod.refl (fun q=>q=b) _).setCell (p:=⟨b,j,none⟩) (.inl rfl) _;refine⟨tag',a,h1.store j v (hc a) s,⟨h2.old,h2.new,h2.out.mod m⟩,h3.then m (fun g hg=>?_)⟩;have hg:g=b:=hg;by_cases q:g<W.heap.size
 ·exact .inl (by rw[←h2.old g q,hg,h1.tb])
 ·exact .inr (by omega)
theorem zqn{c:CS}{bs:List UInt8}{n:Nat}{fs:List Frm}(hc:c.closed=0)(hd:dec bs = .ok n fs):c.receive bs=if zpE c.got.rs c.got.fl n then((0,-1),c)else(((CS.takes fs { c with got:=c.got.add n n }).1,-1),(CS.takes fs { c with got:=c.got.add n n }).2):=by
 unfold CS.receive;rw[if_neg (by omega),hd]
theorem zkO{c:CS}{f:Frm}{fs:List Frm}(h:(c.take f).1=0):CS.takes (f::fs) c=CS.takes fs { (c.take f).2 with answer:=(c.take f).2.answer||f.kind != 2 }:=by
 rw[CS.takes,if_neg (by rw[h];simp)]
theorem zkP{c:CS}{f:Frm}{fs:List Frm}(h:(c.take f).1≠0):CS.takes (f::fs) c=((c.take f).1,{ (c.take f).2 with closed:=(c.take f).1,said:=(c.take f).1==13 }):=by
 rw[CS.takes,if_pos h]
theorem zkQ{tag:Nat→Nat×Nat}{i b:Nat}{c:CS}{V:CV}{W:World}(h:zg tag i b c V W)(ht:zP tag W)(hi:0<i)(v:Value)(bs:List UInt8)(n:Nat)(fs:List Frm)(ay:BR W v bs)(aa:Tab W)(hl:bs.length<1099511627776)(hc:c.closed=0)(hd:dec bs = .ok n fs)(ok:zjV c bs)(a7:fs.length≤1099511627776) :
  Calls Tryz.prog 51 #[.pointer (some ⟨b,0,none⟩),v] W (zdK tag i b W (c.receive bs).1.1 (c.receive bs).1.2 (c.receive bs).2):=by
 have kd:=zci v bs W ay aa hl;rw[hd]at kd;obtain⟨o1,o2,o3⟩:=ok hc n fs hd;rw[zqn hc hd];have c4:W.cell? ⟨b,4,none⟩=some (.int .i64 (c.closed:Int)):=h.hd (j:=4) rfl;rw[hc]at c4;obtain⟨hb,ad⟩:=nm (zpE c.got.rs c.got.fl n);rw[ad]at o3 ⊢;obtain⟨R,hR⟩:∃o,(if hb=true then((0,-1),c)else(((CS.takes fs { c with got:=c.got.add n n }).1,-1),(CS.takes fs { c with got:=c.got.add n n }).2):(Nat×Int)×CS)=o:=⟨_,rfl⟩;rw[hR];have HR:=zb hR;clear hR;have HH:=zb h;have O:=zb ht;have z:=zb hi;have P:=zb kd;have O1:=zb o1;have O2:=zb o2;have O3:=zb o3;have a8:=zb ad;have q2:=o2;unfold zA at q2;obtain⟨va,vc,rfl,_⟩:=ay;clear h ht hc kd aa ok hd o1 o2 o3 ad;go_enter Tryz.func51,Tryz.ntmps51;go_wp2_with fail;refine(P.out).mono ?_;rintro e W2 ⟨m2,fv,A,rfl,E,F,ae,az⟩;obtain⟨fa,fc,rfl,q3,q4,_⟩:=zj E.1;have af:A.length=fs.length:=by rw[←F,List.length_map]
 obtain⟨N,hN⟩:=nm fs.length;rw[hN]at a7;rw[af,hN]at E ae q3 ⊢;unfold maxLen at q4;obtain⟨D,G⟩:=nm (W2.alloc (.cells #[.int .u64 (n:Int),.slice fa N fc] 56));have m3:Mod NoB W D:=by rw[←G];exact m2.alloc _
 have ah:Mod NoB W2 D:=by rw[←G];exact(Mod.refl _ _).alloc _
 have oP:D.heap[W2.heap.size]?=some (.cells #[.int .u64 (n:Int),.slice fa N fc] 56 (0,0)):=by rw[←G];exact heap_alloc_new W2 _
 obtain⟨B,Q⟩:=nm W2.heap.size;rw[Q]at oP;have p0:=za (o:=0) oP rfl;have p1:D.cell? ⟨B,1,none⟩=some (.slice fa N fc):=za (o:=1) oP rfl;have h3:=HH.out.mod0 m3;have c7:D.cell? ⟨b,7,none⟩=some (.pointer (some ⟨V.g,0,none⟩)):=h3.hd (j:=7) rfl;have kh:=zqm c.got V.g 0 n V.gv D.drew (h3.got.mod (Mod.refl NoB D).drew (fun x=>x) (fun _ _ x=>x)) O1.out.wf;rw[a8.out]at kh;have ab:W.heap.size≤B:=by rw[←Q];exact m2.size
 have y:zc5 D (.slice fa N fc) A:=(zh9.frs E).mod0 ah;have KH:=zb kh;have H3:=zb h3;have H:=zb m3;have a9:=zb ah;have aA:=zb y;have ba:=zb ae;have aB:=zb az;have bb:Hid (∀x∈A,∀g,x.2.ownBlock=some g→g<W2.heap.size):=zb (fun x hx g hg=>zE (E.2 x hx).1 g hg);have bc:=zb F;have bd:=zb af;have HN:=zb hN;have be:=zb G;have bf:=zb Q;have bh:=zb ab;have hE:=eq_nil;clear m2 m3 ah oP h3 kh ab y E ae az F af hN G Q;go_upto_region 9 with fail;rw[be.out,bf.out];refine zB ?_;refine zl 8 (fun w'=>w'.cell? ⟨b,7,none⟩=some (.pointer (some ⟨V.g,0,none⟩))∧w'.cell? ⟨B,0,none⟩=some (.int .u64 (n:Int))) (⟨c7,p0⟩) ?_;refine GI 0 ?_;iterate 6
  refine GS rfl ?_ ?_ ?_;rotate_left
  ·(intro wx r;(try dsimp only at r);obtain⟨f7,f0⟩:=r;go_simp)<;>(try with_reducible rfl)
  try simp only[PS]
 refine zx 6 rfl (fun K hK=>?_);go_simp;go_simp
 with_reducible refine(KH.out).mono ?_
 rintro e p ⟨rfl,m4⟩;have M4:=zb m4;have aC:p.cell? ⟨b,7,none⟩=some (.pointer (some ⟨V.g,0,none⟩))∧p.cell? ⟨B,0,none⟩=some (.int .u64 (n:Int)):=⟨m4.cell (a:=⟨b,7,none⟩) (fun x=>x) c7,m4.cell (a:=⟨B,0,none⟩) (fun x=>x) p0⟩;clear m4;go_simp;refine hK.out _ _ aC ?_;clear aC;clear hK K;try simp only[PS]
 refine GI 7 ?_;refine GS rfl ?_ ?_ ?_;rotate_left
 ·(intro wx r;(try dsimp only at r);obtain⟨f7,f0⟩:=r;go_simp)<;>(try with_reducible rfl)
 try simp only[PS]
 refine zo ?_;refine⟨rfl,?_⟩;cases hb with
 | true =>
  go_wp2_with fail;go_ret;rw[←HR.out];simp only[if_true];exact⟨_,rfl,.inl ⟨rfl,rfl⟩,(H3.out.mod0 ((Mod.refl NoB D).drew.trans M4.out)).left O.out ((H.out.trans ((Mod.refl NoB D).drew.trans M4.out)).mono (fun _ x=>x.elim))⟩
 | false =>
 have u:Mod NoB D p:=(Mod.refl NoB D).drew.trans M4.out;have h4:=H3.out.mod0 u;have aD:zP tag p:=O.out.mod (H.out.trans u);have hm:=O1.out.most;have aE:=O1.out.rl;have ac:=O1.out.fl;unfold zA at ac;have aF:V.gv.ownBlock≠some V.g:=fun e=>by
  have h5:=h4.tgv V.g e;rw[h4.tg]at h5;have:=congrArg Prod.snd h5;simp at this
 have S:=zcj c.got V.g 0 n n V.gv p.drew (h4.got.mod (Mod.refl NoB p).drew (fun x=>x) (fun _ _ x=>x)) O1.out.wf (by omega) (by omega) (by omega) aF hm.1 (by omega);have aG:=S.mono (fun e w' x=>zql (h4.mod0 (Mod.refl NoB p).drew) (aD.mod (Mod.refl NoB p).drew) z.out O1.out n n O2.out x);have KA:=zb aG;have d7:=u.cell (a:=⟨b,7,none⟩) (fun x=>x) c7;have d0:=u.cell (a:=⟨B,0,none⟩) (fun x=>x) p0;have d1:=u.cell (a:=⟨B,1,none⟩) (fun x=>x) p1;have d:=zb u;clear S aG h4 aD hm aE ac aF u p0 p1 c7 c4 hE;go_upto_region 11 with fail;refine zB ?_;refine zl 8 (fun w'=>w'.cell? ⟨b,7,none⟩=some (.pointer (some ⟨V.g,0,none⟩))∧w'.cell? ⟨B,0,none⟩=some (.int .u64 (n:Int))) (⟨d7,d0⟩) ?_;refine GI 0 ?_;iterate 8
  refine GS rfl ?_ ?_ ?_;rotate_left
  ·(intro wx r;(try dsimp only at r);obtain⟨f7,f0⟩:=r;go_simp)<;>(try with_reducible rfl)
  try simp only[PS]
 refine zQ rfl (fun K hK=>?_);go_simp
 with_reducible refine(KA.out).mono ?_
 rintro e W5 ⟨rfl,l5⟩;have L5:=zb l5;clear l5;go_simp;refine hK.out _ _ ?_;clear hK K;try simp only[PS]
 refine zo ?_;refine⟨rfl,?_⟩;have ai:tag B=(0,0):=O.out B bh.out;have bi:W5.cell? ⟨B,1,none⟩=some (.slice fa N fc):=by
  obtain⟨bq,V5,_,_,q⟩:=L5.out;exact q.cell (a:=⟨B,1,none⟩) (by
   show ¬(tag B).1=i;rw[ai];have:=z.out;simp;omega) d1
 have ai:=zb ai;clear d7 d0 d1;go_wp2_with fail;obtain⟨c0,aj⟩:∃o,({ c with got:=c.got.add n n }:CS)=o:=⟨_,rfl⟩;have aH:Hid (R=(((CS.takes fs c0).1,-1),(CS.takes fs c0).2)):=zb (by
  have:=HR.out;rw[if_neg (by simp),aj]at this;exact this.symm)
 have O4:=zb (O3.out trivial);rw[aj]at L5 O4;clear HR O3 aj;have aI:=L5.out.from0 (W:=p) (O.out.mod (H.out.trans d.out)) z.out (Mod.refl NoB p).drew;have aJ:=zb aI;have HSZ:Hid (W.heap.size≤p.heap.size):=zb (Nat.le_trans H.out.size d.out.size);have aK:Hid (W2.heap.size≤p.heap.size):=zb (Nat.le_trans a9.out.size d.out.size);have HT4:=zb (O.out.mod (H.out.trans d.out));have bj:=zb (aA.out.mod0 d.out);clear aI L5 aA
 go_loopw [53] (fun iv wr=>∃(k:Nat) (c':CS),k≤N∧iv = .int .i64 (k:Int)∧Hid (zbc tag i b p c' wr∧CS.takes (fs.drop k) c'=CS.takes fs c0∧zeZ (fs.drop k) c')) (fun iv _=>N-(intOf iv).toNat)
 case atStart=>exact⟨0,c0,Nat.zero_le _,rfl,zb ⟨aJ.out,by simp,by simpa using O4.out⟩⟩
 case round =>
  clear aJ O4 bi;obtain⟨k,c1,hk,rfl,HQ⟩:=hrel;by_cases aL:k<N
  ·obtain⟨I,V1,h1,e1,m1⟩:=HQ.out.1;have T:∀g,W.heap.size≤g→(tag g).1≠i:=fun g hg x=>by
    rw[O.out g hg]at x;have:=z.out;simp at x;omega
   have y:=bj.out.mod m1 (fun g o n' c' e x=>by
    cases e;exact T g (ba.out g rfl) x) (fun fr C g o n' c' e x=>T g (aB.out fr C g (by rw[e];rfl)) x)
   obtain⟨a',aM,aN,_,_,aO⟩:=y;have aP:k<A.length:=by rw[bd.out,HN.out];exact aL
   obtain⟨⟨f,rv⟩,C⟩:∃fr,A[k]?=some fr:=⟨A[k],List.getElem?_eq_getElem aP⟩;have ak:fs[k]?=some f:=by rw[←bc.out,List.getElem?_map,C];rfl
   obtain⟨⟨g2,o2,bk,al⟩,J⟩:=aO k (f,rv) C;have bm:a'=fa∧aM=fc:=by cases aN;exact⟨rfl,rfl⟩
   obtain⟨rfl,rfl⟩:=bm;subst bk;simp only at al J;have L:=List.mem_of_getElem? C;have aQ:∀g,Value.blk rv=some g→(I g).1≠i:=fun g hg=>by
    have aR:rv.ownBlock=some g:=by
     obtain⟨ra,rc,e,_⟩:=id J;subst e;cases ra with
     | none=>cases hg
     | some a=>exact hg
    have h5:=aB.out (f,rv) L g aR;have h6:=bb.out (f,rv) L g aR;rw[e1.old g (Nat.lt_of_lt_of_le h6 aK.out)];exact T g h5
   obtain⟨x0,x1,x2,x3,x4,x5,x6,x7,x8,x9⟩:=zbG al;obtain⟨ra,rc,aS,_⟩:=id J;subst aS;have aT:fs.drop k=f::fs.drop (k+1):=by
    have aU:k<fs.length:=by rw[HN.out];exact aL
    rw[List.drop_eq_getElem_cons aU];rw[List.getElem?_eq_getElem aU]at ak;rw[Option.some.inj ak]
   have am:=HQ.out.2.1;have aV:=HQ.out.2.2;rw[aT]at am aV;obtain⟨aW,aX⟩:=aV;obtain⟨Y,hY⟩:=nm (wr.alloc (.cells (zh f (.slice ra f.rngs.length rc)) 65));have mY:Mod NoB wr Y:=by rw[←hY];exact(Mod.refl _ _).alloc _
   have bn:Y.heap.size=wr.heap.size+1:=by rw[←hY];simp
   have aY:zi Y wr.heap.size f (.slice ra f.rngs.length rc):=by rw[←hY];exact heap_alloc_new wr _
   have S:=zmP (h1.mod0 mY) (e1.out.mod mY) z.out f (.slice ra f.rngs.length rc) (J.mod mY (zaX.no _)) aQ aW;have aZ:I wr.heap.size=(0,0):=e1.out _ (Nat.le_refl _);obtain⟨y0,y1,y2,y3,y4,y5,y6,y7,y8,y9⟩:=aY.cells;have M:Hid (∀W6 c2,zbc I i b Y c2 W6→zbc tag i b p c2 W6∧W6.heap[wr.heap.size]?=Y.heap[wr.heap.size]?):=zb (fun W6 c2 l=>⟨zcR z.out e1 m1 mY l,by
    obtain⟨a0,V6,_,_,m6⟩:=l;refine m6.block _ (by omega) (fun x=>?_);rw[aZ]at x;have:=z.out;simp at x;omega⟩)
   obtain⟨yb,ao⟩:=nm wr.heap.size;rw[ao]at M y0 y1 y2 y3 y4 y5 y6 y7 y8 y9;obtain⟨RL,a1⟩:=nm f.rngs.length;rw[a1]at x9 hY y9 S;obtain⟨P,ap⟩:=nm f.kind;unfold zh at hY S;rw[ap]at x0 y0 hY S;obtain⟨s,aq⟩:=nm ((c1.take f).1);obtain⟨w,ar⟩:=nm ((c1.take f).2);rw[aq,ar]at S;have KA:=zb S;have a2:=zb ap;have U:=zb aq;have au:=zb ar;have av:=zb am;have a3:=zb aX;have HY:=zb hY;have bo:=zb ao;clear aO C al J mY bn aY S aZ aQ L ak aN aW aX am hY ao a1 ap aq ar h1 e1 m1 T aP aT;go_upto_region 15 with fail;rw[HY.out,bo.out];go_wp2_with fail;refine(KA.out).mono ?_;rintro e W6 ⟨rfl,l6⟩;obtain⟨l7,a4⟩:=M.out W6 w l6;have u0:W6.cell? ⟨yb,0,none⟩=some (.int .i64 P):=(World.cell?_of_block a4).trans y0;obtain⟨a0,V6,h6,e6,m6⟩:=id l7;have L7:=zb l7;clear KA M l6 l7 a4 x0 x1 x2 x3 x4 x5 x6 x7 x8 x9 y0 y1 y2 y3 y4 y5 y6 y7 y8 y9 e6 m6;by_cases hz:s=0
   ·subst hz;obtain⟨an,X⟩:=nm w.answer;have c8:W6.cell? ⟨b,8,none⟩=some (.bool an):=by rw[←X];exact h6.hd (j:=8) rfl
    have f8:=h6.fz 8;have aw:Hid (∀x:Bool,zbc tag i b p { w with answer:=x } (W6.setCell ⟨b,8,none⟩ (.bool x))):=zb (fun x=>zd1 L7.out z.out 8 _ (fun V=>za4 w { w with answer:=x } V V (j:=8) _ (by decide) rfl rfl rfl rfl) ⟨rfl,fun _ _=>⟨rfl,rfl,rfl⟩,fun _ _=>⟨rfl,rfl⟩,rfl,rfl,rfl,rfl⟩);have ax:Hid (∀x:Bool,x=(an||P != 2)→CS.takes (fs.drop (k+1)) { w with answer:=x }=CS.takes fs c0∧zeZ (fs.drop (k+1)) { w with answer:=x }):=zb (fun x hx=>by
     have h5:=av.out;have h7:=a3.out U.out;rw[zkO U.out,au.out,X,a2.out,←hx]at h5;rw[au.out,X,a2.out,←hx]at h7;exact⟨h5,h7⟩)
    clear h6 X a3 av;cases an with
    | true =>
     go_wp2_with fail;go_roundw
     case rel=>exact⟨k+1,{ w with answer:=true },by omega,by go_num,zb ⟨aw.out true,ax.out true (by simp)⟩⟩
     case measure=>simp[intOf];omega
    | false =>
     by_cases a5:P=2
     ·subst a5;go_wp2_with fail;go_roundw
      case rel=>exact⟨k+1,{ w with answer:=false },by omega,by go_num,zb ⟨aw.out false,ax.out false (by simp)⟩⟩
      case measure=>simp[intOf];omega
     ·have hk3:(P==2)=false:=by simpa using a5
      go_wp2_with fail;go_roundw
      case rel=>exact⟨k+1,{ w with answer:=P != 2 },by omega,by go_num,zb ⟨aw.out (P != 2),ax.out (P != 2) (by simp)⟩⟩
      case measure=>simp[intOf];omega
   ·have hz1:((s:Int)==0)=false:=by rw[beq_eq_false_iff_ne];omega
    have c4:∃v,W6.cell? ⟨b,4,none⟩=some v:=⟨_,h6.hd (j:=4) rfl⟩;obtain⟨u4,c4⟩:=c4;have f4:=h6.fz 4;have l8:=zd1 L7.out z.out 4 (.int .i64 (s:Int)) (c':={ w with closed:=s }) (fun V=>za4 w { w with closed:=s } V V (j:=4) _ (by decide) rfl rfl rfl rfl) ⟨rfl,fun _ _=>⟨rfl,rfl,rfl⟩,fun _ _=>⟨rfl,rfl⟩,rfl,rfl,rfl,rfl⟩;obtain⟨bt,V8,h8,_,_⟩:=id l8;obtain⟨u5,c5⟩:∃v,(W6.setCell ⟨b,4,none⟩ (.int .i64 (s:Int))).cell? ⟨b,5,none⟩=some v:=⟨_,h8.hd (j:=5) rfl⟩;have f5:=h8.fz 5;have l9:=zd1 l8 z.out 5 (.bool (s==13)) (c':={ w with closed:=s,said:=s==13 }) (fun V=>za4 _ _ V V (j:=5) _ (by decide) rfl rfl rfl rfl) ⟨rfl,fun _ _=>⟨rfl,rfl,rfl⟩,fun _ _=>⟨rfl,rfl⟩,rfl,rfl,rfl,rfl⟩;have L9:=zb l9;have m:Hid (R=((s,-1),{ w with closed:=s,said:=s==13 })):=zb (by
     rw[aH.out,←av.out,zkP (by rw[U.out];exact hz),U.out,au.out])
    have HZ:=zb hz;clear h6 h8 l8 l9 hz;by_cases Z:s=13
    ·have a6:((s:Int)==13)=true:=by rw[beq_iff_eq];omega
     have t:(s==13)=true:=by simpa using Z
     rw[t]at L9 m;clear Z t;go_wp2_with fail;go_ret;rw[m.out];exact⟨_,rfl,.inl ⟨rfl,by rw[zbZ HZ.out];rfl⟩,zcR z.out (Ext.same O.out (H.out.trans d.out)) ((H.out.trans d.out).mono (fun _ x=>x.elim)) (Mod.refl NoB p) L9.out⟩
    ·have a6:((s:Int)==13)=false:=by rw[beq_eq_false_iff_ne];omega
     have t:(s==13)=false:=by simpa using Z
     rw[t]at L9 m;clear Z t;go_wp2_with fail;go_ret;rw[m.out];exact⟨_,rfl,.inl ⟨rfl,by rw[zbZ HZ.out];rfl⟩,zcR z.out (Ext.same O.out (H.out.trans d.out)) ((H.out.trans d.out).mono (fun _ x=>x.elim)) (Mod.refl NoB p) L9.out⟩
  ·have bp:k=N:=by omega
   have m:Hid (R=((0,-1),c1)):=zb (by
    rw[aH.out,←HQ.out.2.1,List.drop_eq_nil_of_le (by rw[HN.out];omega)];rfl)
   clear bp;go_wp2_with fail;go_ret;rw[m.out];exact⟨_,rfl,.inl ⟨rfl,rfl⟩,zcR z.out (Ext.same O.out (H.out.trans d.out)) ((H.out.trans d.out).mono (fun _ x=>x.elim)) (Mod.refl NoB p) HQ.out.1⟩
theorem zhE{tag:Nat→Nat×Nat}{i b:Nat}{c:CS}{V:CV}{W:World}(h:zg tag i b c V W)(f:zP tag W)(hi:0<i)(v:Value)(bs:List UInt8)(d:BR W v bs)(a:Tab W)(g:bs.length<1099511627776)(ok:zjV c bs)(j:∀n fs,dec bs = .ok n fs→fs.length≤1099511627776) :
  Calls Tryz.prog 51 #[.pointer (some ⟨b,0,none⟩),v] W (zdK tag i b W (c.receive bs).1.1 (c.receive bs).1.2 (c.receive bs).2):=by
 by_cases hc:c.closed=0
 ·cases hd:dec bs with
  | sum =>
   have e:c.receive bs=((7,-1),c):=by unfold CS.receive;rw[if_neg (by omega),hd]
   rw[e];exact zkM h f v bs d a g hc hd
  | bad p =>
   have e:c.receive bs=((8,(p:Int)),{ c with closed:=8 }):=by unfold CS.receive;rw[if_neg (by omega),hd]
   rw[e];exact zkN h f hi v bs p d a g hc hd
  | ok n fs=>exact zkQ h f hi v bs n fs d a g hc hd ok (j n fs hd)
 ·rw[zi8 bs hc];exact zkL h f v bs hc
theorem zqo{w0 w:World}{ev:Value}{n:Nat}{at_:Int}(h:zi7 w0 w ev n at_)(hg:zd8 w):Calls Tryz.prog 43 #[ev] w (zfF w (n:Int) at_):=by
 rcases h with⟨rfl,rfl⟩|⟨fa,rfl,a,_⟩
 ·by_cases b:n=0
  ·subst b;exact zgg w
  ·rw[zbZ b];exact zlQ (n:Int) w hg
 ·exact zpk fa (n:Int) at_ w hg (za a rfl) (za a rfl)
theorem zi7.shape{w0 w:World}{ev:Value}{n:Nat}{at_:Int}(h:zi7 w0 w ev n at_):ev = .nilIface∨∃t u,ev = .iface t u:=by
 rcases h with⟨_,rfl⟩|⟨fa,rfl,_⟩
 ·unfold zdt;split
  ·exact .inl rfl
  ·exact .inr ⟨_,_,rfl⟩
 ·exact .inr ⟨_,_,rfl⟩
theorem zi7.mod{S:Nat→Prop}{a w w':World}{ev:Value}{n:Nat}{at_:Int}(h:zi7 a w ev n at_)(m:Mod S w w')(hS:∀g,S g→g<a.heap.size):zi7 a w' ev n at_:=by
 rcases h with h|⟨b,rfl,ho,hl⟩
 ·exact .inl h
 ·exact .inr ⟨b,rfl,m.obj (fun x=>by have:=hS b x;omega) ho,hl⟩
theorem zhF{tag:Nat→Nat×Nat}{i b:Nat}{c:CS}{V:CV}{W:World}(h:zg tag i b c V W)(E:Env i tag W)(s:List UInt8)(u:s.length<1099511627776)(ok:zjV c s)(k:∀n fs,dec s = .ok n fs→fs.length≤1099511627776) :
  Calls Tryz.prog 28 #[.pointer (some ⟨b,0,none⟩),.string (zq s)] W (zbd tag i b W (.tuple #[.int .i64 ((c.receive s).1.1:Int),.int .i64 (c.receive s).1.2]) (c.receive s).2):=by
 obtain⟨cap,W1,v,a,m1,l,m⟩:=zdW W s (by omega);have w:=zhE (h.mod0 m1) (E.ok.mod m1) E.pos _ s a (E.mod0 m1).tab u ok k;have y:s.length≤cap∧cap≤maxLen:=by
  obtain⟨_,_,e,z,t,_⟩:=a;cases e;exact⟨z,t⟩
 obtain⟨hc1,A⟩:=y;unfold maxLen at A;have d:=zb E;have K:=zb m1;have HB:=zb m;have L:=zb l;obtain⟨R,hR⟩:=nm (c.receive s);rw[hR]at w ⊢;have M:=zb w;clear h E a m1 m l ok k w;go_enter Tryz.func28,Tryz.ntmps28;go_wp2_with fail;refine(M.out).mono ?_;rintro _ W2 ⟨ev,rfl,o,B⟩;clear M;obtain⟨tag',V',z,t,C⟩:=id B;have N:Env i tag' W2:=(d.out.mod0 K.out).left t C;have q:za6 W2 W.heap.size s.length:=HB.out.mod C (fun x=>by
  have:=d.out.ok W.heap.size (Nat.le_refl _);rw[this]at x;have:=d.out.pos;simp at x;omega)
 have HL:=zb B;have D:=zb q;have r:=zb o;have F:=zb N;clear B z t C N q v o;rcases r.out.shape with rfl|⟨et,eu,rfl⟩;all_goals
  go_wp2_with fail
  go_loopw [16] (fun G wr=>∃j:Nat,j≤s.length∧G = .int .i64 j∧Hid (za6 wr W.heap.size s.length∧Mod (fun g=>g=W.heap.size) W2 wr)) (fun G _=>s.length-(intOf G).toNat)
  case atStart=>exact⟨0,Nat.zero_le _,rfl,zb ⟨D.out,Mod.refl _ _⟩⟩
  case round =>
   obtain⟨j,hj,rfl,f⟩:=hrel;by_cases I:j<s.length
   ·obtain⟨⟨v0,e0⟩,z0⟩:=f.out.1.cell I;have J:=zb (f.out.1.set j (.int .u8 33));have HM:=zb (f.out.2.setCell (p:=⟨W.heap.size,j,none⟩) (.inl rfl) (.int .u8 33));go_wp2_with fail;go_roundw
    case rel=>exact⟨j+1,by omega,by go_num,zb ⟨J.out,HM.out⟩⟩
    case measure=>simp[intOf];omega
   ·have O:∀g,g=W.heap.size→g<W1.heap.size:=fun g hg=>by rw[hg,L.out];omega
    have P:=zqo (r.out.mod f.out.2 O) (F.out.err.mod f.out.2 (fun x=>by
     have x:0=W.heap.size:=x;have:=d.out.tab.lt;omega))
    have KT:=zb P;clear P O;go_wp2_with fail;refine(KT.out).mono ?_;rintro _ W4 ⟨rfl,Q⟩;have H:=zb ((HL.out.thenS d.out.ok d.out.pos K.out f.out.2 (fun g hg=>by
     have hg:g=W.heap.size:=hg;have:=L.out;omega)).then0 Q)
    clear Q;go_wp2_with fail;go_ret2;exact⟨rfl,H.out⟩
structure FrR(f:Frm):Prop where
 sound:zT f=true
 dl:f.data.length≤1099511627776
 rl:f.rngs.length≤1099511627776
theorem FrR.ns{f:Frm}(h:FrR f):f.off≤zA∧f.rel≤zA∧f.lim≤zA∧f.id≤zA∧f.dl≤zA:=by
 have h1:=h.sound;unfold zT zaz zh8 at h1;simp only[Bool.and_eq_true,List.all_cons,List.all_nil,decide_eq_true_eq]at h1;unfold zA;omega
theorem FrR.st{f:Frm}(h:FrR f):∃k:Nat,k<8∧f.stream=(k:Int):=by
 have h1:=h.sound;unfold zT zbA at h1;simp only[Bool.and_eq_true,decide_eq_true_eq]at h1;exact⟨f.stream.toNat,by omega,by omega⟩
theorem FrR.end4{f:Frm}(h:FrR f)(h4:f.kind=4):f.end_≤zA:=by
 have h1:=h.sound;unfold zT zK at h1;rw[h4]at h1;simp only[Bool.and_eq_true]at h1;have h2:=h1.2;simp at h2;unfold Frm.end_ zA;omega
theorem FrR.rngs2{f:Frm}(h:FrR f)(h2:f.kind=2):0<f.rngs.length:=by
 have h1:=h.sound;unfold zT zK at h1;rw[h2]at h1;simp only[Bool.and_eq_true,if_true]at h1;have h3:=h1.2;unfold zav at h3;simp only[Bool.and_eq_true,decide_eq_true_eq]at h3;exact h3.2
theorem zoX{s:zaQ}(h:s.Ok){B lo hi:Nat}(hb:∀j,j<s.rs.length→hiAt s.rs j≤B)(hh:hi≤B)(hm:hi≤zA):∀j,j<(s.add lo hi).rs.length→hiAt (s.add lo hi).rs j≤B:=by
 unfold zaQ.add;split
 ·exact hb
 ·have s1:=zbt (zel s.rs (max lo s.fl)) s.rs.length;have b:=zbt (zaH s.rs hi) s.rs.length;have a:=zcO h.wf (by omega) s1 b;have c:=zhc (m:=max lo s.fl) a b.1 hb hh;split
  ·intro j hj;rw[(zbQ _ 1 j).2];exact c _ (by rw[List.length_drop]at hj;omega)
  ·exact c
theorem zoY(off:Nat)(data:List UInt8)(e H:Nat)(he:e≤H)(hm:e≤zA):∀n lo (b:List UInt8) (s:zaQ),b.length=H→s.Ok→(∀j,j<s.rs.length→hiAt s.rs j<H) →
  (zhh off data e n lo b s).1.length=H∧(zhh off data e n lo b s).2.Ok∧∀j,j<(zhh off data e n lo b s).2.rs.length→hiAt (zhh off data e n lo b s).2.rs j<H:=by
 intro n
 induction n with
 | zero=>intro lo b s h1 h2 h3;exact⟨h1,h2,h3⟩
 | succ n ih =>
  intro lo b s h1 h2 h3;unfold zhh;split
  ·rename_i hlt;split
   ·exact⟨h1,h2,h3⟩
   ·rename_i hg;obtain⟨_,g2⟩:=zhu s.rs lo e hlt (by omega);have g3:=zgi s.rs lo e;refine ih _ _ _ ?_ (h2.add _ (by omega)) (fun j a=>?_)
    ·rw[zb0 _ _ _ (by rw[List.length_take];omega)];exact h1
    ·have:=zoX h2 (B:=H-1) (lo:=(zaD s.rs lo e).1) (hi:=(zaD s.rs lo e).2-1) (fun j a=>by have:=h3 j a;omega) (by omega) (by omega) j a;omega
  ·exact⟨h1,h2,h3⟩
theorem RS.Inv.data{G:Nat}{x:RS}(h:x.Inv G){f:Frm}(c:f.end_≤zA)(hg:x.high<f.end_→f.end_≤x.grant):(x.data f).Inv G:=by
 have hb:=h.bl;have hh:=h.hg;have a:=zoY f.off f.data f.end_ (max x.high f.end_) (Nat.le_max_right _ _) c (f.data.length+1) f.off (zmk x.b (max x.high f.end_)) x.came (by unfold zmk;simp;omega) h.came (fun j hj=>Nat.lt_of_lt_of_le (h.in_ j hj) (Nat.le_max_left _ _));refine⟨a.2.1,a.2.2,a.1,Nat.le_trans h.rd (Nat.le_max_left _ _),?_,h.gr,?_,h.keep,h.st⟩
 ·show max x.high f.end_≤x.grant;by_cases q:x.high<f.end_
  ·have:=hg q;omega
  ·omega
 ·show(if f.fin then f.end_ else x.fin)≤zA;split
  ·exact c
  ·exact h.fin
theorem CS.Inv.upR{T:Nat}{c:CS}(h:c.Inv T)(k:Nat){x:RS}(hx:x.Inv (4096*(T+1))):({ c with rs:=upd c.rs k x }:CS).Inv T :=
 {mtu:=h.mtu,win:=h.win,tot:=h.tot,grant:=h.grant,credit:=h.credit,ws:=h.ws,waits:=h.waits,now:=h.now,next:=h.next,got:=h.got,nd:=h.nd,ids:=h.ids,sl:=h.sl,most:=h.most,cl:=h.cl,fl:=h.fl,fly:=h.fly
  rs:=fun q hq=>by
   by_cases e:q=k
   ·subst e;simp only[zf];exact hx
   ·simp only[ze _ _ e];exact h.rs q hq }
theorem CS.Inv.upW{T:Nat}{c:CS}(h:c.Inv T)(k:Nat){x:WS}(hx:k<8→x.Ok):({ c with ws:=upd c.ws k x }:CS).Inv T :=
 {mtu:=h.mtu,win:=h.win,tot:=h.tot,grant:=h.grant,credit:=h.credit,rs:=h.rs,waits:=h.waits,now:=h.now,next:=h.next,got:=h.got,nd:=h.nd,ids:=h.ids,sl:=h.sl,most:=h.most,cl:=h.cl,fl:=h.fl,fly:=h.fly
  ws:=fun q a=>by
   by_cases e:q=k
   ·subst e;simp only[zf];exact hx a
   ·simp only[ze _ _ e];exact h.ws q a }
theorem CS.Inv.data{T:Nat}{c:CS}(h:c.Inv T){f:Frm}(b:FrR f)(h4:f.kind=4):(c.data f).2.Inv T:=by
 obtain⟨k,hk,a⟩:=b.st;unfold CS.data;rw[a,Int.toNat_natCast];split
 ·exact h
 ·split
  ·exact h
  ·rename_i hn;exact h.upR k ((h.rs k hk).data (b.end4 h4) (fun q=>Nat.le_of_not_lt (fun g=>hn ⟨q,.inl g⟩)))
theorem CS.Inv.resetAt{T:Nat}{c:CS}(h:c.Inv T){f:Frm}(g:FrR f):(c.resetAt f).2.Inv T:=by
 obtain⟨k,hk,d⟩:=g.st;obtain⟨n1,n2,_⟩:=g.ns;unfold CS.resetAt;rw[d,Int.toNat_natCast];split
 ·exact h
 ·have r:=h.rs k hk;refine h.upR k ⟨r.came,r.in_,r.bl,r.rd,r.hg,r.gr,n1,?_,fun e=>?_⟩
  ·unfold RS.resetAt;simp only;split
   ·exact n2
   ·exact r.keep
  ·obtain⟨a,b⟩:=r.st e;refine⟨rfl,?_⟩;unfold RS.resetAt;simp only[a];show(if (!true||decide (f.rel<(c.rs k).keep))=true then f.rel else(c.rs k).keep)≤(c.rs k).read;split
   ·rename_i q;simp at q;omega
   ·exact b
theorem CS.Inv.message{T:Nat}{c:CS}(h:c.Inv T){f:Frm}(hf:FrR f):(c.message f).Inv (T+1):=by
 obtain⟨_,_,_,n4,n5⟩:=hf.ns;have g:=h.mono (show T≤T+1 by omega);unfold CS.message;split
 ·exact g
 ·rename_i hn;have i:¬f.id∈c.seen.map (·.1):=fun x=>by
   obtain⟨p,j,e⟩:=List.mem_map.1 x;refine hn ?_;have:(c.seen.any fun p=>p.1==f.id)=true:=List.any_eq_true.2 ⟨p,j,by simp[e]⟩;rw[this];rfl
  have d:((c.seen++[(f.id,f.dl)]).filter fun p => !old (max c.most f.id) p.1).Sublist (c.seen++[(f.id,f.dl)]):=List.filter_sublist;exact
   {mtu:=h.mtu,win:=h.win,tot:=h.tot,grant:=h.grant,credit:=h.credit,ws:=h.ws,rs:=g.rs,waits:=h.waits,now:=g.now,next:=g.next,got:=h.got,fl:=h.fl,fly:=h.fly
    nd:=by
     refine List.Nodup.sublist (d.map _) ?_;rw[List.map_append,List.nodup_append];refine⟨h.nd,by simp,fun a ha b hb e=>?_⟩;have:b=f.id:=by simpa using hb
     exact i (by rw[←this,←e];exact ha)
    ids:=fun p j=>by
     rcases List.mem_append.1 (d.subset j)with x|x
     ·exact h.ids p x
     ·have:p=(f.id,f.dl):=by simpa using x
      rw[this];exact n4
    sl:=by
     have:=d.length_le;have:=h.sl;simp only[List.length_append,List.length_singleton]at *;omega
    most:=by have:=h.most;show max c.most f.id≤zA;omega
    cl:=by have:=h.cl;simp only[List.length_append,List.length_singleton];omega }
theorem CS.Inv.takeOk{T:Nat}{c:CS}(h:c.Inv T)(hT:T≤zbm){f:Frm}(d:FrR f):zjS c f:=by
 unfold zbm at hT;obtain⟨n1,n2,n3,n4,n5⟩:=d.ns;have l:∀j,j<8→(c.rs j).high≤1099511627776∧(c.rs j).grant≤1099511627776:=fun j g=>by
  have a:=(h.rs j g).hg;have b:=(h.rs j g).gr;exact⟨by omega,by omega⟩
 have hfl:=h.fl;have m:=h.now;have hsl:=h.sl;have hcl:=h.cl;refine⟨fun e=>⟨d.rngs2 e,d.rl,by omega,fun _=>⟨(h.large _).ackedOk _,(h.ackedTo _).loseOk⟩⟩,fun _=>d.st,fun e=>?_,fun _=>d.st,fun _=>⟨h.most,n4,n5,by unfold zA;omega,h.nd,h.ids,by omega,by omega⟩⟩;obtain⟨k,hk,i⟩:=d.st;exact⟨k,hk,i,fun j g=>(l j g).1,(l k hk).2,h.grant,(h.rs k hk).fin,d.end4 e,d.dl,(h.rs k hk).came,Nat.le_of_eq (h.rs k hk).bl⟩
theorem CS.Inv.take{T:Nat}{c:CS}(h:c.Inv T){f:Frm}(b:FrR f):(c.take f).2.Inv (T+1):=by
 have a:∀{c':CS},c'.Inv T→c'.Inv (T+1):=fun x=>x.mono (by omega)
 obtain⟨n1,n2,n3,n4,n5⟩:=b.ns;unfold CS.take;split
 ·exact a (h.acked _)
 ·split
  ·exact a (h.resetAt b)
  ·split
   ·rename_i e;exact a (h.data b e)
   ·split
    ·exact a
      {mtu:=h.mtu,win:=h.win,tot:=h.tot,grant:=h.grant,ws:=h.ws,rs:=h.rs,waits:=h.waits,now:=h.now,next:=h.next,got:=h.got,nd:=h.nd,ids:=h.ids,sl:=h.sl,most:=h.most,cl:=h.cl,fl:=h.fl,fly:=h.fly
       credit:=by have:=h.credit;show max c.credit f.lim≤zA;omega }
    ·split
     ·refine a (h.upW _ (fun hk=>?_));have w:=h.ws _ hk;exact⟨w.sent,w.came,w.cut,w.len,by have:=w.credit;show max _ f.lim≤zA;omega,w.high⟩
     ·split
      ·exact h.message b
      ·split
       ·exact a h
       ·exact a h
theorem CS.Inv.misc{T:Nat}{c:CS}(h:c.Inv T)(cl:Nat)(sd an:Bool):({ c with closed:=cl,said:=sd,answer:=an }:CS).Inv T :=
 {mtu:=h.mtu,win:=h.win,tot:=h.tot,grant:=h.grant,credit:=h.credit,ws:=h.ws,rs:=h.rs,waits:=h.waits,now:=h.now,next:=h.next,got:=h.got,nd:=h.nd,ids:=h.ids,sl:=h.sl,most:=h.most,cl:=h.cl,fl:=h.fl,fly:=h.fly }
theorem CS.Inv.takesOk:∀(fs:List Frm) {T:Nat} {c:CS},c.Inv T→T+fs.length≤zbm→(∀f∈fs,FrR f)→zeZ fs c
 | [],_,_,_,_,_=>trivial
 | f::fs,T,c,h,hT,hf=>by
  simp only[List.length_cons]at hT;have h1:=hf f List.mem_cons_self;exact⟨h.takeOk (by omega) h1,fun _=>CS.Inv.takesOk fs ((h.take h1).misc (c.take f).2.closed (c.take f).2.said _) (by omega) (fun g hg=>hf g (List.mem_cons_of_mem _ hg))⟩
theorem CS.Inv.takes:∀(fs:List Frm) {T:Nat} {c:CS},c.Inv T→(∀f∈fs,FrR f)→(CS.takes fs c).2.Inv (T+fs.length)
 | [],_,_,h,_=>h
 | f::fs,T,c,h,hf=>by
  have h1:=h.take (hf f List.mem_cons_self);unfold CS.takes;split
  ·exact(h1.misc (c.take f).1 ((c.take f).1==13) (c.take f).2.answer).mono (by simp only[List.length_cons];omega)
  ·have:=CS.Inv.takes fs (h1.misc (c.take f).2.closed (c.take f).2.said ((c.take f).2.answer||f.kind != 2)) (fun g hg=>hf g (List.mem_cons_of_mem _ hg));rw[show T+(f::fs).length=T+1+fs.length by simp only[List.length_cons];omega];exact this
theorem zkR{bs:List UInt8}{pos:Nat}{r:Frm×Nat}(hl:bs.length<1099511627776)(hp:pos<bs.length)(h:za5 bs pos=some r):FrR r.1∧pos<r.2∧r.2≤bs.length:=by
 unfold za5 at h;split at h
 ·cases h
 ·rename_i t _;rw[Option.bind_eq_some_iff]at h;obtain⟨k,hk,h⟩:=h;rw[Option.bind_eq_some_iff]at h;obtain⟨⟨f,p⟩,hb,h⟩:=h;simp only at h;split at h
  ·rename_i hs;cases h;obtain⟨_,a,b,c,d⟩:=zeH hk (by omega) hb;exact⟨⟨hs,by show f.data.length≤_;omega,by show f.rngs.length≤_;omega⟩,by show pos<p;omega,b⟩
  ·cases h
theorem zhG(bs:List UInt8)(e:bs.length<1099511627776):∀fuel num pos (d:List Frm) n fs,pos≤bs.length→d.length≤pos→(∀f∈d,FrR f)→zcZ bs fuel num pos d = .ok n fs→n=num∧fs.length≤bs.length∧∀f∈fs,FrR f
 | 0,_,_,_,_,_,_,_,_,h=>by cases h
 | fuel+1,num,pos,d,n,fs,hp,ha,hf,h=>by
  unfold zcZ at h;split at h
  ·rename_i hlt;cases hr:za5 bs pos with
   | none=>rw[hr]at h;cases h
   | some r =>
    rw[hr]at h;obtain⟨a,b,c⟩:=zkR e hlt hr;refine zhG bs e fuel num r.2 _ n fs c ?_ (fun f hm=>?_) h
    ·rw[List.length_append,List.length_singleton];omega
    ·rcases List.mem_append.1 hm with x|x
     ·exact hf f x
     ·rw[List.mem_singleton.1 x];exact a
  ·cases h;exact⟨rfl,by omega,hf⟩
theorem zhH{bs:List UInt8}{n:Nat}{fs:List Frm}(hl:bs.length<1099511627776)(h:dec bs = .ok n fs):n≤zA∧fs.length≤bs.length∧∀f∈fs,FrR f:=by
 unfold dec at h;split at h
 ·cases h
 ·split at h
  ·unfold zaC at h;split at h
   ·cases h
   ·rename_i q hq;obtain⟨a,b,c⟩:=zR hq;split at h
    ·cases h
    ·obtain⟨d,e,g⟩:=zhG _ (by rw[List.length_take];omega) _ _ _ _ _ _ b (Nat.zero_le _) (fun f hf=>by cases hf) h;rw[List.length_take]at e;exact⟨by unfold zA;omega,by omega,g⟩
  ·cases h
theorem CS.Inv.gotAdd{T:Nat}{c:CS}(h:c.Inv T){n:Nat}(hn:n≤zA):({ c with got:=c.got.add n n }:CS).Inv T :=
 {mtu:=h.mtu,win:=h.win,tot:=h.tot,grant:=h.grant,credit:=h.credit,ws:=h.ws,rs:=h.rs,waits:=h.waits,now:=h.now,next:=h.next,nd:=h.nd,ids:=h.ids,sl:=h.sl,most:=h.most,cl:=h.cl,fl:=h.fl,fly:=h.fly
  got:=⟨h.got.1.add n hn,by
   have:=h.got.2;unfold zaQ.add;split
   ·exact this
   ·split<;>exact this⟩ }
theorem CS.Inv.recvOk{T:Nat}{c:CS}(h:c.Inv T){bs:List UInt8}(hT:T+bs.length≤zbm):zjV c bs:=by
 intro _ n fs hd;obtain⟨a,b,g⟩:=zhH (by unfold zbm at hT;omega) hd;exact⟨h.got.1,a,fun _=>CS.Inv.takesOk fs (h.gotAdd a) (by omega) g⟩
theorem CS.Inv.receive{T:Nat}{c:CS}(h:c.Inv T){bs:List UInt8}(hT:T+bs.length≤zbm):(c.receive bs).2.Inv (T+bs.length):=by
 have d:∀{c':CS},c'.Inv T→c'.Inv (T+bs.length):=fun x=>x.mono (by omega)
 unfold CS.receive;split
 ·exact d h
 ·split
  ·exact d h
  ·exact d (h.misc 8 c.said c.answer)
  ·rename_i n fs hd;obtain⟨a,b,g⟩:=zhH (by unfold zbm at hT;omega) hd;split
   ·exact d h
   ·exact(CS.Inv.takes fs (h.gotAdd a) g).mono (by omega)
theorem CS.Inv.send{T:Nat}{c:CS}(h:c.Inv T)(k:Int)(s:List UInt8):(c.send k s).2.Inv T:=by
 unfold CS.send;split
 ·exact h
 ·split
  ·exact h
  ·split
   ·exact h
   ·rename_i hs _ hl;obtain⟨k0,k8,_⟩:=zcD (show c.stream k=0 by omega);refine h.upW _ (fun hk=>?_);have w:=h.ws _ hk;have e:((c.ws k.toNat).b++s).length=(c.ws k.toNat).b.length+s.length:=List.length_append;have hh:=w.high;exact⟨w.sent,w.came,w.cut,by show((c.ws k.toNat).b++s).length≤_;omega,w.credit,by show(c.ws k.toNat).high≤((c.ws k.toNat).b++s).length;omega⟩
theorem CS.Inv.finish{T:Nat}{c:CS}(h:c.Inv T)(k:Int):(c.finish k).2.Inv T:=by
 unfold CS.finish;split
 ·exact h
 ·split
  ·exact h
  ·refine h.upW _ (fun hk=>?_);have w:=h.ws _ hk;exact⟨w.sent,w.came,w.cut,w.len,w.credit,w.high⟩
theorem CS.Inv.reset{T:Nat}{c:CS}(h:c.Inv T)(k keep:Int):(c.reset k keep).2.Inv T:=by
 unfold CS.reset;split
 ·exact h
 ·refine h.upW _ (fun hk=>?_);have w:=h.ws _ hk;have hl:=w.len;have hh:=w.high;have hc:=w.cut;have hn:min keep.toNat (c.ws k.toNat).b.length≤(c.ws k.toNat).b.length:=Nat.min_le_right _ _;generalize min keep.toNat (c.ws k.toNat).b.length=n at hn;refine⟨w.sent,w.came,?_,w.len,w.credit,w.high⟩;unfold WS.give;simp only;unfold zA at *;cases(c.ws k.toNat).cut with
  | true =>
   simp only[Bool.not_true,Bool.false_or,if_true,decide_eq_true_eq];split<;>omega
  | false =>
   simp only[Bool.not_false,Bool.true_or,if_true,Bool.false_eq_true,if_false];omega
theorem zqr{id dl:Nat}{s:List UInt8}(h1:id≤zA)(h2:dl≤zA)(hl:s.length≤1048576):(dgF id dl s).Fits:=by
 have hb:=zb8 (dgF id dl s) rfl;have hd:(dgF id dl s).data.length=s.length:=rfl;refine⟨?_,rfl,by rw[hd];exact hl,by rw[hd]at hb;omega⟩;unfold zA at h1 h2;simp[zT,zaz,zh8,zbA,zK,dgF];omega
theorem CS.Inv.datagram{T:Nat}{c:CS}(h:c.Inv T)(id dl:Nat)(s:List UInt8):(c.datagram id dl s).2.Inv T:=by
 unfold CS.datagram;split
 ·exact h
 ·split
  ·exact h
  ·split
   ·exact h
   ·split
    ·exact h
    ·rename_i _ hb hm hw;have hmt:=h.mtu;exact
      {mtu:=h.mtu,win:=h.win,tot:=h.tot,grant:=h.grant,credit:=h.credit,ws:=h.ws,rs:=h.rs,now:=h.now,next:=h.next,got:=h.got,nd:=h.nd,ids:=h.ids,sl:=h.sl,most:=h.most,cl:=h.cl,fl:=h.fl,fly:=h.fly
       waits:=by
        have a:=h.waits;show(∀f∈(if c.now≤dl then c.waits++[dgF id dl s]else c.waits),f.Fits)∧(if c.now≤dl then c.waits++[dgF id dl s]else c.waits).length≤16;split
        ·refine⟨fun f hf=>?_,by rw[List.length_append,List.length_singleton];omega⟩;rcases List.mem_append.1 hf with x|x
         ·exact a.1 f x
         ·rw[List.mem_singleton.1 x];exact zqr (by omega) (by omega) (by omega)
        ·exact a }
theorem CS.Inv.datagramsOut{T:Nat}{c:CS}(h:c.Inv T):c.datagramsOut.2.Inv T :=
 {mtu:=h.mtu,win:=h.win,tot:=h.tot,grant:=h.grant,credit:=h.credit,ws:=h.ws,rs:=h.rs,waits:=h.waits,now:=h.now,next:=h.next,got:=h.got,nd:=h.nd,ids:=h.ids,sl:=h.sl,most:=h.most,fl:=h.fl,fly:=h.fly
  cl:=Nat.zero_le _ }
theorem zmV(rs:zD):∀lo hi,lo≤(zaD rs lo hi).1:=by
 induction rs with
 | nil=>intro lo hi;exact Nat.le_refl _
 | cons r l ih =>
  intro lo hi;unfold zaD;split
  ·exact ih lo hi
  ·split
   ·exact Nat.le_refl _
   ·have:=ih (r.2+1) hi;omega
theorem zo0(rs:zD){H:Nat}:∀lo hi,lo≤H→(∀r∈rs,r.2<H)→(zaD rs lo hi).1≤H:=by
 induction rs with
 | nil=>intro lo hi h _;exact h
 | cons r l ih =>
  intro lo hi h a;have h0:=a r List.mem_cons_self;have h1:=fun x hx=>a x (List.mem_cons_of_mem _ hx)
  unfold zaD;split
  ·exact ih lo hi h h1
  ·split
   ·exact h
   ·exact ih _ hi (by omega) h1
theorem RS.Inv.lead{G:Nat}{x:RS}(h:x.Inv G):x.read≤(zaD x.came.rs x.read x.high).1∧(zaD x.came.rs x.read x.high).1≤x.high :=
 ⟨zmV _ _ _,zo0 _ _ _ h.rd (fun r hr=>by obtain⟨j,hj,_,e⟩:=zpt hr;rw[←e];exact h.in_ j hj)⟩
theorem RS.Inv.readOk{G:Nat}{x:RS}(h:x.Inv G)(hG:G≤1099511627776):zfO x:=by
 obtain⟨a,b⟩:=h.lead;have h1:=h.hg;have h2:=h.gr;have h3:=h.bl;have h4:=h.came.rl;have h5:=h.came.most;exact⟨by omega,a,by omega,fun k hk=>by have:=h.in_ k hk;omega,by omega,h.keep,h.fin⟩
theorem CS.Inv.readOk{T:Nat}{c:CS}(h:c.Inv T)(hT:T≤zbm):∀k,k<8→zfO (c.rs k):=fun k hk=>(h.rs k hk).readOk (by unfold zbm at hT;omega)
theorem RS.Inv.readTo{G:Nat}{x:RS}(h:x.Inv G)(n:Nat):x.readTo n≤x.high:=by
 obtain⟨a,b⟩:=h.lead;have:=h.rd;unfold RS.readTo;split<;>omega
theorem CS.Inv.read{T:Nat}{c:CS}(h:c.Inv T)(k most:Int):(c.read k most).2.Inv T:=by
 unfold CS.read;split
 ·exact h
 ·split
  ·exact h
  ·rename_i hs _;obtain⟨k0,k8,_⟩:=zcD (show c.stream k=0 by omega);have x:=h.rs k.toNat (by omega);refine h.upR _ ⟨x.came,x.in_,x.bl,x.readTo _,x.hg,x.gr,x.fin,x.keep,fun e=>?_⟩;have a:(c.rs k.toNat).stateAt ((c.rs k.toNat).readTo most.toNat)=2:=e;unfold RS.stateAt at a;split at a
   ·rename_i hh;simp only[Bool.and_eq_true,decide_eq_true_eq]at hh;exact hh
   ·split at a<;>cases a
theorem CS.Inv.new{mtu window total:Nat}(h:64≤mtu∧mtu≤400)(hw:window≤4096)(ht:total≤4096):(CS.new mtu window total).Inv 0 :=
 {mtu:=⟨h.1,by show mtu≤_;omega⟩,win:=hw,tot:=ht
  grant:=by show total≤_;unfold zA;omega
  credit:=by show total≤_;unfold zA;omega
  ws:=fun _ _=>⟨zbq _ (by omega),zbq _ (by omega),⟨Nat.le_refl _,Nat.zero_le _,Nat.zero_le _⟩,Nat.zero_le _,by show window≤_;unfold zA;omega,Nat.le_refl _⟩
  rs:=fun _ _=>⟨zbq _ (by omega),fun j hj=>absurd hj (Nat.not_lt_zero j),rfl,Nat.le_refl _,Nat.zero_le _,by show window≤_;omega,Nat.zero_le _,Nat.zero_le _,fun e=>by cases e⟩
  waits:=⟨fun f hf=>(by cases hf),Nat.zero_le _⟩
  fl:=Nat.zero_le _
  fly:=fun p a=>(by cases a)
  now:=Nat.le_refl _
  next:=Nat.le_refl _
  got:=⟨zbq _ (by omega),Nat.le_refl _⟩
  nd:=List.nodup_nil
  ids:=fun p a=>(by cases a)
  sl:=Nat.le_refl _
  most:=Nat.zero_le _
  cl:=Nat.le_refl _ }
def HB(G:Nat)(c:CS):Prop:=∀k,k<8→(c.rs k).hopes=true→(c.rs k).used≤G
structure zab(G:Nat)(c c':CS):Prop where
 hd:c'.mtu=c.mtu∧c'.window=c.window∧c'.total=c.total∧c'.now=c.now∧c'.closed=c.closed∧c'.said=c.said∧c'.got=c.got∧c'.answer=c.answer
 tl:c'.credit=c.credit∧c'.largest=c.largest∧c'.lastID=c.lastID∧c'.anyID=c.anyID∧c'.seen=c.seen∧c'.most=c.most∧c'.came=c.came
 wl:c'.waits.length≤c.waits.length
 rs:∀k,k<8→∃g a,c'.rs k={ c.rs k with grant:=g,anew:=a }∧((g=(c.rs k).grant∧a=(c.rs k).anew)∨((c.rs k).used≤G∧g=max (c.rs k).grant ((c.rs k).used+c.window)))
theorem zab.refl(G:Nat)(c:CS):zab G c c:=⟨⟨rfl,rfl,rfl,rfl,rfl,rfl,rfl,rfl⟩,⟨rfl,rfl,rfl,rfl,rfl,rfl,rfl⟩,Nat.le_refl _,fun k _=>⟨(c.rs k).grant,(c.rs k).anew,rfl,.inl ⟨rfl,rfl⟩⟩⟩
theorem zjW(x:RS)(g:Nat)(a:Bool):({ x with grant:=g,anew:=a }:RS).used=x.used:=rfl
theorem zab.trans{G:Nat}{c c' d:CS}(h:zab G c c')(k:zab G c' d):zab G c d:=by
 obtain⟨a1,f,a3,a4,a5,a6,a7,a8⟩:=h.hd;obtain⟨b1,b2,b3,b4,b5,b6,b7,b8⟩:=k.hd;obtain⟨c1,c2,c3,c4,c5,c6,c7⟩:=h.tl;obtain⟨d1,d2,d3,d4,d5,d6,d7⟩:=k.tl;refine⟨⟨b1.trans a1,b2.trans f,b3.trans a3,b4.trans a4,b5.trans a5,b6.trans a6,b7.trans a7,b8.trans a8⟩,⟨d1.trans c1,d2.trans c2,d3.trans c3,d4.trans c4,d5.trans c5,d6.trans c6,d7.trans c7⟩,Nat.le_trans k.wl h.wl,fun q i=>?_⟩;obtain⟨g,a,e,hg⟩:=h.rs q i;obtain⟨g',a',e',b⟩:=k.rs q i;refine⟨g',a',by rw[e',e],?_⟩;rw[e,zjW,f]at b;simp only at b;rcases hg with⟨rfl,rfl⟩|⟨u,rfl⟩
 ·exact b
 ·rcases b with⟨rfl,rfl⟩|⟨_,rfl⟩
  ·exact .inr ⟨u,rfl⟩
  ·exact .inr ⟨u,by omega⟩
theorem HB.but{G:Nat}{c c':CS}(h:HB G c)(p:zab G c c'):HB G c':=by
 intro k hk b;obtain⟨g,a,e,hg⟩:=p.rs k hk;rw[e]at b ⊢;rw[zjW];rcases hg with⟨rfl,rfl⟩|⟨u,_⟩
 ·exact h k hk b
 ·exact u
theorem zo3{G:Nat}{c:CS}{d:Drf}(h:HB G c):∀n k t,n+k=8→∀x,(zgE c d n k t).1=some x→zab G c x.1:=by
 intro n
 induction n with
 | zero=>intro k t _ x a;cases a
 | succ n ih =>
  intro k t hk x a;have hk8:k<8:=by omega
  have b:=ih (k+1) (min (t+(c.rs k).used) zA) (by omega);unfold zgE at a;split at a
  ·rename_i hcond;simp only[Bool.and_eq_true]at hcond;split at a
   ·cases a;refine⟨⟨rfl,rfl,rfl,rfl,rfl,rfl,rfl,rfl⟩,⟨rfl,rfl,rfl,rfl,rfl,rfl,rfl⟩,Nat.le_refl _,fun j hj=>?_⟩;by_cases e:j=k
    ·subst e;refine⟨_,false,?_,.inr ⟨h j hj hcond.2,rfl⟩⟩;show upd c.rs j _ j=_;rw[zf]
    ·refine⟨(c.rs j).grant,(c.rs j).anew,?_,.inl ⟨rfl,rfl⟩⟩;show upd c.rs k _ j=_;rw[ze _ _ e]
   ·exact b x a
  ·exact b x a
theorem zjX{G:Nat}{c:CS}{d:Drf}:∀n k x,zfi c d n k=some x→zab G c x.1:=by
 intro n
 induction n with
 | zero=>intro k x a;cases a
 | succ n ih =>
  intro k x a;unfold zfi at a;split at a
  ·split at a
   ·cases a;exact⟨⟨rfl,rfl,rfl,rfl,rfl,rfl,rfl,rfl⟩,⟨rfl,rfl,rfl,rfl,rfl,rfl,rfl⟩,Nat.le_refl _,(zab.refl G c).rs⟩
   ·exact ih _ x a
  ·exact ih _ x a
theorem zjb{G:Nat}{c:CS}{d:Drf}(h:HB G c):∀x,c.control d=some x→zab G c x.1:=by
 intro x a;unfold CS.control at a;split at a
 ·rename_i y hy;cases a;exact zo3 h 8 0 c.total rfl _ hy
 ·unfold zqM at a;split at a
  ·split at a
   ·cases a;exact⟨⟨rfl,rfl,rfl,rfl,rfl,rfl,rfl,rfl⟩,⟨rfl,rfl,rfl,rfl,rfl,rfl,rfl⟩,Nat.le_refl _,(zab.refl G c).rs⟩
   ·exact zjX 8 0 x a
  ·exact zjX 8 0 x a
theorem zeh{G:Nat}{c:CS}{d:Drf}{k lo hi:Nat}{fin:Bool}:zab G c (c.bytesAdd d k lo hi fin).2.1:=by
 unfold CS.bytesAdd;split
 ·exact zab.refl G c
 ·exact⟨⟨rfl,rfl,rfl,rfl,rfl,rfl,rfl,rfl⟩,⟨rfl,rfl,rfl,rfl,rfl,rfl,rfl⟩,Nat.le_refl _,(zab.refl G c).rs⟩
theorem zfQ{G:Nat}{c:CS}{d:Drf}{k lo hi:Nat}:zab G c (c.bytesR d k lo hi).2.1:=by
 unfold CS.bytesR;split
 ·split
  ·exact zab.refl G c
  ·exact zeh
 ·exact zeh
theorem zmZ{G:Nat}{c:CS}{d:Drf}{k:Nat}:zab G c (c.bytes d k).2.1:=by
 unfold CS.bytes;split
 ·exact zab.refl G c
 ·split
  ·split
   ·exact zab.refl G c
   ·exact zfQ
  ·exact zfQ
theorem zqt{G:Nat}{c:CS}{d:Drf}(h:HB G c):∀q,zab G c (c.put d q).2.1
 | 0=>by
  show zab G c ((c.control d).getD (c,d)).1;cases hc:c.control d with
  | none=>exact zab.refl G c
  | some x=>exact zjb h x hc
 | 1=>by
  show zab G c ((c.datagrams d).getD (c,d)).1;unfold CS.datagrams;cases hw:c.waits with
  | nil=>exact zab.refl G c
  | cons f l =>
   cases hd:d.add f with
   | none=>simp only[hd,Option.map_none];exact zab.refl G c
   | some d' =>
    simp only[hd,Option.map_some];exact⟨⟨rfl,rfl,rfl,rfl,rfl,rfl,rfl,rfl⟩,⟨rfl,rfl,rfl,rfl,rfl,rfl,rfl⟩,by rw[hw];exact Nat.le_succ _,(zab.refl G c).rs⟩
 | k+2=>zmZ
theorem zjY{G q:Nat}:∀n (c:CS) (d:Drf),HB G c→zab G c (CS.reps q n c d).1
 | 0,c,_,_=>zab.refl G c
 | n+1,c,d,h=>by
  have p:=zqt (d:=d) h q;unfold CS.reps;split
  ·exact p.trans (zjY n _ _ (h.but p))
  ·exact p
theorem zhL{G:Nat}:∀n (c:CS) (d:Drf),HB G c→zab G c (CS.fillN n c d).1
 | 0,c,_,_=>zab.refl G c
 | n+1,c,d,h=>by
  have p:=zjY (q:=9-n) (d.room+1) c d h;unfold CS.fillN;exact p.trans (zhL n _ _ (h.but p))
structure DFr(d:Drf):Prop where
 fs:∀f∈d.fs,FS f
 fit:d.fs≠[]→d.b.length+4≤d.room
theorem FS.fits{f:Frm}(h:f.Fits):FS f:=by
 have hs:=h.sound;have hd:=h.data;unfold zT zbA at hs;simp only[Bool.and_eq_true,decide_eq_true_eq]at hs;refine⟨⟨f.stream.toNat,by omega,by omega⟩,fun e=>⟨?_,by omega⟩⟩;have h4:=hs.2;unfold zK at h4;rw[e]at h4;simp at h4;unfold zA;omega
theorem FS.ack(l:zD):FS (ackF l):=⟨⟨0,by decide,rfl⟩,fun e=>absurd e (by simp[ackF])⟩
theorem DFr.add{d a:Drf}{f:Frm}(h:DFr d)(hf:FS f)(ha:d.add f=some a):DFr a:=by
 obtain⟨_,e2,e3,_,_,e6⟩:=Drf.add_some ha;refine⟨fun g hg=>?_,fun _=>by omega⟩;rw[e2]at hg;rcases List.mem_append.1 hg with x|x
 ·exact h.fs g x
 ·rw[List.mem_singleton.1 x];exact hf
theorem DFr.put{c c':CS}{d a:Drf}{r:Bool}(h:DFr d)(p:zcu c d r c' a):DFr a:=by
 cases r with
 | true =>
  obtain⟨f,hf,_,ha⟩:=p.yes rfl;exact h.add (FS.fits hf) ha
 | false =>
  obtain⟨_,e|e⟩:=p.no rfl
  ·rw[e];exact h
  ·rw[e];exact⟨h.fs,h.fit⟩
theorem DFr.reps{q:Nat}(a:q<10):∀n (c:CS) (d:Drf),c.Ok→DFr d→DFr (CS.reps q n c d).2
 | 0,_,_,_,h=>h
 | n+1,c,d,hc,h=>by
  have p:=zfI (d:=d) hc a;unfold CS.reps;split
  ·exact DFr.reps a n _ _ p.ok (h.put p)
  ·exact h.put p
theorem DFr.fillN:∀n (c:CS) (d:Drf),n≤10→c.Ok→d.Ok→DFr d→DFr (CS.fillN n c d).2
 | 0,_,_,_,_,_,h=>h
 | n+1,c,d,hn,hc,hd,h=>by
  have r:=zmi (q:=9-n) (by omega) (d.room+1) c d hc hd;unfold CS.fillN;exact DFr.fillN n _ _ (by omega) r.1 r.2.1 (h.reps (by omega) (d.room+1) c d hc)
theorem DFr.told{d:Drf}(h:DFr d)(l:zD):DFr (zz d l).1:=by
 unfold zz;split
 ·exact h
 ·show DFr ((d.add _).getD d);cases ha:d.add (ackF (l.take (zdA d l l.length)))with
  | none=>exact h
  | some d'=>exact h.add (FS.ack _) ha
def zm0(l:List Fly):Prop:=∀p∈l,p.n≤zA∧p.at_≤zA∧p.fs.length≤1099511627776∧∀f∈p.fs,FS f
structure zm1(G:Nat)(c:CS)(l:zD)(n:Nat)(r:List (List UInt8)×CS):Prop where
 but:zab G c r.2
 ok:r.2.Ok
 fl:r.2.flight.length≤12
 fly:zm0 r.2.flight
 next:r.2.next≤c.next+ziK c l
 out:r.1.length≤n∧∀x∈r.1,x.length≤c.mtu
theorem zjZ(n:Nat):(zla n).length=4:=rfl
theorem zhM{G:Nat}:∀n (c:CS) (l:zD),zmj c l→HB G c→zm0 c.flight→c.now≤zA→zm1 G c l n (CS.pkts n c l)
 | 0,c,l,h,_,hf,_=>⟨zab.refl G c,h.ok,h.fl,hf,by show c.next≤_;omega,Nat.le_refl _,fun x d=>by cases d⟩
 | n+1,c,l,h,hb,hf,hn=>by
  obtain⟨m,r2,o,i,q,j,r7⟩:=h.round;have t:=ziL (zcl h.ok) l;have g:zab G c (c.pkFill (zz c.pkDraft l).1).1:=by
   unfold CS.pkFill;split
   ·exact zhL 10 c _ hb
   ·exact zab.refl G c
  have df:DFr (c.pkFill (zz c.pkDraft l).1).2∧(c.pkFill (zz c.pkDraft l).1).2.room=c.mtu:=by
   have h0:DFr (zz c.pkDraft l).1:=DFr.told ⟨fun f hf=>(by cases hf),fun x=>absurd rfl x⟩ l;unfold CS.pkFill;split
   ·exact⟨h0.fillN 10 c _ (Nat.le_refl _) h.ok m,(zgn 10 c _ (Nat.le_refl _) h.ok m).2.2.1.trans t.2.1⟩
   ·exact⟨h0,t.2.1⟩
  unfold CS.pkts;split
  ·exact⟨g,r2,by show(c.pkFill _).1.flight.length≤12;rw[j];exact h.fl,by show zm0 (c.pkFill _).1.flight;rw[j];exact hf,by show(c.pkFill _).1.next≤_;rw[i];omega,Nat.zero_le _,fun x d=>by cases d⟩
  ·rename_i hne;obtain⟨k1,k2⟩:=r7 hne;have k:zab G c ((c.pkFill (zz c.pkDraft l).1).1.pkDone (c.pkFill (zz c.pkDraft l).1).2):=⟨g.hd,g.tl,g.wl,g.rs⟩;have d:=h.next;have fd:zm0 ((c.pkFill (zz c.pkDraft l).1).1.pkDone (c.pkFill (zz c.pkDraft l).1).2).flight:=by
    show zm0 (if (c.pkFill (zz c.pkDraft l).1).2.wants then(c.pkFill (zz c.pkDraft l).1).1.flight++[⟨(c.pkFill (zz c.pkDraft l).1).1.next,(c.pkFill (zz c.pkDraft l).1).1.now,(c.pkFill (zz c.pkDraft l).1).2.fs⟩]else(c.pkFill (zz c.pkDraft l).1).1.flight);rw[i,q,j];split
    ·intro p hp;rcases List.mem_append.1 hp with x|x
     ·exact hf p x
     ·rw[List.mem_singleton.1 x];have:=o.fs;have:=o.b;exact⟨by show c.next≤_;omega,hn,by show(c.pkFill _).2.fs.length≤_;omega,df.1.fs⟩
    ·exact hf
   have a:=zhM n _ _ k1 (hb.but k) fd (by show(c.pkFill _).1.now≤_;rw[q];exact hn);have e1:((c.pkFill (zz c.pkDraft l).1).1.pkDone (c.pkFill (zz c.pkDraft l).1).2).next=c.next+1:=by show(c.pkFill _).1.next+1=_;rw[i]
   have i1:=a.next;rw[e1]at i1;refine⟨k.trans a.but,a.ok,a.fl,a.fly,?_,?_,fun x d=>?_⟩
   ·show(CS.pkts n _ _).2.next≤_;omega
   ·show(CS.pkts n _ _).1.length+1≤_;have:=a.out.1;omega
   ·rcases List.mem_cons.1 d with e|e
    ·rw[e];have:=df.1.fit hne;have:=df.2;unfold zb3;rw[List.length_append,zjZ];omega
    ·have:=a.out.2 x e;have e2:((c.pkFill (zz c.pkDraft l).1).1.pkDone (c.pkFill (zz c.pkDraft l).1).2).mtu=c.mtu:=k.hd.1;omega
theorem RS.Inv.again{G b:Nat}{x:RS}(h:x.Inv G)(g:Nat)(a:Bool)(h1:x.grant≤g)(h2:g≤b):({ x with grant:=g,anew:=a }:RS).Inv b:=⟨h.came,h.in_,h.bl,h.rd,Nat.le_trans h.hg h1,h2,h.fin,h.keep,h.st⟩
theorem CS.Inv.acks{T:Nat}{c:CS}(h:c.Inv T):c.acks.2.Inv T∧znw c.acks.1∧c.acks.1.length≤8:=by
 unfold CS.acks;split
 ·refine⟨h.misc c.closed c.said false,h.got.1.desc,?_⟩;have:=h.got.1.rl;have:=h.got.2;show c.got.rs.reverse.length≤8;rw[List.length_reverse];omega
 ·exact⟨h,fun i hi=>absurd hi (Nat.not_lt_zero i),Nat.zero_le _⟩
theorem CS.Inv.pkOk{T:Nat}{c:CS}(h:c.Inv T)(hT:T≤zbm):zmj c.acks.2 c.acks.1:=by
 obtain⟨a,b,d⟩:=h.acks;have hn:=a.next;have hf:=a.fl;unfold zbm at hT;exact⟨a.ok (by unfold zbm;omega),a.mtu.1,b,by omega,hf,by unfold ziK zA;omega⟩
theorem CS.Inv.hb{T:Nat}{c:CS}(h:c.Inv T)(hT:T≤zbm):HB (4096*(T+1)) c:=fun k hk hh=>((h.rs k hk).used (by unfold zbm at hT;omega)).2 hh
theorem CS.Inv.pkPost{T:Nat}{c:CS}(h:c.Inv T)(e:T≤zbm):zm1 (4096*(T+1)) c.acks.2 c.acks.1 (12-c.flight.length+c.acks.1.length+1) c.packets:=by
 obtain⟨a,b,d⟩:=h.acks;exact zhM _ _ _ (h.pkOk e) (a.hb e) a.fly (by have:=a.now;unfold zbm at e;unfold zA;omega)
theorem CS.Inv.packets{T:Nat}{c:CS}(h:c.Inv T)(hT:T≤zbm):c.packets.2.Inv (T+1):=by
 have p:=h.pkPost hT;obtain⟨a,_,d⟩:=h.acks;obtain⟨a1,a2,a3,a4,a5,a6,a7,a8⟩:=p.but.hd;obtain⟨c1,c2,c3,c4,b,c6,c7⟩:=p.but.tl;have o:=p.ok;exact
  {mtu:=by rw[a1];exact a.mtu
   win:=o.win
   tot:=o.tot
   grant:=o.grant
   credit:=o.credit
   ws:=o.ws
   rs:=fun k hk=>by
    obtain⟨g,x,e,hg⟩:=p.but.rs k hk;rw[e];have r:=a.rs k hk;have hw:=a.win;have hgr:=r.gr;refine r.again g x ?_ ?_
    ·rcases hg with⟨rfl,_⟩|⟨_,rfl⟩<;>omega
    ·rcases hg with⟨rfl,_⟩|⟨u,rfl⟩<;>omega
   waits:=⟨o.waits,Nat.le_trans p.but.wl a.waits.2⟩
   fl:=p.fl
   fly:=p.fly
   now:=by rw[a4];have:=a.now;omega
   next:=by have:=p.next;have:=a.next;have:=a.fl;unfold ziK at *;omega
   got:=by rw[a7];exact a.got
   nd:=by rw[b];exact a.nd
   ids:=by rw[b];exact a.ids
   sl:=by rw[b];have:=a.sl;omega
   most:=by rw[c6];exact a.most
   cl:=by rw[c7];have:=a.cl;omega }
def za9(e:EN):Array Value:=#[.string (zq e.wrote),.bool e.fin,.bool e.cut,.int .i64 (e.keep:Int),.int .i64 (e.read:Int),.int .i64 (e.state:Int)]
def zcH(s:SN):Array Value:=#[.int .u64 (s.id:Int),.int .u64 (s.dl:Int),.string (zq s.data),.bool s.came]
def zS(l:List (Nat×List UInt8)):List Value:=l.flatMap fun p=>[.int .i64 (p.1:Int),.string (zq p.2)]
def zaO(b:Nat):Value:=.pointer (some ⟨b,0,none⟩)
theorem ze0(l:List (Nat×List UInt8)):(zS l).length=l.length*2:=by
 induction l with
 | nil=>rfl
 | cons p l ih =>
  have e:zS (p::l)=[.int .i64 (p.1:Int),.string (zq p.2)]++zS l:=rfl;rw[e,List.length_append,ih];simp only[List.length_cons,List.length_nil];omega
structure NV where
 x:Value
 ev:Value
 gv:Value
 nx:Value
 bg:Value
 ct:Value
 b:Nat→Nat
 V:Nat→CV
 er:Nat→Value
 eb:Nat→Nat→Nat
 gr:Nat→Value
 gb:Nat→List Nat
def zcS(n:NS)(M:NV):Array Value:=#[M.x,M.ev,M.gv,M.nx,.int .u64 (n.now:Int),.int .i64 (n.mtu:Int),.int .i64 (n.window:Int),.int .i64 (n.total:Int),M.bg,M.ct]
structure zex(tag:Nat→Nat×Nat)(r e sz:Nat)(v:Value)(n:Nat)(xs:List Value)(W:World):Prop where
 own:W.ownsRow 0 e sz v n xs
 tag:∀g,v.ownBlock=some g→tag g=(3,r)
structure zei(tag:Nat→Nat×Nat)(r b:Nat)(cs:Array Value)(t:Nat)(W:World):Prop where
 obj:W.heap[b]?=some (.cells cs t (0,0))
 tag:tag b=(3,r)
section
variable {S:Nat→Prop} {tag tag':Nat→Nat×Nat} {W W':World}
theorem zex.mod{r e sz n:Nat}{v:Value}{xs:List Value}(h:zex tag r e sz v n xs W)(m:Mod S W W')(hS:∀g,S g→tag g≠(3,r))(ht:∀g,tag g≠(0,0)→tag' g=tag g):zex tag' r e sz v n xs W' :=
 ⟨m.owns h.own (fun g hg x=>hS g x (h.tag g hg)),fun g hg=>by rw[ht g (by rw[h.tag g hg];simp),h.tag g hg]⟩
theorem zei.mod{r b t:Nat}{cs:Array Value}(h:zei tag r b cs t W)(m:Mod S W W')(hS:∀g,S g→tag g≠(3,r))(ht:∀g,tag g≠(0,0)→tag' g=tag g):zei tag' r b cs t W' :=
 ⟨m.obj (fun x=>hS b x h.tag) h.obj,by rw[ht b (by rw[h.tag];simp),h.tag]⟩
theorem zei.cell{r b t:Nat}{cs:Array Value}(h:zei tag r b cs t W){j:Nat}{v:Value}(hv:cs[j]?=some v):W.cell? ⟨b,j,none⟩=some v:=za h.obj hv
theorem zei.fz{r b t:Nat}{cs:Array Value}(h:zei tag r b cs t W)(j:Nat):W.frozen? ⟨b,j,none⟩=false:=zd h.obj
end
structure zbU(tag:Nat→Nat×Nat)(nb:Nat)(n:NS)(M:NV)(W:World):Prop where
 obj:zei tag 0 nb (zcS n M) 48 W
 x:zex tag 1 69 1 M.x 2 [zaO (M.b 0),zaO (M.b 1)] W
 ev:zex tag 2 87 1 M.ev 2 [M.er 0,M.er 1] W
 gv:zex tag 3 49 1 M.gv 2 [M.gr 0,M.gr 1] W
 nx:zex tag 4 43 1 M.nx 2 [.int .u64 (n.next 0:Int),.int .u64 (n.next 1:Int)] W
 ct:zex tag 5 43 1 M.ct 2 [.int .u64 (n.count 0:Int),.int .u64 (n.count 1:Int)] W
 bg:zex tag 6 62 2 M.bg n.bag.length (zS n.bag) W
 er:∀i,i<2→zex tag (7+i) 86 1 (M.er i) 8 ((List.range 8).map fun k=>zaO (M.eb i k)) W
 en:∀i,i<2→∀k,k<8→zei tag (20+8*i+k) (M.eb i k) (za9 (n.e i k)) 89 W
 gr:∀i,i<2→zex tag (9+i) 52 1 (M.gr i) (M.gb i).length ((M.gb i).map zaO) W
 gl:∀i,i<2→(M.gb i).length=(n.g i).length
 gn:∀i,i<2→∀(j b:Nat) (s:SN),(M.gb i)[j]?=some b→(n.g i)[j]?=some s→zei tag (40+2*j+i) b (zcH s) 51 W
structure zjc(n n':NS):Prop where
 hd:n'.mtu=n.mtu∧n'.window=n.window∧n'.total=n.total∧n'.now=n.now∧n'.bag=n.bag
 e:∀i,i<2→n'.e i=n.e i
 g:∀i,i<2→n'.g i=n.g i
 ct:∀i,i<2→n'.next i=n.next i∧n'.count i=n.count i
theorem zjc.refl(n:NS):zjc n n:=⟨⟨rfl,rfl,rfl,rfl,rfl⟩,fun _ _=>rfl,fun _ _=>rfl,fun _ _=>⟨rfl,rfl⟩⟩
theorem zjc.setC(n:NS)(i:Nat)(c:CS):zjc n (n.setC i c):=⟨⟨rfl,rfl,rfl,rfl,rfl⟩,fun _ _=>rfl,fun _ _=>rfl,fun _ _=>⟨rfl,rfl⟩⟩
theorem zbU.same{tag:Nat→Nat×Nat}{nb:Nat}{n n':NS}{M:NV}{W:World}(h:zbU tag nb n M W)(s:zjc n n')(V:Nat→CV):zbU tag nb n' { M with V:=V } W:=by
 obtain⟨a1,a2,a3,a4,a5⟩:=s.hd;exact
  {obj:=by
    have e:zcS n' { M with V:=V }=zcS n M:=by unfold zcS;rw[a1,a2,a3,a4]
    rw[e];exact h.obj
   x:=h.x
   ev:=h.ev
   gv:=h.gv
   nx:=by rw[(s.ct 0 (by decide)).1,(s.ct 1 (by decide)).1];exact h.nx
   ct:=by rw[(s.ct 0 (by decide)).2,(s.ct 1 (by decide)).2];exact h.ct
   bg:=by rw[a5];exact h.bg
   er:=h.er
   en:=fun i hi k hk=>by rw[s.e i hi];exact h.en i hi k hk
   gr:=h.gr
   gl:=fun i hi=>by rw[s.g i hi];exact h.gl i hi
   gn:=fun i hi=>by rw[s.g i hi];exact h.gn i hi }
theorem zbU.mod{S:Nat→Prop}{tag tag':Nat→Nat×Nat}{nb:Nat}{n:NS}{M:NV}{W W':World}(h:zbU tag nb n M W)(m:Mod S W W')(hS:∀g,S g→(tag g).1≠3)(a:∀g,tag g≠(0,0)→tag' g=tag g):zbU tag' nb n M W':=by
 have q:∀{r:Nat} g,S g→tag g≠(3,r):=fun g x e=>hS g x (by rw[e])
 exact
  {obj:=h.obj.mod m q a
   x:=h.x.mod m q a
   ev:=h.ev.mod m q a
   gv:=h.gv.mod m q a
   nx:=h.nx.mod m q a
   ct:=h.ct.mod m q a
   bg:=h.bg.mod m q a
   er:=fun i hi=>(h.er i hi).mod m q a
   en:=fun i hi k hk=>(h.en i hi k hk).mod m q a
   gr:=fun i hi=>(h.gr i hi).mod m q a
   gl:=h.gl
   gn:=fun i hi j b s hb hs=>(h.gn i hi j b s hb hs).mod m q a }
structure Net(w:World)(tag:Nat→Nat×Nat)(nb:Nat)(n:NS)(M:NV)(W:World):Prop where
 o:zbU tag nb n M W
 cn:∀i,i<2→zg tag (i+1) (M.b i) (n.c i) (M.V i) W
 env:Env 1 tag W
 nd:∀i,i<2→zia (i+1) tag
 mod:Mod NoB w W
 t1:∀g,tag g≠(0,0)→w.heap.size≤g
def zy(w:World)(tag:Nat→Nat×Nat)(nb:Nat)(W:World)(n':NS)(W':World):Prop :=
 ∃tag' M',Net w tag' nb n' M' W'∧(∀g,g<W.heap.size→tag' g=tag g)∧Mod (fun g=>tag g≠(0,0)) W W'
theorem Env.to{i j:Nat}{tag:Nat→Nat×Nat}{W:World}(h:Env i tag W)(hj:0<j):Env j tag W:=⟨h.ok,hj,h.err,h.tab,h.g0,h.g1⟩
theorem Net.left{w:World}{tag:Nat→Nat×Nat}{nb:Nat}{n:NS}{M:NV}{W:World}(h:Net w tag nb n M W):zy w tag nb W n W:=⟨tag,M,h,fun _ _=>rfl,Mod.refl _ _⟩
theorem zy.trans{w:World}{tag:Nat→Nat×Nat}{nb:Nat}{n':NS}{W W' W'':World}{tag':Nat→Nat×Nat}(h1:∀g,g<W.heap.size→tag' g=tag g)(h2:Mod (fun g=>tag g≠(0,0)) W W')(h:zy w tag' nb W' n' W''):zy w tag nb W n' W'':=by
 obtain⟨t,M',a,b,c⟩:=h;refine⟨t,M',a,fun g hg=>(b g (Nat.lt_of_lt_of_le hg h2.size)).trans (h1 g hg),h2.then c (fun g hg=>?_)⟩;by_cases q:g<W.heap.size
 ·exact .inl (by rw[←h1 g q];exact hg)
 ·exact .inr (by omega)
theorem Net.free{S:Nat→Prop}{w:World}{tag:Nat→Nat×Nat}{nb:Nat}{n:NS}{M:NV}{W W':World}(h:Net w tag nb n M W)(m:Mod S W W')(b:∀g,S g→W.heap.size≤g):Net w tag nb n M W':=by
 have q:∀g,S g→tag g=(0,0):=fun g hg=>h.env.ok g (b g hg)
 have a:Mod NoB W W':=m.mono (fun g hg=>.inr (b g hg));exact⟨h.o.mod a (fun _ x=>x.elim) (fun _ _=>rfl),fun i hi=>(h.cn i hi).mod0 a,h.env.mod0 a,h.nd,h.mod.trans a,h.t1⟩
theorem zbc.nodr{tag:Nat→Nat×Nat}{i b:Nat}{c':CS}{W W':World}(L:zbc tag i b W c' W')(hi:0<i)(hn:zia i tag):∃tag' V',zg tag' i b c' V' W'∧Ext i tag tag' W W'∧Mod (fun g=>(tag g).1=i) W W'∧zia i tag':=by
 obtain⟨t,V',a,e,m⟩:=L;refine⟨fun g=>if (t g).1=i∧90≤(t g).2 then(0,0)else t g,V',a.retag (fun g r d hg=>?_),⟨fun g hg=>?_,fun g hg=>?_,fun g hg=>?_⟩,m,fun g r d=>?_⟩
 ·rw[if_neg (by rw[hg];simp only;omega),hg]
 ·show(if _ then _ else _)=_;rw[e.old g hg,if_neg];rintro⟨x,y⟩;exact hn g (tag g).2 y (by rw[←x])
 ·by_cases c:(t g).1=i∧90≤(t g).2
  ·exact .inr (if_pos c)
  ·have y:(if (t g).1=i∧90≤(t g).2 then((0,0):Nat×Nat)else t g)=t g:=if_neg c;simp only[y];exact e.new g hg
 ·show(if _ then _ else _)=_;split
  ·rfl
  ·exact e.out g hg
 ·show(if _ then _ else _)≠_;split
  ·intro x;have:=congrArg Prod.fst x;simp only at this;omega
  ·rename_i c;intro x;rw[x]at c;exact c ⟨rfl,d⟩
theorem zia.other{i j:Nat}{tag tag':Nat→Nat×Nat}{W W':World}(h:zia j tag)(e:Ext i tag tag' W W')(hj:0<j)(a:j≠i):zia j tag':=by
 intro g r hr x;by_cases q:g<W.heap.size
 ·rw[e.old g q]at x;exact h g r hr x
 ·rcases e.new g (by omega)with y|y
  ·rw[x]at y;exact a y
  ·rw[x]at y;have:=congrArg Prod.fst y;simp only at this;omega
theorem Net.conn{w:World}{tag:Nat→Nat×Nat}{nb:Nat}{n:NS}{M:NV}{W W':World}(h:Net w tag nb n M W){i:Nat}(hi:i<2){c':CS}(hc:zbc tag (i+1) (M.b i) W c' W') :
  ∃tag' V',Net w tag' nb (n.setC i c') { M with V:=V' } W'∧(∀g,g<W.heap.size→tag' g=tag g)∧Mod (fun g=>(tag g).1=i+1) W W':=by
 obtain⟨tag',V',a,e,m,d⟩:=hc.nodr (by omega) (h.nd i hi);have old:∀g,tag g≠(0,0)→tag' g=tag g:=fun g hg=>by
  by_cases q:g<W.heap.size
  ·exact e.old g q
  ·exact absurd (h.env.ok g (by omega)) hg
 refine⟨tag',upd M.V i V',⟨(h.o.mod m (fun g hg x=>by omega) old).same (zjc.setC n i c') _,fun j f=>?_,?_,fun j f=>?_,h.mod.then m (fun g hg=>?_),fun g hg=>?_⟩,e.old,m⟩
 ·by_cases q:j=i
  ·subst q;show zg tag' (j+1) (M.b j) (upd n.c j c' j) (upd M.V j V' j) W';rw[zf,zf];exact a
  ·show zg tag' (j+1) (M.b j) (upd n.c i c' j) (upd M.V i V' j) W';rw[ze _ _ q,ze _ _ q];exact(h.cn j f).mod m (fun g hg x=>by omega) (fun g hg=>old g (fun x=>by rw[x]at hg;simp at hg))
 ·exact((h.env.to (j:=i+1) (by omega)).left e m).to (by omega)
 ·by_cases q:j=i
  ·subst q;exact d
  ·exact(h.nd j f).other e (by omega) (by omega)
 ·refine .inr (h.t1 g (fun x=>?_));rw[x]at hg;simp at hg
 ·by_cases q:g<W.heap.size
  ·exact h.t1 g (by rw[←e.old g q];exact hg)
  ·have:=h.mod.size;omega
end Go.Proofs.YtddfdpbaiedcjaaGreatDoor
