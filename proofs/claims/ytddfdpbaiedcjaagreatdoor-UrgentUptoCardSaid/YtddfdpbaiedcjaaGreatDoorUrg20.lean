/- A part of Urgent's proof. Conditions: none. Part 20 of 32. -/
import Derived.Test.YtddfdpbaiedcjaaGreatDoorUrg19
set_option maxRecDepth 100000
set_option maxHeartbeats 16000000
set_option linter.all false
namespace Go.Proofs.YtddfdpbaiedcjaaGreatDoor
open Go.RowKit
structure zmB(c:CS)(f:Frm)(k:Nat):Prop where
 lt:k<8
 st:f.stream=(k:Int)
 high:∀j,j<8→(c.rs j).high≤1099511627776
 grant:(c.rs k).grant≤1099511627776
 cgrant:c.grant≤zA
 fin:(c.rs k).fin≤zA
 end_:f.end_≤zA
 dl:f.data.length≤1099511627776
 came:(c.rs k).came.Ok
 bl:(c.rs k).b.length≤(c.rs k).high
theorem zjQ{rs:Nat→RS}{B:Nat}(h:∀j,j<8→(rs j).high≤B):∀n,n≤8→zdB rs n≤n*B
 | 0,_=>by simp[zdB]
 | n+1,hn=>by
  have:=zjQ h n (by omega);have:=h n (by omega);rw[Nat.succ_mul];show zdB rs n+(rs n).high≤_;omega
theorem zmC(off:Nat)(data:List UInt8)(e n lo:Nat)(b:List UInt8)(s:zaQ)(h:lo<e)(h2:(zaD s.rs lo e).1<e) :
  zhh off data e (n+1) lo b s=zhh off data e n (zaD s.rs lo e).2 (zhg b (zaD s.rs lo e).1 ((data.drop ((zaD s.rs lo e).1-off)).take ((zaD s.rs lo e).2-(zaD s.rs lo e).1))) (s.add (zaD s.rs lo e).1 ((zaD s.rs lo e).2-1)):=by
 rw[zhh,if_pos h,if_neg (by omega)]
theorem zoL(off:Nat)(data:List UInt8)(e n lo:Nat)(b:List UInt8)(s:zaQ)(h:¬lo<e):zhh off data e n lo b s=(b,s):=by
 cases n with
 | zero=>rfl
 | succ n=>rw[zhh,if_neg h]
theorem zmD(off:Nat)(data:List UInt8)(e n lo:Nat)(b:List UInt8)(s:zaQ)(h:lo<e)(h2:¬(zaD s.rs lo e).1<e)(hn:0<n):zhh off data e n lo b s=(b,s):=by
 cases n with
 | zero=>omega
 | succ n=>rw[zhh,if_pos h,if_pos (by omega)]
theorem zoM{c:CS}{f:Frm}{k:Nat}(a:f.stream=(k:Int))(h:(c.rs k).badEnd f=true):c.data f=(10,c):=by
 unfold CS.data;rw[a];simp[h]
theorem zhv{c:CS}{f:Frm}{k:Nat}(a:f.stream=(k:Int))(h:(c.rs k).badEnd f=false)(h2:(c.rs k).high<f.end_∧((c.rs k).grant<f.end_∨c.grant<f.end_-(c.rs k).high+zdB c.rs 8)):c.data f=(9,c):=by
 unfold CS.data;rw[a];simp only[Int.toNat_natCast,h,Bool.false_eq_true,if_false];rw[if_pos h2]
theorem zhw{c:CS}{f:Frm}{k:Nat}(a:f.stream=(k:Int))(h:(c.rs k).badEnd f=false)(h2:¬((c.rs k).high<f.end_∧((c.rs k).grant<f.end_∨c.grant<f.end_-(c.rs k).high+zdB c.rs 8))):c.data f=(0,{ c with rs:=upd c.rs k ((c.rs k).data f) }):=by
 unfold CS.data;rw[a];simp only[Int.toNat_natCast,h,Bool.false_eq_true,if_false];rw[if_neg h2]
theorem zmE{tag:Nat→Nat×Nat}{i b:Nat}{c:CS}{V:CV}{W:World}(h:zg tag i b c V W)(ht:zP tag W)(hi:0<i)(f:Frm)(rv:Value)(k:Nat)(ok:zmB c f k)(bI:∃a n cap,rv = .slice a n cap) :
  Calls Tryz.prog 159 #[.pointer (some ⟨b,0,none⟩),.agg (zh f rv)] W (zbd tag i b W (.int .i64 ((c.data f).1:Int)) (c.data f).2):=by
 have hk:=ok.lt;have aK:=ok.st;obtain⟨ra,rn,aL,rfl⟩:=bI;obtain⟨W1,ap⟩:=nm (W.alloc (.cells (zh f (.slice ra rn aL)) 65));have m1:Mod NoB W W1:=by rw[←ap];exact(Mod.refl _ _).alloc _
 have aq:zi W1 W.heap.size f (.slice ra rn aL):=by rw[←ap];exact heap_alloc_new W _
 have aM:¬zaf i tag W.heap.size:=fun x=>by
  have h1:=x.1;rw[ht _ (Nat.le_refl _)]at h1;simp at h1;omega
 have h1:=h.mod0 m1;have r0:zt tag i b W1 V c tag V W1:=⟨h1,Ext.same (ht.mod m1) (Mod.refl NoB W1),Mod.refl _ _,hi,⟨rfl,rfl⟩⟩;have D:Hid (∀{c':CS} {tag':Nat→Nat×Nat} {V':CV} {W':World},zt tag i b W1 V c' tag' V' W'→zbc tag i b W c' W'):=zb (fun r =>
  ⟨_,_,r.c,zaT ht m1 r.e,(m1.mono (fun _ x=>x.elim)).then r.m.ofC (fun g hg=>.inl hg)⟩)
 obtain⟨fb,aN⟩:=nm W.heap.size;rw[aN]at aq aM;have aO:Hid (∀{c':CS} {tag':Nat→Nat×Nat} {V':CV} {W':World},zt tag i b W1 V c' tag' V' W'→zi W' fb f (.slice ra rn aL)):=zb (fun r=>aq.mod r.m aM);obtain⟨y0,y1,y2,y3,y4,y5,y6,y7,y8,y9⟩:=aq.cells;rw[aK]at y1;obtain⟨x,hx⟩:=nm (c.rs k);obtain⟨off,N⟩:=nm f.off;obtain⟨l,F⟩:=nm f.data;obtain⟨DL,T⟩:=nm l.length;obtain⟨E,hE⟩:=nm f.end_;obtain⟨fi,ar⟩:=nm f.fin;obtain⟨en,au⟩:=nm x.ended;obtain⟨FN,U⟩:=nm x.fin;obtain⟨C,X⟩:=nm x.high;obtain⟨GR,av⟩:=nm x.grant;obtain⟨CG,aw⟩:=nm c.grant;obtain⟨bad,Y⟩:=nm (x.badEnd f);have Z:E=off+DL:=by rw[←hE,←N,←T,←F];rfl
 have a5:Hid (((en&&(decide (FN<E)||(fi&&E != FN)))||(fi&&decide (E<C)))=bad):=zb (by
  rw[←Y];unfold RS.badEnd;rw[au,U,hE,ar,X])
 have q1:=ok.high k hk;have q2:=ok.grant;have q3:=ok.cgrant;have q4:=ok.fin;have q5:=ok.end_;have q6:=ok.dl;have q7:=ok.bl;have q8:=zjQ ok.high;rw[hx]at q1 q2 q4 q7;rw[X]at q1 q7;rw[av]at q2;rw[U]at q4;rw[aw]at q3;rw[hE]at q5;rw[F,T]at q6;unfold zA at q3 q4 q5;have r4:W1.cell? ⟨b,129+k*13+4,none⟩=some (.int .u64 (C:Int)):=by rw[←X,←hx,Nat.mul_comm];exact h1.r (j:=4) hk rfl
 have r5:W1.cell? ⟨b,129+k*13+5,none⟩=some (.int .u64 (FN:Int)):=by rw[←U,←hx,Nat.mul_comm];exact h1.r (j:=5) hk rfl
 have r6:W1.cell? ⟨b,129+k*13+6,none⟩=some (.bool en):=by rw[←au,←hx,Nat.mul_comm];exact h1.r (j:=6) hk rfl
 have bJ:W1.cell? ⟨b,129+k*13+11,none⟩=some (.int .u64 (GR:Int)):=by rw[←av,←hx,Nat.mul_comm];exact h1.r (j:=11) hk rfl
 have bK:W1.cell? ⟨b,234,none⟩=some (.int .u64 (CG:Int)):=by rw[←aw];exact h1.tl (j:=1) rfl
 have fz:=h1.fz;have bL:Hid (∀j,j<8→W1.cell? ⟨b,129+j*13+4,none⟩=some (.int .u64 ((c.rs j).high:Int))):=zb (fun j hj=>by rw[Nat.mul_comm];exact h1.r (j:=4) hj rfl);have a6:=zb q8;rw[N]at y2;rw[ar]at y5;rw[F]at y8;have hsz:(zq l).size=DL:=by rw[zJ,T]
 have w1:IntKind.u64.wrap (DL:Int)=(DL:Int):=by rw[IntKind.wrap_u64];omega
 have w2:IntKind.u64.wrap ((off:Int)+DL)=(E:Int):=by rw[IntKind.wrap_u64];omega
 have dk0:(0:Int)≤k:=by omega
 have dk8:(k:Int)<8:=by omega
 have R0:=zb r0;have aa:=zb Z;have HX:=zb hx;have ab:=zb N;have aF:=zb F;have a7:=zb T;have HE:=zb hE;have a8:=zb ar;have a9:=zb au;have ba:=zb U;have I:=zb X;have aP:=zb av;have aQ:=zb aw;have HB:=zb Y;have bM:=zb ok;have ac:=zb aK;have bN:=zb ap;have bO:=zb aN;clear h ht hi h1 r0 m1 aq aM y0 y3 y4 y6 y7 y9 hx N F T hE ar au U X av aw Y ok aK ap aN q8 Z;go_enter Tryz.func159,Tryz.ntmps159;go_upto_region 1 with fail;rw[bN.out,bO.out];refine zB ?_;refine zl 7 (fun w'=>w'.cell? ⟨fb,1,none⟩=some (.int .i64 (k:Int))) (y1) ?_;refine GI 0 ?_;iterate 7
  refine GS rfl ?_ ?_ ?_;rotate_left
  ·(intro P y;(try dsimp only at y);go_simp)<;>(try with_reducible rfl)
  try simp only[PS]
 refine zo ?_;refine⟨rfl,?_⟩;go_upto_region 2 with fail
 go_cut [6] (fun ev P=>ev = .int .u64 (E:Int)∧P=W1.drew)
 case first=>as_aux_lemma =>
  go_wp2_with fail;go_meet;have Z:=aa.out;exact⟨by(congr 1<;>omega),rfl⟩
 case rest =>
 obtain⟨rfl,hw⟩:=hcut;obtain⟨WA,aR⟩:=nn wc;subst aR;subst hw;clear w1 w2;go_upto_region 3 with fail
 go_cut [59] (fun bv P=>bv = .bool bad∧P=W1.drew)
 case first=>as_aux_lemma =>
  have hB:=a5.out;subst hB;cases en
  ·cases fi
   ·go_wp2_with fail;go_meet;exact⟨rfl,rfl⟩
   ·by_cases d2:(E:Int)<C
    ·have J:E<C:=by omega
     go_wp2_with fail;go_meet;exact⟨by simp[J],rfl⟩
    ·have J:¬E<C:=by omega
     go_wp2_with fail;go_meet;exact⟨by simp[J],rfl⟩
  ·by_cases d1:(FN:Int)<E
   ·have ax:FN<E:=by omega
    go_wp2_with fail;go_meet;exact⟨by simp[ax],rfl⟩
   ·have ax:¬FN<E:=by omega
    cases fi
    ·go_wp2_with fail;go_meet;exact⟨by simp[ax],rfl⟩
    ·by_cases d3:E=FN
     ·subst d3;by_cases d2:(E:Int)<C
      ·have J:E<C:=by omega
       go_wp2_with fail;go_meet;exact⟨by simp[J],rfl⟩
      ·have J:¬E<C:=by omega
       go_wp2_with fail;go_meet;exact⟨by simp[J],rfl⟩
     ·have d3b:((E:Int)==(FN:Int))=false:=by rw[zdZ];simpa using d3
      go_wp2_with fail;go_meet;exact⟨by simp[ax,d3],rfl⟩
 case rest =>
 obtain⟨rfl,hw⟩:=hcut;obtain⟨WA,aR⟩:=nn wc;subst aR;cases hbv:bad with
 | true =>
  rw[hbv]at HB;go_wp2_with fail;go_ret;have hd:=zoM (c:=c) (f:=f) ac.out (by rw[HX.out];exact HB.out);rw[hd];exact⟨rfl,D.out (R0.out.mod0 (by rw[hw];exact(Mod.refl NoB W1).drew))⟩
 | false =>
 rw[hbv]at HB;have ay:Hid ((c.rs k).badEnd f=false):=zb (by rw[HX.out];exact HB.out);subst hw;go_upto_if 65 with fail;obtain⟨t,aS⟩:=nm (max C E);have G:=zb aS
 go_cut [] (fun P=>Hid (zt tag i b W1 V { c with rs:=upd c.rs k { x with high:=t } } tag V P∧(¬(C<E∧(GR<E∨CG<E-C+zdB c.rs 8)))∧t≤1099511627776))
 case first=>as_aux_lemma =>
  have bb:Hid (c={ c with rs:=upd c.rs k x }):=zb (by rw[←HX.out,za2]);by_cases hEH:(C:Int)<E
  ·have w3:IntKind.u64.wrap ((E:Int)-C)=(E:Int)-C:=by rw[IntKind.wrap_u64];omega
   go_wp2_with fail
   go_loopw [7,72] (fun tv jv wr=>∃j:Nat,j≤8∧jv = .int .i64 (j:Int)∧tv = .int .u64 ((E:Int)-C+(zdB c.rs j:Nat))∧wr=W1.drew) (fun _ jv _=>8-(intOf jv).toNat)
   case atStart=>exact⟨0,by omega,rfl,by simp[zdB],rfl⟩
   case round =>
    obtain⟨j,hj,rfl,rfl,rfl⟩:=hrel;have aT:=a6.out j hj;by_cases z:j<8
    ·have cj:=bL.out j z;have bP:=a6.out (j+1) (by omega);have aU:zdB c.rs (j+1)=zdB c.rs j+(c.rs j).high:=rfl;obtain⟨S,O⟩:=nm (zdB c.rs j);obtain⟨bc,aV⟩:=nm ((c.rs j).high);rw[O,aV]at aU;rw[O]at aT;rw[aV]at cj;have bQ:=zb aU;have w4:IntKind.u64.wrap ((E:Int)-C+(S:Int)+bc)=(E:Int)-C+(S:Int)+bc:=by rw[IntKind.wrap_u64];omega
     have dj0:(0:Int)≤j:=by omega
     have dj8:(j:Int)<8:=by omega
     rw[O];clear aT bP aU O aV;go_wp2_with fail;go_roundw
     case rel=>exact⟨j+1,by omega,by go_num,by rw[bQ.out];go_num,trivial⟩
     case measure=>simp[intOf];omega
    ·have bR:j=8:=by omega
     subst bR;obtain⟨S,O⟩:=nm (zdB c.rs 8);have HS:=zb O;rw[O]at aT;rw[O];clear O;by_cases g1:(GR:Int)<E
     ·go_wp2_with fail;go_ret;have hd:=zhv (c:=c) (f:=f) ac.out ay.out (by rw[HX.out,I.out,HE.out,aP.out];exact⟨by omega,.inl (by omega)⟩);rw[hd];exact⟨rfl,D.out (R0.out.mod0 (Mod.refl NoB W1).drew)⟩
     ·by_cases g2:(CG:Int)<(E:Int)-C+S
      ·go_wp2_with fail;go_ret;have hd:=zhv (c:=c) (f:=f) ac.out ay.out (by rw[HX.out,I.out,HE.out,aQ.out,HS.out];exact⟨by omega,.inr (by omega)⟩);rw[hd];exact⟨rfl,D.out (R0.out.mod0 (Mod.refl NoB W1).drew)⟩
      ·have hz:=(((R0.out.mod0 (Mod.refl NoB W1).drew).same bb.out).storeR hk 4 (by decide) (.int .u64 (E:Int)) { x with high:=t } (by rw[←G.out,Nat.max_eq_right (by omega)];rfl) rfl rfl);rw[Nat.mul_comm 13 k]at hz;have HZ:=zb hz;have f4:=fz (129+k*13+4);clear hz;go_wp2_with fail;go_meet;exact zb ⟨HZ.out,by rw[HS.out];omega,by rw[←G.out];omega⟩
  ·go_wp2_with fail;go_meet;refine zb ⟨((R0.out.mod0 (Mod.refl NoB W1).drew).same bb.out).same ?_,by omega,by rw[←G.out];omega⟩;rw[←G.out,Nat.max_eq_left (by omega),←I.out]
 case rest =>
 obtain⟨WB,bS⟩:=nn wc;subst bS;have bd:=hcut;clear hcut;obtain⟨rb,ad,cp⟩:=id bd.out;have z5:WB.cell? ⟨fb,5,none⟩=some (.bool fi):=by rw[←a8.out];exact(aO.out rb).cells.2.2.2.2.2.1
 have be:=zb ad;obtain⟨Q,bf⟩:∃Q:RS,{ x with high:=t,ended:=en||fi,fin:=if fi then E else FN }=Q:=⟨_,rfl⟩;have L:=zb bf;have RB:=zb rb;have bT:=rb.c.fz;have ae:=rb.storeR hk 6 (by decide) (.bool true) { x with high:=t,ended:=true } (by rfl) rfl rfl;have aW:=ae.storeR hk 5 (by decide) (.int .u64 (E:Int)) { x with high:=t,ended:=true,fin:=E } (by rfl) rfl rfl;have aG:=ae.c.fz;have aH:=ae;rw[Nat.mul_comm 13 k]at ae aW aG;have bh:=zb aW;obtain⟨u5,bU⟩:∃v,WB.cell? ⟨b,129+k*13+5,none⟩=some v:=⟨_,by rw[Nat.mul_comm k 13];exact rb.c.r (j:=5) hk rfl⟩;obtain⟨u6,bV⟩:∃v,WB.cell? ⟨b,129+k*13+6,none⟩=some v:=⟨_,by rw[Nat.mul_comm k 13];exact rb.c.r (j:=6) hk rfl⟩;obtain⟨u7,bW⟩:∃v,(WB.setCell ⟨b,129+k*13+6,none⟩ (.bool true)).cell? ⟨b,129+k*13+5,none⟩=some v:=⟨_,by rw[Nat.mul_comm k 13];exact aH.c.r (j:=5) hk rfl⟩;clear rb ae aH aW ad bf r4 r5 r6 bJ bK fz y1 y2 y5 y8;go_upto_if 104 with fail
 go_cut [] (fun P=>Hid (zt tag i b W1 V { c with rs:=upd c.rs k Q } tag V P))
 case first=>as_aux_lemma =>
  cases fi with
  | true =>
   go_wp2_with fail;go_meet;refine zb (bh.out.same ?_);rw[←L.out];simp
  | false =>
   go_wp2_with fail;go_meet;refine zb (RB.out.same ?_);rw[←L.out,←a9.out,←ba.out];simp
 case rest =>
 obtain⟨WC,bX⟩:=nn wc;subst bX;have RC:=hcut;clear hcut bT aG z5 RB bh bd bU bV bW;obtain⟨H,bY⟩:=nm x.b.length;have aX:=zb bY;have cq:Hid (Q.b=x.b):=zb (by rw[←L.out]);have bi:Hid (Q.high=t):=zb (by rw[←L.out]);have q9:H≤t:=by rw[←aX.out,←G.out];omega
 go_wp2_with fail
 go_loopw [] (fun wr=>∃(n:Nat) (tag':Nat→Nat×Nat) (V':CV),H+n≤t∧Hid (zt tag i b W1 V { c with rs:=upd c.rs k { Q with b:=x.b++List.replicate n 0 } } tag' V' wr)) (fun wr=>t-(match wr.cell? ⟨b,129+k*13,none⟩with|some (.slice _ n _)=>n|_=>0))
 case atStart=>exact⟨0,tag,V,by omega,zb (RC.out.same (by rw[←L.out];simp))⟩
 case round =>
  obtain⟨n,bj,V1,hn,HR⟩:=hrel;have hR:=HR.out;obtain⟨bs,az⟩:=nm (x.b++List.replicate n 0);rw[az]at hR HR;have aY:bs.length=H+n:=by rw[←az];simp[aX.out]
  have aZ:OB wr (V1.rb k) bs:=by have:=hR.c.rb k hk;simpa only[zf]using this
  obtain⟨sa,af,hv,bZ,b0,a0⟩:=zj aZ;rw[aY]at hv bZ a0;unfold maxLen at b0;have v0:wr.cell? ⟨b,129+k*13,none⟩=some (.slice sa (H+n) af):=by rw[←hv,Nat.mul_comm];exact hR.c.r (j:=0) hk rfl
  have v4:wr.cell? ⟨b,129+k*13+4,none⟩=some (.int .u64 (t:Int)):=by
   have:=hR.c.r (j:=4) (v:=.int .u64 (t:Int)) hk (by simp only[zf];rw[←bi.out];rfl);rw[Nat.mul_comm];exact this
  have w5:IntKind.u64.wrap ((H:Int)+n)=(H:Int)+n:=by rw[IntKind.wrap_u64];omega
  have bk:=zb az;have R:=zb aY;have b1:=zb aZ;have HV:=zb hv;have HC3:=zb a0;clear HR;have HR:=zb hR;clear hR az aY aZ hv a0;by_cases z:H+n<t
  ·have aI:(H:Int)+n<t:=by omega
   obtain⟨Wc,a1⟩:=nm (wr.alloc (.cells #[.int .u8 0] 5));have mc:Mod NoB wr Wc:=by rw[←a1];exact(Mod.refl _ _).alloc _
   have oc:Wc.heap[wr.heap.size]?=some (.cells #[.int .u8 0] 5 (0,0)):=by rw[←a1];exact heap_alloc_new wr _
   have bm:BR Wc.drew (.slice (some ⟨wr.heap.size,0,none⟩) [(0:UInt8)].length 1) [(0:UInt8)] :=
    ⟨_,_,rfl,by simp,by unfold maxLen;omega,fun q cc hq=>⟨_,_,rfl,by
     have b2:q=0:=by
      have:=(List.getElem?_eq_some_iff.1 hq).1;simp at this;omega
     subst b2;simp at hq;subst hq;exact za (o:=0+0) oc rfl⟩⟩
   have aJ:bs.length + [(0:UInt8)].length≤140737488355328:=by rw[R.out];simp;omega
   have a2:Mod NoB wr Wc.drew:=mc.drew;obtain⟨v',W2,happ,ha⟩:=zlS Wc.drew (V1.rb k) bs ⟨wr.heap.size,0,none⟩ 1 [0] (a2.owns b1.out (fun _ _ x=>x)) bm aJ;obtain⟨⟨tag2,V2,r2⟩,x2,f2⟩:=(HR.out.mod0 a2).rapp hk (s:=[0]) (v':=v') (W2:=W2) (by simp only[zf];exact ha);obtain⟨va,vc,rfl,_⟩:=zj ha.own;have b3:=r2;have e2:=r2.c.rb k hk;obtain⟨ea,ec,he,_⟩:=zj e2;have e3:=r2.c.r (j:=0) hk rfl;rw[he]at e3;have ah:((({ ({ c with rs:=upd c.rs k { Q with b:=bs } }:CS)with rs:=upd (upd c.rs k { Q with b:=bs }) k { (upd c.rs k { Q with b:=bs }) k with b:=((upd c.rs k { Q with b:=bs }) k).b++[0] } }:CS).rs k).b).length=H+n+1:=by
    simp only[zf,List.length_append,R.out];rfl
   rw[ah]at e3;rw[Nat.mul_comm 13 k]at x2 f2 r2 e3;rw[List.length_append,R.out]at happ;rw[HV.out]at happ x2;have e3:(W2.setCell ⟨b,129+k*13,none⟩ (.slice va (bs++[0]).length vc)).cell? ⟨b,129+k*13,none⟩=some (.slice ea (H+n+1) ec):=e3;have bn:=zb e3;have R2:=zb r2;have aA:[(0:UInt8)].length=1:=rfl;rw[aA]at happ;rw[List.length_append,R.out,aA]at R2;rw[List.length_append,R.out,aA]at bn;subst a1;clear ha r2 b3 e2 he e3 ah a2 aJ bm oc mc;go_upto_region 17 with fail;refine zB ?_;refine zl 11 (fun w'=>w'.cell? ⟨b,129+k*13,none⟩=some (.slice sa (H+n) af)∧w'.cell? ⟨b,129+k*13+4,none⟩=some (.int .u64 (t:Int))) (⟨v0,v4⟩) ?_;refine GI 0 ?_;iterate 11
    refine GS rfl ?_ ?_ ?_;rotate_left
    ·(intro P y;(try dsimp only at y);obtain⟨f0,f4⟩:=y;go_simp)<;>(try with_reducible rfl)
    try simp only[PS]
   refine zo ?_;refine⟨rfl,?_⟩;go_wp2_with (at_builtin;refine zm rfl _ _ _ _ rfl _ _ _ rfl rfl happ ?_);go_roundw
   case rel =>
    refine⟨n+1,tag2,V2,by omega,zb (R2.out.same ?_)⟩;simp only[zf,zgq,←bk.out,List.append_assoc,List.replicate_succ']
   case measure =>
    have e3:=bn.out;simp only[v0];rw[e3];show t-(H+n+1)<t-(H+n);omega
  ·have bo:H+n=t:=by omega
   have bp:Hid (bs=zmk x.b t):=zb (by
    rw[←bk.out];unfold zmk;rw[aX.out,show t-H=n by omega])
   have aI:¬(H:Int)+n<t:=by omega
   obtain⟨y0,y1,y2,y3,y4,y5,y6,y7,y8,y9⟩:=(aO.out HR.out).cells;rw[ab.out]at y2;have bq:=zb bM.out.came;have b4:=zb bo;clear bo z;go_upto_region 17 with fail;refine zB ?_;refine zl 11 (fun w'=>w'.cell? ⟨b,129+k*13,none⟩=some (.slice sa (H+n) af)∧w'.cell? ⟨b,129+k*13+4,none⟩=some (.int .u64 (t:Int))) (⟨v0,v4⟩) ?_;refine GI 0 ?_;iterate 11
    refine GS rfl ?_ ?_ ?_;rotate_left
    ·(intro P y;(try dsimp only at y);obtain⟨f0,f4⟩:=y;go_simp)<;>(try with_reducible rfl)
    try simp only[PS]
   refine zo ?_;refine⟨rfl,?_⟩;clear y0 y1 y3 y4 y5 y6 y7 y9;go_upto_region 19 with fail
   go_cut [9] (fun ov P=>ov = .int .u64 (off:Int)∧P=wr.drew)
   case first=>as_aux_lemma =>
    go_wp2_with fail;go_meet;exact⟨rfl,rfl⟩
   case rest =>
   obtain⟨rfl,hw⟩:=hcut;obtain⟨WD,b5⟩:=nn wc;subst b5;subst hw;have Z:=aa.out;have b6:Hid (zhh off l E (DL+1) off bs x.came=x.dataB f):=zb (by
    unfold RS.dataB;rw[ab.out,aF.out,a7.out,HE.out,I.out,G.out,bp.out])
   have bt:Hid (Q.came=x.came):=zb (by rw[←L.out]);have bu:Hid ({ Q with b:=(x.dataB f).1,came:=(x.dataB f).2 }=x.data f):=zb (by
    rw[←L.out];unfold RS.data;rw[HE.out,I.out,G.out,a8.out,a9.out,ba.out])
   have aB:Hid (E≤t):=zb (by rw[←G.out];exact Nat.le_max_right _ _);have b7:off≤E:=by omega
   clear Z aI v0 v4 y2 y8;go_wp2_with fail
   go_loopw [9] (fun lv b8=>∃(lo m:Nat) (p:List UInt8) (s:zaQ) (tag':Nat→Nat×Nat) (V':CV),lv = .int .u64 (lo:Int)∧off≤lo∧lo≤E∧Hid (zt tag i b W1 V { c with rs:=upd c.rs k { Q with b:=p,came:=s } } tag' V' b8∧p.length=t∧s.Ok∧E<lo+m∧zhh off l E m lo p s=x.dataB f)) (fun lv _=>E-(intOf lv).toNat)
   case atStart=>exact⟨off,DL+1,bs,x.came,bj,V1,rfl,Nat.le_refl _,b7,zb ⟨(HR.out.mod0 (Mod.refl NoB wr).drew).same (by rw[←bt.out]),by rw[R.out];exact b4.out,by rw[←HX.out];exact bq.out,by have:=aa.out;omega,b6.out⟩⟩
   case round =>
    obtain⟨lo,m,p,s,cr,V3,rfl,aA,hl2,A⟩:=hrel;have a3:=zb A.out.2.2.2.2;by_cases z:lo<E
    ·have aC:=A.out.1;have a4:OB wr (V3.rb k) p:=by have:=aC.c.rb k hk;simpa only[zf]using this
     obtain⟨sa3,w,aD,bw,bz,ai⟩:=zj a4;rw[A.out.2.1]at aD bw ai;unfold maxLen at bz;have aS:0<t:=by have:=aB.out;omega
     obtain⟨g3,rfl⟩:=ai aS;have v0:=aC.c.r (k:=k) (j:=0) (v:=V3.rb k) hk rfl;rw[aD,Nat.mul_comm 13 k,Nat.add_zero]at v0;have aj:=aC.c.rcameAt hk (by simp only[zf];have:=A.out.2.2.1.rl;have:=A.out.2.2.1.most.2;omega);simp only[zf]at aj;have kg:=ziA s.rs s.fl s.most b (129+13*k+1) lo E (V3.rc k) wr aj (by omega) (fun j hj=>by have:=A.out.2.2.1.hi j hj;unfold zA at this;omega);rw[Nat.mul_comm 13 k]at kg;have b9:=zl3 s.rs (fun r hr=>by
      obtain⟨j,hj,rfl⟩:=List.mem_iff_getElem.1 hr;have h5:=A.out.2.2.1.hi j hj;have e:s.rs.getD j (0,0)=s.rs[j]:=by simp[List.getD,hj]
      unfold hiAt at h5;rw[e]at h5;unfold zA at h5;omega) lo E (by omega)
     have ca:=zgi s.rs lo E;have aE:=zhu s.rs lo E z;have B:=zb (fun n=>zmC off l E n lo p s z);have M:=zb (fun h=>zmD off l E m lo p s z h (by have:=A.out.2.2.2.1;omega));obtain⟨d,bA⟩:=nm ((zaD s.rs lo E).1);obtain⟨u,bB⟩:=nm ((zaD s.rs lo E).2);rw[bA]at b9 aE kg B M;rw[bB]at ca aE kg B;have KG:=zb kg;have bC:=zb aD;have cd:=zb a4;have bD:(lo:Int)<E:=by omega
     clear kg aj aD a4 bA bB aC ai z;by_cases hge:(E:Int)≤d
     ·have ak:Hid ((p,s)=x.dataB f):=zb (by rw[←a3.out,M.out (by omega)]);clear aE;go_wp2_with (go_at_call 91;refine KG.out.mono ?_;rintro _ W3 ⟨rfl,m3⟩;have M3:=zb m3;clear m3);go_ret;have hd:=zhw (c:=c) (f:=f) ac.out ay.out (by rw[HX.out,I.out,HE.out,aP.out,aQ.out];exact be.out);rw[hd];refine⟨rfl,D.out ((A.out.1.mod0 M3.out).same ?_)⟩;rw[HX.out,←bu.out,←ak.out]
     ·obtain⟨hg4,hg5⟩:=aE (by omega);have hm0:0<m:=by have:=A.out.2.2.2.1;omega
      have bE:Hid (zhh off l E (m-1) u (zhg p d ((l.drop (d-off)).take (u-d))) (s.add d (u-1))=x.dataB f):=zb (by
       rw[←B.out (m-1) (by omega),show m-1+1=m by omega];exact a3.out)
      clear B M;go_upto_region 24 with(go_at_call 91;refine KG.out.mono ?_;rintro _ W3 ⟨rfl,m3⟩;have M3:=zb m3;clear m3);have R3:=zb (A.out.1.mod0 M3.out);obtain⟨y0,y1,y2,y3,y4,y5,y6,y7,y8,y9⟩:=(aO.out R3.out).cells;rw[ab.out]at y2;rw[aF.out]at y8;have v3:=M3.out.cell (a:=⟨b,_,none⟩) (fun x=>x) v0;have bF:OB W3.drew (.slice (some ⟨g3,0,none⟩) p.length w) p:=by
       have:=(M3.out.drew).owns cd.out (fun _ _ x=>x);rw[bC.out,←A.out.2.1]at this;exact this
      have al:((l.drop (d-off)).take (u-d)).length=u-d:=by
       rw[List.length_take,List.length_drop,a7.out];have:=aa.out;omega
      obtain⟨W4,am,ao,m4⟩:=zqf (lo:=d) (s:=(l.drop (d-off)).take (u-d)) bF (by rw[al,A.out.2.1];have:=aB.out;omega) (u-d) (w-d) (by rw[al];exact Nat.le_refl _);have s1:(d:Int)≤u:=by omega
      have s2:(u:Int)≤w:=by have:=aB.out;omega
      have s3:¬w=d:=by omega
      have s4:IntKind.u64.wrap ((d:Int)-off)=(d:Int)-off:=by rw[IntKind.wrap_u64];omega
      have s5:IntKind.u64.wrap ((u:Int)-off)=(u:Int)-off:=by rw[IntKind.wrap_u64];omega
      have s6:(d:Int)-off≤(u:Int)-off:=by omega
      have s7:(u:Int)-off≤DL:=by have:=aa.out;omega
      have s8:0≤(d:Int)-off:=by omega
      have s9:off≤d:=by omega
      have s10:off≤u:=by omega
      obtain⟨S,O⟩:=nm ((l.drop (d-off)).take (u-d));have bG:(zq l).extract (d-off) (u-off)=zq S:=by rw[zdG,show u-off-(d-off)=u-d by omega,O]
      rw[O]at am ao al bE;rw[al]at am;have HHS:=zb O;clear O;have ce:=zb am;have cg:=zb ao;have M4:=zb m4;clear am ao m4 bF;refine zB ?_;refine zl 18 (fun w'=>w'.cell? ⟨b,129+k*13,none⟩=some (.slice (some ⟨g3,0,none⟩) t w)∧w'.cell? ⟨fb,2,none⟩=some (.int .u64 (off:Int))∧w'.cell? ⟨fb,8,none⟩=some (.string (zq l))) (⟨v3,y2,y8⟩) ?_;refine GI 0 ?_;iterate 18
       refine GS rfl ?_ ?_ ?_;rotate_left
       ·(intro P y;(try dsimp only at y);obtain⟨f0,f2,f8⟩:=y;go_simp)<;>(try with_reducible rfl)
       try simp only[PS]
      refine zQ rfl (fun K hK=>?_);try rw[bG]
      have am:=ce.out;go_simp;refine hK.out _ _ ?_;clear hK K;try simp only[PS]
      refine zo ?_;refine⟨rfl,?_⟩;obtain⟨cu,V4,r4⟩:=(R3.out.mod0 (Mod.refl NoB W3).drew).rturn hk bC.out (by have:=cg.out;rw[A.out.2.1]at this;exact this) M4.out;have k5:=r4.addRcame hk (by simp only[zf];exact A.out.2.2.1) d (u-1) (by unfold zA;omega) (by unfold zA;omega);have hz:((u-1:Nat):Int)=(u:Int)-1:=by omega
      have w6:IntKind.u64.wrap ((u:Int)-1)=(u:Int)-1:=by rw[IntKind.wrap_u64];omega
      rw[hz,Nat.mul_comm 13 k]at k5;have ci:=zb k5;have ck:=zb al;clear k5 r4 hz bG v0 v3 y0 y1 y2 y3 y4 y5 y6 y7 y8 y9 s1 s2 s3 s4 s5 s6 s7 s8;go_wp2_with fail;refine(ci.out).mono ?_;rintro e W6 ⟨rfl,⟨bH,V6,r6,_⟩,_⟩;have R6:=zb r6;clear r6;go_wp2_with fail;go_roundw
      case rel =>
       refine⟨u,m-1,zhg p d S,s.add d (u-1),bH,V6,rfl,by omega,by omega,zb ⟨R6.out.same ?_,?_,A.out.2.2.1.add _ (by unfold zA;omega),by have:=A.out.2.2.2.1;omega,bE.out⟩⟩
       ·simp only[zf,zgq]
       ·rw[zb0 _ _ _ (by rw[ck.out,A.out.2.1];have:=aB.out;omega)];exact A.out.2.1
      case measure=>simp[intOf];omega
    ·have co:lo=E:=by omega
     have ak:Hid ((p,s)=x.dataB f):=zb (by rw[←a3.out,zoL _ _ _ _ _ _ _ z]);have bD:¬(lo:Int)<E:=by omega
     clear z co;go_wp2_with fail;go_ret;have hd:=zhw (c:=c) (f:=f) ac.out ay.out (by rw[HX.out,I.out,HE.out,aP.out,aQ.out];exact be.out);rw[hd];refine⟨rfl,D.out (A.out.1.same ?_)⟩;rw[HX.out,←bu.out,←ak.out]
structure zqg(c:CS)(f:Frm):Prop where
 most:c.most≤zA
 id:f.id≤zA
 dl:f.dl≤zA
 now:c.now≤zA
 nd:(c.seen.map (·.1)).Nodup
 ids:∀p∈c.seen,p.1≤zA
 len:c.seen.length≤1099511627776
 cm:c.came.length≤1099511627776
def CS.drops(c:CS)(f:Frm):Bool:=(c.seen.any fun p=>p.1==f.id)||decide (f.dl<c.now)||(decide (0<c.seen.length)&&old c.most f.id)
theorem zhx{c:CS}{f:Frm}(h:c.drops f=true):c.message f=c:=by
 unfold CS.message;unfold CS.drops at h;rw[if_pos h]
theorem zhy{c:CS}{f:Frm}(h:c.drops f=false):c.message f={ c with most:=max c.most f.id,seen:=(c.seen++[(f.id,f.dl)]).filter (fun p => !old (max c.most f.id) p.1),came:=c.came++[(f.id,f.data)] }:=by
 unfold CS.message;unfold CS.drops at h;rw[if_neg (by rw[h];simp)]
theorem zmF{x:Nat}(h:x<18446744073709551616):(Lit.int .u64 (x:Int)).wf=true:=by
 show(decide ((0:Int)≤x)&&decide ((x:Int)≤18446744073709551615))=true;rw[decide_eq_true (by omega),decide_eq_true (by omega)];rfl
theorem zjR{x y:Nat}(h:x≠y):(Lit.int .u64 (x:Int))≠(Lit.int .u64 (y:Int)):=fun e=>by
 cases e;exact h (by omega)
theorem zcq:Go.Maps.Keyed Tryz.prog 43:=Go.Maps.int_keyed Tryz.underlying43
theorem zhz{x:Nat}(h:x<18446744073709551616):keyOf Tryz.prog 43 (.int .u64 (x:Int))=some (.int .u64 (x:Int)):=Go.Maps.keyOf_int_mk Tryz.underlying43 (zmF h)
theorem val_of{x:Nat}(h:x<18446744073709551616):plainElem (H:=Unit) Tryz.prog 43 (.int .u64 (x:Int))=some (.lit (.int .u64 (x:Int)),[]):=plainElem_int Tryz.underlying43 (zmF h)
theorem zoN(w:World):(zeroValue 43).run Tryz.prog w = .ok (.int .u64 0) w:=by kernel_rfl
theorem zmG{w:World}{b n:Nat}{D:DataW Unit}(h:w.ownsMap Tryz.prog 43 (plainElem Tryz.prog 43) b n D):w.ownsMap Tryz.prog 43 (plainElem Tryz.prog 43) b (Go.Maps.size D) D:=by
 obtain⟨es,a,h1,h2,h3,rfl⟩:=h;refine⟨es,a,h1,h2,?_,rfl⟩;simp[Go.Maps.size,length_sorted]
theorem zbo.look{w:World}{b:Nat}{l:List (Nat×Nat)}(h:zbo w b l){x:Nat}(a:x<18446744073709551616):∃v,(Instr.lookup 124 (.map (some b)) (.int .u64 (x:Int)) true).run Tryz.prog w = .ok (.tuple #[v,.bool (l.any fun p=>p.1==x)]) w:=by
 obtain⟨D,ho,_,hh⟩:=h;obtain⟨v,ps,c,_⟩:=ho.look_ok zcq Tryz.underlying124 (zoN w) (plainElem_int (H:=Unit) Tryz.underlying43 (zmF (x:=0) (by omega))) (zhz a);rw[hh x a]at c;exact⟨v,c⟩
theorem zbo.len{w:World}{b:Nat}{l:List (Nat×Nat)}(h:zbo w b l)(a:TypeId):(Builtin.len_ #[124] a #[.map (some b)]).run Tryz.prog w = .ok (.int .i64 (l.length:Int)) w:=by
 obtain⟨D,ho,hs,_⟩:=h;have:=ho.len Tryz.underlying124 a;rw[hs]at this;exact this
theorem zbo.put{w:World}{b:Nat}{l:List (Nat×Nat)}(h:zbo w b l){x y:Nat}(a:x<18446744073709551616)(hy:y<18446744073709551616)(hn:l.any (fun p=>p.1==x)=false)(hl:l.length≤1099511627776):∃w',(Instr.mapUpdate 124 (.map (some b)) (.int .u64 (x:Int)) (.int .u64 (y:Int))).run Tryz.prog w = .ok () w'∧zbo w' b (l++[(x,y)])∧Mod (fun q=>q=b) w w':=by
 obtain⟨D,c,hs,f⟩:=h;obtain⟨w',hr,d,hg⟩:=c.update zcq Tryz.underlying124 (by unfold maxLen;omega) (zhz a) (val_of hy);refine⟨w',hr,⟨_,by rw[List.length_append];exact d,?_,fun z hz=>?_⟩,(Mod.refl _ w).grown hg (fun k hk=>.inl (by cases hk;rfl))⟩
 ·rw[Go.Maps.size_put (c.tidy zcq),f x a,hn,List.length_append,hs];rfl
 ·rw[List.any_append];by_cases e:z=x
  ·subst e;rw[Go.Maps.has_put_same c.isMap (zcq.key (zhz a))];simp
  ·rw[Go.Maps.has_put_other (zjR e),f z hz];have:¬x=z:=fun y=>e y.symm
   simp[this]
structure zen(L:List (Nat×Nat))(M:Nat)(left:Lit→Bool)(D:DataW Unit)(del:Nat→Bool):Prop where
 has:∀x:Nat,x<18446744073709551616→Maps.has D (.int .u64 (x:Int))=(L.filter fun p => !del p.1).any fun p=>p.1==x
 sz:Maps.size D=(L.filter fun p => !del p.1).length
 old:∀x,del x=true→old M x=true
 done:∀p∈L,left (.int .u64 (p.1:Int))=false→del p.1=Go.Proofs.YtddfdpbaiedcjaaGreatDoor.old M p.1
theorem zeX(L:List (Nat×Nat))(del:Nat→Bool)(x:Nat):(L.filter fun p => !(del p.1||p.1==x))=(L.filter fun p => !del p.1).filter fun p => !(p.1==x):=by
 rw[List.filter_filter]
 congr 1
 funext p;cases del p.1<;>simp
theorem zfM:∀(L:List (Nat×Nat)) (x:Nat),(L.map (·.1)).Nodup→L.any (fun p=>p.1==x)=true→(L.filter fun p => !(p.1==x)).length+1=L.length
 | [],x,_,h=>by simp at h
 | p::L,x,hn,h=>by
  simp only[List.map_cons,List.nodup_cons]at hn;by_cases e:p.1=x
  ·have a:∀q∈L,¬q.1=x:=fun q b e2=>hn.1 (by rw[e,←e2];exact List.mem_map_of_mem b)
   have:(p::L).filter (fun p => !(p.1==x))=L:=by
    rw[List.filter_cons_of_neg (by simp[e]),List.filter_eq_self];intro q b;simp[a q b]
   rw[this];rfl
  ·have h2:L.any (fun p=>p.1==x)=true:=by simpa [e]using h
   rw[List.filter_cons_of_pos (by simp[e])];simp only[List.length_cons];have:=zfM L x hn.2 h2;omega
theorem zen.start{w:World}{b:Nat}{L:List (Nat×Nat)}{M:Nat}{D:DataW Unit}(d:∀x:Nat,x<18446744073709551616→Maps.has D (.int .u64 (x:Int))=L.any fun p=>p.1==x)(hs:Maps.size D=L.length)(hb:∀p∈L,p.1≤zA):zen L M (Maps.has D) D (fun _=>false):=by
 have e:(L.filter fun _ => !false)=L:=by simp
 refine⟨fun x a=>by rw[e,d x a],by rw[e,hs],fun x a=>by simp at a,fun p f c=>?_⟩;have h1:=hb p f;unfold zA at h1;rw[d p.1 (by omega)]at c;have:L.any (fun q=>q.1==p.1)=true:=List.any_eq_true.2 ⟨p,f,by simp⟩;rw[this]at c;cases c
theorem zen.keep{L:List (Nat×Nat)}{M:Nat}{left:Lit→Bool}{D:DataW Unit}{del:Nat→Bool}(h:zen L M left D del){x:Nat}(hx:x<18446744073709551616)(a:Go.Proofs.YtddfdpbaiedcjaaGreatDoor.old M x=false)(hb:∀p∈L,p.1≤zA):zen L M (fun z=>left z && !z.sameKey (.int .u64 (x:Int))) D del:=by
 refine⟨h.has,h.sz,h.old,fun p hp b=>?_⟩;by_cases e:p.1=x
 ·rw[e,a];cases hd:del x with
  | false=>rfl
  | true =>
   have:=h.old x hd;rw[a]at this;cases this
 ·refine h.done p hp ?_;rw[Go.Maps.sameKey_ne (zjR e)]at b;simpa using b
theorem zen.strike{L:List (Nat×Nat)}{M:Nat}{left:Lit→Bool}{D:DataW Unit}{del:Nat→Bool}(h:zen L M left D del){x:Nat}(g:x<18446744073709551616)(i:Go.Proofs.YtddfdpbaiedcjaaGreatDoor.old M x=true)(hn:(L.map (·.1)).Nodup)(hd:Go.Maps.has D (.int .u64 (x:Int))=true)(ht:Go.Maps.Tidy D):zen L M (fun z=>left z && !z.sameKey (.int .u64 (x:Int))) (D.del (.int .u64 (x:Int))) (fun z=>del z||z==x):=by
 have hk:Go.WideAt.IsKeyLit (.int .u64 (x:Int)):=zcq.key (zhz g);have c:(L.filter fun p => !del p.1).any (fun p=>p.1==x)=true:=by rw[←h.has x g];exact hd
 have f:((L.filter fun p => !del p.1).map (·.1)).Nodup:=hn.sublist (List.filter_sublist.map _);refine⟨fun z a=>?_,?_,fun z a=>?_,fun p b j=>?_⟩
 ·rw[zeX];by_cases e:z=x
  ·subst e;rw[Go.Maps.has_del_same]
   symm
   rw[List.any_eq_false];intro p b;have:=(List.mem_filter.1 b).2;simpa using this
  ·rw[Go.Maps.has_del_other (zjR e),h.has z a];rw[Bool.eq_iff_iff,List.any_eq_true,List.any_eq_true];constructor
   ·rintro⟨p,b,d⟩;refine⟨p,List.mem_filter.2 ⟨b,?_⟩,d⟩;have:p.1=z:=by simpa using d
    simp[this,e]
   ·rintro⟨p,b,d⟩;exact⟨p,(List.mem_filter.1 b).1,d⟩
 ·rw[zeX];have h1:=zfM _ x f c;have h2:=Go.Maps.size_del (k:=.int .u64 (x:Int)) ht;rw[hd]at h2;simp only[if_true]at h2;have h3:=h.sz;omega
 ·rcases Bool.or_eq_true_iff.1 a with a|a
  ·exact h.old z a
  ·have:z=x:=by simpa using a
   rw[this];exact i
 ·by_cases e:p.1=x
  ·simp[e,i]
  ·have:=h.done p b (by rw[Go.Maps.sameKey_ne (zjR e)]at j;simpa using j);simp[e,this]
theorem zen.fin{w:World}{b n:Nat}{L:List (Nat×Nat)}{M:Nat}{left:Lit→Bool}{D:DataW Unit}{del:Nat→Bool}(h:zen L M left D del)(hl:∀kl,left kl=false)(ho:w.ownsMap Tryz.prog 43 (plainElem Tryz.prog 43) b n D):zbo w b (L.filter fun p => !Go.Proofs.YtddfdpbaiedcjaaGreatDoor.old M p.1):=by
 have e:(L.filter fun p => !del p.1)=L.filter fun p => !Go.Proofs.YtddfdpbaiedcjaaGreatDoor.old M p.1:=by
  apply List.filter_congr;intro p hp;rw[h.done p hp (hl _)]
 have h1:=h.has;have h2:=h.sz;rw[e]at h2;refine⟨D,by rw[←h2];exact zmG ho,h2,fun x hx=>?_⟩;rw[h1 x hx,e]
theorem zt.seen{tag:Nat→Nat×Nat}{i b:Nat}{f:World}{g:CV}{c:CS}{tag':Nat→Nat×Nat}{a:CV}{W' W'':World}{l:List (Nat×Nat)}(h:zt tag i b f g c tag' a W')(m:Mod (fun q=>q=a.sn) W' W'')(hs:zbo W'' a.sn l):zt tag i b f g { c with seen:=l } tag' a W'':=by
 have hb:¬b=a.sn:=fun e=>by
  have h1:=h.c.tsn;rw[←e,h.c.tb]at h1;simp at h1
 refine⟨h.c.build (R:=fun r=>r=7) m (fun q d=>⟨7,rfl,by rw[show q=a.sn from d];exact h.c.tsn⟩) (fun _ _=>rfl) (m.obj hb h.c.obj) (.inl ⟨rfl,rfl,rfl,by omega,by omega⟩) (fun k hk=>.inl ⟨rfl,rfl,by omega⟩) (fun k hk=>.inl ⟨rfl,rfl,by omega⟩) (fun k hk=>.inl ⟨rfl,rfl,by omega⟩) (fun k hk=>.inl ⟨rfl,rfl,by omega⟩) (fun k hk=>.inl ⟨rfl,rfl,by omega⟩) (.inl ⟨rfl,rfl,rfl,by omega,by omega⟩) (.inl ⟨rfl,rfl,by omega⟩) (.inr ⟨hs,h.c.tsn⟩) (.inl ⟨rfl,rfl,by omega⟩),⟨h.e.old,h.e.new,h.e.out.mod m⟩,zan h.e h.m (m.mono (fun q d=>.inl (zbk (r:=7) (by rw[show q=a.sn from d];exact h.c.tsn) (by decide)))),h.p,h.ft⟩
theorem zoO:(Tryz.prog.info? 154).map (fun i=>(i.zero,i.size,i.bytes))=some (some (.agg #[.int .u64 0,.string ⟨#[]⟩]),2,24):=by kernel_rfl
theorem zqh(w:World)(v:Value)(l:List (Nat×List UInt8))(id:Nat)(s:List UInt8)(h:w.ownsRow 0 154 2 v l.length (zaa l))(hl:l.length≤1099511627776) :
  ∃v' w',(∀ty,(Builtin.append_ #[125,125] ty #[v,.slice (some ⟨w.heap.size,0,none⟩) 1 1]).run Tryz.prog (w.alloc (.cells #[.int .u64 (id:Int),.string (zq s)] 154)) = .ok v' w')∧w'.ownsRow 0 154 2 v' (l.length+1) (zaa (l++[(id,s)]))∧(w.alloc (.cells #[.int .u64 (id:Int),.string (zq s)] 154)).grownBy w' v.ownBlock∧zaG w v v':=by
 obtain⟨o,d⟩:=nm ((Obj.cells #[.int .u64 (id:Int),.string (zq s)] 154 (0,0)));obtain⟨i,a,hz,b,c⟩:=info_parts zoO;have hc:∀(j:Nat) u,(zaa [(id,s)])[j]?=some u→(w.alloc o).cell? ((⟨w.heap.size,0,none⟩:Addr).add j)=some u:=fun j u hj=>by
  rw[addr_add,←d];refine za (heap_alloc_new w _) ?_;rw[Nat.zero_add,←Array.getElem?_toList];exact hj
 obtain⟨v',w',k1,k2,k3,k4⟩:=zH (P:=Tryz.prog) (w.alloc o) 125 154 i _ 2 24 Tryz.underlying125 a hz b c rfl (by decide) v l.length (zaa l) (((Mod.refl NoB w).alloc o).owns h (fun _ _ x=>x))
  ⟨w.heap.size,0,none⟩ 1 1 (zaa [(id,s)]) rfl hc (by
   intro u f;simp[zaa]at f;rcases f with rfl|rfl<;>rfl) (by unfold maxLen;omega) (by omega)
 have e:zaa (l++[(id,s)])=zaa l++zaa [(id,s)]:=by simp[zaa]
 rw[d,e];refine⟨v',w',k1,k2,k3,fun g hg=>?_⟩;rcases k4 g hg with x|x
 ·exact .inl x
 ·refine .inr ?_;simp at x;omega
theorem zt.cmApp{tag:Nat→Nat×Nat}{i b:Nat}{t:World}{u:CV}{c:CS}{tag':Nat→Nat×Nat}{d:CV}{W' W1 W2:World}{v':Value}{l:List (Nat×List UInt8)}(h:zt tag i b t u c tag' d W')(m0:Mod NoB W' W1)(f:W2.ownsRow 0 154 2 v' l.length (zaa l))(hg:W1.grownBy W2 d.cm.ownBlock)(v:zaG W' d.cm v') :
  (∃tag2 V2,zt tag i b t u { c with came:=l } tag2 V2 (W2.setCell ⟨b,243,none⟩ v'))∧W2.cell? ⟨b,243,none⟩=some d.cm∧W2.frozen? ⟨b,243,none⟩=false:=by
 have w:=h.p;have n:∀{g r:Nat},tag' g=(i,r)→g<W'.heap.size:=fun hg=>zaA h.e.out hg w
 have hb:¬d.cm.ownBlock=some b:=fun e=>by
  have h1:=h.c.tcm b e;rw[h.c.tb]at h1;simp at h1
 have m1:Mod (fun g=>d.cm.ownBlock=some g) W' W2:=(m0.mono (fun _ x=>x.elim)).trans ((Mod.refl _ W1).grown hg (fun g hg=>.inl hg));have o1:=m1.obj hb h.c.obj;have q:Mod (fun g=>d.cm.ownBlock=some g∨g=b) W' (W2.setCell ⟨b,243,none⟩ v'):=(m1.mono (fun g hg=>.inl (.inl hg))).setCell (p:=⟨b,243,none⟩) (.inl (.inr rfl)) _;have hw:Mod (fun g=>g=b) W2 (W2.setCell ⟨b,243,none⟩ v'):=(Mod.refl (fun g=>g=b) _).setCell (p:=⟨b,243,none⟩) (.inl rfl) _;have hbW:b<W'.heap.size:=n h.c.tb;have s:∀g,v'.ownBlock=some g→¬g=b:=fun g hg x=>by
  subst x;rcases v g hg with y|y
  ·exact hb y
  ·omega
 have z:∀g,(d.cm.ownBlock=some g∨g=b)→∃r,(r=1∨r=8)∧tag' g=(i,r):=fun g hg=>by
  rcases hg with hg|hg
  ·exact⟨8,.inr rfl,h.c.tcm g hg⟩
  ·exact⟨1,.inl rfl,by rw[hg,h.c.tb]⟩
 have o:∀g,(tag' g).1=i→retag tag' W' (W2.setCell ⟨b,243,none⟩ v') (i,8) g=tag' g:=fun g hg=>zw (n (r:=(tag' g).2) (by rw[←hg]))
 refine⟨⟨retag tag' W' (W2.setCell ⟨b,243,none⟩ v') (i,8),{ d with cm:=v' },?_,h.e.trans (zbj q.size) h.m.size,zan h.e h.m (q.mono (fun g hg=>.inl ?_)),w,h.ft⟩,m1.cell (a:=⟨b,_,none⟩) hb (h.c.tl (j:=10) rfl),zd o1⟩
 ·refine h.c.build (R:=fun r=>r=1∨r=8) q z o ?_ (.inl ⟨rfl,rfl,rfl,by omega,by omega⟩) (fun k hk=>.inl ⟨rfl,rfl,by omega⟩) (fun k hk=>.inl ⟨rfl,rfl,by omega⟩) (fun k hk=>.inl ⟨rfl,rfl,by omega⟩) (fun k hk=>.inl ⟨rfl,rfl,by omega⟩) (fun k hk=>.inl ⟨rfl,rfl,by omega⟩) (.inl ⟨rfl,rfl,rfl,by omega,by omega⟩) (.inl ⟨rfl,rfl,by omega⟩) (.inl ⟨rfl,rfl,by omega⟩) (.inr ⟨hw.owns f s,fun g hg=>?_⟩)
  ·rw[zc o1,List.setIfInBounds_toArray];rw[show(243:Nat)=233+10 from rfl,zV c { c with came:=l } d { d with cm:=v' } _ rfl rfl rfl rfl]
  ·rcases v g hg with y|y
   ·rw[zw (n (h.c.tcm g y)),h.c.tcm g y]
   ·exact zaj y (by have:=zE f g hg;simpa using this)
 ·obtain⟨r,hr,e⟩:=z g hg;exact zbk e (by omega)
theorem zhA{tag:Nat→Nat×Nat}{i b:Nat}{c:CS}{V:CV}{W:World}(h:zg tag i b c V W)(ht:zP tag W)(hi:0<i)(f:Frm)(rv:Value)(ok:zqg c f)(be:∃a n cap,rv = .slice a n cap) :
  Calls Tryz.prog 160 #[.pointer (some ⟨b,0,none⟩),.agg (zh f rv)] W (zbd tag i b W (.tuple #[]) (c.message f)):=by
 obtain⟨ra,rn,aD,rfl⟩:=be;obtain⟨W1,ak⟩:=nm (W.alloc (.cells (zh f (.slice ra rn aD)) 65));have m1:Mod NoB W W1:=by rw[←ak];exact(Mod.refl _ _).alloc _
 have al:zi W1 W.heap.size f (.slice ra rn aD):=by rw[←ak];exact heap_alloc_new W _
 have am:¬zaf i tag W.heap.size:=fun x=>by
  have h1:=x.1;rw[ht _ (Nat.le_refl _)]at h1;simp at h1;omega
 have h1:=h.mod0 m1;have r0:zt tag i b W1 V c tag V W1:=⟨h1,Ext.same (ht.mod m1) (Mod.refl NoB W1),Mod.refl _ _,hi,⟨rfl,rfl⟩⟩;have az:Hid (∀{c':CS} {tag':Nat→Nat×Nat} {V':CV} {W':World},zt tag i b W1 V c' tag' V' W'→zbc tag i b W c' W'):=zb (fun r =>
  ⟨_,_,r.c,zaT ht m1 r.e,(m1.mono (fun _ x=>x.elim)).then r.m.ofC (fun g hg=>.inl hg)⟩)
 obtain⟨fb,aE⟩:=nm W.heap.size;rw[aE]at al am;have aU:Hid (∀{c':CS} {tag':Nat→Nat×Nat} {V':CV} {W':World},zt tag i b W1 V c' tag' V' W'→zi W' fb f (.slice ra rn aD)):=zb (fun r=>al.mod r.m am);have aV:=zb am;obtain⟨y0,y1,y2,y3,y4,y5,I,y7,y8,y9⟩:=al.cells;obtain⟨t,Q⟩:=nm f.id;obtain⟨G,R⟩:=nm f.dl;obtain⟨S,ao⟩:=nm c.now;obtain⟨z,T⟩:=nm c.most;obtain⟨SN,ap⟩:=nm V.sn;obtain⟨L0,U⟩:=nm c.seen;obtain⟨SL,X⟩:=nm L0.length;obtain⟨hs,aq⟩:=nm ((L0.any fun p=>p.1==t));obtain⟨dr,aF⟩:=nm (c.drops f);have q1:=ok.most;have q2:=ok.id;have q3:=ok.dl;have q4:=ok.now;have q5:=ok.len;rw[T]at q1;rw[Q]at q2;rw[R]at q3;rw[ao]at q4;rw[U,X]at q5;unfold zA at q1 q2 q3 q4;have aW:Hid ((hs||decide (G<S)||(decide (0<SL)&&(decide (32≤z)&&decide (t≤z-32))))=dr):=zb (by
  rw[←aF];unfold CS.drops old;rw[U,Q,R,ao,T,aq,X])
 have ar:zbo W1.drew SN L0:=by rw[←ap,←U];exact(h1.mod0 (Mod.refl NoB W1).drew).sn
 obtain⟨lv,Y⟩:=ar.look (x:=t) (by omega);have s:=(show zbo W1.drew.drew SN L0 from ar).len;rw[aq]at Y;rw[X]at s;have c3:W1.cell? ⟨b,3,none⟩=some (.int .u64 (S:Int)):=by rw[←ao];exact h1.hd (j:=3) rfl
 have C:W1.cell? ⟨b,241,none⟩=some (.map (some SN)):=by rw[←ap];exact h1.tl (j:=8) rfl
 have E:W1.cell? ⟨b,242,none⟩=some (.int .u64 (z:Int)):=by rw[←T];exact h1.tl (j:=9) rfl
 have fz:=h1.fz;rw[Q]at I;rw[R]at y7;have aX:=zb aq;have R0:=zb r0;have aG:=zb Q;have aY:=zb R;have bf:=zb T;have B:=zb ap;have au:=zb U;have bh:=zb X;have HD:=zb aF;have aH:=zb ok;have HSA:=zb ar;have bi:=zb ak;have bj:=zb aE;clear h ht hi h1 r0 m1 al am y0 y1 y2 y3 y4 y5 y9 Q R ao T ap U X aq aF ok ar ak aE;go_enter Tryz.func160,Tryz.ntmps160;go_upto_region 1 with fail;rw[bi.out,bj.out]
 go_cut [5] (fun ov A=>ov = .bool hs∧A=W1.drew)
 case first=>as_aux_lemma =>
  refine zB ?_;refine zl 12 (fun w'=>w'.cell? ⟨b,241,none⟩=some (.map (some SN))∧w'.cell? ⟨fb,6,none⟩=some (.int .u64 (t:Int))∧w'=W1.drew) (⟨C,I,rfl⟩) ?_;refine GI 0 ?_;iterate 12
   refine GS rfl ?_ ?_ ?_;rotate_left
   ·(intro A d;(try dsimp only at d);obtain⟨u,O,rfl⟩:=d;go_simp)<;>(try with_reducible rfl)
   try simp only[PS]
  refine zo ?_;refine⟨rfl,?_⟩;go_wp2_with fail;go_meet;exact⟨rfl,rfl⟩
 case rest =>
 obtain⟨rfl,hw⟩:=hcut;obtain⟨WA,aI⟩:=nn wc;subst aI;subst hw;clear Y;go_upto_region 2 with fail
 go_cut [51] (fun dv A=>dv = .bool dr∧A=W1.drew.drew)
 case first=>as_aux_lemma =>
  have hD:=aW.out;subst hD;by_cases e1:hs=true
  ·subst e1;refine zB ?_;refine zl 35 (fun w'=>w'.cell? ⟨b,241,none⟩=some (.map (some SN))∧w'.cell? ⟨fb,6,none⟩=some (.int .u64 (t:Int))∧w'.cell? ⟨fb,7,none⟩=some (.int .u64 (G:Int))∧w'.cell? ⟨b,3,none⟩=some (.int .u64 (S:Int))∧w'.cell? ⟨b,242,none⟩=some (.int .u64 (z:Int))∧(∀ty,(Builtin.len_ #[124] ty #[.map (some SN)]).run Tryz.prog w' = .ok (.int .i64 (SL:Int)) w')) (⟨C,I,y7,c3,E,s⟩) ?_;refine GI 0 ?_;iterate 2
    refine GS rfl ?_ ?_ ?_;rotate_left
    ·(intro A d;(try dsimp only at d);obtain⟨u,O,Z,f3,f42,fl⟩:=d;go_simp)<;>(try with_reducible rfl)
    try simp only[PS]
   refine GI 2 ?_;iterate 7
    refine GU rfl (fun _ _ _ h=>nomatch h.1) ?_;try simp only[PS]
   refine GI 9 ?_;iterate 2
    refine GS rfl ?_ ?_ ?_;rotate_left
    ·(intro A d;(try dsimp only at d);obtain⟨u,O,Z,f3,f42,fl⟩:=d;go_simp)<;>(try with_reducible rfl)
    try simp only[PS]
   refine GI 11 ?_;iterate 23
    refine GU rfl (fun _ _ _ h=>nomatch h.1) ?_;try simp only[PS]
   refine GI 34 ?_;refine GS rfl ?_ ?_ ?_;rotate_left
   ·(intro A d;(try dsimp only at d);obtain⟨u,O,Z,f3,f42,fl⟩:=d;go_simp)<;>(try with_reducible rfl)
   try simp only[PS]
   refine zo ?_;refine⟨rfl,?_⟩;go_wp2_with fail;go_meet;exact⟨by simp,rfl⟩
  ·have e1:hs=false:=by simpa using e1
   subst e1;by_cases e2:G<S
   ·have aJ:(G:Int)<S:=by omega
    refine zB ?_;refine zl 35 (fun w'=>w'.cell? ⟨b,241,none⟩=some (.map (some SN))∧w'.cell? ⟨fb,6,none⟩=some (.int .u64 (t:Int))∧w'.cell? ⟨fb,7,none⟩=some (.int .u64 (G:Int))∧w'.cell? ⟨b,3,none⟩=some (.int .u64 (S:Int))∧w'.cell? ⟨b,242,none⟩=some (.int .u64 (z:Int))∧(∀ty,(Builtin.len_ #[124] ty #[.map (some SN)]).run Tryz.prog w' = .ok (.int .i64 (SL:Int)) w')) (⟨C,I,y7,c3,E,s⟩) ?_;refine GI 0 ?_;iterate 11
     refine GS rfl ?_ ?_ ?_;rotate_left
     ·(intro A d;(try dsimp only at d);obtain⟨u,O,Z,f3,f42,fl⟩:=d;go_simp)<;>(try with_reducible rfl)
     try simp only[PS]
    refine GI 11 ?_;iterate 23
     refine GU rfl (fun _ _ _ h=>nomatch h.1) ?_;try simp only[PS]
    refine GI 34 ?_;refine GS rfl ?_ ?_ ?_;rotate_left
    ·(intro A d;(try dsimp only at d);obtain⟨u,O,Z,f3,f42,fl⟩:=d;go_simp)<;>(try with_reducible rfl)
    try simp only[PS]
    refine zo ?_;refine⟨rfl,?_⟩;go_wp2_with fail;go_meet;exact⟨by simp[e2],rfl⟩
   ·have aJ:¬(G:Int)<S:=by omega
    by_cases e3:0<SL
    ·have bk:(0:Int)<SL:=by omega
     by_cases e4:32≤z
     ·have bm:(32:Int)≤z:=by omega
      have w4:IntKind.u64.wrap ((z:Int)-32)=(z:Int)-32:=by rw[IntKind.wrap_u64];omega
      by_cases e5:t≤z-32
      ·have bn:(t:Int)≤(z:Int)-32:=by omega
       refine zB ?_;refine zl 35 (fun w'=>w'.cell? ⟨b,241,none⟩=some (.map (some SN))∧w'.cell? ⟨fb,6,none⟩=some (.int .u64 (t:Int))∧w'.cell? ⟨fb,7,none⟩=some (.int .u64 (G:Int))∧w'.cell? ⟨b,3,none⟩=some (.int .u64 (S:Int))∧w'.cell? ⟨b,242,none⟩=some (.int .u64 (z:Int))∧(∀ty,(Builtin.len_ #[124] ty #[.map (some SN)]).run Tryz.prog w' = .ok (.int .i64 (SL:Int)) w')) (⟨C,I,y7,c3,E,s⟩) ?_;refine GI 0 ?_;iterate 35
        refine GS rfl ?_ ?_ ?_;rotate_left
        ·(intro A d;(try dsimp only at d);obtain⟨u,O,Z,f3,f42,fl⟩:=d;go_simp)<;>(try with_reducible rfl)
        try simp only[PS]
       refine zo ?_;refine⟨rfl,?_⟩;go_wp2_with fail;go_meet;exact⟨by simp[e2,e3,e4,e5],rfl⟩
      ·have bn:¬(t:Int)≤(z:Int)-32:=by omega
       refine zB ?_;refine zl 35 (fun w'=>w'.cell? ⟨b,241,none⟩=some (.map (some SN))∧w'.cell? ⟨fb,6,none⟩=some (.int .u64 (t:Int))∧w'.cell? ⟨fb,7,none⟩=some (.int .u64 (G:Int))∧w'.cell? ⟨b,3,none⟩=some (.int .u64 (S:Int))∧w'.cell? ⟨b,242,none⟩=some (.int .u64 (z:Int))∧(∀ty,(Builtin.len_ #[124] ty #[.map (some SN)]).run Tryz.prog w' = .ok (.int .i64 (SL:Int)) w')) (⟨C,I,y7,c3,E,s⟩) ?_;refine GI 0 ?_;iterate 35
        refine GS rfl ?_ ?_ ?_;rotate_left
        ·(intro A d;(try dsimp only at d);obtain⟨u,O,Z,f3,f42,fl⟩:=d;go_simp)<;>(try with_reducible rfl)
        try simp only[PS]
       refine zo ?_;refine⟨rfl,?_⟩;go_wp2_with fail;go_meet;exact⟨by simp[e2,e3,e4,e5],rfl⟩
     ·have bm:¬(32:Int)≤z:=by omega
      refine zB ?_;refine zl 35 (fun w'=>w'.cell? ⟨b,241,none⟩=some (.map (some SN))∧w'.cell? ⟨fb,6,none⟩=some (.int .u64 (t:Int))∧w'.cell? ⟨fb,7,none⟩=some (.int .u64 (G:Int))∧w'.cell? ⟨b,3,none⟩=some (.int .u64 (S:Int))∧w'.cell? ⟨b,242,none⟩=some (.int .u64 (z:Int))∧(∀ty,(Builtin.len_ #[124] ty #[.map (some SN)]).run Tryz.prog w' = .ok (.int .i64 (SL:Int)) w')) (⟨C,I,y7,c3,E,s⟩) ?_;refine GI 0 ?_;iterate 25
       refine GS rfl ?_ ?_ ?_;rotate_left
       ·(intro A d;(try dsimp only at d);obtain⟨u,O,Z,f3,f42,fl⟩:=d;go_simp)<;>(try with_reducible rfl)
       try simp only[PS]
      refine GI 25 ?_;iterate 8
       refine GU rfl (fun _ _ _ h=>nomatch h.1) ?_;try simp only[PS]
      refine GI 33 ?_;iterate 2
       refine GS rfl ?_ ?_ ?_;rotate_left
       ·(intro A d;(try dsimp only at d);obtain⟨u,O,Z,f3,f42,fl⟩:=d;go_simp)<;>(try with_reducible rfl)
       try simp only[PS]
      refine zo ?_;refine⟨rfl,?_⟩;go_wp2_with fail;go_meet;exact⟨by simp[e2,e3,e4],rfl⟩
    ·have bk:¬(0:Int)<SL:=by omega
     refine zB ?_;refine zl 35 (fun w'=>w'.cell? ⟨b,241,none⟩=some (.map (some SN))∧w'.cell? ⟨fb,6,none⟩=some (.int .u64 (t:Int))∧w'.cell? ⟨fb,7,none⟩=some (.int .u64 (G:Int))∧w'.cell? ⟨b,3,none⟩=some (.int .u64 (S:Int))∧w'.cell? ⟨b,242,none⟩=some (.int .u64 (z:Int))∧(∀ty,(Builtin.len_ #[124] ty #[.map (some SN)]).run Tryz.prog w' = .ok (.int .i64 (SL:Int)) w')) (⟨C,I,y7,c3,E,s⟩) ?_;refine GI 0 ?_;iterate 18
      refine GS rfl ?_ ?_ ?_;rotate_left
      ·(intro A d;(try dsimp only at d);obtain⟨u,O,Z,f3,f42,fl⟩:=d;go_simp)<;>(try with_reducible rfl)
      try simp only[PS]
     refine GI 18 ?_;iterate 5
      refine GU rfl (fun _ _ _ h=>nomatch h.1) ?_;try simp only[PS]
     refine GI 23 ?_;iterate 2
      refine GS rfl ?_ ?_ ?_;rotate_left
      ·(intro A d;(try dsimp only at d);obtain⟨u,O,Z,f3,f42,fl⟩:=d;go_simp)<;>(try with_reducible rfl)
      try simp only[PS]
     refine GI 25 ?_;iterate 8
      refine GU rfl (fun _ _ _ h=>nomatch h.1) ?_;try simp only[PS]
     refine GI 33 ?_;iterate 2
      refine GS rfl ?_ ?_ ?_;rotate_left
      ·(intro A d;(try dsimp only at d);obtain⟨u,O,Z,f3,f42,fl⟩:=d;go_simp)<;>(try with_reducible rfl)
      try simp only[PS]
     refine zo ?_;refine⟨rfl,?_⟩;go_wp2_with fail;go_meet;exact⟨by simp[e2,e3],rfl⟩
 case rest =>
 obtain⟨rfl,hw⟩:=hcut;obtain⟨WA,aI⟩:=nn wc;subst aI;subst hw;clear s;cases dr with
 | true =>
  go_wp2_with fail
  first|go_ret|go_end0
  rw[zhx HD.out];exact⟨rfl,az.out (R0.out.mod0 (Mod.refl NoB W1).drew.drew)⟩
 | false =>
 have aa:hs=false:=by
  have:=aW.out;cases hs
  ·rfl
  ·simp at this
 obtain⟨v,aZ⟩:=nm (max z t);have ez:(if z<t then(t:Int)else(z:Int))=(v:Int):=by split<;>omega
 have q6:v≤4611686018427387903:=by omega
 obtain⟨W2,av⟩:=nm (W1.setCell ⟨b,242,none⟩ (.int .u64 (v:Int)));have m2:Mod (fun q=>q=b) W1 W2:=by rw[←av];exact(Mod.refl (fun q=>q=b) W1).setCell (p:=⟨b,_,none⟩) (.inl rfl) _
 have r2:zt tag i b W1 V { c with most:=v } tag V W2:=by
  rw[←av];exact R0.out.store (233+9) _ (zV c { c with most:=v } V V (j:=9) _ rfl rfl rfl rfl) ⟨rfl,fun _ _=>⟨rfl,rfl,rfl⟩,fun _ _=>⟨rfl,rfl⟩,rfl,rfl,rfl,rfl⟩
 have aA:zbo W2.drew.drew.drew.drew SN L0:=by
  have:=(r2.mod0 (Mod.refl NoB W2).drew.drew.drew.drew).c.sn;rw[B.out]at this;rw[←au.out];exact this
 obtain⟨W3,aB,aK,m3⟩:=aA.put (x:=t) (y:=G) (by omega) (by omega) (by rw[aX.out];exact aa) (by rw[bh.out];exact q5);have r3:zt tag i b W1 V { c with most:=v,seen:=L0++[(t,G)] } tag V W3:=by
  have:=(r2.mod0 (Mod.refl NoB W2).drew.drew.drew.drew).seen (W'':=W3) (l:=L0++[(t,G)]) (by rw[B.out];exact m3) (by rw[B.out];exact aK);exact this
 obtain⟨z0,z1,z2,z3,z4,z5,z6,z7,z8,z9⟩:=(aU.out r2).cells;rw[aG.out]at z6;rw[aY.out]at z7;have a0:W2.cell? ⟨b,241,none⟩=some (.map (some SN)):=by rw[←B.out];exact r2.c.tl (j:=8) rfl
 have f42:=fz 242;have bo:=zb aZ;have bp:=zb av;have HU:=zb aB;have R3:=zb r3;have a1:=zb aK;have a2:=zb aa;clear r2 r3 aK aB aZ av aA m2 m3 z0 z1 z2 z3 z4 z5 z8 z9 aa;go_upto_region 3 with fail;refine zB ?_;refine zl 10 (fun w'=>w'.cell? ⟨b,242,none⟩=some (.int .u64 (z:Int))∧w'.frozen? ⟨b,242,none⟩=false∧w'.cell? ⟨fb,6,none⟩=some (.int .u64 (t:Int))) (⟨E,f42,I⟩) ?_;refine GI 0 ?_;iterate 10
  refine GS rfl ?_ ?_ ?_;rotate_left
  ·(intro A d;(try dsimp only at d);obtain⟨f0,f1,f2⟩:=d;go_simp)<;>(try with_reducible rfl)
  try simp only[PS]
 refine zQ rfl (fun K J=>?_);go_simp;try simp only[ez]
 refine J.out _ _ ?_;clear J K;try simp only[PS]
 refine zo ?_;refine⟨rfl,?_⟩;go_upto_region 4 with fail;rw[bp.out];refine zB ?_;refine zl 8 (fun w'=>w'.cell? ⟨b,241,none⟩=some (.map (some SN))∧w'.cell? ⟨fb,6,none⟩=some (.int .u64 (t:Int))∧w'.cell? ⟨fb,7,none⟩=some (.int .u64 (G:Int))) (⟨a0,z6,z7⟩) ?_;refine GI 0 ?_;iterate 8
  refine GS rfl ?_ ?_ ?_;rotate_left
  ·(intro A d;(try dsimp only at d);obtain⟨f0,f1,f2⟩:=d;go_simp)<;>(try with_reducible rfl)
  try simp only[PS]
 refine zQ rfl (fun K J=>?_);have hu:=HU.out;go_simp;refine J.out _ _ ?_;clear J K;try simp only[PS]
 refine zo ?_;refine⟨rfl,?_⟩;obtain⟨L,hL⟩:=nm (L0++[(t,G)]);rw[hL]at R3 a1;obtain⟨N,hN⟩:=nm L.length;obtain⟨D,ho,a3,aC⟩:=a1.out;have aL:∀p∈L,p.1≤zA:=fun p hp=>by
  rw[←hL]at hp;rcases List.mem_append.1 hp with x|x
  ·exact aH.out.ids p (by rw[au.out];exact x)
  ·have:p=(t,G):=by simpa using x
   rw[this];unfold zA;exact q2
 have a4:(L.map (·.1)).Nodup:=by
  rw[←hL,List.map_append,List.nodup_append];refine⟨by rw[←au.out];exact aH.out.nd,by simp,fun a ha b' bq e=>?_⟩;have bt:b'=t:=by simpa using bq
  obtain⟨p,hp,bu⟩:=List.mem_map.1 ha;have h1:=aX.out;rw[a2.out]at h1;have h2:=List.any_eq_false.1 h1 p hp;simp at h2;exact h2 (by rw[bu,e,bt])
 have j0:=zen.start (w:=W3) (b:=SN) (M:=v) aC a3 aL;rw[hN]at ho;have bv:W3.cell? ⟨b,241,none⟩=some (.map (some SN)):=by rw[←B.out];exact R3.out.c.tl (j:=8) rfl
 have J0:=zb j0;have a5:=zb aL;have bw:=zb a4;have bz:=zb hL;have HNE:=zb hN;clear aC a3 aL a4 hL hN j0 c3 C E f42 fz I y7 a0 z6 z7;go_wp2_with (first|(at_range;refine wpList_range_own _ rfl _ 124 rfl 43 43 zcq Tryz.underlying124 _ SN N D rfl ho ?_;intro w0 ab a6 a7)|fail);obtain⟨RB,aM⟩:=nm W3.heap.size;rw[aM]at ab a7 ⊢;have m0:Mod (fun q=>q=SN) W3 w0:=(Mod.refl _ W3).grown a6 (fun k hk=>by cases hk);have aN:=zb aM;clear ho a6 a7 aM bv
 go_frame
 go_loopw [] (fun wr=>∃(left:Lit→Bool) (a8:Nat) (D:DataW Unit) (del:Nat→Bool),wr.ranges (H:=Unit) Tryz.prog 43 (plainElem Tryz.prog 43) SN RB N D left a8∧Hid (zen L v left D del∧Mod (fun q=>q=SN) W3 wr)) (fun wr=>wr.rangeLeft SN RB)
 case atStart=>exact⟨_,_,D,_,ab,zb ⟨J0.out,m0⟩⟩
 case round =>
  clear ab m0 J0;obtain⟨left,a8,D1,del,ac,HJ⟩:=hrel;have a9:¬b=SN:=fun e=>by
   have h1:=R3.out.c.tsn;rw[B.out,←e,R3.out.c.tb]at h1;simp at h1
  go_wp2_with (first|(at_next;refine wpList_next_ranges_ii _ rfl _ rfl 43 43 .u64 .u64 zcq Tryz.underlying43 Tryz.underlying43 SN RB N _ _ _ rfl ac ?_ ?_)|fail)
  ·intro bA ba;have bb:=HJ.out.1.fin ba ac.owns;have r5:=R3.out.seen (by rw[B.out];exact HJ.out.2) (by rw[B.out];exact bb);have bB:Hid (({ ({ c with most:=v,seen:=L }:CS)with seen:=L.filter fun p => !Go.Proofs.YtddfdpbaiedcjaaGreatDoor.old v p.1 }:CS)={ c with most:=v,seen:=L.filter fun p => !Go.Proofs.YtddfdpbaiedcjaaGreatDoor.old v p.1 }):=zb rfl;rw[bB.out]at r5;obtain⟨ca,cc,ad,bC,bD,_⟩:=zj r5.c.cm;obtain⟨CL,ae⟩:=nm c.came.length;have q7:=aH.out.cm;rw[ae]at q7;have ad:V.cm = .slice ca CL cc:=by rw[ad];simp only[ae]
   obtain⟨DT,aO⟩:=nm f.data;obtain⟨v',W6,happ,aw,aP,bc⟩:=zqh wr.drew V.cm c.came t DT (by exact r5.c.cm) (by rw[ae];exact q7);have m5:Mod NoB wr (wr.drew.alloc (.cells #[.int .u64 (t:Int),.string (zq DT)] 154)):=((Mod.refl NoB wr).drew).alloc _;have af:(c.came++[(t,DT)]).length=c.came.length+1:=by simp
   rw[←af]at aw;obtain⟨⟨bJ,V6,r6⟩,x6,O⟩:=r5.cmApp m5 aw aP bc;obtain⟨va,vc,rfl,_⟩:=zj aw;rw[af,ae]at happ r6;rw[ad]at happ x6;obtain⟨y0,y1,y2,y3,y4,y5,I,y7,y8,y9⟩:=(aU.out r5).cells;rw[aG.out]at I;rw[aO]at y8;have bd:wr.cell? ⟨b,243,none⟩=some (.slice ca CL cc):=by rw[←ad];exact r5.c.tl (j:=10) rfl
   have m6:Mod (fun g=>V.cm.ownBlock=some g) wr W6:=(m5.mono (fun _ x=>x.elim)).trans ((Mod.refl _ _).grown aP (fun g hg=>.inl hg));have ah:¬V.cm.ownBlock=some fb:=fun e=>by
    have h1:=r5.c.tcm fb e;exact aV.out (zbk h1 (by decide))
   have p6:=m6.cell (a:=⟨fb,6,none⟩) ah I;have p8:=m6.cell (a:=⟨fb,8,none⟩) ah y8;have HA:=zb happ;have R6:=zb r6;have bE:=zb aO;have bF:=fun o=>(show(wr.drew.alloc o).cell? ⟨b,243,none⟩=some (.slice ca CL cc)∧(wr.drew.alloc o).cell? ⟨fb,6,none⟩=some (.int .u64 (t:Int))∧(wr.drew.alloc o).cell? ⟨fb,8,none⟩=some (.string (zq DT))from
    have m:=((Mod.refl NoB wr).drew).alloc o
    ⟨m.cell (a:=⟨b,_,none⟩) (fun x=>x) bd,m.cell (a:=⟨fb,_,none⟩) (fun x=>x) I,m.cell (a:=⟨fb,_,none⟩) (fun x=>x) y8⟩)
   clear ac ba bA bb r5 bC bD ae q7 ad aw aP bc m5 af r6 happ aO m6 ah y0 y1 y2 y3 y4 y5 y7 y9;go_upto_region 10 with fail;refine zB ?_;refine zl 14 (fun w'=>w'.cell? ⟨b,243,none⟩=some (.slice ca CL cc)∧w'.cell? ⟨fb,6,none⟩=some (.int .u64 (t:Int))∧w'.cell? ⟨fb,8,none⟩=some (.string (zq DT))) (⟨bd,I,y8⟩) ?_;refine GI 0 ?_;iterate 10
    refine GS rfl ?_ ?_ ?_;rotate_left
    ·(intro A d;(try dsimp only at d);obtain⟨f0,f1,f2⟩:=d;go_simp)<;>(try with_reducible rfl)
    try simp only[PS]
   refine zx 10 rfl (fun K J=>?_);go_simp;refine J.out _ _ (bF _) ?_;clear J K;try simp only[PS]
   refine zx 11 rfl (fun K J=>?_);refine zF rfl _ _ _ _ rfl _ _ _ rfl rfl HA.out ?_;refine J.out _ _ ⟨x6,p6,p8⟩ ?_;clear J K;try simp only[PS]
   refine GI 12 ?_;iterate 2
    refine GS rfl ?_ ?_ ?_;rotate_left
    ·(intro A d;(try dsimp only at d);obtain⟨f0,f1,f2⟩:=d;go_simp)<;>(try with_reducible rfl)
    try simp only[PS]
   refine zQ rfl (fun K J=>?_);go_simp;refine J.out _ _ ?_;clear J K;try simp only[PS]
   refine zo ?_;refine⟨rfl,?_⟩;go_wp2_with fail
   first|go_ret|go_end0
   rw[zhy HD.out,bf.out,aG.out,bo.out,au.out,aY.out,bz.out,bE.out];exact⟨rfl,az.out R6.out⟩
  ·intro x cv w1 bK aQ hwc hlx bG F hlt aR hs1 hen;obtain⟨P,rfl,ax⟩:∃P:Nat,x=(P:Int)∧P<18446744073709551616:=by
    have aQ:(decide ((0:Int)≤x)&&decide (x≤18446744073709551615))=true:=aQ;simp only[Bool.and_eq_true,decide_eq_true_eq]at aQ;exact⟨x.toNat,by omega,by omega⟩
   have bL:w1.cell? ⟨b,242,none⟩=some (.int .u64 (v:Int)):=by
    have h1:=HJ.out.2.cell (a:=⟨b,242,none⟩) a9 (R3.out.c.tl (j:=9) rfl);have h2:Mod (fun q=>q=RB) wr w1:=(Mod.refl _ wr).grown aR (fun k hk=>.inl (by cases hk;rfl));exact h2.cell (a:=⟨b,242,none⟩) (by
     show ¬b=RB;have h3:=zk (R3.out.c.tl (j:=9) rfl);have h4:=aN.out;omega) h1
   have bM:w1.cell? ⟨b,241,none⟩=some (.map (some SN)):=by
    have h1:=HJ.out.2.cell (a:=⟨b,241,none⟩) a9 (R3.out.c.tl (j:=8) rfl);rw[B.out]at h1;have h2:Mod (fun q=>q=RB) wr w1:=(Mod.refl _ wr).grown aR (fun k hk=>.inl (by cases hk;rfl));exact h2.cell (a:=⟨b,241,none⟩) (by
     show ¬b=RB;have h3:=zk (R3.out.c.tl (j:=9) rfl);have h4:=aN.out;omega) h1
   have mw:Mod (fun q=>q=SN) W3 w1:=HJ.out.2.then ((Mod.refl (fun q=>q=RB) wr).grown aR (fun k hk=>.inl (by cases hk;rfl))) (fun q hq=>.inr (by
    have h4:=aN.out;have:q=RB:=hq;omega))
   have ay:Maps.has D1 (.int .u64 (P:Int))=true:=Maps.has_true_of_atKey bG;have MW:=zb mw;have bH:=zb ay;have aS:=ac.left_eq;by_cases e1:32≤v
   ·have bI:(32:Int)≤v:=by omega
    have w4:IntKind.u64.wrap ((v:Int)-32)=(v:Int)-32:=by rw[IntKind.wrap_u64];omega
    by_cases e2:P≤v-32
    ·have aJ:(P:Int)≤(v:Int)-32:=by omega
     have ai:Hid (Go.Proofs.YtddfdpbaiedcjaaGreatDoor.old v P=true):=zb (by unfold Go.Proofs.YtddfdpbaiedcjaaGreatDoor.old;simp[e1,e2]);clear mw ay e2 e1;go_wp2_with (first|(at_delete;refine wpList_delete_ranges _ rfl _ _ 124 43 rfl 43 zcq Tryz.underlying124 _ SN RB N _ _ _ rfl F (.int .u64 (P:Int)) (.int .u64 (P:Int)) rfl (zhz ax) ?_;intro w2 bN aj bO aT)|fail);rw[Maps.strike_twice]at aj
     go_frame
     go_roundw
     case rel=>exact⟨_,_,_,_,aj,zb ⟨HJ.out.1.strike ax ai.out bw.out bH.out (ac.owns.tidy zcq),MW.out.trans ((Mod.refl _ w1).grown aT.grown (fun k hk=>.inl (by cases hk;rfl)))⟩⟩
     case measure=>rw[aj.left_eq,aS];omega
    ·have aJ:¬(P:Int)≤(v:Int)-32:=by omega
     have ai:Hid (Go.Proofs.YtddfdpbaiedcjaaGreatDoor.old v P=false):=zb (by unfold Go.Proofs.YtddfdpbaiedcjaaGreatDoor.old;simp[e2]);clear mw ay e2 e1;go_wp2_with fail;go_roundw
     case rel=>exact⟨_,_,_,_,F,zb ⟨HJ.out.1.keep ax ai.out a5.out,MW.out⟩⟩
     case measure=>rw[F.left_eq,aS];omega
   ·have bI:¬(32:Int)≤v:=by omega
    have ai:Hid (Go.Proofs.YtddfdpbaiedcjaaGreatDoor.old v P=false):=zb (by unfold Go.Proofs.YtddfdpbaiedcjaaGreatDoor.old;simp[e1]);clear mw ay e1;go_wp2_with fail;go_roundw
    case rel=>exact⟨_,_,_,_,F,zb ⟨HJ.out.1.keep ax ai.out a5.out,MW.out⟩⟩
    case measure=>rw[F.left_eq,aS];omega
end Go.Proofs.YtddfdpbaiedcjaaGreatDoor
