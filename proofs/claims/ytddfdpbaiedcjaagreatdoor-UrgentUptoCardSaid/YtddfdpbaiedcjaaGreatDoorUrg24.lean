/- A part of Urgent's proof. Conditions: none. Part 24 of 32. -/
import Derived.Test.YtddfdpbaiedcjaaGreatDoorUrg16
set_option maxRecDepth 100000
set_option maxHeartbeats 16000000
set_option linter.all false
namespace Go.Proofs.YtddfdpbaiedcjaaGreatDoor
open Go.RowKit
def zdi(b o:Nat)(w:World):Nat:=match w.cell? ⟨b,o,none⟩with|some (.slice _ n _)=>n|_=>0
def zmW:Value→Nat|.slice _ n _=>n|_=>0
theorem zg.flLen{tag:Nat→Nat×Nat}{i b:Nat}{c:CS}{V:CV}{W:World}(h:zg tag i b c V W):zdi b 236 W=c.flight.length:=by
 obtain⟨a,cap,e,_⟩:=zj h.ft;have c0:W.cell? ⟨b,236,none⟩=some V.ft:=h.tl (j:=3) rfl;unfold zdi;rw[c0,e]
theorem RRT.form{tag:Nat→Nat×Nat}{t:Nat×Nat}{W:World}{v:Value}{l:zD}(h:RRT tag t W v l):∃a cap,v = .slice a l.length cap:=by
 obtain⟨a,cap,e,_⟩:=h.1;exact⟨a,cap,e⟩
def zia(i:Nat)(tag:Nat→Nat×Nat):Prop:=∀g r,90≤r→tag g≠(i,r)
def zmX(tag:Nat→Nat×Nat)(i b:Nat)(c:World)(a:List (List UInt8))(c':CS)(e:Ending)(W':World):Prop :=
 ∃v vs tag' V',e = .returned v∧zg tag' i b c' V' W'∧Ext i tag tag' c W'∧Mod (zaf i tag) c W'∧zcU tag' c W' v vs a∧zia i tag'
def undr(i:Nat)(tag:Nat→Nat×Nat):Nat→Nat×Nat:=fun g=>if (tag g).1=i∧90≤(tag g).2 then(0,0)else tag g
theorem zqs{i:Nat}{tag:Nat→Nat×Nat}(hi:0<i):zia i (undr i tag):=by
 intro g r hr h;unfold undr at h;split at h
 ·simp at h;omega
 ·rename_i hn;rw[h]at hn;exact hn ⟨rfl,hr⟩
theorem zo1{i:Nat}{tag:Nat→Nat×Nat}{g r:Nat}(hr:r<90)(h:tag g=(i,r)):undr i tag g=(i,r):=by
 unfold undr;rw[if_neg (by rw[h];simp;omega),h]
theorem zhI{i:Nat}{tag:Nat→Nat×Nat}{g:Nat}(h:tag g=(0,0)):undr i tag g=(0,0):=by
 unfold undr;split
 ·rfl
 ·exact h
theorem Ext.undr{i:Nat}{tag tag':Nat→Nat×Nat}{W W':World}(e:Ext i tag tag' W W')(nd:zia i tag):Ext i tag (Go.Proofs.YtddfdpbaiedcjaaGreatDoor.undr i tag') W W':=by
 refine⟨fun g hg=>?_,fun g hg=>?_,fun g hg=>zhI (e.out g hg)⟩
 ·have h1:=e.old g hg;unfold Go.Proofs.YtddfdpbaiedcjaaGreatDoor.undr;rw[if_neg,h1];rintro⟨x,y⟩;rw[h1]at x y;exact nd g (tag g).2 y (by rw[←x])
 ·unfold Go.Proofs.YtddfdpbaiedcjaaGreatDoor.undr;split
  ·exact .inr rfl
  ·exact e.new g hg
theorem zgF.post{tag:Nat→Nat×Nat}{i b:Nat}{f:World}{c:CS}{told:zD}{a:List (List UInt8)}{tag':Nat→Nat×Nat}{V:CV}{j:List Value}{d tv:Value}{W:World}(h:zgF tag i b f c told a tag' V j d tv W)(nd:zia i tag):zmX tag i b f a c (.returned d) W :=
 ⟨d,j,undr i tag',V,rfl,h.c.retag (fun g r hr hg=>zo1 hr hg),h.e.undr nd,h.m,h.o.mod (Mod.refl NoB W) (fun _ x=>x.elim) (fun _ _ x=>zhI x),zqs h.p⟩
theorem zb4.post{tag:Nat→Nat×Nat}{i b db:Nat}{f:World}{c:CS}{d:Drf}{told:zD}{a:List (List UInt8)}{tag':Nat→Nat×Nat}{V:CV}{bv fv:Value}{l:List (Frm×Value)}{vs:List Value}{g tv:Value}{W:World}(h:zb4 tag i b db f c d told a tag' V bv fv l vs g tv W)(nd:zia i tag):zmX tag i b f a c (.returned g) W :=
 zgF.post ⟨h.s.c,h.s.e,h.s.m,h.o,h.t,h.s.p⟩ nd
theorem zaf.i_{i:Nat}{tag:Nat→Nat×Nat}{g:Nat}(h:zaf i tag g):(tag g).1=i:=h.1
theorem zgF.env{tag:Nat→Nat×Nat}{i b:Nat}{d:World}{c:CS}{told:zD}{a:List (List UInt8)}{tag':Nat→Nat×Nat}{V:CV}{vs:List Value}{ov tv:Value}{W:World}(h:zgF tag i b d c told a tag' V vs ov tv W)(E:Env i tag d):Env i tag' W:=E.left h.e (h.m.mono (fun g hg=>.inl hg.i_))
theorem zb4.env{tag:Nat→Nat×Nat}{i b db:Nat}{f:World}{c:CS}{d:Drf}{told:zD}{a:List (List UInt8)}{tag':Nat→Nat×Nat}{V:CV}{bv fv:Value}{l:List (Frm×Value)}{vs:List Value}{ov tv:Value}{W:World}(h:zb4 tag i b db f c d told a tag' V bv fv l vs ov tv W)(E:Env i tag f):Env i tag' W:=E.left h.s.e (h.s.m.mono (fun g hg=>.inl hg.i_))
theorem zi9{tag:Nat→Nat×Nat}{i b:Nat}{c:CS}{V:CV}{W:World}(h:zg tag i b c V W)(E:Env i tag W)(nd:zia i tag)(h0:c.closed=0)(ok:zmj c.acks.2 c.acks.1)(hg:c.got.Ok) :
  Calls Tryz.prog 50 #[.pointer (some ⟨b,0,none⟩)] W (zmX tag i b W c.packets.1 c.packets.2):=by
 have c4:W.cell? ⟨b,4,none⟩=some (.int .i64 (c.closed:Int)):=h.hd (j:=4) rfl;rw[h0]at c4;have ka:=zou h E hg;have EE:=zb E;have ND:=zb nd;have OK:=zb ok;obtain⟨R,hR⟩:=nm c.packets;have HR:=zb hR;rw[hR];obtain⟨T0,al⟩:=nm c.acks.1;obtain⟨C0,Y⟩:=nm c.acks.2;have I:Hid (CS.pkts (12-c.flight.length+T0.length+1) C0 T0=R∧zmj C0 T0∧ziK C0 T0<12-c.flight.length+T0.length+1):=by
  refine⟨?_,?_,?_⟩
  ·rw[←hR,CS.packets,al,Y]
  ·rw[←al,←Y];exact ok
  ·have:C0.flight=c.flight:=by
    rw[←Y];unfold CS.acks;split<;>rfl
   unfold ziK;rw[this];omega
 rw[al,Y]at ka;have KA:=zb ka;clear h E nd ok hg h0 hR al Y ka;go_enter Tryz.func50,Tryz.ntmps50;go_wp2_with (go_at_call 82;refine KA.out.mono ?_;rintro e W1 ⟨v,aC,V1,rfl,aZ,a0,a1,a2⟩;have H1:Hid (zgF tag i b W C0 T0 [] aC V1 [] (.slice none 0 0) v W1):=zb ⟨a0,a1,a2,zcU.nil _ _ _,aZ,EE.out.pos⟩;clear aZ a0 a1 a2);clear c4 KA
 go_loopw [3,4] (fun ov tv wr=>∃(n:Nat) (c':CS) (told:zD) (f:List (List UInt8)) (tag':Nat→Nat×Nat) (V':CV) (z:List Value),Hid (zgF tag i b W c' told f tag' V' z ov tv wr)∧Hid (zmj c' told∧ziK c' told<n∧f++(CS.pkts n c' told).1=R.1∧(CS.pkts n c' told).2=R.2)∧Hid (f.length+n≤2097152)) (fun _ tv wr=>(12-zdi b 236 wr)+zmW tv)
 case atStart=>exact⟨_,C0,T0,[],aC,V1,[],H1,zb ⟨I.out.2.1,I.out.2.2,by rw[I.out.1];rfl,by rw[I.out.1]⟩,zb (by have:=I.out.2.1.len;show 0+_≤_;omega)⟩
 case round =>
  clear H1 I;obtain⟨n,c',told,f,tag',V',z,HH,y,a3⟩:=hrel;have c6:wr.cell? ⟨b,6,none⟩=some (.int .u64 (c'.next:Int)):=HH.out.c.hd (j:=6) rfl;have c0:wr.cell? ⟨b,0,none⟩=some (.int .i64 (c'.mtu:Int)):=HH.out.c.hd (j:=0) rfl;obtain⟨ta,tc,bo⟩:=HH.out.t.form;have aG:Hid ((12-zdi b 236 wr)+told.length=ziK c' told):=by
   show _=_;rw[HH.out.c.flLen];rfl
  have a4:c'.next<4611686018427387904:=by have:=y.out.1.next;unfold zA at this;omega
  have kv:=zY (.slice none 0 0) [] c'.next wr.drew (World.ownsRow_nil _ 0 _ 1) (Nat.zero_le _) a4;have KV:=zb kv;obtain⟨nx,Z⟩:=nm c'.next;obtain⟨mt,aH⟩:=nm c'.mtu;rw[Z]at c6 KV;rw[aH]at c0;have a5:=zb Z;have bp:=zb aH;clear kv a4 Z aH;subst bo;go_upto_region 5 with fail;refine zl 13 (fun w'=>w'.cell? ⟨b,6,none⟩=some (.int .u64 (nx:Int))∧w'.cell? ⟨b,0,none⟩=some (.int .i64 (mt:Int))) (⟨c6,c0⟩) ?_;refine GI 0 ?_;iterate 4
   refine GS rfl ?_ ?_ ?_;rotate_left
   ·(intro S q;(try dsimp only at q);obtain⟨f6,f0⟩:=q;go_simp)<;>(try with_reducible rfl)
   try simp only[PS]
  refine GI 5 ?_;iterate 5
   refine GS rfl ?_ ?_ ?_;rotate_left
   ·(intro S q;(try dsimp only at q);obtain⟨f6,f0⟩:=q;go_simp)<;>(try with_reducible rfl)
   try simp only[PS]
  refine zx 4 rfl (fun K F=>?_);go_simp;refine KV.out.mono ?_;rintro e W2 ⟨bv,rfl,A⟩;obtain⟨am,ao,a6,_⟩:=zj A.own;rw[List.nil_append]at a6;subst a6;have m2:Mod NoB wr W2:=((Mod.refl NoB wr).drew).trans ((Mod.refl NoB wr.drew).grown A.grown (fun g hg=>by simp[Value.ownBlock]at hg));have AP:=zb A;have aq:=zb (show W2.cell? ⟨b,6,none⟩=some (.int .u64 (nx:Int))∧W2.cell? ⟨b,0,none⟩=some (.int .i64 (mt:Int))from⟨m2.cell (a:=⟨b,6,none⟩) (fun x=>x) c6,m2.cell (a:=⟨b,0,none⟩) (fun x=>x) c0⟩);refine F.out _ _ aq.out ?_;clear A m2;clear F K;try simp only[PS]
  refine zby (i:=10) (v:=.agg #[.slice am (zL nx).length ao,.slice none 0 0,.int .i64 (mt:Int),.bool false,.bool false]) rfl (by kernel_rfl) (fun _ _ _ h=>h) (Or.inl ⟨by rfl,?_⟩) ?_
  ·(intro S q;(try dsimp only at q);go_simp)<;>(try with_reducible rfl)
  try simp only[PS]
  refine zx 11 rfl (fun K F=>?_);go_simp;have bq:=fun o=>(show(W2.alloc o).cell? ⟨b,6,none⟩=some (.int .u64 (nx:Int))∧(W2.alloc o).cell? ⟨b,0,none⟩=some (.int .i64 (mt:Int))from⟨((Mod.refl NoB W2).alloc o).cell (a:=⟨b,6,none⟩) (fun x=>x) aq.out.1,((Mod.refl NoB W2).alloc o).cell (a:=⟨b,0,none⟩) (fun x=>x) aq.out.2⟩)
  refine F.out _ _ (bq _) ?_;clear F K;try simp only[PS]
  refine GI 12 ?_;refine GS rfl ?_ ?_ ?_;rotate_left
  ·(intro S q;(try dsimp only at q);obtain⟨f6,f0⟩:=q;go_simp)<;>(try with_reducible rfl)
  try simp only[PS]
  refine zo ?_;obtain⟨W3,aI⟩:=nm (W2.alloc (.cells #[.slice am (zL nx).length ao,.slice none 0 0,.int .i64 (mt:Int),.bool false,.bool false] 180));obtain⟨db,aJ⟩:=nm W2.heap.size;obtain⟨aa,HM⟩:∃aa,Hid (zb4 tag i b db W c' c'.pkDraft told f aa V' (.slice am (zL nx).length ao) (.slice none 0 0) [] z u3 (.slice ta told.length tc) W3):=by
   have A:=AP.out;rw[←a5.out]at A;obtain⟨t1,h1⟩:=HH.out.draft ((Mod.refl NoB wr).drew) A;rw[a5.out,bp.out,aI,aJ]at h1;exact⟨t1,h1⟩
  try rw[aI]
  try rw[aJ]
  obtain⟨T,aK⟩:=nm ((zz c'.pkDraft told).1);obtain⟨G,aL⟩:=nm ((zz c'.pkDraft told).2);have ab:=y.out.1.round;rw[aK,aL]at ab;have H:=zb ab;have ac:=zb (And.intro aK aL);have bt:=ziL (zcl y.out.1.ok) told;have kt:=fun h1=>zov HM.out.s.c HM.out.s.d (HM.out.env EE.out) HM.out.t h1 y.out.1.desc.tell y.out.1.len (by have:=(zcl y.out.1.ok).b;omega) (by have:=(zcl y.out.1.ok).fs;have:=(zcl y.out.1.ok).b;omega) (by have:=(zcl y.out.1.ok).room;omega)
  have KT:=zb kt;obtain⟨N,hN⟩:=nm told.length;rw[hN]at KT HM ⊢;have a7:=zb hN;clear aK aL ab bt kt hN aI aJ aq AP HH c6 c0 KV;go_upto_if 29 with fail
  go_cut [4] (fun t2 S=>∃(tag2:Nat→Nat×Nat) (V2:CV) (ar au:Value) (l2:List (Frm×Value)),Hid (zb4 tag i b db W c' T G f tag2 V2 ar au l2 z u3 t2 S))
  case first =>
   by_cases J:told=[]
   ·have bu:N=0:=by rw[←a7.out,J];rfl
    subst bu;have U:Hid (zb4 tag i b db W c' T G f aa V' (.slice am (zL nx).length ao) (.slice none 0 0) [] z u3 (.slice ta 0 tc) W3):=by
     have e:zz c'.pkDraft told=(c'.pkDraft,told):=by unfold zz;rw[if_pos J]
     have e1:=ac.out.1;have e2:=ac.out.2;rw[e]at e1 e2;rw[←e1,←e2];exact HM
    clear J KT HM;go_wp2_with fail;go_meet;exact⟨_,_,_,_,_,U⟩
   ·have d1:(0:Int)<N:=by
     have:=List.length_pos_iff.2 J;have:=a7.out;omega
    have hd:(zem c'.pkDraft told).1=T∧(zem c'.pkDraft told).2=G:=by
     have e:zz c'.pkDraft told=zem c'.pkDraft told:=by unfold zz;rw[if_neg J]
     rw[←e];exact ac.out
    have k2:=KT.out (by omega);rw[hd.1,hd.2]at k2;have K2:=zb k2;clear J KT hd k2;go_wp2_with (go_at_call 84;refine K2.out.mono ?_;intro e W4 hp;obtain⟨v,tag2,V2,ar,au,l2,rfl,h2⟩:=HM.out.tell hp;have U:=zb h2;clear hp h2);go_meet;exact⟨_,_,_,_,_,U⟩
  case rest =>
  obtain⟨tag2,V2,ar,au,l2,U⟩:=hcut;clear HM KT;have a8:wc.cell? ⟨b,236,none⟩=some V2.ft:=U.out.s.c.tl (j:=3) rfl;obtain⟨fa,fc,a9,_⟩:=zj U.out.s.c.ft;rw[a9]at a8;obtain⟨FL,aM⟩:=nm c'.flight.length;rw[aM]at a8;have ba:=zb aM;obtain⟨k,aN⟩:=nm ((c'.pkFill T).1);obtain⟨l,aO⟩:=nm ((c'.pkFill T).2);have L:=zb (And.intro aN aO);have aP:=H.out;rw[aN,aO]at aP;have bb:=zb aP;clear aP;have kf:=zox U.out.s.c U.out.s.d (U.out.env EE.out) y.out.1.ok H.out.1;have KF:=zb kf;clear a9 aM aN aO kf;go_upto_if 39 with fail
  go_cut [] (fun S=>∃(ad:Nat→Nat×Nat) (X:CV) (w M:Value) (l3:List (Frm×Value)),Hid (zb4 tag i b db W k l G f ad X w M l3 z u3 u4 S))
  case first =>
   by_cases av:FL<12
   ·have d1:(FL:Int)<12:=by omega
    have e:c'.pkFill T=c'.fill T:=by unfold CS.pkFill;rw[if_pos (by rw[ba.out];exact av)]
    have C:(c'.fill T).1=k∧(c'.fill T).2=l:=by rw[←e];exact L.out
    have k2:=KF.out;rw[C.1,C.2]at k2;have K2:=zb k2;clear av KF e C k2;go_wp2_with (go_at_call 85;refine K2.out.mono ?_;intro e W4 hp;obtain⟨rfl,ad,X,w,M,l3,h3⟩:=U.out.fill hp;have B:=zb h3;clear hp h3);go_meet;exact⟨_,_,_,_,_,B⟩
   ·have d1:¬(FL:Int)<12:=by omega
    have e:c'.pkFill T=(c',T):=by unfold CS.pkFill;rw[if_neg (by rw[ba.out];exact av)]
    have C:c'=k∧T=l:=by
     have:=L.out;rw[e]at this;exact this
    have B:Hid (zb4 tag i b db W k l G f tag2 V2 ar au l2 z u3 u4 wc):=by
     rw[←C.1,←C.2];exact U
    clear av KF e C;go_wp2_with fail;go_meet;exact⟨_,_,_,_,_,B⟩
  case rest =>
  obtain⟨ad,X,w,M,l3,B⟩:=hcut;clear U KF;have o3:=B.out.s.d.obj;obtain⟨fa3,fc3,ae,_⟩:=zj B.out.s.d.own;have bc:l3.length=l.fs.length:=by rw[←B.out.s.d.lf,List.length_map]
  rw[bc]at ae;obtain⟨ba3,bc3,aD,_⟩:=zj B.out.s.d.ob;have e0:wc.cell? ⟨db,0,none⟩=some w:=za o3 rfl;have e1:wc.cell? ⟨db,1,none⟩=some M:=za o3 rfl;rw[ae]at e1;obtain⟨NF,aQ⟩:=nm l.fs.length;rw[aQ]at e1;obtain⟨m,hm⟩:∃m,n=m+1:=⟨n-1,by have:=y.out.2.1;omega⟩;subst hm;have aw:Hid (CS.pkts (m+1) c' told=if l.fs=[]then([],k)else(zb3 l.b::(CS.pkts m (k.pkDone l) G).1,(CS.pkts m (k.pkDone l) G).2)):=by
   show _=_;rw[CS.pkts,ac.out.1,ac.out.2,L.out.1,L.out.2]
  have bd:=zb aQ;have be:=zb aD;clear o3 ae bc aQ aD;go_upto_if 48 with fail;by_cases O:l.fs=[]
  ·have hz:NF=0:=by rw[←bd.out,O];rfl
   subst hz;have bf:Hid (f=R.1∧k=R.2):=by
    have h1:=y.out.2.2.1;have h2:=y.out.2.2.2;rw[aw.out,if_pos O]at h1 h2;exact⟨by simpa using h1,h2⟩
   have H4:=zb (B.out.post ND.out);clear O aw y e0;go_wp2_with fail;go_ret;have h4:=H4.out;rw[bf.out.1,bf.out.2]at h4;exact h4
  have hz:NF≠0:=fun e=>O (List.eq_nil_of_length_eq_zero (by rw[bd.out,e]))
  have dz:((NF:Int)==0)=false:=beq_eq_false_iff_ne.2 (by omega);have aR:=zb O;have ks:=znB w l.b wc B.out.s.d.ob (by have:=bb.out.2.2.1.b;omega) (B.out.env EE.out).tab;have kb:∀W5 sv,App wc w l.b (zla (crc l.b)) sv W5→∃sa sn sc ov' W6,sv = .slice sa sn sc∧(∀ty,(Builtin.append_ #[130,130] ty #[u3,.slice (some ⟨W5.heap.size,0,none⟩) 1 1]).run Tryz.prog (W5.alloc (.cells #[.slice sa sn sc] 60)) = .ok ov' W6)∧∃tag4 oa' oc',Hid (zjL tag i b db W k l G (f++[zb3 l.b]) tag4 X w M (z++[sv]) ov' u4 W6)∧ov' = .slice oa' (z.length+1) oc':=by
   intro W5 sv A;obtain⟨sa,sc,bh,_⟩:=zj A.own;have m1:Mod (fun g=>w.ownBlock=some g) wc W5:=(Mod.refl (fun g=>w.ownBlock=some g) wc).grown A.grown (fun g hg=>.inl hg);have ho:=B.out.o.mod m1 (fun g hg x=>by
    have:=B.out.s.d.tbv g hg;rw[x]at this;have:=B.out.s.p;simp at *) (fun _ _ x=>x)
   obtain⟨ov',W6,h1,h2,h3,h4⟩:=zoy W5 u3 z sa _ sc ho.own (by
    have:=ho.len;have:=y.out.1.next;have:=a3.out;omega)
   obtain⟨tag4,h5⟩:=B.out.sealed ND.out A (by rw[bh];exact h2) h3 h4;obtain⟨oa',oc',h6,_⟩:=zj h2;exact⟨sa,_,sc,ov',W6,bh,h1,tag4,oa',oc',h5,h6⟩
  obtain⟨oa,oc,bi,_⟩:=zj B.out.o.own;rw[be.out]at ks e0;have KS:=zb ks;have KB:=zb kb;clear ks kb O hz e1;rw[bi]at KB ⊢;clear bi;go_upto_region 13 with(first|(go_at_call 86;refine KS.out.mono ?_;rintro e W5 ⟨sv,rfl,A⟩;have A:=(show App wc w l.b (zla (crc l.b)) sv W5 by rw[be.out];exact A);obtain⟨sa,sn,sc,ov',W6,rfl,happ,tag4,oa',oc',r,rfl⟩:=KB.out W5 sv A;clear A)|(at_builtin;refine zm rfl _ _ _ _ rfl _ _ _ rfl rfl happ ?_));have o6:=r.out.obj;have e3:W6.cell? ⟨db,3,none⟩=some (.bool l.wants):=za o6 rfl;obtain⟨wa,aS⟩:=nm l.wants;rw[aS]at e3;have bj:=zb aS;clear o6 aS KS KB;go_upto_if 61 with fail
  go_cut [] (fun S=>∃(u:Nat→Nat×Nat) (V5:CV),Hid (zgF tag i b W { k with flight:=if l.wants then k.flight++[⟨k.next,k.now,l.fs⟩]else k.flight } G (f++[zb3 l.b]) u V5 (z++[.slice sa sn sc]) (.slice oa' (z.length+1) oc') u4 S))
  case first =>
   cases wa
   ·have H7:Hid (zgF tag i b W { k with flight:=if l.wants then k.flight++[⟨k.next,k.now,l.fs⟩]else k.flight } G (f++[zb3 l.b]) tag4 X (z++[.slice sa sn sc]) (.slice oa' (z.length+1) oc') u4 W6):=by
     rw[bj.out];exact r.out.h
    go_wp2_with fail;go_meet;exact⟨_,_,H7⟩
   ·have af:W6.cell? ⟨b,236,none⟩=some X.ft:=r.out.h.c.tl (j:=3) rfl;have q6:W6.cell? ⟨b,6,none⟩=some (.int .u64 (k.next:Int)):=r.out.h.c.hd (j:=6) rfl;have q3:W6.cell? ⟨b,3,none⟩=some (.int .u64 (k.now:Int)):=r.out.h.c.hd (j:=3) rfl;have q1:W6.cell? ⟨db,1,none⟩=some M:=za r.out.obj rfl;obtain⟨ga,gc,aT⟩:=r.out.fv;obtain⟨ka,kc,aU,_⟩:=zj r.out.h.c.ft;have ah:(k.flight.zip X.fts).length=k.flight.length:=by
     rw[List.length_zip,r.out.h.c.fl,Nat.min_self]
    have aE:k.flight.length≤1099511627776:=by
     have h1:=H.out.2.2.2.2.2.1;rw[L.out.1]at h1;rw[h1];have:=y.out.1.fl;omega
    have P:∀g,X.ft.ownBlock=some g→g≠b∧g≠db:=fun g hg=>by
     have h1:=r.out.h.c.tft g hg;refine⟨fun e=>?_,fun e=>?_⟩
     ·rw[e,r.out.h.c.tb]at h1;simp at h1
     ·rw[e,r.out.db]at h1;simp at h1
    obtain⟨bw,W7,D,ax,aV,bk⟩:=zoz W6.drew X.ft (k.flight.zip X.fts) ⟨k.next,k.now,l.fs⟩ ga _ gc (by rw[ah];exact r.out.h.c.ft) (by rw[ah];exact aE);have H7:Hid (∃u V5,Hid (zgF tag i b W { k with flight:=if l.wants then k.flight++[⟨k.next,k.now,l.fs⟩]else k.flight } G (f++[zb3 l.b]) u V5 (z++[.slice sa sn sc]) (.slice oa' (z.length+1) oc') u4 (W7.setCell ⟨b,236,none⟩ bw))):=by
     rw[ah,←aT]at ax;obtain⟨u,h7⟩:=r.out.fly ((Mod.refl NoB W6).drew) ax aV bk;rw[bj.out];exact⟨u,_,h7⟩
    have m7:Mod (fun g=>X.ft.ownBlock=some g) W6 W7:=((Mod.refl NoB W6).drew.mono (fun _ x=>x.elim)).trans ((Mod.refl (fun g=>X.ft.ownBlock=some g) W6.drew).grown aV (fun g hg=>.inl hg));have f7:∀p,W7.frozen? ⟨b,p,none⟩=false:=fun p=>zd (m7.obj (fun x=>(P b x).1 rfl) r.out.h.c.obj)
    obtain⟨bz,bA,bm,_⟩:=zj ax;rw[aT]at q1;rw[aU]at af;have Q:=zb (show W7.cell? ⟨b,236,none⟩=some (.slice ka k.flight.length kc)∧W7.cell? ⟨b,6,none⟩=some (.int .u64 (k.next:Int))∧W7.cell? ⟨b,3,none⟩=some (.int .u64 (k.now:Int))∧W7.cell? ⟨db,1,none⟩=some (.slice ga l.fs.length gc)from⟨m7.cell (a:=⟨b,236,none⟩) (fun x=>(P b x).1 rfl) af,m7.cell (a:=⟨b,6,none⟩) (fun x=>(P b x).1 rfl) q6,m7.cell (a:=⟨b,3,none⟩) (fun x=>(P b x).1 rfl) q3,m7.cell (a:=⟨db,1,none⟩) (fun x=>(P db x).2 rfl) q1⟩);rw[aU]at D;rw[ah]at bm;subst bm;have aW:=zb D;have bB:=zb f7;clear aT aU ah aE P ax aV bk m7 D f7 e3;obtain⟨NW,aX⟩:=nm k.next;obtain⟨AT,aY⟩:=nm k.now;obtain⟨ay,ai⟩:=nm l.fs.length;obtain⟨az,aF⟩:=nm k.flight.length;rw[aF]at af Q aW H7;rw[aX]at q6 Q;rw[aY]at q3 Q;rw[ai]at q1 Q;have bC:Hid (∀ty,(Builtin.append_ #[123,123] ty #[.slice ka az kc,.slice (some ⟨W6.drew.heap.size,0,none⟩) 1 1]).run Tryz.prog (W6.drew.alloc (.cells #[.int .u64 (NW:Int),.int .u64 (AT:Int),.slice ga ay gc] 173)) = .ok (.slice bz (az+1) bA) W7):=by
     have h8:=aW.out;rw[aX,aY,ai]at h8;exact h8
    clear aX aY ai aF aW;go_wp2_with fail;refine zl 22 (fun w'=>w'.cell? ⟨b,236,none⟩=some (.slice ka az kc)∧w'.cell? ⟨b,6,none⟩=some (.int .u64 (NW:Int))∧w'.cell? ⟨b,3,none⟩=some (.int .u64 (AT:Int))∧w'.cell? ⟨db,1,none⟩=some (.slice ga ay gc)) (⟨af,q6,q3,q1⟩) ?_;refine GI 0 ?_;iterate 17
     refine GS rfl ?_ ?_ ?_;rotate_left
     ·(intro S q;(try dsimp only at q);obtain⟨bD,f6,f3,f1⟩:=q;go_simp)<;>(try with_reducible rfl)
     try simp only[PS]
    refine zby (i:=17) (v:=.agg #[.int .u64 (NW:Int),.int .u64 (AT:Int),.slice ga ay gc]) rfl (by kernel_rfl) (fun _ _ _ h=>h) (Or.inl ⟨by rfl,?_⟩) ?_
    ·(intro S q;(try dsimp only at q);go_simp)<;>(try with_reducible rfl)
    try simp only[PS]
    refine zx 18 rfl (fun K F=>?_);go_simp;have bE:=fun o=>(show(W6.drew.alloc o).cell? ⟨b,236,none⟩=some (.slice ka az kc)∧(W6.drew.alloc o).cell? ⟨b,6,none⟩=some (.int .u64 (NW:Int))∧(W6.drew.alloc o).cell? ⟨b,3,none⟩=some (.int .u64 (AT:Int))∧(W6.drew.alloc o).cell? ⟨db,1,none⟩=some (.slice ga ay gc)from⟨((Mod.refl NoB W6.drew).alloc o).cell (a:=⟨b,236,none⟩) (fun x=>x) af,((Mod.refl NoB W6.drew).alloc o).cell (a:=⟨b,6,none⟩) (fun x=>x) q6,((Mod.refl NoB W6.drew).alloc o).cell (a:=⟨b,3,none⟩) (fun x=>x) q3,((Mod.refl NoB W6.drew).alloc o).cell (a:=⟨db,1,none⟩) (fun x=>x) q1⟩)
    refine F.out _ _ (bE _) ?_;clear F K;try simp only[PS]
    refine zx 19 rfl (fun K F=>?_);refine zF rfl _ _ _ _ rfl _ _ _ rfl rfl bC.out ?_;refine F.out _ _ Q.out ?_;clear F K;try simp only[PS]
    refine GI 20 ?_;iterate 2
     refine GS rfl ?_ ?_ ?_;rotate_left
     ·(intro S q;(try dsimp only at q);obtain⟨bD,f6,f3,f1⟩:=q;go_simp)<;>(try with_reducible rfl)
     try simp only[PS]
    refine zQ rfl (fun K F=>?_);have f7:=bB.out;obtain⟨u36,u6,u3_,u1⟩:=Q.out;go_simp;refine F.out _ _ ?_;clear F K;try simp only[PS]
    refine zo ?_;go_wp2_with fail;go_meet;exact H7.out
  case rest =>
  obtain⟨u,V5,H7⟩:=hcut;clear r;obtain⟨C7,aA⟩:∃C7:CS,{ k with flight:=if l.wants then k.flight++[⟨k.next,k.now,l.fs⟩]else k.flight }=C7:=⟨_,rfl⟩;have aj:Hid ({ C7 with next:=C7.next+1 }=k.pkDone l):=by
   show _=_;rw[←aA];rfl
  have bn:C7.next=c'.next:=by
   have h1:=H.out.2.2.2.1;rw[L.out.1]at h1;rw[←aA,←h1]
  rw[aA]at H7;have p6:wc.cell? ⟨b,6,none⟩=some (.int .u64 (C7.next:Int)):=H7.out.c.hd (j:=6) rfl;have pf:=H7.out.c.fz;obtain⟨NX,aB⟩:=nm C7.next;have bF:NX+1<18446744073709551616:=by
   have:=y.out.1.next;unfold zA at this;omega
  have H8:Hid (zgF tag i b W (k.pkDone l) G (f++[zb3 l.b]) u V5 (z++[.slice sa sn sc]) (.slice oa' (z.length+1) oc') u4 (wc.setCell ⟨b,6,none⟩ (.int .u64 ((NX+1:Nat):Int)))):=by
   have h8:=H7.out.next;rw[aB]at h8;rw[←aj.out,aB];exact h8
  rw[aB]at p6;have yx:IntKind.u64.wrap ((NX:Int)+1)=((NX+1:Nat):Int):=by rw[IntKind.wrap_u64];omega
  have ak:Hid (zmj (k.pkDone l) G∧ziK (k.pkDone l) G<ziK c' told):=bb.out.2.2.2.2.2.2 aR.out;clear aA aj bn H7 aB;go_wp2_with fail;go_roundw
  case rel =>
   refine⟨m,_,_,_,u,V5,_,H8,zb ⟨ak.out.1,by have:=y.out.2.1;have:=ak.out.2;omega,?_,?_⟩,zb (by have:=a3.out;rw[List.length_append,List.length_singleton];omega)⟩
   ·have h1:=y.out.2.2.1;rw[aw.out,if_neg aR.out]at h1;rw[←h1];simp
   ·have h1:=y.out.2.2.2;rw[aw.out,if_neg aR.out]at h1;exact h1
  case measure =>
   have h1:=ak.out.2;have h2:=aG.out;obtain⟨xa,xc,hx⟩:=H8.out.t.form;have h3:=H8.out.c.flLen;show(12-zdi b 236 (wc.setCell ⟨b,6,none⟩ (.int .u64 ((NX+1:Nat):Int))))+zmW u4<(12-zdi b 236 wr)+zmW (.slice ta told.length tc);rw[h3,hx];show _<(12-zdi b 236 wr)+told.length;rw[h2];exact h1
end Go.Proofs.YtddfdpbaiedcjaaGreatDoor
