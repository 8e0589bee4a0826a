/- A part of Urgent's proof. Conditions: none. Part 8 of 32. -/
import Derived.Test.YtddfdpbaiedcjaaGreatDoorUrg7
import Derived.Stop.Asserts
import Derived.RowKitTokens
set_option maxRecDepth 100000
set_option maxHeartbeats 16000000
set_option linter.all false
namespace Go.Proofs.YtddfdpbaiedcjaaGreatDoor
open Go.RowKit
theorem ziu{w:World}{base e sz:Nat}{v:Value}{n:Nat}{xs:List Value}(h:w.ownsRow base e sz v n xs):∀g,v.ownBlock=some g→g<w.heap.size:=by
 intro g hg;rcases h.2 with⟨rfl,rfl⟩|⟨g',cap,cur,rfl,_,h0,h1,h2,_⟩
 ·cases hg
 ·simp[Value.ownBlock]at hg;subst hg;exact(Array.getElem?_eq_some_iff.1 h0).1
theorem zap{w:World}{base e sz:Nat}{v:Value}{n b T:Nat}{xs:List Value}{cs:Array Value}{fz:Nat×Nat}(h:w.ownsRow base e sz v n xs)(a:w.heap[b]?=some (.cells cs T fz))(hT:T≠e):¬v.ownBlock=some b:=by
 intro hb;rcases h.2 with⟨rfl,_⟩|⟨g,cap,cur,rfl,_,hg,_⟩
 ·cases hb
 ·simp[Value.ownBlock]at hb;subst hb;rw[hg]at a;simp at a;exact hT a.2.1.symm
theorem zg0{w:World}{b1 b2 e f sz b n n':Nat}{v v':Value}{xs c:List Value}(h:w.ownsRow b1 e sz v n xs)(h':w.ownsRow b2 f b v' n' c)(d:f≠e){g:Nat}(hg:v.ownBlock=some g)(a:v'.ownBlock=some g):False:=by
 rcases h'.2 with⟨rfl,_⟩|⟨g',cap,cur,rfl,_,ho,_⟩
 ·cases a
 ·simp[Value.ownBlock]at a;subst a;exact zap h ho d hg
theorem zly{w W:World}{base e sz:Nat}{v:Value}{n:Nat}{xs:List Value}(h:w.ownsRow base e sz v n xs)(hn:zfk W v):∀g,v.ownBlock=some g→W.heap.size≤g:=by
 intro g hg;rcases h.2 with⟨rfl,_⟩|⟨g',cap,cur,rfl,_⟩
 ·cases hg
 ·simp[Value.ownBlock]at hg;subst hg;exact hn _ _ _ _ rfl
def zpi(w:World)(ab at_:Nat):Prop:=w.heap[ab]?=some (.cells #[.int .i64 (at_:Int)] 3 (0,0))
def zpT(w wr:World)(v:Value)(bs:List UInt8)(a:Nat)(R:zgX):Prop :=
 ∃fuel pos fv rvs at_,zcv wr (w.heap.size+1+1) v pos∧zlc wr w.heap.size a fv∧zof wr (w.heap.size+1) .nilIface∧zpi wr (w.heap.size+1+1+1) at_∧zh9 wr fv rvs∧(∀g,fv.ownBlock=some g→w.heap.size≤g)∧(∀x∈rvs,∀g,x.2.ownBlock=some g→w.heap.size≤g) ∧
  pos≤bs.length∧bs.length-pos<fuel∧rvs.length≤pos∧Mod NoB w wr∧zcZ bs fuel a pos (rvs.map (·.1))=R
def RA(w:World):Nat→Prop:=fun k=>k=w.heap.size+1+1∨k=w.heap.size+1+1+1
theorem zh9.mod{S:Nat→Prop}{w w':World}{v:Value}{fs:List (Frm×Value)}(h:zh9 w v fs)(m:Mod S w w')(hs:∀i,S i→w.heap.size≤i∨∃cs T fz,w.heap[i]?=some (.cells cs T fz)∧T≠65∧T≠214):zh9 w' v fs:=by
 refine⟨m.owns h.1 (fun g hg a=>?_),fun x a=>(h.2 x a).mod m (fun g hg b=>?_)⟩
 ·rcases hs g a with h1|⟨cs,T,fz,h1,h2,_⟩
  ·have:=ziu h.1 g hg;omega
  ·exact zap h.1 h1 h2 hg
 ·rcases hs g b with h1|⟨cs,T,fz,h1,_,h2⟩
  ·have:=ziu (h.2 x a).1 g hg;omega
  ·exact zap (h.2 x a).1 h1 h2 hg
structure DecIn(w W:World)(v:Value):Prop where
 rd:zcv W (w.heap.size+1+1) v 0
 pk:zlc W w.heap.size 0 (.slice none 0 0)
 er:zof W (w.heap.size+1) .nilIface
 at_:zpi W (w.heap.size+1+1+1) 0
 mod:Mod NoB w W
theorem decin(w:World)(a:Nat)(v:Value):DecIn w (((((w.alloc (.cells #[.int .u64 0,.slice none 0 0] 56)).alloc (.cells #[.nilIface] 98)).drewN a).alloc (.cells #[v,.int .i64 0] 229)).alloc (.cells #[.int .i64 0] 3)) v:=by
 have e1:(w.alloc (.cells #[.int .u64 0,.slice none 0 0] 56)).heap.size=w.heap.size+1:=by simp
 have e2:(((w.alloc (.cells #[.int .u64 0,.slice none 0 0] 56)).alloc (.cells #[.nilIface] 98)).drewN a).heap.size=w.heap.size+1+1:=by simp
 have e3:((((w.alloc (.cells #[.int .u64 0,.slice none 0 0] 56)).alloc (.cells #[.nilIface] 98)).drewN a).alloc (.cells #[v,.int .i64 0] 229)).heap.size=w.heap.size+1+1+1:=by simp
 refine⟨?_,?_,?_,?_,((((Mod.refl _ _).alloc _).alloc _).drewN _).alloc _ |>.alloc _⟩
 ·unfold zcv;rw[←e2];exact((Mod.refl NoB _).alloc _).obj (fun x=>x) (heap_alloc_new _ _)
 ·exact(((((Mod.refl NoB _).alloc _).drewN a).alloc _).alloc _).obj (fun x=>x) (heap_alloc_new w _)
 ·unfold zof;rw[←e1];exact((((Mod.refl NoB _).drewN a).alloc _).alloc _).obj (fun x=>x) (heap_alloc_new _ _)
 ·unfold zpi;rw[←e3];exact heap_alloc_new _ _
theorem zog(v:Value)(bs:List UInt8)(n:Nat)(w:World)(hb:BR w v bs)(ht:Tab w)(hn:bs.length=n+4)(hs:be4 bs n=crc (bs.take n))(bL:n<1099511627776) :
  Calls Tryz.prog 74 #[v] w (zai w (zaC (bs.take n))):=by
 obtain⟨a,cap,rfl,h1,h2,h3⟩:=id hb;unfold maxLen at h2;rw[hn]at h1 hb ⊢;have B:BR w (.slice a bs.length cap) bs:=by rw[hn];exact hb
 obtain⟨g,o,rfl,k0⟩:=B.byte (i:=n) (by omega);obtain⟨_,_,e,k1⟩:=B.byte (i:=n+1) (by omega);cases e;obtain⟨_,_,e,k2⟩:=B.byte (i:=n+2) (by omega);cases e;obtain⟨_,_,e,k3⟩:=B.byte (i:=n+3) (by omega);cases e;have bp:=zk k0;have Q:=B.pre (n:=n) (by omega);have T:=fun w' (m:Mod NoB w w')=>zic (.slice (some ⟨g,o,none⟩) n cap) (bs.take n) w' (Q.mod m (zaX.no _)) (ht.mod m (fun x=>x))
 have bq:=zjn (bs.take n);obtain⟨s,aQ⟩:=nm (crc (bs.take n));rw[aQ]at T hs bq;have b0:=zbx bs n;have b1:=zbx bs (n+1);have b2:=zbx bs (n+2);have b3:=zbx bs (n+3);unfold be4 at hs;obtain⟨x0,e0⟩:=nm (byteAt bs n);obtain⟨x1,e1⟩:=nm (byteAt bs (n+1));obtain⟨x2,e2⟩:=nm (byteAt bs (n+2));obtain⟨x3,e3⟩:=nm (byteAt bs (n+3));rw[e0]at k0 b0 hs;rw[e1]at k1 b1 hs;rw[e2]at k2 b2 hs;rw[e3]at k3 b3 hs;obtain⟨o1,o2,o3⟩:=or_be x0 x1 x2 x3 b0 b1 b2 b3;have z1:IntKind.i64.wrap (((n+4:Nat):Int)-4)=(n:Int):=by rw[show((n+4:Nat):Int)-4=n by omega];exact IntWalk.i64_in _ (by omega)
 have z2:IntKind.i64.wrap ((n:Int)+1)=(n:Int)+1:=IntWalk.i64_in _ (by omega);have z3:IntKind.i64.wrap ((n:Int)+2)=(n:Int)+2:=IntWalk.i64_in _ (by omega);have z4:IntKind.i64.wrap ((n:Int)+3)=(n:Int)+3:=IntWalk.i64_in _ (by omega);have t2:((n:Int)+1).toNat=n+1:=by omega
 have t3:((n:Int)+2).toNat=n+2:=by omega
 have t4:((n:Int)+3).toNat=n+3:=by omega
 have y0:IntKind.u32.wrap ((x0:Int)*16777216)=(x0:Int)*16777216:=by rw[zbF];omega
 have y1:IntKind.u32.wrap ((x1:Int)*65536)=(x1:Int)*65536:=by rw[zbF];omega
 have y2:IntKind.u32.wrap ((x2:Int)*256)=(x2:Int)*256:=by rw[zbF];omega
 have hq:((x0:Int)*16777216+(x1:Int)*65536+(x2:Int)*256+(x3:Int) != (s:Int))=false:=by rw[bne_eq_false_iff_eq];omega
 have J:=zb Q;clear h3 hb B ht Q e0 e1 e2 e3 aQ hs;have aR:(bs.take n).length=n:=by simp;omega
 obtain⟨l,aS⟩:=nm (bs.take n);rw[aS]at J aR ⊢;clear aS hn;subst aR
 go_enter_defers Tryz.func74,Tryz.ntmps74
 go_wp2_with (go_at_call 125;refine(T _ (((Mod.refl _ _).alloc _).alloc _)).mono ?_;rintro e w' ⟨rfl,rfl⟩);go_quiet (fail);have hD:=decin w nq (.slice (some ⟨g,o,none⟩) l.length cap);obtain⟨W,hW⟩:=nm (((((w.alloc (.cells #[.int .u64 0,.slice none 0 0] 56)).alloc (.cells #[.nilIface] 98)).drewN nq).alloc (.cells #[.slice (some ⟨g,o,none⟩) l.length cap,.int .i64 0] 229)).alloc (.cells #[.int .i64 0] 3));rw[hW]at hD;have HW:=zb hW;clear hW;have HD:=zb hD;have hgw:g<w.heap.size:=bp;have U:∀b,w.heap.size≤b→zaX (zdm b) (.slice (some ⟨g,o,none⟩) l.length cap):=fun b B g' o' n' c' e d=>by
  cases e;have:g=b:=d;omega
 have aT:=zb U;have V:=zU (w.heap.size+1+1) 0 (.slice (some ⟨g,o,none⟩) l.length cap) l W hD.rd (J.out.mod hD.mod (zaX.no _)) (U _ (by omega)) (Nat.zero_le _);clear hD U T k0 k1 k2 k3 o1 o2 o3 t2 t3 t4 y0 y1 y2 b0 b1 b2 b3;go_wp2_with fail;rw[HW.out];have hk:∀tmps r W' at_ num fv,tmps.getD 2 undef = .pointer (some ⟨w.heap.size,0,none⟩)→tmps.getD 3 undef = .pointer (some ⟨w.heap.size+1,0,none⟩)→Mod NoB w W'→zlc W' w.heap.size num fv→zof W' (w.heap.size+1) .nilIface→zpi W' (w.heap.size+1+1+1) at_→r = .bad at_ →
   bodyPostD Tryz.prog Tryz.f74 (zai w r) (Exit.panic [{ v:=.iface 230 (.agg #[]),recovered:=false }]) { tmps:=tmps,defers:=[{ target:=.fn (.func 126) #[.pointer (some ⟨w.heap.size+1+1+1,0,none⟩),.pointer (some ⟨w.heap.size,0,none⟩),.pointer (some ⟨w.heap.size+1,0,none⟩)],args:=#[] }] } W' :=
  fun tmps r W' at_ num fv e2 e3 hm hp A ha hr=>zkk r w W' tmps _ _ _ at_ _ fv _ e2 e3 hm hp A (za ha rfl) (by omega) (Nat.le_refl _) (by omega) hr
 have Hk:=zb hk;clear hk HW;cases hr0:zaq l 0 with
 | none =>
  rw[hr0]at V;have Y:Hid (zaC l = .bad 0):=by show _=_;unfold zaC;rw[hr0]
  clear hr0;refine V.mono ?_;rintro e w1 (⟨_,_,d,_⟩|⟨_,A,hm⟩)
  ·cases d
  unfold zac at A;subst A;have ao:Mod (zdm (w.heap.size+1+1)) W w1:=hm;exact Hk.out _ _ w1 0 0 _ rfl rfl (HD.out.mod.then ao (fun i hi=>.inr (by cases hi;omega))) (ao.obj (by show ¬w.heap.size=w.heap.size+1+1;omega) HD.out.pk) (ao.obj (by show ¬w.heap.size+1=w.heap.size+1+1;omega) HD.out.er) (ao.obj (by show ¬w.heap.size+1+1+1=w.heap.size+1+1;omega) HD.out.at_) Y.out
 | some q0 =>
  obtain⟨num,p0⟩:=q0;rw[hr0]at V;obtain⟨u1,u2,u3⟩:=zR hr0;have aA:=zb hr0;clear hr0;refine V.mono ?_;rintro e w1 (⟨_,_,d,rfl,aU,m1⟩|⟨d,_⟩);rotate_left
  ·cases d
  simp only[Option.map_some,Option.some.injEq,Prod.mk.injEq]at d;obtain⟨rfl,rfl⟩:=d;have t:zlc w1 w.heap.size 0 (.slice none 0 0):=m1.obj (by show ¬w.heap.size=w.heap.size+1+1;omega) HD.out.pk;have bt:w1.cell? ⟨w.heap.size,0,none⟩=some (.int .u64 0):=za t rfl;have fp:w1.frozen? ⟨w.heap.size,0,none⟩=false:=zd t;obtain⟨X,hX⟩:=nm (w1.setCell ⟨w.heap.size,0,none⟩ (.int .u64 (num:Int)));have mX:Mod (fun k=>k=w.heap.size) w1 X:=by rw[←hX];exact(Mod.refl (fun k=>k=w.heap.size) w1).setCell (p:=⟨w.heap.size,0,none⟩) (.inl rfl) _
  have pX:zlc X w.heap.size num (.slice none 0 0):=by
   unfold zlc;rw[←hX,zc t];simp
  have rX:zcv X (w.heap.size+1+1) (.slice (some ⟨g,o,none⟩) l.length cap) p0:=aU.mod mX (by show ¬w.heap.size+1+1=w.heap.size;omega);have eX:zof X (w.heap.size+1) .nilIface:=mX.obj (by show ¬w.heap.size+1=w.heap.size;omega) (m1.obj (by show ¬w.heap.size+1=w.heap.size+1+1;omega) HD.out.er);have aX:zpi X (w.heap.size+1+1+1) 0:=mX.obj (by show ¬w.heap.size+1+1+1=w.heap.size;omega) (m1.obj (by show ¬w.heap.size+1+1+1=w.heap.size+1+1;omega) HD.out.at_);have aV:Mod NoB w X:=(HD.out.mod.then m1 (fun i hi=>.inr (by cases hi;omega))).then mX (fun i hi=>.inr (by cases hi;omega));have bu:=rX.c1;have aB:=zb pX;have aW:=zb rX;have aC:=zb eX;have aD:=zb aX;have aE:=zb aV;clear t mX pX rX eX aX aV aU m1 V;by_cases C:p0=l.length
  ·have Y:Hid (zaC l = .bad 0):=by show _=_;unfold zaC;rw[aA.out];simp only[if_pos C]
   have e1:(p0==l.length)=true:=by simp[C]
   have bv:((p0:Int)==(l.length:Int))=true:=by simp[C]
   clear C;go_wp2_with (go_at_call 128;refine(zbY _ _).mono ?_;rintro e w' ⟨A,rfl⟩;unfold zac at A;subst A);exact Hk.out _ _ X 0 num _ rfl rfl aE.out aB.out aC.out aD.out Y.out
  ·have e1:(p0==l.length)=false:=by simpa using C
   have bv:((p0:Int)==(l.length:Int))=false:=by rw[beq_eq_false_iff_ne];omega
   obtain⟨R,hR⟩:=nm (zcZ l (l.length+1) num p0 []);have Y:Hid (zaC l=R):=by show _=_;unfold zaC;rw[aA.out];simp only[if_neg C];exact hR
   have aY:=Y;have HA:Hid (zpT w X (.slice (some ⟨g,o,none⟩) l.length cap) l num R):=⟨l.length+1,p0,.slice none 0 0,[],0,aW.out,aB.out,aC.out,aD.out,⟨World.ownsRow_nil X 0 _ 10,fun x d=>by cases d⟩,(fun g hg=>by cases hg),(fun x d=>by cases d),u2,by omega,Nat.zero_le _,aE.out,hR⟩;clear hR Y aA C aB aW aC aD aE;go_wp2_with fail
   go_loopw [8,9,10,11,12] (fun _ _ _ _ _ wr=>zpT w wr (.slice (some ⟨g,o,none⟩) l.length cap) l num R) (fun _ _ _ _ _ wr=>l.length-zgV wr (w.heap.size+1+1))
   case atStart=>exact HA.out
   case round =>
    obtain⟨K,pos,fv,q,at_,aa,t,ab,D,ap,aF,aG,bM,hfu,hrl,hm,hR⟩:=hrel;obtain⟨K,rfl⟩:∃f,K=f+1:=⟨K-1,by omega⟩;unfold zcZ at hR;have bu:=aa.c1;have aq:=zb aa;have ar:=zb t;have ac:=zb ab;have aZ:=zb D;have N:=zb ap;have a0:=zb aF;have a3:=zb aG;have Hm:=zb hm;have hsz:=hm.size;have hws:w.heap.size+1+1+1<wr.heap.size:=(Array.getElem?_eq_some_iff.1 D).1;by_cases ad:pos<l.length
    ·rw[if_pos ad]at hR;have Y:=zb hR;have ca:wr.cell? ⟨w.heap.size+1+1+1,0,none⟩=some (.int .i64 (at_:Int)):=za D rfl;have fzA:wr.frozen? ⟨w.heap.size+1+1+1,0,none⟩=false:=zd D;obtain⟨W1,aH⟩:=nm (wr.setCell ⟨w.heap.size+1+1+1,0,none⟩ (.int .i64 (pos:Int)));have m1:Mod (RA w) wr W1:=by rw[←aH];exact(Mod.refl (RA w) wr).setCell (p:=⟨w.heap.size+1+1+1,0,none⟩) (.inl (.inr rfl)) _
     have a4:Mod (zdm (w.heap.size+1+1+1)) wr W1:=by rw[←aH];exact(Mod.refl (zdm (w.heap.size+1+1+1)) wr).setCell (p:=⟨w.heap.size+1+1+1,0,none⟩) (.inl rfl) _
     have a1:zpi W1 (w.heap.size+1+1+1) pos:=by
      unfold zpi;rw[←aH,zc D];simp
     have r1:=aa.mod a4 (by show ¬w.heap.size+1+1=w.heap.size+1+1+1;omega);have a5:Mod NoB w W1:=hm.then m1 (fun i hi=>.inr (by rcases hi with rfl|rfl<;>omega));have aI:=zf4 (w.heap.size+1+1) 1 pos 1 rfl (.slice (some ⟨g,o,none⟩) l.length cap) l W1 r1 (J.out.mod a5 (zaX.no _)) (aT.out _ (by omega)) (by omega);obtain⟨tb,aJ⟩:∃c,l[pos]?=some c:=⟨l[pos],List.getElem?_eq_getElem ad⟩;have a6:(l.drop pos).take 1=[tb]:=by
      rw[List.take_one,List.head?_drop,aJ];rfl
     rw[a6]at aI;have au:=zb aJ;have M1:=zb m1;have A1:=zb a1;have sW1:=m1.size;have cr2:=r1.c1;have ae:za5 l pos=none→∀tmps W',tmps.getD 2 undef = .pointer (some ⟨w.heap.size,0,none⟩)→tmps.getD 3 undef = .pointer (some ⟨w.heap.size+1,0,none⟩)→Mod (RA w) wr W'→Mod (zdm (w.heap.size+1+1)) W1 W' →
       bodyPostD Tryz.prog Tryz.f74 (zai w (zaC l)) (Exit.panic [{ v:=.iface 230 (.agg #[]),recovered:=false }]) { tmps:=tmps,defers:=[{ target:=.fn (.func 126) #[.pointer (some ⟨w.heap.size+1+1+1,0,none⟩),.pointer (some ⟨w.heap.size,0,none⟩),.pointer (some ⟨w.heap.size+1,0,none⟩)],args:=#[] }] } W':=by
      intro u tmps W' e2 e3 mA mB;refine Hk.out tmps (zaC l) W' pos num fv e2 e3 (Hm.out.then mA (fun i hi=>.inr (by rcases hi with rfl|rfl<;>omega))) (mA.obj (fun d=>by rcases d with d|d<;>omega) ar.out) (mA.obj (fun d=>by rcases d with d|d<;>omega) ac.out) (mB.obj (fun d=>by have:w.heap.size+1+1+1=w.heap.size+1+1:=d;omega) A1.out) ?_;have:=Y.out;rw[u]at this;rw[aY.out];exact this.symm
     have E:=zb ae;clear hR aa t ab D ap aF aG hm m1 a4 a1 r1 a5 aJ a6 ae;go_wp2_with fail;refine aI.mono ?_;rintro e w2 ⟨sv,rfl,bw,a7,m2⟩;obtain⟨a2,c2,rfl,_,_,a8⟩:=bw;obtain⟨g2,o2,rfl,ct⟩:=a8 0 tb rfl;simp only[Nat.add_zero]at ct;have M2:Hid (Mod (RA w) wr w2):=M1.out.then m2 (fun i hi=>.inl (.inl hi));have N2:=zb m2;have H2:=zb a7;have s2:=m2.size;clear a8 aI a7 m2;cases hkd:zbb tb with
     | none =>
      have u:Hid (za5 l pos=none):=by
       show _=_;unfold za5;rw[au.out];simp only[hkd,Option.bind_none]
      have av:=fun w=>zlo tb w hkd
      clear hkd;go_wp2_with (first|(go_at_call 130;refine(av _).mono ?_;rintro e w' ⟨rfl,rfl⟩)|(go_at_call 128;refine(zbY _ _).mono ?_;rintro e w' ⟨A,rfl⟩;unfold zac at A;subst A));show bodyPostD Tryz.prog Tryz.f74 (zai w (zaC l)) (Exit.panic _) _ _;exact E.out u.out _ w2 (by rfl) (by rfl) M2.out N2.out
     | some k =>
      have av:=fun w=>zlp tb k w hkd
      have aw:=zb hkd;have a9:((tb.toNat:Int)==9)=decide (tb=9):=by
       rw[Bool.eq_iff_iff,beq_iff_eq,decide_eq_true_eq];constructor
       ·intro h;exact UInt8.toNat_inj.1 (by show _=9;omega)
       ·rintro rfl;rfl
      obtain⟨b9,af⟩:=nm (decide (tb=9));rw[af]at a9;have aK:=zb af;obtain⟨W3,ah⟩:=nm (w2.alloc (.cells #[.int .i64 k,.int .i64 0,.int .u64 0,.int .u64 0,.int .u64 0,.bool b9,.int .u64 0,.int .u64 0,.string ⟨#[]⟩,.slice none 0 0] 65));have m3:Mod NoB w2 W3:=by rw[←ah];exact(Mod.refl _ _).alloc _
      have f3:zi W3 w2.heap.size (f0 k b9) (.slice none 0 0):=by rw[←ah];exact heap_alloc_new w2 _
      have ay:=zkh tb k hkd b9 l (.slice (some ⟨g,o,none⟩) l.length cap) W3;have M3:=zb m3;have F3:=zb f3;have z3':W3.heap.size=w2.heap.size+1:=by rw[←ah];simp
      have bz:=zb ah;clear hkd af m3 f3 ah;go_wp2_with (go_at_call 130;refine(av _).mono ?_;rintro e w' ⟨rfl,rfl⟩);rw[bz.out];refine ay.mono ?_;rintro e w4 ⟨cb,wv,F,ba,G,rfl,aL,gF,gG,m4,hcb,ai,L⟩;have s3:=M3.out.size;have bA:=aL.2.1;have N4:Hid (Mod (zdm (w.heap.size+1+1)) W1 w4):=(N2.out.then M3.out (fun i hi=>hi.elim)).then m4 (fun i hi=>hi.elim);have M4:Hid (Mod (RA w) wr w4):=(M2.out.then M3.out (fun i hi=>hi.elim)).then m4 (fun i hi=>hi.elim);have F4:=F3.out.mod m4 (fun x=>x);have R4:zcv w4 (w.heap.size+1+1) (.slice (some ⟨g,o,none⟩) l.length cap) (pos+1):=(H2.out.mod M3.out (fun x=>x)).mod m4 (fun x=>x);have bb:Mod NoB w w4:=Hm.out.then M4.out (fun i hi=>.inr (by rcases hi with rfl|rfl<;>omega));have az:=ai (w.heap.size+1+1) w2.heap.size (pos+1) R4 (J.out.mod bb (zaX.no _)) (fun g' o' n' c' e d=>by cases e;rcases d with d|d<;>omega) (by omega) (by omega) F4 (by omega);have bB:=zb aL;have bC:=zb L;have bD:=zb gG;have bE:∀args w,(callFunc F args).run Tryz.prog w = .ok (.enter F args) w:=gF;have s4:=m4.size;clear ay aL m4 ai L gF gG F4 R4 bb av a9;go_wp2_with fail;refine az.mono ?_;rintro e w5 (⟨f,rv,p,H,rfl,h5,ax,aM,aj,m5⟩|⟨H,A,m5⟩)
      ·have M5:Hid (Mod (RA w) wr w5):=M4.out.then m5 (fun i hi=>by
        rcases hi with hi|hi
        ·exact .inl (.inl hi)
        ·exact .inr (by omega))
       have N5:Hid (Mod (zdm (w.heap.size+1+1)) W1 w5):=N4.out.then m5 (fun i hi=>by
        rcases hi with hi|hi
        ·exact .inl hi
        ·have:=N2.out.size;exact .inr (by omega))
       obtain⟨d1,d2,d3,d4,d5⟩:=zeH aw.out (by omega) H;have bc:zbM w5 cb wv (.func (.func F) #[] ba) (.func (.func G) #[] #[]):=bB.out.mod m5 (by rintro(hi|hi)<;>omega);have O:=zgN w2.heap.size cb f rv wv _ G (zK f) w5 ax bc bD.out (fun w' m hq=>bC.out w' w2.heap.size f rv (ax.mod m (fun x=>x)) (aM.rr.mod m (zaX.no _)) d1 (by omega) (by omega) hq);rw[show(zaz f&&zbA f&&zK f)=zT f from rfl]at O;have bF:=zb ax;have bG:=zb aM;have bH:=zb aj;have H5:=zb h5;have s5:=m5.size;clear az bc ax aM aj h5 m5 bE bA d1;cases hsf:zT f with
       | false =>
        rw[hsf]at O;have u:Hid (za5 l pos=none):=by
         show _=_;unfold za5;rw[au.out];simp only[aw.out,Option.bind_some,aK.out,H,hsf];rfl
        clear H hsf;go_wp2_with (first|(go_at_call 132;refine O.mono ?_;rintro e I ⟨rfl,m6⟩;have M6:=zb m6;clear m6)|(go_at_call 128;refine(zbY _ _).mono ?_;rintro e w' ⟨A,rfl⟩;unfold zac at A;subst A));show bodyPostD Tryz.prog Tryz.f74 (zai w (zaC l)) (Exit.panic _) _ _;exact E.out u.out _ I (by rfl) (by rfl) (M5.out.then M6.out (fun i hi=>hi.elim)) (N5.out.then M6.out (fun i hi=>hi.elim))
       | true =>
        rw[hsf]at O;have u:Hid (za5 l pos=some (f,p)):=by
         show _=_;unfold za5;rw[au.out];simp only[aw.out,Option.bind_some,aK.out,H,hsf];rfl
        clear H hsf;go_wp2_with fail;refine O.mono ?_;rintro e I ⟨rfl,m6⟩;have M6:Hid (Mod (RA w) wr I):=M5.out.then m6 (fun i hi=>hi.elim);have be:Hid (Mod NoB w5 I):=m6;have N6:Hid (Mod (zdm (w.heap.size+1+1)) W1 I):=N5.out.then m6 (fun i hi=>hi.elim);have f6:=bF.out.mod m6 (fun x=>x);have o6:=bG.out.mod m6 (fun _ _ x=>x);have p6:zlc I w.heap.size num fv:=M6.out.obj (fun d=>by rcases d with d|d<;>omega) ar.out;have ak:zh9 I fv q:=N.out.mod M6.out (fun i hi=>.inr (by
         rcases hi with rfl|rfl
         ·exact⟨_,_,_,aq.out,by decide,by decide⟩
         ·exact⟨_,_,_,aZ.out,by decide,by decide⟩))
        obtain⟨ra,rc,rfl,_⟩:=zj o6.1;obtain⟨k0,k1,k2,k3,k4,k5,k6,k7,k8,k9⟩:=f6.cells;obtain⟨v7,W7,bf,al,bh,bi⟩:=zjB I fv q f ra f.rngs.length rc ak.1 (by omega);obtain⟨y,z,rfl,_⟩:=zj ak.1;have cp6:I.cell? ⟨w.heap.size,1,none⟩=some (.slice y q.length z):=za p6 rfl;obtain⟨W8,bj⟩:=nm (W7.setCell ⟨w.heap.size,1,none⟩ v7);have m7:Mod (fun k=>(Value.slice y q.length z).ownBlock=some k) I W7:=(Mod.refl _ _).grown bh (fun k hk=>.inl hk);have p7:zlc W7 w.heap.size num (.slice y q.length z):=m7.obj (fun d=>zap ak.1 p6 (by decide) d) p6;have cp7:W7.cell? ⟨w.heap.size,1,none⟩=some (.slice y q.length z):=za p7 rfl;have fp7:W7.frozen? ⟨w.heap.size,1,none⟩=false:=zd p7;obtain⟨va,vc,rfl,_⟩:=zj al;have aN:=zb o6;have aO:=zb p7;have M:=zb ak;have P:=zb m7;have am:=zb al;have bk:=zb bi;have HF6:=zb f6;clear O m6 f6 o6 p6 ak p7 m7 al bi bh;unfold zh at bf;go_wp2_with (at_builtin;refine zm rfl _ _ _ _ rfl _ _ _ rfl rfl bf ?_);have m8:Mod (fun k=>k=w.heap.size) W7 W8:=by rw[←bj];exact(Mod.refl (fun k=>k=w.heap.size) W7).setCell (p:=⟨w.heap.size,1,none⟩) (.inl rfl) _
        have aP:zpT w W8 (.slice (some ⟨g,o,none⟩) l.length cap) l num R:=by
         have bm:∀i,(Value.slice y q.length z).ownBlock=some i→w.heap.size≤i:=fun i hi=>a0.out i hi
         have q1:¬(Value.slice y q.length z).ownBlock=some (w.heap.size+1+1):=fun d=>zap N.out.1 aq.out (by decide) d
         have q2:¬(Value.slice y q.length z).ownBlock=some (w.heap.size+1):=fun d=>zap N.out.1 ac.out (by decide) d
         have q3:¬(Value.slice y q.length z).ownBlock=some (w.heap.size+1+1+1):=fun d=>zap N.out.1 aZ.out (by decide) d
         have bI:zof I (w.heap.size+1) .nilIface:=M6.out.obj (fun d=>by rcases d with d|d<;>omega) ac.out;have bJ:zpi I (w.heap.size+1+1+1) pos:=N6.out.obj (fun d=>by have:w.heap.size+1+1+1=w.heap.size+1+1:=d;omega) A1.out;have rd6:zcv I (w.heap.size+1+1) (.slice (some ⟨g,o,none⟩) l.length cap) p:=H5.out.mod (Mod.refl NoB w5) (fun x=>x) |>.mod (S:=NoB) be.out (fun x=>x);refine⟨K,p,.slice va (q.length+1) vc,q++[(f,.slice ra f.rngs.length rc)],pos,?_,?_,?_,?_,⟨?_,?_⟩,?_,?_,d3,by omega,?_,?_,?_⟩
         ·exact(rd6.mod P.out q1).mod m8 (by show ¬w.heap.size+1+1=w.heap.size;omega)
         ·unfold zlc;rw[←bj,zc aO.out];simp
         ·exact m8.obj (by show ¬w.heap.size+1=w.heap.size;omega) (P.out.obj q2 bI)
         ·exact m8.obj (by show ¬w.heap.size+1+1+1=w.heap.size;omega) (P.out.obj q3 bJ)
         ·have:=m8.owns am.out (fun i hi d=>zap am.out aO.out (by decide) (by rw[hi,d]));simpa using this
         ·intro x d;have bn:zf5 I x.2 x.1.rngs∧∀i,x.2.ownBlock=some i→¬(Value.slice y q.length z).ownBlock=some i:=by
           rcases List.mem_append.1 d with h1|h1
           ·refine⟨M.out.2 x h1,fun i hi hj=>?_⟩;exact zg0 M.out.1 (M.out.2 x h1).1 (by decide) hj hi
           ·simp only[List.mem_singleton]at h1;subst h1;exact⟨aN.out,fun i hi hj=>zg0 M.out.1 aN.out.1 (by decide) hj hi⟩
          have h7:=bn.1.mod P.out bn.2;exact h7.mod m8 (fun i hi hj=>zap h7.1 aO.out (by decide) (by rw[hi];exact congrArg some hj))
         ·intro i hi;rcases bk.out i hi with h1|h1
          ·exact bm i h1
          ·have:=M6.out.size;omega
         ·intro x d i hi;rcases List.mem_append.1 d with h1|h1
          ·exact a3.out x h1 i hi
          ·simp only[List.mem_singleton]at h1;subst h1;have:=zly aN.out.1 bH.out i hi;omega
         ·simp only[List.length_append,List.length_cons,List.length_nil];omega
         ·exact((Hm.out.then M6.out (fun i hi=>.inr (by rcases hi with rfl|rfl<;>omega))).then P.out (fun i hi=>.inr (bm i hi))).then m8 (fun i hi=>.inr (by cases hi;omega))
         ·have:=Y.out;rw[u.out]at this;simpa using this
        have HP:Hid (zgV W8 (w.heap.size+1+1)=p∧zgV wr (w.heap.size+1+1)=pos):=by
         obtain⟨_,p',_,_,_,hr8,_,_,_,_,_,_,_,_,_,_,_⟩:=id aP;refine⟨?_,zes aq.out⟩;have rd6:zcv I (w.heap.size+1+1) (.slice (some ⟨g,o,none⟩) l.length cap) p:=H5.out.mod (S:=NoB) be.out (fun x=>x);have q1:¬(Value.slice y q.length z).ownBlock=some (w.heap.size+1+1):=fun d=>zap N.out.1 aq.out (by decide) d
         exact zes ((rd6.mod P.out q1).mod m8 (by show ¬w.heap.size+1+1=w.heap.size;omega))
        have bo:=zb aP;have bK:=zb ad;clear aP m8 ad;go_roundw
        case rel=>exact bo.out
        case measure =>
         have:=bK.out;rw[HP.out.1,HP.out.2];omega
      ·have N5:Hid (Mod (zdm (w.heap.size+1+1)) W1 w5):=N4.out.then m5 (fun i hi=>by
        rcases hi with hi|hi
        ·exact .inl hi
        ·have:=N2.out.size;exact .inr (by omega))
       have M5:Hid (Mod (RA w) wr w5):=M4.out.then m5 (fun i hi=>by
        rcases hi with hi|hi
        ·exact .inl (.inl hi)
        ·exact .inr (by omega))
       have u:Hid (za5 l pos=none):=by
        show _=_;unfold za5;rw[au.out];simp only[aw.out,Option.bind_some,aK.out,H,Option.bind_none]
       unfold zac at A;subst A;show bodyPostD Tryz.prog Tryz.f74 (zai w (zaC l)) (Exit.panic _) _ _;exact E.out u.out _ w5 (by rfl) (by rfl) M5.out N5.out
    ·rw[if_neg ad]at hR;have Y:Hid (zaC l = .ok num (q.map (·.1))):=by show _=_;rw[aY.out];exact hR.symm
     have bt:wr.cell? ⟨w.heap.size,0,none⟩=some (.int .u64 (num:Int)):=za t rfl;have ce0:wr.cell? ⟨w.heap.size+1,0,none⟩=some .nilIface:=za ab rfl;obtain⟨y,z,rfl,_⟩:=zj ap.1;have cp1:wr.cell? ⟨w.heap.size,1,none⟩=some (.slice y q.length z):=za t rfl;have f0':∀j,wr.frozen? ⟨w.heap.size,j,none⟩=false:=fun j=>zd t
     have f1':∀j,wr.frozen? ⟨w.heap.size+1,j,none⟩=false:=fun j=>zd ab
     clear hR aa t ab D ap aF aG hm;go_wp2_with fail;obtain⟨Z,hZ⟩:=nm (((wr.setCell ⟨w.heap.size,0,none⟩ (.int .u64 (num:Int))).setCell ⟨w.heap.size,1,none⟩ (.slice y q.length z)).setCell ⟨w.heap.size+1,0,none⟩ .nilIface);rw[hZ];have mZ:Mod (fun k=>k=w.heap.size∨k=w.heap.size+1) wr Z:=by
      rw[←hZ];exact(((Mod.refl (fun k=>k=w.heap.size∨k=w.heap.size+1) wr).setCell (p:=⟨w.heap.size,0,none⟩) (.inl (.inl rfl)) _).setCell (p:=⟨w.heap.size,1,none⟩) (.inl (.inl rfl)) _).setCell (p:=⟨w.heap.size+1,0,none⟩) (.inl (.inr rfl)) _
     have o1:=zc (i:=1) (v:=.slice y q.length z) (zc (i:=0) (v:=.int .u64 (num:Int)) ar.out);have pZ:zlc Z w.heap.size num (.slice y q.length z):=by
      unfold zlc;rw[←hZ];exact(((Mod.refl (fun k=>k=w.heap.size+1) _).setCell (p:=⟨w.heap.size+1,0,none⟩) (.inl rfl) _).obj (by show ¬w.heap.size=w.heap.size+1;omega) o1).trans (by simp)
     have eZ:zof Z (w.heap.size+1) .nilIface:=by
      unfold zof;rw[←hZ];have e1:=(((Mod.refl (fun k=>k=w.heap.size) wr).setCell (p:=⟨w.heap.size,0,none⟩) (.inl rfl) (.int .u64 (num:Int))).setCell (p:=⟨w.heap.size,1,none⟩) (.inl rfl) (.slice y q.length z)).obj (by show ¬w.heap.size+1=w.heap.size;omega) ac.out;exact(zc (i:=0) e1).trans (by simp)
     refine zpS (zaC l) w Z _ w.heap.size (w.heap.size+1) num _ _ _ (.slice y q.length z) q (by rfl) (by rfl) (Hm.out.then mZ (fun i hi=>.inr (by rcases hi with rfl|rfl<;>omega))) pZ eZ ?_ a0.out a3.out Y.out;exact N.out.mod mZ (fun i hi=>.inr (by
      rcases hi with rfl|rfl
      ·exact⟨_,_,_,ar.out,by decide,by decide⟩
      ·exact⟨_,_,_,ac.out,by decide,by decide⟩))
theorem zci(v:Value)(bs:List UInt8)(w:World)(hb:BR w v bs)(a:Tab w)(hl:bs.length<1099511627776):Calls Tryz.prog 74 #[v] w (zai w (dec bs)):=by
 unfold dec;by_cases h4:bs.length<4
 ·rw[if_pos h4];exact zlw v bs w hb h4
 ·rw[if_neg h4];obtain⟨n,b⟩:∃n,bs.length=n+4:=⟨bs.length-4,by omega⟩;rw[show bs.length-4=n by omega];by_cases hs:be4 bs n=crc (bs.take n)
  ·rw[if_pos hs];exact zog v bs n w hb a b hs (by omega)
  ·rw[if_neg hs];exact zpR v bs n w hb a b hs
end Go.Proofs.YtddfdpbaiedcjaaGreatDoor
namespace Go.Proofs.YtddfdpbaiedcjaaGreatDoor
open Go.RowKit Go.Extern.Stop Go.Stop Go.Extern
theorem zfE(t:Addr)(w:World):(ReflectliteValue.unpack (.iface 164 (.pointer (some t)))).run Tryz.prog w
  = .ok (.agg #[.pointer (some ⟨2,164,none⟩),.pointer (some ⟨w.heap.size,0,none⟩),.int .u64 150]) (w.alloc (.cells #[.pointer (some t)] 164)):=by kernel_rfl
theorem zlz (a : Addr) (w : World) : (ReflectliteValue.methodAny (ReflectliteValue.valueError "reflectlite.Value.Type" 0) (fun t _ _ _ => ReflectliteType.toType t) #[.agg #[.pointer (some ⟨2, 164, none⟩), .pointer (some a), .int .u64 150]]).run Tryz.prog w
  = .ok (.iface 286 (.agg #[.pointer (some ⟨2,164,none⟩)])) w:=by kernel_rfl
theorem zlA(w:World):((ReflectliteType.abiMethod fun t=>(fun a:Nat=>Value.int IntKind.u8 (a:Int)) <$> Rtype.kind t) #[.pointer (some ⟨2,164,none⟩)]).run Tryz.prog w = .ok (.int .u8 22) w:=by kernel_rfl
theorem zjC(w:World):((ReflectliteType.abiMethod fun t=>(fun a:Nat=>Value.int IntKind.u8 (a:Int)) <$> Rtype.kind t) #[.pointer (some ⟨2,162,none⟩)]).run Tryz.prog w = .ok (.int .u8 22) w:=by kernel_rfl
theorem zjD(a:Addr)(w:World):(ReflectliteValue.parts (.agg #[.pointer (some ⟨2,164,none⟩),.pointer (some a),.int .u64 150])).run Tryz.prog w = .ok (some (164,a,150)) w:=by kernel_rfl
theorem zlB(w:World):(ReflectliteType.method ReflectliteType.elem #[.agg #[.pointer (some ⟨2,164,none⟩)]]).run Tryz.prog w = .ok (.iface 286 (.agg #[.pointer (some ⟨2,162,none⟩)])) w:=by kernel_rfl
theorem zlC (w : World) : (ReflectliteType.relation "Implements" ReflectliteType.implements_ #[.agg #[.pointer (some ⟨2, 162, none⟩)], .iface 286 (.agg #[.pointer (some ⟨2, 98, none⟩)])]).run Tryz.prog w = .ok (.bool true) w := by kernel_rfl
theorem zlD(w:World):(Rtype.elem? 164).run Tryz.prog w = .ok (some 162) w:=by kernel_rfl
theorem zkl(t:Addr)(w:World):(ReflectliteValue.unpack (.iface 168 (.pointer (some t)))).run Tryz.prog w
  = .ok (.agg #[.pointer (some ⟨2,168,none⟩),.pointer (some ⟨w.heap.size,0,none⟩),.int .u64 150]) (w.alloc (.cells #[.pointer (some t)] 168)):=by kernel_rfl
theorem zpU (a : Addr) (w : World) : (ReflectliteValue.methodAny (ReflectliteValue.valueError "reflectlite.Value.Type" 0) (fun t _ _ _ => ReflectliteType.toType t) #[.agg #[.pointer (some ⟨2, 168, none⟩), .pointer (some a), .int .u64 150]]).run Tryz.prog w
  = .ok (.iface 286 (.agg #[.pointer (some ⟨2,168,none⟩)])) w:=by kernel_rfl
theorem zpV(w:World):((ReflectliteType.abiMethod fun t=>(fun a:Nat=>Value.int IntKind.u8 (a:Int)) <$> Rtype.kind t) #[.pointer (some ⟨2,168,none⟩)]).run Tryz.prog w = .ok (.int .u8 22) w:=by kernel_rfl
theorem zoh(w:World):((ReflectliteType.abiMethod fun t=>(fun a:Nat=>Value.int IntKind.u8 (a:Int)) <$> Rtype.kind t) #[.pointer (some ⟨2,57,none⟩)]).run Tryz.prog w = .ok (.int .u8 2) w:=by kernel_rfl
theorem zjE(a:Addr)(w:World):(ReflectliteValue.parts (.agg #[.pointer (some ⟨2,168,none⟩),.pointer (some a),.int .u64 150])).run Tryz.prog w = .ok (some (168,a,150)) w:=by kernel_rfl
theorem zpW(w:World):(ReflectliteType.method ReflectliteType.elem #[.agg #[.pointer (some ⟨2,168,none⟩)]]).run Tryz.prog w = .ok (.iface 286 (.agg #[.pointer (some ⟨2,57,none⟩)])) w:=by kernel_rfl
theorem zpX (w : World) : (ReflectliteType.relation "Implements" ReflectliteType.implements_ #[.agg #[.pointer (some ⟨2, 57, none⟩)], .iface 286 (.agg #[.pointer (some ⟨2, 98, none⟩)])]).run Tryz.prog w = .ok (.bool true) w := by kernel_rfl
theorem zlE(w:World):(Rtype.elem? 168).run Tryz.prog w = .ok (some 57) w:=by kernel_rfl
theorem zlF (h : Value) (w : World) : (Go.method 451 286 (.agg #[h]) "Kind").run Tryz.prog w = .ok (234, h) w := by kernel_rfl
theorem zlG (h : Value) (w : World) : (Go.method 451 286 (.agg #[h]) "Elem").run Tryz.prog w = .ok (252, .agg #[h]) w := by kernel_rfl
theorem zlH (h : Value) (w : World) : (Go.method 451 286 (.agg #[h]) "Implements").run Tryz.prog w = .ok (253, .agg #[h]) w := by kernel_rfl
theorem zpY (h : Value) (w : World) : (Go.method 451 286 (.agg #[h]) "AssignableTo").run Tryz.prog w = .ok (250, .agg #[h]) w := by kernel_rfl
theorem m_cmp (h : Value) (w : World) : (Go.method 451 286 (.agg #[h]) "Comparable").run Tryz.prog w = .ok (251, .agg #[h]) w := by kernel_rfl
theorem zoi(v:Value)(w:World):(ReflectliteType.typeOf #[.iface 162 v]).run Tryz.prog w = .ok (.iface 286 (.agg #[.pointer (some ⟨2,162,none⟩)])) w:=by kernel_rfl
theorem zet(v:Value)(w:World):(ReflectliteType.typeOf #[.iface 57 v]).run Tryz.prog w = .ok (.iface 286 (.agg #[.pointer (some ⟨2,57,none⟩)])) w:=by kernel_rfl
theorem asg_FF (w : World) : (ReflectliteType.relation "AssignableTo" ReflectliteType.assignableTo #[.agg #[.pointer (some ⟨2, 162, none⟩)], .iface 286 (.agg #[.pointer (some ⟨2, 162, none⟩)])]).run Tryz.prog w = .ok (.bool true) w := by kernel_rfl
theorem asg_EF (w : World) : (ReflectliteType.relation "AssignableTo" ReflectliteType.assignableTo #[.agg #[.pointer (some ⟨2, 57, none⟩)], .iface 286 (.agg #[.pointer (some ⟨2, 162, none⟩)])]).run Tryz.prog w = .ok (.bool false) w := by kernel_rfl
theorem asg_EE (w : World) : (ReflectliteType.relation "AssignableTo" ReflectliteType.assignableTo #[.agg #[.pointer (some ⟨2, 57, none⟩)], .iface 286 (.agg #[.pointer (some ⟨2, 57, none⟩)])]).run Tryz.prog w = .ok (.bool true) w := by kernel_rfl
theorem zlI(e:Addr)(w:World):(ReflectliteValue.unpack (.iface 162 (.pointer (some e)))).run Tryz.prog w
  = .ok (.agg #[.pointer (some ⟨2,162,none⟩),.pointer (some ⟨w.heap.size,0,none⟩),.int .u64 150]) (w.alloc (.cells #[.pointer (some e)] 162)):=by kernel_rfl
theorem zlJ(n:Int)(w:World):(ReflectliteValue.unpack (.iface 57 (.int .i64 n))).run Tryz.prog w
  = .ok (.agg #[.pointer (some ⟨2,57,none⟩),.pointer (some ⟨w.heap.size,0,none⟩),.int .u64 130]) (w.alloc (.cells #[.int .i64 n] 57)):=by kernel_rfl
theorem rlm(z:Sem Value)(f:TypeId→Addr→Nat→Nat→Sem Value)(v:Value) :
  ReflectliteValue.method z f #[v]=(do match ←ReflectliteValue.parts v with|none=>z|some (t,a,fl)=>f t a fl (fl % 32)):=rfl
theorem rls(v x:Value):ReflectliteValue.set #[v,x]=(do
  let (some (dst,a,fl),some (src,b,_)):=(←ReflectliteValue.parts v,←ReflectliteValue.parts x)
   | unsupported (.noEntry "extern/(internal/reflectlite.Value).Set.zeroValue")
  if fl / ReflectliteValue.flagAddr % 2 == 0 then unsupported (.noEntry "extern/(internal/reflectlite.Value).Set.unaddressable")
  let val ←loadVar src b
  if ←Rtype.directlyAssignable dst src then storeVar dst a val
  else if ←Rtype.implements dst src then
   if (←Rtype.kind src)==20 then
    match val with
    | .nilIface => unsupported (.noEntry "extern/reflectlite: a nil value of one interface type handed on as a value of another")
    | _=>storeVar dst a val
   else storeVar dst a (.iface src val)
  else panicString ("reflectlite.Set: value of type " ++ (← Rtype.spelt src) ++ " is not assignable to type " ++ (← Rtype.spelt dst))
  pure (.tuple #[])):=rfl
theorem zjF(a p:Addr)(W:World)(ha:W.cell? a=some (.pointer (some p))) :
  (ReflectliteValue.method (ReflectliteValue.valueError "reflectlite.Value.IsNil" 0) ReflectliteValue.isNil #[.agg #[.pointer (some ⟨2, 164, none⟩), .pointer (some a), .int .u64 150]]).run Tryz.prog W = .ok (.bool false) W := by
 rw[rlm];simp only[Sem.run_bind,zjD,Result.andThen];simp[ReflectliteValue.isNil,loadVar,isAgg,underlying,Tryz.underlying164,ha,Result.andThen]
theorem vF_mk(p:Addr)(w:World):(ReflectliteValue.mk 162 p ReflectliteValue.flagAddr).run Tryz.prog w = .ok (.agg #[.pointer (some ⟨2,162,none⟩),.pointer (some p),.int .u64 406]) w:=by kernel_rfl
theorem zoj(a p:Addr)(W:World)(ha:W.cell? a=some (.pointer (some p))) :
  (ReflectliteValue.method (ReflectliteValue.valueError "reflectlite.Value.Elem" 0) ReflectliteValue.elem #[.agg #[.pointer (some ⟨2, 164, none⟩), .pointer (some a), .int .u64 150]]).run Tryz.prog W
   = .ok (.agg #[.pointer (some ⟨2,162,none⟩),.pointer (some p),.int .u64 406]) W:=by
 rw[rlm];simp only[Sem.run_bind,zjD,Result.andThen];simp[ReflectliteValue.elem,loadVar,isAgg,underlying,Tryz.underlying164,ha,Result.andThen,zlD,vF_mk]
theorem zlK(a:Addr)(w:World):(ReflectliteValue.parts (.agg #[.pointer (some ⟨2,162,none⟩),.pointer (some a),.int .u64 406])).run Tryz.prog w = .ok (some (162,a,406)) w:=by kernel_rfl
theorem zlL(a:Addr)(w:World):(ReflectliteValue.parts (.agg #[.pointer (some ⟨2,162,none⟩),.pointer (some a),.int .u64 150])).run Tryz.prog w = .ok (some (162,a,150)) w:=by kernel_rfl
theorem zlM(w:World):(Rtype.directlyAssignable 162 162).run Tryz.prog w = .ok true w:=by kernel_rfl
theorem vF_set(a b:Addr)(e:Addr)(old:Value)(W:World)(hb:W.cell? b=some (.pointer (some e)))(ht:W.cell? a=some old)(hf:W.frozen? a=false) :
  (ReflectliteValue.set #[.agg #[.pointer (some ⟨2,162,none⟩),.pointer (some a),.int .u64 406],.agg #[.pointer (some ⟨2,162,none⟩),.pointer (some b),.int .u64 150]]).run Tryz.prog W
   = .ok (.tuple #[]) (W.setCell a (.pointer (some e))):=by
 rw[rls];simp only[Sem.run_bind,zlK,zlL,Result.andThen];simp[ReflectliteValue.flagAddr,loadVar,isAgg,underlying,Tryz.underlying162,hb,Result.andThen,zlM,storeVar,Value.cells,storeCells,Addr.add];rw[run_store Tryz.prog W a _ _ (by rfl)];simp[ht,hf]
theorem zok(a p:Addr)(W:World)(ha:W.cell? a=some (.pointer (some p))) :
  (ReflectliteValue.method (ReflectliteValue.valueError "reflectlite.Value.IsNil" 0) ReflectliteValue.isNil #[.agg #[.pointer (some ⟨2, 168, none⟩), .pointer (some a), .int .u64 150]]).run Tryz.prog W = .ok (.bool false) W := by
 rw[rlm];simp only[Sem.run_bind,zjE,Result.andThen];simp[ReflectliteValue.isNil,loadVar,isAgg,underlying,Tryz.underlying168,ha,Result.andThen]
theorem vE_mk(p:Addr)(w:World):(ReflectliteValue.mk 57 p ReflectliteValue.flagAddr).run Tryz.prog w = .ok (.agg #[.pointer (some ⟨2,57,none⟩),.pointer (some p),.int .u64 386]) w:=by kernel_rfl
theorem zol(a p:Addr)(W:World)(ha:W.cell? a=some (.pointer (some p))) :
  (ReflectliteValue.method (ReflectliteValue.valueError "reflectlite.Value.Elem" 0) ReflectliteValue.elem #[.agg #[.pointer (some ⟨2, 168, none⟩), .pointer (some a), .int .u64 150]]).run Tryz.prog W
   = .ok (.agg #[.pointer (some ⟨2,57,none⟩),.pointer (some p),.int .u64 386]) W:=by
 rw[rlm];simp only[Sem.run_bind,zjE,Result.andThen];simp[ReflectliteValue.elem,loadVar,isAgg,underlying,Tryz.underlying168,ha,Result.andThen,zlE,vE_mk]
theorem zlN(a:Addr)(w:World):(ReflectliteValue.parts (.agg #[.pointer (some ⟨2,57,none⟩),.pointer (some a),.int .u64 386])).run Tryz.prog w = .ok (some (57,a,386)) w:=by kernel_rfl
theorem zlO(a:Addr)(w:World):(ReflectliteValue.parts (.agg #[.pointer (some ⟨2,57,none⟩),.pointer (some a),.int .u64 130])).run Tryz.prog w = .ok (some (57,a,130)) w:=by kernel_rfl
theorem zlP(w:World):(Rtype.directlyAssignable 57 57).run Tryz.prog w = .ok true w:=by kernel_rfl
theorem vE_set(a b:Addr)(e:Int)(old:Value)(W:World)(hb:W.cell? b=some (.int .i64 e))(ht:W.cell? a=some old)(hf:W.frozen? a=false) :
  (ReflectliteValue.set #[.agg #[.pointer (some ⟨2,57,none⟩),.pointer (some a),.int .u64 386],.agg #[.pointer (some ⟨2,57,none⟩),.pointer (some b),.int .u64 130]]).run Tryz.prog W
   = .ok (.tuple #[]) (W.setCell a (.int .i64 e)):=by
 rw[rls];simp only[Sem.run_bind,zlN,zlO,Result.andThen];simp[ReflectliteValue.flagAddr,loadVar,isAgg,underlying,Tryz.underlying57,hb,Result.andThen,zlP,storeVar,Value.cells,storeCells,Addr.add];rw[run_store Tryz.prog W a _ _ (by rfl)];simp[ht,hf]
def zd8(w:World):Prop:=w.cell? ⟨0,0,none⟩=some (.iface 286 (.agg #[.pointer (some ⟨2,98,none⟩)]))
theorem as_FF(e:Addr)(t:Addr)(old:Value)(w:World)(hg:zd8 w)(a:w.cell? t=some old)(c:w.frozen? t=false) :
  Calls Tryz.prog 75 #[.iface 162 (.pointer (some e)),.iface 164 (.pointer (some t))] w fun ev w'=>ev = .returned (.bool true)∧w'=((((w.alloc (.cells #[.pointer (some t)] 164)).alloc (.cells #[.pointer (some ⟨2,164,none⟩),.pointer (some ⟨w.heap.size,0,none⟩),.int .u64 150] 247)).alloc (.cells #[.pointer (some ⟨2,164,none⟩),.pointer (some ⟨w.heap.size,0,none⟩),.int .u64 150] 247)).alloc (.cells #[.pointer (some e)] 162)).setCell t (.pointer (some e)):=by
 unfold zd8 at hg;have h6 := @run_callFunc_extern Tryz.prog 133 _ (fun args=>ReflectliteValue.unpack (args.getD 0 (.tuple #[]))) Tryz.func133 (by kernel_rfl) (by kernel_rfl) (by kernel_rfl) (by kernel_rfl);have h7 := @run_callFunc_extern Tryz.prog 134 _ (ReflectliteValue.methodAny (ReflectliteValue.valueError "reflectlite.Value.Type" 0) (fun t _ _ _ => ReflectliteType.toType t)) Tryz.func134 (by kernel_rfl) (by kernel_rfl) (by kernel_rfl) (by kernel_rfl);have h8 := @run_callFunc_extern Tryz.prog 135 _ (ReflectliteValue.method (ReflectliteValue.valueError "reflectlite.Value.IsNil" 0) ReflectliteValue.isNil) Tryz.func135 (by kernel_rfl) (by kernel_rfl) (by kernel_rfl) (by kernel_rfl);have h27 := @run_callFunc_extern Tryz.prog 234 _ (ReflectliteType.abiMethod fun t=>do pure (.int .u8 (←Rtype.kind t))) Tryz.func234 (by kernel_rfl) (by kernel_rfl) (by kernel_rfl) (by kernel_rfl);have h37 := @run_callFunc_extern Tryz.prog 252 _ (ReflectliteType.method ReflectliteType.elem) Tryz.func252 (by kernel_rfl) (by kernel_rfl) (by kernel_rfl) (by kernel_rfl);have h38 := @run_callFunc_extern Tryz.prog 253 _ (ReflectliteType.relation "Implements" ReflectliteType.implements_) Tryz.func253 (by kernel_rfl) (by kernel_rfl) (by kernel_rfl) (by kernel_rfl);have h10 := @run_callFunc_extern Tryz.prog 137 _ ReflectliteType.typeOf Tryz.func137 (by kernel_rfl) (by kernel_rfl) (by kernel_rfl) (by kernel_rfl);have h35 := @run_callFunc_extern Tryz.prog 250 _ (ReflectliteType.relation "AssignableTo" ReflectliteType.assignableTo) Tryz.func250 (by kernel_rfl) (by kernel_rfl) (by kernel_rfl) (by kernel_rfl);have h11 := @run_callFunc_extern Tryz.prog 191 _ (ReflectliteValue.method (ReflectliteValue.valueError "reflectlite.Value.Elem" 0) ReflectliteValue.elem) Tryz.func191 (by kernel_rfl) (by kernel_rfl) (by kernel_rfl) (by kernel_rfl);have h12 := @run_callFunc_extern Tryz.prog 192 _ ReflectliteValue.set Tryz.func192 (by kernel_rfl) (by kernel_rfl) (by kernel_rfl) (by kernel_rfl);have tO:=zoi;have mA:=zpY;have a25:=asg_FF;have v25:=zlI;have f6:=zfE;have f7:=zlz;have mK:=zlF;have mE:=zlG;have mI:=zlH;have k27:=zlA;have k25:=zjC;have e27:=zlB;have i25:=zlC;have n8:=zjF ⟨w.heap.size,0,none⟩ t ((w.alloc (.cells #[.pointer (some t)] 164)).alloc (.cells #[.pointer (some ⟨2,164,none⟩),.pointer (some ⟨w.heap.size,0,none⟩),.int .u64 150] 247)) (by simp);have d:0<w.heap.size:=by
  rcases Nat.eq_zero_or_pos w.heap.size with h0|h
  ·simp[World.cell?,h0]at hg
  ·exact h
 have hg2:((w.alloc (.cells #[.pointer (some t)] 164)).alloc (.cells #[.pointer (some ⟨2,164,none⟩),.pointer (some ⟨w.heap.size,0,none⟩),.int .u64 150] 247)).cell? ⟨0,0,none⟩=some (.iface 286 (.agg #[.pointer (some ⟨2,98,none⟩)])):=by
  rw[World.cell?_alloc_lt _ _ ⟨0,0,none⟩ (by simp),World.cell?_alloc_lt _ _ ⟨0,0,none⟩ d];exact hg
 have b:t.block<w.heap.size:=by
  rcases Nat.lt_or_ge t.block w.heap.size with h|h
  ·exact h
  ·simp[World.cell?,Array.getElem?_eq_none h]at a
 have el:=zoj ⟨w.heap.size,0,none⟩ t (((w.alloc (.cells #[.pointer (some t)] 164)).alloc (.cells #[.pointer (some ⟨2,164,none⟩),.pointer (some ⟨w.heap.size,0,none⟩),.int .u64 150] 247)).alloc (.cells #[.pointer (some ⟨2,164,none⟩),.pointer (some ⟨w.heap.size,0,none⟩),.int .u64 150] 247)) (by rw[World.cell?_alloc_lt _ _ ⟨w.heap.size,0,none⟩ (by simp;omega)];simp);have st:=vF_set t ⟨w.heap.size+1+1+1,0,none⟩ e old ((((w.alloc (.cells #[.pointer (some t)] 164)).alloc (.cells #[.pointer (some ⟨2,164,none⟩),.pointer (some ⟨w.heap.size,0,none⟩),.int .u64 150] 247)).alloc (.cells #[.pointer (some ⟨2,164,none⟩),.pointer (some ⟨w.heap.size,0,none⟩),.int .u64 150] 247)).alloc (.cells #[.pointer (some e)] 162))
  (by rw[World.cell?_alloc_at _ _ _ _ (by simp)];rfl)
  (by rw[World.cell?_alloc_lt _ _ t (by simp;omega),World.cell?_alloc_lt _ _ t (by simp;omega),World.cell?_alloc_lt _ _ t (by simp;omega),World.cell?_alloc_lt _ _ t b];exact a)
  (by rw[World.frozen?_alloc_old _ _ t (by simp;omega),World.frozen?_alloc_old _ _ t (by simp;omega),World.frozen?_alloc_old _ _ t (by simp;omega),World.frozen?_alloc_old _ _ t (Nat.ne_of_lt b)];exact c)
 go_enter Tryz.func75,Tryz.ntmps75;go_wp2;refine wp_loop_rounds 1 ?_;rw[rounds_succ];go_wp2;go_ret;exact⟨rfl,rfl⟩
theorem as_EE(e:Int)(t:Addr)(old:Value)(w:World)(hg:zd8 w)(a:w.cell? t=some old)(c:w.frozen? t=false) :
  Calls Tryz.prog 75 #[.iface 57 (.int .i64 e),.iface 168 (.pointer (some t))] w fun ev w'=>ev = .returned (.bool true)∧w'=((((w.alloc (.cells #[.pointer (some t)] 168)).alloc (.cells #[.pointer (some ⟨2,168,none⟩),.pointer (some ⟨w.heap.size,0,none⟩),.int .u64 150] 247)).alloc (.cells #[.pointer (some ⟨2,168,none⟩),.pointer (some ⟨w.heap.size,0,none⟩),.int .u64 150] 247)).alloc (.cells #[.int .i64 e] 57)).setCell t (.int .i64 e):=by
 unfold zd8 at hg;have h6 := @run_callFunc_extern Tryz.prog 133 _ (fun args=>ReflectliteValue.unpack (args.getD 0 (.tuple #[]))) Tryz.func133 (by kernel_rfl) (by kernel_rfl) (by kernel_rfl) (by kernel_rfl);have h7 := @run_callFunc_extern Tryz.prog 134 _ (ReflectliteValue.methodAny (ReflectliteValue.valueError "reflectlite.Value.Type" 0) (fun t _ _ _ => ReflectliteType.toType t)) Tryz.func134 (by kernel_rfl) (by kernel_rfl) (by kernel_rfl) (by kernel_rfl);have h8 := @run_callFunc_extern Tryz.prog 135 _ (ReflectliteValue.method (ReflectliteValue.valueError "reflectlite.Value.IsNil" 0) ReflectliteValue.isNil) Tryz.func135 (by kernel_rfl) (by kernel_rfl) (by kernel_rfl) (by kernel_rfl);have h27 := @run_callFunc_extern Tryz.prog 234 _ (ReflectliteType.abiMethod fun t=>do pure (.int .u8 (←Rtype.kind t))) Tryz.func234 (by kernel_rfl) (by kernel_rfl) (by kernel_rfl) (by kernel_rfl);have h37 := @run_callFunc_extern Tryz.prog 252 _ (ReflectliteType.method ReflectliteType.elem) Tryz.func252 (by kernel_rfl) (by kernel_rfl) (by kernel_rfl) (by kernel_rfl);have h38 := @run_callFunc_extern Tryz.prog 253 _ (ReflectliteType.relation "Implements" ReflectliteType.implements_) Tryz.func253 (by kernel_rfl) (by kernel_rfl) (by kernel_rfl) (by kernel_rfl);have h10 := @run_callFunc_extern Tryz.prog 137 _ ReflectliteType.typeOf Tryz.func137 (by kernel_rfl) (by kernel_rfl) (by kernel_rfl) (by kernel_rfl);have h35 := @run_callFunc_extern Tryz.prog 250 _ (ReflectliteType.relation "AssignableTo" ReflectliteType.assignableTo) Tryz.func250 (by kernel_rfl) (by kernel_rfl) (by kernel_rfl) (by kernel_rfl);have h11 := @run_callFunc_extern Tryz.prog 191 _ (ReflectliteValue.method (ReflectliteValue.valueError "reflectlite.Value.Elem" 0) ReflectliteValue.elem) Tryz.func191 (by kernel_rfl) (by kernel_rfl) (by kernel_rfl) (by kernel_rfl);have h12 := @run_callFunc_extern Tryz.prog 192 _ ReflectliteValue.set Tryz.func192 (by kernel_rfl) (by kernel_rfl) (by kernel_rfl) (by kernel_rfl);have tO:=zet;have mA:=zpY;have a25:=asg_EE;have v25:=zlJ;have f6:=zkl;have f7:=zpU;have mK:=zlF;have mE:=zlG;have mI:=zlH;have k27:=zpV;have k25:=zoh;have e27:=zpW;have i25:=zpX;have n8:=zok ⟨w.heap.size,0,none⟩ t ((w.alloc (.cells #[.pointer (some t)] 168)).alloc (.cells #[.pointer (some ⟨2,168,none⟩),.pointer (some ⟨w.heap.size,0,none⟩),.int .u64 150] 247)) (by simp);have d:0<w.heap.size:=by
  rcases Nat.eq_zero_or_pos w.heap.size with h0|h
  ·simp[World.cell?,h0]at hg
  ·exact h
 have hg2:((w.alloc (.cells #[.pointer (some t)] 168)).alloc (.cells #[.pointer (some ⟨2,168,none⟩),.pointer (some ⟨w.heap.size,0,none⟩),.int .u64 150] 247)).cell? ⟨0,0,none⟩=some (.iface 286 (.agg #[.pointer (some ⟨2,98,none⟩)])):=by
  rw[World.cell?_alloc_lt _ _ ⟨0,0,none⟩ (by simp),World.cell?_alloc_lt _ _ ⟨0,0,none⟩ d];exact hg
 have b:t.block<w.heap.size:=by
  rcases Nat.lt_or_ge t.block w.heap.size with h|h
  ·exact h
  ·simp[World.cell?,Array.getElem?_eq_none h]at a
 have el:=zol ⟨w.heap.size,0,none⟩ t (((w.alloc (.cells #[.pointer (some t)] 168)).alloc (.cells #[.pointer (some ⟨2,168,none⟩),.pointer (some ⟨w.heap.size,0,none⟩),.int .u64 150] 247)).alloc (.cells #[.pointer (some ⟨2,168,none⟩),.pointer (some ⟨w.heap.size,0,none⟩),.int .u64 150] 247)) (by rw[World.cell?_alloc_lt _ _ ⟨w.heap.size,0,none⟩ (by simp;omega)];simp);have st:=vE_set t ⟨w.heap.size+1+1+1,0,none⟩ e old ((((w.alloc (.cells #[.pointer (some t)] 168)).alloc (.cells #[.pointer (some ⟨2,168,none⟩),.pointer (some ⟨w.heap.size,0,none⟩),.int .u64 150] 247)).alloc (.cells #[.pointer (some ⟨2,168,none⟩),.pointer (some ⟨w.heap.size,0,none⟩),.int .u64 150] 247)).alloc (.cells #[.int .i64 e] 57))
  (by rw[World.cell?_alloc_at _ _ _ _ (by simp)];rfl)
  (by rw[World.cell?_alloc_lt _ _ t (by simp;omega),World.cell?_alloc_lt _ _ t (by simp;omega),World.cell?_alloc_lt _ _ t (by simp;omega),World.cell?_alloc_lt _ _ t b];exact a)
  (by rw[World.frozen?_alloc_old _ _ t (by simp;omega),World.frozen?_alloc_old _ _ t (by simp;omega),World.frozen?_alloc_old _ _ t (by simp;omega),World.frozen?_alloc_old _ _ t (Nat.ne_of_lt b)];exact c)
 go_enter Tryz.func75,Tryz.ntmps75;go_wp2;refine wp_loop_rounds 1 ?_;rw[rounds_succ];go_wp2;go_ret;exact⟨rfl,rfl⟩
theorem zpZ(n:Int)(w:World):(Instr.typeAssert (.iface 57 (.int .i64 n)) 98 290 true).run Tryz.prog w = .ok (.tuple #[.nilIface,.bool false]) w:=run_typeAssert_lacksB Tryz.underlying290 (by kernel_rfl) (by kernel_rfl) _ _ w
theorem zp0(n:Int)(w:World):(Instr.typeAssert (.iface 57 (.int .i64 n)) 98 293 true).run Tryz.prog w = .ok (.tuple #[.nilIface,.bool false]) w:=run_typeAssert_lacksB Tryz.underlying293 (by kernel_rfl) (by kernel_rfl) _ _ w
theorem zp1(n:Int)(w:World):(Instr.typeAssert (.iface 57 (.int .i64 n)) 98 294 true).run Tryz.prog w = .ok (.tuple #[.nilIface,.bool false]) w:=run_typeAssert_lacksB Tryz.underlying294 (by kernel_rfl) (by kernel_rfl) _ _ w
theorem zp2(p:Addr)(w:World):(Instr.typeAssert (.iface 162 (.pointer (some p))) 98 297 true).run Tryz.prog w = .ok (.tuple #[.nilIface,.bool false]) w:=run_typeAssert_lacksB Tryz.underlying297 (by kernel_rfl) (by kernel_rfl) _ _ w
theorem zp3(p:Addr)(w:World):(Instr.typeAssert (.iface 162 (.pointer (some p))) 98 293 true).run Tryz.prog w = .ok (.tuple #[.iface 162 (.pointer (some p)),.bool true]) w:=run_typeAssert_hasB Tryz.underlying293 (by kernel_rfl) _ _ w
theorem zom (p : Addr) (w : World) : (Go.method 451 162 (.pointer (some p)) "Unwrap").run Tryz.prog w = .ok (240, .pointer (some p)) w := by kernel_rfl
theorem eq_FE(p:Addr)(n:Int)(w:World):(binOp .eql 98 (.iface 162 (.pointer (some p))) (.iface 57 (.int .i64 n))).run Tryz.prog w = .ok (.bool false) w:=run_eql_iface_types _ _ _ _ Tryz.underlying98 (by decide) w
theorem eq_EE(n:Int)(w:World):(binOp .eql 98 (.iface 57 (.int .i64 n)) (.iface 57 (.int .i64 n))).run Tryz.prog w = .ok (.bool true) w:=by
 have a:(Tryz.prog.info? 57).map (·.comparable)=some true:=by kernel_rfl
 obtain⟨i,hi,hc⟩:=Option.map_eq_some_iff.1 a;have h:∀d,(Op.equalIn (d+2) 98 (.iface 57 (.int .i64 n)) (.iface 57 (.int .i64 n))).run Tryz.prog w = .ok true w:=fun d=>by simp[Op.equalIn,run_underlying Tryz.underlying98,run_underlying Tryz.underlying57,typeInfo,hi,hc]
 simp only[binOp];simp[Op.equal,Op.maxDepth,h 9998]
theorem zpj (w : World) : (ReflectliteType.method (fun t => do Rtype.noPackHeld "Comparable" t; (fun a => Value.bool a.comparable) <$> typeInfo t) #[.agg #[.pointer (some ⟨2, 57, none⟩)]]).run Tryz.prog w = .ok (.bool true) w := by kernel_rfl
theorem as_EF(n:Int)(t:Addr)(old:Value)(w:World)(hg:zd8 w)(ht0:w.cell? t=some old) :
  Calls Tryz.prog 75 #[.iface 57 (.int .i64 n),.iface 164 (.pointer (some t))] w fun ev w'=>ev = .returned (.bool false)∧w'=(((w.alloc (.cells #[.pointer (some t)] 164)).alloc (.cells #[.pointer (some ⟨2,164,none⟩),.pointer (some ⟨w.heap.size,0,none⟩),.int .u64 150] 247)).alloc (.cells #[.pointer (some ⟨2,164,none⟩),.pointer (some ⟨w.heap.size,0,none⟩),.int .u64 150] 247)):=by
 unfold zd8 at hg;have h6 := @run_callFunc_extern Tryz.prog 133 _ (fun args=>ReflectliteValue.unpack (args.getD 0 (.tuple #[]))) Tryz.func133 (by kernel_rfl) (by kernel_rfl) (by kernel_rfl) (by kernel_rfl);have h7 := @run_callFunc_extern Tryz.prog 134 _ (ReflectliteValue.methodAny (ReflectliteValue.valueError "reflectlite.Value.Type" 0) (fun t _ _ _ => ReflectliteType.toType t)) Tryz.func134 (by kernel_rfl) (by kernel_rfl) (by kernel_rfl) (by kernel_rfl);have h8 := @run_callFunc_extern Tryz.prog 135 _ (ReflectliteValue.method (ReflectliteValue.valueError "reflectlite.Value.IsNil" 0) ReflectliteValue.isNil) Tryz.func135 (by kernel_rfl) (by kernel_rfl) (by kernel_rfl) (by kernel_rfl);have h27 := @run_callFunc_extern Tryz.prog 234 _ (ReflectliteType.abiMethod fun t=>do pure (.int .u8 (←Rtype.kind t))) Tryz.func234 (by kernel_rfl) (by kernel_rfl) (by kernel_rfl) (by kernel_rfl);have h37 := @run_callFunc_extern Tryz.prog 252 _ (ReflectliteType.method ReflectliteType.elem) Tryz.func252 (by kernel_rfl) (by kernel_rfl) (by kernel_rfl) (by kernel_rfl);have h38 := @run_callFunc_extern Tryz.prog 253 _ (ReflectliteType.relation "Implements" ReflectliteType.implements_) Tryz.func253 (by kernel_rfl) (by kernel_rfl) (by kernel_rfl) (by kernel_rfl);have h10 := @run_callFunc_extern Tryz.prog 137 _ ReflectliteType.typeOf Tryz.func137 (by kernel_rfl) (by kernel_rfl) (by kernel_rfl) (by kernel_rfl);have h35 := @run_callFunc_extern Tryz.prog 250 _ (ReflectliteType.relation "AssignableTo" ReflectliteType.assignableTo) Tryz.func250 (by kernel_rfl) (by kernel_rfl) (by kernel_rfl) (by kernel_rfl);have h11 := @run_callFunc_extern Tryz.prog 191 _ (ReflectliteValue.method (ReflectliteValue.valueError "reflectlite.Value.Elem" 0) ReflectliteValue.elem) Tryz.func191 (by kernel_rfl) (by kernel_rfl) (by kernel_rfl) (by kernel_rfl);have h12 := @run_callFunc_extern Tryz.prog 192 _ ReflectliteValue.set Tryz.func192 (by kernel_rfl) (by kernel_rfl) (by kernel_rfl) (by kernel_rfl);have tO:=zet;have mA:=zpY;have a25:=asg_EF;have f6:=zfE;have f7:=zlz;have mK:=zlF;have mE:=zlG;have mI:=zlH;have k27:=zlA;have k25:=zjC;have e27:=zlB;have i25:=zlC;have x1:=zpZ;have x2:=zp0;have x3:=zp1;have n8:=zjF ⟨w.heap.size,0,none⟩ t ((w.alloc (.cells #[.pointer (some t)] 164)).alloc (.cells #[.pointer (some ⟨2,164,none⟩),.pointer (some ⟨w.heap.size,0,none⟩),.int .u64 150] 247)) (by simp);have a:0<w.heap.size:=by
  rcases Nat.eq_zero_or_pos w.heap.size with h0|h
  ·simp[World.cell?,h0]at hg
  ·exact h
 have hg2:((w.alloc (.cells #[.pointer (some t)] 164)).alloc (.cells #[.pointer (some ⟨2,164,none⟩),.pointer (some ⟨w.heap.size,0,none⟩),.int .u64 150] 247)).cell? ⟨0,0,none⟩=some (.iface 286 (.agg #[.pointer (some ⟨2,98,none⟩)])):=by
  rw[World.cell?_alloc_lt _ _ ⟨0,0,none⟩ (by simp),World.cell?_alloc_lt _ _ ⟨0,0,none⟩ a];exact hg
 go_enter Tryz.func75,Tryz.ntmps75;go_wp2;refine wp_loop_rounds 1 ?_;rw[rounds_succ];go_wp2;go_ret;exact⟨rfl,rfl⟩
theorem is_EE(n:Int)(w:World):Calls Tryz.prog 76 #[.iface 57 (.int .i64 n),.iface 57 (.int .i64 n)] w fun ev w'=>ev = .returned (.bool true)∧w=w':=by
 have h10 := @run_callFunc_extern Tryz.prog 137 _ ReflectliteType.typeOf Tryz.func137 (by kernel_rfl) (by kernel_rfl) (by kernel_rfl) (by kernel_rfl);have h36 := @run_callFunc_extern Tryz.prog 251 _ (ReflectliteType.method (fun t => do Rtype.noPackHeld "Comparable" t; pure (.bool (← typeInfo t).comparable))) Tryz.func251 (by kernel_rfl) (by kernel_rfl) (by kernel_rfl) (by kernel_rfl);have tO:=zet;have mC:=m_cmp;have cE:=zpj;have q1:=eq_EE;go_enter Tryz.func76,Tryz.ntmps76;go_wp2;refine wp_loop_rounds 1 ?_;rw[rounds_succ];go_wp2;go_ret;exact⟨rfl,rfl⟩
theorem is_FE(p:Nat)(n:Int)(w:World)(hc:w.cell? ⟨p,0,none⟩=some (.int .i64 n)):Calls Tryz.prog 76 #[.iface 162 (.pointer (some ⟨p,0,none⟩)),.iface 57 (.int .i64 n)] w fun ev w'=>ev = .returned (.bool true)∧w=w':=by
 have h10 := @run_callFunc_extern Tryz.prog 137 _ ReflectliteType.typeOf Tryz.func137 (by kernel_rfl) (by kernel_rfl) (by kernel_rfl) (by kernel_rfl);have h36 := @run_callFunc_extern Tryz.prog 251 _ (ReflectliteType.method (fun t => do Rtype.noPackHeld "Comparable" t; pure (.bool (← typeInfo t).comparable))) Tryz.func251 (by kernel_rfl) (by kernel_rfl) (by kernel_rfl) (by kernel_rfl);have tO:=zet;have mC:=m_cmp;have cE:=zpj;have q1:=eq_EE;have q2:=eq_FE;have x1:=zp2;have x2:=zp3;have mU:=zom;go_enter Tryz.func76,Tryz.ntmps76;go_wp2;refine wp_loop_rounds 2 ?_;rw[rounds_succ];go_wp2;rw[rounds_succ];go_wp2;go_ret;exact⟨rfl,rfl⟩
end Go.Proofs.YtddfdpbaiedcjaaGreatDoor
