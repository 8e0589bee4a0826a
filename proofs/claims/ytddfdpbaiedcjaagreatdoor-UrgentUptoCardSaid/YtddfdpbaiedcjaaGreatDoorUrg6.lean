/- A part of Urgent's proof. Conditions: none. Part 6 of 32. -/
import Derived.Test.YtddfdpbaiedcjaaGreatDoorUrg5
import Derived.Deep.RegionHeld3
import Derived.Deep.DeepCutAuto
import Derived.Test.YtddfdpbaiedcjaaGreatDoorUrg3
set_option maxRecDepth 100000
set_option maxHeartbeats 16000000
set_option linter.all false
namespace Go.Proofs.YtddfdpbaiedcjaaGreatDoor
open Go.RowKit
def WF(rs:zD):Prop:=(∀i,i<rs.length→loAt rs i≤hiAt rs i∧hiAt rs i<18446744073709551616)∧∀i j,i<j→j<rs.length→hiAt rs i+1<loAt rs j
theorem zcO{rs:zD}{lo hi m1 a:Nat}(h:WF rs)(hlh:lo≤hi)(h1:zag rs.length (zel rs lo) m1)(h2:zag rs.length (zaH rs hi) a):m1≤a:=by
 obtain⟨a1,b1,c1⟩:=h1;obtain⟨a2,b2,c2⟩:=h2;by_cases hlt:a<m1
 ·have b:=b1 (by omega);have e2:=c2 (by omega);simp only[zel,decide_eq_false_iff_not]at b;simp only[zaH,decide_eq_true_eq]at e2;have hw:=h.1 a (by omega);by_cases he:a=m1-1
  ·rw[←he]at b;omega
  ·have:=h.2 a (m1-1) (by omega) (by omega);have hw2:=h.1 (m1-1) (by omega);omega
 ·omega
theorem zax{w:World}{b o:Nat}{v:Value}(h:w.cell? ⟨b,o,none⟩=some v):(w.setCell ⟨b,o,none⟩ v).heap[b]?=w.heap[b]?:=by
 unfold World.cell? at h;simp only[World.setCell,Array.getElem?_modify];split at h
 ·rename_i c e fz hb;simp only at hb;rw[hb];simp only[Option.isSome_none,Bool.false_eq_true,if_false]at h;have:c.setIfInBounds o v=c:=by
   apply Array.ext_getElem?;intro j;rw[Array.getElem?_setIfInBounds];split
   ·rename_i hj;subst hj;split
    ·exact h.symm
    ·rename_i hn;simp[Array.getElem?_eq_none (Nat.le_of_not_lt hn)]at h
   ·rfl
  simp[this]
 ·cases h
theorem zgd(w:World)(b o:Nat)(x y z:Value):(((w.setCell ⟨b,o,none⟩ x).setCell ⟨b,o+1,none⟩ y).setCell ⟨b,o,none⟩ z).heap[b]?=((w.setCell ⟨b,o,none⟩ z).setCell ⟨b,o+1,none⟩ y).heap[b]?:=by
 simp only[World.setCell,Array.getElem?_modify,if_true];cases w.heap[b]? with
 | none=>rfl
 | some ob =>
  cases ob with
  | cells c e fz =>
   simp only[Option.map_some,Option.isSome_none,Bool.false_eq_true,if_false]
   congr 2
   apply Array.ext_getElem?;intro j;simp only[Array.getElem?_setIfInBounds,Array.size_setIfInBounds];by_cases h1:o=j
   ·subst h1;simp
   ·by_cases h2:o+1=j
    ·subst h2;simp
    ·simp[h1,h2]
  | _=>rfl
structure zcf(w W:World)(b o S L H:Nat)(v:Value)(rs:zD)(fl most lo hi:Nat):Prop where
 cs:W.cell? ⟨S,0,none⟩=some (.pointer (some ⟨b,o,none⟩))
 cl:W.cell? ⟨L,0,none⟩=some (.int .u64 (lo:Int))
 ch:W.cell? ⟨H,0,none⟩=some (.int .u64 (hi:Int))
 fz:W.frozen? ⟨L,0,none⟩=false
 set:zbz W b o v rs fl most
 mod:Mod NoB w W
 ns:w.heap.size≤S∧w.heap.size≤L∧w.heap.size≤H
 ne:S≠L∧H≠L
theorem zcf.drewN{w W:World}{b o S L H:Nat}{v:Value}{rs:zD}{fl most lo hi:Nat}(h:zcf w W b o S L H v rs fl most lo hi)(k:Nat):zcf w (W.drewN k) b o S L H v rs fl most lo hi :=
 ⟨h.cs,h.cl,h.ch,h.fz,h.set.mod ((Mod.refl NoB W).drewN k) (fun x=>x) (fun _ _ x=>x),h.mod.drewN k,h.ns,h.ne⟩
theorem zcf.alloc{w W:World}{b o S L H:Nat}{v:Value}{rs:zD}{fl most lo hi:Nat}(h:zcf w W b o S L H v rs fl most lo hi)(x:Obj):zcf w (W.alloc x) b o S L H v rs fl most lo hi:=by
 have a:Mod NoB W (W.alloc x):=(Mod.refl NoB W).alloc x;exact⟨a.cell (fun x=>x) h.cs,a.cell (fun x=>x) h.cl,a.cell (fun x=>x) h.ch,by rw[World.frozen?_of_block (w:=W) (a.block L (zk h.cl) (fun x=>x))];exact h.fz,h.set.mod a (fun x=>x) (fun _ _ x=>x),h.mod.alloc x,h.ns,h.ne⟩
theorem zcf.start(w:World)(b o:Nat)(v:Value)(rs:zD)(fl most lo hi t1 a c:Nat)(h:zbz w b o v rs fl most) :
  zcf w (((w.alloc (.cells #[.pointer (some ⟨b,o,none⟩)] t1)).alloc (.cells #[.int .u64 lo] a)).alloc (.cells #[.int .u64 hi] c)) b o w.heap.size (w.heap.size+1) (w.heap.size+1+1) v rs fl most lo hi:=by
 have d:Mod NoB w (((w.alloc (.cells #[.pointer (some ⟨b,o,none⟩)] t1)).alloc (.cells #[.int .u64 lo] a)).alloc (.cells #[.int .u64 hi] c)):=(((Mod.refl _ _).alloc _).alloc _).alloc _;have e1:(((w.alloc (.cells #[.pointer (some ⟨b,o,none⟩)] t1)).alloc (.cells #[.int .u64 lo] a)).alloc (.cells #[.int .u64 hi] c)).heap[w.heap.size]?=some (.cells #[.pointer (some ⟨b,o,none⟩)] t1 (0,0)):=by
  rw[Below.heap_alloc _ _ _ (by simp;omega),Below.heap_alloc _ _ _ (by simp)];exact heap_alloc_new w _
 have e:(((w.alloc (.cells #[.pointer (some ⟨b,o,none⟩)] t1)).alloc (.cells #[.int .u64 lo] a)).alloc (.cells #[.int .u64 hi] c)).heap[w.heap.size+1]?=some (.cells #[.int .u64 lo] a (0,0)):=by
  rw[Below.heap_alloc _ _ _ (by simp)];have:=heap_alloc_new (w.alloc (.cells #[.pointer (some ⟨b,o,none⟩)] t1)) (.cells #[.int .u64 lo] a);simpa using this
 have e3:(((w.alloc (.cells #[.pointer (some ⟨b,o,none⟩)] t1)).alloc (.cells #[.int .u64 lo] a)).alloc (.cells #[.int .u64 hi] c)).heap[w.heap.size+2]?=some (.cells #[.int .u64 hi] c (0,0)):=by
  have:=heap_alloc_new ((w.alloc (.cells #[.pointer (some ⟨b,o,none⟩)] t1)).alloc (.cells #[.int .u64 lo] a)) (.cells #[.int .u64 hi] c);simpa using this
 exact⟨za e1 rfl,za e rfl,za e3 rfl,zd e,h.mod d (fun x=>x) (fun _ _ x=>x),d,⟨by omega,by omega,by omega⟩,⟨by omega,by omega⟩⟩
theorem zcf.raise{w W:World}{b o S L H:Nat}{v:Value}{rs:zD}{fl most lo hi:Nat}(h:zcf w W b o S L H v rs fl most lo hi)(hb:b<w.heap.size)(hv:∀g,v.ownBlock=some g→g<w.heap.size)(a:Nat) :
  zcf w (W.setCell ⟨L,0,none⟩ (.int .u64 (a:Int))) b o S L H v rs fl most a hi:=by
 have c:Mod (fun k=>k=L) W (W.setCell ⟨L,0,none⟩ (.int .u64 (a:Int))):=(Mod.refl (fun k=>k=L) W).setCell (p:=⟨L,0,none⟩) (.inl rfl) _;obtain⟨n1,n2,n3⟩:=h.ns;exact⟨c.cell h.ne.1 h.cs,by rw[World.cell?_setCell_same _ _ _ h.cl],c.cell h.ne.2 h.ch,by rw[World.frozen?_setCell];exact h.fz,h.set.mod c (by show ¬b=L;omega) (fun g hg=>by show ¬g=L;have:=hv g hg;omega),
  h.mod.setCell (.inr n2) _,h.ns,h.ne⟩
theorem zcf.newR{w W:World}{b o:Nat}{v:Value}{rs:zD}{fl most lo hi R:Nat}(h:zcf w W b o w.heap.size (w.heap.size+1) (w.heap.size+1+1) v rs fl most lo hi)(hR:w.heap.size+1+1<R)(hb:b<R)(hg:∀g,v.ownBlock=some g→g<R)(x y:Value) :
  zcf w ((W.setCell ⟨R,0,none⟩ x).setCell ⟨R,1,none⟩ y).drew b o w.heap.size (w.heap.size+1) (w.heap.size+1+1) v rs fl most lo hi:=by
 have a:Mod (fun k=>k=R) W ((W.setCell ⟨R,0,none⟩ x).setCell ⟨R,1,none⟩ y).drew:=(((Mod.refl (fun k=>k=R) W).setCell (p:=⟨R,0,none⟩) (.inl rfl) x).setCell (p:=⟨R,1,none⟩) (.inl rfl) y).drew;have n1:¬w.heap.size=R:=by omega
 have d:¬w.heap.size+1=R:=by omega
 have n3:¬w.heap.size+1+1=R:=by omega
 have n4:¬b=R:=by omega
 exact⟨a.cell n1 h.cs,a.cell d h.cl,a.cell n3 h.ch,by rw[World.frozen?_of_block (w:=W) (a.block (w.heap.size+1) (zk h.cl) d)];exact h.fz,h.set.mod a n4 (fun g c=>by show ¬g=R;have:=hg g c;omega),
  ((h.mod.setCell (p:=⟨R,0,none⟩) (.inr (by show _≤R;omega)) x).setCell (p:=⟨R,1,none⟩) (.inr (by show _≤R;omega)) y).drew,h.ns,h.ne⟩
theorem setR2{W:World}{R t:Nat}{d b:Value}(h:W.heap[R]?=some (.cells #[d,b] t (0,0)))(x y:Int)(a c:Nat)(hx:x=(a:Int))(hy:y=(c:Int)) :
  (((W.setCell ⟨R,0,none⟩ (.int .u64 x)).setCell ⟨R,1,none⟩ (.int .u64 y)).drew).heap[R]?=some (.cells #[.int .u64 (a:Int),.int .u64 (c:Int)] t (0,0)):=by
 subst hx hy;have h1:(W.setCell ⟨R,0,none⟩ (.int .u64 a)).heap[R]?=some (.cells #[.int .u64 a,b] t (0,0)):=by
  rw[setCell_eq_setRow W R 0 #[d,b] t (0,0) _ h];exact setRow_heap W R _ _ _ _ h
 show((W.setCell ⟨R,0,none⟩ (.int .u64 a)).setCell ⟨R,1,none⟩ (.int .u64 c)).heap[R]?=_;rw[setCell_eq_setRow _ R 1 #[.int .u64 a,b] t (0,0) _ h1];exact setRow_heap _ R _ _ _ _ h1
theorem zpN(rs:zD)(fl most b o lo hi:Nat)(v:Value)(w:World)(h:zbz w b o v rs fl most)
  (hv:∀g,v.ownBlock=some g→g<w.heap.size) (f:hi<max lo fl) :
  Calls Tryz.prog 88 #[.pointer (some ⟨b,o,none⟩),.int .u64 lo,.int .u64 hi] w fun e w'=>e = .returned (.tuple #[])∧Mod NoB w w':=by
 have i:=zk h.cf;have st0:=zcf.start w b o v rs fl most lo hi 114 43 43 h;obtain⟨n,c⟩:=nm ((((w.alloc (.cells #[.pointer (some ⟨b,o,none⟩)] 114)).alloc (.cells #[.int .u64 lo] 43)).alloc (.cells #[.int .u64 hi] 43)));rw[c]at st0;have j:=zb c;clear c;obtain⟨m,p⟩:=nm (max lo fl);have a:=(st0.raise i hv m).drewN 1;have k:Hid ((if lo<fl then(fl:Int)else lo)=(m:Int)):=by
  show _=_;split<;>omega
 rw[p]at f;obtain⟨W1,d⟩:=nm ((n.setCell ⟨w.heap.size+1,0,none⟩ (.int .u64 (m:Int))).drew);have l:=zb d;rw[show(n.setCell ⟨w.heap.size+1,0,none⟩ (.int .u64 (m:Int))).drewN 1=W1 from d]at a;clear d p;have c1:=st0.cs;have c2:=st0.cl;have c3:=st0.set.cf;have c4:=st0.fz;go_enter Tryz.func88,Tryz.ntmps88;go_wp2_with fail;rw[j.out]
 go_region
 rw[k.out,l.out];clear c1 c2 c3 c4;have c2:=a.cl;have c3:=a.ch;have hlt:(hi:Int)<m:=by omega
 go_wp2_with fail;refine bodyPost_ret (results_none rfl _ _ _) rfl ?_;exact⟨rfl,a.mod⟩
def zfm(rs:zD)(m hi m1 a:Nat):Nat×Nat:=if m1<a then(min m (loAt rs m1),max hi (hiAt rs (a-1)))else(m,hi)
def zbw(rs:zD)(m hi m1 a:Nat):zD:=rs.take m1++zfm rs m hi m1 a::rs.drop a
def zpO(rs:zD)(fl most b o lo hi:Nat)(v:Value)(w:World)(e:Ending)(w':World):Prop :=
 ∃m1 m2 v' rs' fl',zag rs.length (zel rs (max lo fl)) m1∧zag rs.length (zaH rs hi) m2 ∧
  (rs',fl')=(if most<(zbw rs (max lo fl) hi m1 m2).length then((zbw rs (max lo fl) hi m1 m2).drop 1,hiAt (zbw rs (max lo fl) hi m1 m2) 0+1)else(zbw rs (max lo fl) hi m1 m2,fl)) ∧
  e = .returned (.tuple #[])∧w'.ownsRow 0 214 2 v' rs'.length (zn rs')∧w'.heap[b]?=((w.setCell ⟨b,o,none⟩ v').setCell ⟨b,o+1,none⟩ (.int .u64 (fl':Int))).heap[b]? ∧
  Mod (fun k=>k=b∨v.ownBlock=some k) w w'∧zaG w v v'
theorem add_in(rs:zD)(fl most b o lo hi:Nat)(v:Value)(w:World)(h:zbz w b o v rs fl most)(au:WF rs)(hlo:lo<18446744073709551616)(hhi:hi<18446744073709551616)(hfl:fl<18446744073709551616)
  (hv:∀g,v.ownBlock=some g→g<w.heap.size) (W:v.ownBlock≠some b) (av:max lo fl≤hi)
  (F:1≤most) (aQ:most≤9223372036854775807) (X:∀m1 m2,zag rs.length (zel rs (max lo fl)) m1→zag rs.length (zaH rs hi) m2→WF (zbw rs (max lo fl) hi m1 m2)) :
  Calls Tryz.prog 88 #[.pointer (some ⟨b,o,none⟩),.int .u64 lo,.int .u64 hi] w fun e w'=>zpO rs fl most b o lo hi v w e w':=by
 have aw:=zk h.cf;have ax:=h.len;have st0:=zcf.start w b o v rs fl most lo hi 114 43 43 h;obtain⟨W0,aj⟩:=nm ((((w.alloc (.cells #[.pointer (some ⟨b,o,none⟩)] 114)).alloc (.cells #[.int .u64 lo] 43)).alloc (.cells #[.int .u64 hi] 43)));rw[aj]at st0;have ay:=zb aj;clear aj;obtain⟨m,hm⟩:=nm (max lo fl);have aR:m<18446744073709551616:=by omega
 have l:=(st0.raise aw hv m).drewN 1;have az:Hid ((if lo<fl then(fl:Int)else lo)=(m:Int)):=by
  show _=_;split<;>omega
 have HM:=zb hm;rw[hm]at av X;obtain⟨W1,ak⟩:=nm ((W0.setCell ⟨w.heap.size+1,0,none⟩ (.int .u64 (m:Int))).drew);have aA:=zb ak;rw[show(W0.setCell ⟨w.heap.size+1,0,none⟩ (.int .u64 (m:Int))).drewN 1=W1 from ak]at l;clear ak hm;have c1:=st0.cs;have c2:=st0.cl;have c3:=st0.set.cf;have c4:=st0.fz;have aB:∀k0,Calls Tryz.prog 152 #[.int .i64 rs.length,.func (.func 154) #[] #[.pointer (some ⟨w.heap.size,0,none⟩),.pointer (some ⟨w.heap.size+1,0,none⟩)]] (W1.drewN k0) fun e w'=>∃m1,zag rs.length (zel rs m) m1∧e = .returned (.int .i64 m1)∧∃k,w'=W1.drewN k:=fun k0 =>
  (zlm rs.length 154 #[.pointer (some ⟨w.heap.size,0,none⟩),.pointer (some ⟨w.heap.size+1,0,none⟩)] (zel rs m) (W1.drewN k0) (by omega) zin (fun i k al =>
   (znZ rs i b o w.heap.size (w.heap.size+1) m v ((W1.drewN k0).drewN k) l.cs l.cl aR l.set.cl l.set.own al).mono fun e w' ⟨he,k',hw⟩=>⟨he,k+k',by rw[hw,World.drewN_drewN]⟩)).mono
   fun e w' ⟨m1,h1,he,k',hw⟩=>⟨m1,h1,he,k0+k',by rw[hw,World.drewN_drewN]⟩
 have aC:∀k0,Calls Tryz.prog 152 #[.int .i64 rs.length,.func (.func 155) #[] #[.pointer (some ⟨w.heap.size,0,none⟩),.pointer (some ⟨w.heap.size+1+1,0,none⟩)]] (W1.drewN k0) fun e w'=>∃m2,zag rs.length (zaH rs hi) m2∧e = .returned (.int .i64 m2)∧zcf w w' b o w.heap.size (w.heap.size+1) (w.heap.size+1+1) v rs fl most m hi:=fun k0 =>
  (zlm rs.length 155 #[.pointer (some ⟨w.heap.size,0,none⟩),.pointer (some ⟨w.heap.size+1+1,0,none⟩)] (zaH rs hi) (W1.drewN k0) (by omega) zio (fun i k al =>
   (zn0 rs i b o w.heap.size (w.heap.size+1+1) hi v ((W1.drewN k0).drewN k) l.cs l.ch (fun i hi=>by have:=au.1 i hi;omega) l.set.cl l.set.own al).mono fun e w' ⟨he,k',hw⟩=>⟨he,k+k',by rw[hw,World.drewN_drewN]⟩)).mono
   fun e w' ⟨m1,h1,he,k',hw⟩=>⟨m1,h1,he,by rw[hw];exact(l.drewN k0).drewN k'⟩
 obtain⟨a,cap,n,n1,n2,n3⟩:=zj h.own;have aD:=zb aB;have aE:=zb aC;clear aB aC;go_enter Tryz.func88,Tryz.ntmps88;go_wp2_with fail;rw[ay.out]
 go_region
 rw[az.out,aA.out];clear c1 c2 c3 c4;have c1:=l.cs;have c2:=l.cl;have c3:=l.ch;have c5:=l.set.cl;rw[n]at c5;have hle:¬(hi:Int)<m:=by omega
 have aF:True:=trivial;go_upto_if 37 with(first|(go_at_call 152;have _t:=aF;refine(aD.out 0).mono ?_;rintro e w' ⟨m1,aa,rfl,k1,rfl⟩;clear aF)|(go_at_call 152;refine(aE.out _).mono ?_;rintro e W2 ⟨m2,Q,rfl,G⟩;have d1:=G.cs;have d2:=G.cl;have d3:=G.ch;have S:=G.set.cl;rw[n]at S;clear c1 c2 c3 c5));obtain⟨R,hR⟩:=nm W2.heap.size;obtain⟨W3,ab⟩:=nm (W2.alloc (.cells #[.int .u64 (m:Int),.int .u64 (hi:Int)] 214));have s:zcf w W3 b o w.heap.size (w.heap.size+1) (w.heap.size+1+1) v rs fl most m hi:=ab ▸ G.alloc _;have A:W3.heap[R]?=some (.cells #[.int .u64 (m:Int),.int .u64 (hi:Int)] 214 (0,0)):=by rw[←ab,←hR];exact heap_alloc_new W2 _
 have aS:w.heap.size+1+1<R:=by rw[←hR];exact zk G.ch
 have aT:b<R:=by omega
 have hRs:w.heap.size<R:=by omega
 rw[hR,ab];clear hR ab d1 d2 d3 S G l st0 aD aE ay aA az
 go_cut [6,7] (fun f t wx=>f = .int .i64 m1∧t = .int .i64 m2∧zcf w wx b o w.heap.size (w.heap.size+1) (w.heap.size+1+1) v rs fl most m hi ∧
  wx.heap[R]?=some (.cells #[.int .u64 ((zfm rs m hi m1 m2).1:Int),.int .u64 ((zfm rs m hi m1 m2).2:Int)] 214 (0,0)))
 case first =>
  have d1:=s.cs;have d2:=s.cl;have d3:=s.ch;have S:=s.set.cl;rw[n]at S;have e1:=za (o:=0) A rfl;have e2:=za (o:=1) A rfl;have e3:=zd (o:=0) A;have e4:=zd (o:=1) A;by_cases aG:m1<m2
  ·have ad:=Q.1;obtain⟨g,rfl⟩:=n3 (by omega);have hgR:g<R:=by
    have:=hv g (by rw[n];rfl);omega
   have r1:=(zaI (n ▸ s.set.own) m1 (by omega)).1;have r2:=(zaI (n ▸ s.set.own) (m2-1) (by omega)).2;have i0:(m1:Int)<m2:=by omega
   have i1:(m1:Int)<rs.length:=by omega
   have i2:(m2:Int)-1<rs.length:=by omega
   have i3:0≤(m2:Int)-1:=by omega
   have i4:IntKind.i64.wrap ((m2:Int)-1)=(m2:Int)-1:=IntWalk.i64_in _ (by omega);have i5:((m2:Int)-1).toNat=m2-1:=by omega
   have i6:(1:Int)≤m2:=by omega
   have q1:¬w.heap.size=R:=by omega
   have q2:¬w.heap.size+1=R:=by omega
   have q3:¬w.heap.size+1+1=R:=by omega
   have q4:¬b=R:=by omega
   have q5:¬g=R:=by omega
   have Hr:Hid (zfm rs m hi m1 m2=(min m (loAt rs m1),max hi (hiAt rs (m2-1)))):=by
    show _=_;rw[zfm,if_pos aG]
   have aH:Hid ((if loAt rs m1<m then(loAt rs m1:Int)else(m:Int))=((min m (loAt rs m1):Nat):Int)):=by
    show _=_;split<;>omega
   have aI:Hid ((if hi<hiAt rs (m2-1)then(hiAt rs (m2-1):Int)else(hi:Int))=((max hi (hiAt rs (m2-1)):Nat):Int)):=by
    show _=_;split<;>omega
   go_wp2_with fail
   go_region_held3 (fun w'=>w'.cell? ⟨w.heap.size,0,none⟩=some (.pointer (some ⟨b,o,none⟩))∧w'.cell? ⟨w.heap.size+1,0,none⟩=some (.int .u64 (m:Int))∧w'.cell? ⟨w.heap.size+1+1,0,none⟩=some (.int .u64 (hi:Int))∧w'.cell? ⟨b,o,none⟩=some (.slice (some ⟨g,0,none⟩) rs.length cap)∧w'.cell? ⟨g,m1*2,none⟩=some (.int .u64 (loAt rs m1:Int))∧w'.cell? ⟨g,(m2-1)*2+1,none⟩=some (.int .u64 (hiAt rs (m2-1):Int))) (first|exact⟨d1,d2,d3,S,r1,r2⟩|exact⟨zj5 d1 q1,zj5 d2 q2,zj5 d3 q3,zj5 S q4,zj5 r1 q5,zj5 r2 q5⟩|exact⟨zj6 d1 q1,zj6 d2 q2,zj6 d3 q3,zj6 S q4,zj6 r1 q5,zj6 r2 q5⟩) ((fail))
   all_goals
    rw[aH.out,aI.out];generalize hmn:min m (loAt rs m1)=mn at *;generalize hmx:max hi (hiAt rs (m2-1))=mx at *;have q:=s.newR aS aT (by rw[n];intro k hk;simp[Value.ownBlock]at hk;omega) (.int .u64 (mn:Int)) (.int .u64 (mx:Int));have H:(((W3.setCell ⟨R,0,none⟩ (.int .u64 (mn:Int))).setCell ⟨R,1,none⟩ (.int .u64 (mx:Int))).drew).heap[R]?=some (.cells #[.int .u64 ((zfm rs m hi m1 m2).1:Int),.int .u64 ((zfm rs m hi m1 m2).2:Int)] 214 (0,0)):=by
     rw[Hr.out];exact setR2 A mn mx mn mx rfl rfl
    clear d1 d2 d3 S e1 e2 e3 e4 r1 r2 A s hmn hmx aH aI;generalize ((W3.setCell ⟨R,0,none⟩ (.int .u64 (mn:Int))).setCell ⟨R,1,none⟩ (.int .u64 (mx:Int))).drew=W4 at *;go_wp2_with fail;go_meet;exact⟨rfl,rfl,q,H⟩
  ·have Hr:Hid (zfm rs m hi m1 m2=(m,hi)):=by
    show _=_;rw[zfm,if_neg aG]
   go_wp2_with fail;go_meet;exact⟨rfl,rfl,s,by rw[Hr.out];exact A⟩
 case rest =>
  obtain⟨rfl,rfl,q,H⟩:=hcut;clear A s n3;have ad:=Q.1;have aU:=zcO au av aa Q;obtain⟨rl,am⟩:=nm ((zfm rs m hi m1 m2).1);obtain⟨rh,ao⟩:=nm ((zfm rs m hi m1 m2).2);rw[am,ao]at H;have Hr:Hid (zfm rs m hi m1 m2=(rl,rh)):=by
   show _=_;rw[←am,←ao]
  clear am ao;have d1:=q.cs;have S:=q.set.cl;rw[n]at S;have e1:=za (o:=0) H rfl;have e2:=za (o:=1) H rfl;have l1:w.heap.size<wc.heap.size:=zk q.cs;have l2:b<wc.heap.size:=by omega
  have l3:R<wc.heap.size:=(Array.getElem?_eq_some_iff.1 H).1;have q1:¬w.heap.size=wc.heap.size:=by omega
  have q2:¬b=wc.heap.size:=by omega
  have q3:¬R=wc.heap.size:=by omega
  have q4:¬w.heap.size=b:=by omega
  have q5:¬R=b:=by omega
  have M:=q.set.own;rw[n]at M;have aJ:(Value.slice a rs.length cap).ownBlock≠some wc.heap.size:=by
   intro I;have:=M.lt _ I;omega
  have p1:some w.heap.size≠(Value.slice a rs.length cap).ownBlock:=by
   intro I;have:=hv _ (n ▸ I.symm);omega
  have p2:some b≠(Value.slice a rs.length cap).ownBlock:=fun I=>W (n ▸ I.symm)
  have p3:some R≠(Value.slice a rs.length cap).ownBlock:=by
   intro I;have:=hv _ (n ▸ I.symm);omega
  have B:Mod NoB wc (wc.alloc (.cells #[.int .u64 (rl:Int),.int .u64 (rh:Int)] 214)).drew:=((Mod.refl NoB wc).alloc _).drew;have T:=And.intro (B.cell (fun x=>x) d1) (And.intro (B.cell (fun x=>x) S) (And.intro (B.cell (fun x=>x) e1) (B.cell (fun x=>x) e2)));have ae:∀w4,World.grownBy (wc.alloc (.cells #[.int .u64 (rl:Int),.int .u64 (rh:Int)] 214)).drew w4 (Value.slice a rs.length cap).ownBlock→w4.frozen? ⟨b,o,none⟩=false:=by
   intro w4 y;rw[World.frozen?_of_block (w:=(wc.alloc (.cells #[.int .u64 (rl:Int),.int .u64 (rh:Int)] 214)).drew) (y.block b (Nat.lt_of_lt_of_le l2 B.size) p2)];exact(q.set.mod B (fun x=>x) (fun _ _ x=>x)).fz o
  go_upto_region 8 with fail;refine zl 12 (fun w'=>w'.cell? ⟨w.heap.size,0,none⟩=some (.pointer (some ⟨b,o,none⟩))∧w'.cell? ⟨b,o,none⟩=some (.slice a rs.length cap)∧w'.cell? ⟨R,0,none⟩=some (.int .u64 (rl:Int))∧w'.cell? ⟨R,1,none⟩=some (.int .u64 (rh:Int))) ⟨d1,S,e1,e2⟩ ?_;refine GI 0 ?_;iterate 8
   refine GS rfl ?_ ?_ ?_;rotate_left
   ·(intro wx z;(try dsimp only at z);go_simp)<;>(try with_reducible rfl)
   try simp only[PS]
  refine zx 8 rfl (fun K C=>?_);go_simp;refine C.out _ _ T ?_;clear C K;try simp only[PS]
  refine zx 9 rfl (fun K C=>?_);go_simp;refine(zim (.slice a rs.length cap) rs m1 m2 (rl,rh) wc.heap.size _ aU ad ax ?_ ?_ aJ).mono ?_
  ·exact(((Mod.refl NoB wc).alloc _).drew).owns M (fun _ _ x=>x)
  ·exact heap_alloc_new wc _
  rintro e w4 ⟨v',rfl,ho,y,ac⟩;have f1:=y.cell T.1 p1;have f2:=y.cell T.2.1 p2;have f3:=y.cell T.2.2.1 p3;have f4:=y.cell T.2.2.2 p3;have f5:=ae _ y;refine C.out _ _ ⟨f1,f2,f3,f4⟩ ?_;clear C K;try simp only[PS]
  refine GI 10 ?_;iterate 2
   refine GS rfl ?_ ?_ ?_;rotate_left
   ·(intro wx z;(try dsimp only at z);go_simp)<;>(try with_reducible rfl)
   try simp only[PS]
  obtain⟨c,N⟩:=nm (rs.take m1++(rl,rh)::rs.drop m2);rw[N]at ho;have ap:Hid (zbw rs m hi m1 m2=c):=by
   show _=_;rw[zbw,Hr.out,N]
  have aK:WF c:=by rw[←ap.out];exact X m1 m2 aa Q
  have hl5:c.length≤rs.length+1:=by
   rw[←N];simp;omega
  clear N;have O:(v':Value).ownBlock≠some b:=by
   intro I;rcases ac b I with h1|h1
   ·exact p2 h1.symm
   ·simp at h1;omega
  obtain⟨a',d,rfl,k1,k2,k3⟩:=zj ho;have r:Mod (fun k=>v.ownBlock=some k) wc w4:=(B.mono (fun _ x=>x.elim)).grown y (fun k hk=>.inl (by rw[n,hk]));have Y:zaG w v (.slice a' c.length d):=fun k hk=>by
   rcases ac k hk with h1|h1
   ·exact .inl (by rw[n];exact h1)
   ·refine .inr ?_;have:=q.mod.size;simp at h1;omega
  have aL:∀k,(Value.slice a' c.length d).ownBlock=some k→v.ownBlock=some k∨wc.heap.size≤k:=fun k hk=>by
   rcases ac k hk with h1|h1
   ·exact .inl (by rw[n];exact h1)
   ·exact .inr (by simp at h1;omega)
  obtain⟨U,u⟩:=nm (w4.setCell ⟨b,o,none⟩ (.slice a' c.length d));have g1:U.cell? ⟨w.heap.size,0,none⟩=some (.pointer (some ⟨b,o,none⟩)):=by rw[←u];exact zcd f1 q4
  have g2:U.cell? ⟨b,o,none⟩=some (.slice a' c.length d):=by rw[←u,World.cell?_setCell_same _ _ _ f2]
  have g3:U.cell? ⟨b,o+1,none⟩=some (.int .u64 (fl:Int)):=by
   rw[←u,World.cell?_setCell_other _ _ _ _ (by simp)];exact r.cell W q.set.cf
  have g4:U.cell? ⟨b,o+2,none⟩=some (.int .i64 (most:Int)):=by
   rw[←u,World.cell?_setCell_other _ _ _ _ (by simp)];exact r.cell W q.set.cm
  have g5:∀j,U.frozen? ⟨b,j,none⟩=false:=by
   intro j;rw[←u,World.frozen?_setCell,World.frozen?_of_block (w:=wc) (r.block b l2 W)];exact q.set.fz j
  have P:U.ownsRow 0 214 2 (.slice a' c.length d) c.length (zn c):=by
   rw[←u];exact((Mod.refl (fun k=>k=b) w4).setCell (p:=⟨b,o,none⟩) (.inl rfl) _).owns ho (fun g hg x=>O (hg.trans (congrArg some x)))
  have Z:Mod (fun k=>k=b∨v.ownBlock=some k) w U:=by
   rw[←u];exact((q.mod.mono (fun _ x=>x.elim)).then (S':=fun k=>v.ownBlock=some k) r (fun i hi=>.inl (.inr hi))).setCell (p:=⟨b,o,none⟩) (.inl (.inl rfl)) _
  have J:U.heap[b]?=(w.setCell ⟨b,o,none⟩ (.slice a' c.length d)).heap[b]?:=by
   rw[←u];exact zbf ((r.block b l2 W).trans (q.mod.block b aw (fun x=>x))) _ _
  refine zQ rfl (fun K C=>?_);go_simp;refine C.out _ _ ?_;clear C K;try simp only[PS]
  refine zo ?_;try rw[u]
  clear u r f1 f2 f3 f4 f5 ae T B d1 S e1 e2 H q y ac M aJ p1 p2 p3;have hn5:(c.length:Int)≤1099511627777:=by omega
  by_cases F:most<c.length
  ·have hd:(most:Int)<c.length:=by omega
   have k0:2≤c.length:=by omega
   obtain⟨g,rfl⟩:=k3 (by omega);have r1:U.cell? ⟨g,1,none⟩=some (.int .u64 (hiAt c 0:Int)):=by simpa using(zaI P 0 (by omega)).2
   have hb1:hiAt c 0+1<18446744073709551616:=by
    have h1:=aK.2 0 1 (by omega) (by omega);have h2:=aK.1 1 (by omega);omega
   have hz:(0:Int)<c.length:=by omega
   have hz':0<c.length:=by omega
   have aW:IntKind.u64.wrap ((hiAt c 0:Int)+1)=(hiAt c 0:Int)+1:=by rw[IntKind.wrap_u64];omega
   go_wp2_with fail;go_quiet (fail);go_wp2_with fail;refine zl 11 (fun w'=>w'.cell? ⟨w.heap.size,0,none⟩=some (.pointer (some ⟨b,o,none⟩))∧w'.cell? ⟨b,o,none⟩=some (.slice (some ⟨g,0,none⟩) c.length d)∧w'.cell? ⟨g,1,none⟩=some (.int .u64 (hiAt c 0:Int))) ⟨g1,g2,r1⟩ ?_;refine GI 0 ?_;iterate 11
    refine GS rfl ?_ ?_ ?_;rotate_left
    ·(intro wx z;(try dsimp only at z);go_simp)<;>(try with_reducible rfl)
    try simp only[PS]
   have aV:=g5 (o+1);refine zQ rfl (fun K C=>?_);go_simp;refine C.out _ _ ?_;clear C K;try simp only[PS]
   refine zo ?_;obtain⟨L,V⟩:=nm ((U.drewN (nq+1)).setCell ⟨b,o+1,none⟩ (.int .u64 ((hiAt c 0:Int)+1)));have aq:Mod (fun k=>k=b) U L:=by
    rw[←V];exact((Mod.refl (fun k=>k=b) U).drewN (nq+1)).setCell (p:=⟨b,o+1,none⟩) (.inl rfl) _
   have s1:L.cell? ⟨w.heap.size,0,none⟩=some (.pointer (some ⟨b,o,none⟩)):=aq.cell q4 g1;have s2:L.cell? ⟨b,o,none⟩=some (.slice (some ⟨g,0,none⟩) c.length d):=by
    rw[←V,World.cell?_setCell_other _ _ _ _ (by simp)];exact g2
   have s3:L.frozen? ⟨b,o,none⟩=false:=by
    rw[←V,World.frozen?_setCell];exact g5 o
   have aM:L.ownsRow 0 214 2 (.slice (some ⟨g,0,none⟩) c.length d) c.length (zn c):=aq.owns P (fun k hk x=>O (hk.trans (congrArg some x)));have af:Mod (fun k=>k=b∨v.ownBlock=some k) w L:=Z.then aq (fun i hi=>.inl (.inl hi));have ar:L.heap[b]?=((w.setCell ⟨b,o,none⟩ (.slice (some ⟨g,0,none⟩) c.length d)).setCell ⟨b,o+1,none⟩ (.int .u64 ((hiAt c 0:Int)+1))).heap[b]?:=by
    rw[←V];exact zbf (w':=U.drewN (nq+1)) J _ _
   rw[V];clear V g1 g2 g3 g4 aV r1 J Z P;go_wp2_with fail;refine zl 8 (fun w'=>w'.cell? ⟨w.heap.size,0,none⟩=some (.pointer (some ⟨b,o,none⟩))∧w'.cell? ⟨b,o,none⟩=some (.slice (some ⟨g,0,none⟩) c.length d)) ⟨s1,s2⟩ ?_;refine GI 0 ?_;iterate 5
    refine GS rfl ?_ ?_ ?_;rotate_left
    ·(intro wx z;(try dsimp only at z);go_simp)<;>(try with_reducible rfl)
    try simp only[PS]
   refine zx 5 rfl (fun K C=>?_);go_simp;refine(zkg (.slice (some ⟨g,0,none⟩) c.length d) c _ k0 ?_).mono ?_
   ·exact((Mod.refl NoB L).drew).owns aM (fun _ _ x=>x)
   rintro e w7 ⟨v7,rfl,aN,D,ah⟩;have p2:some b≠(Value.slice (some ⟨g,0,none⟩) c.length d).ownBlock:=fun I=>O I.symm
   have p1:some w.heap.size≠(Value.slice (some ⟨g,0,none⟩) c.length d).ownBlock:=by
    intro I;rcases aL _ I.symm with h1|h1
    ·have:=hv _ h1;omega
    ·omega
   have f1:=D.cell (w:=L.drew) s1 p1;have f2:=D.cell (w:=L.drew) s2 p2;have ai:b<L.heap.size:=zk s2;have f5:w7.frozen? ⟨b,o,none⟩=false:=by
    rw[World.frozen?_of_block (w:=L.drew) (D.block b ai p2)];exact s3
   refine C.out _ _ ⟨f1,f2⟩ ?_;clear C K;try simp only[PS]
   refine GI 6 ?_;iterate 2
    refine GS rfl ?_ ?_ ?_;rotate_left
    ·(intro wx z;(try dsimp only at z);go_simp)<;>(try with_reducible rfl)
    try simp only[PS]
   obtain⟨a7,E,rfl,k71,k72,k73⟩:=zj aN;refine zQ rfl (fun K C=>?_);go_simp;refine C.out _ _ ?_;clear C K;try simp only[PS]
   refine zo ?_;have aO:(Value.slice a7 (c.drop 1).length E).ownBlock≠some b:=by
    intro I;rcases ah b I with h1|h1
    ·exact O h1
    ·have h2:L.heap.size≤b:=h1;omega
   have aP:Mod (fun k=>k=b∨v.ownBlock=some k) w w7:=af.drew.grown D (fun k hk=>(Y k hk).imp .inr id);go_wp2_with fail;refine bodyPost_ret (results_none rfl _ _ _) rfl ?_;refine⟨m1,m2,.slice a7 (c.drop 1).length E,c.drop 1,hiAt c 0+1,by rw[HM.out];exact aa,Q,?_,rfl,?_,?_,?_,?_⟩
   ·rw[HM.out,ap.out,if_pos F]
   ·have:=((Mod.refl (fun k=>k=b) w7).setCell (p:=⟨b,o,none⟩) (.inl rfl) (.slice a7 (c.drop 1).length E)).owns aN (fun k hk x=>aO (hk.trans (congrArg some x)));simpa using this
   ·have h1:w7.heap[b]?=L.heap[b]?:=D.block b ai p2;have:=(zbf (h1.trans ar) o (.slice a7 (c.drop 1).length E)).trans (zgd _ _ _ _ _ _);simpa using this
   ·have:=aP.setCell (p:=⟨b,o,none⟩) (.inl (.inl rfl)) (.slice a7 (c.drop 1).length E);simpa using this
   ·intro k hk;rcases ah k hk with h1|h1
    ·exact Y k h1
    ·have h2:L.heap.size≤k:=h1;exact .inr (Nat.le_trans af.size h2)
  ·have hd:¬(most:Int)<c.length:=by omega
   go_wp2_with fail;go_quiet (fail);go_wp2_with fail;refine bodyPost_ret (results_none rfl _ _ _) rfl ?_;refine⟨m1,m2,.slice a' c.length d,c,fl,by rw[HM.out];exact aa,Q,?_,rfl,P,?_,Z.drewN _,Y⟩
   ·rw[HM.out,ap.out,if_neg F]
   ·exact(zax g3).symm.trans (zbf J _ _)
structure zaQ where
 rs:zD
 fl:Nat
 most:Nat
structure WS where
 b:List UInt8
 sent:zaQ
 came:zaQ
 high:Nat
 finished:Bool
 ending:Bool
 cut:Bool
 keep:Nat
 final:Nat
 telling:Bool
 credit:Nat
structure RS where
 b:List UInt8
 came:zaQ
 high:Nat
 fin:Nat
 ended:Bool
 cut:Bool
 keep:Nat
 read:Nat
 state:Nat
 grant:Nat
 anew:Bool
structure Fly where
 n:Nat
 at_:Nat
 fs:List Frm
structure CS where
 mtu:Nat
 window:Nat
 total:Nat
 now:Nat
 closed:Nat
 said:Bool
 next:Nat
 got:zaQ
 answer:Bool
 ws:Nat→WS
 rs:Nat→RS
 credit:Nat
 grant:Nat
 anew:Bool
 flight:List Fly
 largest:Nat
 waits:List Frm
 lastID:Nat
 anyID:Bool
 seen:List (Nat×Nat)
 most:Nat
 came:List (Nat×List UInt8)
structure CV where
 g:Nat
 gv:Value
 wb:Nat→Value
 ws:Nat→Value
 wc:Nat→Value
 rb:Nat→Value
 rc:Nat→Value
 ft:Value
 fts:List Value
 wt:Value
 sn:Nat
 cm:Value
def upd{α : Type}(f:Nat → α)(k:Nat)(x : α):Nat → α := fun j=>if j=k then x else f j
theorem zf{α : Type}(f:Nat → α)(k:Nat)(x : α):upd f k x k=x:=by simp[upd]
theorem ze{α : Type}(f:Nat → α){k j:Nat}(x : α)(h:j≠k):upd f k x j=f j:=by simp[upd,h]
theorem za2{α : Type}(f:Nat → α)(k:Nat):upd f k (f k)=f:=by
 funext j;by_cases h:j=k
 ·rw[h,zf]
 ·rw[ze _ _ h]
def zbn(x:WS)(bv sv cv:Value):List Value :=
 [bv,sv,.int .u64 (x.sent.fl:Int),.int .i64 (x.sent.most:Int),cv,.int .u64 (x.came.fl:Int),.int .i64 (x.came.most:Int),.int .u64 (x.high:Int),.bool x.finished,.bool x.ending,.bool x.cut,.int .u64 (x.keep:Int),.int .u64 (x.final:Int),.bool x.telling,.int .u64 (x.credit:Int)]
def zbO(x:RS)(bv cv:Value):List Value :=
 [bv,cv,.int .u64 (x.came.fl:Int),.int .i64 (x.came.most:Int),.int .u64 (x.high:Int),.int .u64 (x.fin:Int),.bool x.ended,.bool x.cut,.int .u64 (x.keep:Int),.int .u64 (x.read:Int),.int .i64 (x.state:Int),.int .u64 (x.grant:Int),.bool x.anew]
def zaN(c:CS)(V:CV):List Value :=
 [.int .i64 (c.mtu:Int),.int .i64 (c.window:Int),.int .i64 (c.total:Int),.int .u64 (c.now:Int),.int .i64 (c.closed:Int),.bool c.said,.int .u64 (c.next:Int),.pointer (some ⟨V.g,0,none⟩),.bool c.answer]
def zbP(c:CS)(V:CV):List Value :=
 [.int .u64 (c.credit:Int),.int .u64 (c.grant:Int),.bool c.anew,V.ft,.int .u64 (c.largest:Int),V.wt,.int .u64 (c.lastID:Int),.bool c.anyID,.map (some V.sn),.int .u64 (c.most:Int),V.cm]
def zeG(ws:Nat→WS)(b s c:Nat→Value):List Value:=(List.range 8).flatMap fun k=>zbn (ws k) (b k) (s k) (c k)
def zfn(rs:Nat→RS)(b c:Nat→Value):List Value:=(List.range 8).flatMap fun k=>zbO (rs k) (b k) (c k)
def zr(c:CS)(V:CV):List Value:=zaN c V++(zeG c.ws V.wb V.ws V.wc++(zfn c.rs V.rb V.rc++zbP c V))
section
variable {α : Type}
theorem zcg(f:Nat→List α)(n:Nat)(hl:∀k,(f k).length=n)(m:Nat):((List.range m).flatMap f).length=n*m:=by
 induction m with
 | zero=>simp
 | succ m ih=>rw[List.range_succ,List.flatMap_append,List.length_append,ih];simp[hl,Nat.mul_succ]
theorem zjx(f:Nat→List α)(n:Nat)(hl:∀k,(f k).length=n)(m:Nat){k j:Nat}(hk:k<m)(hj:j<n):((List.range m).flatMap f)[n*k+j]?=(f k)[j]?:=by
 induction m with
 | zero=>omega
 | succ m ih =>
  rw[List.range_succ,List.flatMap_append];have a:=zcg f n hl m;by_cases h:k<m
  ·have:n*k+j<n*m:=by
    have:n*(k+1)≤n*m:=Nat.mul_le_mul_left n h;rw[Nat.mul_succ]at this;omega
   rw[List.getElem?_append_left (by omega)];exact ih h
  ·have:k=m:=by omega
   subst this;rw[List.getElem?_append_right (by omega),a,Nat.add_sub_cancel_left];simp
theorem zjy(f g:Nat→List α)(n:Nat)(hl:∀k,(f k).length=n)(m:Nat){k j:Nat}(v : α)(hk:k<m)(hj:j<n)(hg:∀i,i<m→g i=if i=k then(f k).set j v else f i):((List.range m).flatMap f).set (n*k+j) v=(List.range m).flatMap g:=by
 induction m with
 | zero=>omega
 | succ m ih =>
  rw[List.range_succ,List.flatMap_append,List.flatMap_append];have a:=zcg f n hl m;by_cases h:k<m
  ·have:n*k+j<n*m:=by
    have:n*(k+1)≤n*m:=Nat.mul_le_mul_left n h;rw[Nat.mul_succ]at this;omega
   rw[List.set_append_left _ _ (by omega),ih h (fun i hi=>hg i (by omega))];have:=hg m (by omega);rw[if_neg (by omega)]at this;simp[this]
  ·have:k=m:=by omega
   subst this;rw[List.set_append_right _ _ (by omega),a,Nat.add_sub_cancel_left];have e:(List.range k).flatMap f=(List.range k).flatMap g:=by
    have:∀q,q≤k→(List.range q).flatMap f=(List.range q).flatMap g:=by
     intro q hq
     induction q with
     | zero=>rfl
     | succ q ih2 =>
      rw[List.range_succ,List.flatMap_append,List.flatMap_append,ih2 (by omega)];have:=hg q (by omega);rw[if_neg (by omega)]at this;simp[this]
    exact this k (Nat.le_refl k)
   have:=hg k (by omega);rw[if_pos rfl]at this;rw[e];simp[this]
end
theorem zad(ws:Nat→WS)(b s c:Nat→Value):(zeG ws b s c).length=120:=zcg _ 15 (fun _=>rfl) 8
theorem zaR(rs:Nat→RS)(b c:Nat→Value):(zfn rs b c).length=104:=zcg _ 13 (fun _=>rfl) 8
theorem zpP(c:CS)(V:CV){j:Nat}{v:Value}(h:(zaN c V)[j]?=some v):(zr c V)[j]?=some v:=by
 unfold zr;rw[List.getElem?_append_left (List.getElem?_eq_some_iff.1 h).1];exact h
theorem zfD(c:CS)(V:CV){k j:Nat}{v:Value}(hk:k<8)(h:(zbn (c.ws k) (V.wb k) (V.ws k) (V.wc k))[j]?=some v):(zr c V)[9+15*k+j]?=some v:=by
 have hj:j<15:=(List.getElem?_eq_some_iff.1 h).1;unfold zr;have hl:(zaN c V).length=9:=rfl;rw[List.getElem?_append_right (by omega),hl,show 9+15*k+j-9=15*k+j by omega,List.getElem?_append_left (by rw[zad];omega)];unfold zeG;rw[zjx _ 15 (fun _=>rfl) 8 hk hj];exact h
theorem conn_r(c:CS)(V:CV){k j:Nat}{v:Value}(hk:k<8)(h:(zbO (c.rs k) (V.rb k) (V.rc k))[j]?=some v):(zr c V)[129+13*k+j]?=some v:=by
 have hj:j<13:=(List.getElem?_eq_some_iff.1 h).1;unfold zr;have hl:(zaN c V).length=9:=rfl;rw[List.getElem?_append_right (by omega),hl,List.getElem?_append_right (by rw[zad];omega),zad,show 129+13*k+j-9-120=13*k+j by omega,List.getElem?_append_left (by rw[zaR];omega)];unfold zfn;rw[zjx _ 13 (fun _=>rfl) 8 hk hj];exact h
theorem conn_t(c:CS)(V:CV){j:Nat}{v:Value}(h:(zbP c V)[j]?=some v):(zr c V)[233+j]?=some v:=by
 unfold zr;have hl:(zaN c V).length=9:=rfl;rw[List.getElem?_append_right (by omega),hl,List.getElem?_append_right (by rw[zad];omega),zad,List.getElem?_append_right (by rw[zaR];omega),zaR,show 233+j-9-120-104=j by omega];exact h
theorem za4(c c':CS)(V a:CV){j:Nat}(v:Value)(hj:j<9)(h:zaN c' a=(zaN c V).set j v)(hw:zeG c'.ws a.wb a.ws a.wc=zeG c.ws V.wb V.ws V.wc)(hr:zfn c'.rs a.rb a.rc=zfn c.rs V.rb V.rc)(ht:zbP c' a=zbP c V):(zr c V).set j v=zr c' a:=by
 unfold zr;rw[List.set_append_left _ _ (show j<(zaN c V).length from hj),h,hw,hr,ht]
theorem zar(c c':CS)(V a:CV){k j:Nat}(v:Value)(hk:k<8)(hj:j<15)(hw:∀i,i<8→zbn (c'.ws i) (a.wb i) (a.ws i) (a.wc i)=if i=k then(zbn (c.ws k) (V.wb k) (V.ws k) (V.wc k)).set j v else zbn (c.ws i) (V.wb i) (V.ws i) (V.wc i))
  (h:zaN c' a=zaN c V) (hr:zfn c'.rs a.rb a.rc=zfn c.rs V.rb V.rc) (ht:zbP c' a=zbP c V):(zr c V).set (9+15*k+j) v=zr c' a:=by
 unfold zr;have hl:(zaN c V).length=9:=rfl;rw[List.set_append_right _ _ (by omega),hl,show 9+15*k+j-9=15*k+j by omega,List.set_append_left _ _ (by rw[zad];omega)];unfold zeG;rw[zjy _ _ 15 (fun _=>rfl) 8 v hk hj hw,h,hr,ht]
theorem zbp(c c':CS)(V a:CV){k j:Nat}(v:Value)(hk:k<8)(hj:j<13)(hr:∀i,i<8→zbO (c'.rs i) (a.rb i) (a.rc i)=if i=k then(zbO (c.rs k) (V.rb k) (V.rc k)).set j v else zbO (c.rs i) (V.rb i) (V.rc i))
  (h:zaN c' a=zaN c V) (hw:zeG c'.ws a.wb a.ws a.wc=zeG c.ws V.wb V.ws V.wc) (ht:zbP c' a=zbP c V):(zr c V).set (129+13*k+j) v=zr c' a:=by
 unfold zr;have hl:(zaN c V).length=9:=rfl;rw[List.set_append_right _ _ (by omega),hl,List.set_append_right _ _ (by rw[zad];omega),zad,show 129+13*k+j-9-120=13*k+j by omega,List.set_append_left _ _ (by rw[zaR];omega)];unfold zfn;rw[zjy _ _ 13 (fun _=>rfl) 8 v hk hj hr,h,hw,ht]
theorem zV(c c':CS)(V a:CV){j:Nat}(v:Value)(h:zaN c' a=zaN c V)(hw:zeG c'.ws a.wb a.ws a.wc=zeG c.ws V.wb V.ws V.wc)(hr:zfn c'.rs a.rb a.rc=zfn c.rs V.rb V.rc)(ht:zbP c' a=(zbP c V).set j v):(zr c V).set (233+j) v=zr c' a:=by
 unfold zr;have hl:(zaN c V).length=9:=rfl;rw[List.set_append_right _ _ (by omega),hl,List.set_append_right _ _ (by rw[zad];omega),zad,List.set_append_right _ _ (by rw[zaR];omega),zaR,show 233+j-9-120-104=j by omega,h,hw,hr,ht]
def zc8(w:World)(e size:Nat)(v:Value)(n:Nat)(xs:List Value):Prop :=
 xs.length=n*size∧(v = .slice none 0 0∧n=0∨∃g o cap cur,v = .slice (some ⟨g,o*size,none⟩) n cap∧w.heap[g]?=some (.cells cur e (0,0))∧n≤cap∧cap≤maxLen∧(o+cap)*size≤cur.size∧(cur.toList.drop (o*size)).take (n*size)=xs)
def Value.blk:Value→Option Nat
 | .slice (some a) _ _=>some a.block
 | _=>none
theorem zc8.mod{S:Nat→Prop}{w w':World}{e size n:Nat}{v:Value}{xs:List Value}(h:zc8 w e size v n xs)(m:Mod S w w')(hs:∀g,Value.blk v=some g→¬S g):zc8 w' e size v n xs:=by
 refine⟨h.1,?_⟩;rcases h.2 with h|⟨g,o,cap,a,rfl,hg,h1⟩
 ·exact .inl h
 ·exact .inr ⟨g,o,cap,a,rfl,m.obj (hs g rfl) hg,h1⟩
theorem zc8.nil(w:World)(e size:Nat):zc8 w e size (.slice none 0 0) 0 []:=⟨by simp,.inl ⟨rfl,rfl⟩⟩
def zjz(tag:Nat→Nat×Nat)(t:Nat×Nat)(w:World)(v:Value)(fs:List Frm):Prop :=
 ∃l:List (Frm×Value),l.map (·.1)=fs∧zc5 w v l∧(∀g,Value.blk v=some g→tag g=t)∧∀fr∈l,∀g,Value.blk fr.2=some g→tag g=t
theorem zaB{S:Nat→Prop}{v:Value}(h:∀g,Value.blk v=some g→¬S g):zaX S v:=fun g o n c e=>h g (by rw[e];rfl)
theorem zjz.mod{S:Nat→Prop}{tag tag':Nat→Nat×Nat}{t:Nat×Nat}{w w':World}{v:Value}{fs:List Frm}(h:zjz tag t w v fs)(m:Mod S w w')(b:∀g,S g→tag g≠t)(c:∀g,tag g=t→tag' g=t):zjz tag' t w' v fs:=by
 obtain⟨l,h1,h2,h3,h4⟩:=h;exact⟨l,h1,h2.mod m (zaB fun g hg x=>b g x (h3 g hg)) (fun fr a=>zaB fun g hg x=>b g x (h4 fr a g hg)),fun g hg=>c g (h3 g hg),fun fr a g hg=>c g (h4 fr a g hg)⟩
def zbo(w:World)(b:Nat)(l:List (Nat×Nat)):Prop :=
 ∃D,w.ownsMap (H:=Unit) Tryz.prog 43 (plainElem Tryz.prog 43) b l.length D∧Maps.size D=l.length∧∀x:Nat,x<18446744073709551616→Maps.has D (.int .u64 (x:Int))=l.any (fun p=>p.1==x)
theorem zbo.mod{S:Nat→Prop}{w w':World}{b:Nat}{l:List (Nat×Nat)}(h:zbo w b l)(m:Mod S w w')(hs:¬S b):zbo w' b l:=by
 obtain⟨D,⟨es,a,h1,h2⟩,h3⟩:=h;exact⟨D,⟨es,a,m.obj hs h1,h2⟩,h3⟩
def zu(l:List (Fly×Value)):List Value:=l.flatMap fun p=>[.int .u64 (p.1.n:Int),.int .u64 (p.1.at_:Int),p.2]
def zaa(l:List (Nat×List UInt8)):List Value:=l.flatMap fun p=>[.int .u64 (p.1:Int),.string (zq p.2)]
def zp(l:List Frm):List Value:=l.flatMap fun f=>(zh f (.slice none 0 0)).toList
structure zg(tag:Nat→Nat×Nat)(i b:Nat)(c:CS)(V:CV)(W:World):Prop where
 obj:W.heap[b]?=some (.cells (zr c V).toArray 127 (0,0))
 tb:tag b=(i,1)
 got:zbz W V.g 0 V.gv c.got.rs c.got.fl c.got.most
 tg:tag V.g=(i,2)
 tgv:∀g,V.gv.ownBlock=some g→tag g=(i,3)
 wb:∀k,k<8→OB W (V.wb k) (c.ws k).b
 ws:∀k,k<8→W.ownsRow 0 214 2 (V.ws k) (c.ws k).sent.rs.length (zn (c.ws k).sent.rs)
 wc:∀k,k<8→W.ownsRow 0 214 2 (V.wc k) (c.ws k).came.rs.length (zn (c.ws k).came.rs)
 rb:∀k,k<8→OB W (V.rb k) (c.rs k).b
 rc:∀k,k<8→W.ownsRow 0 214 2 (V.rc k) (c.rs k).came.rs.length (zn (c.rs k).came.rs)
 twb:∀k,k<8→∀g,(V.wb k).ownBlock=some g→tag g=(i,10+k)
 tws:∀k,k<8→∀g,(V.ws k).ownBlock=some g→tag g=(i,20+k)
 twc:∀k,k<8→∀g,(V.wc k).ownBlock=some g→tag g=(i,30+k)
 trb:∀k,k<8→∀g,(V.rb k).ownBlock=some g→tag g=(i,40+k)
 trc:∀k,k<8→∀g,(V.rc k).ownBlock=some g→tag g=(i,50+k)
 ft:W.ownsRow 0 173 3 V.ft c.flight.length (zu (c.flight.zip V.fts))
 fl:V.fts.length=c.flight.length
 fs:∀p∈c.flight.zip V.fts,zjz tag (i,5) W p.2 p.1.fs
 tft:∀g,V.ft.ownBlock=some g→tag g=(i,4)
 wt:zc8 W 65 10 V.wt c.waits.length (zp c.waits)
 twt:∀g,Value.blk V.wt=some g→tag g=(i,6)
 sn:zbo W V.sn c.seen
 tsn:tag V.sn=(i,7)
 cm:W.ownsRow 0 154 2 V.cm c.came.length (zaa c.came)
 tcm:∀g,V.cm.ownBlock=some g→tag g=(i,8)
theorem zg.mod{S:Nat→Prop}{tag tag':Nat→Nat×Nat}{i b:Nat}{c:CS}{V:CV}{W W':World}(h:zg tag i b c V W)(m:Mod S W W')(hS:∀g,S g→(tag g).1≠i)(ht:∀g,(tag g).1=i→tag' g=tag g):zg tag' i b c V W':=by
 have q:∀{g:Nat} {t:Nat×Nat},tag g=t→t.1=i→¬S g:=fun hg hi x=>hS _ x (by rw[hg,hi])
 have e:∀{g:Nat} {t:Nat×Nat},tag g=t→t.1=i→tag' g=t:=fun hg hi=>(ht _ (by rw[hg,hi])).trans hg
 exact
  {obj:=m.obj (q h.tb rfl) h.obj
   tb:=e h.tb rfl
   got:=h.got.mod m (q h.tg rfl) (fun g hg=>q (h.tgv g hg) rfl)
   tg:=e h.tg rfl
   tgv:=fun g hg=>e (h.tgv g hg) rfl
   wb:=fun k hk=>m.owns (h.wb k hk) (fun g hg=>q (h.twb k hk g hg) rfl)
   ws:=fun k hk=>m.owns (h.ws k hk) (fun g hg=>q (h.tws k hk g hg) rfl)
   wc:=fun k hk=>m.owns (h.wc k hk) (fun g hg=>q (h.twc k hk g hg) rfl)
   rb:=fun k hk=>m.owns (h.rb k hk) (fun g hg=>q (h.trb k hk g hg) rfl)
   rc:=fun k hk=>m.owns (h.rc k hk) (fun g hg=>q (h.trc k hk g hg) rfl)
   twb:=fun k hk g hg=>e (h.twb k hk g hg) rfl
   tws:=fun k hk g hg=>e (h.tws k hk g hg) rfl
   twc:=fun k hk g hg=>e (h.twc k hk g hg) rfl
   trb:=fun k hk g hg=>e (h.trb k hk g hg) rfl
   trc:=fun k hk g hg=>e (h.trc k hk g hg) rfl
   ft:=m.owns h.ft (fun g hg=>q (h.tft g hg) rfl)
   fl:=h.fl
   fs:=fun p hp=>(h.fs p hp).mod m (fun g hg x=>q x rfl hg) (fun g hg=>e hg rfl)
   tft:=fun g hg=>e (h.tft g hg) rfl
   wt:=h.wt.mod m (fun g hg=>q (h.twt g hg) rfl)
   twt:=fun g hg=>e (h.twt g hg) rfl
   sn:=h.sn.mod m (q h.tsn rfl)
   tsn:=e h.tsn rfl
   cm:=m.owns h.cm (fun g hg=>q (h.tcm g hg) rfl)
   tcm:=fun g hg=>e (h.tcm g hg) rfl }
theorem zg.mod0{tag:Nat→Nat×Nat}{i b:Nat}{c:CS}{V:CV}{W W':World}(h:zg tag i b c V W)(m:Mod NoB W W'):zg tag i b c V W':=h.mod m (fun _ x=>x.elim) (fun _ _=>rfl)
def zP(tag:Nat→Nat×Nat)(W:World):Prop:=∀g,W.heap.size≤g→tag g=(0,0)
theorem zP.mod{S:Nat→Prop}{tag:Nat→Nat×Nat}{W W':World}(h:zP tag W)(m:Mod S W W'):zP tag W':=fun g hg=>h g (Nat.le_trans m.size hg)
structure Ext(i:Nat)(tag tag':Nat→Nat×Nat)(W W':World):Prop where
 old:∀g,g<W.heap.size→tag' g=tag g
 new:∀g,W.heap.size≤g→(tag' g).1=i∨tag' g=(0,0)
 out:zP tag' W'
theorem Ext.same{S:Nat→Prop}{i:Nat}{tag:Nat→Nat×Nat}{W W':World}(h:zP tag W)(m:Mod S W W'):Ext i tag tag W W':=⟨fun _ _=>rfl,fun g hg=>.inr (h g hg),h.mod m⟩
theorem Ext.trans{i:Nat}{tag tag' a:Nat→Nat×Nat}{W W' W'':World}(h:Ext i tag tag' W W')(k:Ext i tag' a W' W'')(hs:W.heap.size≤W'.heap.size):Ext i tag a W W'':=by
 refine⟨fun g hg=>(k.old g (by omega)).trans (h.old g hg),fun g hg=>?_,k.out⟩;by_cases q:g<W'.heap.size
 ·rw[k.old g q];exact h.new g hg
 ·exact k.new g (by omega)
def retag(tag:Nat→Nat×Nat)(W W':World)(t:Nat×Nat):Nat→Nat×Nat:=fun g=>if g<W.heap.size then tag g else if g<W'.heap.size then t else(0,0)
theorem zw{tag:Nat→Nat×Nat}{W W':World}{t:Nat×Nat}{g:Nat}(h:g<W.heap.size):retag tag W W' t g=tag g:=by simp[retag,h]
theorem zaj{tag:Nat→Nat×Nat}{W W':World}{t:Nat×Nat}{g:Nat}(h:W.heap.size≤g)(h':g<W'.heap.size):retag tag W W' t g=t:=by
 simp only[retag,show ¬g<W.heap.size by omega,if_neg,not_false_eq_true,if_pos h']
theorem zbj{i r:Nat}{tag:Nat→Nat×Nat}{W W':World}(hs:W.heap.size≤W'.heap.size):Ext i tag (retag tag W W' (i,r)) W W':=by
 refine⟨fun g hg=>zw hg,fun g hg=>?_,fun g hg=>?_⟩
 ·by_cases q:g<W'.heap.size
  ·exact .inl (by rw[zaj hg q])
  ·exact .inr (by simp only[retag,show ¬g<W.heap.size by omega,q,if_neg,not_false_eq_true])
 ·simp only[retag,show ¬g<W.heap.size by omega,show ¬g<W'.heap.size by omega,if_neg,not_false_eq_true]
theorem zaA{tag:Nat→Nat×Nat}{W:World}(h:zP tag W){g i r:Nat}(hg:tag g=(i,r))(hi:0<i):g<W.heap.size:=by
 by_cases q:g<W.heap.size
 ·exact q
 ·have:=h g (by omega);rw[hg]at this;simp at this;omega
theorem zg.hd{tag:Nat→Nat×Nat}{i b:Nat}{c:CS}{V:CV}{W:World}(h:zg tag i b c V W){j:Nat}{v:Value}(hv:(zaN c V)[j]?=some v):W.cell? ⟨b,j,none⟩=some v :=
 za h.obj (by rw[List.getElem?_toArray];exact zpP c V hv)
theorem zg.tl{tag:Nat→Nat×Nat}{i b:Nat}{c:CS}{V:CV}{W:World}(h:zg tag i b c V W){j:Nat}{v:Value}(hv:(zbP c V)[j]?=some v):W.cell? ⟨b,233+j,none⟩=some v :=
 za h.obj (by rw[List.getElem?_toArray];exact conn_t c V hv)
theorem zg.w{tag:Nat→Nat×Nat}{i b:Nat}{c:CS}{V:CV}{W:World}(h:zg tag i b c V W){k j:Nat}{v:Value}(hk:k<8)(hv:(zbn (c.ws k) (V.wb k) (V.ws k) (V.wc k))[j]?=some v):W.cell? ⟨b,9+15*k+j,none⟩=some v :=
 za h.obj (by rw[List.getElem?_toArray];exact zfD c V hk hv)
theorem zg.r{tag:Nat→Nat×Nat}{i b:Nat}{c:CS}{V:CV}{W:World}(h:zg tag i b c V W){k j:Nat}{v:Value}(hk:k<8)(hv:(zbO (c.rs k) (V.rb k) (V.rc k))[j]?=some v):W.cell? ⟨b,129+13*k+j,none⟩=some v :=
 za h.obj (by rw[List.getElem?_toArray];exact conn_r c V hk hv)
theorem zg.fz{tag:Nat→Nat×Nat}{i b:Nat}{c:CS}{V:CV}{W:World}(h:zg tag i b c V W)(j:Nat):W.frozen? ⟨b,j,none⟩=false:=by simp[World.frozen?,h.obj]
def inRs(rs:zD)(n:Nat):Prop:=∃i,i<rs.length∧loAt rs i≤n∧n≤hiAt rs i
theorem zc0(a b:zD)(i:Nat)(h:i<a.length):loAt (a++b) i=loAt a i∧hiAt (a++b) i=hiAt a i:=by
 simp[loAt,hiAt,List.getElem?_append_left h]
theorem zbl(a b:zD)(i:Nat)(h:a.length≤i):loAt (a++b) i=loAt b (i-a.length)∧hiAt (a++b) i=hiAt b (i-a.length):=by
 simp[loAt,hiAt,List.getElem?_append_right h]
theorem zeI(rs:zD)(k i:Nat)(h:i<k):loAt (rs.take k) i=loAt rs i∧hiAt (rs.take k) i=hiAt rs i:=by
 simp[loAt,hiAt,List.getD_eq_getElem?_getD,h]
theorem zbQ(rs:zD)(k i:Nat):loAt (rs.drop k) i=loAt rs (k+i)∧hiAt (rs.drop k) i=hiAt rs (k+i):=by
 simp[loAt,hiAt,List.getD_eq_getElem?_getD,List.getElem?_drop]
theorem zg7(r:Nat×Nat)(rs:zD):loAt (r::rs) 0=r.1∧hiAt (r::rs) 0=r.2:=⟨rfl,rfl⟩
theorem zd9(r:Nat×Nat)(rs:zD)(i:Nat):loAt (r::rs) (i+1)=loAt rs i∧hiAt (r::rs) (i+1)=hiAt rs i:=⟨rfl,rfl⟩
theorem zcF(rs:zD)(m hi m1 a:Nat)(h1:m1≤a)(h2:a≤rs.length):(zbw rs m hi m1 a).length=m1+1+(rs.length-a):=by
 simp[zbw];omega
theorem zev(rs:zD)(m hi m1 a i:Nat)(h1:m1≤a)(h2:a≤rs.length)(b:i<m1) :
  loAt (zbw rs m hi m1 a) i=loAt rs i∧hiAt (zbw rs m hi m1 a) i=hiAt rs i:=by
 unfold zbw;have c:i<(rs.take m1).length:=by simp;omega
 rw[(zc0 _ _ i c).1,(zc0 _ _ i c).2];exact zeI rs m1 i b
theorem zg8(rs:zD)(m hi m1 a:Nat)(h1:m1≤a)(h2:a≤rs.length) :
  loAt (zbw rs m hi m1 a) m1=(zfm rs m hi m1 a).1∧hiAt (zbw rs m hi m1 a) m1=(zfm rs m hi m1 a).2:=by
 unfold zbw;have hl:(rs.take m1).length=m1:=by simp;omega
 rw[(zbl _ _ m1 (by omega)).1,(zbl _ _ m1 (by omega)).2,hl,Nat.sub_self];exact zg7 _ _
theorem zcP(rs:zD)(m hi m1 a i:Nat)(h1:m1≤a)(h2:a≤rs.length)(hi1:m1<i) :
  loAt (zbw rs m hi m1 a) i=loAt rs (a+(i-m1-1))∧hiAt (zbw rs m hi m1 a) i=hiAt rs (a+(i-m1-1)):=by
 unfold zbw;have hl:(rs.take m1).length=m1:=by simp;omega
 rw[(zbl _ _ i (by omega)).1,(zbl _ _ i (by omega)).2,hl];obtain⟨j,hj⟩:∃j,i-m1=j+1:=⟨i-m1-1,by omega⟩;rw[hj,(zd9 _ _ j).1,(zd9 _ _ j).2];exact zbQ rs a j
theorem zkm{rs:zD}{m m1:Nat}(a:WF rs)(h1:zag rs.length (zel rs m) m1):∀i,i<m1→hiAt rs i+1<m:=by
 intro i hi;obtain⟨a1,b1,_⟩:=h1;have e:=b1 (by omega);simp only[zel,decide_eq_false_iff_not]at e;by_cases he:i=m1-1
 ·rw[he];omega
 ·have:=a.2 i (m1-1) (by omega) (by omega);have h2:=a.1 (m1-1) (by omega);omega
theorem zoq{rs:zD}{hi a:Nat}(b:WF rs)(h2:zag rs.length (zaH rs hi) a):∀i,a≤i→i<rs.length→hi+1<loAt rs i:=by
 intro i h1 hi;obtain⟨_,_,c2⟩:=h2;have e:=c2 (by omega);simp only[zaH,decide_eq_true_eq]at e;by_cases he:i=a
 ·rw[he];exact e
 ·have:=b.2 a i (by omega) hi;have h3:=b.1 a (by omega);omega
theorem zkn{rs:zD}{m hi m1 a:Nat}(b:WF rs)(c:hi<18446744073709551616)(h1:zag rs.length (zel rs m) m1)(h2:zag rs.length (zaH rs hi) a) :
  (zfm rs m hi m1 a).1≤m∧hi≤(zfm rs m hi m1 a).2∧(zfm rs m hi m1 a).2<18446744073709551616∧(∀i,i<m1→hiAt rs i+1<(zfm rs m hi m1 a).1)∧(∀i,a≤i→i<rs.length→(zfm rs m hi m1 a).2+1<loAt rs i):=by
 have d:=zkm b h1;have e:=zoq b h2;have hm2:=h2.1;unfold zfm;split
 ·rename_i hlt;have w2:=b.1 (a-1) (by omega);refine⟨Nat.min_le_left _ _,Nat.le_max_left _ _,by show max _ _<_;omega,fun i hi=>?_,fun i h3 h4=>?_⟩
  ·have:=d i hi;have h5:=b.2 i m1 hi (by omega);show _<min _ _;omega
  ·have:=e i h3 h4;have h5:=b.2 (a-1) i (by omega) h4;show max _ _+1<_;omega
 ·exact⟨Nat.le_refl _,Nat.le_refl _,c,d,e⟩
theorem zjI{rs:zD}{m hi m1 c:Nat}(d:WF rs)(h:m≤hi)(k:hi<18446744073709551616)(h1:zag rs.length (zel rs m) m1)(h2:zag rs.length (zaH rs hi) c) :
  WF (zbw rs m hi m1 c):=by
 have a:=zcO d h h1 h2;have b:=h2.1;have hl:=zcF rs m hi m1 c a b;obtain⟨r1,r2,r3,r4,r5⟩:=zkn d k h1 h2;have g:=zg8 rs m hi m1 c a b;refine⟨fun i hi1=>?_,fun i j f hj=>?_⟩
 ·rcases Nat.lt_trichotomy i m1 with hc|hc|hc
  ·have e:=zev rs m hi m1 c i a b hc;rw[e.1,e.2];exact d.1 i (by omega)
  ·subst hc;rw[g.1,g.2];omega
  ·have e:=zcP rs m hi m1 c i a b hc;rw[e.1,e.2];exact d.1 _ (by omega)
 ·rcases Nat.lt_trichotomy i m1 with hc|hc|hc
  ·have e:=zev rs m hi m1 c i a b hc;rw[e.2];rcases Nat.lt_trichotomy j m1 with hd|hd|hd
   ·rw[(zev rs m hi m1 c j a b hd).1];exact d.2 i j f (by omega)
   ·subst hd;rw[g.1];exact r4 i hc
   ·rw[(zcP rs m hi m1 c j a b hd).1];exact d.2 i _ (by omega) (by omega)
  ·subst hc;rw[g.2,(zcP rs m hi i c j a b f).1];exact r5 _ (by omega) (by omega)
  ·rw[(zcP rs m hi m1 c i a b hc).2,(zcP rs m hi m1 c j a b (by omega)).1];exact d.2 _ _ (by omega) (by omega)
theorem zgh{rs:zD}(a:WF rs){i j:Nat}(h:i≤j)(b:j<rs.length):loAt rs i≤loAt rs j∧hiAt rs i≤hiAt rs j:=by
 by_cases he:i=j
 ·subst he;exact⟨Nat.le_refl _,Nat.le_refl _⟩
 ·have:=a.2 i j (by omega) b;have h1:=a.1 i (by omega);have h2:=a.1 j b;omega
theorem zp6{rs:zD}{n m:Nat}(d:WF rs)(h:zag rs.length (zpD rs n) m):(m<rs.length∧loAt rs m≤n)↔inRs rs n:=by
 obtain⟨a,b,c⟩:=h;constructor
 ·rintro⟨h1,h2⟩;have:=c h1;simp only[zpD,decide_eq_true_eq]at this;exact⟨m,h1,h2,this⟩
 ·rintro⟨i,hi,hlo,hhi⟩;by_cases hc:i<m
  ·have e:=b (by omega);simp only[zpD,decide_eq_false_iff_not]at e;have:=(zgh d (i:=i) (j:=m-1) (by omega) (by omega)).2;omega
  ·have:=(zgh d (i:=m) (j:=i) (by omega) hi).1;exact⟨by omega,by omega⟩
theorem zl0{rs:zD}{i:Nat}(h:i<rs.length):rs[i]?=some (loAt rs i,hiAt rs i):=by
 simp[loAt,hiAt,List.getD_eq_getElem?_getD,List.getElem?_eq_getElem h]
def zaD:zD→Nat→Nat→Nat×Nat
 | [],lo,hi=>(lo,hi)
 | r::l,lo,hi=>if r.2<lo then zaD l lo hi else if lo<r.1 then(lo,min hi r.1)else zaD l (r.2+1) hi
theorem zl1{rs:zD}{k:Nat}(h:k<rs.length):rs.drop k=(loAt rs k,hiAt rs k)::rs.drop (k+1):=by
 rw[List.drop_eq_getElem_cons h]
 congr 1
 have:=zl0 h;rw[List.getElem?_eq_getElem h]at this;exact Option.some.inj this
theorem ziA(rs:zD)(fl most b o lo hi:Nat)(v:Value)(w:World)(h:zbz w b o v rs fl most)(l:lo≤9223372036854775808)(hb:∀k,k<rs.length→hiAt rs k<9223372036854775808) :
  Calls Tryz.prog 91 #[.pointer (some ⟨b,o,none⟩),.int .u64 (lo:Int),.int .u64 (hi:Int)] w fun e w'=>e = .returned (.tuple #[.int .u64 ((zaD rs lo hi).1:Int),.int .u64 ((zaD rs lo hi).2:Int)])∧Mod NoB w w':=by
 obtain⟨a,cap,rfl,h1,h2,h3⟩:=zj h.own;have hl:=h.cl;have HH:=zb h;have H3:=zb h3;have HB:=zb hb;unfold maxLen at h2;clear h h3 hb;obtain⟨G,n⟩:=nm (zaD rs lo hi);rw[n];have HG:=zb n;clear n;go_enter Tryz.func91,Tryz.ntmps91;go_wp2_with fail
 go_loopw [1,15] (fun lv r wr=>∃k L:Nat,k≤rs.length∧lv = .int .u64 (L:Int)∧r = .int .i64 k∧Mod NoB w wr∧L≤9223372036854775808∧Hid (zaD (rs.drop k) L hi=G)) (fun _ r _=>rs.length-(intOf r).toNat)
 case atStart=>exact⟨0,lo,Nat.zero_le _,rfl,rfl,Mod.refl _ _,l,HG⟩
 case round =>
  obtain⟨k,L,hk,rfl,rfl,m,hL,i⟩:=hrel;have M:=zb m;by_cases f:k<rs.length
  ·obtain⟨g,rfl⟩:=H3.out (by omega);obtain⟨s,t⟩:=zaI HH.out.own k f;have s:=m.cell (a:=⟨g,_,none⟩) (fun x=>x) s;have t:=m.cell (a:=⟨g,_,none⟩) (fun x=>x) t;have u:=HB.out k f;have c:Hid (zaD (rs.drop k) L hi=if hiAt rs k<L then zaD (rs.drop (k+1)) L hi else if L<loAt rs k then(L,min hi (loAt rs k))else zaD (rs.drop (k+1)) (hiAt rs k+1) hi):=by
    show _=_;rw[zl1 f];rfl
   obtain⟨p,y⟩:=nm (loAt rs k);obtain⟨q,z⟩:=nm (hiAt rs k);rw[y]at s c;rw[z]at t c u;clear m y z hl;by_cases c1:q<L
   ·have d1:(q:Int)<L:=by omega
    have d:Hid (zaD (rs.drop (k+1)) L hi=G):=by
     have:=c.out;rw[if_pos c1,i.out]at this;exact this.symm
    clear c1 c;go_wp2_with fail;go_roundw
    case rel=>exact⟨k+1,L,by omega,rfl,by go_num,M.out.alloc _,hL,d⟩
    case measure=>simp[intOf];omega
   ·have d1:¬(q:Int)<L:=by omega
    by_cases c2:L<p
    ·have d2:(L:Int)<p:=by omega
     have d:Hid (G=(L,min hi p)):=by
      have:=c.out;rw[if_neg c1,if_pos c2,i.out]at this;exact this
     clear c1 c2 c;by_cases c3:p≤hi
     ·have d3:(p:Int)≤hi:=by omega
      have HM:Hid (min hi p=p):=zb (by omega);clear c3;go_wp2_with fail;go_quiet (fail);go_wp2_with fail;all_goals first
       | (exfalso;omega)
       | (go_ret2;exact⟨by rw[d.out];(first|(rw[show min hi p=p by omega];rfl)|(rw[show min hi p=hi by omega];rfl)),(M.out.alloc _).drewN _⟩)
     ·have d3:¬(p:Int)≤hi:=by omega
      have HM:Hid (min hi p=hi):=zb (by omega);clear c3;go_wp2_with fail;go_quiet (fail);go_wp2_with fail;all_goals first
       | (exfalso;omega)
       | (go_ret2;exact⟨by rw[d.out];(first|(rw[show min hi p=p by omega];rfl)|(rw[show min hi p=hi by omega];rfl)),(M.out.alloc _).drewN _⟩)
    ·have d2:¬(L:Int)<p:=by omega
     have hw1:IntKind.u64.wrap ((q:Int)+1)=(q:Int)+1:=by rw[IntKind.wrap_u64];omega
     have d:Hid (zaD (rs.drop (k+1)) (q+1) hi=G):=by
      have:=c.out;rw[if_neg c1,if_neg c2,i.out]at this;exact this.symm
     clear c1 c2 c;go_wp2_with fail;go_roundw
     case rel=>exact⟨k+1,q+1,by omega,by go_num,by go_num,M.out.alloc _,by omega,d⟩
     case measure=>simp[intOf];omega
  ·have j:k=rs.length:=by omega
   have d:Hid (G=(L,hi)):=by
    have:=i.out;rw[j,List.drop_length]at this;exact this.symm
   clear m j i;go_wp2_with fail;go_ret2;exact⟨by rw[d.out];rfl,M.out⟩
end Go.Proofs.YtddfdpbaiedcjaaGreatDoor
