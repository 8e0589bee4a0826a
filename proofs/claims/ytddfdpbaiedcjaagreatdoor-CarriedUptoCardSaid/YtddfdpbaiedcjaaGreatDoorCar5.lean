/- A part of Carried's proof. Conditions: none. Part 5 of 13. -/
import Derived.Test.YtddfdpbaiedcjaaGreatDoorCar4
set_option maxRecDepth 100000
set_option maxHeartbeats 16000000
set_option linter.all false
namespace Go.Proofs.YtddfdpbaiedcjaaGreatDoor
open Go.RowKit Go.Proofs.Tryz
def zhl(b:Nat):Nat→Prop:=fun k=>k=b
theorem as_ff(e:Addr)(tb:Nat)(old:Value)(w:World)(hg:zei w)(b:w.cell? ⟨tb,0,none⟩=some old)(hf:w.frozen? ⟨tb,0,none⟩=false):Calls prog 75 #[.iface 162 (.pointer (some e)),.iface 164 (.pointer (some ⟨tb,0,none⟩))] w fun ev w'=>ev = .returned (.bool true)∧Mod (zhl tb) w w'∧w'.cell? ⟨tb,0,none⟩=some (.pointer (some e)):=by
 refine(as_FF e ⟨tb,0,none⟩ old w hg b hf).mono ?_;rintro ev w' ⟨rfl,rfl⟩;have hl:=zk b;refine⟨rfl,(((((Mod.refl (zhl tb) w).alloc _).alloc _).alloc _).alloc _).setCell (p:=⟨tb,0,none⟩) (.inl rfl) _,World.cell?_setCell_same _ _ _ ((((((Mod.refl NoB w).alloc _).alloc _).alloc _).alloc _).cell (a:=⟨tb,0,none⟩) id b)⟩
theorem as_ee(n:Int)(tb:Nat)(old:Value)(w:World)(hg:zei w)(b:w.cell? ⟨tb,0,none⟩=some old)(hf:w.frozen? ⟨tb,0,none⟩=false):Calls prog 75 #[.iface 57 (.int .i64 n),.iface 168 (.pointer (some ⟨tb,0,none⟩))] w fun ev w'=>ev = .returned (.bool true)∧Mod (zhl tb) w w'∧w'.cell? ⟨tb,0,none⟩=some (.int .i64 n):=by
 refine(as_EE n ⟨tb,0,none⟩ old w hg b hf).mono ?_;rintro ev w' ⟨rfl,rfl⟩;refine⟨rfl,(((((Mod.refl (zhl tb) w).alloc _).alloc _).alloc _).alloc _).setCell (p:=⟨tb,0,none⟩) (.inl rfl) _,World.cell?_setCell_same _ _ _ ((((((Mod.refl NoB w).alloc _).alloc _).alloc _).alloc _).cell (a:=⟨tb,0,none⟩) id b)⟩
theorem as_ef(n:Int)(tb:Nat)(old:Value)(w:World)(hg:zei w)(ht:w.cell? ⟨tb,0,none⟩=some old):Calls prog 75 #[.iface 57 (.int .i64 n),.iface 164 (.pointer (some ⟨tb,0,none⟩))] w fun ev w'=>ev = .returned (.bool false)∧Mod NoB w w':=by
 refine(as_EF n ⟨tb,0,none⟩ old w hg ht).mono ?_;rintro ev w' ⟨rfl,rfl⟩;exact⟨rfl,(((Mod.refl NoB w).alloc _).alloc _).alloc _⟩
variable{S:Nat→Prop}{w w':World}
theorem zei.mod(h:zei w)(m:Mod S w w')(hs:¬S 0):zei w':=m.cell (a:=⟨0,0,none⟩) hs h
def zfW(w:World)(n at_:Int)(e:Ending)(w':World):Prop:=e = .returned (.tuple #[.int .i64 n,.int .i64 at_])∧Mod NoB w w'
theorem zgD(w:World):Calls prog 43 #[.nilIface] w (zfW w 0 (-1)):=by
 go_enter func43,ntmps43;go_wp2_with fail;go_ret2;exact⟨rfl,((Mod.refl _ _).alloc _).alloc _⟩
theorem zo5(n:Int)(w:World):(binOp .eql 98 (.iface 57 (.int .i64 n)) .nilIface).run prog w = .ok (.bool false) w:=by kernel_rfl
theorem zo6(p:Addr)(w:World):(binOp .eql 98 (.iface 162 (.pointer (some p))) .nilIface).run prog w = .ok (.bool false) w:=by kernel_rfl
structure ToldAt(w W:World):Prop where
 o0:W.heap[w.heap.size]?=some (.cells #[.pointer none] 162 (0,0))
 o1:W.heap[w.heap.size+1]?=some (.cells #[.int .i64 0] 57 (0,0))
 m:Mod NoB w W
theorem zfX(w:World):ToldAt w ((w.alloc (.cells #[.pointer none] 162)).alloc (.cells #[.int .i64 0] 57)):=by
 have e1:(w.alloc (.cells #[.pointer none] 162)).heap.size=w.heap.size+1:=by simp
 refine⟨((Mod.refl NoB _).alloc _).obj (fun x=>x) (heap_alloc_new w _),?_,((Mod.refl NoB w).alloc _).alloc _⟩;rw[←e1];exact heap_alloc_new _ _
theorem zmq(n:Int)(w:World)(hg:zei w):Calls prog 43 #[.iface 57 (.int .i64 n)] w (zfW w n (-1)):=by
 have q0:=zo5 n;have a:=zfX w;obtain⟨W,b⟩:=nm ((w.alloc (.cells #[.pointer none] 162)).alloc (.cells #[.int .i64 0] 57));rw[b]at a;have f:W.heap.size=w.heap.size+1+1:=by rw[←b];simp
 have h0:0<w.heap.size:=zk hg;have c:zei W:=hg.mod a.m (fun x=>x);have g:=as_ef n w.heap.size _ W c (za a.o0 rfl);have d:=zb a;have HG:=zb c;have HW:=zb b;have HS:=zb f;clear a c b f hg;go_enter func43,ntmps43;go_wp2_with fail;rw[HW.out];refine g.mono ?_;rintro e w1 ⟨rfl,m1⟩;have k2:=as_ee n (w.heap.size+1) _ w1 (HG.out.mod m1 (fun x=>x)) (za (m1.obj (fun x=>x) d.out.o1) rfl) (zf (m1.obj (fun x=>x) d.out.o1));clear g;have M1:=zb m1;clear m1;go_wp2_with fail;refine k2.mono ?_;rintro e w2 ⟨rfl,h,c2⟩;have k3:=is_EE n w2;have M2:=zb h;clear h k2;go_wp2_with fail;refine k3.mono ?_;rintro e w3 ⟨rfl,rfl⟩;go_wp2_with fail;go_ret2;exact⟨rfl,(d.out.m.trans M1.out).then M2.out (fun k hk=>by unfold zhl at hk;omega)⟩
theorem zqg(p:Nat)(n at_:Int)(w:World)(hg:zei w)(f:w.cell? ⟨p,0,none⟩=some (.int .i64 n))(c:w.cell? ⟨p,1,none⟩=some (.int .i64 at_)):Calls prog 43 #[.iface 162 (.pointer (some ⟨p,0,none⟩))] w (zfW w n at_):=by
 have q0:=zo6 ⟨p,0,none⟩;have b:=zfX w;obtain⟨W,g⟩:=nm ((w.alloc (.cells #[.pointer none] 162)).alloc (.cells #[.int .i64 0] 57));rw[g]at b;have hpl:=zk f;have h0:0<w.heap.size:=zk hg;have h:zei W:=hg.mod b.m (fun x=>x);have i:=as_ff ⟨p,0,none⟩ w.heap.size _ W h (za b.o0 rfl) (zf b.o0);have p0:=b.m.cell (a:=⟨p,0,none⟩) id f;have p1:=b.m.cell (a:=⟨p,1,none⟩) id c;have HT:=zb b;have HW:=zb g;clear b h g hg;go_enter func43,ntmps43;go_wp2_with fail;rw[HW.out];refine i.mono ?_;rintro e w1 ⟨rfl,m1,c1⟩;have d:¬zhl w.heap.size p:=by unfold zhl;omega
 have r0:=m1.cell (a:=⟨p,0,none⟩) d p0;have r1:=m1.cell (a:=⟨p,1,none⟩) d p1;have k3:=is_FE p n w1 r0;have M1:=zb m1;clear m1 i p0 p1 f c;go_wp2_with fail;refine k3.mono ?_;rintro e w3 ⟨rfl,rfl⟩;clear k3;go_wp2_with fail;go_quiet (fail);go_wp2_with fail;go_ret2;exact⟨rfl,(HT.out.m.then M1.out (fun k hk=>by unfold zhl at hk;omega)).drewN _⟩
def zj2(w:World)(n:Int)(e:Ending)(w':World):Prop:=e = .returned (.int .i64 n)∧Mod NoB w w'
theorem zhm(v:Value)(n at_:Int)(w:World)(h:Calls prog 43 #[v] w (zfW w n at_)):Calls prog 53 #[v] w (zj2 w n):=by
 go_enter func53,ntmps53;go_wp2_with fail;refine h.mono ?_;rintro e w1 ⟨rfl,m1⟩;go_wp2_with fail;go_ret;exact⟨rfl,m1⟩
def zdV(n:Nat):Value:=if n=0 then .nilIface else .iface 57 (.int .i64 (n:Int))
theorem zmr:zdV 0 = .nilIface:=rfl
variable{n:Nat}
theorem zbZ(h:n≠0):zdV n = .iface 57 (.int .i64 (n:Int)):=by simp[zdV,h]
theorem zca(n:Nat)(w:World)(hg:zei w):Calls prog 53 #[zdV n] w (zj2 w (n:Int)):=by
 by_cases h:n=0
 ·subst h;exact zhm _ _ _ w (zgD w)
 ·rw[zbZ h];exact zhm _ _ _ w (zmq (n:Int) w hg)
def zbo(tag:Nat→Nat×Nat)(i b:Nat)(W:World)(c':CS)(W':World):Prop :=
 ∃tag' V',zg tag' i b c' V' W'∧Ext i tag tag' W W'∧Mod (fun g=>(tag g).1=i) W W'
def zbC(tag:Nat→Nat×Nat)(i b:Nat)(W:World)(r:Value)(c':CS)(e:Ending)(W':World):Prop:=e = .returned r∧zbo tag i b W c' W'
structure zbH(c c':CS):Prop where
 got:c'.got=c.got
 ws:∀k,k<8→(c'.ws k).b=(c.ws k).b∧(c'.ws k).sent.rs=(c.ws k).sent.rs∧(c'.ws k).came.rs=(c.ws k).came.rs
 rs:∀k,k<8→(c'.rs k).b=(c.rs k).b∧(c'.rs k).came.rs=(c.rs k).came.rs
 flight:c'.flight=c.flight
 waits:c'.waits=c.waits
 seen:c'.seen=c.seen
 came:c'.came=c.came
theorem zbH.refl(c:CS):zbH c c:=⟨rfl,fun _ _=>⟨rfl,rfl,rfl⟩,fun _ _=>⟨rfl,rfl⟩,rfl,rfl,rfl,rfl⟩
variable{V:CV}{W W':World}{b i:Nat}{c c':CS}{tag:Nat→Nat×Nat}
theorem zg.re(h:zg tag i b c V W)(m:Mod (fun g=>g=b) W W')(d:W'.heap[b]?=some (.cells (zr c' V).toArray 127 (0,0)))(s:zbH c c'):zg tag i b c' V W':=by
 have q:∀{g:Nat} {r:Nat},tag g=(i,r)→r≠1→¬g=b:=fun hg hr x=>by
  rw[x,h.tb]at hg;simp at hg;exact hr hg.symm
 have ne:∀(a k:Nat),1<a→a+k≠1:=fun a k ha=>by omega
 obtain⟨s1,s2,f,e,s5,s6,s7⟩:=s;exact
  {obj:=d
   tb:=h.tb
   got:=by rw[s1];exact h.got.mod m (q h.tg (by decide)) (fun g hg=>q (h.tgv g hg) (by decide))
   tg:=h.tg
   tgv:=h.tgv
   wb:=fun k hk=>by rw[(s2 k hk).1];exact m.owns (h.wb k hk) (fun g hg=>q (h.twb k hk g hg) (ne _ _ (by decide)))
   ws:=fun k hk=>by rw[(s2 k hk).2.1];exact m.owns (h.ws k hk) (fun g hg=>q (h.tws k hk g hg) (ne _ _ (by decide)))
   wc:=fun k hk=>by rw[(s2 k hk).2.2];exact m.owns (h.wc k hk) (fun g hg=>q (h.twc k hk g hg) (ne _ _ (by decide)))
   rb:=fun k hk=>by rw[(f k hk).1];exact m.owns (h.rb k hk) (fun g hg=>q (h.trb k hk g hg) (ne _ _ (by decide)))
   rc:=fun k hk=>by rw[(f k hk).2];exact m.owns (h.rc k hk) (fun g hg=>q (h.trc k hk g hg) (ne _ _ (by decide)))
   twb:=h.twb
   tws:=h.tws
   twc:=h.twc
   trb:=h.trb
   trc:=h.trc
   ft:=by rw[e];exact m.owns h.ft (fun g hg=>q (h.tft g hg) (by decide))
   fl:=by rw[e];exact h.fl
   fs:=fun p j=>by rw[e]at j;exact(h.fs p j).mod m (fun g hg x=>q x (by decide) hg) (fun g hg=>hg)
   tft:=h.tft
   wt:=by rw[s5];exact h.wt.mod m (fun g hg=>q (h.twt g hg) (by decide))
   twt:=h.twt
   sn:=by rw[s6];exact h.sn.mod m (q h.tsn (by decide))
   tsn:=h.tsn
   cm:=by rw[s7];exact m.owns h.cm (fun g hg=>q (h.tcm g hg) (by decide))
   tcm:=h.tcm }
theorem zg.store(h:zg tag i b c V W)(j:Nat)(v:Value)(hc:(zr c V).set j v=zr c' V)(s:zbH c c'):zg tag i b c' V (W.setCell ⟨b,j,none⟩ v) :=
 h.re ((Mod.refl (fun g=>g=b) _).setCell (p:=⟨b,j,none⟩) (.inl rfl) _) (by rw[zc h.obj,List.setIfInBounds_toArray,hc]) s
theorem zg.left(h:zg tag i b c V W')(ht:zR tag W)(m:Mod (fun g=>(tag g).1=i) W W'):zbo tag i b W c W':=⟨tag,V,h,Ext.same ht m,m⟩
theorem zg.modb(h:zg tag i b c V W)(m:Mod (fun g=>g=b) W W'):Mod (fun g=>(tag g).1=i) W W':=m.mono (fun g hg=>.inl (by rw[hg,h.tb]))
variable{k:Nat}
theorem zg.storeW(h:zg tag i b c V W)(hk:k<8)(j:Nat)(hj:j<15)(v:Value)(x:WS)(hx:zbp x (V.wb k) (V.ws k) (V.wc k)=(zbp (c.ws k) (V.wb k) (V.ws k) (V.wc k)).set j v)(h1:x.b=(c.ws k).b)(h2:x.sent.rs=(c.ws k).sent.rs)(h3:x.came.rs=(c.ws k).came.rs):zg tag i b { c with ws:=upd c.ws k x } V (W.setCell ⟨b,9+15*k+j,none⟩ v):=by
 refine h.store _ _ (zat _ _ _ _ _ hk hj (fun q _=>?_) rfl rfl rfl) ⟨rfl,fun q hq=>?_,fun _ _=>⟨rfl,rfl⟩,rfl,rfl,rfl,rfl⟩
 ·by_cases a:q=k
  ·subst a;simp only[ze,if_true];exact hx
  ·simp only[zd _ _ a,if_neg a]
 ·by_cases a:q=k
  ·subst a;simp only[ze];exact⟨h1,h2,h3⟩
  ·simp[zd _ _ a]
theorem zg.storeR(h:zg tag i b c V W)(hk:k<8)(j:Nat)(hj:j<13)(v:Value)(x:RS)(hx:zbO x (V.rb k) (V.rc k)=(zbO (c.rs k) (V.rb k) (V.rc k)).set j v)(h1:x.b=(c.rs k).b)(h3:x.came.rs=(c.rs k).came.rs):zg tag i b { c with rs:=upd c.rs k x } V (W.setCell ⟨b,129+13*k+j,none⟩ v):=by
 refine h.store _ _ (zbr _ _ _ _ _ hk hj (fun q _=>?_) rfl rfl rfl) ⟨rfl,fun _ _=>⟨rfl,rfl,rfl⟩,fun q hq=>?_,rfl,rfl,rfl,rfl⟩
 ·by_cases a:q=k
  ·subst a;simp only[ze,if_true];exact hx
  ·simp only[zd _ _ a,if_neg a]
 ·by_cases a:q=k
  ·subst a;simp only[ze];exact⟨h1,h3⟩
  ·simp[zd _ _ a]
def CS.stream(c:CS)(k:Int):Nat:=if c.closed≠0 then 12 else if k<0∨8≤k then 2 else 0
theorem zdi(h:zg tag i b c V W)(k:Int):Calls prog 90 #[.pointer (some ⟨b,0,none⟩),.int .i64 k] W fun e W'=>e = .returned (zdV (c.stream k))∧W=W':=by
 have c4:W.cell? ⟨b,4,none⟩=some (.int .i64 (c.closed:Int)):=h.hd (j:=4) rfl;unfold CS.stream zdV;clear h;by_cases h0:c.closed=0
 ·rw[h0]at c4;by_cases h1:k<0
  ·simp only[h0,h1,true_or,ne_eq,not_true_eq_false,if_false,if_true];clear h0;go_enter func90,ntmps90;go_wp2_with fail;go_ret;exact⟨rfl,rfl⟩
  ·by_cases h2:8≤k
   ·simp only[h0,h2,or_true,ne_eq,not_true_eq_false,if_false,if_true];clear h0;go_enter func90,ntmps90;go_wp2_with fail;go_ret;exact⟨rfl,rfl⟩
   ·simp only[h0,h1,h2,or_self,ne_eq,not_true_eq_false,if_false,if_true];clear h0;go_enter func90,ntmps90;go_wp2_with fail;go_ret;exact⟨rfl,rfl⟩
 ·have hb:((c.closed:Int)==0)=false:=beq_eq_false_iff_ne.2 (by omega);simp only[h0,ne_eq,not_false_eq_true,if_true];clear h0;go_enter func90,ntmps90;go_wp2_with fail;go_ret;exact⟨rfl,rfl⟩
def CS.finish(c:CS)(k:Int):Nat×CS :=
 if c.stream k≠0 then(c.stream k,c)else if (c.ws k.toNat).finished||(c.ws k.toNat).cut then(4,c)else(0,{ c with ws:=upd c.ws k.toNat { c.ws k.toNat with finished:=true } })
theorem ziO(h:zg tag i b c V W)(r:zR tag W)(k:Int):Calls prog 70 #[.pointer (some ⟨b,0,none⟩),.int .i64 k] W (zbC tag i b W (zdV (c.finish k).1) (c.finish k).2):=by
 have e:=zdi h k;have s:=zb (h.left r (Mod.refl _ _));unfold CS.finish;by_cases d:c.stream k=0
 ·obtain⟨k0,k8,m⟩:0≤k∧k<8∧c.closed=0:=by
   unfold CS.stream at d;split at d
   ·cases d
   ·split at d
    ·cases d
    ·rename_i a b;simp at a;omega
  obtain⟨q,rfl⟩:∃q:Nat,k=(q:Int):=⟨k.toNat,by omega⟩;have t:q<8:=by omega
  rw[d]at e;simp only[d,Int.toNat_natCast,ne_eq,not_true_eq_false,if_false];obtain⟨fi,f⟩:=nm ((c.ws q).finished);obtain⟨cu,l⟩:=nm ((c.ws q).cut);have w8:W.cell? ⟨b,9+q*15+8,none⟩=some (.bool fi):=by rw[←f,Nat.mul_comm];exact h.w (j:=8) t rfl
  have w10:W.cell? ⟨b,9+q*15+10,none⟩=some (.bool cu):=by rw[←l,Nat.mul_comm];exact h.w (j:=10) t rfl
  have cf:=h.fz (9+q*15+8);have u:=h.storeW t 8 (by decide) (.bool true) { c.ws q with finished:=true } rfl rfl rfl rfl;rw[Nat.mul_comm]at u;have H:=zb (u.left r (h.modb ((Mod.refl (fun g=>g=b) _).setCell (p:=⟨b,9+q*15+8,none⟩) (.inl rfl) _)));obtain⟨c1,o⟩:∃c1:CS,{ c with ws:=upd c.ws q { c.ws q with finished:=true } }=c1:=⟨_,rfl⟩;rw[o]at H ⊢;rw[f,l];clear h u r f l d m o;cases fi
  ·cases cu
   ·go_enter func70,ntmps70;go_wp2_with (go_at_call 90;refine e.mono ?_;rintro _ _ ⟨rfl,rfl⟩;unfold zdV;simp only[if_true]);go_ret;exact⟨rfl,H.out⟩
   ·go_enter func70,ntmps70;go_wp2_with (go_at_call 90;refine e.mono ?_;rintro _ _ ⟨rfl,rfl⟩;unfold zdV;simp only[if_true]);go_ret;exact⟨rfl,s.out⟩
  ·go_enter func70,ntmps70;go_wp2_with (go_at_call 90;refine e.mono ?_;rintro _ _ ⟨rfl,rfl⟩;unfold zdV;simp only[if_true]);go_ret;exact⟨rfl,s.out⟩
 ·obtain⟨n,m⟩:=nm (c.stream k);rw[m]at e d;simp only[m,d,ne_eq,not_false_eq_true,if_true];rw[zbZ d]at e ⊢;clear h r m d;go_enter func70,ntmps70;go_wp2_with (go_at_call 90;refine e.mono ?_;rintro _ _ ⟨rfl,rfl⟩);go_ret;exact⟨rfl,s.out⟩
variable{V':CV}{tag':Nat→Nat×Nat}
theorem zg.build{R:Nat→Prop}(h:zg tag i b c V W)(m:Mod S W W')(hS:∀g,S g→∃r,R r∧tag g=(i,r))(ht:∀g,(tag g).1=i→tag' g=tag g)
  (n:W'.heap[b]?=some (.cells (zr c' V').toArray 127 (0,0)))
  (got:(c'.got=c.got∧V'.g=V.g∧V'.gv=V.gv∧¬R 2∧¬R 3)∨(zbA W' V'.g 0 V'.gv c'.got.rs c'.got.fl c'.got.most∧tag' V'.g=(i,2)∧∀g,V'.gv.ownBlock=some g→tag' g=(i,3)))
  (wb:∀k,k<8→((c'.ws k).b=(c.ws k).b∧V'.wb k=V.wb k∧¬R (10+k))∨(OB W' (V'.wb k) (c'.ws k).b∧∀g,(V'.wb k).ownBlock=some g→tag' g=(i,10+k)))
  (ws:∀k,k<8→((c'.ws k).sent.rs=(c.ws k).sent.rs∧V'.ws k=V.ws k∧¬R (20+k))∨(W'.ownsRow 0 214 2 (V'.ws k) (c'.ws k).sent.rs.length (zn (c'.ws k).sent.rs)∧∀g,(V'.ws k).ownBlock=some g→tag' g=(i,20+k)))
  (wc:∀k,k<8→((c'.ws k).came.rs=(c.ws k).came.rs∧V'.wc k=V.wc k∧¬R (30+k))∨(W'.ownsRow 0 214 2 (V'.wc k) (c'.ws k).came.rs.length (zn (c'.ws k).came.rs)∧∀g,(V'.wc k).ownBlock=some g→tag' g=(i,30+k)))
  (rb:∀k,k<8→((c'.rs k).b=(c.rs k).b∧V'.rb k=V.rb k∧¬R (40+k))∨(OB W' (V'.rb k) (c'.rs k).b∧∀g,(V'.rb k).ownBlock=some g→tag' g=(i,40+k)))
  (rc:∀k,k<8→((c'.rs k).came.rs=(c.rs k).came.rs∧V'.rc k=V.rc k∧¬R (50+k))∨(W'.ownsRow 0 214 2 (V'.rc k) (c'.rs k).came.rs.length (zn (c'.rs k).came.rs)∧∀g,(V'.rc k).ownBlock=some g→tag' g=(i,50+k)))
  (ft:(c'.flight=c.flight∧V'.ft=V.ft∧V'.fts=V.fts∧¬R 4∧¬R 5)∨(W'.ownsRow 0 173 3 V'.ft c'.flight.length (zw (c'.flight.zip V'.fts))∧V'.fts.length=c'.flight.length∧(∀p∈c'.flight.zip V'.fts,zjV tag' (i,5) W' p.2 p.1.fs)∧∀g,V'.ft.ownBlock=some g→tag' g=(i,4)))
  (wt:(c'.waits=c.waits∧V'.wt=V.wt∧¬R 6)∨(zez W' 65 10 V'.wt c'.waits.length (zp c'.waits)∧∀g,Value.blk V'.wt=some g→tag' g=(i,6)))
  (sn:(c'.seen=c.seen∧V'.sn=V.sn∧¬R 7)∨(zbq W' V'.sn c'.seen∧tag' V'.sn=(i,7)))
  (cm:(c'.came=c.came∧V'.cm=V.cm∧¬R 8)∨(W'.ownsRow 0 154 2 V'.cm c'.came.length (zac c'.came)∧∀g,V'.cm.ownBlock=some g→tag' g=(i,8))) :
  zg tag' i b c' V' W':=by
 have q:∀{g r:Nat},tag g=(i,r)→¬R r→¬S g:=fun hg C x=>by
  obtain⟨r',h1,h2⟩:=hS _ x;rw[hg]at h2;simp at h2;rw[h2]at C;exact C h1
 have e:∀{g r:Nat},tag g=(i,r)→tag' g=(i,r):=fun hg=>(ht _ (by rw[hg])).trans hg
 have j:zbA W' V'.g 0 V'.gv c'.got.rs c'.got.fl c'.got.most∧tag' V'.g=(i,2)∧∀g,V'.gv.ownBlock=some g→tag' g=(i,3):=by
  rcases got with⟨a,d,f,A,B⟩|x
  ·rw[a,d,f];exact⟨h.got.mod m (q h.tg A) (fun g hg=>q (h.tgv g hg) B),e h.tg,fun g hg=>e (h.tgv g hg)⟩
  ·exact x
 have o:∀k,k<8→OB W' (V'.wb k) (c'.ws k).b∧∀g,(V'.wb k).ownBlock=some g→tag' g=(i,10+k):=fun k hk=>by
  rcases wb k hk with⟨a,d,f⟩|x
  ·rw[a,d];exact⟨m.owns (h.wb k hk) (fun g hg=>q (h.twb k hk g hg) f),fun g hg=>e (h.twb k hk g hg)⟩
  ·exact x
 have s:∀k,k<8→W'.ownsRow 0 214 2 (V'.ws k) (c'.ws k).sent.rs.length (zn (c'.ws k).sent.rs)∧∀g,(V'.ws k).ownBlock=some g→tag' g=(i,20+k):=fun k hk=>by
  rcases ws k hk with⟨a,d,f⟩|x
  ·rw[a,d];exact⟨m.owns (h.ws k hk) (fun g hg=>q (h.tws k hk g hg) f),fun g hg=>e (h.tws k hk g hg)⟩
  ·exact x
 have t:∀k,k<8→W'.ownsRow 0 214 2 (V'.wc k) (c'.ws k).came.rs.length (zn (c'.ws k).came.rs)∧∀g,(V'.wc k).ownBlock=some g→tag' g=(i,30+k):=fun k hk=>by
  rcases wc k hk with⟨a,d,f⟩|x
  ·rw[a,d];exact⟨m.owns (h.wc k hk) (fun g hg=>q (h.twc k hk g hg) f),fun g hg=>e (h.twc k hk g hg)⟩
  ·exact x
 have u:∀k,k<8→OB W' (V'.rb k) (c'.rs k).b∧∀g,(V'.rb k).ownBlock=some g→tag' g=(i,40+k):=fun k hk=>by
  rcases rb k hk with⟨a,d,f⟩|x
  ·rw[a,d];exact⟨m.owns (h.rb k hk) (fun g hg=>q (h.trb k hk g hg) f),fun g hg=>e (h.trb k hk g hg)⟩
  ·exact x
 have v:∀k,k<8→W'.ownsRow 0 214 2 (V'.rc k) (c'.rs k).came.rs.length (zn (c'.rs k).came.rs)∧∀g,(V'.rc k).ownBlock=some g→tag' g=(i,50+k):=fun k hk=>by
  rcases rc k hk with⟨a,d,f⟩|x
  ·rw[a,d];exact⟨m.owns (h.rc k hk) (fun g hg=>q (h.trc k hk g hg) f),fun g hg=>e (h.trc k hk g hg)⟩
  ·exact x
 have l:W'.ownsRow 0 173 3 V'.ft c'.flight.length (zw (c'.flight.zip V'.fts))∧V'.fts.length=c'.flight.length∧(∀p∈c'.flight.zip V'.fts,zjV tag' (i,5) W' p.2 p.1.fs)∧∀g,V'.ft.ownBlock=some g→tag' g=(i,4):=by
  rcases ft with⟨a,d,f,A,B⟩|x
  ·rw[a,d,f];exact⟨m.owns h.ft (fun g hg=>q (h.tft g hg) A),h.fl,fun p hp=>(h.fs p hp).mod m (fun g hg x=>q x B hg) (fun g hg=>e hg),fun g hg=>e (h.tft g hg)⟩
  ·exact x
 have w:zez W' 65 10 V'.wt c'.waits.length (zp c'.waits)∧∀g,Value.blk V'.wt=some g→tag' g=(i,6):=by
  rcases wt with⟨a,d,f⟩|x
  ·rw[a,d];exact⟨h.wt.mod m (fun g hg=>q (h.twt g hg) f),fun g hg=>e (h.twt g hg)⟩
  ·exact x
 have y:zbq W' V'.sn c'.seen∧tag' V'.sn=(i,7):=by
  rcases sn with⟨a,d,f⟩|x
  ·rw[a,d];exact⟨h.sn.mod m (q h.tsn f),e h.tsn⟩
  ·exact x
 have z:W'.ownsRow 0 154 2 V'.cm c'.came.length (zac c'.came)∧∀g,V'.cm.ownBlock=some g→tag' g=(i,8):=by
  rcases cm with⟨a,d,f⟩|x
  ·rw[a,d];exact⟨m.owns h.cm (fun g hg=>q (h.tcm g hg) f),fun g hg=>e (h.tcm g hg)⟩
  ·exact x
 exact⟨n,e h.tb,j.1,j.2.1,j.2.2,fun k hk=>(o k hk).1,fun k hk=>(s k hk).1,fun k hk=>(t k hk).1,fun k hk=>(u k hk).1,fun k hk=>(v k hk).1,fun k hk=>(o k hk).2,fun k hk=>(s k hk).2,fun k hk=>(t k hk).2,fun k hk=>(u k hk).2,fun k hk=>(v k hk).2,
  l.1,l.2.1,l.2.2.1,l.2.2.2,w.1,w.2,y.1,y.2,z.1,z.2⟩
variable{g r:Nat}
theorem zg.apart{a b:Nat}(h:tag g=(i,r))(h':tag a=(i,b))(hr:r≠b):g≠a:=fun e=>by
 rw[e,h']at h;simp at h;exact hr h.symm
variable{base e sz:Nat}{v:Value}{xs:List Value}
theorem zE(h:w.ownsRow base e sz v n xs):∀g,v.ownBlock=some g→g<w.heap.size:=by
 intro g hg;rcases h.2 with⟨rfl,rfl⟩|⟨g',cap,cur,rfl,_,h0,h1,h2,_⟩
 ·simp[Value.ownBlock]at hg
 ·simp[Value.ownBlock]at hg;subst hg;exact(Array.getElem?_eq_some_iff.1 h0).1
theorem zmt(w:World)(v:Value)(l:List UInt8)(a:Addr)(cap:Nat)(s:List UInt8)(h:OB w v l)(hb:BR w (.slice (some a) s.length cap) s)(hl:l.length+s.length≤140737488355328):∃v' w',(∀ty,(Builtin.append_ #[60,60] ty #[v,.slice (some a) s.length cap]).run prog w = .ok v' w')∧App w v l s v' w':=by
 obtain⟨i,hi,hz,b,c⟩:=info_parts zgm;obtain⟨a',c',e,_,_,hc⟩:=hb;cases e;obtain⟨v',w',h1,h2,h3,h4,h5⟩:=zau (P:=prog) w 60 5 i (.int .u8 0) 1 1 underlying60 hi hz b c rfl (by decide) v l.length (zP l) h a s.length cap (zP s) (by simp[zP]) (fun j u f=>by
   simp only[zP,List.getElem?_map,Option.map_eq_some_iff]at f;obtain⟨x,hx,rfl⟩:=f;obtain⟨g,o,e2,d⟩:=hc j x hx;cases e2;rw[zU];exact d) (zdW s) (by unfold maxLen;omega) (by omega)
 exact⟨v',w',h1,by rw[OB,List.length_append,zbi];exact h2,h5,h3,h4⟩
def CS.send(c:CS)(k:Int)(s:List UInt8):Nat×CS :=
 if c.stream k≠0 then(c.stream k,c)else if (c.ws k.toNat).finished||(c.ws k.toNat).cut then(4,c)else if 2048<(c.ws k.toNat).b.length+s.length then(3,c)else(0,{ c with ws:=upd c.ws k.toNat { c.ws k.toNat with b:=(c.ws k.toNat).b++s } })
theorem zcN{k:Int}(d:c.stream k=0):0≤k∧k<8∧c.closed=0:=by
 unfold CS.stream at d;split at d
 ·cases d
 ·split at d
  ·cases d
  ·rename_i a b;simp at a;omega
variable{W1:World}{v':Value}
theorem zg.newWb(h:zg tag i b c V W)(f:zR tag W)(hi:0<i)(hk:k<8){s:List UInt8}(d:App W (V.wb k) (c.ws k).b s v' W1):zbo tag i b W { c with ws:=upd c.ws k { c.ws k with b:=(c.ws k).b++s } } (W1.setCell ⟨b,9+15*k,none⟩ v'):=by
 have m1:Mod (fun g=>(V.wb k).ownBlock=some g) W W1:=(Mod.refl _ W).grown d.grown (fun g hg=>.inl hg);have hb:¬(V.wb k).ownBlock=some b:=fun x=>zg.apart h.tb (h.twb k hk b x) (by omega) rfl
 have o1:=m1.obj hb h.obj;have hbW:b<W.heap.size:=zaD f h.tb hi;have l:Mod (fun g=>(V.wb k).ownBlock=some g∨g=b) W (W1.setCell ⟨b,9+15*k,none⟩ v'):=(m1.mono (fun g hg=>.inl (.inl hg))).setCell (p:=⟨b,9+15*k,none⟩) (.inl (.inr rfl)) _;have hw:Mod (fun g=>g=b) W1 (W1.setCell ⟨b,9+15*k,none⟩ v'):=(Mod.refl (fun g=>g=b) _).setCell (p:=⟨b,9+15*k,none⟩) (.inl rfl) _;have j:∀g,v'.ownBlock=some g→g≠b:=fun g hg x=>by
  subst x;rcases d.at_ g hg with y|y
  ·exact hb y
  ·omega
 have hs1:W1.heap.size=(W1.setCell ⟨b,9+15*k,none⟩ v').heap.size:=by simp
 refine⟨retag tag W W1 (i,10+k),{ V with wb:=upd V.wb k v' },?_,?_,l.mono (fun g hg=>.inl ?_)⟩
 ·refine h.build (R:=fun r=>r=1∨r=10+k) l (fun g hg=>?_) (fun g hg=>zy (zaD f (i:=i) (r:=(tag g).2) (by rw[←hg]) hi)) ?_ (.inl ⟨rfl,rfl,rfl,by omega,by omega⟩) (fun q e=>?_) (fun q e=>.inl ⟨?_,rfl,by omega⟩) (fun q e=>.inl ⟨?_,rfl,by omega⟩) (fun q e=>.inl ⟨rfl,rfl,by omega⟩) (fun q e=>.inl ⟨rfl,rfl,by omega⟩) (.inl ⟨rfl,rfl,rfl,by omega,by omega⟩) (.inl ⟨rfl,rfl,by omega⟩) (.inl ⟨rfl,rfl,by omega⟩) (.inl ⟨rfl,rfl,by omega⟩)
  ·rcases hg with hg|hg
   ·exact⟨10+k,.inr rfl,h.twb k hk g hg⟩
   ·exact⟨1,.inl rfl,by rw[hg,h.tb]⟩
  ·rw[zc o1,List.setIfInBounds_toArray];rw[show 9+15*k=9+15*k+0 from rfl,zat c { c with ws:=upd c.ws k { c.ws k with b:=(c.ws k).b++s } } V { V with wb:=upd V.wb k v' } v' hk (by decide) (fun q _=>?_) rfl rfl rfl];by_cases a:q=k
   ·subst a;simp only[ze,if_true];rfl
   ·simp only[zd _ _ a,if_neg a]
  ·by_cases a:q=k
   ·subst a;simp only[ze];refine .inr ⟨hw.owns d.own j,fun g hg=>?_⟩;rcases d.at_ g hg with y|y
    ·rw[zy (zaD f (h.twb q hk g y) hi),h.twb q hk g y]
    ·rw[zav y];have:=zE d.own g hg;exact this
   ·exact .inl ⟨by simp only[zd _ _ a],by simp only[zd _ _ a],by omega⟩
  ·by_cases a:q=k
   ·subst a;simp only[ze]
   ·simp only[zd _ _ a]
  ·by_cases a:q=k
   ·subst a;simp only[ze]
   ·simp only[zd _ _ a]
 ·have:=zbw (i:=i) (r:=10+k) (tag:=tag) m1.size;exact⟨this.old,this.new,fun g hg=>this.out g (by simpa using hg)⟩
 ·rcases hg with hg|hg
  ·rw[h.twb k hk g hg]
  ·rw[hg,h.tb]
theorem zmu(h:zg tag i b c V W)(A:zR tag W)(hi:0<i)(k:Int)(a:Addr)(cap:Nat)(s:List UInt8)(m:BR W (.slice (some a) s.length cap) s)(hsl:s.length≤1099511627776)(o:∀k,k<8→(c.ws k).b.length≤1099511627776):Calls prog 69 #[.pointer (some ⟨b,0,none⟩),.int .i64 k,.slice (some a) s.length cap] W (zbC tag i b W (zdV (c.send k s).1) (c.send k s).2):=by
 have f:=zdi h k;have B:=zb (h.left A (Mod.refl _ _));unfold CS.send;by_cases l:c.stream k=0
 ·obtain⟨k0,k8,v⟩:=zcN l;obtain⟨q,rfl⟩:∃q:Nat,k=(q:Int):=⟨k.toNat,by omega⟩;have e:q<8:=by omega
  rw[l]at f;simp only[l,Int.toNat_natCast,ne_eq,not_true_eq_false,if_false];obtain⟨fi,p⟩:=nm ((c.ws q).finished);obtain⟨cu,r⟩:=nm ((c.ws q).cut);obtain⟨N,u⟩:=nm ((c.ws q).b.length);have C:=o q e;rw[u]at C;have w8:W.cell? ⟨b,9+q*15+8,none⟩=some (.bool fi):=by rw[←p,Nat.mul_comm];exact h.w (j:=8) e rfl
  have w10:W.cell? ⟨b,9+q*15+10,none⟩=some (.bool cu):=by rw[←r,Nat.mul_comm];exact h.w (j:=10) e rfl
  have E:W.cell? ⟨b,9+q*15,none⟩=some (V.wb q):=by rw[Nat.mul_comm];exact h.w (j:=0) e rfl
  obtain⟨v',W1,happ,y⟩:=zmt W (V.wb q) (c.ws q).b a cap s (h.wb q e) m (by omega);obtain⟨va,vc,rfl,_⟩:=zi y.own;have D:=h.newWb A hi e y;rw[Nat.mul_comm]at D;have w1:W1.cell? ⟨b,9+q*15,none⟩=some (V.wb q):=by
   have m1:Mod (fun g=>(V.wb q).ownBlock=some g) W W1:=(Mod.refl _ W).grown y.grown (fun g hg=>.inl hg);exact m1.cell (a:=⟨b,_,none⟩) (fun x=>zg.apart h.tb (h.twb q e b x) (by omega) rfl) E
  have f1:W1.frozen? ⟨b,9+q*15,none⟩=false:=by
   have m1:Mod (fun g=>(V.wb q).ownBlock=some g) W W1:=(Mod.refl _ W).grown y.grown (fun g hg=>.inl hg);have o1:=m1.obj (fun x=>zg.apart h.tb (h.twb q e b x) (by omega) rfl) h.obj;simp[World.frozen?,o1]
  have H:=zb D;obtain⟨c1,z⟩:∃c1:CS,{ c with ws:=upd c.ws q { c.ws q with b:=(c.ws q).b++s } }=c1:=⟨_,rfl⟩;rw[z]at H ⊢;rw[p,r,u];rw[List.length_append,u]at H;rw[List.length_append,u]at happ;obtain⟨wa,wc,t,_⟩:=zi (h.wb q e);rw[u]at t;rw[t]at E w1 happ;clear h D A p r l v z u y m t o;cases fi
  ·cases cu
   ·by_cases d:2048<N+s.length
    ·have d1:(2048:Int)-N<s.length:=by omega
     simp only[d,Bool.or_self,Bool.false_eq_true,if_false,if_true];clear d;go_enter func69,ntmps69;go_wp2_with (go_at_call 90;refine f.mono ?_;rintro _ _ ⟨rfl,rfl⟩;unfold zdV;simp only[if_true]);go_ret;exact⟨rfl,B.out⟩
    ·have d1:¬(2048:Int)-N<s.length:=by omega
     simp only[d,Bool.or_self,Bool.false_eq_true,if_false];clear d;go_enter func69,ntmps69;go_wp2_with (first|(go_at_call 90;refine f.mono ?_;rintro _ _ ⟨rfl,rfl⟩;unfold zdV;simp only[if_true])|(at_builtin;refine zl rfl _ _ _ _ rfl _ _ _ rfl rfl happ ?_));go_ret;exact⟨rfl,H.out⟩
   ·simp only[Bool.or_true,if_true];go_enter func69,ntmps69;go_wp2_with (go_at_call 90;refine f.mono ?_;rintro _ _ ⟨rfl,rfl⟩;unfold zdV;simp only[if_true]);go_ret;exact⟨rfl,B.out⟩
  ·simp only[Bool.true_or,if_true];go_enter func69,ntmps69;go_wp2_with (go_at_call 90;refine f.mono ?_;rintro _ _ ⟨rfl,rfl⟩;unfold zdV;simp only[if_true]);go_ret;exact⟨rfl,B.out⟩
 ·obtain⟨n,v⟩:=nm (c.stream k);rw[v]at f l;simp only[v,l,ne_eq,not_false_eq_true,if_true];rw[zbZ l]at f ⊢;clear h A v l m o;go_enter func69,ntmps69;go_wp2_with (go_at_call 90;refine f.mono ?_;rintro _ _ ⟨rfl,rfl⟩);go_ret;exact⟨rfl,B.out⟩
structure Env(i:Nat)(tag:Nat→Nat×Nat)(W:World):Prop where
 ok:zR tag W
 pos:0<i
 err:zei W
 tab:Tab W
 g0:tag 0=(0,0)
 g1:tag 1=(0,0)
theorem Env.mod(h:Env i tag W)(m:Mod S W W')(a:∀g,S g→(tag g).1≠0∨W.heap.size≤g):Env i tag W':=by
 have s0:¬S 0:=fun x=>by
  rcases a 0 x with q|q
  ·rw[h.g0]at q;exact q rfl
  ·have:0<W.heap.size:=zk h.err;omega
 have s1:¬S 1:=fun x=>by
  rcases a 1 x with q|q
  ·rw[h.g1]at q;exact q rfl
  ·have:=h.tab.lt;omega
 exact⟨h.ok.mod m,h.pos,h.err.mod m s0,h.tab.mod m s1,h.g0,h.g1⟩
theorem Env.mod0(h:Env i tag W)(m:Mod NoB W W'):Env i tag W':=h.mod m (fun _ x=>x.elim)
theorem Env.left(h:Env i tag W)(e:Ext i tag tag' W W')(m:Mod (fun g=>(tag g).1=i) W W'):Env i tag' W':=by
 have p0:0<W.heap.size:=zk h.err;have p1:=h.tab.lt;have a:=h.mod m (fun g hg=>.inl (by have:=h.pos;omega));exact⟨e.out,h.pos,a.err,a.tab,by rw[e.old 0 p0,h.g0],by rw[e.old 1 p1,h.g1]⟩
variable{W2:World}
theorem zbo.then0(h:zbo tag i b W c W1)(m:Mod NoB W1 W2):zbo tag i b W c W2:=by
 obtain⟨tag',V',h1,h2,h3⟩:=h;exact⟨tag',V',h1.mod0 m,⟨h2.old,h2.new,h2.out.mod m⟩,h3.trans (m.mono (fun _ x=>x.elim))⟩
variable{W0:World}
theorem zbo.thenS(e:zR tag W)(hi:0<i)(f:Mod NoB W W0)(h:zbo tag i b W0 c W1)(m:Mod S W1 W2)(j:∀g,S g→W.heap.size≤g∧g<W0.heap.size):zbo tag i b W c W2:=by
 obtain⟨tag',V',h1,h2,h3⟩:=h;have q:∀g,S g→tag' g=(0,0):=fun g hg=>by
  obtain⟨a,b⟩:=j g hg;rw[h2.old g b];exact e g a
 refine⟨tag',V',h1.mod m (fun g hg x=>?_) (fun _ _=>rfl),⟨fun g hg=>h2.old g (Nat.lt_of_lt_of_le hg f.size),fun g hg=>?_,h2.out.mod m⟩,?_⟩
 ·rw[q g hg]at x;simp at x;omega
 ·by_cases d:g<W0.heap.size
  ·exact .inr (by rw[h2.old g d];exact e g hg)
  ·exact h2.new g (by omega)
 ·exact((f.mono (fun _ x=>x.elim)).then h3 (fun g hg=>.inl hg)).then m (fun g hg=>.inr (j g hg).1)
theorem zbo.from0(ht:zR tag W)(hi:0<i)(m0:Mod NoB W W0)(h:zbo tag i b W0 c W1):zbo tag i b W c W1 :=
 h.thenS (S:=NoB) ht hi m0 (Mod.refl _ _) (fun _ x=>x.elim)
def zbs(w:World)(g n:Nat):Prop:=∃cs t fz,w.heap[g]?=some (.cells cs t fz)∧n≤cs.size∧n≤fz.1
variable{j:Nat}
theorem zbs.cell(h:zbs w g n)(hj:j<n):(∃v,w.cell? ⟨g,j,none⟩=some v)∧w.frozen? ⟨g,j,none⟩=false:=by
 obtain⟨cs,t,fz,h1,h2,h3⟩:=h;refine⟨⟨cs[j],za h1 (by simp[show j<cs.size by omega])⟩,?_⟩;obtain⟨lo,hi⟩:=fz;have:n≤lo:=h3;simp[World.frozen?,h1];omega
theorem zbs.set(h:zbs w g n)(j:Nat)(v:Value):zbs (w.setCell ⟨g,j,none⟩ v) g n:=by
 obtain⟨cs,t,fz,h1,h2,h3⟩:=h;exact⟨_,t,fz,zc h1,by simpa using h2,h3⟩
theorem zbs.mod(h:zbs w g n)(m:Mod S w w')(hs:¬S g):zbs w' g n:=by
 obtain⟨cs,t,fz,h1,h2,h3⟩:=h;exact⟨cs,t,fz,m.obj hs h1,h2,h3⟩
theorem zfY(w:World)(l:List UInt8)(hl:l.length≤4611686018427387904):∃cap w',(convert 9 60 (.string (zq l))).run prog w = .ok (.slice (some ⟨w.heap.size,0,none⟩) l.length cap) w'∧BR w' (.slice (some ⟨w.heap.size,0,none⟩) l.length cap) l∧Mod NoB w w'∧w'.heap.size=w.heap.size+1∧zbs w' w.heap.size l.length:=by
 have h:=Lib.run_convert_string_bytes (P:=prog) w 9 60 5 (zq l) (u:=.string) underlying9 underlying60 underlying5;have a:=grownCap_ge w (zq l).size 0 5;have b:grownCap w (zq l).size 0 5≤maxLen:=grownCap_le_maxLen w _ 0 _ (by rw[zF];unfold maxLen;omega);have hb:=Lib.bytesWorld_at_new w 5 (zq l);rw[zF]at h a b;have d:l.length≤(Lib.bytesCells w 5 (zq l)).size:=by
  by_cases h0:l.length=0
  ·omega
  ·have:=Lib.bytesWorld_cell w 5 (zq l) (l.length-1) (by rw[zF];omega);rw[World.cell?,hb]at this;have hq:(Lib.bytesCells w 5 (zq l))[l.length-1]?=some (.int .u8 (((zq l).data.toList.getD (l.length-1) 0).toNat:Int)):=by simpa using this
   have:=(Array.getElem?_eq_some_iff.1 hq).1;omega
 refine⟨_,_,h,⟨_,_,rfl,a,b,fun i c hc=>⟨_,_,rfl,?_⟩⟩,⟨?_,?_,?_,?_,?_⟩,Lib.bytesWorld_size _ _ _,⟨_,_,_,hb,d,d⟩⟩
 ·have hi:i<l.length:=(List.getElem?_eq_some_iff.1 hc).1;have:=Lib.bytesWorld_cell w 5 (zq l) i (by rw[zF];exact hi);rw[Nat.zero_add,this];simp only[zq,List.getD,hc,Option.getD_some]
 ·simp[Lib.bytesWorld,World.freeze,World.alloc,World.drew,-World.alloc_eq,-World.drew_eq]
 ·simp[Lib.bytesWorld,World.freeze,World.alloc,World.drew,-World.alloc_eq,-World.drew_eq]
 ·simp[Lib.bytesWorld,World.freeze,World.alloc,World.drew,-World.alloc_eq,-World.drew_eq]
 ·rw[Lib.bytesWorld_size];omega
 ·intro k hk _;exact Lib.bytesWorld_at_old w _ _ k hk
theorem ziP(h:zg tag i b c V W)(E:Env i tag W)(k:Int):Calls prog 38 #[.pointer (some ⟨b,0,none⟩),.int .i64 k] W (zbC tag i b W (.int .i64 ((c.finish k).1:Int)) (c.finish k).2):=by
 have d:=ziO h E.ok k;have HE:=zb E;clear h E;go_enter func38,ntmps38;go_wp2_with fail;refine d.mono ?_;rintro _ W1 ⟨rfl,a⟩;obtain⟨tag',V',h1,h2,h3⟩:=id a;have kn:=zca (c.finish k).1 W1 (HE.out.left h2 h3).err;have HL:=zb a;clear a h1 h2 h3 d;go_wp2_with fail;refine kn.mono ?_;rintro _ W2 ⟨rfl,e⟩;have H:=zb (HL.out.then0 e);clear e;go_wp2_with fail;go_ret;exact⟨rfl,H.out⟩
theorem zmv(h:zg tag i b c V W)(E:Env i tag W)(k:Int)(s:List UInt8)(t:s.length≤1099511627776)(d:∀k,k<8→(c.ws k).b.length≤1099511627776):Calls prog 37 #[.pointer (some ⟨b,0,none⟩),.int .i64 k,.string (zq s)] W (zbC tag i b W (.int .i64 ((c.send k s).1:Int)) (c.send k s).2):=by
 obtain⟨cap,W1,u,a,m1,f,l⟩:=zfY W s (by omega);have K:=zmu (h.mod0 m1) (E.ok.mod m1) E.pos k ⟨W.heap.size,0,none⟩ cap s a t d;have v:s.length≤cap∧cap≤maxLen:=by
  obtain⟨_,_,e,w,q,_⟩:=a;cases e;exact⟨w,q⟩
 obtain⟨hc1,y⟩:=v;unfold maxLen at y;have n:=zb E;have L:=zb m1;have HB:=zb l;have HS:=zb f;clear h E a m1 d l f;go_enter func37,ntmps37;go_wp2_with fail;refine K.mono ?_;rintro _ W2 ⟨rfl,z⟩;clear K;obtain⟨tag',V',w,q,A⟩:=id z;have M:Env i tag' W2:=(n.out.mod0 L.out).left q A;have o:zbs W2 W.heap.size s.length:=HB.out.mod A (fun x=>by
  have:=n.out.ok W.heap.size (Nat.le_refl _);rw[this]at x;have:=n.out.pos;simp at x;omega)
 have kn:=zca (c.send k s).1 W2 M.err;have HL:=zb z;have B:=zb o;clear z w q A M o u;go_wp2_with fail;refine kn.mono ?_;rintro _ W3 ⟨rfl,C⟩;have D:=zb (B.out.mod C (fun x=>x));have F:=zb (HL.out.then0 C);clear C kn;go_wp2_with fail
 go_loopw [19] (fun G wr=>∃j:Nat,j≤s.length∧G = .int .i64 j∧zbs wr W.heap.size s.length∧Mod (fun g=>g=W.heap.size) W3 wr) (fun G _=>s.length-(intOf G).toNat)
 case atStart=>exact⟨0,Nat.zero_le _,rfl,D.out,Mod.refl _ _⟩
 case round =>
  obtain⟨j,hj,rfl,r,m⟩:=hrel;by_cases I:j<s.length
  ·obtain⟨⟨v0,e0⟩,z0⟩:=r.cell I;have J:=zb (r.set j (.int .u8 33));have HM:=zb (m.setCell (p:=⟨W.heap.size,j,none⟩) (.inl rfl) (.int .u8 33));clear r m;go_wp2_with fail;go_roundw
   case rel=>exact⟨j+1,by omega,by go_num,J.out,HM.out⟩
   case measure=>simp[intOf];omega
  ·have H:=zb (F.out.thenS n.out.ok n.out.pos L.out m (fun g hg=>by
    have hg:g=W.heap.size:=hg;have:=HS.out;omega))
   clear r m;go_wp2_with fail;go_ret;exact⟨rfl,H.out⟩
def RS.used(x:RS):Nat:=if x.state=2 then x.fin else x.read
def RS.hopes(x:RS):Bool:=if x.cut then decide (x.grant<x.keep)||(x.anew&&x.state==0)else !x.ended
theorem zj3(h:zg tag i b c V W)(hk:k<8):Calls prog 196 #[.pointer (some ⟨b,129+k*13,none⟩)] W fun e W'=>e = .returned (.int .u64 ((c.rs k).used:Int))∧W=W':=by
 have f:W.cell? ⟨b,129+k*13+10,none⟩=some (.int .i64 ((c.rs k).state:Int)):=by rw[Nat.mul_comm];exact h.r (j:=10) hk rfl
 have c5:W.cell? ⟨b,129+k*13+5,none⟩=some (.int .u64 ((c.rs k).fin:Int)):=by rw[Nat.mul_comm];exact h.r (j:=5) hk rfl
 have c9:W.cell? ⟨b,129+k*13+9,none⟩=some (.int .u64 ((c.rs k).read:Int)):=by rw[Nat.mul_comm];exact h.r (j:=9) hk rfl
 obtain⟨x,g⟩:=nm (c.rs k);rw[g]at f c5 c9 ⊢;clear h g;unfold RS.used;by_cases a:x.state=2
 ·have d:((x.state:Int)==2)=true:=by rw[a];rfl
  rw[if_pos a];clear a;go_enter func196,ntmps196;go_wp2_with fail;go_ret;exact⟨rfl,rfl⟩
 ·have d:((x.state:Int)==2)=false:=beq_eq_false_iff_ne.2 (by omega);rw[if_neg a];clear a;go_enter func196,ntmps196;go_wp2_with fail;go_ret;exact⟨rfl,rfl⟩
theorem zhn(h:zg tag i b c V W)(hk:k<8):Calls prog 197 #[.pointer (some ⟨b,129+k*13,none⟩)] W fun e W'=>e = .returned (.bool (c.rs k).hopes)∧Mod NoB W W':=by
 have f:W.cell? ⟨b,129+k*13+10,none⟩=some (.int .i64 ((c.rs k).state:Int)):=by rw[Nat.mul_comm];exact h.r (j:=10) hk rfl
 have q:W.cell? ⟨b,129+k*13+6,none⟩=some (.bool (c.rs k).ended):=by rw[Nat.mul_comm];exact h.r (j:=6) hk rfl
 have s:W.cell? ⟨b,129+k*13+7,none⟩=some (.bool (c.rs k).cut):=by rw[Nat.mul_comm];exact h.r (j:=7) hk rfl
 have t:W.cell? ⟨b,129+k*13+8,none⟩=some (.int .u64 ((c.rs k).keep:Int)):=by rw[Nat.mul_comm];exact h.r (j:=8) hk rfl
 have g:W.cell? ⟨b,129+k*13+11,none⟩=some (.int .u64 ((c.rs k).grant:Int)):=by rw[Nat.mul_comm];exact h.r (j:=11) hk rfl
 have a:W.cell? ⟨b,129+k*13+12,none⟩=some (.bool (c.rs k).anew):=by rw[Nat.mul_comm];exact h.r (j:=12) hk rfl
 obtain⟨x,u⟩:=nm (c.rs k);rw[u]at f q s t g a ⊢;clear h u;unfold RS.hopes;obtain⟨cu,l⟩:=nm x.cut;obtain⟨an,m⟩:=nm x.anew;obtain⟨en,n⟩:=nm x.ended;rw[l]at s ⊢;rw[m]at a ⊢;rw[n]at q ⊢;clear l m n;cases cu
 ·clear t f g a;cases en
  ·go_enter func197,ntmps197;go_wp2_with fail;go_ret;exact⟨rfl,Mod.refl _ _⟩
  ·go_enter func197,ntmps197;go_wp2_with fail;go_ret;exact⟨rfl,Mod.refl _ _⟩
 ·by_cases hg:x.grant<x.keep
  ·have d:decide (x.grant<x.keep)=true:=by simp[hg]
   have HD:Hid (decide (x.grant<x.keep)=true):=zb (by simp[hg]);clear hg;go_enter func197,ntmps197;go_wp2_with fail;go_quiet (fail);go_wp2_with fail;go_ret;exact⟨rfl,(Mod.refl NoB _).drewN _⟩
  ·have d:decide (x.grant<x.keep)=false:=by simp[hg]
   have HD:Hid (decide (x.grant<x.keep)=false):=zb (by simp[hg]);clear hg;cases an
   ·go_enter func197,ntmps197;go_wp2_with fail;go_quiet (fail);go_wp2_with fail;go_ret;exact⟨rfl,(Mod.refl NoB _).drewN _⟩
   ·by_cases o:x.state=0
    ·have e:((x.state:Int)==0)=true:=by rw[o];rfl
     have p:Hid ((x.state==0)=true):=zb (by rw[o];rfl);clear o;go_enter func197,ntmps197;go_wp2_with fail;go_quiet (fail);go_wp2_with fail;go_ret;exact⟨by rw[p.out];rfl,(Mod.refl NoB _).drewN _⟩
    ·have e:((x.state:Int)==0)=false:=beq_eq_false_iff_ne.2 (by omega);have p:Hid ((x.state==0)=false):=zb (beq_eq_false_iff_ne.2 o);clear o;go_enter func197,ntmps197;go_wp2_with fail;go_quiet (fail);go_wp2_with fail;go_ret;exact⟨by rw[p.out];rfl,(Mod.refl NoB _).drewN _⟩
def zG(ws:Nat→WS):Nat→Nat
 | 0=>0
 | k+1=>zG ws k+(ws k).high
def CS.spent(c:CS):Nat:=zG c.ws 8
variable{m:Nat}
theorem zho(ws:Nat→WS)(h:k≤m):zG ws k≤zG ws m:=by
 induction m with
 | zero=>rw[Nat.le_zero.1 h];exact Nat.le_refl _
 | succ m ih =>
  by_cases e:k=m+1
  ·rw[e];exact Nat.le_refl _
  ·have:=ih (by omega);simp only[zG];omega
theorem zmw(h:zg tag i b c V W)(o:c.spent<18446744073709551616):Calls prog 199 #[.pointer (some ⟨b,0,none⟩)] W fun e W'=>e = .returned (.int .u64 (c.spent:Int))∧W=W':=by
 have HH:=zb h;have HS:=zb o;clear h o;go_enter func199,ntmps199;go_wp2_with fail
 go_loopw [3,5] (fun nv f wr=>∃k:Nat,k≤8∧nv = .int .u64 (zG c.ws k:Int)∧f = .int .i64 k∧W=wr) (fun _ f _=>8-(intOf f).toNat)
 case atStart=>exact⟨0,by omega,rfl,rfl,rfl⟩
 case round =>
  obtain⟨k,hk,rfl,rfl,rfl⟩:=hrel;by_cases g:k<8
  ·have c7:W.cell? ⟨b,9+k*15+7,none⟩=some (.int .u64 ((c.ws k).high:Int)):=by rw[Nat.mul_comm];exact HH.out.w (j:=7) g rfl
   have hb:zG c.ws k+(c.ws k).high<18446744073709551616:=by
    have h1:zG c.ws (k+1)≤zG c.ws 8:=zho _ (by omega);have h2:zG c.ws 8<18446744073709551616:=HS.out;have h3:zG c.ws (k+1)=zG c.ws k+(c.ws k).high:=rfl;omega
   obtain⟨n,a⟩:=nm (zG c.ws k);obtain⟨m,d⟩:=nm ((c.ws k).high);have HN:Hid (zG c.ws (k+1)=n+m):=by
    show _=_;rw[←a,←d];rfl
   rw[a,d]at hb;rw[a];rw[d]at c7;have hw1:=wu ((n:Int)+m) (by omega);clear a d;go_wp2_with fail;go_roundw
   case rel=>exact⟨k+1,by omega,by rw[HN.out];rfl,by go_num,trivial⟩
   case measure=>simp[intOf];omega
  ·have l:k=8:=by omega
   subst l;go_wp2_with fail;go_ret;exact⟨rfl,rfl⟩
structure Drf where
 b:List UInt8
 fs:List Frm
 room:Nat
 wants:Bool
 full:Bool
def Drf.add(d:Drf)(f:Frm):Option Drf :=
 if d.room<(d.b++zC f).length+4 then none else some { d with b:=d.b++zC f,fs:=d.fs++[f],wants:=d.wants||f.kind != 2 }
structure zah(tag:Nat→Nat×Nat)(i db:Nat)(d:Drf)(bv fv:Value)(l:List (Frm×Value))(W:World):Prop where
 obj:W.heap[db]?=some (.cells #[bv,fv,.int .i64 (d.room:Int),.bool d.wants,.bool d.full] 180 (0,0))
 tb:tag db=(i,90)
 ob:OB W bv d.b
 tbv:∀g,bv.ownBlock=some g→tag g=(i,91)
 own:W.ownsRow 0 65 10 fv l.length (za0 l)
 lf:l.map (·.1)=d.fs
 rr:∀x∈l,RR W x.2 x.1.rngs∧∀g,Value.blk x.2=some g→tag g=(i,5)
 tfv:∀g,fv.ownBlock=some g→tag g=(i,92)
structure DExt(i:Nat)(tag tag':Nat→Nat×Nat)(W W':World):Prop where
 old:∀g,g<W.heap.size→tag' g=tag g
 new:∀g,W.heap.size≤g→(∃r,90≤r∧tag' g=(i,r))∨tag' g=(0,0)
 out:zR tag' W'
def zhp(i:Nat)(tag:Nat→Nat×Nat)(g:Nat):Prop:=∃r,90≤r∧tag g=(i,r)
theorem zg.modR(h:zg tag i b c V W)(hk:zR tag W)(hi:0<i)(m:Mod (zhp i tag) W W')(e:∀g,g<W.heap.size→tag' g=tag g):zg tag' i b c V W':=by
 refine h.build (R:=fun r=>90≤r) m (fun g hg=>hg) (fun g hg=>e g (zaD hk (i:=i) (r:=(tag g).2) (by rw[←hg]) hi)) (m.obj (fun⟨r,hr,hx⟩=>?_) h.obj) (.inl ⟨rfl,rfl,rfl,by omega,by omega⟩) (fun k hk=>.inl ⟨rfl,rfl,by omega⟩) (fun k hk=>.inl ⟨rfl,rfl,by omega⟩) (fun k hk=>.inl ⟨rfl,rfl,by omega⟩) (fun k hk=>.inl ⟨rfl,rfl,by omega⟩) (fun k hk=>.inl ⟨rfl,rfl,by omega⟩) (.inl ⟨rfl,rfl,rfl,by omega,by omega⟩) (.inl ⟨rfl,rfl,by omega⟩) (.inl ⟨rfl,rfl,by omega⟩) (.inl ⟨rfl,rfl,by omega⟩);rw[h.tb]at hx;simp at hx;omega
def zqh(tag:Nat→Nat×Nat)(i db:Nat)(W:World)(d:Drf)(f:Frm)(e:Ending)(W':World):Prop :=
 e = .returned (.bool (d.add f).isSome)∧∃tag' bv' fv' l',zah tag' i db ((d.add f).getD d) bv' fv' l' W'∧DExt i tag tag' W W'∧Mod (zhp i tag) W W'
variable{bv fv:Value}{d:Drf}{db:Nat}{f:Frm}
theorem zq0{l:List (Frm×Value)}(h:zah tag i db d bv fv l W)(hk:zR tag W)(hi:0<i)(m1:Mod NoB W W1)(k:App W1 bv d.b (zC f) v' W2)(c:d.add f=none):zqh tag i db W d f (.returned (.bool false)) W2:=by
 have e:Mod (fun g=>bv.ownBlock=some g) W W2:=((m1.mono (fun _ x=>x.elim)).then ((Mod.refl (fun g=>bv.ownBlock=some g) W1).grown k.grown (fun g hg=>.inl hg)) (fun g hg=>.inl hg));have a:∀{g r:Nat},tag g=(i,r)→g<W.heap.size:=fun hg=>zaD hk hg hi
 refine⟨by rw[c];rfl,retag tag W W2 (i,91),bv,fv,l,?_,⟨fun g hg=>zy hg,fun g hg=>?_,fun g hg=>?_⟩,e.mono (fun g hg=>.inl ⟨91,by decide,h.tbv g hg⟩)⟩
 ·rw[c];show zah _ i db d bv fv l W2;exact⟨e.obj (fun x=>zg.apart h.tb (h.tbv _ x) (by decide) rfl) h.obj,by rw[zy (a h.tb),h.tb],k.old,fun g hg=>by rw[zy (a (h.tbv g hg)),h.tbv g hg],e.owns h.own (fun g hg x=>zg.apart (h.tfv g hg) (h.tbv g x) (by decide) rfl),h.lf,
   fun x j=>⟨(h.rr x j).1.mod e (zaY fun g hg y=>zg.apart ((h.rr x j).2 g hg) (h.tbv g y) (by decide) rfl),fun g hg=>by rw[zy (a ((h.rr x j).2 g hg)),(h.rr x j).2 g hg]⟩,fun g hg=>by rw[zy (a (h.tfv g hg)),h.tfv g hg]⟩
 ·by_cases q:g<W2.heap.size
  ·exact .inl ⟨91,by decide,zav hg q⟩
  ·exact .inr (by simp only[retag,show ¬g<W.heap.size by omega,q,if_neg,not_false_eq_true])
 ·have:=e.size;simp only[retag,show ¬g<W.heap.size by omega,show ¬g<W2.heap.size by omega,if_neg,not_false_eq_true]
variable{d':Drf}{rv:Value}
theorem zo7{l:List (Frm×Value)}{o k e:World}{p:Value}(h:zah tag i db d bv fv l W)(hk:zR tag W)(hi:0<i)(m1:Mod NoB W W1)(s:App W1 bv d.b (zC f) v' W2)(hd:d.add f=some d')
  (hr:RR W rv f.rngs) (t:∀g,Value.blk rv=some g→tag g=(i,5)) (D:Mod (fun g=>g=db) W2 o) (j:k.ownsRow 0 65 10 p (l.length+1) (za0 (l++[(f,rv)]))) (z:o.grownBy k fv.ownBlock) (u:zaH o fv p) (A:Mod (fun g=>g=db) k e)
  (ho:e.heap[db]?=some (.cells #[v',p,.int .i64 (d.room:Int),.bool d'.wants,.bool d.full] 180 (0,0))) (hs3:o.heap.size=W2.heap.size) (hs6:e.heap.size=k.heap.size) :
  zqh tag i db W d f (.returned (.bool true)) e:=by
 have a:∀{g r:Nat},tag g=(i,r)→g<W.heap.size:=fun hg=>zaD hk hg hi
 have E:Mod (fun g=>bv.ownBlock=some g) W1 W2:=(Mod.refl (fun g=>bv.ownBlock=some g) W1).grown s.grown (fun g hg=>.inl hg);have m2:Mod (fun g=>bv.ownBlock=some g) W W2:=(m1.mono (fun _ x=>x.elim)).then E (fun g hg=>.inl hg);have B:Mod (fun g=>fv.ownBlock=some g) o k:=(Mod.refl (fun g=>fv.ownBlock=some g) o).grown z (fun g hg=>.inl hg);have m:Mod (fun g=>g=db∨bv.ownBlock=some g∨fv.ownBlock=some g) W e:=(((m2.mono (fun g hg=>.inl (.inr (.inl hg)))).then D (fun g hg=>.inl (.inl hg))).then B (fun g hg=>.inl (.inr (.inr hg)))).then A (fun g hg=>.inl (.inl hg));have C:Mod (fun g=>g=db∨fv.ownBlock=some g) W2 e:=((D.mono (fun g hg=>.inl (.inl hg))).then B (fun g hg=>.inl (.inr hg))).then A (fun g hg=>.inl (.inl hg));have z1:=m1.size;have z2:=E.size;have z5:=B.size;have n:d'={ d with b:=d.b++zC f,fs:=d.fs++[f],wants:=d.wants||f.kind != 2 }:=by
  unfold Drf.add at hd;split at hd
  ·cases hd
  ·exact(Option.some.inj hd).symm
 have v:∀x∈l,RR e x.2 x.1.rngs:=fun x c=>(h.rr x c).1.mod m (zaY fun g hg y=>by
  rcases y with y|y|y
  ·exact zg.apart ((h.rr x c).2 g hg) (y ▸ h.tb) (by decide) rfl
  ·exact zg.apart ((h.rr x c).2 g hg) (h.tbv g y) (by decide) rfl
  ·exact zg.apart ((h.rr x c).2 g hg) (h.tfv g y) (by decide) rfl)
 have w:RR e rv f.rngs:=hr.mod m (zaY fun g hg y=>by
  rcases y with y|y|y
  ·exact zg.apart (t g hg) (y ▸ h.tb) (by decide) rfl
  ·exact zg.apart (t g hg) (h.tbv g y) (by decide) rfl
  ·exact zg.apart (t g hg) (h.tfv g y) (by decide) rfl)
 refine⟨by rw[hd];rfl,fun g=>if g<W.heap.size then tag g else if g<W2.heap.size then(i,91)else if g<k.heap.size then(i,92)else(0,0),v',p,l++[(f,rv)],?_,⟨fun g hg=>if_pos hg,fun g hg=>?_,fun g hg=>?_⟩,m.mono (fun g hg=>.inl ?_)⟩
 ·rw[hd];show zah _ i db d' v' p _ e;refine⟨by rw[ho,n],by rw[if_pos (a h.tb),h.tb],?_,fun g hg=>?_,?_,by rw[n,List.map_append,h.lf];rfl,fun x c=>?_,fun g hg=>?_⟩
  ·rw[n];refine C.owns s.own (fun g hg y=>?_);rcases s.at_ g hg with q|q
   ·rcases y with y|y
    ·exact zg.apart (h.tbv g q) (y ▸ h.tb) (by decide) rfl
    ·exact zg.apart (h.tbv g q) (h.tfv g y) (by decide) rfl
   ·rcases y with y|y
    ·have:=a h.tb;omega
    ·have:=a (h.tfv g y);omega
  ·rcases s.at_ g hg with q|q
   ·rw[if_pos (a (h.tbv g q)),h.tbv g q]
   ·have:=zE s.own g hg;simp only[show ¬g<W.heap.size by omega,if_neg,not_false_eq_true,if_pos this]
  ·rw[List.length_append];refine A.owns j (fun g hg y=>?_);have y:g=db:=y;rcases u g hg with q|q
   ·exact zg.apart (h.tfv g q) (y ▸ h.tb) (by decide) rfl
   ·have:=a h.tb;omega
  ·rw[List.mem_append]at c;rcases c with c|c
   ·exact⟨v x c,fun g hg=>by rw[if_pos (a ((h.rr x c).2 g hg)),(h.rr x c).2 g hg]⟩
   ·rw[List.mem_singleton]at c;subst c;exact⟨w,fun g hg=>by rw[if_pos (a (t g hg)),t g hg]⟩
  ·rcases u g hg with q|q
   ·rw[if_pos (a (h.tfv g q)),h.tfv g q]
   ·have:=zE j g hg;simp only[show ¬g<W.heap.size by omega,show ¬g<W2.heap.size by omega,if_neg,not_false_eq_true,if_pos this]
 ·simp only[show ¬g<W.heap.size by omega,if_neg,not_false_eq_true];split
  ·exact .inl ⟨91,by decide,rfl⟩
  ·split
   ·exact .inl ⟨92,by decide,rfl⟩
   ·exact .inr rfl
 ·simp only[show ¬g<W.heap.size by omega,show ¬g<W2.heap.size by omega,show ¬g<k.heap.size by omega,if_neg,not_false_eq_true]
 ·rcases hg with hg|hg|hg
  ·exact⟨90,by decide,by rw[hg,h.tb]⟩
  ·exact⟨91,by decide,h.tbv g hg⟩
  ·exact⟨92,by decide,h.tfv g hg⟩
theorem zeC{l:List (Frm×Value)}(h:zah tag i db d bv fv l W)(hk:zR tag W)(hi:0<i)(f:Frm)(ra:Option Addr)(rn rc:Nat)(hs:zS f=true)(hr:RR W (.slice ra rn rc) f.rngs)(ht:∀g,Value.blk (.slice ra rn rc)=some g→tag g=(i,5))
  (ax:f.rngs.length≤1099511627776) (ay:f.data.length≤35184372088832) (az:d.b.length≤35184372088832) (hbf:(zC f).length≤35184372088832) (aA:l.length≤1099511627776) :
  Calls prog 142 #[.pointer (some ⟨db,0,none⟩),.agg (zj f (.slice ra rn rc))] W (zqh tag i db W d f):=by
 obtain⟨s,O⟩:=nm (Value.slice ra rn rc);rw[O]at hr ht ⊢;obtain⟨Z,A⟩:=nm (W.alloc (.cells (zj f s) 65));have m0:Mod NoB W Z:=by rw[←A];exact(Mod.refl _ _).alloc _
 have o0:zh Z W.heap.size f s:=by rw[←A];exact heap_alloc_new W _
 have P:Mod NoB W Z.drew:=m0.drew;have oD:=m0.obj (fun x=>x) h.obj;have aL:db<W.heap.size:=zaD hk h.tb hi;have ka:=zd0 bv d.b f s Z.drew (P.owns h.ob (fun _ _ x=>x)) (fun _=>zaY fun g hg x=>zg.apart (ht g hg) (h.tbv g x) (by decide) rfl) (hr.mod P (za2.no _)) ax ay az;rw[hs]at ka;have I:¬bv.ownBlock=some db:=fun x=>zg.apart h.tb (h.tbv _ x) (by decide) rfl
 have J:¬bv.ownBlock=some W.heap.size:=fun x=>by have:=zaD hk (h.tbv _ x) hi;omega
 have aa:¬fv.ownBlock=some db:=fun x=>zg.apart h.tb (h.tfv _ x) (by decide) rfl
 have ab:¬fv.ownBlock=some W.heap.size:=fun x=>by have:=zaD hk (h.tfv _ x) hi;omega
 obtain⟨ba,bc,ac,hb1,hb2,_⟩:=zi h.ob;obtain⟨fa,fc,ad,hf1,hf2,_⟩:=zi h.own;have Q:=zb h;have HK:=zb hk;have HR:=zb hr;have HT:=zb ht;have KA:=zb ka;have M0:=zb m0;have R:=zb oD;have S:=zb o0;have aB:=zb A;have ae:¬W.heap.size=db:=by omega
 have aM:¬db=W.heap.size:=by omega
 clear h hk hr ht ka m0 oD o0 A P hs;obtain⟨dw,af⟩:=nm d.wants;have ah:=zb af;have aC:=zb ac;have HFV:=zb ad;have aD:=zb O;clear af ac ad O;go_enter func142,ntmps142;go_wp2_with fail;rw[aB.out];refine zm 7 (fun w'=>zh w' W.heap.size f s∧w'.heap[db]?=some (.cells #[bv,fv,.int .i64 (d.room:Int),.bool d.wants,.bool d.full] 180 (0,0))) (⟨S.out,R.out⟩) ?_;refine GI 0 ?_;iterate 5
  refine GS rfl ?_ ?_ ?_;rotate_left
  ·(intro wx k;obtain⟨hf,hd⟩:=k;obtain⟨y0,y1,y2,y3,y4,y5,y6,y7,y8,y9⟩:=hf.cells;have d0:=za (o:=0) hd rfl;have d1:=za (o:=1) hd rfl;go_simp;try with_reducible rfl)
  try simp only[PS]
 refine zz 5 rfl (fun K t=>?_);go_simp;refine KA.out.mono ?_;rintro e W2 (⟨_,v',rfl,hA⟩|⟨hx,_⟩);rotate_left
 ·cases hx
 have mA:Mod (fun g=>bv.ownBlock=some g) Z.drew W2:=(Mod.refl (fun g=>bv.ownBlock=some g) Z.drew).grown hA.grown (fun g hg=>.inl hg);have B:zh W2 W.heap.size f s∧W2.heap[db]?=some (.cells #[bv,fv,.int .i64 (d.room:Int),.bool d.wants,.bool d.full] 180 (0,0)):=⟨mA.obj J S.out,mA.obj I R.out⟩;refine t.out _ _ B ?_;clear t K;try simp only[PS]
 refine GI 6 ?_;refine GS rfl ?_ ?_ ?_;rotate_left
 ·(intro wx k;obtain⟨hf,hd⟩:=k;obtain⟨y0,y1,y2,y3,y4,y5,y6,y7,y8,y9⟩:=hf.cells;have d0:=za (o:=0) hd rfl;have d1:=za (o:=1) hd rfl;go_simp;try with_reducible rfl)
 try simp only[PS]
 refine zo ?_;obtain⟨va,vc,T,z1,z2,_⟩:=zi hA.own;have HA:=zb hA;have MA:=zb mA;have aE:=zb B;have x2:W2.cell? ⟨db,2,none⟩=some (.int .i64 (d.room:Int)):=za B.2 rfl;obtain⟨N,U⟩:=nm ((d.b++zC f).length);rw[U]at T z1;have hNl:N≤70368744177664:=by rw[←U,List.length_append];omega
 unfold maxLen at z2;have ai:=zb T;clear hA mA B aE;rw[ai.out];by_cases c:d.room<N+4
 ·have a:d.add f=none:=by unfold Drf.add;rw[U,if_pos c]
  have H:=zb (zq0 Q.out HK.out hi M0.out.drew HA.out a);have q1:(d.room:Int)<(N:Int)+4:=by omega
  clear U c a T;go_wp2_with fail;go_ret;exact H.out
 ·have q1:¬(d.room:Int)<(N:Int)+4:=by omega
  obtain⟨d',a⟩:∃d',d.add f=some d':=by unfold Drf.add;rw[U,if_neg c];exact⟨_,rfl⟩
  have aj:d'.wants=(d.wants||f.kind != 2):=by
   unfold Drf.add at a;rw[U,if_neg c]at a;rw[←Option.some.inj a]
  have HW:=zb aj;have ak:=zb a;have C:=MA.out.obj I R.out;have al:=MA.out.obj J S.out;have aF:W2.cell? ⟨db,0,none⟩=some bv:=za C rfl;have f2:∀j,W2.frozen? ⟨db,j,none⟩=false:=fun j=>zf C
  obtain⟨n,u⟩:=nm (W2.setCell ⟨db,0,none⟩ v');have m3:Mod (fun g=>g=db) W2 n:=by rw[←u];exact(Mod.refl (fun g=>g=db) _).setCell (p:=⟨db,0,none⟩) (.inl rfl) _
  have am:n.heap.size=W2.heap.size:=by rw[←u];simp
  have D:n.heap[db]?=some (.cells #[v',fv,.int .i64 (d.room:Int),.bool d.wants,.bool d.full] 180 (0,0)):=by rw[←u];exact zc C
  have E:zh n W.heap.size f s:=m3.obj ae al;have an:Mod (fun g=>bv.ownBlock=some g) W W2:=(M0.out.drew.mono (fun _ x=>x.elim)).then MA.out (fun g hg=>.inl hg);have ao:n.ownsRow 0 65 10 fv l.length (za0 l):=m3.owns (an.owns Q.out.own (fun g hg x=>zg.apart (Q.out.tfv g hg) (Q.out.tbv g x) (by decide) rfl)) (fun g hg x=>zg.apart (Q.out.tfv g hg) (x ▸ Q.out.tb) (by decide) rfl);obtain⟨v5,L,V,q,r,ap⟩:=zjX n.drew fv l f ra rn rc ao aA;rw[aD.out]at V q;obtain⟨fa5,fc5,aq,_⟩:=zi q;have v:n.grownBy L fv.ownBlock:=⟨r.os,r.tape,r.output,r.size,r.block⟩;have M:zaH n fv v5:=ap;have m5:Mod (fun g=>fv.ownBlock=some g) n L:=(Mod.refl (fun g=>fv.ownBlock=some g) n).grown v (fun g hg=>.inl hg);have w:=m5.obj aa D;have Y:=m5.obj ab E;have f5:∀j,L.frozen? ⟨db,j,none⟩=false:=fun j=>zf w
  have c51:L.cell? ⟨db,1,none⟩=some fv:=za w rfl;obtain⟨F,y⟩:=nm (L.setCell ⟨db,1,none⟩ v5);have m6:Mod (fun g=>g=db) L F:=by rw[←y];exact(Mod.refl (fun g=>g=db) _).setCell (p:=⟨db,1,none⟩) (.inl rfl) _
  have G:F.heap[db]?=some (.cells #[v',v5,.int .i64 (d.room:Int),.bool d.wants,.bool d.full] 180 (0,0)):=by rw[←y];exact zc w
  have ar:zh F W.heap.size f s:=m6.obj ae Y;have c63:F.cell? ⟨db,3,none⟩=some (.bool dw):=by rw[←ah.out];exact za G rfl
  have k60:F.cell? ⟨W.heap.size,0,none⟩=some (.int .i64 f.kind):=ar.cells.1;have f6:∀j,F.frozen? ⟨db,j,none⟩=false:=fun j=>zf G
  have H:∀x,F.setCell ⟨db,3,none⟩ (.bool x)=F.setCell ⟨db,3,none⟩ (.bool x)→x=(dw||f.kind != 2)→zqh tag i db W d f (.returned (.bool true)) (F.setCell ⟨db,3,none⟩ (.bool x)):=fun x _ hx=>by
   refine zo7 Q.out HK.out hi M0.out.drew HA.out ak.out HR.out HT.out m3 q v M (m6.setCell (p:=⟨db,3,none⟩) (.inl rfl) _) ?_ am (by rw[←y];simp);rw[zc G,HW.out,ah.out,←hx];rfl
  have HH:=zb H;have aG:Hid (zh n.drew W.heap.size f s∧n.drew.heap[db]?=some (.cells #[v',fv,.int .i64 (d.room:Int),.bool d.wants,.bool d.full] 180 (0,0))):=⟨E,D⟩;have aH:Hid (∀X,Mod NoB n X→zh X W.heap.size f s∧X.heap[db]?=some (.cells #[v',fv,.int .i64 (d.room:Int),.bool d.wants,.bool d.full] 180 (0,0))):=fun X m=>⟨m.obj (fun x=>x) E,m.obj (fun x=>x) D⟩
  have aI:Hid (zh L W.heap.size f s∧L.heap[db]?=some (.cells #[v',fv,.int .i64 (d.room:Int),.bool d.wants,.bool d.full] 180 (0,0))):=⟨Y,w⟩;have aJ:=zb u;have aK:=zb y;have au:=zb aq;have av:=zb V;clear H U c a aj C al u m3 am D E an ao V q r v ap M m5 w Y y m6 G ar aq;have aw:=aC.out;rw[aw]at aF;go_wp2_with fail;rw[←ai.out,aJ.out];refine zm 10 (fun w'=>zh w' W.heap.size f s∧w'.heap[db]?=some (.cells #[v',fv,.int .i64 (d.room:Int),.bool d.wants,.bool d.full] 180 (0,0))) (aG.out) ?_;refine GI 0 ?_;iterate 6
   refine GS rfl ?_ ?_ ?_;rotate_left
   ·(intro wx k;obtain⟨hf,hd⟩:=k;obtain⟨y0,y1,y2,y3,y4,y5,y6,y7,y8,y9⟩:=hf.cells;have d0:=za (o:=0) hd rfl;have d1:=za (o:=1) hd rfl;go_simp;try with_reducible rfl)
   try simp only[PS]
  refine zz 6 rfl (fun K t=>?_);go_simp;refine t.out _ _ (aH.out _ ((Mod.refl NoB n).drew.alloc _)) ?_;clear t K;try simp only[PS]
  refine zz 7 rfl (fun K t=>?_);refine zO rfl _ _ _ _ rfl _ _ _ rfl rfl av.out ?_;refine t.out _ _ aI.out ?_;clear t K;try simp only[PS]
  refine GI 8 ?_;iterate 2
   refine GS rfl ?_ ?_ ?_;rotate_left
   ·(intro wx k;obtain⟨hf,hd⟩:=k;obtain⟨y0,y1,y2,y3,y4,y5,y6,y7,y8,y9⟩:=hf.cells;have d0:=za (o:=0) hd rfl;have d1:=za (o:=1) hd rfl;go_simp;try with_reducible rfl)
   try simp only[PS]
  rw[au.out];refine zW rfl (fun K t=>?_);go_simp;refine t.out _ _ ?_;clear t K;try simp only[PS]
  refine zo ?_;rw[←au.out,aK.out];clear av;cases dw
  ·have z:=zb (HH.out (f.kind != 2) trivial (by simp));go_wp2_with fail;go_ret;exact z.out
  ·have z:=zb (HH.out true trivial (by simp));go_wp2_with fail;go_ret;exact z.out
def zai(i:Nat)(tag:Nat→Nat×Nat)(g:Nat):Prop:=(tag g).1=i∧(tag g).2≠5
theorem zbk(h:tag g=(i,r))(hr:r≠5):zai i tag g:=⟨by rw[h],by rw[h];exact hr⟩
theorem Mod.ofC(m:Mod (zai i tag) W W'):Mod (fun g=>(tag g).1=i) W W':=m.mono (fun _ h=>.inl h.1)
def za9(tag:Nat→Nat×Nat)(i b db:Nat)(W:World)(c':CS)(d':Drf)(r:Bool)(e:Ending)(W':World):Prop :=
 e = .returned (.bool r)∧∃tag' V' bv' fv' l',zg tag' i b c' V' W'∧zah tag' i db d' bv' fv' l' W'∧Ext i tag tag' W W'∧Mod (zai i tag) W W'
theorem DExt.ext(h:DExt i tag tag' W W'):Ext i tag tag' W W' :=
 ⟨h.old,fun g hg=>by
  rcases h.new g hg with⟨r,_,e⟩|e
  ·exact .inl (by rw[e])
  ·exact .inr e,h.out⟩
theorem zcc(m:Mod (zhp i tag) W W'):Mod (zai i tag) W W':=m.mono (fun g ⟨r,hr,e⟩=>.inl (zbk e (by omega)))
theorem zah.modC{l:List (Frm×Value)}(h:zah tag i db d bv fv l W)(m:Mod S W W')(hS:∀g,S g→∃r,r<90∧r≠5∧tag g=(i,r))(e:∀g,(tag g).1=i→tag' g=tag g):zah tag' i db d bv fv l W':=by
 have q:∀{g r:Nat},tag g=(i,r)→(90≤r∨r=5)→¬S g:=fun hg hr x=>by
  obtain⟨r',h1,h2,h3⟩:=hS _ x;rw[hg]at h3;simp at h3;omega
 have t:∀{g r:Nat},tag g=(i,r)→tag' g=(i,r):=fun hg=>(e _ (by rw[hg])).trans hg
 exact⟨m.obj (q h.tb (.inl (by decide))) h.obj,t h.tb,m.owns h.ob (fun g hg=>q (h.tbv g hg) (.inl (by decide))),fun g hg=>t (h.tbv g hg),m.owns h.own (fun g hg=>q (h.tfv g hg) (.inl (by decide))),h.lf,
  fun x a=>⟨(h.rr x a).1.mod m (zaY fun g hg=>q ((h.rr x a).2 g hg) (.inr rfl)),fun g hg=>t ((h.rr x a).2 g hg)⟩,fun g hg=>t (h.tfv g hg)⟩
theorem zmx{e:Ending}(h:zg tag i b c V W)(hk:zR tag W)(hi:0<i)(hd:zqh tag i db W d f e W')(a:d.add f=none):za9 tag i b db W c d false e W':=by
 obtain⟨rfl,tag',g,j,l',h1,h2,h3⟩:=hd;rw[a]at h1 ⊢;exact⟨rfl,tag',V,g,j,l',h.modR hk hi h3 h2.old,h1,h2.ext,zcc h3⟩
def CS.datagrams(c:CS)(d:Drf):Option (CS×Drf) :=
 match c.waits with
 | []=>none
 | f::l=>(d.add f).map fun d'=>({ c with waits:=l },d')
structure Frm.Fits(f:Frm):Prop where
 sound:zS f=true
 rn:f.rngs=[]
 data:f.data.length≤1048576
 len:(zC f).length≤1073741824
theorem ziQ{l:List Frm}(h:zez W 65 10 v (f::l).length (zp (f::l))):∃g o cap,v = .slice (some ⟨g,o*10,none⟩) (l.length+1) cap∧l.length+1≤cap∧cap≤maxLen∧(∀j x,(zj f (.slice none 0 0))[j]?=some x→W.cell? ⟨g,o*10+j,none⟩=some x)∧zez W 65 10 (.slice (some ⟨g,(o+1)*10,none⟩) l.length (cap-1)) l.length (zp l)∧(cap-1=0→zez W 65 10 (.slice (some ⟨g,o*10,none⟩) l.length 0) l.length (zp l)):=by
 rcases h.2 with⟨_,hn⟩|⟨g,o,cap,a,rfl,hg,h1,h2,h3,h4⟩
 ·simp at hn
 ·have b:(zp l).length=l.length*10:=by
   have:=h.1;simp only[zp,List.flatMap_cons,List.length_append,List.length_cons]at this ⊢;have e:(zj f (.slice none 0 0)).toList.length=10:=rfl;omega
  have e0:zp (f::l)=(zj f (.slice none 0 0)).toList++zp l:=rfl;have h1':l.length+1≤cap:=by simpa using h1
  refine⟨g,o,cap,rfl,h1,h2,fun j x i=>?_,⟨b,.inr ⟨g,o+1,cap-1,a,rfl,hg,by omega,by omega,?_,?_⟩⟩,fun hc=>?_⟩
  ·have hj:j<10:=(Array.getElem?_eq_some_iff.1 i).1;refine za hg ?_;have:((a.toList.drop (o*10)).take ((f::l).length*10))[j]?=some x:=by
    rw[h4,e0,List.getElem?_append_left (by exact hj),Array.getElem?_toList];exact i
   rw[List.getElem?_take]at this;split at this
   ·rw[List.getElem?_drop]at this;simpa using this
   ·cases this
  ·rw[show o+1+(cap-1)=o+cap by omega];exact h3
  ·have c:(a.toList.drop (o*10)).take ((l.length+1)*10)=(zj f (.slice none 0 0)).toList++zp l:=h4;have:((a.toList.drop (o*10)).take ((l.length+1)*10)).drop 10=zp l:=by
    rw[c];exact List.drop_left' rfl
   rw[←this,List.drop_take,List.drop_drop]
   congr 1
   ·omega
   ·congr 1
    omega
  ·have d:l=[]:=List.eq_nil_of_length_eq_zero (by omega);subst d;exact⟨rfl,.inr ⟨g,o,0,a,rfl,hg,Nat.le_refl _,Nat.zero_le _,Nat.le_trans (Nat.mul_le_mul_right 10 (by omega)) h3,by simp[zp]⟩⟩
theorem zfD{l:List (Frm×Value)}(h:zg tag i b c V W)(K:zah tag i db d bv fv l W)(E:Env i tag W)(O:∀f∈c.waits,f.Fits)(hbl:d.b.length≤1073741824)(hll:l.length≤1073741824):Calls prog 146 #[.pointer (some ⟨b,0,none⟩),.pointer (some ⟨db,0,none⟩)] W (za9 tag i b db W ((c.datagrams d).getD (c,d)).1 ((c.datagrams d).getD (c,d)).2 (c.datagrams d).isSome):=by
 have Z:W.cell? ⟨b,238,none⟩=some V.wt:=h.tl (j:=5) rfl;cases hwt:c.waits with
 | nil =>
  have z:c.datagrams d=none:=by unfold CS.datagrams;rw[hwt]
  rw[z];have G:V.wt = .slice none 0 0∨∃a cap,V.wt = .slice (some a) 0 cap:=by
   have:=h.wt;rw[hwt]at this;rcases this.2 with⟨e,_⟩|⟨g,o,cap,cur,e,_⟩
   ·exact .inl e
   ·exact .inr ⟨_,cap,e⟩
  have H:Hid (za9 tag i b db W c d false (.returned (.bool false)) W):=⟨rfl,tag,V,bv,fv,l,h,K,Ext.same E.ok (Mod.refl NoB _),Mod.refl _ _⟩;clear h K E O hwt z;rcases G with e|⟨a,cap,e⟩;all_goals
   rw[e]at Z;clear e;go_enter func146,ntmps146;go_wp2_with fail;go_ret;exact H.out
 | cons f ws =>
  have I:=O f (by rw[hwt];exact List.mem_cons_self);have B:=h.wt;rw[hwt]at B;obtain⟨g,o,cap,G,n1,n2,m,w,t⟩:=ziQ B;have L:tag g=(i,6):=h.twt g (by rw[G];rfl);have P:=zeC K E.ok E.pos f none 0 0 I.sound (by rw[I.rn];exact⟨none,0,rfl,Nat.le_refl _,Nat.zero_le _,fun i hi=>absurd hi (Nat.not_lt_zero i)⟩) (fun g hg=>by simp[Value.blk]at hg) (by rw[I.rn];simp) (by have:=I.data;omega) (by omega) (by have:=I.len;omega) (by omega);have y0:W.cell? ⟨g,o*10,none⟩=some (.int .i64 f.kind):=m 0 _ rfl;have y1:=m 1 _ rfl;have y2:=m 2 _ rfl;have y3:=m 3 _ rfl;have y4:=m 4 _ rfl;have y5:=m 5 _ rfl;have y6:=m 6 _ rfl;have y7:=m 7 _ rfl;have y8:=m 8 _ rfl;have y9:=m 9 _ rfl;rw[G]at Z;unfold maxLen at n2;have Q:=zb h;have HD:=zb K;have J:=zb E;have M:=zb hwt;have HV:=zb G;have C:=zb L;have HR:=zb w;have S:=zb t;clear h K E O hwt G m I B L w t;unfold zj at P;have KA:=zb P;clear P;cases hadd:d.add f with
  | none =>
   have z:c.datagrams d=none:=by unfold CS.datagrams;rw[M.out];simp[hadd]
   rw[z];have u:=zb hadd;clear z hadd;go_enter func146,ntmps146;go_wp2_with (go_at_call 142;refine KA.out.mono ?_;intro e W1 hd;have H:=zb (zmx Q.out J.out.ok J.out.pos hd u.out);obtain⟨rfl,_⟩:=hd;simp only[u.out,Option.isSome_none]at H ⊢);go_ret;exact H.out
  | some d' =>
   have z:c.datagrams d=some ({ c with waits:=ws },d'):=by unfold CS.datagrams;rw[M.out];simp[hadd]
   rw[z];have u:=zb hadd;clear z hadd;go_enter func146,ntmps146;go_wp2_with fail;refine KA.out.mono ?_;rintro e W1 ⟨rfl,tag',T,U,l',D,v,A⟩;rw[u.out]at D ⊢;have n:=Q.out.modR J.out.ok J.out.pos A v.old;have X:W1.cell? ⟨b,238,none⟩=some V.wt:=n.tl (j:=5) rfl;have f51:W1.frozen? ⟨b,238,none⟩=false:=n.fz 238;have y:tag' g=(i,6):=by rw[v.old g (zaD J.out.ok C.out J.out.pos),C.out]
   rw[HV.out]at X;have HN:Hid (∀v2,zez W 65 10 v2 ws.length (zp ws)→(∀q,Value.blk v2=some q→q=g)→za9 tag i b db W { c with waits:=ws } d' true (.returned (.bool true)) (W1.setCell ⟨b,238,none⟩ v2)):=by
    intro v2 Y F;have N:Mod (fun q=>q=b) W1 (W1.setCell ⟨b,238,none⟩ v2):=(Mod.refl (fun q=>q=b) _).setCell (p:=⟨b,238,none⟩) (.inl rfl) _;refine⟨rfl,tag',{ V with wt:=v2 },T,U,l',?_,?_,⟨v.ext.old,v.ext.new,v.out.mod N⟩,?_⟩
    ·refine n.build (R:=fun r=>r=1∨r=6) N (fun q s=>⟨1,.inl rfl,by rw[s,n.tb]⟩) (fun _ _=>rfl) ?_ (.inl ⟨rfl,rfl,rfl,by omega,by omega⟩) (fun k hk=>.inl ⟨rfl,rfl,by omega⟩) (fun k hk=>.inl ⟨rfl,rfl,by omega⟩) (fun k hk=>.inl ⟨rfl,rfl,by omega⟩) (fun k hk=>.inl ⟨rfl,rfl,by omega⟩) (fun k hk=>.inl ⟨rfl,rfl,by omega⟩) (.inl ⟨rfl,rfl,rfl,by omega,by omega⟩) (.inr ⟨?_,fun q s=>?_⟩) (.inl ⟨rfl,rfl,by omega⟩) (.inl ⟨rfl,rfl,by omega⟩)
     ·rw[zc n.obj,List.setIfInBounds_toArray];rw[show(238:Nat)=233+5 from rfl,zaj c { c with waits:=ws } V { V with wt:=v2 } _ rfl rfl rfl rfl]
     ·refine(Y.mod A (fun q s ⟨r,z,hx⟩=>?_)).mod N (fun q s x=>?_)
      ·rw[F q s,C.out]at hx;simp at hx;omega
      ·have x:q=b:=x;rw[F q s]at x;exact zg.apart y (x ▸ n.tb) (by decide) rfl
     ·rw[F q s,y]
    ·exact D.modC N (fun q s=>⟨1,by decide,by decide,by rw[s,n.tb]⟩) (fun _ _=>rfl)
    ·exact(zcc A).then N (fun q s=>.inl (by
      have s:q=b:=s;exact zbk (by rw[s,Q.out.tb]) (by decide)))
   clear D v A n y y0 y1 y2 y3 y4 y5 y6 y7 y8 y9;go_wp2_with fail;all_goals go_ret
   ·exact HN.out _ (S.out (by omega)) (fun q s=>by simpa [Value.blk]using s.symm)
   ·have:=HR.out;rw[show(o+1)*10=o*10+10 by omega]at this;exact HN.out _ this (fun q s=>by simpa [Value.blk]using s.symm)
def zD:Nat:=4611686018427387903
def zmy(k n:Nat):Frm:=⟨6,(k:Int),0,0,n,false,0,0,[],[]⟩
def zlP(n:Nat):Frm:=⟨5,0,0,0,n,false,0,0,[],[]⟩
def zod(k final keep:Nat):Frm:=⟨3,(k:Int),final,keep,0,false,0,0,[],[]⟩
def zgY(c:CS)(d:Drf):Nat→Nat→Nat→Option (CS×Drf)×Nat
 | 0,_,t=>(none,t)
 | n+1,k,t =>
  if (decide ((c.rs k).grant<max (c.rs k).grant ((c.rs k).used+c.window))||(c.rs k).anew)&&(c.rs k).hopes then
   match d.add (zmy k (max (c.rs k).grant ((c.rs k).used+c.window)))with
   | some d'=>(some ({ c with rs:=upd c.rs k { c.rs k with grant:=max (c.rs k).grant ((c.rs k).used+c.window),anew:=false } },d'),min (t+(c.rs k).used) zD)
   | none=>zgY c d n (k+1) (min (t+(c.rs k).used) zD)
  else zgY c d n (k+1) (min (t+(c.rs k).used) zD)
def zfw(c:CS)(d:Drf):Nat→Nat→Option (CS×Drf)
 | 0,_=>none
 | n+1,k =>
  if (c.ws k).cut && !(c.ws k).telling then
   match d.add (zod k (c.ws k).final (c.ws k).keep)with
   | some d'=>some ({ c with ws:=upd c.ws k { c.ws k with telling:=true } },d')
   | none=>zfw c d n (k+1)
  else zfw c d n (k+1)
def zrJ(c:CS)(d:Drf)(t:Nat):Option (CS×Drf) :=
 if decide (c.grant<max t c.grant)||c.anew then
  match d.add (zlP (max t c.grant))with
  | some d'=>some ({ c with grant:=max t c.grant,anew:=false },d')
  | none=>zfw c d 8 0
 else zfw c d 8 0
def CS.control(c:CS)(d:Drf):Option (CS×Drf) :=
 match (zgY c d 8 0 c.total).1 with
 | some x=>some x
 | none=>zrJ c d (zgY c d 8 0 c.total).2
theorem zcd(f:Frm)(hr:f.rngs=[]):(zC f).length≤64+f.data.length:=by
 have v1:=zu f.stream.toNat;have v2:=zu f.off;have v3:=zu f.rel;have v4:=zu f.lim;have v5:=zu f.id;have v6:=zu f.dl;have v7:=zu f.data.length;unfold zC zcH zcI zcK zbW zcJ zlN;split
 ·simp;omega
 ·split
  ·unfold za6;rw[hr];have w1:=zu (hiAt [] 0);have w2:=zu (([]:zA).length-1);have w3:=zu (hiAt [] 0-loAt [] 0);simp only[List.length_append,List.length_cons,List.length_nil];have:(zc5 [] (0-1)).length=0:=rfl;simp only[List.length_nil]at w2;omega
  ·split
   ·simp only[List.length_append,List.length_cons,List.length_nil];omega
   ·split
    ·split
     ·simp only[List.length_append,List.length_cons,List.length_nil];omega
     ·simp only[List.length_append,List.length_cons,List.length_nil];omega
    ·split
     ·simp only[List.length_append,List.length_cons,List.length_nil];omega
     ·split
      ·simp only[List.length_append,List.length_cons,List.length_nil];omega
      ·split
       ·simp only[List.length_append,List.length_cons,List.length_nil];omega
       ·simp only[List.length_append,List.length_cons,List.length_nil];omega
theorem ziR(hk:k<8)(hn:n≤zD):(zmy k n).Fits:=by
 refine⟨?_,rfl,by simp[zmy],Nat.le_trans (zcd _ rfl) (by simp[zmy])⟩;unfold zD at hn;simp[zS,zaC,zir,zbB,zK,zmy]
 and_intros<;>first|omega|exact decide_eq_true (by omega)
theorem zmz(hn:n≤zD):(zlP n).Fits:=by
 refine⟨?_,rfl,by simp[zlP],Nat.le_trans (zcd _ rfl) (by simp[zlP])⟩;simp[zS,zaC,zir,zbB,zK,zlP];unfold zD at hn;omega
theorem zmA{final keep:Nat}(hk:k<8)(hn:final≤zD)(hle:keep≤final):(zod k final keep).Fits:=by
 refine⟨?_,rfl,by simp[zod],Nat.le_trans (zcd _ rfl) (by simp[zod])⟩;unfold zD at hn;simp[zS,zaC,zir,zbB,zK,zod]
 and_intros<;>first|omega|exact decide_eq_true (by omega)
theorem zcO{l:List (Frm×Value)}(h:zah tag i db d bv fv l W)(hk:zR tag W)(hi:0<i)(f:Frm)(hf:f.Fits)(hbl:d.b.length≤1073741824)(hll:d.fs.length≤1073741824):Calls prog 142 #[.pointer (some ⟨db,0,none⟩),.agg (zj f (.slice none 0 0))] W (zqh tag i db W d f):=by
 have hl:l.length=d.fs.length:=by rw[←h.lf,List.length_map]
 exact zeC h hk hi f none 0 0 hf.sound (by rw[hf.rn];exact⟨none,0,rfl,Nat.le_refl _,Nat.zero_le _,fun i hi=>absurd hi (Nat.not_lt_zero i)⟩) (fun g hg=>by simp[Value.blk]at hg) (by rw[hf.rn];simp) (by have:=hf.data;omega) (by omega) (by have:=hf.len;omega) (by omega)
structure zJ(tag:Nat→Nat×Nat)(i b db:Nat)(W:World)(c:CS)(d:Drf)(tag':Nat→Nat×Nat)(V':CV)(bv' fv':Value)(l':List (Frm×Value))(W':World):Prop where
 c:zg tag' i b c V' W'
 d:zah tag' i db d bv' fv' l' W'
 e:Ext i tag tag' W W'
 m:Mod (zai i tag) W W'
 p:0<i
variable{bv' fv':Value}{l':List (Frm×Value)}
theorem zJ.ok(h:zJ tag i b db W c d tag' V' bv' fv' l' W'):zR tag' W':=h.e.out
theorem zJ.post(h:zJ tag i b db W c d tag' V' bv' fv' l' W')(r:Bool):za9 tag i b db W c d r (.returned (.bool r)) W':=⟨rfl,tag',V',bv',fv',l',h.c,h.d,h.e,h.m⟩
variable{W'':World}
theorem zap(e:Ext i tag tag' W W')(m:Mod (zai i tag) W W')(m':Mod (zai i tag') W' W''):Mod (zai i tag) W W'':=by
 refine m.then m' (fun g hg=>?_);by_cases q:g<W.heap.size
 ·exact .inl (by unfold zai at hg ⊢;rw[e.old g q]at hg;exact hg)
 ·exact .inr (by omega)
theorem zJ.add{e:Ending}(h:zJ tag i b db W c d tag' V' bv' fv' l' W')(hd:zqh tag' i db W' d f e W''):e = .returned (.bool (d.add f).isSome)∧∃tag2 bv2 fv2 l2,zJ tag i b db W c ((d.add f).getD d) tag2 V' bv2 fv2 l2 W'':=by
 obtain⟨rfl,tag2,bv2,fv2,l2,h1,h2,h3⟩:=hd;exact⟨rfl,tag2,bv2,fv2,l2,h.c.modR h.e.out h.p h3 h2.old,h1,h.e.trans h2.ext h.m.size,zap h.e h.m (zcc h3),h.p⟩
theorem zJ.store(h:zJ tag i b db W c d tag' V' bv' fv' l' W')(j:Nat)(v:Value)(hc:(zr c V').set j v=zr c' V')(s:zbH c c'):zJ tag i b db W c' d tag' V' bv' fv' l' (W'.setCell ⟨b,j,none⟩ v):=by
 have a:Mod (fun q=>q=b) W' (W'.setCell ⟨b,j,none⟩ v):=(Mod.refl (fun q=>q=b) _).setCell (p:=⟨b,j,none⟩) (.inl rfl) _;exact⟨h.c.store j v hc s,h.d.modC a (fun q f=>⟨1,by decide,by decide,by rw[f,h.c.tb]⟩) (fun _ _=>rfl),⟨h.e.old,h.e.new,h.e.out.mod a⟩,zap h.e h.m (a.mono (fun q f=>.inl (zbk (r:=1) (by rw[show q=b from f];exact h.c.tb) (by decide)))),h.p⟩
theorem zJ.mod0(h:zJ tag i b db W c d tag' V' bv' fv' l' W')(m:Mod NoB W' W''):zJ tag i b db W c d tag' V' bv' fv' l' W'' :=
 ⟨h.c.mod0 m,h.d.modC m (fun _ x=>x.elim) (fun _ _=>rfl),⟨h.e.old,h.e.new,h.e.out.mod m⟩,h.m.trans (m.mono (fun _ x=>x.elim)),h.p⟩
theorem zdj{α : Type}(f:Nat → α)(k:Nat)(x y : α):upd (upd f k x) k y=upd f k y:=by
 funext j;by_cases h:j=k
 ·rw[h,ze,ze]
 ·rw[zd _ _ h,zd _ _ h,zd _ _ h]
theorem same_r(c:CS)(k:Nat)(x:RS)(h1:x.b=(c.rs k).b)(h3:x.came.rs=(c.rs k).came.rs):zbH c { c with rs:=upd c.rs k x } :=
 ⟨rfl,fun _ _=>⟨rfl,rfl,rfl⟩,fun q _=>by
  by_cases a:q=k
  ·subst a;simp only[ze];exact⟨h1,h3⟩
  ·simp[zd _ _ a],rfl,rfl,rfl,rfl⟩
theorem zJ.storeR(h:zJ tag i b db W c d tag' V' bv' fv' l' W')(hk:k<8)(j:Nat)(hj:j<13)(v:Value)(x:RS)(hx:zbO x (V'.rb k) (V'.rc k)=(zbO (c.rs k) (V'.rb k) (V'.rc k)).set j v)(h1:x.b=(c.rs k).b)(h3:x.came.rs=(c.rs k).came.rs):zJ tag i b db W { c with rs:=upd c.rs k x } d tag' V' bv' fv' l' (W'.setCell ⟨b,129+13*k+j,none⟩ v):=by
 refine h.store _ _ (zbr _ _ _ _ _ hk hj (fun q _=>?_) rfl rfl rfl) (same_r c k x h1 h3);by_cases a:q=k
 ·subst a;simp only[ze,if_true];exact hx
 ·simp only[zd _ _ a,if_neg a]
theorem zJ.granted(h:zJ tag i b db W c d tag' V' bv' fv' l' W')(hk:k<8)(m:Nat):zJ tag i b db W { c with rs:=upd c.rs k { c.rs k with grant:=m,anew:=false } } d tag' V' bv' fv' l' ((W'.setCell ⟨b,129+13*k+11,none⟩ (.int .u64 (m:Int))).setCell ⟨b,129+13*k+12,none⟩ (.bool false)):=by
 have h1:=h.storeR hk 11 (by decide) (.int .u64 (m:Int)) { c.rs k with grant:=m } rfl rfl rfl;have h2:=h1.storeR hk 12 (by decide) (.bool false) { c.rs k with grant:=m,anew:=false } (by simp only[ze];rfl) (by simp only[ze]) (by simp only[ze]);simp only[zdj]at h2;exact h2
theorem zJ.grantedAll(h:zJ tag i b db W c d tag' V' bv' fv' l' W')(m:Nat):zJ tag i b db W { c with grant:=m,anew:=false } d tag' V' bv' fv' l' ((W'.setCell ⟨b,234,none⟩ (.int .u64 (m:Int))).setCell ⟨b,235,none⟩ (.bool false)):=by
 have h1:zJ tag i b db W { c with grant:=m } d tag' V' bv' fv' l' (W'.setCell ⟨b,234,none⟩ (.int .u64 (m:Int))):=h.store (233+1) _ (zaj c { c with grant:=m } V' V' _ rfl rfl rfl rfl) ⟨rfl,fun _ _=>⟨rfl,rfl,rfl⟩,fun _ _=>⟨rfl,rfl⟩,rfl,rfl,rfl,rfl⟩;exact h1.store (233+2) _ (zaj { c with grant:=m } { c with grant:=m,anew:=false } V' V' _ rfl rfl rfl rfl) ⟨rfl,fun _ _=>⟨rfl,rfl,rfl⟩,fun _ _=>⟨rfl,rfl⟩,rfl,rfl,rfl,rfl⟩
structure CtlOk(c:CS):Prop where
 win:c.window≤4096
 tot:c.total≤4096
 grant:c.grant≤zD
 used:∀k,k<8→(c.rs k).used≤zD∧(c.rs k).grant≤zD
 hopes:∀k,k<8→(c.rs k).hopes=true→(c.rs k).used+c.window≤zD
 cut:∀k,k<8→(c.ws k).keep≤(c.ws k).final∧(c.ws k).final≤zD
theorem zJ.telling(h:zJ tag i b db W c d tag' V' bv' fv' l' W')(hk:k<8):zJ tag i b db W { c with ws:=upd c.ws k { c.ws k with telling:=true } } d tag' V' bv' fv' l' (W'.setCell ⟨b,9+15*k+13,none⟩ (.bool true)):=by
 refine h.store _ _ (zat _ _ _ _ _ hk (by decide) (fun q _=>?_) rfl rfl rfl) ⟨rfl,fun q _=>?_,fun _ _=>⟨rfl,rfl⟩,rfl,rfl,rfl,rfl⟩
 ·by_cases a:q=k
  ·subst a;simp only[ze,if_true];rfl
  ·simp only[zd _ _ a,if_neg a]
 ·by_cases a:q=k
  ·subst a;simp[ze]
  ·simp[zd _ _ a]
def zq1(c:CS)(d:Drf)(k n:Nat)(x:WS):Option Drf→Option (CS×Drf)
 | some d'=>some ({ c with ws:=upd c.ws k { x with telling:=true } },d')
 | none=>zfw c d n (k+1)
def zqi(c:CS)(d:Drf)(m:Nat):Option Drf→Option (CS×Drf)
 | some d'=>some ({ c with grant:=m,anew:=false },d')
 | none=>zfw c d 8 0
theorem ziS{l:List (Frm×Value)}(h:zg tag i b c V W)(hD:zah tag i db d bv fv l W)(E:Env i tag W)(ok:CtlOk c)(ad:d.b.length≤1073741824)(ae:d.fs.length≤1073741824):Calls prog 145 #[.pointer (some ⟨b,0,none⟩),.pointer (some ⟨db,0,none⟩)] W (za9 tag i b db W ((c.control d).getD (c,d)).1 ((c.control d).getD (c,d)).2 (c.control d).isSome):=by
 have S0:Hid (zJ tag i b db W c d tag V bv fv l W):=zb ⟨h,hD,Ext.same E.ok (Mod.refl NoB _),Mod.refl _ _,E.pos⟩;have c2:W.cell? ⟨b,2,none⟩=some (.int .i64 (c.total:Int)):=h.hd (j:=2) rfl;obtain⟨R,hR⟩:=nm (c.control d);rw[hR];have HR:=zb hR;have OK:=zb ok;have aJ:=ok.tot;have aK:IntKind.u64.wrap (c.total:Int)=(c.total:Int):=by rw[IntKind.wrap_u64];omega
 obtain⟨T,hT⟩:=nm c.total;rw[hT]at c2 aK;have HT:=zb hT;obtain⟨RR,aL⟩:=nm (zgY c d 8 0 c.total);have ap:=zb aL;clear h hD E ok hR aJ hT aL;go_enter func145,ntmps145;go_wp2_with fail;clear c2 aK
 go_loopw [5,17] (fun tv kv wr=>∃k t tag' V' bv' fv' l',k≤8∧tv = .int .u64 ((t:Nat):Int)∧kv = .int .i64 ((k:Nat):Int)∧t≤zD∧Hid (zJ tag i b db W c d tag' V' bv' fv' l' wr)∧Hid (zgY c d (8-k) k t=RR)) (fun _ kv _=>8-(intOf kv).toNat)
 case atStart=>exact⟨0,T,tag,V,bv,fv,l,by omega,rfl,rfl,by have:=OK.out.tot;have:=HT.out;unfold zD;omega,S0,zb (by rw[←ap.out,HT.out])⟩
 case round =>
  obtain⟨k,t,tag',V',bv',fv',l',hk,rfl,rfl,ht,L,HC⟩:=hrel;by_cases a:k<8
  ·obtain⟨n,hn⟩:∃n,8-k=n+1:=⟨7-k,by omega⟩;have U:8-(k+1)=n:=by omega
   have o:=HC.out;rw[hn]at o;unfold zgY at o;obtain⟨m,hm⟩:=nm (max (c.rs k).grant ((c.rs k).used+c.window));rw[hm]at o;have ku:=zj3 L.out.c a;have kh:=zhn L.out.c a;have aq:=zj3 (L.out.c.mod0 (Mod.refl NoB wr).drew) a;have af:=zhn (L.out.c.mod0 (Mod.refl NoB wr).drew) a;have ar:wr.cell? ⟨b,129+k*13+11,none⟩=some (.int .u64 ((c.rs k).grant:Int)):=by rw[Nat.mul_comm];exact L.out.c.r (j:=11) a rfl
   have au:wr.cell? ⟨b,129+k*13+12,none⟩=some (.bool (c.rs k).anew):=by rw[Nat.mul_comm];exact L.out.c.r (j:=12) a rfl
   have r1:wr.cell? ⟨b,1,none⟩=some (.int .i64 (c.window:Int)):=L.out.c.hd (j:=1) rfl;obtain⟨q1,q2⟩:=OK.out.used k a;have q3:=OK.out.hopes k a;have q4:=OK.out.win;obtain⟨u,hu⟩:=nm ((c.rs k).used);obtain⟨g,hg⟩:=nm ((c.rs k).grant);obtain⟨an,M⟩:=nm ((c.rs k).anew);obtain⟨hp,av⟩:=nm ((c.rs k).hopes);obtain⟨win,Q⟩:=nm c.window;rw[hu]at ku aq q1 q3 o;rw[hg]at ar q2 o;rw[M]at au o;rw[av]at kh af q3 o;rw[Q]at r1 q3 q4;rw[hu,hg,Q]at hm;have ah:=zb hm;have o:=zb o;have HX:=zb (And.intro hu (And.intro hg (And.intro M (And.intro av Q))));have HN:=zb (And.intro hn U);unfold zD at ht q1 q2 q3;have aY:=wu ((t:Int)+u) (by omega);have aZ:IntKind.u64.wrap (win:Int)=(win:Int):=by rw[IntKind.wrap_u64];omega
   have a0:=wu ((u:Int)+win) (by omega);obtain⟨t2,aw⟩:=nm (min (t+u) zD);have aM:=zb aw;have X:t2≤4611686018427387903:=by rw[←aw];exact Nat.min_le_right _ _
   have Y:=zb q3;clear hu hg M av Q hn U aw q3 hm;go_upto_region 6 with fail
   go_cut [5] (fun tv J=>tv = .int .u64 (t2:Int)∧J=wr)
   case first =>
    go_wp2_with (go_at_call 196;refine ku.mono ?_;rintro _ _ ⟨rfl,rfl⟩);all_goals
     go_meet;have aN:=aM.out;unfold zD at aN;exact⟨by congr 1;omega,rfl⟩
   case rest =>
   obtain⟨rfl,hw⟩:=hcut;have hw:=hw.symm;subst hw;go_upto_region 7 with fail
   go_cut [8] (fun nv J=>nv = .int .u64 (m:Int)∧J=wr.drew)
   case first =>
    refine zm 15 (fun w'=>w'=wr.drew) (rfl) ?_;refine GI 0 ?_;iterate 5
     refine GS rfl ?_ ?_ ?_;rotate_left
     ·(intro J f;(try dsimp only at f);subst f;go_simp;try with_reducible rfl)
     try simp only[PS]
    refine GI 6 ?_;iterate 6
     refine GS rfl ?_ ?_ ?_;rotate_left
     ·(intro J f;(try dsimp only at f);subst f;go_simp;try with_reducible rfl)
     try simp only[PS]
    refine zz 5 rfl (fun K hK=>?_);go_simp;refine aq.mono ?_;rintro _ _ ⟨rfl,rfl⟩;refine hK.out _ _ rfl ?_;clear hK K;try simp only[PS]
    refine GI 12 ?_;refine GS rfl ?_ ?_ ?_;rotate_left
    ·(intro J f;(try dsimp only at f);subst f;go_simp;try with_reducible rfl)
    try simp only[PS]
    refine zcG (i:=13) (v:=.int .u64 (m:Int)) rfl (by kernel_rfl) (fun _ _ _ h=>h) (Or.inl ⟨by rfl,?_⟩) ?_
    ·intro J f;subst f;go_simp;have:=ah.out;split<;>omega
    try simp only[PS]
    refine GI 14 ?_;refine GS rfl ?_ ?_ ?_;rotate_left
    ·(intro J f;(try dsimp only at f);subst f;go_simp;try with_reducible rfl)
    try simp only[PS]
    refine zo ?_;go_wp2_with fail;go_meet;exact⟨rfl,rfl⟩
   case rest =>
   obtain⟨rfl,hw⟩:=hcut;subst hw;have ai:=zb (L.out.mod0 ((Mod.refl NoB wr).drew));have aO:m≤4611686018427387903∨hp=false:=by
    cases hp
    ·exact .inr rfl
    ·have:=ah.out;have:=Y.out rfl;exact .inl (by omega)
   obtain⟨Z,s⟩:=nm (d.add (zmy k m));have z:=zb s;have ax:=o.out;rw[s,aM.out]at ax;have F:=zb ax;have a9:wr.drew.cell? ⟨b,129+k*13+11,none⟩=some (.int .u64 (g:Int)):=ar;have ba:wr.drew.cell? ⟨b,129+k*13+12,none⟩=some (.bool an):=au;clear s ax o ku kh aq r1 q1 q2 aY aZ a0 ar au;have D:g<m∨(¬g<m∧an=true)∨(¬g<m∧an=false):=by
    by_cases e:g<m
    ·exact .inl e
    ·cases an
     ·exact .inr (.inr ⟨e,rfl⟩)
     ·exact .inr (.inl ⟨e,rfl⟩)
   rcases D with hA|⟨hA,rfl⟩|⟨hA,rfl⟩;rotate_left;rotate_left
   ·have H:Hid (zgY c d (8-(k+1)) (k+1) t2=RR):=by
     show _=_;rw[HN.out.2,←F.out];simp[hA]
    clear F;go_wp2_with fail;go_roundw
    case rel=>exact⟨k+1,t2,tag',V',bv',fv',l',by omega,rfl,by go_num,X,ai,H⟩
    case measure=>simp[intOf];omega
   all_goals
    cases hp
    ·have H:Hid (zgY c d (8-(k+1)) (k+1) t2=RR):=by
      show _=_;rw[HN.out.2,←F.out];simp
     clear F;go_wp2_with (go_at_call 197;refine af.mono ?_;rintro _ W9 ⟨rfl,mh⟩);have S9:=zb (ai.out.mod0 mh);go_roundw
     case rel=>exact⟨k+1,t2,tag',V',bv',fv',l',by omega,rfl,by go_num,X,S9,H⟩
     case measure=>simp[intOf];omega
    ·have aa:m≤zD:=by
      rcases aO with e|e
      ·exact e
      ·cases e
     have aj:=zb aa;clear aO aa;cases Z with
     | none =>
      have H:Hid (zgY c d (8-(k+1)) (k+1) t2=RR):=by
       show _=_;rw[HN.out.2,←F.out];simp
      clear F;go_wp2_with (first|(go_at_call 197;refine af.mono ?_;rintro _ W9 ⟨rfl,mh⟩;have S9:=zb (ai.out.mod0 mh);clear mh)|(go_at_call 142;refine(zcO S9.out.d S9.out.ok S9.out.p (zmy k m) (ziR a aj.out) ad ae).mono ?_;intro e W1 hd;obtain⟨rfl,tag2,A,B,l2,q⟩:=S9.out.add hd;rw[z.out]at q;rw[z.out];have q:=zb q;clear hd));go_roundw
      case rel=>exact⟨k+1,t2,tag2,V',A,B,l2,by omega,rfl,by go_num,X,q,H⟩
      case measure=>simp[intOf];omega
     | some d1 =>
      have aP:Hid (R=some ({ c with rs:=upd c.rs k { c.rs k with grant:=m,anew:=false } },d1)):=by
       show _=_;have e1:=F.out;rw[if_pos (by simp[hA])]at e1;rw[←HR.out,CS.control,ap.out,←e1]
      clear F;go_wp2_with (go_at_call 197;refine af.mono ?_;rintro _ W9 ⟨rfl,mh⟩;have S9:=zb (ai.out.mod0 mh);clear mh);refine(zcO S9.out.d S9.out.ok S9.out.p (zmy k m) (ziR a aj.out) ad ae).mono ?_;intro e W1 hd;obtain⟨rfl,tag2,A,B,l2,q⟩:=S9.out.add hd;rw[z.out]at q;rw[z.out];clear hd;have w11:W1.cell? ⟨b,129+k*13+11,none⟩=some (.int .u64 ((c.rs k).grant:Int)):=by
       rw[Nat.mul_comm k 13];exact q.c.r (j:=11) a rfl
      have w12:W1.cell? ⟨b,129+k*13+12,none⟩=some (.bool (c.rs k).anew):=by
       rw[Nat.mul_comm k 13];exact q.c.r (j:=12) a rfl
      have wf:∀p,W1.frozen? ⟨b,p,none⟩=false:=fun p=>q.c.fz p
      have q:=zb q;go_wp2_with fail;go_ret;rw[aP.out];have G:=q.out.granted a m;rw[Nat.mul_comm 13 k]at G;exact G.post true
  ·have ay:k=8:=by omega
   subst ay;have ab:Hid (RR=(none,t)):=zb HC.out.symm;have aQ:Hid (R=zrJ c d t):=by
    show _=_;rw[←HR.out,CS.control,ap.out,ab.out]
   clear HC;have aR:wr.cell? ⟨b,234,none⟩=some (.int .u64 (c.grant:Int)):=L.out.c.tl (j:=1) rfl;have aS:wr.cell? ⟨b,235,none⟩=some (.bool c.anew):=L.out.c.tl (j:=2) rfl;have a1:=OK.out.grant;obtain⟨m,hm⟩:=nm (max t c.grant);have aa:m≤zD:=by omega
   have aj:=zb aa;have C:Hid (R=if decide (c.grant<m)||c.anew then zqi c d m (d.add (zlP m))else zfw c d 8 0):=by
    show _=_;rw[aQ.out];unfold zrJ;rw[hm];cases d.add (zlP m)<;>rfl
   obtain⟨Z,s⟩:=nm (d.add (zlP m));have z:=zb s;rw[s]at C;obtain⟨g,hg⟩:=nm c.grant;obtain⟨an,M⟩:=nm c.anew;have HG:=zb hg;have aT:=zb M;rw[hg]at aR hm;rw[M]at aS;have ah:=zb hm;clear hg M hm s aa a1 aQ ab;go_upto_region 12 with fail
   go_cut [5] (fun tv J=>tv = .int .u64 (m:Int)∧J=wr)
   case first =>
    go_wp2_with fail;all_goals
     go_meet;have aN:=ah.out;exact⟨by congr 1;omega,rfl⟩
   case rest =>
   obtain⟨rfl,hw⟩:=hcut;have hw:=hw.symm;subst hw;go_upto_region 13 with fail
   go_cut [98] (fun rv J=>∃(r:Bool) (d2:Drf) (tag2:Nat→Nat×Nat) (A B:Value) (l2:List (Frm×Value)),rv = .bool r∧Hid (zJ tag i b db W c d2 tag2 V' A B l2 J)∧Hid ((r=true∧R=some ({ c with grant:=m,anew:=false },d2))∨(r=false∧d2=d∧R=zfw c d 8 0)))
   case first =>
    have D:g<m∨(¬g<m∧an=true)∨(¬g<m∧an=false):=by
     by_cases e:g<m
     ·exact .inl e
     ·cases an
      ·exact .inr (.inr ⟨e,rfl⟩)
      ·exact .inr (.inl ⟨e,rfl⟩)
    rcases D with hA|⟨hA,rfl⟩|⟨hA,rfl⟩;rotate_left;rotate_left
    ·have H:Hid (R=zfw c d 8 0):=by
      show _=_;rw[C.out,HG.out,aT.out];simp[hA]
     clear C;go_wp2_with fail;go_meet;exact⟨false,d,tag',bv',fv',l',rfl,L,zb (.inr ⟨rfl,rfl,H.out⟩)⟩
    all_goals
     have aU:Hid (R=zqi c d m Z):=by
      show _=_;rw[C.out,if_pos (by rw[HG.out,aT.out];simp[hA])]
     clear C;go_wp2_with fail;refine(zcO L.out.d L.out.ok L.out.p (zlP m) (zmz aj.out) ad ae).mono ?_;intro e W1 hd;obtain⟨rfl,tag2,A,B,l2,q⟩:=L.out.add hd;rw[z.out]at q;rw[z.out];have q:=zb q;clear hd;cases Z with
     | none =>
      go_wp2_with fail;go_meet;exact⟨false,d,tag2,A,B,l2,rfl,q,zb (.inr ⟨rfl,rfl,aU.out⟩)⟩
     | some d1 =>
      go_wp2_with fail;go_meet;exact⟨true,d1,tag2,A,B,l2,rfl,q,zb (.inl ⟨rfl,aU.out⟩)⟩
   case rest =>
   obtain⟨r,d2,tag2,A,B,l2,rfl,q,HQ⟩:=hcut;have aV:wc.cell? ⟨b,234,none⟩=some (.int .u64 (c.grant:Int)):=q.out.c.tl (j:=1) rfl;have aW:wc.cell? ⟨b,235,none⟩=some (.bool c.anew):=q.out.c.tl (j:=2) rfl;have wf:∀p,wc.frozen? ⟨b,p,none⟩=false:=fun p=>q.out.c.fz p
   clear aR aS C;cases r
   ·have HN:Hid (d2=d∧R=zfw c d 8 0):=by
     rcases HQ.out with⟨e,_⟩|⟨_,e1,e2⟩
     ·cases e
     ·exact⟨e1,e2⟩
    clear HQ aV aW wf;go_wp2_with fail;have a2:Hid (zJ tag i b db W c d tag2 V' A B l2 wc):=by
     have:=q.out;rw[HN.out.1]at this;exact this
    have a3:Hid (zfw c d 8 0=R):=zb HN.out.2.symm;clear HN q
    go_loopw [106] (fun kv wy=>∃(k:Nat) (S:Nat→Nat×Nat) (ak al:Value) (l3:List (Frm×Value)),k≤8∧kv = .int .i64 k∧Hid (zJ tag i b db W c d S V' ak al l3 wy)∧Hid (zfw c d (8-k) k=R)) (fun kv _=>8-(intOf kv).toNat)
    case atStart=>exact⟨0,tag2,A,B,l2,by omega,rfl,a2,a3⟩
    case round =>
     obtain⟨k,S,ak,al,l3,hk,rfl,SY,HC⟩:=hrel;by_cases a:k<8
     ·obtain⟨n,hn⟩:∃n,8-k=n+1:=⟨7-k,by omega⟩;have U:8-(k+1)=n:=by omega
      have o:=HC.out;rw[hn]at o;unfold zfw at o;obtain⟨z1,z2⟩:=OK.out.cut k a;have ao:=zmA a z2 z1;obtain⟨x,hx⟩:=nm (c.ws k);have az:wr.cell? ⟨b,9+k*15+10,none⟩=some (.bool (c.ws k).cut):=by rw[Nat.mul_comm k 15];exact SY.out.c.w (j:=10) a rfl
      have aA:wr.cell? ⟨b,9+k*15+13,none⟩=some (.bool (c.ws k).telling):=by rw[Nat.mul_comm k 15];exact SY.out.c.w (j:=13) a rfl
      have aB:wr.cell? ⟨b,9+k*15+12,none⟩=some (.int .u64 ((c.ws k).final:Int)):=by rw[Nat.mul_comm k 15];exact SY.out.c.w (j:=12) a rfl
      have aC:wr.cell? ⟨b,9+k*15+11,none⟩=some (.int .u64 ((c.ws k).keep:Int)):=by rw[Nat.mul_comm k 15];exact SY.out.c.w (j:=11) a rfl
      have I:=fun Wd (md:Mod NoB wr Wd)=>zcO (SY.out.mod0 md).d (SY.out.mod0 md).ok SY.out.p (zod k (c.ws k).final (c.ws k).keep) ao ad ae
      have HX:=zb hx;rw[hx]at az aC aB aA I;rw[hx]at o;obtain⟨cu,aD⟩:=nm x.cut;obtain⟨te,aE⟩:=nm x.telling;obtain⟨fn,aF⟩:=nm x.final;obtain⟨kp,aG⟩:=nm x.keep;rw[aD]at az o;rw[aE]at aA o;rw[aF]at aB I o;rw[aG]at aC I o;have aX:=zb (And.intro aF aG);have ac:=zb I;obtain⟨Z,s⟩:=nm (d.add (zod k fn kp));rw[s]at o;have z:=zb s;have ab:=zb (And.intro aD aE);have o:=zb o;have aH:=zb U;clear HC hn U z1 z2 ao hx I s aD aE aF aG;cases cu
      ·have H:Hid (zfw c d (8-(k+1)) (k+1)=R):=by
        show _=_;rw[aH.out,←o.out];rfl
       clear o;clear ac;go_wp2_with fail;go_quiet (fail);go_wp2_with fail;go_roundw
       case rel=>exact⟨k+1,S,ak,al,l3,by omega,by go_num,zb (SY.out.mod0 ((Mod.refl NoB wr).drewN _)),H⟩
       case measure=>simp[intOf];omega
      ·cases te
       ·have H:Hid (zq1 c d k (8-(k+1)) x Z=R):=by
         show _=_;rw[aH.out,←o.out];cases Z<;>rfl
        clear o;go_upto_region 20 with fail
        go_cut [138] (fun rv J=>∃(r:Bool) (d2:Drf) (y:Nat→Nat×Nat) (N O:Value) (l4:List (Frm×Value)),rv = .bool r∧Hid (zJ tag i b db W c d2 y V' N O l4 J)∧Hid ((r=true∧Z=some d2)∨(r=false∧d2=d∧Z=none)))
        case first =>
         clear H;refine zm 25 (fun w'=>w'.cell? ⟨b,9+k*15+10,none⟩=some (.bool true)∧w'.cell? ⟨b,9+k*15+13,none⟩=some (.bool false)∧w'.cell? ⟨b,9+k*15+12,none⟩=some (.int .u64 (fn:Int))∧w'.cell? ⟨b,9+k*15+11,none⟩=some (.int .u64 (kp:Int))) (⟨az,aA,aB,aC⟩) ?_;refine GI 0 ?_;iterate 23
          refine GS rfl ?_ ?_ ?_;rotate_left
          ·(intro J f;obtain⟨a4,a5,a6,a7⟩:=f;go_simp;try with_reducible rfl)
          try simp only[PS]
         refine zz 23 rfl (fun K hK=>?_);go_simp;refine(ac.out _ ((Mod.refl NoB wr).drew)).mono ?_;intro e W1 hd;obtain⟨rfl,y,N,O,l4,P⟩:=(SY.out.mod0 ((Mod.refl NoB wr).drew)).add hd;rw[z.out]at P;rw[z.out];clear hd;have W4:W1.cell? ⟨b,9+k*15+10,none⟩=some (.bool true)∧W1.cell? ⟨b,9+k*15+13,none⟩=some (.bool false)∧W1.cell? ⟨b,9+k*15+12,none⟩=some (.int .u64 (fn:Int))∧W1.cell? ⟨b,9+k*15+11,none⟩=some (.int .u64 (kp:Int)):=by
          rw[←ab.out.1,←ab.out.2,←aX.out.1,←aX.out.2,←HX.out,Nat.mul_comm k 15];exact⟨P.c.w (j:=10) a rfl,P.c.w (j:=13) a rfl,P.c.w (j:=12) a rfl,P.c.w (j:=11) a rfl⟩
         have P:=zb P;refine hK.out _ _ W4 ?_;clear hK K;try simp only[PS]
         refine GI 24 ?_;refine GS rfl ?_ ?_ ?_;rotate_left
         ·(intro J f;obtain⟨a4,a5,a6,a7⟩:=f;go_simp;try with_reducible rfl)
         try simp only[PS]
         refine zo ?_;go_wp2_with fail;go_meet;cases Z with
         | none=>exact⟨false,d,y,N,O,l4,rfl,P,zb (.inr ⟨rfl,rfl,rfl⟩)⟩
         | some d1=>exact⟨true,d1,y,N,O,l4,rfl,P,zb (.inl ⟨rfl,rfl⟩)⟩
        case rest =>
        obtain⟨r,d2,y,N,O,l4,rfl,P,am⟩:=hcut;cases r
        ·have Y:Hid (d2=d∧Z=none):=by
          rcases am.out with⟨e,_⟩|⟨_,e1,e2⟩
          ·cases e
          ·exact⟨e1,e2⟩
         have S5:Hid (zJ tag i b db W c d y V' N O l4 wc):=by
          rw[←Y.out.1];exact P
         have aI:Hid (zfw c d (8-(k+1)) (k+1)=R):=by
          have:=H.out;rw[Y.out.2]at this;exact this
         clear H am Y P;go_wp2_with fail;go_roundw
         case rel=>exact⟨k+1,y,N,O,l4,by omega,by go_num,S5,aI⟩
         case measure=>simp[intOf];omega
        ·have aI:Hid (some ({ c with ws:=upd c.ws k { x with telling:=true } },d2)=R):=by
          have:=H.out;rcases am.out with⟨_,e⟩|⟨e,_⟩
          ·rw[e]at this;exact this
          ·cases e
         have wf:∀p,wc.frozen? ⟨b,p,none⟩=false:=fun p=>P.out.c.fz p
         have u13:wc.cell? ⟨b,9+k*15+13,none⟩=some (.bool (c.ws k).telling):=by rw[Nat.mul_comm k 15];exact P.out.c.w (j:=13) a rfl
         clear H am;go_wp2_with fail;go_ret;rw[←aI.out];have G:=P.out.telling a;rw[HX.out,Nat.mul_comm 15 k]at G;exact G.post true
       ·have H:Hid (zfw c d (8-(k+1)) (k+1)=R):=by
         show _=_;rw[aH.out,←o.out];rfl
        clear o ac;go_wp2_with fail;go_quiet (fail);go_wp2_with fail;go_roundw
        case rel=>exact⟨k+1,S,ak,al,l3,by omega,by go_num,zb (SY.out.mod0 ((Mod.refl NoB wr).drewN _)),H⟩
        case measure=>simp[intOf];omega
     ·have ay:k=8:=by omega
      subst ay;have a8:Hid (R=none):=zb HC.out.symm;clear HC;go_wp2_with fail;go_ret;rw[a8.out];exact SY.out.post false
   ·have HN:Hid (R=some ({ c with grant:=m,anew:=false },d2)):=by
     rcases HQ.out with⟨_,e⟩|⟨e,_⟩
     ·exact e
     ·cases e
    clear HQ;go_wp2_with fail;go_ret;rw[HN.out];exact(q.out.grantedAll m).post true
def zaQ(p:Nat→Bool)(n:Nat):Nat:=(List.range n).findIdx p
theorem zf0{p:Nat→Bool}(h:zab n p m)(b:∀i j,i≤j→j<n→p i=true→p j=true):zaQ p n=m:=by
 obtain⟨h1,h2,h3⟩:=h;unfold zaQ;by_cases hn:m=n
 ·subst hn;have:∀x∈List.range m,p x=false:=fun x a=>by
   have a:x<m:=by simpa using a
   cases hq:p x
   ·rfl
   ·have:=b x (m-1) (by omega) (by omega) hq;rw[h2 (by omega)]at this;cases this
  rw[List.findIdx_eq_length.2 (fun x a=>by rw[this x a])];simp
 ·refine(List.findIdx_eq (by rw[List.length_range];omega)).2 ⟨by rw[List.getElem_range];exact h3 (by omega),fun j hj=>?_⟩;simp only[List.getElem_range];cases hq:p j
  ·rfl
  ·have:=b j (m-1) (by omega) (by omega) hq;rw[h2 (by omega)]at this;cases this
def zaI.add(s:zaI)(lo hi:Nat):zaI :=
 if hi<max lo s.fl then s else
 if s.most<(zbg s.rs (max lo s.fl) hi (zaQ (zdz s.rs (max lo s.fl)) s.rs.length) (zaQ (zay s.rs hi) s.rs.length)).length then
  ⟨(zbg s.rs (max lo s.fl) hi (zaQ (zdz s.rs (max lo s.fl)) s.rs.length) (zaQ (zay s.rs hi) s.rs.length)).drop 1,hiAt (zbg s.rs (max lo s.fl) hi (zaQ (zdz s.rs (max lo s.fl)) s.rs.length) (zaQ (zay s.rs hi) s.rs.length)) 0+1,s.most⟩
 else⟨zbg s.rs (max lo s.fl) hi (zaQ (zdz s.rs (max lo s.fl)) s.rs.length) (zaQ (zay s.rs hi) s.rs.length),s.fl,s.most⟩
variable{rs:zA}
theorem zmC(hw:WF rs):∀i j,i≤j→j<rs.length→zdz rs m i=true→zdz rs m j=true:=by
 intro i j a hj h;have hm:=(zd5 hw a hj).2;simp only[zdz,Bool.or_eq_true,decide_eq_true_eq]at h ⊢;omega
theorem ziU(hw:WF rs):∀i j,i≤j→j<rs.length→zay rs m i=true→zay rs m j=true:=by
 intro i j a hj h;have hm:=(zd5 hw a hj).1;simp only[zay,Bool.and_eq_true,decide_eq_true_eq]at h ⊢;omega
def zq3(s:zaI)(b o lo hi:Nat)(v:Value)(w:World)(e:Ending)(w':World):Prop :=
 ∃v',e = .returned (.tuple #[])∧w'.ownsRow 0 214 2 v' (s.add lo hi).rs.length (zn (s.add lo hi).rs)∧w'.heap[b]?=((w.setCell ⟨b,o,none⟩ v').setCell ⟨b,o+1,none⟩ (.int .u64 ((s.add lo hi).fl:Int))).heap[b]? ∧
  Mod (fun k=>k=b∨v.ownBlock=some k) w w'∧zaH w v v'
theorem zco(s:zaI)(b o lo hi:Nat)(v:Value)(w:World)(h:zbA w b o v s.rs s.fl s.most)(a:WF s.rs)(r:lo<18446744073709551616)(j:hi<18446744073709551616)(t:s.fl<18446744073709551616)
  (u:v.ownBlock≠some b) (d:1≤s.most) (c:s.most≤9223372036854775807) :
  Calls prog 88 #[.pointer (some ⟨b,o,none⟩),.int .u64 lo,.int .u64 hi] w (zq3 s b o lo hi v w):=by
 have B:∀g,v.ownBlock=some g→g<w.heap.size:=zE h.own;by_cases k:max lo s.fl≤hi
 ·refine(add_in s.rs s.fl s.most b o lo hi v w h a r j t B u k d c (fun m1 m2 h1 h2=>zgE a k j h1 h2)).mono ?_;rintro e w' ⟨m1,m2,v',y,z,h1,h2,f,rfl,l,i,n,A⟩;have q:=zf0 h1 (zmC a);have e2:=zf0 h2 (ziU a);have p:s.add lo hi=⟨y,z,s.most⟩:=by
   unfold zaI.add;rw[if_neg (by omega),q,e2];split at f
   ·rename_i hc;rw[if_pos hc];cases f;rfl
   ·rename_i hc;rw[if_neg hc];cases f;rfl
  refine⟨v',rfl,?_,?_,n,A⟩
  ·rw[p];exact l
  ·rw[p];exact i
 ·have p:s.add lo hi=s:=by
   unfold zaI.add;rw[if_pos (by omega)]
  refine(zqJ s.rs s.fl s.most b o lo hi v w h B (by omega)).mono ?_;rintro e w' ⟨rfl,m⟩;have hb:=zk h.cl;refine⟨v,rfl,?_,?_,m.mono (fun _ x=>x.elim),fun g hg=>.inl hg⟩
  ·rw[p];exact m.owns h.own (fun _ _ x=>x)
  ·rw[p,m.block b hb (fun x=>x)];have q:(w.setCell ⟨b,o,none⟩ v).heap[b]?=w.heap[b]?:=zaz h.cl;have c2:(w.setCell ⟨b,o,none⟩ v).cell? ⟨b,o+1,none⟩=some (.int .u64 (s.fl:Int)):=(World.cell?_of_block q).trans h.cf;rw[zaz c2,q]
def zby(k lo:Nat)(fin:Bool)(s:List UInt8):Frm:=⟨4,(k:Int),lo,0,0,fin,0,0,s,[]⟩
def CS.end0(c:CS)(k:Nat):Nat:=min (min (c.ws k).b.length (c.ws k).credit) ((c.ws k).high+c.credit-min c.credit c.spent)
def CS.endOf(c:CS)(k:Nat):Nat:=if (c.ws k).cut then min (c.end0 k) (c.ws k).keep else c.end0 k
theorem zj4(c:CS)(k:Nat):c.endOf k≤c.end0 k:=by
 unfold CS.endOf;split
 ·exact Nat.min_le_left _ _
 ·exact Nat.le_refl _
def WS.fin(x:WS):Bool:=x.finished && !x.cut
def CS.bytesAdd(c:CS)(d:Drf)(k lo hi:Nat)(fin:Bool):Bool×CS×Drf :=
 match d.add (zby k lo fin (((c.ws k).b.drop lo).take (hi-lo)))with
 | none=>(false,c,{ d with full:=true })
 | some d'=>(true,{ c with ws:=upd c.ws k { c.ws k with sent:=if lo<hi then(c.ws k).sent.add lo (hi-1)else(c.ws k).sent,ending:=(c.ws k).ending||fin,high:=max (c.ws k).high hi } },d')
def CS.bytesGot(c:CS)(d:Drf)(k lo hi:Nat)(fin:Bool):Option Drf→Bool×CS×Drf
 | none=>(false,c,{ d with full:=true })
 | some d'=>(true,{ c with ws:=upd c.ws k { c.ws k with sent:=if lo<hi then(c.ws k).sent.add lo (hi-1)else(c.ws k).sent,ending:=(c.ws k).ending||fin,high:=max (c.ws k).high hi } },d')
theorem ziV(c:CS)(d:Drf)(k lo hi:Nat)(fin:Bool):c.bytesAdd d k lo hi fin=c.bytesGot d k lo hi fin (d.add (zby k lo fin (((c.ws k).b.drop lo).take (hi-lo)))):=by
 unfold CS.bytesAdd;cases d.add (zby k lo fin (((c.ws k).b.drop lo).take (hi-lo)))<;>rfl
def zeS(c:CS)(d:Drf)(k lo hi:Nat):Int :=
 (d.room:Int)-4-d.b.length-(((zC (zby k lo false (((c.ws k).b.drop lo).take (hi-lo)))).length:Int)-((hi:Int)-lo))
def CS.bytesR(c:CS)(d:Drf)(k lo hi:Nat):Bool×CS×Drf :=
 if zeS c d k lo hi<(hi:Int)-lo then
  if zeS c d k lo hi<1 then(false,c,{ d with full:=true })
  else c.bytesAdd d k lo (lo+(zeS c d k lo hi).toNat) false
 else c.bytesAdd d k lo hi ((c.ws k).fin&&hi==(c.ws k).b.length)
def CS.bytes(c:CS)(d:Drf)(k:Nat):Bool×CS×Drf :=
 if c.waits≠[]∨d.full=true then(false,c,d)else
 if (za1 (c.ws k).sent.rs 0 (c.endOf k)).2≤(za1 (c.ws k).sent.rs 0 (c.endOf k)).1 then
  if (!(c.ws k).fin||(c.ws k).ending)||decide (c.endOf k<(c.ws k).b.length)then(false,c,d)
  else c.bytesR d k (c.ws k).b.length (c.ws k).b.length
 else c.bytesR d k (za1 (c.ws k).sent.rs 0 (c.endOf k)).1 (za1 (c.ws k).sent.rs 0 (c.endOf k)).2
theorem zah.modN{l:List (Frm×Value)}(h:zah tag i db d bv fv l W)(m:Mod S W W')(hS:∀g,S g→(tag g).1≠i):zah tag i db d bv fv l W':=by
 have q:∀{g r:Nat},tag g=(i,r)→¬S g:=fun hg x=>hS _ x (by rw[hg])
 exact⟨m.obj (q h.tb) h.obj,h.tb,m.owns h.ob (fun g hg=>q (h.tbv g hg)),h.tbv,m.owns h.own (fun g hg=>q (h.tfv g hg)),h.lf,fun x a=>⟨(h.rr x a).1.mod m (zaY fun g hg=>q ((h.rr x a).2 g hg)),(h.rr x a).2⟩,h.tfv⟩
theorem zJ.free(h:zJ tag i b db W c d tag' V' bv' fv' l' W')(m:Mod S W' W'')(a:∀g,S g→tag' g=(0,0)∧W.heap.size≤g):zJ tag i b db W c d tag' V' bv' fv' l' W'':=by
 have hp:=h.p;have q:∀g,S g→(tag' g).1≠i:=fun g hg=>by rw[(a g hg).1];simp;omega
 exact⟨h.c.mod m q (fun _ _=>rfl),h.d.modN m q,⟨h.e.old,h.e.new,h.e.out.mod m⟩,h.m.then m (fun g hg=>.inr (a g hg).2),h.p⟩
theorem zJ.setFull(h:zJ tag i b db W c d tag' V' bv' fv' l' W'):zJ tag i b db W c { d with full:=true } tag' V' bv' fv' l' (W'.setCell ⟨db,4,none⟩ (.bool true)):=by
 have m:Mod (fun g=>g=db) W' (W'.setCell ⟨db,4,none⟩ (.bool true)):=(Mod.refl (fun g=>g=db) _).setCell (p:=⟨db,4,none⟩) (.inl rfl) _;have f:Mod (zhp i tag') W' (W'.setCell ⟨db,4,none⟩ (.bool true)):=m.mono (fun g hg=>.inl ⟨90,by decide,by rw[hg,h.d.tb]⟩);refine⟨h.c.modR h.e.out h.p f (fun _ _=>rfl),⟨?_,h.d.tb,m.owns h.d.ob (fun g hg x=>?_),h.d.tbv,m.owns h.d.own (fun g hg x=>?_),h.d.lf,fun x a=>⟨(h.d.rr x a).1.mod m (zaY fun g hg y=>?_),(h.d.rr x a).2⟩,h.d.tfv⟩,⟨h.e.old,h.e.new,h.e.out.mod m⟩,zap h.e h.m (zcc f),h.p⟩
 ·rw[zc h.d.obj];rfl
 ·exact zg.apart (h.d.tbv g hg) (x ▸ h.d.tb) (by decide) rfl
 ·exact zg.apart (h.d.tfv g hg) (x ▸ h.d.tb) (by decide) rfl
 ·exact zg.apart ((h.d.rr x a).2 g hg) (y ▸ h.d.tb) (by decide) rfl
theorem same_w(c:CS)(k:Nat)(x:WS)(h1:x.b=(c.ws k).b)(h2:x.sent.rs=(c.ws k).sent.rs)(h3:x.came.rs=(c.ws k).came.rs):zbH c { c with ws:=upd c.ws k x } :=
 ⟨rfl,fun q _=>by
  by_cases a:q=k
  ·subst a;simp only[ze];exact⟨h1,h2,h3⟩
  ·simp[zd _ _ a],fun _ _=>⟨rfl,rfl⟩,rfl,rfl,rfl,rfl⟩
theorem zJ.storeW(h:zJ tag i b db W c d tag' V' bv' fv' l' W')(hk:k<8)(j:Nat)(hj:j<15)(v:Value)(x:WS)(hx:zbp x (V'.wb k) (V'.ws k) (V'.wc k)=(zbp (c.ws k) (V'.wb k) (V'.ws k) (V'.wc k)).set j v)(h1:x.b=(c.ws k).b)(h2:x.sent.rs=(c.ws k).sent.rs)(h3:x.came.rs=(c.ws k).came.rs):zJ tag i b db W { c with ws:=upd c.ws k x } d tag' V' bv' fv' l' (W'.setCell ⟨b,9+15*k+j,none⟩ v):=by
 refine h.store _ _ (zat _ _ _ _ _ hk hj (fun q _=>?_) rfl rfl rfl) (same_w c k x h1 h2 h3);by_cases a:q=k
 ·subst a;simp only[ze,if_true];exact hx
 ·simp only[zd _ _ a,if_neg a]
theorem zJ.sentHigh(h:zJ tag i b db W c d tag' V' bv' fv' l' W')(hk:k<8)(e:Bool)(m:Nat):zJ tag i b db W { c with ws:=upd c.ws k { c.ws k with ending:=e,high:=m } } d tag' V' bv' fv' l' ((W'.setCell ⟨b,9+15*k+9,none⟩ (.bool e)).setCell ⟨b,9+15*k+7,none⟩ (.int .u64 (m:Int))):=by
 have h1:=h.storeW hk 9 (by decide) (.bool e) { c.ws k with ending:=e } rfl rfl rfl rfl;have h2:=h1.storeW hk 7 (by decide) (.int .u64 (m:Int)) { c.ws k with ending:=e,high:=m } (by simp only[ze];rfl) (by simp only[ze]) (by simp only[ze]) (by simp only[ze]);simp only[zdj]at h2;exact h2
variable{hi lo:Nat}
theorem zJ.sentAdd{e:Ending}(h:zJ tag i b db W c d tag' V' bv' fv' l' W')(hk:k<8)(ha:zq3 (c.ws k).sent b (9+15*k+1) lo hi (V'.ws k) W' e W'')(hm:((c.ws k).sent.add lo hi).most=(c.ws k).sent.most):e = .returned (.tuple #[])∧∃tag2 V2,zJ tag i b db W { c with ws:=upd c.ws k { c.ws k with sent:=(c.ws k).sent.add lo hi } } d tag2 V2 bv' fv' l' W'':=by
 obtain⟨v',rfl,l,o,f,u⟩:=ha;have w:=h.p;have s:∀{g r:Nat},tag' g=(i,r)→g<W'.heap.size:=fun hg=>zaD h.e.out hg w
 have n:∀g,(tag' g).1=i→retag tag' W' W'' (i,20+k) g=tag' g:=fun g hg=>zy (s (r:=(tag' g).2) (by rw[←hg]))
 have v:∀g,(g=b∨(V'.ws k).ownBlock=some g)→∃r,(r=1∨r=20+k)∧tag' g=(i,r):=fun g hg=>by
  rcases hg with hg|hg
  ·exact⟨1,.inl rfl,by rw[hg,h.c.tb]⟩
  ·exact⟨20+k,.inr rfl,h.c.tws k hk g hg⟩
 refine⟨rfl,retag tag' W' W'' (i,20+k),{ V' with ws:=upd V'.ws k v' },?_,?_,h.e.trans (zbw f.size) h.m.size,zap h.e h.m (f.mono (fun g hg=>.inl ?_)),w⟩
 ·refine h.c.build (R:=fun r=>r=1∨r=20+k) f v n ?_ (.inl ⟨rfl,rfl,rfl,by omega,by omega⟩) (fun q t=>.inl ⟨?_,rfl,by omega⟩) (fun q t=>?_) (fun q t=>.inl ⟨?_,rfl,by omega⟩) (fun q t=>.inl ⟨rfl,rfl,by omega⟩) (fun q t=>.inl ⟨rfl,rfl,by omega⟩) (.inl ⟨rfl,rfl,rfl,by omega,by omega⟩) (.inl ⟨rfl,rfl,by omega⟩) (.inl ⟨rfl,rfl,by omega⟩) (.inl ⟨rfl,rfl,by omega⟩)
  ·rw[o,zc (zc h.c.obj)];simp only[List.setIfInBounds_toArray];have e1:=zat c c V' { V' with ws:=upd V'.ws k v' } (k:=k) (j:=1) v' hk (by decide) (fun q _=>by
    by_cases a:q=k
    ·subst a;simp only[ze,if_true];rfl
    ·simp only[zd _ _ a,if_neg a]) rfl rfl rfl
   rw[e1];have e2:=zat c { c with ws:=upd c.ws k { c.ws k with sent:=(c.ws k).sent.add lo hi } } { V' with ws:=upd V'.ws k v' } { V' with ws:=upd V'.ws k v' } (k:=k) (j:=2) (.int .u64 (((c.ws k).sent.add lo hi).fl:Int)) hk (by decide) (fun q _=>by
    by_cases a:q=k
    ·subst a;simp only[ze,if_true,zbp,hm];rfl
    ·simp only[zd _ _ a,if_neg a]) rfl rfl rfl
   rw[show 9+15*k+1+1=9+15*k+2 from rfl,e2]
  ·by_cases a:q=k
   ·subst a;simp only[ze]
   ·simp only[zd _ _ a]
  ·by_cases a:q=k
   ·subst a;simp only[ze];refine .inr ⟨l,fun g hg=>?_⟩;rcases u g hg with y|y
    ·rw[zy (s (h.c.tws q hk g y)),h.c.tws q hk g y]
    ·exact zav y (zE l g hg)
   ·exact .inl ⟨by simp only[zd _ _ a],by simp only[zd _ _ a],by omega⟩
  ·by_cases a:q=k
   ·subst a;simp only[ze]
   ·simp only[zd _ _ a]
 ·exact h.d.modC f (fun g hg=>by
   obtain⟨r,hr,e⟩:=v g hg;exact⟨r,by omega,by omega,e⟩) n
 ·obtain⟨r,hr,e⟩:=v g hg;exact zbk e (by omega)
theorem zbm(s:zaI)(lo hi:Nat):(s.add lo hi).most=s.most:=by
 unfold zaI.add;split
 ·rfl
 ·split<;>rfl
theorem zhr{fin:Bool}{s:List UInt8}(hk:k<8)(hl:s.length≤1048576)(a:lo+s.length≤zD):(zby k lo fin s).Fits:=by
 have hb:=zcd (zby k lo fin s) rfl;have hd:(zby k lo fin s).data.length=s.length:=rfl;refine⟨?_,rfl,by rw[hd];exact hl,by rw[hd]at hb;omega⟩;unfold zD at a;simp[zS,zaC,zir,zbB,zK,zby]
 and_intros<;>first|omega|exact decide_eq_true (by omega)
theorem zJ.add2{e:Ending}(h:zJ tag i b db W c d tag' V' bv' fv' l' W')(hd:zqh tag' i db W' d f e W''):e = .returned (.bool (d.add f).isSome)∧∃tag2 bv2 fv2 l2,zJ tag i b db W c ((d.add f).getD d) tag2 V' bv2 fv2 l2 W''∧(∀g,g<W'.heap.size→tag2 g=tag' g)∧Mod (zhp i tag') W' W'':=by
 obtain⟨rfl,tag2,bv2,fv2,l2,h1,h2,h3⟩:=hd;exact⟨rfl,tag2,bv2,fv2,l2,⟨h.c.modR h.e.out h.p h3 h2.old,h1,h.e.trans h2.ext h.m.size,zap h.e h.m (zcc h3),h.p⟩,h2.old,h3⟩
structure ziW(c:CS)(k:Nat):Prop where
 lt:k<8
 cut:(c.ws k).keep≤zD
 len:(c.ws k).b.length≤1048576
 credit:(c.ws k).credit≤zD
 high:(c.ws k).high≤zD
 all:c.credit≤zD
 spent:c.spent≤zD
 wf:WF (c.ws k).sent.rs
 hi:∀j,j<(c.ws k).sent.rs.length→hiAt (c.ws k).sent.rs j<9223372036854775808
 fl:(c.ws k).sent.fl≤zD
 most:1≤(c.ws k).sent.most∧(c.ws k).sent.most≤1099511627776
 rl:(c.ws k).sent.rs.length≤1099511627776
theorem zd6(rs:zA):∀lo hi,(za1 rs lo hi).2≤hi:=by
 induction rs with
 | nil=>intro lo hi;exact Nat.le_refl _
 | cons r l ih =>
  intro lo hi;unfold za1;split
  ·exact ih lo hi
  ·split
   ·exact Nat.min_le_left _ _
   ·exact ih _ _
theorem zmD(rs:zA)(h:∀r∈rs,r.2<9223372036854775808):∀lo hi,lo≤9223372036854775808→(za1 rs lo hi).1≤9223372036854775808:=by
 induction rs with
 | nil=>intro lo hi hl;exact hl
 | cons r l ih =>
  intro lo hi hl;have hr:=h r List.mem_cons_self;have a:=ih (fun x hx=>h x (List.mem_cons_of_mem _ hx));unfold za1;split
  ·exact a lo hi hl
  ·split
   ·exact hl
   ·exact a _ _ (by omega)
theorem zmE(h:zez W 65 10 v n xs):∃a cap,v = .slice a n cap:=by
 rcases h.2 with⟨e,e2⟩|⟨g,o,cap,cur,e,_⟩
 ·exact⟨none,0,by rw[e,e2]⟩
 ·exact⟨_,cap,e⟩
variable{N:Nat}{new:List UInt8}
theorem zdC{e:Ending}(h:zey w (.slice none 0 0) [] true new e w')(hN:new.length=N):∃a c,e = .returned (.slice a N c)∧Mod NoB w w':=by
 rcases h with⟨_,v',rfl,b⟩|⟨hx,_⟩
 ·obtain⟨a,c,e,_⟩:=zi b.own;rw[List.nil_append,hN]at e;exact⟨a,c,by rw[e],(Mod.refl NoB w).grown b.grown (fun g hg=>by simp[Value.ownBlock]at hg)⟩
 ·cases hx
theorem zg.sentAt(h:zg tag i b c V W)(hk:k<8)(hl:(c.ws k).sent.rs.length≤1099511627776):zbA W b (9+15*k+1) (V.ws k) (c.ws k).sent.rs (c.ws k).sent.fl (c.ws k).sent.most :=
 ⟨h.w (j:=1) hk rfl,h.w (j:=2) hk rfl,h.w (j:=3) hk rfl,h.ws k hk,hl,fun j=>h.fz j⟩
theorem zmF{l:List (Frm×Value)}(h:zg tag i b c V W)(hD:zah tag i db d bv fv l W)(E:Env i tag W)(k:Nat)(ok:ziW c k)(bO:d.b.length≤1073741824)(bP:d.fs.length≤1073741824)(bQ:d.room≤1073741824):Calls prog 149 #[.pointer (some ⟨b,0,none⟩),.pointer (some ⟨db,0,none⟩),.int .i64 (k:Int)] W (za9 tag i b db W (c.bytes d k).2.1 (c.bytes d k).2.2 (c.bytes d k).1):=by
 have S0:Hid (zJ tag i b db W c d tag V bv fv l W):=zb ⟨h,hD,Ext.same E.ok (Mod.refl NoB _),Mod.refl _ _,E.pos⟩;have hk:=ok.lt;have hk0:(0:Int)≤k:=by omega
 have hk8:(k:Int)<8:=by omega
 have c5:W.cell? ⟨b,238,none⟩=some V.wt:=h.tl (j:=5) rfl;obtain⟨wta,wtc,a8⟩:=zmE h.wt;rw[a8]at c5;have e4:W.cell? ⟨db,4,none⟩=some (.bool d.full):=za hD.obj rfl;have w0:W.cell? ⟨b,9+k*15,none⟩=some (V.wb k):=by rw[Nat.mul_comm];exact h.w (j:=0) hk rfl
 obtain⟨wa,n,ae,_⟩:=zi (h.wb k hk);rw[ae]at w0;have w7:W.cell? ⟨b,9+k*15+7,none⟩=some (.int .u64 ((c.ws k).high:Int)):=by rw[Nat.mul_comm];exact h.w (j:=7) hk rfl
 have af:W.cell? ⟨b,9+k*15+14,none⟩=some (.int .u64 ((c.ws k).credit:Int)):=by rw[Nat.mul_comm];exact h.w (j:=14) hk rfl
 have X:W.cell? ⟨b,9+k*15+10,none⟩=some (.bool (c.ws k).cut):=by rw[Nat.mul_comm];exact h.w (j:=10) hk rfl
 have ah:W.cell? ⟨b,9+k*15+11,none⟩=some (.int .u64 ((c.ws k).keep:Int)):=by rw[Nat.mul_comm];exact h.w (j:=11) hk rfl
 have g0:W.cell? ⟨b,233,none⟩=some (.int .u64 (c.credit:Int)):=h.tl (j:=0) rfl;have ks:=zmw (h.mod0 ((Mod.refl NoB W).drew)) (by have:=ok.spent;unfold zD at this;omega);obtain⟨R,hR⟩:=nm (c.bytes d k);rw[hR];have HR:=zb hR;have OK:=zb ok;obtain⟨L,hL⟩:=nm ((c.ws k).b.length);obtain⟨hh,aL⟩:=nm ((c.ws k).high);obtain⟨cr,aM⟩:=nm ((c.ws k).credit);obtain⟨cc,aN⟩:=nm c.credit;obtain⟨cu,ai⟩:=nm ((c.ws k).cut);obtain⟨kp,aO⟩:=nm ((c.ws k).keep);obtain⟨sp,aP⟩:=nm c.spent;obtain⟨nw,aQ⟩:=nm c.waits.length;obtain⟨df,aR⟩:=nm d.full;have b1:=ok.len;have b2:=ok.credit;have b3:=ok.high;have b4:=ok.all;have b5:=ok.spent;have b6:=ok.cut;unfold zD at b2 b3 b4 b5 b6;have HE:Hid (c.endOf k=if cu=true then min (min (min L cr) (hh+cc-min cc sp)) kp else min (min L cr) (hh+cc-min cc sp)):=by
  show _=_;rw[CS.endOf,CS.end0,hL,aL,aM,aN,aP,ai,aO]
 rw[hL]at w0 b1;rw[aL]at w7 b3;rw[aM]at af b2;rw[aN]at g0 b4;rw[ai]at X;rw[aO]at ah b6;have bR:=zb ai;rw[aP]at ks b5;rw[aQ]at c5;rw[aR]at e4;have HL:=zb hL;have Y:Hid (V.wb k = .slice wa L n):=by rw[hL]at ae;exact ae
 have a9:=zb aQ;have bb:=zb aR;have aj:0<nw∨(nw=0∧df=true)∨(nw=0∧df=false):=by
  cases df
  ·by_cases e:nw=0
   ·exact .inr (.inr ⟨e,rfl⟩)
   ·exact .inl (by omega)
  ·by_cases e:nw=0
   ·exact .inr (.inl ⟨e,rfl⟩)
   ·exact .inl (by omega)
 clear h hD E ok hR a8 ae hL aL aM aN aP aQ aR ai aO;rcases aj with hA|⟨rfl,rfl⟩|⟨rfl,rfl⟩
 ·have D:Hid (R=(false,c,d)):=by
   show _=_;rw[←HR.out,CS.bytes,if_pos (.inl (fun e=>by have:=a9.out;rw[e]at this;simp at this;omega))]
  have d1:(0:Int)<nw:=by omega
  clear hA ks w0 w7 af X ah g0;go_enter func149,ntmps149;go_wp2_with fail;go_ret;rw[D.out];exact S0.out.post false
 ·have D:Hid (R=(false,c,d)):=by
   show _=_;rw[←HR.out,CS.bytes,if_pos (.inr bb.out)]
  clear ks w0 w7 af X ah g0;go_enter func149,ntmps149;go_wp2_with fail;go_ret;rw[D.out];exact S0.out.post false
 have bd:Hid (R=if (za1 (c.ws k).sent.rs 0 (c.endOf k)).2≤(za1 (c.ws k).sent.rs 0 (c.endOf k)).1 then
  if (!(c.ws k).fin||(c.ws k).ending)||decide (c.endOf k<(c.ws k).b.length)then(false,c,d)
  else c.bytesR d k (c.ws k).b.length (c.ws k).b.length
 else c.bytesR d k (za1 (c.ws k).sent.rs 0 (c.endOf k)).1 (za1 (c.ws k).sent.rs 0 (c.endOf k)).2):=by
  show _=_;rw[←HR.out,CS.bytes,if_neg];rintro(e|e)
  ·exact e (List.eq_nil_of_length_eq_zero a9.out)
  ·rw[bb.out]at e;cases e
 obtain⟨q1,aS⟩:=nm (min cc sp);obtain⟨t,aT⟩:=nm (min (min L cr) (hh+cc-q1));obtain⟨en,aU⟩:=nm ((if cu=true then min t kp else t));have bS:Hid (c.endOf k=en):=by
  show _=_;rw[HE.out,aS,aT,aU]
 have be:=zb aS;have Z:=zb aU;have bf:=zb aT;have x1:IntKind.u64.wrap (L:Int)=(L:Int):=by rw[IntKind.wrap_u64];omega
 have x2:=wu ((hh:Int)+cc) (by omega);have x3:=wu ((hh:Int)+cc-q1) (by omega);clear aS aU aT HE HR;go_enter func149,ntmps149;go_upto_region 4 with fail
 go_cut [8] (fun ev o=>ev = .int .u64 (t:Int)∧o=W.drew)
 case first=>as_aux_lemma =>
  refine zm 29 (fun w'=>w'=W.drew) (rfl) ?_;refine GI 0 ?_;iterate 24
   refine GS rfl ?_ ?_ ?_;rotate_left
   ·(intro o q;(try dsimp only at q);subst q;go_simp;try with_reducible rfl)
   try simp only[PS]
  refine zz 24 rfl (fun K hK=>?_);go_simp;refine ks.mono ?_;rintro _ _ ⟨rfl,rfl⟩;refine hK.out _ _ rfl ?_;clear hK K;try simp only[PS]
  refine zcG (i:=25) (v:=.int .u64 (q1:Int)) rfl (by kernel_rfl) (fun _ _ _ h=>h) (Or.inl ⟨by rfl,?_⟩) ?_
  ·intro o q;subst q;go_simp;have:=be.out;split<;>omega
  try simp only[PS]
  refine GI 26 ?_;refine GS rfl ?_ ?_ ?_;rotate_left
  ·(intro o q;(try dsimp only at q);subst q;go_simp;try with_reducible rfl)
  try simp only[PS]
  refine zcG (i:=27) (v:=.int .u64 (t:Int)) rfl (by kernel_rfl) (fun _ _ _ h=>h) (Or.inl ⟨by rfl,?_⟩) ?_
  ·intro o q;subst q;go_simp;have h1:=be.out;have h2:=bf.out
   (repeat' split)<;>omega
  try simp only[PS]
  refine GI 28 ?_;refine GS rfl ?_ ?_ ?_;rotate_left
  ·(intro o q;(try dsimp only at q);subst q;go_simp;try with_reducible rfl)
  try simp only[PS]
  refine zo ?_;go_wp2_with fail;go_meet;exact⟨rfl,rfl⟩
 case rest =>
 obtain⟨rfl,T⟩:=hcut;subst T;go_upto_if 64 with fail
 go_cut [8] (fun ev o=>ev = .int .u64 (en:Int)∧o=W.drew)
 case first=>as_aux_lemma =>
  cases cu
  ·have h2:t=en:=Z.out;subst h2;go_wp2_with fail;go_meet;exact⟨rfl,rfl⟩
  ·go_wp2_with fail;all_goals
    go_meet;have h2:min t kp=en:=Z.out;exact⟨by congr 1;omega,rfl⟩
 case rest =>
 obtain⟨rfl,T⟩:=hcut;subst T;have bh:en≤L:=by
  have h1:(if cu=true then min t kp else t)=en:=Z.out;have h2:min (min L cr) (hh+cc-q1)=t:=bf.out;have h3:t≤L:=by rw[←h2];exact Nat.le_trans (Nat.min_le_left _ _) (Nat.min_le_left _ _)
  clear h2;split at h1
  ·have:=Nat.min_le_left t kp;omega
  ·omega
 have S1:=zb (S0.out.mod0 (Mod.refl NoB W).drew);have kg:=ziT (c.ws k).sent.rs (c.ws k).sent.fl (c.ws k).sent.most b (9+15*k+1) 0 en (V.ws k) W.drew (S1.out.c.sentAt hk OK.out.rl) (by omega) OK.out.hi;rw[Nat.mul_comm 15 k]at kg;have aE:=zmD (c.ws k).sent.rs (fun r hr=>by
  obtain⟨j,hj⟩:=List.getElem?_of_mem hr;have bi:=(List.getElem?_eq_some_iff.1 hj).1;have e:=zfZ bi;rw[hj]at e;cases e;exact OK.out.hi j bi) 0 en (by omega)
 have aF:=zd6 (c.ws k).sent.rs 0 en;obtain⟨y,Q⟩:=nm ((za1 (c.ws k).sent.rs 0 en).1);obtain⟨A,S⟩:=nm ((za1 (c.ws k).sent.rs 0 en).2);rw[Q]at aE;rw[S]at aF;have bj:Hid (R=if A≤y then(if (!(c.ws k).fin||(c.ws k).ending)||decide (en<L)then(false,c,d)else c.bytesR d k L L)else c.bytesR d k y A):=by
  show _=_;rw[bd.out,bS.out,Q,S,HL.out]
 rw[Q,S]at kg;have KG:=zb kg;clear kg Q S bd ks x1 x2 x3 w0 w7 af ah g0 c5 e4;go_upto_region 7 with fail
 go_cut [9,10] (fun lv hv o=>lv = .int .u64 (y:Int)∧hv = .int .u64 (A:Int)∧Hid (Mod NoB W.drew o))
 case first=>as_aux_lemma =>
  go_wp2_with (go_at_call 91;refine KG.out.mono ?_;rintro _ W2 ⟨rfl,m2⟩);go_meet;exact⟨rfl,rfl,m2⟩
 case rest =>
 obtain⟨rfl,rfl,m2⟩:=hcut;obtain⟨W2,aV⟩:=nn wc;subst aV;have S2:=zb (S1.out.mod0 m2.out);have w0:W2.cell? ⟨b,9+k*15,none⟩=some (.slice wa L n):=by
  rw[Nat.mul_comm k 15,←Y.out];exact S2.out.c.w (j:=0) hk rfl
 have w8:W2.cell? ⟨b,9+k*15+8,none⟩=some (.bool (c.ws k).finished):=by
  rw[Nat.mul_comm k 15];exact S2.out.c.w (j:=8) hk rfl
 have w9:W2.cell? ⟨b,9+k*15+9,none⟩=some (.bool (c.ws k).ending):=by
  rw[Nat.mul_comm k 15];exact S2.out.c.w (j:=9) hk rfl
 have bk:W2.cell? ⟨b,9+k*15+10,none⟩=some (.bool cu):=m2.out.cell (a:=⟨b,_,none⟩) id X;obtain⟨fi,ak⟩:=nm ((c.ws k).fin);obtain⟨fq,aW⟩:=nm ((c.ws k).finished);have bT:Hid ((fq && !cu)=fi):=by
  show _=_;rw[←aW,←bR.out,←ak];rfl
 obtain⟨eg,al⟩:=nm ((c.ws k).ending);have bU:=zb ak;have am:=zb al;have F:=bj.out;rw[ak,al]at F;rw[aW]at w8;rw[al]at w9;replace F:=zb F;have M2:=zb m2.out;have x1:IntKind.u64.wrap (L:Int)=(L:Int):=by rw[IntKind.wrap_u64];omega
 clear ak aW al bj m2 X;go_upto_region 9 with fail
 go_cut [12] (fun fv o=>fv = .bool fi∧o=W2)
 case first=>as_aux_lemma =>
  cases fq;all_goals
   cases cu;all_goals
    have bm:=bT.out;subst bm;go_wp2_with fail;go_meet;exact⟨rfl,rfl⟩
 case rest =>
 obtain⟨rfl,T⟩:=hcut;obtain⟨W2,aV⟩:=nn wc;subst aV;subst T;go_upto_if 98 with fail
 go_cut [9,10] (fun lv hv o=>∃lo hi:Nat,lv = .int .u64 (lo:Int)∧hv = .int .u64 (hi:Int)∧o=W2∧lo≤hi∧hi≤L∧Hid (R=c.bytesR d k lo hi))
 case first=>as_aux_lemma =>
  by_cases an:A≤y
  ·have H:Hid (R=if (!fi||eg)||decide (en<L)then(false,c,d)else c.bytesR d k L L):=by
    show _=_;rw[F.out,if_pos an]
   have d1:(A:Int)≤y:=by omega
   clear an F;cases fi
   ·have D:Hid (R=(false,c,d)):=by
     show _=_;rw[H.out];simp
    clear H;go_wp2_with fail;go_ret;rw[D.out];exact S2.out.post false
   ·cases eg
    ·by_cases ao:en<L
     ·have D:Hid (R=(false,c,d)):=by
       show _=_;rw[H.out];simp[ao]
      have d2:(en:Int)<L:=by omega
      clear H ao;go_wp2_with fail;go_ret;rw[D.out];exact S2.out.post false
     ·have D:Hid (R=c.bytesR d k L L):=by
       show _=_;rw[H.out];simp[ao]
      have d2:¬(en:Int)<L:=by omega
      clear H ao;go_wp2_with fail;go_meet;exact⟨L,L,rfl,rfl,rfl,Nat.le_refl _,Nat.le_refl _,D⟩
    ·have D:Hid (R=(false,c,d)):=by
      show _=_;rw[H.out];simp
     clear H;go_wp2_with fail;go_ret;rw[D.out];exact S2.out.post false
  ·have D:Hid (R=c.bytesR d k y A):=by
    show _=_;rw[F.out,if_neg an]
   have d1:¬(A:Int)≤y:=by omega
   have bV:y≤A:=by omega
   clear an F;go_wp2_with fail;go_meet;exact⟨y,A,rfl,rfl,rfl,bV,by omega,D⟩
 case rest =>
 obtain⟨lo,hi,rfl,rfl,T,bW,hhL,bn⟩:=hcut;clear F;have T:=T.symm;subst T;obtain⟨f0,bo⟩:=nm ((fi&&hi==L));have ap:=zb bo;clear bo;obtain⟨W3,aq⟩:=nm (W2.alloc (.cells (zj (zby k lo f0 []) (.slice none 0 0)) 65));go_upto_region 14 with fail
 go_cut [13] (fun pv o=>pv = .pointer (some ⟨W2.heap.size,0,none⟩)∧o=W3)
 case first=>as_aux_lemma =>
  have hd:W3=W2.alloc (.cells #[.int .i64 4,.int .i64 (k:Int),.int .u64 (lo:Int),.int .u64 0,.int .u64 0,.bool f0,.int .u64 0,.int .u64 0,.string ⟨#[]⟩,.slice none 0 0] 65):=aq.symm;have aX:=zb hd;clear hd;cases fi
  ·have t:f0=false:=by rw[←ap.out];rfl
   subst t;go_wp2_with fail;go_meet;exact⟨rfl,aX.out.symm⟩
  ·by_cases e:hi=L
   ·have t:f0=true:=by rw[←ap.out,e];simp
    have e1:((hi:Int)==(L:Int))=true:=by rw[e];simp
    subst t;clear e;go_wp2_with fail;go_meet;exact⟨rfl,aX.out.symm⟩
   ·have t:f0=false:=by rw[←ap.out];simp[e]
    have e1:((hi:Int)==(L:Int))=false:=beq_eq_false_iff_ne.2 (by omega);subst t;clear e;go_wp2_with fail;go_meet;exact⟨rfl,aX.out.symm⟩
 case rest =>
 obtain⟨rfl,T⟩:=hcut;obtain⟨W4,bX⟩:=nn wc;subst bX;subst T;have bp:Mod NoB W2 W4:=by rw[←aq];exact(Mod.refl _ _).alloc _
 have oF:W4.heap[W2.heap.size]?=some (.cells (zj (zby k lo f0 []) (.slice none 0 0)) 65 (0,0)):=by rw[←aq];exact heap_alloc_new W2 _
 have S4:=zb (S2.out.mod0 bp);have OF:=zb oF;obtain⟨s,hs⟩:=nm (((c.ws k).b.drop lo).take (hi-lo));have bY:s.length=hi-lo:=by
  rw[←hs,List.length_take,List.length_drop,HL.out];omega
 have I:BR W4 (.slice wa L n) (c.ws k).b:=by
  have:=(S4.out.c.wb k hk).br;rw[Y.out]at this;exact this
 have bq:L≤n∧n≤9223372036854775807:=by
  obtain⟨a',c',e,q1,q2,_⟩:=I;cases e;rw[HL.out]at q1;unfold maxLen at q2;exact⟨q1,by omega⟩
 obtain⟨bZ,b0⟩:=bq;rw[←HL.out]at I;have aa:(convert 60 9 (.slice (wa.map fun x=>x.add lo) (hi-lo) (n-lo))).run prog W4 = .ok (.string (zq s)) W4:=by
  rw[←hs];exact zbu (I.sub (by rw[HL.out];omega))
 have ab:∀a,(convert 60 9 (.slice a 0 0)).run prog W4 = .ok (.string (zq [])) W4:=fun a=>zbu (BR.nil _ a 0 (by unfold maxLen;omega))
 have bt:zS (zby k lo false s)=true:=by
  have e1:decide ((k:Int)<8)=true:=decide_eq_true (by omega);simp[zS,zaC,zir,zbB,zK,zby]
  and_intros<;>first|omega|exact decide_eq_true (by omega)
 have bu:=zcd (zby k lo false s) rfl;have aY:(zby k lo false s).data.length=hi-lo:=bY;rw[aY]at bu;have aZ:=zd0 (.slice none 0 0) [] (zby k lo false s) (.slice none 0 0) W4 (OB.nil W4) (fun h=>absurd h (Nat.not_lt_zero _)) ⟨none,0,rfl,Nat.le_refl _,Nat.zero_le _,fun i hi=>absurd hi (Nat.not_lt_zero i)⟩ (Nat.zero_le _) (by rw[aY];omega) (Nat.zero_le _);rw[bt]at aZ;obtain⟨N,hN⟩:=nm ((zC (zby k lo false s)).length);rw[hN]at bu;have D:=zb hN;have b7:=zb hs;have bw:=zb aZ;have w0:W4.cell? ⟨b,9+k*15,none⟩=some (.slice wa L n):=by
  rw[Nat.mul_comm k 15,←Y.out];exact S4.out.c.w (j:=0) hk rfl
 have x1:=wu ((hi:Int)-lo) (by omega);have x2:IntKind.i64.wrap ((hi:Int)-lo)=(hi:Int)-lo:=IntWalk.i64_in _ (by omega);have x3:IntKind.i64.wrap ((N:Int)-((hi:Int)-lo))=(N:Int)-((hi:Int)-lo):=IntWalk.i64_in _ (by omega);clear hs hN aZ I w8 w9 bk aq oF aE aF b2 b3 b4 b5 bh bt aY bp;go_upto_region 15 with fail
 go_cut [14] (fun hv o=>hv = .int .i64 ((N:Int)-((hi:Int)-lo))∧Hid (Mod NoB W4 o))
 case first=>as_aux_lemma =>
  by_cases hc:lo=n
  ·have a0:hi=lo:=by omega
   subst a0;have a1:s=[]:=List.eq_nil_of_length_eq_zero (by omega);subst a1;subst hc;go_wp2_with (go_at_call 144;refine bw.out.mono ?_;intro e W5 ac;obtain⟨va,vc,rfl,m5⟩:=zdC ac D.out;have M5:=zb m5;clear ac m5);all_goals
    go_meet;exact⟨by congr 1;omega,M5⟩
  ·have b8:¬n=lo:=fun h=>hc h.symm
   go_wp2_with (go_at_call 144;refine bw.out.mono ?_;intro e W5 ac;obtain⟨va,vc,rfl,m5⟩:=zdC ac D.out;have M5:=zb m5;clear ac m5);all_goals
    go_meet;exact⟨rfl,M5⟩
 case rest =>
 obtain⟨rfl,m4⟩:=hcut;obtain⟨W5,b9⟩:=nn wc;subst b9;have S5:=zb (S4.out.mod0 m4.out);have ca:=zb (m4.out.obj (fun x=>x) OF.out);obtain⟨cy,a2,bz,l5,D5⟩:∃(t5:Nat→Nat×Nat) (a2 bz:Value) (l5:List (Frm×Value)),Hid (zah t5 i db d a2 bz l5 W5):=⟨_,_,_,_,S5.out.d⟩;have t:W5.cell? ⟨db,0,none⟩=some a2:=za D5.out.obj rfl;have e2:W5.cell? ⟨db,2,none⟩=some (.int .i64 (d.room:Int)):=za D5.out.obj rfl;obtain⟨ba,bc,bA,_⟩:=zi D5.out.ob;rw[bA]at t;obtain⟨B,hB⟩:=nm d.b.length;obtain⟨Rm,ar⟩:=nm d.room;have J:Hid (zeS c d k lo hi=(Rm:Int)-4-B-((N:Int)-((hi:Int)-lo))):=by
  show _=_;rw[zeS,b7.out,D.out,hB,ar]
 rw[hB]at t bO;rw[ar]at e2 bQ;have HB:=zb hB;have HRm:=zb ar;have y1:IntKind.i64.wrap ((Rm:Int)-4)=(Rm:Int)-4:=IntWalk.i64_in _ (by omega);have y2:IntKind.i64.wrap ((Rm:Int)-4-B)=(Rm:Int)-4-B:=IntWalk.i64_in _ (by omega);have y3:IntKind.i64.wrap ((Rm:Int)-4-B-((N:Int)-((hi:Int)-lo)))=(Rm:Int)-4-B-((N:Int)-((hi:Int)-lo)):=IntWalk.i64_in _ (by omega);clear bA hB ar w0 ab aa x3;go_upto_region 16 with fail
 go_cut [15] (fun rv o=>rv = .int .i64 (zeS c d k lo hi)∧Hid (Mod NoB W5 o))
 case first=>as_aux_lemma =>
  go_quiet (fail);go_wp2_with fail;go_meet;exact⟨by rw[J.out],(Mod.refl NoB W5).drewN _⟩
 case rest =>
 obtain⟨rfl,m5⟩:=hcut;obtain⟨W6,cd⟩:=nn wc;subst cd;have S6:=zb (S5.out.mod0 m5.out);have au:=zb (m5.out.obj (fun x=>x) ca.out);obtain⟨z,hz⟩:=nm (zeS c d k lo hi);have HZ:=zb hz;have hzb : -2199023255552≤z∧z≤2199023255552:=by
  have:=J.out;rw[hz]at this;omega
 rw[hz];have M:Hid (R=if z<(hi:Int)-lo then(if z<1 then(false,c,{ d with full:=true })else c.bytesAdd d k lo (lo+z.toNat) false)else c.bytesAdd d k lo hi f0):=by
  show _=_;rw[bn.out,CS.bytesR,hz,bU.out,HL.out,ap.out]
 have bB:W.heap.size≤W2.heap.size:=S2.out.m.size;have e4:W6.cell? ⟨db,4,none⟩=some (.bool d.full):=za S6.out.d.obj rfl;have bC:∀j,W6.frozen? ⟨db,j,none⟩=false:=fun j=>zf S6.out.d.obj
 have ce:W6.cell? ⟨W2.heap.size,5,none⟩=some (.bool f0):=za au.out rfl;have ci:∀j,W6.frozen? ⟨W2.heap.size,j,none⟩=false:=fun j=>zf au.out
 have av:Hid (tag W2.heap.size=(0,0)):=zb (S2.out.e.out _ (Nat.le_refl _));clear hz bn m5 t e2 y1 y2 y3 J;go_upto_if 159 with fail
 go_cut [10] (fun hv o=>∃(f:Nat) (O:Bool),hv = .int .u64 (f:Int)∧lo≤f∧f≤hi∧Hid (R=c.bytesAdd d k lo f O)∧Hid (o.heap[W2.heap.size]?=some (.cells (zj (zby k lo O []) (.slice none 0 0)) 65 (0,0)))∧Hid (Mod (fun g=>g=W2.heap.size) W6 o))
 case first=>as_aux_lemma =>
  by_cases a3:z<(hi:Int)-lo
  ·by_cases bD:z<1
   ·have C:Hid (R=(false,c,{ d with full:=true })):=by
     show _=_;rw[M.out,if_pos a3,if_pos bD]
    clear M;go_wp2_with fail;go_ret;rw[C.out];exact S6.out.setFull.post false
   ·have C:Hid (R=c.bytesAdd d k lo (lo+z.toNat) false):=by
     show _=_;rw[M.out,if_pos a3,if_neg bD]
    have z1:IntKind.u64.wrap z=z:=by rw[IntKind.wrap_u64];omega
    have z2:=wu ((lo:Int)+z) (by omega);have cj:Hid ((W6.setCell ⟨W2.heap.size,5,none⟩ (.bool false)).heap[W2.heap.size]?=some (.cells (zj (zby k lo false []) (.slice none 0 0)) 65 (0,0))):=by
     show _=_;rw[zc au.out];rfl
    clear M;go_wp2_with fail;go_meet;exact⟨lo+z.toNat,false,by congr 1;omega,by omega,by omega,C,cj,(Mod.refl (fun g=>g=W2.heap.size) _).setCell (p:=⟨W2.heap.size,5,none⟩) (.inl rfl) _⟩
  ·have C:Hid (R=c.bytesAdd d k lo hi f0):=by
    show _=_;rw[M.out,if_neg a3]
   clear M;go_wp2_with fail;go_meet;exact⟨hi,f0,rfl,bW,Nat.le_refl _,C,au,Mod.refl _ _⟩
 case rest =>
 obtain⟨f,O,rfl,hl2,hh2,bE,a4,m7⟩:=hcut;obtain⟨W7,ck⟩:=nn wc;subst ck;have S7:=zb (S6.out.free m7.out (fun g hg=>by
  have hg:g=W2.heap.size:=hg;rw[hg];exact⟨av.out,bB⟩))
 obtain⟨s2,aw⟩:=nm (((c.ws k).b.drop lo).take (f-lo));have bF:s2.length=f-lo:=by
  rw[←aw,List.length_take,List.length_drop,HL.out];omega
 have I:BR W7 (.slice wa L n) (c.ws k).b:=by
  have:=(S7.out.c.wb k hk).br;rw[Y.out]at this;exact this
 rw[←HL.out]at I;have aa:(convert 60 9 (.slice (wa.map fun x=>x.add lo) (f-lo) (n-lo))).run prog W7 = .ok (.string (zq s2)) W7:=by
  rw[←aw];exact zbu (I.sub (by rw[HL.out];omega))
 have ab:∀a,(convert 60 9 (.slice a 0 0)).run prog W7 = .ok (.string (zq [])) W7:=fun a=>zbu (BR.nil _ a 0 (by unfold maxLen;omega))
 have w0:W7.cell? ⟨b,9+k*15,none⟩=some (.slice wa L n):=by
  rw[Nat.mul_comm k 15,←Y.out];exact S7.out.c.w (j:=0) hk rfl
 have v8:W7.cell? ⟨W2.heap.size,8,none⟩=some (.string ⟨#[]⟩):=za a4.out rfl;have co:∀j,W7.frozen? ⟨W2.heap.size,j,none⟩=false:=fun j=>zf a4.out
 obtain⟨W8,ax⟩:=nm (W7.setCell ⟨W2.heap.size,8,none⟩ (.string (zq s2)));have a5:Hid (zh W8 W2.heap.size (zby k lo O s2) (.slice none 0 0)):=by
  show _=_;rw[←ax,zc a4.out];rfl
 have S8:=zb (S7.out.free (show Mod (fun g=>g=W2.heap.size) W7 W8 by rw[←ax];exact(Mod.refl (fun g=>g=W2.heap.size) _).setCell (p:=⟨W2.heap.size,8,none⟩) (.inl rfl) _) (fun g hg=>by
  have hg:g=W2.heap.size:=hg;rw[hg];exact⟨av.out,bB⟩))
 have cp:=zb aw;have bG:=zb ax;clear aw I ax ce ci e4 bC M;go_upto_region 23 with fail
 go_cut [] (fun o=>o=W8)
 case first=>as_aux_lemma =>
  by_cases hc:lo=n
  ·have a0:f=lo:=by omega
   subst a0;have a1:s2=[]:=List.eq_nil_of_length_eq_zero (by omega);subst a1;subst hc;go_wp2_with fail;all_goals
    go_meet;exact bG.out
  ·have b8:¬n=lo:=fun h=>hc h.symm
   go_wp2_with fail;all_goals
    go_meet;exact bG.out
 case rest =>
 have T:=hcut.symm;subst T;clear ab aa w0 v8 co hcut;have cq:(zby k lo O s2).Fits:=zhr hk (by omega) (by rw[bF];unfold zD;omega);have aG:=zcO S8.out.d S8.out.ok S8.out.p (zby k lo O s2) cq (by rw[HB.out];omega) bP;obtain⟨dn,a6⟩:=nm (d.add (zby k lo O s2));have ay:=zb a6;have az:Hid (R=c.bytesGot d k lo f O dn):=by
  show _=_;rw[bE.out,ziV,cp.out,a6]
 have aH:=zb aG;obtain⟨y0,y1,y2,y3,y4,y5,y6,y7,y8,y9⟩:=a5.out.cells;have cv:W2.heap.size<W8.heap.size:=(Array.getElem?_eq_some_iff.1 a5.out).1;clear aG a6 bE;cases dn with
 | none=>as_aux_lemma =>
  go_wp2_with fail;refine aH.out.mono ?_;intro e W9 hd;obtain⟨rfl,ad,bH,bI,l9,u,_,_⟩:=S8.out.add2 hd;rw[ay.out]at u;rw[ay.out];clear hd;have e4:W9.cell? ⟨db,4,none⟩=some (.bool d.full):=za u.d.obj rfl;have bC:∀j,W9.frozen? ⟨db,j,none⟩=false:=fun j=>zf u.d.obj
  have u:=zb u;have C:Hid (R=(false,c,{ d with full:=true })):=az.out;clear az y0 y1 y2 y3 y4 y5 y6 y7 y8 y9;go_wp2_with fail;go_ret;rw[C.out];exact u.out.setFull.post false
 | some d1 =>
  go_wp2_with fail;refine aH.out.mono ?_;intro e W9 hd;obtain⟨rfl,ad,bH,bI,l9,u,bJ,bK⟩:=S8.out.add2 hd;rw[ay.out]at u;rw[ay.out];have cz:=S8.out.p;have aA:zh W9 W2.heap.size (zby k lo O s2) (.slice none 0 0):=bK.obj (fun⟨r,hr,hx⟩=>by
   rw[av.out]at hx;simp at hx;omega) a5.out
  have aB:ad W2.heap.size=(0,0):=by rw[bJ _ cv,av.out]
  have C:Hid (R=(true,{ c with ws:=upd c.ws k { c.ws k with sent:=if lo<f then(c.ws k).sent.add lo (f-1)else(c.ws k).sent,ending:=(c.ws k).ending||O,high:=max (c.ws k).high f } },d1)):=az.out;clear hd az y0 y1 y2 y3 y4 y5 y6 y7 y8 y9 bK bJ;have bL:∀(tx:Nat→Nat×Nat) (Vx:CV) (WX:World) (sn:zaI),sn=(if lo<f then(c.ws k).sent.add lo (f-1)else(c.ws k).sent)→zJ tag i b db W { c with ws:=upd c.ws k { c.ws k with sent:=sn } } d1 tx Vx bH bI l9 WX→za9 tag i b db W R.2.1 R.2.2 R.1 (.returned (.bool true)) ((WX.setCell ⟨b,9+k*15+9,none⟩ (.bool ((c.ws k).ending||O))).setCell ⟨b,9+k*15+7,none⟩ (.int .u64 ((max (c.ws k).high f:Nat):Int))):=fun tx Vx WX sn cw SX=>by
   have G:=SX.sentHigh hk ((c.ws k).ending||O) (max (c.ws k).high f);simp only[zdj,ze]at G;rw[C.out];rw[Nat.mul_comm 15 k]at G;rw[cw]at G;exact G.post true
  have aI:=zb bL;have u:=zb u;have aA:=zb aA;clear bL;obtain⟨h7,bM⟩:=nm ((c.ws k).high);have aC:=zb bM;clear bM;by_cases aD:lo<f
  ·as_aux_lemma =>
   have ka:=zco (c.ws k).sent b (9+15*k+1) lo (f-1) (V.ws k) W9 (u.out.c.sentAt hk OK.out.rl) OK.out.wf (by omega) (by omega) (by have:=OK.out.fl;unfold zD at this;omega) (fun x=>zg.apart u.out.c.tb (u.out.c.tws k hk b x) (by omega) rfl) OK.out.most.1 (by have:=OK.out.most.2;omega);rw[Nat.mul_comm 15 k]at ka;have KA:=zb ka;have d1:(lo:Int)<f:=by omega
   have y1:IntKind.u64.wrap ((f:Int)-1)=((f-1:Nat):Int):=by rw[IntKind.wrap_u64];omega
   have cx:=zb aD;clear ka aD;go_wp2_with fail;refine KA.out.mono ?_;intro e U ha;have a7:=ha;rw[Nat.mul_comm k 15]at a7;obtain⟨rfl,tx,Vx,SX⟩:=u.out.sentAdd hk a7 (zbm _ _ _);obtain⟨v',_,_,_,aJ,_⟩:=ha;have bN:¬(W2.heap.size=b∨(V.ws k).ownBlock=some W2.heap.size):=by
    rintro(x|x)
    ·rw[x,u.out.c.tb]at aB;simp at aB
    ·rw[u.out.c.tws k hk _ x]at aB;simp at aB
   have aK:zh U W2.heap.size (zby k lo O s2) (.slice none 0 0):=aJ.obj bN aA.out;have w9:U.cell? ⟨b,9+k*15+9,none⟩=some (.bool eg):=by
    rw[Nat.mul_comm k 15,←am.out];exact SX.c.w (j:=9) hk (by simp only[ze];rfl)
   have w7:U.cell? ⟨b,9+k*15+7,none⟩=some (.int .u64 (h7:Int)):=by
    rw[Nat.mul_comm k 15,←aC.out];exact SX.c.w (j:=7) hk (by simp only[ze];rfl)
   have wf:∀p,U.frozen? ⟨b,p,none⟩=false:=fun p=>SX.c.fz p
   have v5:U.cell? ⟨W2.heap.size,5,none⟩=some (.bool O):=aK.cells.2.2.2.2.2.1;have G:=aI.out tx Vx U _ (by rw[if_pos cx.out]) SX;rw[am.out,aC.out]at G;clear a7 SX aJ aK bN;rcases Nat.lt_trichotomy h7 f with hx|hx|hx;all_goals
    first
     | (have P:max h7 f=f:=by omega)
     | (have P:max h7 f=h7:=by omega)
    rw[P]at G;have HG:=zb G;clear G P;cases eg;all_goals
     go_wp2_with fail;all_goals first
      | (exfalso;omega)
      | (go_ret;exact HG.out)
      | (go_ret;subst hx;exact HG.out)
  ·as_aux_lemma =>
   have d1:¬(lo:Int)<f:=by omega
   have w9:W9.cell? ⟨b,9+k*15+9,none⟩=some (.bool eg):=by
    rw[Nat.mul_comm k 15,←am.out];exact u.out.c.w (j:=9) hk rfl
   have w7:W9.cell? ⟨b,9+k*15+7,none⟩=some (.int .u64 (h7:Int)):=by
    rw[Nat.mul_comm k 15,←aC.out];exact u.out.c.w (j:=7) hk rfl
   have wf:∀p,W9.frozen? ⟨b,p,none⟩=false:=fun p=>u.out.c.fz p
   have v5:W9.cell? ⟨W2.heap.size,5,none⟩=some (.bool O):=aA.out.cells.2.2.2.2.2.1;have G:=aI.out ad V W9 _ (by rw[if_neg aD]) (by
    have:=u.out;have e:{ c with ws:=upd c.ws k { c.ws k with sent:=(c.ws k).sent } }=c:=by
     show{ c with ws:=upd c.ws k (c.ws k) }=c;rw[zaB]
    rw[e];exact this)
   rw[am.out,aC.out]at G;clear aD;rcases Nat.lt_trichotomy h7 f with hx|hx|hx;all_goals
    first
     | (have P:max h7 f=f:=by omega)
     | (have P:max h7 f=h7:=by omega)
    rw[P]at G;have HG:=zb G;clear G P;cases eg;all_goals
     go_wp2_with fail;all_goals first
      | (exfalso;omega)
      | (go_ret;exact HG.out)
      | (go_ret;subst hx;exact HG.out)
def zM(fn:Nat→Value)(l:List Nat):List Value:=l.flatMap fun(c:Nat)=>[Value.int .i64 (c:Int),fn c]
theorem ziX(fn:Nat→Value)(l:List Nat){c:Nat}(h:l[i]?=some c):(zM fn l)[i*2]?=some (.int .i64 (c:Int))∧(zM fn l)[i*2+1]?=some (fn c):=by
 induction l generalizing i with
 | nil=>cases h
 | cons x l ih =>
  have e:zM fn (x::l) = .int .i64 (x:Int)::fn x::zM fn l:=rfl;cases i with
  | zero =>
   cases h;exact⟨rfl,rfl⟩
  | succ i =>
   have:=ih (i:=i) h;rw[e,show(i+1)*2=i*2+1+1 by omega];exact this
theorem zbR(fn:Nat→Value)(l:List Nat):(zM fn l).length=l.length*2:=by
 induction l with
 | nil=>rfl
 | cons x l ih =>
  have e:zM fn (x::l) = .int .i64 (x:Int)::fn x::zM fn l:=rfl;rw[e,List.length_cons,List.length_cons,ih,List.length_cons];omega
structure zam(sb:Nat)(fn:Nat→Value)(l:List Nat)(g cap:Nat)(W:World):Prop where
 obj:W.heap[sb]?=some (.cells #[.slice (some ⟨g,0,none⟩) l.length cap] 268 (0,0))
 own:W.ownsRow 0 266 2 (.slice (some ⟨g,0,none⟩) l.length cap) l.length (zM fn l)
 ne:g≠sb
 small:l.length≤1024
 fns:∀c,∃f a b,fn c = .func f a b
variable{cap sb:Nat}{fn:Nat→Value}
theorem zam.at_{l:List Nat}(h:zam sb fn l g cap W){c:Nat}(hi:l[i]?=some c):W.cell? ⟨g,i*2,none⟩=some (.int .i64 (c:Int))∧W.cell? ⟨g,i*2+1,none⟩=some (fn c):=by
 obtain⟨h1,h2⟩:=ziX fn l hi;have a:=h.own.cells (g:=g) rfl _ _ h1;have b:=h.own.cells (g:=g) rfl _ _ h2;rw[zU,Nat.zero_add]at a b;exact⟨a,b⟩
theorem zam.mod{l:List Nat}(h:zam sb fn l g cap W)(m:Mod S W W')(h1:¬S sb)(h2:¬S g):zam sb fn l g cap W' :=
 ⟨m.obj h1 h.obj,m.owns h.own (fun q a x=>by
  have a:g=q:=by simpa [Value.ownBlock]using a
  rw[←a]at x;exact h2 x),h.ne,h.small,h.fns⟩
theorem zgF(a:Option Addr)(n cap:Nat)(w:World):Calls prog 150 #[.slice a n cap] w fun e w'=>e = .returned (.int .i64 (n:Int))∧w=w':=by
 go_enter func150,ntmps150;go_wp2_with fail;go_ret;exact⟨rfl,rfl⟩
theorem zcP{l:List Nat}(h:zam sb fn l g cap W){x y:Nat}(hi:l[i]?=some x)(hk:l[k]?=some y):Calls prog 245 #[.slice (some ⟨g,0,none⟩) l.length cap,.int .i64 (i:Int),.int .i64 (k:Int)] W fun e w'=>e = .returned (.bool (decide (x<y)))∧Mod NoB W w':=by
 obtain⟨a1,_⟩:=h.at_ hi;obtain⟨b1,_⟩:=h.at_ hk;have hil:(i:Int)<l.length:=by have:=(List.getElem?_eq_some_iff.1 hi).1;omega
 have hkl:(k:Int)<l.length:=by have:=(List.getElem?_eq_some_iff.1 hk).1;omega
 have hi0:(0:Int)≤i:=by omega
 have hk0:(0:Int)≤k:=by omega
 clear h hi hk;go_enter func245,ntmps245;go_wp2_with fail;go_quiet (fail);go_wp2_with fail;go_ret;exact⟨by simp,(Mod.refl NoB _).drewN _⟩
theorem zgG(h:w.ownsRow 0 e sz (.slice (some ⟨g,0,none⟩) n cap) n xs)(hj:j<xs.length)(u:Value):(w.setCell ⟨g,j,none⟩ u).ownsRow 0 e sz (.slice (some ⟨g,0,none⟩) n cap) n (xs.set j u):=by
 obtain⟨h0,h1⟩:=h;refine⟨by rw[List.length_set];exact h0,?_⟩;rcases h1 with⟨hx,_⟩|⟨g',a,cur,hv,hb,hg,hn,hm,hs,ht⟩
 ·cases hx
 ·cases hv;refine .inr ⟨g,cap,_,rfl,hb,zc hg,hn,hm,by simpa using hs,?_⟩;rw[Array.toList_setIfInBounds,List.take_set,ht]
theorem zek(fn:Nat→Value)(l:List Nat)(i y:Nat):((zM fn l).set (i*2) (.int .i64 (y:Int))).set (i*2+1) (fn y)=zM fn (l.set i y):=by
 induction l generalizing i with
 | nil=>rfl
 | cons x l ih =>
  have e:∀x l,zM fn (x::l) = .int .i64 (x:Int)::fn x::zM fn l:=fun _ _=>rfl
  cases i with
  | zero=>rfl
  | succ i =>
   rw[e,show(i+1)*2=i*2+1+1 by omega];simp only[List.set_cons_succ];rw[e,ih i]
def zcp(l:List Nat)(i k:Nat):List Nat:=(l.set i (l.getD k 0)).set k (l.getD i 0)
theorem zdD{l:List Nat}(h:zam sb fn l g cap W){x y:Nat}(hi:l[i]?=some x)(hk:l[k]?=some y):Calls prog 248 #[.slice (some ⟨g,0,none⟩) l.length cap,.int .i64 (i:Int),.int .i64 (k:Int)] W fun e w'=>e = .returned (.tuple #[])∧zam sb fn (zcp l i k) g cap w'∧Mod (fun q=>q=g) W w':=by
 have a:=zb h;obtain⟨a1,a2⟩:=h.at_ hi;obtain⟨b1,z⟩:=h.at_ hk;have hil:(i:Int)<l.length:=by have:=(List.getElem?_eq_some_iff.1 hi).1;omega
 have f:(k:Int)<l.length:=by have:=(List.getElem?_eq_some_iff.1 hk).1;omega
 have hi0:(0:Int)≤i:=by omega
 have n:(0:Int)≤k:=by omega
 have hfz:∀j,W.frozen? ⟨g,j,none⟩=false:=fun j=>by
  rcases h.own.2 with⟨hx,_⟩|⟨g',A,cur,hv,_,hg,_⟩
  ·cases hx
  ·cases hv;exact zf hg
 obtain⟨f1,v1,u1,o⟩:=h.fns x;obtain⟨f2,v2,u2,r⟩:=h.fns y;rw[o]at a2;rw[r]at z;have s:=zb o;have d:=zb r;have B:=hi;have C:=hk;have t:=zb B;have u:=zb C;clear h hi hk B C o r;have fin:∀W',W'=(((W.setCell ⟨g,i*2,none⟩ (.int .i64 (y:Int))).setCell ⟨g,i*2+1,none⟩ (fn y)).setCell ⟨g,k*2,none⟩ (.int .i64 (x:Int))).setCell ⟨g,k*2+1,none⟩ (fn x)→zam sb fn (zcp l i k) g cap W'∧Mod (fun q=>q=g) W W':=by
  rintro W' rfl;have hl:(zcp l i k).length=l.length:=by simp[zcp]
  have m:Mod (fun q=>q=g) W ((((W.setCell ⟨g,i*2,none⟩ (.int .i64 (y:Int))).setCell ⟨g,i*2+1,none⟩ (fn y)).setCell ⟨g,k*2,none⟩ (.int .i64 (x:Int))).setCell ⟨g,k*2+1,none⟩ (fn x)) :=
   ((((Mod.refl (fun q=>q=g) W).setCell (p:=⟨g,i*2,none⟩) (.inl rfl) _).setCell (p:=⟨g,i*2+1,none⟩) (.inl rfl) _).setCell (p:=⟨g,k*2,none⟩) (.inl rfl) _).setCell (p:=⟨g,k*2+1,none⟩) (.inl rfl) _
  have D:=(List.getElem?_eq_some_iff.1 t.out).1;have E:=(List.getElem?_eq_some_iff.1 u.out).1;have sl:=zbR fn l;have o1:=zgG a.out.own (j:=i*2) (by omega) (.int .i64 (y:Int));have G:=zgG o1 (j:=i*2+1) (by rw[List.length_set];omega) (fn y);rw[zek]at G;have v:=zbR fn (l.set i y);rw[List.length_set]at v;have o3:=zgG G (j:=k*2) (by omega) (.int .i64 (x:Int));have H:=zgG o3 (j:=k*2+1) (by rw[List.length_set];omega) (fn x);rw[zek]at H;have e:zcp l i k=(l.set i y).set k x:=by
   simp[zcp,List.getD_eq_getElem?_getD,t.out,u.out]
  refine⟨⟨?_,?_,a.out.ne,by rw[hl];exact a.out.small,a.out.fns⟩,m⟩
  ·rw[hl];exact m.obj (fun x=>a.out.ne x.symm) a.out.obj
  ·rw[hl,e];exact H
 have b:=zb fin;clear fin;by_cases c:i=k
 ·subst c;have w:x=y:=by
   have:=t.out;rw[u.out]at this;exact(Option.some.inj this).symm
  subst w;rw[s.out]at d;have HEY:=d;clear b1 z f n d;go_enter func248,ntmps248;go_wp2_with fail
  go_region
  go_wp2_with fail;refine bodyPost_end (results_none rfl _ _ _) rfl ⟨rfl,?_⟩;have F:=b.out _ rfl;rw[s.out]at F;exact⟨F.1.mod ((Mod.refl NoB _).drew) (fun x=>x) (fun x=>x),F.2.drew⟩
 ·have n1:¬i*2=k*2:=by omega
  have n2:¬k*2=i*2:=by omega
  have n3:¬i*2+1=k*2:=by omega
  have n4:¬k*2=i*2+1:=by omega
  have n5:¬k*2+1=i*2:=by omega
  have n6:¬i*2=k*2+1:=by omega
  clear c;go_enter func248,ntmps248;go_wp2_with fail
  go_region
  go_wp2_with fail;refine bodyPost_end (results_none rfl _ _ _) rfl ⟨rfl,?_⟩;have F:=b.out _ rfl;rw[s.out,d.out]at F;exact⟨F.1.mod ((Mod.refl NoB _).drew) (fun x=>x) (fun x=>x),F.2.drew⟩
def hI(sb:Nat):Value:=.iface 263 (.pointer (some ⟨sb,0,none⟩))
theorem zmG(c0:w.cell? ⟨sb,0,none⟩=some v)(f:FuncId):(do let v ←loadVar 268 ⟨sb,0,none⟩;pure (f,v):Sem (FuncId×Value)).run prog w = .ok (f,v) w:=by
 have e2:(isAgg 268).run prog w = .ok false w:=by kernel_rfl
 simp[loadVar,e2,c0,Result.andThen]
theorem zhs(c0:w.cell? ⟨sb,0,none⟩=some v):(method 451 263 (.pointer (some ⟨sb, 0, none⟩)) "Less").run prog w = .ok (245, v) w :=
 Eq.trans (show _=(do let v ←loadVar 268 ⟨sb,0,none⟩;pure (245,v):Sem (FuncId×Value)).run prog w by kernel_rfl) (zmG c0 _)
theorem zj5(c0:w.cell? ⟨sb,0,none⟩=some v):(method 451 263 (.pointer (some ⟨sb, 0, none⟩)) "Swap").run prog w = .ok (248, v) w :=
 Eq.trans (show _=(do let v ←loadVar 268 ⟨sb,0,none⟩;pure (248,v):Sem (FuncId×Value)).run prog w by kernel_rfl) (zmG c0 _)
theorem hmLen(c0:w.cell? ⟨sb,0,none⟩=some v):(method 451 263 (.pointer (some ⟨sb, 0, none⟩)) "Len").run prog w = .ok (150, v) w :=
 Eq.trans (show _=(do let v ←loadVar 268 ⟨sb,0,none⟩;pure (150,v):Sem (FuncId×Value)).run prog w by kernel_rfl) (zmG c0 _)
theorem hmPush(a:Nat)(w:World):(method 451 263 (.pointer (some ⟨a, 0, none⟩)) "Push").run prog w = .ok (247, .pointer (some ⟨a, 0, none⟩)) w := by kernel_rfl
theorem hmPop(a:Nat)(w:World):(method 451 263 (.pointer (some ⟨a, 0, none⟩)) "Pop").run prog w = .ok (246, .pointer (some ⟨a, 0, none⟩)) w := by kernel_rfl
theorem zam.c0{l:List Nat}(h:zam sb fn l g cap W):W.cell? ⟨sb,0,none⟩=some (.slice (some ⟨g,0,none⟩) l.length cap):=za h.obj rfl
theorem ziY:(prog.info? 266).map (fun i=>(i.zero,i.size,i.bytes))=some (some (.agg #[.int .i64 0,.nilFunc]),2,16):=by kernel_rfl
theorem happ{l:List Nat}(h:zam sb fn l g cap w)(c:Nat)(hl:l.length<1024):∃v' w' g' cap',(∀ty,(Builtin.append_ #[268,268] ty #[.slice (some ⟨g,0,none⟩) l.length cap,.slice (some ⟨w.heap.size,0,none⟩) 1 1]).run prog (w.alloc (.cells #[.int .i64 (c:Int),fn c] 266)) = .ok v' w') ∧
   v' = .slice (some ⟨g',0,none⟩) (l.length+1) cap'∧w'.ownsRow 0 266 2 v' (l.length+1) (zM fn (l++[c]))∧w.grownBy w' (some g)∧(g'=g∨w.heap.size≤g'):=by
 obtain⟨i,d,hz,e,f⟩:=info_parts ziY;have sl:=zbR fn l;obtain⟨f1,a1,b1,ef⟩:=h.fns c;have e1:zM fn [c]=[.int .i64 (c:Int),fn c]:=rfl;have a:∀(j:Nat) u,(zM fn [c])[j]?=some u→(w.alloc (.cells #[.int .i64 (c:Int),fn c] 266)).cell? ((⟨w.heap.size,0,none⟩:Addr).add j)=some u:=by
  intro j u hj;rw[zU];refine za (heap_alloc_new w _) ?_;rw[Nat.zero_add,←Array.getElem?_toList];exact hj
 have hg:g<w.heap.size:=by
  rcases h.own.2 with⟨n,_⟩|⟨g',cap',m,b,_,hg,_⟩
  ·cases n
  ·cases b;exact(Array.getElem?_eq_some_iff.1 hg).1
 obtain⟨v',w',h1,h2,h3,h4,h5⟩:=zau (P:=prog) (w.alloc (.cells #[.int .i64 (c:Int),fn c] 266)) 268 266 i _ 2 16 underlying268 d hz e f rfl (by decide) (.slice (some ⟨g,0,none⟩) l.length cap) l.length (zM fn l) (World.ownsRow.alloc h.own _)
  ⟨w.heap.size,0,none⟩ 1 1 (zM fn [c]) rfl a (by rw[e1,ef];intro u o;simp at o;rcases o with rfl|rfl<;>rfl) (by unfold maxLen;omega) (by omega)
 have e2:zM fn l++zM fn [c]=zM fn (l++[c]):=by simp[zM]
 rw[e2]at h2;rcases h2.2 with⟨n,hy⟩|⟨g',cap',m,b,hb,hg',p,hm,hs,ht⟩
 ·exact absurd hy (by omega)
 ·refine⟨v',w',g',cap',h1,b,h2,⟨h3.os,h3.tape,h3.output,Nat.le_trans (by simp) h3.size,fun k hk p=>(h3.block k (by simp;omega) p).trans (Below.heap_alloc w _ k hk)⟩,?_⟩;rcases h4 g' (by rw[b];rfl)with x|x
  ·left;have:g=g':=by simpa [Value.ownBlock]using x
   exact this.symm
  ·right;simp at x;omega
def zmH(a:Nat)(fn:Nat→Value)(l:List Nat)(c g:Nat)(W:World)(e:Ending)(w':World):Prop :=
 e = .returned (.tuple #[])∧∃g' cap',zam a fn (l++[c]) g' cap' w'∧(g'=g∨W.heap.size≤g')∧Mod (fun q=>q=a∨q=g) W w'
theorem zmI{l:List Nat}(h:zam sb fn l g cap W)(c:Nat)(hl:l.length<1024):Calls prog 247 #[.pointer (some ⟨sb,0,none⟩),.iface 266 (.agg #[.int .i64 (c:Int),fn c])] W (zmH sb fn l c g W):=by
 obtain⟨v',w',n,a,z,hv,f,r,b⟩:=happ (h.mod ((Mod.refl NoB W).drew) (fun x=>x) (fun x=>x)) c hl;subst hv;have d:Mod (fun q=>q=g) W w':=((Mod.refl (fun q=>q=g) W).drew).grown r (fun q k=>.inl (by simpa using k.symm));have s:w'.heap[sb]?=some (.cells #[.slice (some ⟨g,0,none⟩) l.length cap] 268 (0,0)):=d.obj (fun x=>h.ne x.symm) h.obj;have hsb:sb<W.heap.size:=(Array.getElem?_eq_some_iff.1 h.obj).1;have m:n≠sb:=by
  rcases b with x|x
  ·rw[x];exact h.ne
  ·simp at x;omega
 have fin:zmH sb fn l c g W (.returned (.tuple #[])) (w'.setCell ⟨sb,0,none⟩ (.slice (some ⟨n,0,none⟩) (l.length+1) a)):=by
  have A:Mod (fun q=>q=sb) w' (w'.setCell ⟨sb,0,none⟩ (.slice (some ⟨n,0,none⟩) (l.length+1) a)):=(Mod.refl (fun q=>q=sb) _).setCell (p:=⟨sb,0,none⟩) (.inl rfl) _;refine⟨rfl,n,a,⟨?_,?_,m,by rw[List.length_append,List.length_singleton];omega,h.fns⟩,by simpa using b,(d.mono (fun _ x=>.inl (.inr x))).then A (fun _ k=>.inl (.inl k))⟩
  ·rw[zc s,List.length_append,List.length_singleton];rfl
  ·rw[List.length_append,List.length_singleton];exact A.owns f (fun q k x=>by
    have k:n=q:=by simpa [Value.ownBlock]using k
    exact m (k.trans x))
 have y:=zb fin;have HR:=zb z;have c0:=h.c0;have B:=zb h;have c1:w'.cell? ⟨sb,0,none⟩=some (.slice (some ⟨g,0,none⟩) l.length cap):=za s rfl;have t:=zb s;have f1:∀j,w'.frozen? ⟨sb,j,none⟩=false:=fun j=>zf s
 obtain⟨fa,fb,fc,u⟩:=h.fns c;have EFN:=zb u;clear fin z d s h f r b m c1 u;have hta:∀(v:Value) (w:World),(Instr.typeAssert (.iface 266 v) 20 266 false).run prog w = .ok v w:=fun _ _=>by kernel_rfl
 go_enter func247,ntmps247;go_wp2_with fail;refine zm 9 (fun w'=>w'.heap[sb]?=some (.cells #[.slice (some ⟨g,0,none⟩) l.length cap] 268 (0,0))) (B.out.obj) ?_;refine GI 0 ?_;iterate 6
  refine GS rfl ?_ ?_ ?_;rotate_left
  ·(intro wx e;(try dsimp only at e);have c0:=za (o:=0) e rfl;go_simp;try with_reducible rfl)
  try simp only[PS]
 refine zz 6 rfl (fun K i=>?_);go_simp;refine i.out _ _ (((Mod.refl NoB W).drew.alloc _).obj (fun x=>x) B.out.obj) ?_;clear i K;try simp only[PS]
 refine zz 7 rfl (fun K i=>?_);refine zO rfl _ _ _ _ rfl _ _ _ rfl rfl HR.out ?_;refine i.out _ _ t.out ?_;clear i K;try simp only[PS]
 refine GI 8 ?_;refine GS rfl ?_ ?_ ?_;rotate_left
 ·(intro wx e;(try dsimp only at e);have c0:=za (o:=0) e rfl;go_simp;try with_reducible rfl)
 try simp only[PS]
 have c1:w'.cell? ⟨sb,0,none⟩=some (.slice (some ⟨g,0,none⟩) l.length cap):=za t.out rfl;refine zW rfl (fun K i=>?_);go_simp;refine i.out _ _ ?_;clear i K;try simp only[PS]
 refine zo ?_;exact bodyPost_end (results_none rfl _ _ _) rfl y.out
variable{p:Nat}
theorem zmJ{l:List Nat}(h:zam sb fn l g cap W){x y:Nat}(a:l[j]?=some y)(hp:(j-1) / 2=p)(c:l[p]?=some x)(hle:x≤y)(h1:1≤j):Calls prog 198 #[hI sb,.int .i64 (j:Int)] W fun e W'=>e = .returned (.tuple #[])∧Mod NoB W W':=by
 have hjl:=(List.getElem?_eq_some_iff.1 a).1;have hs:=h.small;have q1:IntKind.i64.wrap ((j:Int)-1)=(j:Int)-1:=IntWalk.i64_in _ (by omega);have q2:((j:Int)-1).tdiv 2=(p:Int):=by
  rw[Int.tdiv_eq_ediv_of_nonneg (by omega)];omega
 have hne:((p:Int)==(j:Int))=false:=beq_eq_false_iff_ne.2 (by omega);have HH:=zb h;have HJ:=zb a;have HX:=zb c;clear h a c;unfold hI;go_enter func198,ntmps198;go_wp2_with fail
 go_loopw [1] (fun jv wr=>jv = .int .i64 (j:Int)∧Mod NoB W wr) (fun _ _=>0)
 case atStart=>exact⟨rfl,Mod.refl _ _⟩
 case round =>
  obtain⟨rfl,m⟩:=hrel;have h:=HH.out.mod m (fun x=>x) (fun x=>x);have hm:=zhs h.c0;have b:=zcP h HJ.out HX.out;have d:decide (y<x)=false:=by simp;omega
  rw[d]at b;have KL:=zb b;have M:=zb m;clear h b d m;go_wp2_with (refine KL.out.mono ?_;rintro e w2 ⟨rfl,f⟩;have M2:=zb f;clear f);exact bodyPost_end (results_none rfl _ _ _) rfl ⟨rfl,M.out.trans M2.out⟩
theorem zkX{l:List Nat}(h:zam sb fn l g cap W)(c:Nat)(hl:l.length<1024)(h1:1≤l.length)(b:∀x∈l,x≤c):Calls prog 147 #[hI sb,.iface 266 (.agg #[.int .i64 (c:Int),fn c])] W (zmH sb fn l c g W):=by
 have hm:=hmPush sb W;have n:=zmI h c hl;have KP:=zb n;have d:=zb b;clear h n b;unfold hI;go_enter func147,ntmps147;go_upto_region 1 with(refine KP.out.mono ?_;rintro e w2 ⟨rfl,o,a,h2,hg,q⟩;have i:=zb h2;have HG:=zb hg;have M2:=zb q;clear h2 hg q);have k:=hmLen i.out.c0;have r:=zgF (some ⟨o,0,none⟩) (l++[c]).length a w2;have m:(l++[c]).length=l.length+1:=by simp
 have HE1:=zb m;have f:(l.length-1) / 2<l.length:=by omega
 have s:=zmJ i.out (j:=l.length) (p:=(l.length-1) / 2) (x:=(l[(l.length-1) / 2]'f)) (y:=c) (by simp) rfl (by rw[List.getElem?_append_left f,List.getElem?_eq_getElem f]) (d.out _ (List.getElem_mem f)) h1;have q1:IntKind.i64.wrap (((l.length+1:Nat):Int)-1)=(l.length:Int):=by rw[IntWalk.i64_in _ (by omega)];omega
 have t:=zb s;unfold hI at t;rw[m]at k r;clear s hm m d;go_wp2_with (first|(refine r.mono ?_;rintro _ _ ⟨rfl,rfl⟩;(try simp only[q1]))|(refine t.out.mono ?_;rintro e w3 ⟨rfl,u⟩));exact bodyPost_end (results_none rfl _ _ _) rfl ⟨rfl,o,a,i.out.mod u (fun x=>x) (fun x=>x),HG.out,M2.out.trans (u.mono (fun _ x=>x.elim))⟩
theorem zmK(h:w.ownsRow 0 e sz (.slice (some ⟨g,0,none⟩) n cap) n xs)(hm:m≤n):w.ownsRow 0 e sz (.slice (some ⟨g,0,none⟩) m cap) m (xs.take (m*sz)):=by
 obtain⟨h0,h1⟩:=h;have a:m*sz≤n*sz:=Nat.mul_le_mul_right _ hm;refine⟨by rw[List.length_take];omega,?_⟩;rcases h1 with⟨hx,_⟩|⟨g',d,b,hv,hb,hg,hn,c,hs,ht⟩
 ·cases hx
 ·cases hv;exact .inr ⟨g,cap,b,rfl,hb,hg,by omega,c,hs,by rw[←ht,List.take_take,Nat.min_eq_left a]⟩
theorem zgH(fn:Nat→Value)(l:List Nat)(m:Nat):(zM fn l).take (m*2)=zM fn (l.take m):=by
 induction l generalizing m with
 | nil=>simp[zM]
 | cons x l ih =>
  have e:∀x l,zM fn (x::l) = .int .i64 (x:Int)::fn x::zM fn l:=fun _ _=>rfl
  cases m with
  | zero=>simp[zM]
  | succ m =>
   rw[e,show(m+1)*2=m*2+1+1 by omega];simp only[List.take_succ_cons];rw[e,ih m]
theorem zmL{l:List Nat}{c:Nat}(h:zam sb fn (l++[c]) g cap W):Calls prog 246 #[.pointer (some ⟨sb,0,none⟩)] W fun e w'=>e = .returned (.iface 266 (.agg #[.int .i64 (c:Int),fn c]))∧zam sb fn l g cap w'∧Mod (fun q=>q=sb) W w':=by
 have b:(l++[c]).length=l.length+1:=by simp
 have c0:=h.c0;obtain⟨k1,k2⟩:=h.at_ (i:=l.length) (c:=c) (by simp);have hs:=h.small;rw[b]at c0 hs;have hsb:sb<W.heap.size:=(Array.getElem?_eq_some_iff.1 h.obj).1;have hg:g<W.heap.size:=by
  rcases h.own.2 with⟨d,_⟩|⟨g',a,f,j,_,hg,_⟩
  ·cases d
  ·cases j;exact(Array.getElem?_eq_some_iff.1 hg).1
 have s:l.length+1≤cap:=by
  rcases h.own.2 with⟨d,_⟩|⟨g',a,f,j,_,hg,t,_⟩
  ·cases d
  ·cases j;rw[b]at t;exact t
 obtain⟨f1,a1,b1,k⟩:=h.fns c;have fin:∀w':World,Mod NoB W w'→zam sb fn l g cap (w'.setCell ⟨sb,0,none⟩ (.slice (some ⟨g,0,none⟩) l.length cap))∧Mod (fun q=>q=sb) W (w'.setCell ⟨sb,0,none⟩ (.slice (some ⟨g,0,none⟩) l.length cap)):=fun w' m=>by
  have u:=h.mod m (fun x=>x) (fun x=>x);have v:Mod (fun q=>q=sb) w' (w'.setCell ⟨sb,0,none⟩ (.slice (some ⟨g,0,none⟩) l.length cap)):=(Mod.refl (fun q=>q=sb) _).setCell (p:=⟨sb,0,none⟩) (.inl rfl) _;refine⟨⟨by rw[zc u.obj];rfl,?_,h.ne,by omega,h.fns⟩,(m.mono (fun _ x=>x.elim)).trans v⟩;have o:=zmK (m:=l.length) u.own (by rw[b];omega);rw[zgH,List.take_left]at o;exact v.owns o (fun q n x=>by
   have n:g=q:=by simpa [Value.ownBlock]using n
   exact h.ne (n.trans x))
 have r:=zb fin;have HE:=zb k;rw[k]at k2 ⊢;have HO:=zb h.obj;have q1:IntKind.i64.wrap ((l.length+1:Int)-1)=(l.length:Int):=by rw[IntWalk.i64_in _ (by omega)];omega
 have hfz:W.frozen? ⟨sb,0,none⟩=false:=zf h.obj;clear h fin k b;go_enter func246,ntmps246;go_wp2_with fail;go_ret;have F:=r.out W (Mod.refl _ _);exact⟨rfl,F.1.mod ((Mod.refl NoB _).alloc _) (fun x=>x) (fun x=>x),F.2.alloc _⟩
end Go.Proofs.YtddfdpbaiedcjaaGreatDoor
