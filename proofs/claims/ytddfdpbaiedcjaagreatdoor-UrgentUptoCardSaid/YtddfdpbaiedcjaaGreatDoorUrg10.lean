/- A part of Urgent's proof. Conditions: none. Part 10 of 32. -/
import Derived.Test.YtddfdpbaiedcjaaGreatDoorUrg6
import Derived.Test.YtddfdpbaiedcjaaGreatDoorUrg9
set_option maxRecDepth 100000
set_option maxHeartbeats 16000000
set_option linter.all false
namespace Go.Proofs.YtddfdpbaiedcjaaGreatDoor
open Go.RowKit
def zg1(b:Nat):Nat→Prop:=fun k=>k=b
theorem as_ff(e:Addr)(tb:Nat)(old:Value)(w:World)(hg:zd8 w)(b:w.cell? ⟨tb,0,none⟩=some old)(hf:w.frozen? ⟨tb,0,none⟩=false) :
  Calls Tryz.prog 75 #[.iface 162 (.pointer (some e)),.iface 164 (.pointer (some ⟨tb,0,none⟩))] w fun ev w'=>ev = .returned (.bool true)∧Mod (zg1 tb) w w'∧w'.cell? ⟨tb,0,none⟩=some (.pointer (some e)):=by
 refine(as_FF e ⟨tb,0,none⟩ old w hg b hf).mono ?_;rintro ev w' ⟨rfl,rfl⟩;have hl:=zk b;refine⟨rfl,(((((Mod.refl (zg1 tb) w).alloc _).alloc _).alloc _).alloc _).setCell (p:=⟨tb,0,none⟩) (.inl rfl) _,World.cell?_setCell_same _ _ _ ((((((Mod.refl NoB w).alloc _).alloc _).alloc _).alloc _).cell (a:=⟨tb,0,none⟩) (fun x=>x) b)⟩
theorem as_ee(n:Int)(tb:Nat)(old:Value)(w:World)(hg:zd8 w)(b:w.cell? ⟨tb,0,none⟩=some old)(hf:w.frozen? ⟨tb,0,none⟩=false) :
  Calls Tryz.prog 75 #[.iface 57 (.int .i64 n),.iface 168 (.pointer (some ⟨tb,0,none⟩))] w fun ev w'=>ev = .returned (.bool true)∧Mod (zg1 tb) w w'∧w'.cell? ⟨tb,0,none⟩=some (.int .i64 n):=by
 refine(as_EE n ⟨tb,0,none⟩ old w hg b hf).mono ?_;rintro ev w' ⟨rfl,rfl⟩;refine⟨rfl,(((((Mod.refl (zg1 tb) w).alloc _).alloc _).alloc _).alloc _).setCell (p:=⟨tb,0,none⟩) (.inl rfl) _,World.cell?_setCell_same _ _ _ ((((((Mod.refl NoB w).alloc _).alloc _).alloc _).alloc _).cell (a:=⟨tb,0,none⟩) (fun x=>x) b)⟩
theorem as_ef(n:Int)(tb:Nat)(old:Value)(w:World)(hg:zd8 w)(ht:w.cell? ⟨tb,0,none⟩=some old) :
  Calls Tryz.prog 75 #[.iface 57 (.int .i64 n),.iface 164 (.pointer (some ⟨tb,0,none⟩))] w fun ev w'=>ev = .returned (.bool false)∧Mod NoB w w':=by
 refine(as_EF n ⟨tb,0,none⟩ old w hg ht).mono ?_;rintro ev w' ⟨rfl,rfl⟩;exact⟨rfl,(((Mod.refl NoB w).alloc _).alloc _).alloc _⟩
theorem zd8.mod{S:Nat→Prop}{w w':World}(h:zd8 w)(m:Mod S w w')(hs:¬S 0):zd8 w':=m.cell (a:=⟨0,0,none⟩) hs h
def zfF(w:World)(n at_:Int)(e:Ending)(w':World):Prop:=e = .returned (.tuple #[.int .i64 n,.int .i64 at_])∧Mod NoB w w'
theorem zgg(w:World):Calls Tryz.prog 43 #[.nilIface] w (zfF w 0 (-1)):=by
 go_enter Tryz.func43,Tryz.ntmps43;go_wp2_with fail;go_ret2;exact⟨rfl,((Mod.refl _ _).alloc _).alloc _⟩
theorem zon(n:Int)(w:World):(binOp .eql 98 (.iface 57 (.int .i64 n)) .nilIface).run Tryz.prog w = .ok (.bool false) w:=by kernel_rfl
theorem zoo(p:Addr)(w:World):(binOp .eql 98 (.iface 162 (.pointer (some p))) .nilIface).run Tryz.prog w = .ok (.bool false) w:=by kernel_rfl
structure ToldAt(w W:World):Prop where
 o0:W.heap[w.heap.size]?=some (.cells #[.pointer none] 162 (0,0))
 o1:W.heap[w.heap.size+1]?=some (.cells #[.int .i64 0] 57 (0,0))
 m:Mod NoB w W
theorem zfG(w:World):ToldAt w ((w.alloc (.cells #[.pointer none] 162)).alloc (.cells #[.int .i64 0] 57)):=by
 have e1:(w.alloc (.cells #[.pointer none] 162)).heap.size=w.heap.size+1:=by simp
 refine⟨((Mod.refl NoB _).alloc _).obj (fun x=>x) (heap_alloc_new w _),?_,((Mod.refl NoB w).alloc _).alloc _⟩;rw[←e1];exact heap_alloc_new _ _
theorem zlQ(n:Int)(w:World)(hg:zd8 w):Calls Tryz.prog 43 #[.iface 57 (.int .i64 n)] w (zfF w n (-1)):=by
 have q0:=zon n;have a:=zfG w;obtain⟨W,b⟩:=nm ((w.alloc (.cells #[.pointer none] 162)).alloc (.cells #[.int .i64 0] 57));rw[b]at a;have hs:W.heap.size=w.heap.size+1+1:=by rw[←b];simp
 have h0:0<w.heap.size:=zk hg;have c:zd8 W:=hg.mod a.m (fun x=>x);have f:=as_ef n w.heap.size _ W c (za a.o0 rfl);have d:=zb a;have HG:=zb c;have HW:=zb b;have HS:=zb hs;clear a c b hs hg;go_enter Tryz.func43,Tryz.ntmps43;go_wp2_with fail;rw[HW.out];refine f.mono ?_;rintro e w1 ⟨rfl,m1⟩;have g:=as_ee n (w.heap.size+1) _ w1 (HG.out.mod m1 (fun x=>x)) (za (m1.obj (fun x=>x) d.out.o1) rfl) (zd (m1.obj (fun x=>x) d.out.o1));clear f;have M1:=zb m1;clear m1;go_wp2_with fail;refine g.mono ?_;rintro e w2 ⟨rfl,h,c2⟩;have k3:=is_EE n w2;have M2:=zb h;clear h g;go_wp2_with fail;refine k3.mono ?_;rintro e w3 ⟨rfl,rfl⟩;go_wp2_with fail;go_ret2;exact⟨rfl,(d.out.m.trans M1.out).then M2.out (fun k hk=>by unfold zg1 at hk;omega)⟩
theorem zpk(p:Nat)(n at_:Int)(w:World)(hg:zd8 w)(f:w.cell? ⟨p,0,none⟩=some (.int .i64 n))(c:w.cell? ⟨p,1,none⟩=some (.int .i64 at_)):Calls Tryz.prog 43 #[.iface 162 (.pointer (some ⟨p,0,none⟩))] w (zfF w n at_):=by
 have q0:=zoo ⟨p,0,none⟩;have b:=zfG w;obtain⟨W,g⟩:=nm ((w.alloc (.cells #[.pointer none] 162)).alloc (.cells #[.int .i64 0] 57));rw[g]at b;have hpl:=zk f;have h0:0<w.heap.size:=zk hg;have h:zd8 W:=hg.mod b.m (fun x=>x);have i:=as_ff ⟨p,0,none⟩ w.heap.size _ W h (za b.o0 rfl) (zd b.o0);have p0:W.cell? ⟨p,0,none⟩=some (.int .i64 n):=b.m.cell (a:=⟨p,0,none⟩) (fun x=>x) f;have p1:W.cell? ⟨p,1,none⟩=some (.int .i64 at_):=b.m.cell (a:=⟨p,1,none⟩) (fun x=>x) c;have HT:=zb b;have HW:=zb g;clear b h g hg;go_enter Tryz.func43,Tryz.ntmps43;go_wp2_with fail;rw[HW.out];refine i.mono ?_;rintro e w1 ⟨rfl,m1,c1⟩;have d:¬zg1 w.heap.size p:=by unfold zg1;omega
 have r0:=m1.cell (a:=⟨p,0,none⟩) d p0;have r1:=m1.cell (a:=⟨p,1,none⟩) d p1;have k3:=is_FE p n w1 r0;have M1:=zb m1;clear m1 i p0 p1 f c;go_wp2_with fail;refine k3.mono ?_;rintro e w3 ⟨rfl,rfl⟩;clear k3;go_wp2_with fail;go_quiet (fail);go_wp2_with fail;go_ret2;exact⟨rfl,(HT.out.m.then M1.out (fun k hk=>by unfold zg1 at hk;omega)).drewN _⟩
def zjG(w:World)(n:Int)(e:Ending)(w':World):Prop:=e = .returned (.int .i64 n)∧Mod NoB w w'
theorem zg2(v:Value)(n at_:Int)(w:World)(h:Calls Tryz.prog 43 #[v] w (zfF w n at_)):Calls Tryz.prog 53 #[v] w (zjG w n):=by
 go_enter Tryz.func53,Tryz.ntmps53;go_wp2_with fail;refine h.mono ?_;rintro e w1 ⟨rfl,m1⟩;go_wp2_with fail;go_ret;exact⟨rfl,m1⟩
def zdt(n:Nat):Value:=if n=0 then .nilIface else .iface 57 (.int .i64 (n:Int))
theorem zlR:zdt 0 = .nilIface:=rfl
theorem zbZ{n:Nat}(h:n≠0):zdt n = .iface 57 (.int .i64 (n:Int)):=by simp[zdt,h]
theorem zbL(n:Nat)(w:World)(hg:zd8 w):Calls Tryz.prog 53 #[zdt n] w (zjG w (n:Int)):=by
 by_cases h:n=0
 ·subst h;exact zg2 _ _ _ w (zgg w)
 ·rw[zbZ h];exact zg2 _ _ _ w (zlQ (n:Int) w hg)
def zbc(tag:Nat→Nat×Nat)(i b:Nat)(W:World)(c':CS)(W':World):Prop :=
 ∃tag' V',zg tag' i b c' V' W'∧Ext i tag tag' W W'∧Mod (fun g=>(tag g).1=i) W W'
def zbd(tag:Nat→Nat×Nat)(i b:Nat)(W:World)(r:Value)(c':CS)(e:Ending)(W':World):Prop:=e = .returned r∧zbc tag i b W c' W'
structure zbH(c c':CS):Prop where
 got:c'.got=c.got
 ws:∀k,k<8→(c'.ws k).b=(c.ws k).b∧(c'.ws k).sent.rs=(c.ws k).sent.rs∧(c'.ws k).came.rs=(c.ws k).came.rs
 rs:∀k,k<8→(c'.rs k).b=(c.rs k).b∧(c'.rs k).came.rs=(c.rs k).came.rs
 flight:c'.flight=c.flight
 waits:c'.waits=c.waits
 seen:c'.seen=c.seen
 came:c'.came=c.came
theorem zbH.refl(c:CS):zbH c c:=⟨rfl,fun _ _=>⟨rfl,rfl,rfl⟩,fun _ _=>⟨rfl,rfl⟩,rfl,rfl,rfl,rfl⟩
theorem zg.re{tag:Nat→Nat×Nat}{i b:Nat}{c c':CS}{V:CV}{W W':World}(h:zg tag i b c V W)(m:Mod (fun g=>g=b) W W')(d:W'.heap[b]?=some (.cells (zr c' V).toArray 127 (0,0)))(s:zbH c c'):zg tag i b c' V W':=by
 have q:∀{g:Nat} {r:Nat},tag g=(i,r)→r≠1→¬g=b:=fun hg hr x=>by
  rw[x,h.tb]at hg;simp at hg;exact hr hg.symm
 have ne:∀(a k:Nat),1<a→a+k≠1:=fun a k ha=>by omega
 obtain⟨s1,e,j,f,s5,s6,s7⟩:=s;exact
  {obj:=d
   tb:=h.tb
   got:=by rw[s1];exact h.got.mod m (q h.tg (by decide)) (fun g hg=>q (h.tgv g hg) (by decide))
   tg:=h.tg
   tgv:=h.tgv
   wb:=fun k hk=>by rw[(e k hk).1];exact m.owns (h.wb k hk) (fun g hg=>q (h.twb k hk g hg) (ne _ _ (by decide)))
   ws:=fun k hk=>by rw[(e k hk).2.1];exact m.owns (h.ws k hk) (fun g hg=>q (h.tws k hk g hg) (ne _ _ (by decide)))
   wc:=fun k hk=>by rw[(e k hk).2.2];exact m.owns (h.wc k hk) (fun g hg=>q (h.twc k hk g hg) (ne _ _ (by decide)))
   rb:=fun k hk=>by rw[(j k hk).1];exact m.owns (h.rb k hk) (fun g hg=>q (h.trb k hk g hg) (ne _ _ (by decide)))
   rc:=fun k hk=>by rw[(j k hk).2];exact m.owns (h.rc k hk) (fun g hg=>q (h.trc k hk g hg) (ne _ _ (by decide)))
   twb:=h.twb
   tws:=h.tws
   twc:=h.twc
   trb:=h.trb
   trc:=h.trc
   ft:=by rw[f];exact m.owns h.ft (fun g hg=>q (h.tft g hg) (by decide))
   fl:=by rw[f];exact h.fl
   fs:=fun p l=>by rw[f]at l;exact(h.fs p l).mod m (fun g hg x=>q x (by decide) hg) (fun g hg=>hg)
   tft:=h.tft
   wt:=by rw[s5];exact h.wt.mod m (fun g hg=>q (h.twt g hg) (by decide))
   twt:=h.twt
   sn:=by rw[s6];exact h.sn.mod m (q h.tsn (by decide))
   tsn:=h.tsn
   cm:=by rw[s7];exact m.owns h.cm (fun g hg=>q (h.tcm g hg) (by decide))
   tcm:=h.tcm }
theorem zg.store{tag:Nat→Nat×Nat}{i b:Nat}{c c':CS}{V:CV}{W:World}(h:zg tag i b c V W)(j:Nat)(v:Value)(hc:(zr c V).set j v=zr c' V)(s:zbH c c'):zg tag i b c' V (W.setCell ⟨b,j,none⟩ v) :=
 h.re ((Mod.refl (fun g=>g=b) _).setCell (p:=⟨b,j,none⟩) (.inl rfl) _) (by rw[zc h.obj,List.setIfInBounds_toArray,hc]) s
theorem zg.left{tag:Nat→Nat×Nat}{i b:Nat}{c:CS}{V:CV}{W W':World}(h:zg tag i b c V W')(ht:zP tag W)(m:Mod (fun g=>(tag g).1=i) W W'):zbc tag i b W c W':=⟨tag,V,h,Ext.same ht m,m⟩
theorem zg.modb{tag:Nat→Nat×Nat}{i b:Nat}{c:CS}{V:CV}{W W':World}(h:zg tag i b c V W)(m:Mod (fun g=>g=b) W W'):Mod (fun g=>(tag g).1=i) W W':=m.mono (fun g hg=>.inl (by rw[hg,h.tb]))
theorem zg.storeW{tag:Nat→Nat×Nat}{i b:Nat}{c:CS}{V:CV}{W:World}(h:zg tag i b c V W){k:Nat}(hk:k<8)(j:Nat)(hj:j<15)(v:Value)(x:WS)(hx:zbn x (V.wb k) (V.ws k) (V.wc k)=(zbn (c.ws k) (V.wb k) (V.ws k) (V.wc k)).set j v)(h1:x.b=(c.ws k).b)(h2:x.sent.rs=(c.ws k).sent.rs)(h3:x.came.rs=(c.ws k).came.rs) :
  zg tag i b { c with ws:=upd c.ws k x } V (W.setCell ⟨b,9+15*k+j,none⟩ v):=by
 refine h.store _ _ (zar _ _ _ _ _ hk hj (fun q _=>?_) rfl rfl rfl) ⟨rfl,fun q hq=>?_,fun _ _=>⟨rfl,rfl⟩,rfl,rfl,rfl,rfl⟩
 ·by_cases a:q=k
  ·subst a;simp only[zf,if_true];exact hx
  ·simp only[ze _ _ a,if_neg a]
 ·by_cases a:q=k
  ·subst a;simp only[zf];exact⟨h1,h2,h3⟩
  ·simp[ze _ _ a]
theorem zg.storeR{tag:Nat→Nat×Nat}{i b:Nat}{c:CS}{V:CV}{W:World}(h:zg tag i b c V W){k:Nat}(hk:k<8)(j:Nat)(hj:j<13)(v:Value)(x:RS)(hx:zbO x (V.rb k) (V.rc k)=(zbO (c.rs k) (V.rb k) (V.rc k)).set j v)(h1:x.b=(c.rs k).b)(h3:x.came.rs=(c.rs k).came.rs) :
  zg tag i b { c with rs:=upd c.rs k x } V (W.setCell ⟨b,129+13*k+j,none⟩ v):=by
 refine h.store _ _ (zbp _ _ _ _ _ hk hj (fun q _=>?_) rfl rfl rfl) ⟨rfl,fun _ _=>⟨rfl,rfl,rfl⟩,fun q hq=>?_,rfl,rfl,rfl,rfl⟩
 ·by_cases a:q=k
  ·subst a;simp only[zf,if_true];exact hx
  ·simp only[ze _ _ a,if_neg a]
 ·by_cases a:q=k
  ·subst a;simp only[zf];exact⟨h1,h3⟩
  ·simp[ze _ _ a]
def CS.stream(c:CS)(k:Int):Nat:=if c.closed≠0 then 12 else if k<0∨8≤k then 2 else 0
theorem zda{tag:Nat→Nat×Nat}{i b:Nat}{c:CS}{V:CV}{W:World}(h:zg tag i b c V W)(k:Int) :
  Calls Tryz.prog 90 #[.pointer (some ⟨b,0,none⟩),.int .i64 k] W fun e W'=>e = .returned (zdt (c.stream k))∧W=W':=by
 have c4:W.cell? ⟨b,4,none⟩=some (.int .i64 (c.closed:Int)):=h.hd (j:=4) rfl;unfold CS.stream zdt;clear h;by_cases h0:c.closed=0
 ·rw[h0]at c4;by_cases h1:k<0
  ·simp only[h0,h1,true_or,ne_eq,not_true_eq_false,if_false,if_true];clear h0;go_enter Tryz.func90,Tryz.ntmps90;go_wp2_with fail;go_ret;exact⟨rfl,rfl⟩
  ·by_cases h2:8≤k
   ·simp only[h0,h2,or_true,ne_eq,not_true_eq_false,if_false,if_true];clear h0;go_enter Tryz.func90,Tryz.ntmps90;go_wp2_with fail;go_ret;exact⟨rfl,rfl⟩
   ·simp only[h0,h1,h2,or_self,ne_eq,not_true_eq_false,if_false,if_true];clear h0;go_enter Tryz.func90,Tryz.ntmps90;go_wp2_with fail;go_ret;exact⟨rfl,rfl⟩
 ·have hb:((c.closed:Int)==0)=false:=beq_eq_false_iff_ne.2 (by omega);simp only[h0,ne_eq,not_false_eq_true,if_true];clear h0;go_enter Tryz.func90,Tryz.ntmps90;go_wp2_with fail;go_ret;exact⟨rfl,rfl⟩
def CS.err(c:CS):Nat:=c.closed
def CS.finish(c:CS)(k:Int):Nat×CS :=
 if c.stream k≠0 then(c.stream k,c)else if (c.ws k.toNat).finished||(c.ws k.toNat).cut then(4,c)else(0,{ c with ws:=upd c.ws k.toNat { c.ws k.toNat with finished:=true } })
theorem ziv{tag:Nat→Nat×Nat}{i b:Nat}{c:CS}{V:CV}{W:World}(h:zg tag i b c V W)(o:zP tag W)(k:Int) :
  Calls Tryz.prog 70 #[.pointer (some ⟨b,0,none⟩),.int .i64 k] W (zbd tag i b W (zdt (c.finish k).1) (c.finish k).2):=by
 have d:=zda h k;have r:=zb (h.left o (Mod.refl _ _));unfold CS.finish;by_cases hs:c.stream k=0
 ·obtain⟨k0,k8,l⟩:0≤k∧k<8∧c.closed=0:=by
   unfold CS.stream at hs;split at hs
   ·cases hs
   ·split at hs
    ·cases hs
    ·rename_i a b;simp at a;omega
  obtain⟨q,rfl⟩:∃q:Nat,k=(q:Int):=⟨k.toNat,by omega⟩;have s:q<8:=by omega
  rw[hs]at d;simp only[hs,Int.toNat_natCast,ne_eq,not_true_eq_false,if_false];obtain⟨u,e⟩:=nm ((c.ws q).finished);obtain⟨v,f⟩:=nm ((c.ws q).cut);have w8:W.cell? ⟨b,9+q*15+8,none⟩=some (.bool u):=by rw[←e,Nat.mul_comm];exact h.w (j:=8) s rfl
  have w10:W.cell? ⟨b,9+q*15+10,none⟩=some (.bool v):=by rw[←f,Nat.mul_comm];exact h.w (j:=10) s rfl
  have cf:=h.fz (9+q*15+8);have t:=h.storeW s 8 (by decide) (.bool true) { c.ws q with finished:=true } rfl rfl rfl rfl;rw[Nat.mul_comm]at t;have H:=zb (t.left o (h.modb ((Mod.refl (fun g=>g=b) _).setCell (p:=⟨b,9+q*15+8,none⟩) (.inl rfl) _)));obtain⟨c1,m⟩:∃c1:CS,{ c with ws:=upd c.ws q { c.ws q with finished:=true } }=c1:=⟨_,rfl⟩;rw[m]at H ⊢;rw[e,f];clear h t o e f hs l m;cases u
  ·cases v
   ·go_enter Tryz.func70,Tryz.ntmps70;go_wp2_with (go_at_call 90;refine d.mono ?_;rintro _ _ ⟨rfl,rfl⟩;unfold zdt;simp only[if_true]);go_ret;exact⟨rfl,H.out⟩
   ·go_enter Tryz.func70,Tryz.ntmps70;go_wp2_with (go_at_call 90;refine d.mono ?_;rintro _ _ ⟨rfl,rfl⟩;unfold zdt;simp only[if_true]);go_ret;exact⟨rfl,r.out⟩
  ·go_enter Tryz.func70,Tryz.ntmps70;go_wp2_with (go_at_call 90;refine d.mono ?_;rintro _ _ ⟨rfl,rfl⟩;unfold zdt;simp only[if_true]);go_ret;exact⟨rfl,r.out⟩
 ·obtain⟨n,l⟩:=nm (c.stream k);rw[l]at d hs;simp only[l,hs,ne_eq,not_false_eq_true,if_true];rw[zbZ hs]at d ⊢;clear h o l hs;go_enter Tryz.func70,Tryz.ntmps70;go_wp2_with (go_at_call 90;refine d.mono ?_;rintro _ _ ⟨rfl,rfl⟩);go_ret;exact⟨rfl,r.out⟩
theorem zg.build{R:Nat→Prop}{S:Nat→Prop}{tag tag':Nat→Nat×Nat}{i b:Nat}{c c':CS}{V a:CV}{W W':World}(h:zg tag i b c V W)(m:Mod S W W')(hS:∀g,S g→∃r,R r∧tag g=(i,r))(ht:∀g,(tag g).1=i→tag' g=tag g)
  (o:W'.heap[b]?=some (.cells (zr c' a).toArray 127 (0,0)))
  (got:(c'.got=c.got∧a.g=V.g∧a.gv=V.gv∧¬R 2∧¬R 3)∨(zbz W' a.g 0 a.gv c'.got.rs c'.got.fl c'.got.most∧tag' a.g=(i,2)∧∀g,a.gv.ownBlock=some g→tag' g=(i,3)))
  (wb:∀k,k<8→((c'.ws k).b=(c.ws k).b∧a.wb k=V.wb k∧¬R (10+k))∨(OB W' (a.wb k) (c'.ws k).b∧∀g,(a.wb k).ownBlock=some g→tag' g=(i,10+k)))
  (ws:∀k,k<8→((c'.ws k).sent.rs=(c.ws k).sent.rs∧a.ws k=V.ws k∧¬R (20+k))∨(W'.ownsRow 0 214 2 (a.ws k) (c'.ws k).sent.rs.length (zn (c'.ws k).sent.rs)∧∀g,(a.ws k).ownBlock=some g→tag' g=(i,20+k)))
  (wc:∀k,k<8→((c'.ws k).came.rs=(c.ws k).came.rs∧a.wc k=V.wc k∧¬R (30+k))∨(W'.ownsRow 0 214 2 (a.wc k) (c'.ws k).came.rs.length (zn (c'.ws k).came.rs)∧∀g,(a.wc k).ownBlock=some g→tag' g=(i,30+k)))
  (rb:∀k,k<8→((c'.rs k).b=(c.rs k).b∧a.rb k=V.rb k∧¬R (40+k))∨(OB W' (a.rb k) (c'.rs k).b∧∀g,(a.rb k).ownBlock=some g→tag' g=(i,40+k)))
  (rc:∀k,k<8→((c'.rs k).came.rs=(c.rs k).came.rs∧a.rc k=V.rc k∧¬R (50+k))∨(W'.ownsRow 0 214 2 (a.rc k) (c'.rs k).came.rs.length (zn (c'.rs k).came.rs)∧∀g,(a.rc k).ownBlock=some g→tag' g=(i,50+k)))
  (ft:(c'.flight=c.flight∧a.ft=V.ft∧a.fts=V.fts∧¬R 4∧¬R 5)∨(W'.ownsRow 0 173 3 a.ft c'.flight.length (zu (c'.flight.zip a.fts))∧a.fts.length=c'.flight.length∧(∀p∈c'.flight.zip a.fts,zjz tag' (i,5) W' p.2 p.1.fs)∧∀g,a.ft.ownBlock=some g→tag' g=(i,4)))
  (wt:(c'.waits=c.waits∧a.wt=V.wt∧¬R 6)∨(zc8 W' 65 10 a.wt c'.waits.length (zp c'.waits)∧∀g,Value.blk a.wt=some g→tag' g=(i,6)))
  (sn:(c'.seen=c.seen∧a.sn=V.sn∧¬R 7)∨(zbo W' a.sn c'.seen∧tag' a.sn=(i,7)))
  (cm:(c'.came=c.came∧a.cm=V.cm∧¬R 8)∨(W'.ownsRow 0 154 2 a.cm c'.came.length (zaa c'.came)∧∀g,a.cm.ownBlock=some g→tag' g=(i,8))) :
  zg tag' i b c' a W':=by
 have q:∀{g r:Nat},tag g=(i,r)→¬R r→¬S g:=fun hg D x=>by
  obtain⟨r',h1,h2⟩:=hS _ x;rw[hg]at h2;simp at h2;rw[h2]at D;exact D h1
 have e:∀{g r:Nat},tag g=(i,r)→tag' g=(i,r):=fun hg=>(ht _ (by rw[hg])).trans hg
 have l:zbz W' a.g 0 a.gv c'.got.rs c'.got.fl c'.got.most∧tag' a.g=(i,2)∧∀g,a.gv.ownBlock=some g→tag' g=(i,3):=by
  rcases got with⟨d,f,j,B,C⟩|x
  ·rw[d,f,j];exact⟨h.got.mod m (q h.tg B) (fun g hg=>q (h.tgv g hg) C),e h.tg,fun g hg=>e (h.tgv g hg)⟩
  ·exact x
 have s:∀k,k<8→OB W' (a.wb k) (c'.ws k).b∧∀g,(a.wb k).ownBlock=some g→tag' g=(i,10+k):=fun k hk=>by
  rcases wb k hk with⟨d,f,j⟩|x
  ·rw[d,f];exact⟨m.owns (h.wb k hk) (fun g hg=>q (h.twb k hk g hg) j),fun g hg=>e (h.twb k hk g hg)⟩
  ·exact x
 have t:∀k,k<8→W'.ownsRow 0 214 2 (a.ws k) (c'.ws k).sent.rs.length (zn (c'.ws k).sent.rs)∧∀g,(a.ws k).ownBlock=some g→tag' g=(i,20+k):=fun k hk=>by
  rcases ws k hk with⟨d,f,j⟩|x
  ·rw[d,f];exact⟨m.owns (h.ws k hk) (fun g hg=>q (h.tws k hk g hg) j),fun g hg=>e (h.tws k hk g hg)⟩
  ·exact x
 have u:∀k,k<8→W'.ownsRow 0 214 2 (a.wc k) (c'.ws k).came.rs.length (zn (c'.ws k).came.rs)∧∀g,(a.wc k).ownBlock=some g→tag' g=(i,30+k):=fun k hk=>by
  rcases wc k hk with⟨d,f,j⟩|x
  ·rw[d,f];exact⟨m.owns (h.wc k hk) (fun g hg=>q (h.twc k hk g hg) j),fun g hg=>e (h.twc k hk g hg)⟩
  ·exact x
 have v:∀k,k<8→OB W' (a.rb k) (c'.rs k).b∧∀g,(a.rb k).ownBlock=some g→tag' g=(i,40+k):=fun k hk=>by
  rcases rb k hk with⟨d,f,j⟩|x
  ·rw[d,f];exact⟨m.owns (h.rb k hk) (fun g hg=>q (h.trb k hk g hg) j),fun g hg=>e (h.trb k hk g hg)⟩
  ·exact x
 have w:∀k,k<8→W'.ownsRow 0 214 2 (a.rc k) (c'.rs k).came.rs.length (zn (c'.rs k).came.rs)∧∀g,(a.rc k).ownBlock=some g→tag' g=(i,50+k):=fun k hk=>by
  rcases rc k hk with⟨d,f,j⟩|x
  ·rw[d,f];exact⟨m.owns (h.rc k hk) (fun g hg=>q (h.trc k hk g hg) j),fun g hg=>e (h.trc k hk g hg)⟩
  ·exact x
 have n:W'.ownsRow 0 173 3 a.ft c'.flight.length (zu (c'.flight.zip a.fts))∧a.fts.length=c'.flight.length∧(∀p∈c'.flight.zip a.fts,zjz tag' (i,5) W' p.2 p.1.fs)∧∀g,a.ft.ownBlock=some g→tag' g=(i,4):=by
  rcases ft with⟨d,f,j,B,C⟩|x
  ·rw[d,f,j];exact⟨m.owns h.ft (fun g hg=>q (h.tft g hg) B),h.fl,fun p hp=>(h.fs p hp).mod m (fun g hg x=>q x C hg) (fun g hg=>e hg),fun g hg=>e (h.tft g hg)⟩
  ·exact x
 have y:zc8 W' 65 10 a.wt c'.waits.length (zp c'.waits)∧∀g,Value.blk a.wt=some g→tag' g=(i,6):=by
  rcases wt with⟨d,f,j⟩|x
  ·rw[d,f];exact⟨h.wt.mod m (fun g hg=>q (h.twt g hg) j),fun g hg=>e (h.twt g hg)⟩
  ·exact x
 have z:zbo W' a.sn c'.seen∧tag' a.sn=(i,7):=by
  rcases sn with⟨d,f,j⟩|x
  ·rw[d,f];exact⟨h.sn.mod m (q h.tsn j),e h.tsn⟩
  ·exact x
 have A:W'.ownsRow 0 154 2 a.cm c'.came.length (zaa c'.came)∧∀g,a.cm.ownBlock=some g→tag' g=(i,8):=by
  rcases cm with⟨d,f,j⟩|x
  ·rw[d,f];exact⟨m.owns h.cm (fun g hg=>q (h.tcm g hg) j),fun g hg=>e (h.tcm g hg)⟩
  ·exact x
 exact⟨o,e h.tb,l.1,l.2.1,l.2.2,fun k hk=>(s k hk).1,fun k hk=>(t k hk).1,fun k hk=>(u k hk).1,fun k hk=>(v k hk).1,fun k hk=>(w k hk).1,fun k hk=>(s k hk).2,fun k hk=>(t k hk).2,fun k hk=>(u k hk).2,fun k hk=>(v k hk).2,fun k hk=>(w k hk).2,
  n.1,n.2.1,n.2.2.1,n.2.2.2,y.1,y.2,z.1,z.2,A.1,A.2⟩
theorem zg.apart{tag:Nat→Nat×Nat}{i:Nat}{g a r b:Nat}(h:tag g=(i,r))(h':tag a=(i,b))(hr:r≠b):g≠a:=fun e=>by
 rw[e,h']at h;simp at h;exact hr h.symm
theorem zE{w:World}{base e sz:Nat}{v:Value}{n:Nat}{xs:List Value}(h:w.ownsRow base e sz v n xs):∀g,v.ownBlock=some g→g<w.heap.size:=by
 intro g hg;rcases h.2 with⟨rfl,rfl⟩|⟨g',cap,cur,rfl,_,h0,h1,h2,_⟩
 ·simp[Value.ownBlock]at hg
 ·simp[Value.ownBlock]at hg;subst hg;exact(Array.getElem?_eq_some_iff.1 h0).1
theorem zlS(w:World)(v:Value)(l:List UInt8)(a:Addr)(cap:Nat)(s:List UInt8)(h:OB w v l)(hb:BR w (.slice (some a) s.length cap) s)(hl:l.length+s.length≤140737488355328) :
  ∃v' w',(∀ty,(Builtin.append_ #[60,60] ty #[v,.slice (some a) s.length cap]).run Tryz.prog w = .ok v' w')∧App w v l s v' w':=by
 obtain⟨i,hi,hz,b,c⟩:=info_parts zfZ;obtain⟨a',c',e,_,_,hc⟩:=hb;cases e;obtain⟨v',w',h1,h2,h3,h4,h5⟩:=zas (P:=Tryz.prog) w 60 5 i (.int .u8 0) 1 1 Tryz.underlying60 hi hz b c rfl (by decide) v l.length (zO l) h a s.length cap (zO s) (by simp[zO]) (fun j u f=>by
   simp only[zO,List.getElem?_map,Option.map_eq_some_iff]at f;obtain⟨x,hx,rfl⟩:=f;obtain⟨g,o,e2,d⟩:=hc j x hx;cases e2;rw[addr_add];exact d) (zdN s) (by unfold maxLen;omega) (by omega)
 exact⟨v',w',h1,by rw[OB,List.length_append,zbg];exact h2,h5,h3,h4⟩
def CS.send(c:CS)(k:Int)(s:List UInt8):Nat×CS :=
 if c.stream k≠0 then(c.stream k,c)else if (c.ws k.toNat).finished||(c.ws k.toNat).cut then(4,c)else if 2048<(c.ws k.toNat).b.length+s.length then(3,c)else(0,{ c with ws:=upd c.ws k.toNat { c.ws k.toNat with b:=(c.ws k.toNat).b++s } })
theorem zcD{c:CS}{k:Int}(hs:c.stream k=0):0≤k∧k<8∧c.closed=0:=by
 unfold CS.stream at hs;split at hs
 ·cases hs
 ·split at hs
  ·cases hs
  ·rename_i a b;simp at a;omega
theorem zg.newWb{tag:Nat→Nat×Nat}{i b:Nat}{c:CS}{V:CV}{W W1:World}(h:zg tag i b c V W)(f:zP tag W)(hi:0<i){k:Nat}(hk:k<8){s:List UInt8}{v':Value}(d:App W (V.wb k) (c.ws k).b s v' W1) :
  zbc tag i b W { c with ws:=upd c.ws k { c.ws k with b:=(c.ws k).b++s } } (W1.setCell ⟨b,9+15*k,none⟩ v'):=by
 have m1:Mod (fun g=>(V.wb k).ownBlock=some g) W W1:=(Mod.refl _ W).grown d.grown (fun g hg=>.inl hg);have hb:¬(V.wb k).ownBlock=some b:=fun x=>zg.apart h.tb (h.twb k hk b x) (by omega) rfl
 have o1:=m1.obj hb h.obj;have hbW:b<W.heap.size:=zaA f h.tb hi;have l:Mod (fun g=>(V.wb k).ownBlock=some g∨g=b) W (W1.setCell ⟨b,9+15*k,none⟩ v'):=(m1.mono (fun g hg=>.inl (.inl hg))).setCell (p:=⟨b,9+15*k,none⟩) (.inl (.inr rfl)) _;have hw:Mod (fun g=>g=b) W1 (W1.setCell ⟨b,9+15*k,none⟩ v'):=(Mod.refl (fun g=>g=b) _).setCell (p:=⟨b,9+15*k,none⟩) (.inl rfl) _;have j:∀g,v'.ownBlock=some g→g≠b:=fun g hg x=>by
  subst x;rcases d.at_ g hg with y|y
  ·exact hb y
  ·omega
 have hs1:W1.heap.size=(W1.setCell ⟨b,9+15*k,none⟩ v').heap.size:=by simp
 refine⟨retag tag W W1 (i,10+k),{ V with wb:=upd V.wb k v' },?_,?_,l.mono (fun g hg=>.inl ?_)⟩
 ·refine h.build (R:=fun r=>r=1∨r=10+k) l (fun g hg=>?_) (fun g hg=>zw (zaA f (i:=i) (r:=(tag g).2) (by rw[←hg]) hi)) ?_ (.inl ⟨rfl,rfl,rfl,by omega,by omega⟩) (fun q e=>?_) (fun q e=>.inl ⟨?_,rfl,by omega⟩) (fun q e=>.inl ⟨?_,rfl,by omega⟩) (fun q e=>.inl ⟨rfl,rfl,by omega⟩) (fun q e=>.inl ⟨rfl,rfl,by omega⟩) (.inl ⟨rfl,rfl,rfl,by omega,by omega⟩) (.inl ⟨rfl,rfl,by omega⟩) (.inl ⟨rfl,rfl,by omega⟩) (.inl ⟨rfl,rfl,by omega⟩)
  ·rcases hg with hg|hg
   ·exact⟨10+k,.inr rfl,h.twb k hk g hg⟩
   ·exact⟨1,.inl rfl,by rw[hg,h.tb]⟩
  ·rw[zc o1,List.setIfInBounds_toArray];rw[show 9+15*k=9+15*k+0 from rfl,zar c { c with ws:=upd c.ws k { c.ws k with b:=(c.ws k).b++s } } V { V with wb:=upd V.wb k v' } v' hk (by decide) (fun q _=>?_) rfl rfl rfl];by_cases a:q=k
   ·subst a;simp only[zf,if_true];rfl
   ·simp only[ze _ _ a,if_neg a]
  ·by_cases a:q=k
   ·subst a;simp only[zf];refine .inr ⟨hw.owns d.own j,fun g hg=>?_⟩;rcases d.at_ g hg with y|y
    ·rw[zw (zaA f (h.twb q hk g y) hi),h.twb q hk g y]
    ·rw[zaj y];have:=zE d.own g hg;exact this
   ·exact .inl ⟨by simp only[ze _ _ a],by simp only[ze _ _ a],by omega⟩
  ·by_cases a:q=k
   ·subst a;simp only[zf]
   ·simp only[ze _ _ a]
  ·by_cases a:q=k
   ·subst a;simp only[zf]
   ·simp only[ze _ _ a]
 ·have:=zbj (i:=i) (r:=10+k) (tag:=tag) m1.size;exact⟨this.old,this.new,fun g hg=>this.out g (by simpa using hg)⟩
 ·rcases hg with hg|hg
  ·rw[h.twb k hk g hg]
  ·rw[hg,h.tb]
theorem zlT{tag:Nat→Nat×Nat}{i b:Nat}{c:CS}{V:CV}{W:World}(h:zg tag i b c V W)(z:zP tag W)(hi:0<i)(k:Int)(a:Addr)(cap:Nat)(s:List UInt8)(l:BR W (.slice (some a) s.length cap) s)(hsl:s.length≤1099511627776)(m:∀k,k<8→(c.ws k).b.length≤1099511627776) :
  Calls Tryz.prog 69 #[.pointer (some ⟨b,0,none⟩),.int .i64 k,.slice (some a) s.length cap] W (zbd tag i b W (zdt (c.send k s).1) (c.send k s).2):=by
 have f:=zda h k;have A:=zb (h.left z (Mod.refl _ _));unfold CS.send;by_cases hs:c.stream k=0
 ·obtain⟨k0,k8,u⟩:=zcD hs;obtain⟨q,rfl⟩:∃q:Nat,k=(q:Int):=⟨k.toNat,by omega⟩;have e:q<8:=by omega
  rw[hs]at f;simp only[hs,Int.toNat_natCast,ne_eq,not_true_eq_false,if_false];obtain⟨D,o⟩:=nm ((c.ws q).finished);obtain⟨E,p⟩:=nm ((c.ws q).cut);obtain⟨N,t⟩:=nm ((c.ws q).b.length);have B:=m q e;rw[t]at B;have w8:W.cell? ⟨b,9+q*15+8,none⟩=some (.bool D):=by rw[←o,Nat.mul_comm];exact h.w (j:=8) e rfl
  have w10:W.cell? ⟨b,9+q*15+10,none⟩=some (.bool E):=by rw[←p,Nat.mul_comm];exact h.w (j:=10) e rfl
  have F:W.cell? ⟨b,9+q*15,none⟩=some (V.wb q):=by rw[Nat.mul_comm];exact h.w (j:=0) e rfl
  obtain⟨v',W1,happ,v⟩:=zlS W (V.wb q) (c.ws q).b a cap s (h.wb q e) l (by omega);obtain⟨va,vc,rfl,_⟩:=zj v.own;have C:=h.newWb z hi e v;rw[Nat.mul_comm]at C;have w1:W1.cell? ⟨b,9+q*15,none⟩=some (V.wb q):=by
   have m1:Mod (fun g=>(V.wb q).ownBlock=some g) W W1:=(Mod.refl _ W).grown v.grown (fun g hg=>.inl hg);exact m1.cell (a:=⟨b,_,none⟩) (fun x=>zg.apart h.tb (h.twb q e b x) (by omega) rfl) F
  have f1:W1.frozen? ⟨b,9+q*15,none⟩=false:=by
   have m1:Mod (fun g=>(V.wb q).ownBlock=some g) W W1:=(Mod.refl _ W).grown v.grown (fun g hg=>.inl hg);have o1:=m1.obj (fun x=>zg.apart h.tb (h.twb q e b x) (by omega) rfl) h.obj;simp[World.frozen?,o1]
  have H:=zb C;obtain⟨c1,y⟩:∃c1:CS,{ c with ws:=upd c.ws q { c.ws q with b:=(c.ws q).b++s } }=c1:=⟨_,rfl⟩;rw[y]at H ⊢;rw[o,p,t];rw[List.length_append,t]at H;rw[List.length_append,t]at happ;obtain⟨wa,wc,r,_⟩:=zj (h.wb q e);rw[t]at r;rw[r]at F w1 happ;clear h C z o p hs u y t v l r m;cases D
  ·cases E
   ·by_cases d:2048<N+s.length
    ·have d1:(2048:Int)-N<s.length:=by omega
     simp only[d,Bool.or_self,Bool.false_eq_true,if_false,if_true];clear d;go_enter Tryz.func69,Tryz.ntmps69;go_wp2_with (go_at_call 90;refine f.mono ?_;rintro _ _ ⟨rfl,rfl⟩;unfold zdt;simp only[if_true]);go_ret;exact⟨rfl,A.out⟩
    ·have d1:¬(2048:Int)-N<s.length:=by omega
     simp only[d,Bool.or_self,Bool.false_eq_true,if_false];clear d;go_enter Tryz.func69,Tryz.ntmps69;go_wp2_with (first|(go_at_call 90;refine f.mono ?_;rintro _ _ ⟨rfl,rfl⟩;unfold zdt;simp only[if_true])|(at_builtin;refine zm rfl _ _ _ _ rfl _ _ _ rfl rfl happ ?_));go_ret;exact⟨rfl,H.out⟩
   ·simp only[Bool.or_true,if_true];go_enter Tryz.func69,Tryz.ntmps69;go_wp2_with (go_at_call 90;refine f.mono ?_;rintro _ _ ⟨rfl,rfl⟩;unfold zdt;simp only[if_true]);go_ret;exact⟨rfl,A.out⟩
  ·simp only[Bool.true_or,if_true];go_enter Tryz.func69,Tryz.ntmps69;go_wp2_with (go_at_call 90;refine f.mono ?_;rintro _ _ ⟨rfl,rfl⟩;unfold zdt;simp only[if_true]);go_ret;exact⟨rfl,A.out⟩
 ·obtain⟨n,u⟩:=nm (c.stream k);rw[u]at f hs;simp only[u,hs,ne_eq,not_false_eq_true,if_true];rw[zbZ hs]at f ⊢;clear h z u hs l m;go_enter Tryz.func69,Tryz.ntmps69;go_wp2_with (go_at_call 90;refine f.mono ?_;rintro _ _ ⟨rfl,rfl⟩);go_ret;exact⟨rfl,A.out⟩
structure Env(i:Nat)(tag:Nat→Nat×Nat)(W:World):Prop where
 ok:zP tag W
 pos:0<i
 err:zd8 W
 tab:Tab W
 g0:tag 0=(0,0)
 g1:tag 1=(0,0)
theorem Env.mod{S:Nat→Prop}{i:Nat}{tag:Nat→Nat×Nat}{W W':World}(h:Env i tag W)(m:Mod S W W')(a:∀g,S g→(tag g).1≠0∨W.heap.size≤g):Env i tag W':=by
 have s0:¬S 0:=fun x=>by
  rcases a 0 x with q|q
  ·rw[h.g0]at q;exact q rfl
  ·have:0<W.heap.size:=zk h.err;omega
 have s1:¬S 1:=fun x=>by
  rcases a 1 x with q|q
  ·rw[h.g1]at q;exact q rfl
  ·have:=h.tab.lt;omega
 exact⟨h.ok.mod m,h.pos,h.err.mod m s0,h.tab.mod m s1,h.g0,h.g1⟩
theorem Env.mod0{i:Nat}{tag:Nat→Nat×Nat}{W W':World}(h:Env i tag W)(m:Mod NoB W W'):Env i tag W':=h.mod m (fun _ x=>x.elim)
theorem Env.left{i:Nat}{tag tag':Nat→Nat×Nat}{W W':World}(h:Env i tag W)(e:Ext i tag tag' W W')(m:Mod (fun g=>(tag g).1=i) W W'):Env i tag' W':=by
 have p0:0<W.heap.size:=zk h.err;have p1:=h.tab.lt;have a:=h.mod m (fun g hg=>.inl (by have:=h.pos;omega));exact⟨e.out,h.pos,a.err,a.tab,by rw[e.old 0 p0,h.g0],by rw[e.old 1 p1,h.g1]⟩
theorem zbc.then0{tag:Nat→Nat×Nat}{i b:Nat}{W W1 W2:World}{c:CS}(h:zbc tag i b W c W1)(m:Mod NoB W1 W2):zbc tag i b W c W2:=by
 obtain⟨tag',V',h1,h2,h3⟩:=h;exact⟨tag',V',h1.mod0 m,⟨h2.old,h2.new,h2.out.mod m⟩,h3.trans (m.mono (fun _ x=>x.elim))⟩
theorem zbc.thenS{S:Nat→Prop}{tag:Nat→Nat×Nat}{i b:Nat}{W d W1 W2:World}{c:CS}(f:zP tag W)(hi:0<i)(j:Mod NoB W d)(h:zbc tag i b d c W1)(m:Mod S W1 W2)(k:∀g,S g→W.heap.size≤g∧g<d.heap.size):zbc tag i b W c W2:=by
 obtain⟨tag',V',h1,h2,h3⟩:=h;have q:∀g,S g→tag' g=(0,0):=fun g hg=>by
  obtain⟨a,b⟩:=k g hg;rw[h2.old g b];exact f g a
 refine⟨tag',V',h1.mod m (fun g hg x=>?_) (fun _ _=>rfl),⟨fun g hg=>h2.old g (Nat.lt_of_lt_of_le hg j.size),fun g hg=>?_,h2.out.mod m⟩,?_⟩
 ·rw[q g hg]at x;simp at x;omega
 ·by_cases e:g<d.heap.size
  ·exact .inr (by rw[h2.old g e];exact f g hg)
  ·exact h2.new g (by omega)
 ·exact((j.mono (fun _ x=>x.elim)).then h3 (fun g hg=>.inl hg)).then m (fun g hg=>.inr (k g hg).1)
theorem zbc.from0{tag:Nat→Nat×Nat}{i b:Nat}{W a W1:World}{c:CS}(ht:zP tag W)(hi:0<i)(m0:Mod NoB W a)(h:zbc tag i b a c W1):zbc tag i b W c W1 :=
 h.thenS (S:=NoB) ht hi m0 (Mod.refl _ _) (fun _ x=>x.elim)
def za6(w:World)(g n:Nat):Prop:=∃cs t fz,w.heap[g]?=some (.cells cs t fz)∧n≤cs.size∧n≤fz.1
theorem za6.cell{w:World}{g n:Nat}(h:za6 w g n){j:Nat}(hj:j<n):(∃v,w.cell? ⟨g,j,none⟩=some v)∧w.frozen? ⟨g,j,none⟩=false:=by
 obtain⟨cs,t,fz,h1,h2,h3⟩:=h;refine⟨⟨cs[j],za h1 (by simp[show j<cs.size by omega])⟩,?_⟩;obtain⟨lo,hi⟩:=fz;have:n≤lo:=h3;simp[World.frozen?,h1];omega
theorem za6.set{w:World}{g n:Nat}(h:za6 w g n)(j:Nat)(v:Value):za6 (w.setCell ⟨g,j,none⟩ v) g n:=by
 obtain⟨cs,t,fz,h1,h2,h3⟩:=h;exact⟨_,t,fz,zc h1,by simpa using h2,h3⟩
theorem za6.mod{S:Nat→Prop}{w w':World}{g n:Nat}(h:za6 w g n)(m:Mod S w w')(hs:¬S g):za6 w' g n:=by
 obtain⟨cs,t,fz,h1,h2,h3⟩:=h;exact⟨cs,t,fz,m.obj hs h1,h2,h3⟩
theorem zdW(w:World)(l:List UInt8)(hl:l.length≤4611686018427387904):∃cap w',(convert 9 60 (.string (zq l))).run Tryz.prog w = .ok (.slice (some ⟨w.heap.size,0,none⟩) l.length cap) w'∧BR w' (.slice (some ⟨w.heap.size,0,none⟩) l.length cap) l∧Mod NoB w w'∧w'.heap.size=w.heap.size+1∧za6 w' w.heap.size l.length:=by
 have h:=Lib.run_convert_string_bytes (P:=Tryz.prog) w 9 60 5 (zq l) (u:=.string) Tryz.underlying9 Tryz.underlying60 Tryz.underlying5;have a:=grownCap_ge w (zq l).size 0 5;have b:grownCap w (zq l).size 0 5≤maxLen:=grownCap_le_maxLen w _ 0 _ (by rw[zJ];unfold maxLen;omega);have hb:=Lib.bytesWorld_at_new w 5 (zq l);rw[zJ]at h a b;have d:l.length≤(Lib.bytesCells w 5 (zq l)).size:=by
  by_cases h0:l.length=0
  ·omega
  ·have:=Lib.bytesWorld_cell w 5 (zq l) (l.length-1) (by rw[zJ];omega);rw[World.cell?,hb]at this;have hq:(Lib.bytesCells w 5 (zq l))[l.length-1]?=some (.int .u8 (((zq l).data.toList.getD (l.length-1) 0).toNat:Int)):=by simpa using this
   have:=(Array.getElem?_eq_some_iff.1 hq).1;omega
 refine⟨_,_,h,⟨_,_,rfl,a,b,fun i c hc=>⟨_,_,rfl,?_⟩⟩,⟨?_,?_,?_,?_,?_⟩,Lib.bytesWorld_size _ _ _,⟨_,_,_,hb,d,d⟩⟩
 ·have hi:i<l.length:=(List.getElem?_eq_some_iff.1 hc).1;have:=Lib.bytesWorld_cell w 5 (zq l) i (by rw[zJ];exact hi);rw[Nat.zero_add,this];simp only[zq,List.getD,hc,Option.getD_some]
 ·simp[Lib.bytesWorld,World.freeze,World.alloc,World.drew,-World.alloc_eq,-World.drew_eq]
 ·simp[Lib.bytesWorld,World.freeze,World.alloc,World.drew,-World.alloc_eq,-World.drew_eq]
 ·simp[Lib.bytesWorld,World.freeze,World.alloc,World.drew,-World.alloc_eq,-World.drew_eq]
 ·rw[Lib.bytesWorld_size];omega
 ·intro k hk _;exact Lib.bytesWorld_at_old w _ _ k hk
theorem ziw{tag:Nat→Nat×Nat}{i b:Nat}{c:CS}{V:CV}{W:World}(h:zg tag i b c V W)(E:Env i tag W)(k:Int) :
  Calls Tryz.prog 38 #[.pointer (some ⟨b,0,none⟩),.int .i64 k] W (zbd tag i b W (.int .i64 ((c.finish k).1:Int)) (c.finish k).2):=by
 have d:=ziv h E.ok k;have HE:=zb E;clear h E;go_enter Tryz.func38,Tryz.ntmps38;go_wp2_with fail;refine d.mono ?_;rintro _ W1 ⟨rfl,a⟩;obtain⟨tag',V',h1,h2,h3⟩:=id a;have kn:=zbL (c.finish k).1 W1 (HE.out.left h2 h3).err;have HL:=zb a;clear a h1 h2 h3 d;go_wp2_with fail;refine kn.mono ?_;rintro _ W2 ⟨rfl,e⟩;have H:=zb (HL.out.then0 e);clear e;go_wp2_with fail;go_ret;exact⟨rfl,H.out⟩
theorem zlU{tag:Nat→Nat×Nat}{i b:Nat}{c:CS}{V:CV}{W:World}(h:zg tag i b c V W)(E:Env i tag W)(k:Int)(s:List UInt8)(t:s.length≤1099511627776)(d:∀k,k<8→(c.ws k).b.length≤1099511627776) :
  Calls Tryz.prog 37 #[.pointer (some ⟨b,0,none⟩),.int .i64 k,.string (zq s)] W (zbd tag i b W (.int .i64 ((c.send k s).1:Int)) (c.send k s).2):=by
 obtain⟨cap,W1,u,a,m1,f,l⟩:=zdW W s (by omega);have K:=zlT (h.mod0 m1) (E.ok.mod m1) E.pos k ⟨W.heap.size,0,none⟩ cap s a t d;have v:s.length≤cap∧cap≤maxLen:=by
  obtain⟨_,_,e,w,q,_⟩:=a;cases e;exact⟨w,q⟩
 obtain⟨hc1,y⟩:=v;unfold maxLen at y;have n:=zb E;have L:=zb m1;have HB:=zb l;have HS:=zb f;clear h E a m1 d l f;go_enter Tryz.func37,Tryz.ntmps37;go_wp2_with fail;refine K.mono ?_;rintro _ W2 ⟨rfl,z⟩;clear K;obtain⟨tag',V',w,q,A⟩:=id z;have M:Env i tag' W2:=(n.out.mod0 L.out).left q A;have o:za6 W2 W.heap.size s.length:=HB.out.mod A (fun x=>by
  have:=n.out.ok W.heap.size (Nat.le_refl _);rw[this]at x;have:=n.out.pos;simp at x;omega)
 have N:=zbL (c.send k s).1 W2 M.err;have HL:=zb z;have B:=zb o;clear z w q A M o u;go_wp2_with fail;refine N.mono ?_;rintro _ W3 ⟨rfl,C⟩;have D:=zb (B.out.mod C (fun x=>x));have F:=zb (HL.out.then0 C);clear C N;go_wp2_with fail
 go_loopw [19] (fun G wr=>∃j:Nat,j≤s.length∧G = .int .i64 j∧za6 wr W.heap.size s.length∧Mod (fun g=>g=W.heap.size) W3 wr) (fun G _=>s.length-(intOf G).toNat)
 case atStart=>exact⟨0,Nat.zero_le _,rfl,D.out,Mod.refl _ _⟩
 case round =>
  obtain⟨j,hj,rfl,r,m⟩:=hrel;by_cases I:j<s.length
  ·obtain⟨⟨v0,e0⟩,z0⟩:=r.cell I;have J:=zb (r.set j (.int .u8 33));have HM:=zb (m.setCell (p:=⟨W.heap.size,j,none⟩) (.inl rfl) (.int .u8 33));clear r m;go_wp2_with fail;go_roundw
   case rel=>exact⟨j+1,by omega,by go_num,J.out,HM.out⟩
   case measure=>simp[intOf];omega
  ·have H:=zb (F.out.thenS n.out.ok n.out.pos L.out m (fun g hg=>by
    have hg:g=W.heap.size:=hg;have:=HS.out;omega))
   clear r m;go_wp2_with fail;go_ret;exact⟨rfl,H.out⟩
def RS.used(x:RS):Nat:=if x.state=2 then x.fin else x.read
def RS.hopes(x:RS):Bool:=if x.cut then decide (x.grant<x.keep)||(x.anew&&x.state==0)else !x.ended
theorem zjH{tag:Nat→Nat×Nat}{i b:Nat}{c:CS}{V:CV}{W:World}(h:zg tag i b c V W){k:Nat}(hk:k<8) :
  Calls Tryz.prog 196 #[.pointer (some ⟨b,129+k*13,none⟩)] W fun e W'=>e = .returned (.int .u64 ((c.rs k).used:Int))∧W=W':=by
 have a:W.cell? ⟨b,129+k*13+10,none⟩=some (.int .i64 ((c.rs k).state:Int)):=by rw[Nat.mul_comm];exact h.r (j:=10) hk rfl
 have c5:W.cell? ⟨b,129+k*13+5,none⟩=some (.int .u64 ((c.rs k).fin:Int)):=by rw[Nat.mul_comm];exact h.r (j:=5) hk rfl
 have c9:W.cell? ⟨b,129+k*13+9,none⟩=some (.int .u64 ((c.rs k).read:Int)):=by rw[Nat.mul_comm];exact h.r (j:=9) hk rfl
 obtain⟨x,f⟩:=nm (c.rs k);rw[f]at a c5 c9 ⊢;clear h f;unfold RS.used;by_cases hs:x.state=2
 ·have d:((x.state:Int)==2)=true:=by rw[hs];rfl
  rw[if_pos hs];clear hs;go_enter Tryz.func196,Tryz.ntmps196;go_wp2_with fail;go_ret;exact⟨rfl,rfl⟩
 ·have d:((x.state:Int)==2)=false:=beq_eq_false_iff_ne.2 (by omega);rw[if_neg hs];clear hs;go_enter Tryz.func196,Tryz.ntmps196;go_wp2_with fail;go_ret;exact⟨rfl,rfl⟩
theorem zg4{tag:Nat→Nat×Nat}{i b:Nat}{c:CS}{V:CV}{W:World}(h:zg tag i b c V W){k:Nat}(hk:k<8) :
  Calls Tryz.prog 197 #[.pointer (some ⟨b,129+k*13,none⟩)] W fun e W'=>e = .returned (.bool (c.rs k).hopes)∧Mod NoB W W':=by
 have f:W.cell? ⟨b,129+k*13+10,none⟩=some (.int .i64 ((c.rs k).state:Int)):=by rw[Nat.mul_comm];exact h.r (j:=10) hk rfl
 have p:W.cell? ⟨b,129+k*13+6,none⟩=some (.bool (c.rs k).ended):=by rw[Nat.mul_comm];exact h.r (j:=6) hk rfl
 have q:W.cell? ⟨b,129+k*13+7,none⟩=some (.bool (c.rs k).cut):=by rw[Nat.mul_comm];exact h.r (j:=7) hk rfl
 have s:W.cell? ⟨b,129+k*13+8,none⟩=some (.int .u64 ((c.rs k).keep:Int)):=by rw[Nat.mul_comm];exact h.r (j:=8) hk rfl
 have g:W.cell? ⟨b,129+k*13+11,none⟩=some (.int .u64 ((c.rs k).grant:Int)):=by rw[Nat.mul_comm];exact h.r (j:=11) hk rfl
 have a:W.cell? ⟨b,129+k*13+12,none⟩=some (.bool (c.rs k).anew):=by rw[Nat.mul_comm];exact h.r (j:=12) hk rfl
 obtain⟨x,t⟩:=nm (c.rs k);rw[t]at f p q s g a ⊢;clear h t;unfold RS.hopes;obtain⟨cu,l⟩:=nm x.cut;obtain⟨an,m⟩:=nm x.anew;obtain⟨en,n⟩:=nm x.ended;rw[l]at q ⊢;rw[m]at a ⊢;rw[n]at p ⊢;clear l m n;cases cu
 ·clear s f g a;cases en
  ·go_enter Tryz.func197,Tryz.ntmps197;go_wp2_with fail;go_ret;exact⟨rfl,Mod.refl _ _⟩
  ·go_enter Tryz.func197,Tryz.ntmps197;go_wp2_with fail;go_ret;exact⟨rfl,Mod.refl _ _⟩
 ·by_cases hg:x.grant<x.keep
  ·have d:decide (x.grant<x.keep)=true:=by simp[hg]
   have HD:Hid (decide (x.grant<x.keep)=true):=zb (by simp[hg]);clear hg;go_enter Tryz.func197,Tryz.ntmps197;go_wp2_with fail;go_quiet (fail);go_wp2_with fail;go_ret;exact⟨rfl,(Mod.refl NoB _).drewN _⟩
  ·have d:decide (x.grant<x.keep)=false:=by simp[hg]
   have HD:Hid (decide (x.grant<x.keep)=false):=zb (by simp[hg]);clear hg;cases an
   ·go_enter Tryz.func197,Tryz.ntmps197;go_wp2_with fail;go_quiet (fail);go_wp2_with fail;go_ret;exact⟨rfl,(Mod.refl NoB _).drewN _⟩
   ·by_cases hs:x.state=0
    ·have e:((x.state:Int)==0)=true:=by rw[hs];rfl
     have o:Hid ((x.state==0)=true):=zb (by rw[hs];rfl);clear hs;go_enter Tryz.func197,Tryz.ntmps197;go_wp2_with fail;go_quiet (fail);go_wp2_with fail;go_ret;exact⟨by rw[o.out];rfl,(Mod.refl NoB _).drewN _⟩
    ·have e:((x.state:Int)==0)=false:=beq_eq_false_iff_ne.2 (by omega);have o:Hid ((x.state==0)=false):=zb (beq_eq_false_iff_ne.2 hs);clear hs;go_enter Tryz.func197,Tryz.ntmps197;go_wp2_with fail;go_quiet (fail);go_wp2_with fail;go_ret;exact⟨by rw[o.out];rfl,(Mod.refl NoB _).drewN _⟩
def zat(ws:Nat→WS):Nat→Nat
 | 0=>0
 | k+1=>zat ws k+(ws k).high
def CS.spent(c:CS):Nat:=zat c.ws 8
theorem zg5(ws:Nat→WS){k m:Nat}(h:k≤m):zat ws k≤zat ws m:=by
 induction m with
 | zero=>rw[Nat.le_zero.1 h];exact Nat.le_refl _
 | succ m ih =>
  by_cases e:k=m+1
  ·rw[e];exact Nat.le_refl _
  ·have:=ih (by omega);simp only[zat];omega
theorem zlV{tag:Nat→Nat×Nat}{i b:Nat}{c:CS}{V:CV}{W:World}(h:zg tag i b c V W)(hs:c.spent<18446744073709551616) :
  Calls Tryz.prog 199 #[.pointer (some ⟨b,0,none⟩)] W fun e W'=>e = .returned (.int .u64 (c.spent:Int))∧W=W':=by
 have HH:=zb h;have HS:=zb hs;clear h hs;go_enter Tryz.func199,Tryz.ntmps199;go_wp2_with fail
 go_loopw [3,5] (fun nv f wr=>∃k:Nat,k≤8∧nv = .int .u64 (zat c.ws k:Int)∧f = .int .i64 k∧W=wr) (fun _ f _=>8-(intOf f).toNat)
 case atStart=>exact⟨0,by omega,rfl,rfl,rfl⟩
 case round =>
  obtain⟨k,hk,rfl,rfl,rfl⟩:=hrel;by_cases g:k<8
  ·have c7:W.cell? ⟨b,9+k*15+7,none⟩=some (.int .u64 ((c.ws k).high:Int)):=by rw[Nat.mul_comm];exact HH.out.w (j:=7) g rfl
   have hb:zat c.ws k+(c.ws k).high<18446744073709551616:=by
    have h1:zat c.ws (k+1)≤zat c.ws 8:=zg5 _ (by omega);have h2:zat c.ws 8<18446744073709551616:=HS.out;have h3:zat c.ws (k+1)=zat c.ws k+(c.ws k).high:=rfl;omega
   obtain⟨n,a⟩:=nm (zat c.ws k);obtain⟨m,d⟩:=nm ((c.ws k).high);have HN:Hid (zat c.ws (k+1)=n+m):=by
    show _=_;rw[←a,←d];rfl
   rw[a,d]at hb;rw[a];rw[d]at c7;have hw1:IntKind.u64.wrap ((n:Int)+m)=(n:Int)+m:=by rw[IntKind.wrap_u64];omega
   clear a d;go_wp2_with fail;go_roundw
   case rel=>exact⟨k+1,by omega,by rw[HN.out];rfl,by go_num,trivial⟩
   case measure=>simp[intOf];omega
  ·have l:k=8:=by omega
   subst l;go_wp2_with fail;go_ret;exact⟨rfl,rfl⟩
structure Drf where
 b:List UInt8
 fs:List Frm
 room:Nat
 wants:Bool
 full:Bool
def Drf.add(d:Drf)(f:Frm):Option Drf :=
 if d.room<(d.b++zC f).length+4 then none else some { d with b:=d.b++zC f,fs:=d.fs++[f],wants:=d.wants||f.kind != 2 }
structure zae(tag:Nat→Nat×Nat)(i db:Nat)(d:Drf)(bv fv:Value)(l:List (Frm×Value))(W:World):Prop where
 obj:W.heap[db]?=some (.cells #[bv,fv,.int .i64 (d.room:Int),.bool d.wants,.bool d.full] 180 (0,0))
 tb:tag db=(i,90)
 ob:OB W bv d.b
 tbv:∀g,bv.ownBlock=some g→tag g=(i,91)
 own:W.ownsRow 0 65 10 fv l.length (zaY l)
 lf:l.map (·.1)=d.fs
 rr:∀x∈l,RR W x.2 x.1.rngs∧∀g,Value.blk x.2=some g→tag g=(i,5)
 tfv:∀g,fv.ownBlock=some g→tag g=(i,92)
structure DExt(i:Nat)(tag tag':Nat→Nat×Nat)(W W':World):Prop where
 old:∀g,g<W.heap.size→tag' g=tag g
 new:∀g,W.heap.size≤g→(∃r,90≤r∧tag' g=(i,r))∨tag' g=(0,0)
 out:zP tag' W'
def zg6(i:Nat)(tag:Nat→Nat×Nat)(g:Nat):Prop:=∃r,90≤r∧tag g=(i,r)
theorem zg.modR{tag tag':Nat→Nat×Nat}{i b:Nat}{c:CS}{V:CV}{W W':World}(h:zg tag i b c V W)(hk:zP tag W)(hi:0<i)(m:Mod (zg6 i tag) W W')(e:∀g,g<W.heap.size→tag' g=tag g):zg tag' i b c V W':=by
 refine h.build (R:=fun r=>90≤r) m (fun g hg=>hg) (fun g hg=>e g (zaA hk (i:=i) (r:=(tag g).2) (by rw[←hg]) hi)) (m.obj (fun⟨r,hr,hx⟩=>?_) h.obj) (.inl ⟨rfl,rfl,rfl,by omega,by omega⟩) (fun k hk=>.inl ⟨rfl,rfl,by omega⟩) (fun k hk=>.inl ⟨rfl,rfl,by omega⟩) (fun k hk=>.inl ⟨rfl,rfl,by omega⟩) (fun k hk=>.inl ⟨rfl,rfl,by omega⟩) (fun k hk=>.inl ⟨rfl,rfl,by omega⟩) (.inl ⟨rfl,rfl,rfl,by omega,by omega⟩) (.inl ⟨rfl,rfl,by omega⟩) (.inl ⟨rfl,rfl,by omega⟩) (.inl ⟨rfl,rfl,by omega⟩);rw[h.tb]at hx;simp at hx;omega
def zpl(tag:Nat→Nat×Nat)(i db:Nat)(W:World)(d:Drf)(f:Frm)(e:Ending)(W':World):Prop :=
 e = .returned (.bool (d.add f).isSome)∧∃tag' bv' fv' l',zae tag' i db ((d.add f).getD d) bv' fv' l' W'∧DExt i tag tag' W W'∧Mod (zg6 i tag) W W'
theorem zp4{tag:Nat→Nat×Nat}{i db:Nat}{d:Drf}{c fv:Value}{l:List (Frm×Value)}{W W1 W2:World}{f:Frm}{v':Value}(h:zae tag i db d c fv l W)(hk:zP tag W)(hi:0<i)(m1:Mod NoB W W1)(m:App W1 c d.b (zC f) v' W2)(e:d.add f=none) :
  zpl tag i db W d f (.returned (.bool false)) W2:=by
 have j:Mod (fun g=>c.ownBlock=some g) W W2:=((m1.mono (fun _ x=>x.elim)).then ((Mod.refl (fun g=>c.ownBlock=some g) W1).grown m.grown (fun g hg=>.inl hg)) (fun g hg=>.inl hg));have a:∀{g r:Nat},tag g=(i,r)→g<W.heap.size:=fun hg=>zaA hk hg hi
 refine⟨by rw[e];rfl,retag tag W W2 (i,91),c,fv,l,?_,⟨fun g hg=>zw hg,fun g hg=>?_,fun g hg=>?_⟩,j.mono (fun g hg=>.inl ⟨91,by decide,h.tbv g hg⟩)⟩
 ·rw[e];show zae _ i db d c fv l W2;exact⟨j.obj (fun x=>zg.apart h.tb (h.tbv _ x) (by decide) rfl) h.obj,by rw[zw (a h.tb),h.tb],m.old,fun g hg=>by rw[zw (a (h.tbv g hg)),h.tbv g hg],j.owns h.own (fun g hg x=>zg.apart (h.tfv g hg) (h.tbv g x) (by decide) rfl),h.lf,
   fun x k=>⟨(h.rr x k).1.mod j (zaB fun g hg y=>zg.apart ((h.rr x k).2 g hg) (h.tbv g y) (by decide) rfl),fun g hg=>by rw[zw (a ((h.rr x k).2 g hg)),(h.rr x k).2 g hg]⟩,fun g hg=>by rw[zw (a (h.tfv g hg)),h.tfv g hg]⟩
 ·by_cases q:g<W2.heap.size
  ·exact .inl ⟨91,by decide,zaj hg q⟩
  ·exact .inr (by simp only[retag,show ¬g<W.heap.size by omega,q,if_neg,not_false_eq_true])
 ·have:=j.size;simp only[retag,show ¬g<W.heap.size by omega,show ¬g<W2.heap.size by omega,if_neg,not_false_eq_true]
theorem zop{tag:Nat→Nat×Nat}{i db:Nat}{d B:Drf}{o fv:Value}{l:List (Frm×Value)}{W W1 W2 p k e:World}{f:Frm}{s v' t:Value}(h:zae tag i db d o fv l W)(hk:zP tag W)(hi:0<i)(m1:Mod NoB W W1)(u:App W1 o d.b (zC f) v' W2)(hd:d.add f=some B)
  (hr:RR W s f.rngs) (v:∀g,Value.blk s=some g→tag g=(i,5)) (G:Mod (fun g=>g=db) W2 p) (j:k.ownsRow 0 65 10 t (l.length+1) (zaY (l++[(f,s)]))) (C:p.grownBy k fv.ownBlock) (w:zaG p fv t) (D:Mod (fun g=>g=db) k e)
  (ho:e.heap[db]?=some (.cells #[v',t,.int .i64 (d.room:Int),.bool B.wants,.bool d.full] 180 (0,0))) (hs3:p.heap.size=W2.heap.size) (hs6:e.heap.size=k.heap.size) :
  zpl tag i db W d f (.returned (.bool true)) e:=by
 have a:∀{g r:Nat},tag g=(i,r)→g<W.heap.size:=fun hg=>zaA hk hg hi
 have H:Mod (fun g=>o.ownBlock=some g) W1 W2:=(Mod.refl (fun g=>o.ownBlock=some g) W1).grown u.grown (fun g hg=>.inl hg);have m2:Mod (fun g=>o.ownBlock=some g) W W2:=(m1.mono (fun _ x=>x.elim)).then H (fun g hg=>.inl hg);have E:Mod (fun g=>fv.ownBlock=some g) p k:=(Mod.refl (fun g=>fv.ownBlock=some g) p).grown C (fun g hg=>.inl hg);have m:Mod (fun g=>g=db∨o.ownBlock=some g∨fv.ownBlock=some g) W e:=(((m2.mono (fun g hg=>.inl (.inr (.inl hg)))).then G (fun g hg=>.inl (.inl hg))).then E (fun g hg=>.inl (.inr (.inr hg)))).then D (fun g hg=>.inl (.inl hg));have F:Mod (fun g=>g=db∨fv.ownBlock=some g) W2 e:=((G.mono (fun g hg=>.inl (.inl hg))).then E (fun g hg=>.inl (.inr hg))).then D (fun g hg=>.inl (.inl hg));have z1:=m1.size;have z2:=H.size;have z5:=E.size;have n:B={ d with b:=d.b++zC f,fs:=d.fs++[f],wants:=d.wants||f.kind != 2 }:=by
  unfold Drf.add at hd;split at hd
  ·cases hd
  ·exact(Option.some.inj hd).symm
 have z:∀x∈l,RR e x.2 x.1.rngs:=fun x c=>(h.rr x c).1.mod m (zaB fun g hg y=>by
  rcases y with y|y|y
  ·exact zg.apart ((h.rr x c).2 g hg) (y ▸ h.tb) (by decide) rfl
  ·exact zg.apart ((h.rr x c).2 g hg) (h.tbv g y) (by decide) rfl
  ·exact zg.apart ((h.rr x c).2 g hg) (h.tfv g y) (by decide) rfl)
 have A:RR e s f.rngs:=hr.mod m (zaB fun g hg y=>by
  rcases y with y|y|y
  ·exact zg.apart (v g hg) (y ▸ h.tb) (by decide) rfl
  ·exact zg.apart (v g hg) (h.tbv g y) (by decide) rfl
  ·exact zg.apart (v g hg) (h.tfv g y) (by decide) rfl)
 refine⟨by rw[hd];rfl,fun g=>if g<W.heap.size then tag g else if g<W2.heap.size then(i,91)else if g<k.heap.size then(i,92)else(0,0),v',t,l++[(f,s)],?_,⟨fun g hg=>if_pos hg,fun g hg=>?_,fun g hg=>?_⟩,m.mono (fun g hg=>.inl ?_)⟩
 ·rw[hd];show zae _ i db B v' t _ e;refine⟨by rw[ho,n],by rw[if_pos (a h.tb),h.tb],?_,fun g hg=>?_,?_,by rw[n,List.map_append,h.lf];rfl,fun x c=>?_,fun g hg=>?_⟩
  ·rw[n];refine F.owns u.own (fun g hg y=>?_);rcases u.at_ g hg with q|q
   ·rcases y with y|y
    ·exact zg.apart (h.tbv g q) (y ▸ h.tb) (by decide) rfl
    ·exact zg.apart (h.tbv g q) (h.tfv g y) (by decide) rfl
   ·rcases y with y|y
    ·have:=a h.tb;omega
    ·have:=a (h.tfv g y);omega
  ·rcases u.at_ g hg with q|q
   ·rw[if_pos (a (h.tbv g q)),h.tbv g q]
   ·have:=zE u.own g hg;simp only[show ¬g<W.heap.size by omega,if_neg,not_false_eq_true,if_pos this]
  ·rw[List.length_append];refine D.owns j (fun g hg y=>?_);have y:g=db:=y;rcases w g hg with q|q
   ·exact zg.apart (h.tfv g q) (y ▸ h.tb) (by decide) rfl
   ·have:=a h.tb;omega
  ·rw[List.mem_append]at c;rcases c with c|c
   ·exact⟨z x c,fun g hg=>by rw[if_pos (a ((h.rr x c).2 g hg)),(h.rr x c).2 g hg]⟩
   ·rw[List.mem_singleton]at c;subst c;exact⟨A,fun g hg=>by rw[if_pos (a (v g hg)),v g hg]⟩
  ·rcases w g hg with q|q
   ·rw[if_pos (a (h.tfv g q)),h.tfv g q]
   ·have:=zE j g hg;simp only[show ¬g<W.heap.size by omega,show ¬g<W2.heap.size by omega,if_neg,not_false_eq_true,if_pos this]
 ·simp only[show ¬g<W.heap.size by omega,if_neg,not_false_eq_true];split
  ·exact .inl ⟨91,by decide,rfl⟩
  ·split
   ·exact .inl ⟨92,by decide,rfl⟩
   ·exact .inr rfl
 ·simp only[show ¬g<W.heap.size by omega,show ¬g<W2.heap.size by omega,show ¬g<k.heap.size by omega,if_neg,not_false_eq_true]
 ·rcases hg with hg|hg|hg
  ·exact⟨90,by decide,by rw[hg,h.tb]⟩
  ·exact⟨91,by decide,h.tbv g hg⟩
  ·exact⟨92,by decide,h.tfv g hg⟩
theorem zeu{tag:Nat→Nat×Nat}{i db:Nat}{d:Drf}{A fv:Value}{l:List (Frm×Value)}{W:World}(h:zae tag i db d A fv l W)(hk:zP tag W)(hi:0<i)(f:Frm)(ra:Option Addr)(rn rc:Nat)(hs:zT f=true)(hr:RR W (.slice ra rn rc) f.rngs)(ht:∀g,Value.blk (.slice ra rn rc)=some g→tag g=(i,5))
  (az:f.rngs.length≤1099511627776) (aA:f.data.length≤35184372088832) (aB:d.b.length≤35184372088832) (hbf:(zC f).length≤35184372088832) (aC:l.length≤1099511627776) :
  Calls Tryz.prog 142 #[.pointer (some ⟨db,0,none⟩),.agg (zh f (.slice ra rn rc))] W (zpl tag i db W d f):=by
 obtain⟨s,P⟩:=nm (Value.slice ra rn rc);rw[P]at hr ht ⊢;obtain⟨W0,B⟩:=nm (W.alloc (.cells (zh f s) 65));have m0:Mod NoB W W0:=by rw[←B];exact(Mod.refl _ _).alloc _
 have o0:zi W0 W.heap.size f s:=by rw[←B];exact heap_alloc_new W _
 have Q:Mod NoB W W0.drew:=m0.drew;have oD:=m0.obj (fun x=>x) h.obj;have aN:db<W.heap.size:=zaA hk h.tb hi;have ka:=zdR A d.b f s W0.drew (Q.owns h.ob (fun _ _ x=>x)) (fun _=>zaB fun g hg x=>zg.apart (ht g hg) (h.tbv g x) (by decide) rfl) (hr.mod Q (zaX.no _)) az aA aB;rw[hs]at ka;have J:¬A.ownBlock=some db:=fun x=>zg.apart h.tb (h.tbv _ x) (by decide) rfl
 have L:¬A.ownBlock=some W.heap.size:=fun x=>by have:=zaA hk (h.tbv _ x) hi;omega
 have ab:¬fv.ownBlock=some db:=fun x=>zg.apart h.tb (h.tfv _ x) (by decide) rfl
 have ac:¬fv.ownBlock=some W.heap.size:=fun x=>by have:=zaA hk (h.tfv _ x) hi;omega
 obtain⟨ba,bc,ad,hb1,hb2,_⟩:=zj h.ob;obtain⟨fa,fc,ae,hf1,hf2,_⟩:=zj h.own;have R:=zb h;have HK:=zb hk;have HR:=zb hr;have HT:=zb ht;have KA:=zb ka;have M0:=zb m0;have S:=zb oD;have T:=zb o0;have aD:=zb B;have af:¬W.heap.size=db:=by omega
 have aO:¬db=W.heap.size:=by omega
 clear h hk hr ht ka m0 oD o0 B Q hs;obtain⟨dw,ah⟩:=nm d.wants;have ai:=zb ah;have aE:=zb ad;have HFV:=zb ae;have aF:=zb P;clear ah ad ae P;go_enter Tryz.func142,Tryz.ntmps142;go_wp2_with fail;rw[aD.out];refine zl 7 (fun w'=>zi w' W.heap.size f s∧w'.heap[db]?=some (.cells #[A,fv,.int .i64 (d.room:Int),.bool d.wants,.bool d.full] 180 (0,0))) (⟨T.out,S.out⟩) ?_;refine GI 0 ?_;iterate 5
  refine GS rfl ?_ ?_ ?_;rotate_left
  ·(intro wx c;(try dsimp only at c);obtain⟨U,hd⟩:=c;obtain⟨y0,y1,y2,y3,y4,y5,y6,y7,y8,y9⟩:=U.cells;have d0:=za (o:=0) hd rfl;have d1:=za (o:=1) hd rfl;go_simp)<;>(try with_reducible rfl)
  try simp only[PS]
 refine zx 5 rfl (fun K t=>?_);go_simp;refine KA.out.mono ?_;rintro e W2 (⟨_,v',rfl,hA⟩|⟨hx,_⟩);rotate_left
 ·cases hx
 have mA:Mod (fun g=>A.ownBlock=some g) W0.drew W2:=(Mod.refl (fun g=>A.ownBlock=some g) W0.drew).grown hA.grown (fun g hg=>.inl hg);have C:zi W2 W.heap.size f s∧W2.heap[db]?=some (.cells #[A,fv,.int .i64 (d.room:Int),.bool d.wants,.bool d.full] 180 (0,0)):=⟨mA.obj L T.out,mA.obj J S.out⟩;refine t.out _ _ C ?_;clear t K;try simp only[PS]
 refine GI 6 ?_;refine GS rfl ?_ ?_ ?_;rotate_left
 ·(intro wx c;(try dsimp only at c);obtain⟨U,hd⟩:=c;obtain⟨y0,y1,y2,y3,y4,y5,y6,y7,y8,y9⟩:=U.cells;have d0:=za (o:=0) hd rfl;have d1:=za (o:=1) hd rfl;go_simp)<;>(try with_reducible rfl)
 try simp only[PS]
 refine zo ?_;obtain⟨va,vc,V,z1,z2,_⟩:=zj hA.own;have HA:=zb hA;have MA:=zb mA;have aG:=zb C;have x2:W2.cell? ⟨db,2,none⟩=some (.int .i64 (d.room:Int)):=za C.2 rfl;obtain⟨N,Y⟩:=nm ((d.b++zC f).length);rw[Y]at V z1;have hNl:N≤70368744177664:=by rw[←Y,List.length_append];omega
 unfold maxLen at z2;have aj:=zb V;clear hA mA C aG;rw[aj.out];by_cases k:d.room<N+4
 ·have a:d.add f=none:=by unfold Drf.add;rw[Y,if_pos k]
  have H:=zb (zp4 R.out HK.out hi M0.out.drew HA.out a);have q1:(d.room:Int)<(N:Int)+4:=by omega
  clear Y k a V;go_wp2_with fail;go_ret;exact H.out
 ·have q1:¬(d.room:Int)<(N:Int)+4:=by omega
  obtain⟨d',a⟩:∃d',d.add f=some d':=by unfold Drf.add;rw[Y,if_neg k];exact⟨_,rfl⟩
  have ak:d'.wants=(d.wants||f.kind != 2):=by
   unfold Drf.add at a;rw[Y,if_neg k]at a;rw[←Option.some.inj a]
  have HW:=zb ak;have al:=zb a;have D:=MA.out.obj J S.out;have am:=MA.out.obj L T.out;have aH:W2.cell? ⟨db,0,none⟩=some A:=za D rfl;have f2:∀j,W2.frozen? ⟨db,j,none⟩=false:=fun j=>zd D
  obtain⟨n,u⟩:=nm (W2.setCell ⟨db,0,none⟩ v');have m3:Mod (fun g=>g=db) W2 n:=by rw[←u];exact(Mod.refl (fun g=>g=db) _).setCell (p:=⟨db,0,none⟩) (.inl rfl) _
  have ao:n.heap.size=W2.heap.size:=by rw[←u];simp
  have E:n.heap[db]?=some (.cells #[v',fv,.int .i64 (d.room:Int),.bool d.wants,.bool d.full] 180 (0,0)):=by rw[←u];exact zc D
  have F:zi n W.heap.size f s:=m3.obj af am;have ap:Mod (fun g=>A.ownBlock=some g) W W2:=(M0.out.drew.mono (fun _ x=>x.elim)).then MA.out (fun g hg=>.inl hg);have aq:n.ownsRow 0 65 10 fv l.length (zaY l):=m3.owns (ap.owns R.out.own (fun g hg x=>zg.apart (R.out.tfv g hg) (R.out.tbv g x) (by decide) rfl)) (fun g hg x=>zg.apart (R.out.tfv g hg) (x ▸ R.out.tb) (by decide) rfl);obtain⟨v5,M,Z,q,r,ar⟩:=zjB n.drew fv l f ra rn rc aq aC;rw[aF.out]at Z q;obtain⟨fa5,fc5,au,_⟩:=zj q;have v:n.grownBy M fv.ownBlock:=⟨r.os,r.tape,r.output,r.size,r.block⟩;have O:zaG n fv v5:=ar;have m5:Mod (fun g=>fv.ownBlock=some g) n M:=(Mod.refl (fun g=>fv.ownBlock=some g) n).grown v (fun g hg=>.inl hg);have w:=m5.obj ab E;have aa:=m5.obj ac F;have f5:∀j,M.frozen? ⟨db,j,none⟩=false:=fun j=>zd w
  have c51:M.cell? ⟨db,1,none⟩=some fv:=za w rfl;obtain⟨G,y⟩:=nm (M.setCell ⟨db,1,none⟩ v5);have m6:Mod (fun g=>g=db) M G:=by rw[←y];exact(Mod.refl (fun g=>g=db) _).setCell (p:=⟨db,1,none⟩) (.inl rfl) _
  have I:G.heap[db]?=some (.cells #[v',v5,.int .i64 (d.room:Int),.bool d.wants,.bool d.full] 180 (0,0)):=by rw[←y];exact zc w
  have av:zi G W.heap.size f s:=m6.obj af aa;have c63:G.cell? ⟨db,3,none⟩=some (.bool dw):=by rw[←ai.out];exact za I rfl
  have k60:G.cell? ⟨W.heap.size,0,none⟩=some (.int .i64 f.kind):=av.cells.1;have f6:∀j,G.frozen? ⟨db,j,none⟩=false:=fun j=>zd I
  have H:∀x,G.setCell ⟨db,3,none⟩ (.bool x)=G.setCell ⟨db,3,none⟩ (.bool x)→x=(dw||f.kind != 2)→zpl tag i db W d f (.returned (.bool true)) (G.setCell ⟨db,3,none⟩ (.bool x)):=fun x _ hx=>by
   refine zop R.out HK.out hi M0.out.drew HA.out al.out HR.out HT.out m3 q v O (m6.setCell (p:=⟨db,3,none⟩) (.inl rfl) _) ?_ ao (by rw[←y];simp);rw[zc I,HW.out,ai.out,←hx];rfl
  have HH:=zb H;have aI:Hid (zi n.drew W.heap.size f s∧n.drew.heap[db]?=some (.cells #[v',fv,.int .i64 (d.room:Int),.bool d.wants,.bool d.full] 180 (0,0))):=⟨F,E⟩;have aJ:Hid (∀X,Mod NoB n X→zi X W.heap.size f s∧X.heap[db]?=some (.cells #[v',fv,.int .i64 (d.room:Int),.bool d.wants,.bool d.full] 180 (0,0))):=fun X m=>⟨m.obj (fun x=>x) F,m.obj (fun x=>x) E⟩
  have aK:Hid (zi M W.heap.size f s∧M.heap[db]?=some (.cells #[v',fv,.int .i64 (d.room:Int),.bool d.wants,.bool d.full] 180 (0,0))):=⟨aa,w⟩;have aL:=zb u;have aM:=zb y;have aw:=zb au;have ax:=zb Z;clear H Y k a ak D am u m3 ao E F ap aq Z q r v ar O m5 w aa y m6 I av au;have ay:=aE.out;rw[ay]at aH;go_wp2_with fail;rw[←aj.out,aL.out];refine zl 10 (fun w'=>zi w' W.heap.size f s∧w'.heap[db]?=some (.cells #[v',fv,.int .i64 (d.room:Int),.bool d.wants,.bool d.full] 180 (0,0))) (aI.out) ?_;refine GI 0 ?_;iterate 6
   refine GS rfl ?_ ?_ ?_;rotate_left
   ·(intro wx c;(try dsimp only at c);obtain⟨U,hd⟩:=c;obtain⟨y0,y1,y2,y3,y4,y5,y6,y7,y8,y9⟩:=U.cells;have d0:=za (o:=0) hd rfl;have d1:=za (o:=1) hd rfl;go_simp)<;>(try with_reducible rfl)
   try simp only[PS]
  refine zx 6 rfl (fun K t=>?_);go_simp;refine t.out _ _ (aJ.out _ ((Mod.refl NoB n).drew.alloc _)) ?_;clear t K;try simp only[PS]
  refine zx 7 rfl (fun K t=>?_);refine zF rfl _ _ _ _ rfl _ _ _ rfl rfl ax.out ?_;refine t.out _ _ aK.out ?_;clear t K;try simp only[PS]
  refine GI 8 ?_;iterate 2
   refine GS rfl ?_ ?_ ?_;rotate_left
   ·(intro wx c;(try dsimp only at c);obtain⟨U,hd⟩:=c;obtain⟨y0,y1,y2,y3,y4,y5,y6,y7,y8,y9⟩:=U.cells;have d0:=za (o:=0) hd rfl;have d1:=za (o:=1) hd rfl;go_simp)<;>(try with_reducible rfl)
   try simp only[PS]
  rw[aw.out];refine zQ rfl (fun K t=>?_);go_simp;refine t.out _ _ ?_;clear t K;try simp only[PS]
  refine zo ?_;rw[←aw.out,aM.out];clear ax;cases dw
  ·have z:=zb (HH.out (f.kind != 2) trivial (by simp));go_wp2_with fail;go_ret;exact z.out
  ·have z:=zb (HH.out true trivial (by simp));go_wp2_with fail;go_ret;exact z.out
end Go.Proofs.YtddfdpbaiedcjaaGreatDoor
