/- A part of Urgent's proof. Conditions: none. Part 17 of 32. -/
import Derived.Test.YtddfdpbaiedcjaaGreatDoorUrg16
import Derived.Shelf.RegionOpen
set_option maxRecDepth 100000
set_option maxHeartbeats 16000000
set_option linter.all false
namespace Go.Proofs.YtddfdpbaiedcjaaGreatDoor
open Go.RowKit Go.Shelf
attribute [local go_sem] Oper.semAt_some
def OnlyN(Q:Exit→Act→World→Prop):Exit→Act→World→Prop:=fun e a w=>e = .normal∧Q .normal a w
theorem zB{P:Program}{c:Code}{Q:Exit→Act→World→Prop}{a:Act}{w:World}(h:c.wp P (OnlyN Q) a w):c.wp P Q a w :=
 wp_mono h (fun e a w k=>by rw[k.1];exact k.2)
def zhn(s:zaQ)(b o:Nat)(v:Value)(w w':World)(v':Value):Prop :=
 w'.ownsRow 0 214 2 v' s.rs.length (zn s.rs)∧w'.heap[b]?=((w.setCell ⟨b,o,none⟩ v').setCell ⟨b,o+1,none⟩ (.int .u64 (s.fl:Int))).heap[b]?∧Mod (fun k=>k=b∨v.ownBlock=some k) w w'∧zaG w v v'
structure AgJ(s:zaQ)(b o e0:Nat)(cs0:Array Value)(v:Value)(w:World)(db rb:Nat)(rec:Loop)(pre:zD)(v':Value)(X:World):Prop where
 own:X.ownsRow 0 214 2 v' (s.adds pre).rs.length (zn (s.adds pre).rs)
 ob:X.heap[b]?=some (.cells ((cs0.setIfInBounds o v').setIfInBounds (o+1) (.int .u64 ((s.adds pre).fl:Int))) e0 (0,0))
 m:Mod (fun k=>k=b∨v.ownBlock=some k) w X
 nw:zaG w v v'
 ok:(s.adds pre).Ok
 mo:(s.adds pre).most=s.most
 df:X.heap[db]?=some (.deferred (some []))
 rc:X.heap[rb]?=some (.loop rec)
theorem zW{w:World}{base e sz n:Nat}{v:Value}{xs:List Value}(h:w.ownsRow base e sz v n xs){g:Nat}(hg:v.ownBlock=some g):∃cur,w.heap[g]?=some (.cells cur e (0,0)):=by
 rcases h.2 with⟨rfl,_⟩|⟨g',c,cur,rfl,_,h1,_⟩
 ·simp[Value.ownBlock]at hg
 ·simp[Value.ownBlock]at hg;subst hg;exact⟨cur,h1⟩
theorem AgJ.own_from{s:zaQ}{b o e0:Nat}{d:Array Value}{v:Value}{w:World}{db rb B:Nat}{f:Loop}(hB:w.heap.size≤B)(hb:b<B)(hd:db<B)(hr:rb<B):OwnFrom B (fun pre X=>∃v',AgJ s b o e0 d v w db rb f pre v' X):=by
 rintro pre A C row ⟨v',h⟩ hg a;have c:∀k,k<B→some k≠row:=fun k hk e=>by have:=(a k e.symm).1;omega
 have n:Mod (fun k=>row=some k) A C:=(Mod.refl _ _).grown hg (fun k hk=>.inl hk);refine⟨v',n.owns h.own (fun g j hx=>?_),(hg.block _ (Array.getElem?_eq_some_iff.1 h.ob).1 (c _ hb)).trans h.ob,h.m.then n (fun i hi=>.inr (by have:=(a i hi).1;omega)),h.nw,h.ok,h.mo,?_,?_⟩
 ·obtain⟨cur,hc⟩:=zW h.own j;obtain⟨_,ob,ho,l⟩:=a g hx;rw[ho]at hc;cases hc;cases l
 ·exact(hg.block _ (Array.getElem?_eq_some_iff.1 h.df).1 (c _ hd)).trans h.df
 ·exact(hg.block _ (Array.getElem?_eq_some_iff.1 h.rc).1 (c _ hr)).trans h.rc
theorem zmq(cs:Array Value)(o:Nat)(a x b y:Value):(((cs.setIfInBounds o a).setIfInBounds (o+1) x).setIfInBounds o b).setIfInBounds (o+1) y=(cs.setIfInBounds o b).setIfInBounds (o+1) y:=by
 apply Array.ext_getElem?;intro i;simp only[Array.getElem?_setIfInBounds,Array.size_setIfInBounds];by_cases h1:o+1=i
 ·simp[h1]
 ·by_cases h2:o=i
  ·simp[h1,h2]
  ·simp[h1,h2]
theorem AgJ.set{s:zaQ}{b o e0:Nat}{a:Array Value}{v:Value}{w:World}{db rb:Nat}{c:Loop}{pre:zD}{v':Value}{X:World}(h:AgJ s b o e0 a v w db rb c pre v' X)(hz:o+2<a.size)(h2:a[o+2]?=some (.int .i64 (s.most:Int))):zbz X b o v' (s.adds pre).rs (s.adds pre).fl (s.adds pre).most:=by
 refine⟨za h.ob ?_,za h.ob ?_,za h.ob ?_,h.own,by have:=h.ok.rl;have:=h.ok.most.2;omega,fun j=>zd h.ob⟩
 ·simp[Array.getElem?_setIfInBounds];omega
 ·simp[Array.getElem?_setIfInBounds];omega
 ·simp[Array.getElem?_setIfInBounds,h.mo];have:=h2;simpa using this
theorem zdE:∀(l:zD) (lo hi:Nat) (t:zaQ),(zbI l lo hi t).most=t.most
 | [],_,_,_=>rfl
 | r::l,lo,hi,t=>by
  unfold zbI;rw[zdE l lo hi];split
  ·split
   ·rw[zbs,zbs]
   ·rw[zbs]
  ·split
   ·rw[zbs]
   ·rfl
theorem zeQ:∀(l:zD) (t:zaQ),(t.adds l).most=t.most
 | [],_=>rfl
 | r::l,t=>by
  have:t.adds (r::l)=(t.add r.1 r.2).adds l:=rfl;rw[this,zeQ l,zbs]
theorem zeR(t:zaQ)(l:zD)(r:Nat×Nat):t.adds (l++[r])=(t.adds l).add r.1 r.2:=by
 simp[zaQ.adds]
structure zt(tag:Nat→Nat×Nat)(i b:Nat)(W0:World)(V0:CV)(c:CS)(tag':Nat→Nat×Nat)(V':CV)(W':World):Prop where
 c:zg tag' i b c V' W'
 e:Ext i tag tag' W0 W'
 m:Mod (zaf i tag) W0 W'
 p:0<i
 ft:V'.ft=V0.ft∧V'.fts=V0.fts
theorem zt.sent{tag:Nat→Nat×Nat}{i b:Nat}{w:World}{x:CV}{c:CS}{tag':Nat→Nat×Nat}{d:CV}{W' W'':World}{v':Value}{s:zaQ}(h:zt tag i b w x c tag' d W'){k:Nat}(hk:k<8)(ha:zhn s b (9+15*k+1) (d.ws k) W' W'' v')(hm:s.most=(c.ws k).sent.most) :
  ∃tag2 V2,zt tag i b w x { c with ws:=upd c.ws k { c.ws k with sent:=s } } tag2 V2 W''∧∀g,g<W'.heap.size→tag2 g=tag' g:=by
 obtain⟨l,n,f,v⟩:=ha;have z:=h.p;have o:∀{g r:Nat},tag' g=(i,r)→g<W'.heap.size:=fun hg=>zaA h.e.out hg z
 have t:∀g,(tag' g).1=i→retag tag' W' W'' (i,20+k) g=tag' g:=fun g hg=>zw (o (r:=(tag' g).2) (by rw[←hg]))
 have A:∀g,(g=b∨(d.ws k).ownBlock=some g)→∃r,(r=1∨r=20+k)∧tag' g=(i,r):=fun g hg=>by
  rcases hg with hg|hg
  ·exact⟨1,.inl rfl,by rw[hg,h.c.tb]⟩
  ·exact⟨20+k,.inr rfl,h.c.tws k hk g hg⟩
 refine⟨retag tag' W' W'' (i,20+k),{ d with ws:=upd d.ws k v' },⟨?_,h.e.trans (zbj f.size) h.m.size,zan h.e h.m (f.mono (fun g hg=>.inl ?_)),z,h.ft⟩,fun g hg=>zw hg⟩
 ·refine h.c.build (R:=fun r=>r=1∨r=20+k) f A t ?_ (.inl ⟨rfl,rfl,rfl,by omega,by omega⟩) (fun q u=>.inl ⟨?_,rfl,by omega⟩) (fun q u=>?_) (fun q u=>.inl ⟨?_,rfl,by omega⟩) (fun q u=>.inl ⟨rfl,rfl,by omega⟩) (fun q u=>.inl ⟨rfl,rfl,by omega⟩) (.inl ⟨rfl,rfl,rfl,by omega,by omega⟩) (.inl ⟨rfl,rfl,by omega⟩) (.inl ⟨rfl,rfl,by omega⟩) (.inl ⟨rfl,rfl,by omega⟩)
  ·rw[n,zc (zc h.c.obj)];simp only[List.setIfInBounds_toArray];have e1:=zar c c d { d with ws:=upd d.ws k v' } (k:=k) (j:=1) v' hk (by decide) (fun q _=>by
    by_cases a:q=k
    ·subst a;simp only[zf,if_true];rfl
    ·simp only[ze _ _ a,if_neg a]) rfl rfl rfl
   rw[e1];have e2:=zar c { c with ws:=upd c.ws k { c.ws k with sent:=s } } { d with ws:=upd d.ws k v' } { d with ws:=upd d.ws k v' } (k:=k) (j:=2) (.int .u64 (s.fl:Int)) hk (by decide) (fun q _=>by
    by_cases a:q=k
    ·subst a;simp only[zf,if_true,zbn,hm];rfl
    ·simp only[ze _ _ a,if_neg a]) rfl rfl rfl
   rw[show 9+15*k+1+1=9+15*k+2 from rfl,e2]
  ·by_cases a:q=k
   ·subst a;simp only[zf]
   ·simp only[ze _ _ a]
  ·by_cases a:q=k
   ·subst a;simp only[zf];refine .inr ⟨l,fun g hg=>?_⟩;rcases v g hg with y|y
    ·rw[zw (o (h.c.tws q hk g y)),h.c.tws q hk g y]
    ·exact zaj y (zE l g hg)
   ·exact .inl ⟨by simp only[ze _ _ a],by simp only[ze _ _ a],by omega⟩
  ·by_cases a:q=k
   ·subst a;simp only[zf]
   ·simp only[ze _ _ a]
 ·obtain⟨r,hr,e⟩:=A g hg;exact zbk e (by omega)
theorem zt.mod0{tag:Nat→Nat×Nat}{i b:Nat}{a:World}{d:CV}{c:CS}{tag':Nat→Nat×Nat}{f:CV}{W' W'':World}(h:zt tag i b a d c tag' f W')(m:Mod NoB W' W''):zt tag i b a d c tag' f W'' :=
 ⟨h.c.mod0 m,⟨h.e.old,h.e.new,h.e.out.mod m⟩,h.m.trans (m.mono (fun _ x=>x.elim)),h.p,h.ft⟩
theorem zt.free{S:Nat→Prop}{tag:Nat→Nat×Nat}{i b:Nat}{a:World}{d:CV}{c:CS}{tag':Nat→Nat×Nat}{f:CV}{W' W'':World}(h:zt tag i b a d c tag' f W')(m:Mod S W' W'')(j:∀g,S g→tag' g=(0,0)∧a.heap.size≤g):zt tag i b a d c tag' f W'':=by
 have hp:=h.p;exact⟨h.c.mod m (fun g hg=>by rw[(j g hg).1];simp;omega) (fun _ _=>rfl),⟨h.e.old,h.e.new,h.e.out.mod m⟩,h.m.then m (fun g hg=>.inr (j g hg).2),h.p,h.ft⟩
theorem zt.store{tag:Nat→Nat×Nat}{i b:Nat}{d:World}{f:CV}{c c':CS}{tag':Nat→Nat×Nat}{a:CV}{W':World}(h:zt tag i b d f c tag' a W')(j:Nat)(v:Value)(hc:(zr c a).set j v=zr c' a)(s:zbH c c'):zt tag i b d f c' tag' a (W'.setCell ⟨b,j,none⟩ v):=by
 have g:Mod (fun q=>q=b) W' (W'.setCell ⟨b,j,none⟩ v):=(Mod.refl (fun q=>q=b) _).setCell (p:=⟨b,j,none⟩) (.inl rfl) _;exact⟨h.c.store j v hc s,⟨h.e.old,h.e.new,h.e.out.mod g⟩,zan h.e h.m (g.mono (fun q hq=>.inl (zbk (r:=1) (by rw[show q=b from hq];exact h.c.tb) (by decide)))),h.p,h.ft⟩
theorem zt.storeW{tag:Nat→Nat×Nat}{i b:Nat}{d:World}{f:CV}{c:CS}{tag':Nat→Nat×Nat}{a:CV}{W':World}{k:Nat}{y:WS}(h:zt tag i b d f { c with ws:=upd c.ws k y } tag' a W')(hk:k<8)(j:Nat)(hj:j<15)(v:Value)(x:WS)(hx:zbn x (a.wb k) (a.ws k) (a.wc k)=(zbn y (a.wb k) (a.ws k) (a.wc k)).set j v)(h1:x.b=y.b)(h2:x.sent.rs=y.sent.rs)(h3:x.came.rs=y.came.rs) :
  zt tag i b d f { c with ws:=upd c.ws k x } tag' a (W'.setCell ⟨b,9+15*k+j,none⟩ v):=by
 have g:Mod (fun q=>q=b) W' (W'.setCell ⟨b,9+15*k+j,none⟩ v):=(Mod.refl (fun q=>q=b) _).setCell (p:=⟨b,_,none⟩) (.inl rfl) _;exact⟨h.c.storeW2 hk j hj v x hx h1 h2 h3,⟨h.e.old,h.e.new,h.e.out.mod g⟩,zan h.e h.m (g.mono (fun q hq=>.inl (zbk (r:=1) (by rw[show q=b from hq];exact h.c.tb) (by decide)))),h.p,h.ft⟩
theorem zfs{w:World}{D b j:Nat}{o:Obj}{v:Value}(h:b≠D):(w.setCell ⟨b,j,none⟩ v).putObj D o=(w.putObj D o).setCell ⟨b,j,none⟩ v:=by
 simp only[World.setCell,World.putObj]
 congr 1
 apply Array.ext_getElem?;intro q;simp only[Array.getElem?_modify,Array.getElem?_setIfInBounds,Array.size_modify];by_cases h1:D=q
 ·subst h1;simp[h]
 ·by_cases h2:b=q
  ·subst h2;simp[h1]
  ·simp[h1,h2]
def zcm(tag:Nat→Nat×Nat)(i b:Nat)(W0:World)(V0:CV)(c:CS)(e:Ending)(W':World):Prop:=e = .returned (.tuple #[])∧∃tag' V',zt tag i b W0 V0 c tag' V' W'
structure AgOk(c:CS)(f:Frm)(k:Nat):Prop where
 lt:k<8
 st:f.stream=(k:Int)
 sent:(c.ws k).sent.Ok
 came:(c.ws k).came.Ok
 end_:f.off+f.data.length≤zA
 dl:f.data.length≤1099511627776
theorem zg.cameAt{tag:Nat→Nat×Nat}{i b:Nat}{c:CS}{V:CV}{W:World}(h:zg tag i b c V W){k:Nat}(hk:k<8)(hl:(c.ws k).came.rs.length≤1099511627776):zbz W b (9+15*k+4) (V.wc k) (c.ws k).came.rs (c.ws k).came.fl (c.ws k).came.most :=
 ⟨h.w (j:=4) hk rfl,h.w (j:=5) hk rfl,h.w (j:=6) hk rfl,h.wc k hk,hl,fun j=>h.fz j⟩
theorem zkv{tag:Nat→Nat×Nat}{i b:Nat}{W0:World}{V0:CV}{c:CS}{ak:Nat→Nat×Nat}{V:CV}{W:World}(h:zt tag i b W0 V0 c ak V W)(f:Frm)(rv:Value)(k:Nat)(ok:AgOk c f k)(b7:f.kind=4)(b8:∃a n cap,rv = .slice a n cap) :
  Calls Tryz.prog 80 #[.pointer (some ⟨b,0,none⟩),.agg (zh f rv)] W (zcm tag i b W0 V0 { c with ws:=upd c.ws k ((c.ws k).again f) }):=by
 have hk:=ok.lt;have bk:=ok.st;obtain⟨ra,rn,aO,rfl⟩:=b8;obtain⟨x,hx⟩:=nm (c.ws k);rw[hx];have HX:=zb hx;obtain⟨fr,b9⟩:=nm (Value.slice ra rn aO);have ca:=ok;have S:=zb ok;have HH:=zb h;obtain⟨off,ac⟩:=nm f.off;obtain⟨DL,aD⟩:=nm f.data.length;have b1:=ok.end_;have b2:=ok.dl;rw[ac,aD]at b1;rw[aD]at b2;unfold zA at b1;have cc:=zb ac;have bm:=zb aD;have d0:(0:Int)≤k:=by omega
 have d8:(k:Int)<8:=by omega
 obtain⟨W1,al⟩:=nm (W.alloc (.cells (zh f (.slice ra rn aO)) 65));have m1:Mod NoB W W1:=by rw[←al];exact(Mod.refl _ _).alloc _
 have aE:zi W1 W.heap.size f (.slice ra rn aO):=by rw[←al];exact heap_alloc_new W _
 have T:W1.heap.size=W.heap.size+1:=by rw[←al];simp
 obtain⟨fb,bn⟩:=nm W.heap.size;rw[bn]at aE T;have HF1:=zb aE;have cd:=zb al;have am:=zb bn;have M1:=zb m1;have bo:=zb T;obtain⟨y0,y1,y2,y3,y4,y5,y6,y7,y8,y9⟩:=aE.cells;rw[b7]at y0;rw[bk]at y1;rw[ac]at y2;clear h ok hx b9 ac aD m1 aE T al ca bk;refine(callsIn_wide (n:=8)).1 ?_;refine callsIn_of_wp_marks Tryz.func80 rfl trivial ?_ rfl;simp only[Tryz.ntmps80,List.size_toArray,List.length_cons,List.length_nil,Nat.reduceAdd,Nat.reduceSub,Array.replicate_succ,Array.replicate_zero,List.push_toArray,List.append_toArray,List.nil_append,List.cons_append];refine wpIn_wide.2 ?_;go_upto_region 1 with fail;rw[cd.out];have T:W1.heap.size=fb+1:=bo.out;obtain⟨F,aF⟩:=nm ((W1.alloc (.cells #[.pointer (some ⟨b,9+k*15,none⟩)] 225)).drew);have HW3:=zb aF;go_upto_region 3 with fail
 go_cut [4]from 12 to 112 (fun pv wx=>pv = .pointer (some ⟨fb+1,0,none⟩)∧wx=F)
 case first =>
  refine zB ?_;refine zl 7 (fun w'=>w'.cell? ⟨fb,1,none⟩=some (.int .i64 (k:Int))) (y1) ?_;refine GI 0 ?_;iterate 6
   refine GS rfl ?_ ?_ ?_;rotate_left
   ·(intro wx J;(try dsimp only at J);go_simp)<;>(try with_reducible rfl)
   try simp only[PS]
  refine zx 6 rfl (fun K hK=>?_);go_simp;have ce:∀o,(W1.drew.alloc o).cell? ⟨fb,1,none⟩=some (.int .i64 (k:Int)):=fun o=>((Mod.refl NoB W1.drew).alloc o).cell (a:=⟨fb,1,none⟩) (fun x=>x) y1
  refine hK.out _ _ (ce _) ?_;clear hK K;try simp only[PS]
  refine zQ rfl (fun K hK=>?_);have hnb:∀u,((W1.drew.alloc (.cells #[.pointer none] 225)).cell? ⟨fb+1,0,none⟩=some (.pointer none))∧(W1.drew.alloc (.cells #[.pointer none] 225)).frozen? ⟨fb+1,0,none⟩=u→True:=fun _ _=>trivial
  have bp:(W1.drew.alloc (.cells #[.pointer none] 225)).heap[fb+1]?=some (.cells #[.pointer none] 225 (0,0)):=by
   rw[←T];exact heap_alloc_new W1.drew _
  have z1:=za (o:=0) bp rfl;have z2:∀p,(W1.drew.alloc (.cells #[.pointer none] 225)).frozen? ⟨fb+1,p,none⟩=false:=fun p=>zd bp
  go_simp;refine hK.out _ _ ?_;clear hK K;try simp only[PS]
  refine zo ?_;refine⟨rfl,?_⟩;go_wp2_with fail;go_meet;exact⟨rfl,rfl⟩
 case rest =>
 obtain⟨rfl,hw⟩:=hcut;have hw:=hw.symm;subst hw;have af:Mod NoB W1 F:=by rw[←aF];exact((Mod.refl _ _).alloc _).drew
 have bq:F.heap.size=fb+2:=by rw[←aF];simp[World.drew,bo.out]
 have bt:F.cell? ⟨fb+1,0,none⟩=some (.pointer (some ⟨b,9+k*15,none⟩)):=by
  rw[←aF];have:=heap_alloc_new W1 (.cells #[.pointer (some ⟨b,9+k*15,none⟩)] 225);rw[T]at this;exact za (o:=0) this rfl
 have z2:=af.cell (a:=⟨fb,2,none⟩) (fun x=>x) y2;have z5:=af.cell (a:=⟨fb,5,none⟩) (fun x=>x) y5;have z8:=af.cell (a:=⟨fb,8,none⟩) (fun x=>x) y8;have O:=zb (HH.out.mod0 (M1.out.trans af));have M3:=zb (M1.out.trans af);have cg:(zq f.data).size=DL:=by rw[zJ];exact bm.out
 have aG:=ziQ x.sent b (9+15*k+1) off (off+DL) (V.ws k) F.drew (by
  rw[←HX.out];exact(O.out.mod0 (Mod.refl NoB F).drew).c.sentAt hk (by have:=S.out.sent.rl;have:=S.out.sent.most.2;omega)) (by rw[←HX.out];exact S.out.sent) (by unfold zA;omega) (by unfold zA;omega)
 rw[Nat.mul_comm 15 k]at aG;have bu:((off+DL:Nat):Int)=(off:Int)+DL:=by omega
 rw[bu]at aG;have ci:=zb aG;have w1:F.cell? ⟨b,9+k*15+1,none⟩=some (V.ws k):=by rw[Nat.mul_comm k 15];exact O.out.c.w (j:=1) hk rfl
 have w2:F.cell? ⟨b,9+k*15+2,none⟩=some (.int .u64 ((c.ws k).sent.fl:Int)):=by rw[Nat.mul_comm k 15];exact O.out.c.w (j:=2) hk rfl
 have w3:F.cell? ⟨b,9+k*15+3,none⟩=some (.int .i64 ((c.ws k).sent.most:Int)):=by rw[Nat.mul_comm k 15];exact O.out.c.w (j:=3) hk rfl
 have cj:IntKind.u64.wrap (DL:Int)=(DL:Int):=by rw[IntKind.wrap_u64];omega
 have ck:IntKind.u64.wrap ((off:Int)+DL)=(off:Int)+DL:=by rw[IntKind.wrap_u64];omega
 have aP:=zb bt;have aQ:=zb bq;have bv:=zb (And.intro w1 (And.intro w2 w3));clear af y1 y2 y3 y4 y5 y6 y7 y8 y9 aG bq T bu w1 w2 w3;go_upto_region 4 with fail
 go_cut []from 12 to 112 (fun wx=>∃(N:Nat→Nat×Nat) (L:CV),Hid (zt tag i b W0 V0 { c with ws:=upd c.ws k { c.ws k with sent:=x.sent.without off (off+DL) } } N L wx)∧Hid ((∀g,g<F.heap.size→N g=ak g)∧Mod (fun g=>g=b) F wx∧(x.sent.without off (off+DL)).Ok∧(x.sent.without off (off+DL)).most=(c.ws k).sent.most))
 case first =>
  refine zB ?_;refine zl 16 (fun w'=>w'.cell? ⟨fb+1,0,none⟩=some (.pointer (some ⟨b,9+k*15,none⟩))∧w'.cell? ⟨fb,2,none⟩=some (.int .u64 (off:Int))∧w'.cell? ⟨fb,8,none⟩=some (.string (zq f.data))) (⟨bt,z2,z8⟩) ?_;refine GI 0 ?_;iterate 13
   refine GS rfl ?_ ?_ ?_;rotate_left
   ·(intro wx J;(try dsimp only at J);obtain⟨f1,f2,f8⟩:=J;go_simp)<;>(try with_reducible rfl)
   try simp only[PS]
  refine zx 13 rfl (fun K hK=>?_);go_simp;refine ci.out.mono ?_;rintro e W4 ⟨v4,rfl,aR,aS,m4⟩;obtain⟨aT,aU,co,_⟩:=zj aR;have M4:=zb m4;have mm:Mod NoB F W4:=(Mod.refl NoB F).drew.trans m4;refine hK.out _ _ ⟨mm.cell (a:=⟨fb+1,0,none⟩) (fun x=>x) aP.out,mm.cell (a:=⟨fb,2,none⟩) (fun x=>x) z2,mm.cell (a:=⟨fb,8,none⟩) (fun x=>x) z8⟩ ?_;clear hK K;try simp only[PS]
  refine GI 14 ?_;iterate 2
   refine GS rfl ?_ ?_ ?_;rotate_left
   ·(intro wx J;(try dsimp only at J);obtain⟨f1,f2,f8⟩:=J;go_simp)<;>(try with_reducible rfl)
   try simp only[PS]
  refine zQ rfl (fun K hK=>?_);have mm:Mod NoB F W4:=(Mod.refl NoB F).drew.trans M4.out;obtain⟨w1,w2,w3⟩:=bv.out;have q1:=mm.cell (a:=⟨b,_,none⟩) (fun x=>x) w1;have q2:=mm.cell (a:=⟨b,_,none⟩) (fun x=>x) w2;have q3:=mm.cell (a:=⟨b,_,none⟩) (fun x=>x) w3;have qf:∀p,W4.frozen? ⟨b,p,none⟩=false:=fun p=>zd (mm.obj (fun x=>x) O.out.c.obj)
  have qf2:∀p v p',(W4.setCell ⟨b,p,none⟩ v).frozen? ⟨b,p',none⟩=false:=fun p v p'=>zd (zc (mm.obj (fun x=>x) O.out.c.obj))
  have qf3:∀p v p2 v2 p',((W4.setCell ⟨b,p,none⟩ v).setCell ⟨b,p2,none⟩ v2).frozen? ⟨b,p',none⟩=false:=fun p v p2 v2 p'=>zd (zc (zc (mm.obj (fun x=>x) O.out.c.obj)))
  subst co;clear w1 w2 w3 mm;go_simp;refine hK.out _ _ ?_;clear hK K;try simp only[PS]
  refine zo ?_;have hb3:b<F.heap.size:=zk bv.out.1;have ad:(x.sent.without off (off+DL)).most=(c.ws k).sent.most:=by rw[HX.out];exact zdE _ _ _ _
  obtain⟨l,G⟩:=nm (x.sent.without off (off+DL));rw[G]at aR aS ad ⊢;have ao:=zb G;have aV:l.Ok:=by
   rw[←G];exact zdd _ _ _ _ (fun r hr=>by
    obtain⟨j,s⟩:=List.getElem?_of_mem hr;have aW:=(List.getElem?_eq_some_iff.1 s).1;have e:=zl0 aW;rw[s]at e;cases e;rw[←HX.out]at aW ⊢;exact S.out.sent.hi j aW) (zbq _ (by rw[←HX.out];exact S.out.sent.most))
  obtain⟨H,ap⟩:=nm ((((W4.setCell ⟨b,9+k*15+1,none⟩ (.slice aT l.rs.length aU)).setCell ⟨b,9+k*15+1+1,none⟩ (.int .u64 (l.fl:Int))).setCell ⟨b,9+k*15+1+2,none⟩ (.int .i64 (l.most:Int))));have aX:Mod (fun g=>g=b) W4 H:=by
   rw[←ap];exact(((Mod.refl (fun g=>g=b) W4).setCell (p:=⟨b,_,none⟩) (.inl rfl) _).setCell (p:=⟨b,_,none⟩) (.inl rfl) _).setCell (p:=⟨b,_,none⟩) (.inl rfl) _
  have aY:Mod NoB F.drew W4:=M4.out;have Q:zhn l b (9+15*k+1) (V.ws k) F.drew H (.slice aT l.rs.length aU):=by
   refine⟨aX.owns aR (fun g hg x=>?_),?_,(aY.mono (fun _ x=>x.elim)).trans (aX.mono (fun g hg=>.inl (.inl hg))),fun g hg=>.inr (aS g hg)⟩
   ·have:=aS g hg;have x:g=b:=x;have e:F.drew.heap.size=F.heap.size:=rfl;omega
   ·have o3:F.drew.heap[b]?=some (.cells (zr c V).toArray 127 (0,0)):=O.out.c.obj;have o4:=aY.obj (fun x=>x) o3;have ep:9+k*15+1=9+15*k+1:=by omega
    rw[←ap,ep];have cp:((W4.setCell ⟨b,9+15*k+1,none⟩ (.slice aT l.rs.length aU)).setCell ⟨b,9+15*k+1+1,none⟩ (.int .u64 (l.fl:Int))).cell? ⟨b,9+15*k+1+2,none⟩=some (.int .i64 (l.most:Int)):=by
     refine za (zc (zc o4)) ?_;have h3:(zr c V)[9+15*k+3]?=some (.int .i64 ((c.ws k).sent.most:Int)):=zfD c V hk rfl;rw[Array.getElem?_setIfInBounds_ne (by omega),Array.getElem?_setIfInBounds_ne (by omega),List.getElem?_toArray,h3,ad]
    rw[zax cp,zc (zc o4),zc (zc o3)]
  obtain⟨N,L,R5,cq⟩:=(O.out.mod0 (Mod.refl NoB F).drew).sent hk Q ad;have e:Hid ((∀g,g<F.heap.size→N g=ak g)∧Mod (fun g=>g=b) F H∧l.Ok∧l.most=(c.ws k).sent.most):=zb ⟨cq,(((Mod.refl NoB F).drew.trans aY).mono (fun _ x=>x.elim)).trans aX,aV,ad⟩;have U:=zb R5;clear R5;rw[ap];refine⟨rfl,?_⟩;go_wp2_with fail;go_meet;rw[ao.out];exact⟨N,L,U,e⟩
 case rest =>
 obtain⟨N,L,U,Z⟩:=hcut;obtain⟨H,ap⟩:=nn wc;subst ap;obtain⟨l,G⟩:=nm (x.sent.without off (off+DL));rw[G]at U Z;have ao:=zb G;have hbf:b<W.heap.size:=zk (HH.out.c.hd (j:=0) rfl);have cr:H.cell? ⟨fb+1,0,none⟩=some (.pointer (some ⟨b,9+k*15,none⟩))∧H.cell? ⟨fb,5,none⟩=some (.bool f.fin):=by
  have e:=am.out;exact⟨Z.out.2.1.cell (a:=⟨fb+1,0,none⟩) (fun x=>by have x:fb+1=b:=x;omega) aP.out,Z.out.2.1.cell (a:=⟨fb,5,none⟩) (fun x=>by have x:fb=b:=x;omega) z5⟩
 have cL:fb+2≤H.heap.size:=by
  have:=aQ.out;have h1:=Z.out.2.1.size;omega
 clear G z2 z5 z8 y0 cj ck cg aP;have hbw:b<H.heap.size:=zk (U.out.c.hd (j:=0) rfl);obtain⟨bw,cu⟩:=cr;go_upto_region 5 with fail;go_wp2_with (go_at_call 141;refine((callsIn_wide (n:=8)).1 (zoB Fence.wide 8 trivial rfl b (9+k*15+4) H)).mono ?_;rintro e w6 ⟨rfl,rfl⟩);obtain⟨sB,aZ⟩:=nm H.heap.size;have hbs:b<sB:=by omega
 obtain⟨W6,ah⟩:=nm (H.alloc (.cells #[.pointer (some ⟨b,9+k*15+4,none⟩)] 114));have bz:=ah;have m6:Mod NoB H W6:=by rw[←ah];exact(Mod.refl _ _).alloc _
 have aq:W6.heap.size=sB+1:=by rw[←ah];simp[aZ]
 have cv:W6.cell? ⟨sB,0,none⟩=some (.pointer (some ⟨b,9+k*15+4,none⟩)):=by
  rw[←ah,←aZ];exact za (heap_alloc_new H _) rfl
 try rw[ah]
 try rw[aZ]
 refine(wpIn_wide (n:=8)).1 ?_;refine zeE rfl (by decide) (gf:=193) (lb:=#[.pointer (some ⟨sB,0,none⟩)]) rfl trivial (enters_of Tryz.func193 (by kernel_rfl) rfl) ?_;intro fn hf;generalize hrec:Loop.mk .ready none fn _ _ _ _ _=rec;rw[aq]at hrec ⊢;obtain⟨D,hD⟩:=nm (sB+1);rw[hD]at hrec aq ⊢;obtain⟨W7,ai⟩:=nm ((W6.alloc (.deferred (some []))).alloc (.loop rec));have bA:Mod NoB W6 W7:=by rw[←ai];exact((Mod.refl _ _).alloc _).alloc _
 have hs7:W7.heap.size=D+2:=by rw[←ai];simp[aq]
 have cw:W7.heap[D]?=some (.deferred (some [])):=by
  rw[←ai,←aq];exact(Below.heap_alloc _ _ _ (by simp)).trans (World.alloc_heap_new W6 _)
 have cx:W7.heap[D+1]?=some (.loop rec):=by
  rw[←ai];have:=World.alloc_heap_new (W6.alloc (.deferred (some []))) (.loop rec);rw[World.size_alloc,aq]at this;exact this
 rw[ai];have aa:Mod NoB H W7:=m6.trans bA;have C5:=U.out.c;obtain⟨c5,a0⟩:∃c5:CS,{ c with ws:=upd c.ws k { c.ws k with sent:=l } }=c5:=⟨_,rfl⟩;rw[a0]at U C5;have ar:c5.ws k={ x with sent:=l }:=by rw[←a0,←HX.out];simp[zf]
 obtain⟨rs,aj⟩:=nm x.came.rs;have C:=C5.wc k hk;rw[ar]at C;have C:H.ownsRow 0 214 2 (L.wc k) rs.length (zn rs):=by rw[←aj];exact C
 obtain⟨a5,au,aH,_⟩:=zj C;rw[aH]at C;have av:∀j,(fun r:Nat×Nat=>r.1≤zA∧r.2≤zA) (loAt rs j,hiAt rs j):=fun j=>by
  by_cases s:j<rs.length
  ·have h1:=S.out.came.hi j (by rw[HX.out,aj];exact s);have h2:=S.out.came.wf.1 j (by rw[HX.out,aj];exact s);rw[HX.out,aj]at h1 h2;exact⟨by show loAt rs j≤zA;omega,h1⟩
  ·have:loAt rs j=0∧hiAt rs j=0:=by
    unfold loAt hiAt;rw[List.getD_eq_getElem?_getD,List.getElem?_eq_none (by omega)];exact⟨rfl,rfl⟩
   rw[this.1,this.2];exact⟨Nat.zero_le _,Nat.zero_le _⟩
 have bB:∀j,j<rs.length→loAt rs j<18446744073709551616∧hiAt rs j<18446744073709551616:=fun j _=>by
  have:=av j;unfold zA at this;omega
 have I:∃I,I=(zr c5 L).toArray:=⟨_,rfl⟩;obtain⟨I,R⟩:=I;have bC:H.heap[b]?=some (.cells I 127 (0,0)):=by rw[R];exact C5.obj
 have g0:I[9+k*15+1]?=some (L.ws k):=by rw[R,List.getElem?_toArray,Nat.mul_comm k 15];exact zfD c5 L (j:=1) hk rfl
 have g1:I[9+k*15+1+1]?=some (.int .u64 (l.fl:Int)):=by rw[R,List.getElem?_toArray,Nat.mul_comm k 15];have:=zfD c5 L (k:=k) (j:=2) (v:=.int .u64 ((c5.ws k).sent.fl:Int)) hk rfl;rw[ar]at this;exact this
 have g2:I[9+k*15+1+2]?=some (.int .i64 (l.most:Int)):=by rw[R,List.getElem?_toArray,Nat.mul_comm k 15];have:=zfD c5 L (k:=k) (j:=3) (v:=.int .i64 ((c5.ws k).sent.most:Int)) hk rfl;rw[ar]at this;exact this
 have hz:9+k*15+1+2<I.size:=(Array.getElem?_eq_some_iff.1 g2).1;have owns:H.ownsRow 0 214 2 (L.ws k) l.rs.length (zn l.rs):=by
  have:=C5.ws k hk;rw[ar]at this;exact this
 have j0:AgJ l b (9+k*15+1) 127 I (L.ws k) H D (D+1) rec [] (L.ws k) W7:=by
  refine⟨aa.owns owns (fun _ _ x=>x),?_,aa.mono (fun _ x=>x.elim),fun g hg=>.inl hg,Z.out.2.2.1,rfl,cw,cx⟩;rw[aa.obj (fun x=>x) bC]
  congr 2
  apply Array.ext_getElem?;intro j;simp only[Array.getElem?_setIfInBounds,Array.size_setIfInBounds];by_cases q1:9+k*15+1+1=j
  ·subst q1;rw[if_pos rfl,if_pos (by omega),g1];rfl
  ·rw[if_neg q1];by_cases q2:9+k*15+1=j
   ·subst q2;rw[if_pos rfl,if_pos (by omega),g0]
   ·rw[if_neg q2]
 have a1:=congrArg Loop.assign hrec.symm;dsimp only at a1;have a2:=congrArg Loop.body hrec.symm;dsimp only at a2;have a3:=congrArg Loop.tmps hrec.symm;dsimp only at a3;have bD:rec.params=#[38]:=by rw[←hrec]
 have aM:rec.state = .ready:=by rw[←hrec]
 have bE:rec.pending=none:=by rw[←hrec]
 have bF:=zb bE;have cy:=zb a1;have cz:=zb a2;have cA:=zb a3;have bG:=zb bD;have a4:=zb aM;have cB:=bA.cell (a:=⟨sB,0,none⟩) (fun x=>x) cv;have cC:W7.cell? ⟨b,9+k*15+4,none⟩=some (.slice a5 rs.length au):=by
  have h1:H.cell? ⟨b,9+k*15+4,none⟩=some (L.wc k):=by rw[Nat.mul_comm k 15];exact C5.w (j:=4) hk rfl
  rw[aH]at h1;have:=aa.cell (a:=⟨b,_,none⟩) (fun x=>x) h1;have e:x.came.rs.length=rs.length:=by rw[aj]
  simpa [e]using this
 have cD:RR W7 (.slice a5 rs.length au) rs:=by
  have:=zf5.rr (rs:=rs) ⟨C,bB⟩;exact this.mod aa (zaX.no _)
 have twc:∀g o,a5=some ⟨g,o,none⟩→g<W7.heap.size∧g≠b∧g≠D+1:=fun g o e=>by
  have a6:(L.wc k).ownBlock=some g:=by rw[aH,e];rfl
  have h1:=C5.twc k hk g a6;have h2:=zE C g (by rw[e];rfl);refine⟨by have:=aa.size;omega,fun x=>?_,by omega⟩;rw[x,C5.tb]at h1;simp at h1;omega
 have bH:∀g o,a5=some ⟨g,o,none⟩→g<H.heap.size:=fun g o e=>zE C g (by rw[e];rfl)
 have bI:∀g o,a5=some ⟨g,o,none⟩→(L.ws k).ownBlock≠some g:=fun g o e x=>by
  have a6:(L.wc k).ownBlock=some g:=by rw[aH,e];rfl
  have h1:=C5.twc k hk g a6;have h2:=C5.tws k hk g x;rw[h1]at h2;simp at h2
 clear hrec a1 a2 a3 bD aM bE ah bz ai R;refine(zmp Fence.wide 7 (fun _=>trivial) rfl (by decide) (D+1) sB b (9+k*15+4) b au a5 (fun r=>r.1≤zA∧r.2≤zA) rs av
  (fun pre X=>∃v',AgJ l b (9+k*15+1) 127 I (L.ws k) H D (D+1) rec (pre.map (·.1)) v' X) (fun _ _=>False) W7 ?hY ?hJ ?hJx cB cC cD (by omega) (by omega) twc ⟨_,j0⟩).mono ?post
 case hJ =>
  intro pre A Y row hh hg hr;exact AgJ.own_from (B:=W7.heap.size) (by have:=aa.size;omega) (by omega) (by omega) (by omega) (pre.map (·.1)) A Y row hh hg hr
 case hJx=>intro _ _ _ _ x;exact x.elim
 case hY =>
  rintro pre y X ⟨v,s⟩ hlt;have d:=zb s;have cE:=(Array.getElem?_eq_some_iff.1 s.rc).1;refine⟨_,_,_,_,run_yield s.rc (by rw[bG.out];rfl),roundIn_of_wpIn trivial ?_⟩;rw[cy.out,cz.out,cA.out,bG.out];unfold zqL;clear s;gi_wp2;have a7:(X.alloc (.cells #[.int .u64 (y.1.1:Int),.int .u64 (y.1.2:Int)] 214)).heap[D+1]?=some (.loop rec):=(Below.heap_alloc _ _ _ cE).trans d.out.rc;refine⟨_,run_beginRound a7 a4.out,?_⟩;obtain⟨p0,a8⟩:=nm y.1.1;obtain⟨p1,a9⟩:=nm y.1.2;have aI:=y.2;simp only at aI;rw[a8,a9]at aI;rw[a8,a9]at a7 ⊢;obtain⟨t,M⟩:∃t,(X.alloc (.cells #[.int .u64 (p0:Int),.int .u64 (p1:Int)] 214)).putObj (D+1) (.loop { rec with state:=.busy })=t:=⟨_,rfl⟩;have aw:Mod (fun q=>q=D+1) X t:=by
   rw[←M];exact((Mod.refl (fun q=>q=D+1) X).alloc _).putObj (.inl rfl) _
  have bJ:t.heap[D+1]?=some (.loop { rec with state:=.busy }):=by
   rw[←M];exact World.putObj_heap_same (by simp;omega)
  have ba:t.heap[X.heap.size]?=some (.cells #[.int .u64 (p0:Int),.int .u64 (p1:Int)] 214 (0,0)):=by
   rw[←M];exact(World.putObj_heap_other (by omega)).trans (heap_alloc_new X _)
  have bK:t.heap[D]?=some (.deferred (some [])):=by
   rw[←M];exact(World.putObj_heap_other (by omega)).trans ((Below.heap_alloc _ _ _ (by omega)).trans d.out.df)
  have bL:v.ownBlock≠some b:=fun e=>by
   obtain⟨ab,hc⟩:=zW d.out.own e;rw[d.out.ob]at hc;simp at hc
  have ae:v.ownBlock≠some (D+1):=fun e=>by
   obtain⟨ab,hc⟩:=zW d.out.own e;rw[d.out.rc]at hc;cases hc
  have ax:v.ownBlock≠some D:=fun e=>by
   obtain⟨ab,hc⟩:=zW d.out.own e;rw[d.out.df]at hc;cases hc
  have aN:=(d.out.set hz g2).mod aw (by omega) (fun g hg e=>ae (by rw[hg,show g=D+1 from e]));have bM:=aw.obj (k:=b) (by omega) d.out.ob;rw[M];have bb:=d.out.ok;have bN:=bb.most;unfold zA at aI;have ka:=zcj (l.adds (pre.map (·.1))) b (9+k*15+1) p0 p1 v t.drew (aN.mod (Mod.refl NoB t).drew (fun x=>x) (fun _ _ x=>x)) bb.wf (by omega) (by omega) (Nat.lt_of_le_of_lt bb.fl (by unfold zA;decide)) bL bN.1 (Nat.le_trans bN.2 (by decide));have KA:=zb ka;have u0:t.cell? ⟨X.heap.size,0,none⟩=some (.int .u64 (p0:Int)):=za ba rfl;have u1:t.cell? ⟨X.heap.size,1,none⟩=some (.int .u64 (p1:Int)):=za ba rfl;have bO:t.cell? ⟨fb+1,0,none⟩=some (.pointer (some ⟨b,9+k*15,none⟩)):=by
   have h1:X.cell? ⟨fb+1,0,none⟩=some (.pointer (some ⟨b,9+k*15,none⟩)):=d.out.m.cell (a:=⟨fb+1,0,none⟩) (fun q=>by
    rcases q with q|q
    ·have q:fb+1=b:=q;have:=am.out;omega
    ·have h3:=C5.tws k hk (fb+1) q;have h4:=Z.out.1 (fb+1) (by rw[aQ.out];omega);rw[h4,HH.out.e.out (fb+1) (by rw[am.out];omega)]at h3;have h5:=congrArg Prod.snd h3;simp only at h5;omega) bw
   exact aw.cell (a:=⟨fb+1,0,none⟩) (by show ¬fb+1=D+1;omega) h1
  have bP:=zb bM;have bQ:=zb bJ;have cF:=zb bK;have bR:=zb aw;have hmo:(Tryz.prog).follows Departure.mixedOrders=true:=by kernel_rfl
  have ay:Fence.wide.fn 88:=trivial;clear aN bM a7 ba M ka bJ bK aw;gi_wp2;refine zoD 7 (fun w'=>w'.cell? ⟨X.heap.size,0,none⟩=some (.int .u64 (p0:Int))∧w'.cell? ⟨X.heap.size,1,none⟩=some (.int .u64 (p1:Int))∧w'.cell? ⟨fb+1,0,none⟩=some (.pointer (some ⟨b,9+k*15,none⟩))) (by kernel_rfl) (by kernel_rfl) (by kernel_rfl) (⟨u0,u1,bO⟩) ?_;refine GI 0 ?_;iterate 7
   refine GS rfl ?_ ?_ ?_;rotate_left
   ·(intro wx J;(try dsimp only at J);obtain⟨f1,f2,f8⟩:=J;go_simp)<;>(try with_reducible rfl)
   try simp only[PS]
  refine zQ rfl (fun K hK=>?_);go_simp
  with_reducible refine(KA.out).mono ?_
  rintro e X3 ⟨v3,rfl,bS,bT,bU,bV⟩;have bW:=zb bS;have cG:=zb bT;have bc:=zb bU;have cH:=zb bV;clear bS bT bU bV;go_simp;refine hK.out _ _ ?_;clear hK K;try simp only[PS]
  refine zo ?_;refine⟨rfl,?_⟩;gi_wp2;have cM:=(Array.getElem?_eq_some_iff.1 bQ.out).1;have bX:∀q,q=D∨q=D+1→¬(q=b∨v.ownBlock=some q):=fun q E x=>by
   rcases E with rfl|rfl
   ·rcases x with x|x
    ·omega
    ·exact ax x
   ·rcases x with x|x
    ·omega
    ·exact ae x
  have bd:X3.heap[D+1]?=some (.loop { rec with state:=.busy }):=bc.out.obj (bX _ (.inr rfl)) bQ.out;have cI:X3.heap[D]?=some (.deferred (some [])):=bc.out.obj (bX _ (.inl rfl)) cF.out;have bY:=(Array.getElem?_eq_some_iff.1 bd).1;have cJ:Mod (fun q=>q=D+1∨q=b∨v.ownBlock=some q) X X3:=by
   refine(bR.out.mono (fun q E=>.inl (.inl E))).trans ((Mod.refl _ t).drew.trans (bc.out.mono (fun q E=>.inl (.inr E))))
  have bZ:∀r,Mod (fun q=>q=D+1∨q=b∨v.ownBlock=some q) X (X3.putObj (D+1) r):=fun r=>cJ.putObj (.inl (.inl rfl)) r
  have be:∀q,v.ownBlock=some q→(L.ws k).ownBlock=some q∨H.heap.size≤q:=d.out.nw;refine⟨_,_,run_endRound none bd,(bZ _).mono (fun q E=>.inl ?_),rfl,v3,?_⟩
  ·rcases E with E|E|E
   ·exact .inr (.inl E)
   ·exact .inl E
   ·refine .inr (.inr ⟨fun g o e y=>?_,?_⟩)
    ·subst y;rcases be _ E with y|y
     ·exact bI _ _ e y
     ·have:=bH _ _ e;omega
    ·obtain⟨ab,hc⟩:=zW d.out.own E;exact⟨_,_,hc⟩
  ·have aJ:pre.map (·.1)++[y.1]=pre.map (·.1)++[(p0,p1)]:=by
    rw[←a8,←a9]
   have b0:v3.ownBlock≠some (D+1):=fun e=>by
    obtain⟨ab,hc⟩:=zW bW.out e;rw[bd]at hc;cases hc
   have mp:∀r,Mod (fun q=>q=D+1) X3 (X3.putObj (D+1) r):=fun r=>(Mod.refl (fun q=>q=D+1) X3).putObj (.inl rfl) r
   have cN:=d.out.m.size;refine⟨?_,?_,?_,?_,?_,?_,?_,?_⟩
   ·rw[aJ,zeR];exact(mp _).owns bW.out (fun g hg e=>b0 (by rw[hg,show g=D+1 from e]))
   ·rw[aJ,zeR,World.putObj_heap_other (by omega),cG.out,zc (zc (show t.drew.heap[b]?=_ from bP.out)),zmq]
   ·refine d.out.m.then (bZ _) (fun q E=>?_);rcases E with E|E|E
    ·exact .inr (by omega)
    ·exact .inl (.inl E)
    ·rcases be q E with z|z
     ·exact .inl (.inr z)
     ·exact .inr z
   ·intro g hg;rcases cH.out g hg with z|z
    ·exact be g z
    ·refine .inr ?_;have h1:=bR.out.size;have h2:t.drew.heap.size=t.heap.size:=rfl;omega
   ·rw[aJ,zeR];exact d.out.ok.add _ aI.2
   ·rw[aJ,zeQ]
   ·exact(World.putObj_heap_other (by omega)).trans cI
   ·rw[World.putObj_heap_same bY];have b3:=bF.out;have b4:=a4.out;cases rec;simp only at b3 b4;subst b3;subst b4;rfl
 case post =>
  rintro e X ⟨⟨v0,rfl⟩,⟨v,s⟩|⟨q,E,hx⟩⟩;rotate_left
  ·exact hx.elim
  have az:=run_endLoop (P:=Tryz.prog) s.rc (by rw[a4.out];simp);rw[bF.out]at az;refine⟨none,_,az,?_⟩;clear az;have aA:((zaE (fun r:Nat×Nat=>r.1≤zA∧r.2≤zA) rs av rs.length).map RgP.rr).map (·.1)=rs.reverse:=by
   have h1:((zaE (fun r:Nat×Nat=>r.1≤zA∧r.2≤zA) rs av rs.length).map RgP.rr).map (·.1)=((zaE (fun r:Nat×Nat=>r.1≤zA∧r.2≤zA) rs av rs.length).map (·.1)).map (·.2):=by
    rw[List.map_map,List.map_map];rfl
   rw[h1,ziN,zfA rs rs.length (Nat.le_refl _),List.take_of_length_le (by simp)]
  rw[aA]at s;obtain⟨t,M⟩:∃t,X.putObj (D+1) (.loop { rec with state:=.exhausted,pending:=none })=t:=⟨_,rfl⟩;have hm:Mod (fun q=>q=D+1) X t:=by rw[←M];exact(Mod.refl (fun q=>q=D+1) _).putObj (.inl rfl) _
  have hd:t.heap[D]?=some (.deferred (some [])):=hm.obj (by simp) s.df;have bL:v.ownBlock≠some b:=fun e=>by
   obtain⟨ab,hc⟩:=zW s.own e;rw[s.ob]at hc;simp at hc
  have ae:v.ownBlock≠some (D+1):=fun e=>by
   obtain⟨ab,hc⟩:=zW s.own e;rw[s.rc]at hc;cases hc
  have ax:v.ownBlock≠some D:=fun e=>by
   obtain⟨ab,hc⟩:=zW s.own e;rw[s.df]at hc;cases hc
  obtain⟨Y,hY⟩:=nm (t.putObj D (.deferred none));have mY:Mod (fun q=>q=D∨q=D+1) X Y:=by
   rw[←hY];exact(hm.mono (fun q E=>.inl (.inr E))).putObj (.inl (.inl rfl)) _
  have Q:zhn (l.adds rs.reverse) b (9+15*k+1) (L.ws k) H Y v:=by
   have ep:9+k*15+1=9+15*k+1:=by omega
   rw[←ep];refine⟨mY.owns s.own (fun g hg e=>?_),?_,s.m.then mY (fun q E=>.inr (by omega)),s.nw⟩
   ·rcases e with e|e
    ·exact ax (by rw[hg,e])
    ·exact ae (by rw[hg,e])
   ·exact(mY.block b (Array.getElem?_eq_some_iff.1 s.ob).1 (by omega)).trans (s.ob.trans (zc (zc bC)).symm)
  obtain⟨aB,V6,R6,ht6⟩:=U.out.sent hk Q (by rw[zeQ,ar]);have b5:({ c5 with ws:=upd c5.ws k { c5.ws k with sent:=l.adds rs.reverse } }:CS)={ c with ws:=upd c.ws k { x with sent:=l.adds rs.reverse } }:=by
   rw[←a0];simp only[zf];rw[zdb,HX.out]
  rw[b5]at R6;have aC:(x.sent.without f.off (f.off+f.data.length)).adds x.came.rs.reverse=l.adds rs.reverse:=by
   rw[aj,cc.out,bm.out,ao.out]
  have bf:t.heap[b]?=some (.cells (zr { c with ws:=upd c.ws k { x with sent:=l.adds rs.reverse } } V6).toArray 127 (0,0)):=by
   rw[←R6.c.obj,←hY,World.putObj_heap_other (by omega)]
  have fe:=za (o:=9+k*15+9) bf (by
   rw[List.getElem?_toArray,Nat.mul_comm k 15];exact zfD { c with ws:=upd c.ws k { x with sent:=l.adds rs.reverse } } V6 (k:=k) (j:=9) (v:=.bool x.ending) hk (by simp[zf,zbn]))
  have fz:∀j,t.frozen? ⟨b,j,none⟩=false:=fun j=>zd bf
  have bh:∀q,q=fb∨q=fb+1→¬(q=b∨(L.ws k).ownBlock=some q):=fun q E x=>by
   have cO:=am.out;rcases x with x|x
   ·omega
   ·have h3:=C5.tws k hk q x;have h4:=Z.out.1 q (by rw[aQ.out];omega);rw[h4,HH.out.e.out q (by rw[am.out];omega)]at h3;have h5:=congrArg Prod.snd h3;simp only at h5;omega
  have x1:t.cell? ⟨fb+1,0,none⟩=some (.pointer (some ⟨b,9+k*15,none⟩)):=hm.cell (a:=⟨fb+1,0,none⟩) (by show ¬fb+1=D+1;omega) (s.m.cell (a:=⟨fb+1,0,none⟩) (bh _ (.inr rfl)) bw);have x5:t.cell? ⟨fb,5,none⟩=some (.bool f.fin):=hm.cell (a:=⟨fb,5,none⟩) (by show ¬fb=D+1;omega) (s.m.cell (a:=⟨fb,5,none⟩) (bh _ (.inl rfl)) cu);have aK:=zb R6;have aL:=zb aC;have b6:=zb hY;have hx2:D<t.heap.size:=(Array.getElem?_eq_some_iff.1 hd).1;rw[M];clear R6 aC bf bh hm s Q mY hY M b5 aA;cases ay:f.fin with
  | false =>
   rw[ay]at x5;have e1:x.again f={ x with sent:=l.adds rs.reverse }:=by
    unfold WS.again;rw[aL.out,ay];simp
   have bi:=zb e1;have bj:=aK;clear aK e1 aL;go_wp2_with fail;refine⟨by simp,.inl ⟨_,_,rfl,run_takeDeferred hd,?_⟩⟩;refine⟨_,results_none rfl _ _ _,rfl,aB,V6,?_⟩;rw[b6.out,bi.out];exact bj.out
  | true =>
   rw[ay]at x5;have e1:x.again f={ x with sent:=l.adds rs.reverse,ending:=false }:=by
    unfold WS.again;rw[aL.out,ay];simp
   have bi:=zb e1;have bj:Hid (zt tag i b W0 V0 { c with ws:=upd c.ws k { x with sent:=l.adds rs.reverse,ending:=false } } aB V6 (Y.setCell ⟨b,9+15*k+9,none⟩ (.bool false))):=zb (aK.out.storeW hk 9 (by decide) (.bool false) { x with sent:=l.adds rs.reverse,ending:=false } rfl rfl rfl rfl);clear aK e1 aL;go_wp2_with fail;have cK:(t.setCell ⟨b,9+k*15+9,none⟩ (.bool false)).heap[D]?=some (.deferred (some [])):=((Mod.refl (fun q=>q=b) t).setCell (p:=⟨b,_,none⟩) (.inl rfl) _).obj (by omega) hd;refine⟨by simp,.inl ⟨_,_,rfl,run_takeDeferred cK,?_⟩⟩;refine⟨_,results_none rfl _ _ _,rfl,aB,V6,?_⟩;rw[zfs (by omega),b6.out,Nat.mul_comm k 15,bi.out];exact bj.out
end Go.Proofs.YtddfdpbaiedcjaaGreatDoor
namespace Go.Proofs.YtddfdpbaiedcjaaGreatDoor
open Go.RowKit
theorem zt.storeR{tag:Nat→Nat×Nat}{i b:Nat}{d:World}{f:CV}{c:CS}{tag':Nat→Nat×Nat}{a:CV}{W':World}{k:Nat}{y:RS}(h:zt tag i b d f { c with rs:=upd c.rs k y } tag' a W')(hk:k<8)(j:Nat)(hj:j<13)(v:Value)(x:RS)(hx:zbO x (a.rb k) (a.rc k)=(zbO y (a.rb k) (a.rc k)).set j v)(h1:x.b=y.b)(h3:x.came.rs=y.came.rs) :
  zt tag i b d f { c with rs:=upd c.rs k x } tag' a (W'.setCell ⟨b,129+13*k+j,none⟩ v):=by
 have g:Mod (fun q=>q=b) W' (W'.setCell ⟨b,129+13*k+j,none⟩ v):=(Mod.refl (fun q=>q=b) _).setCell (p:=⟨b,_,none⟩) (.inl rfl) _;exact⟨h.c.storeR2 hk j hj v x hx h1 h3,⟨h.e.old,h.e.new,h.e.out.mod g⟩,zan h.e h.m (g.mono (fun q hq=>.inl (zbk (r:=1) (by rw[show q=b from hq];exact h.c.tb) (by decide)))),h.p,h.ft⟩
theorem zdZ(a b:Nat):((a:Int)==(b:Int))=(a==b):=by
 rw[Bool.eq_iff_iff];simp;try omega
theorem zt.same{tag:Nat→Nat×Nat}{i b:Nat}{a:World}{d:CV}{c c':CS}{tag':Nat→Nat×Nat}{f:CV}{W':World}(h:zt tag i b a d c tag' f W')(e:c=c'):zt tag i b a d c' tag' f W':=e ▸ h
theorem ziR{tag:Nat→Nat×Nat}{i b:Nat}{v:World}{w:CV}{c:CS}{e:Nat→Nat×Nat}{V:CV}{W:World}(h:zt tag i b v w c e V W)(f:Frm)(m:Value)(o:f.kind=5)(ha:c.anew=true) :
  Calls Tryz.prog 80 #[.pointer (some ⟨b,0,none⟩),.agg (zh f m)] W (zcm tag i b v w { c with anew:=true }):=by
 have HH:=zb h;obtain⟨W1,d⟩:=nm (W.alloc (.cells (zh f m) 65));have m1:Mod NoB W W1:=by rw[←d];exact(Mod.refl _ _).alloc _
 have g:zi W1 W.heap.size f m:=by rw[←d];exact heap_alloc_new W _
 obtain⟨fb,k⟩:=nm W.heap.size;rw[k]at g;have p:=zb d;have q:=zb k;have l:=zb (h.mod0 m1);obtain⟨y0,y1,y2,y3,x,y5,y6,y7,y8,y9⟩:=g.cells;rw[o]at y0;obtain⟨lm,r⟩:=nm f.lim;obtain⟨gr,s⟩:=nm c.grant;rw[r]at x;have q1:W1.cell? ⟨b,234,none⟩=some (.int .u64 (gr:Int)):=by rw[←s];exact l.out.c.tl (j:=1) rfl
 have q2:W1.cell? ⟨b,235,none⟩=some (.bool true):=by rw[←ha];exact l.out.c.tl (j:=2) rfl
 have fz:∀j,W1.frozen? ⟨b,j,none⟩=false:=fun j=>l.out.c.fz j
 clear h m1 g d k y5 y6 y7 y8 y9 y2;refine(callsIn_wide (n:=8)).1 ?_;refine callsIn_of_wp_marks Tryz.func80 rfl trivial ?_ rfl;simp only[Tryz.ntmps80,List.size_toArray,List.length_cons,List.length_nil,Nat.reduceAdd,Nat.reduceSub,Array.replicate_succ,Array.replicate_zero,List.push_toArray,List.append_toArray,List.nil_append,List.cons_append];refine wpIn_wide.2 ?_;go_upto_region 1 with fail;rw[q.out,p.out];go_upto_region 15 with fail;refine zB ?_;refine zl 16 (fun w'=>w'.cell? ⟨fb,4,none⟩=some (.int .u64 (lm:Int))∧w'.cell? ⟨b,234,none⟩=some (.int .u64 (gr:Int))∧w'.cell? ⟨b,235,none⟩=some (.bool true)) (⟨x,q1,q2⟩) ?_;refine GI 0 ?_;iterate 6
  refine GS rfl ?_ ?_ ?_;rotate_left
  ·(intro wx a;(try dsimp only at a);obtain⟨f4,t,u⟩:=a;go_simp)<;>(try with_reducible rfl)
  try simp only[PS]
 refine GI 6 ?_;iterate 7
  refine GU rfl (fun _ _ _ h=>nomatch h.1) ?_;try simp only[PS]
 refine GI 13 ?_;iterate 3
  refine GS rfl ?_ ?_ ?_;rotate_left
  ·(intro wx a;(try dsimp only at a);obtain⟨f4,t,u⟩:=a;go_simp)<;>(try with_reducible rfl)
  try simp only[PS]
 refine zQ rfl (fun K y=>?_);go_simp;refine y.out _ _ ?_;clear y K;try simp only[PS]
 refine zo ?_;refine⟨rfl,?_⟩;go_wp2_with fail;refine⟨_,results_none rfl _ _ _,rfl,e,V,?_⟩;exact(l.out.store (233+2) (.bool true) (zV c { c with anew:=true } V V _ rfl rfl rfl rfl) ⟨rfl,fun _ _=>⟨rfl,rfl,rfl⟩,fun _ _=>⟨rfl,rfl⟩,rfl,rfl,rfl,rfl⟩).mod0 (Mod.refl NoB _).drew
theorem ziS{tag:Nat→Nat×Nat}{i b:Nat}{u:World}{v:CV}{c:CS}{d:Nat→Nat×Nat}{V:CV}{W:World}(h:zt tag i b u v c d V W)(f:Frm)(p:Value)(q:f.kind=5)(ha:c.anew=false) :
  Calls Tryz.prog 80 #[.pointer (some ⟨b,0,none⟩),.agg (zh f p)] W (zcm tag i b u v { c with anew:=f.lim==c.grant }):=by
 have HH:=zb h;obtain⟨W1,a⟩:=nm (W.alloc (.cells (zh f p) 65));have m1:Mod NoB W W1:=by rw[←a];exact(Mod.refl _ _).alloc _
 have e:zi W1 W.heap.size f p:=by rw[←a];exact heap_alloc_new W _
 obtain⟨fb,g⟩:=nm W.heap.size;rw[g]at e;have r:=zb a;have s:=zb g;have o:=zb (h.mod0 m1);obtain⟨y0,y1,y2,y3,w,y5,y6,y7,y8,y9⟩:=e.cells;rw[q]at y0;obtain⟨t,k⟩:=nm f.lim;obtain⟨gr,l⟩:=nm c.grant;rw[k]at w;have q1:W1.cell? ⟨b,234,none⟩=some (.int .u64 (gr:Int)):=by rw[←l];exact o.out.c.tl (j:=1) rfl
 have q2:W1.cell? ⟨b,235,none⟩=some (.bool false):=by rw[←ha];exact o.out.c.tl (j:=2) rfl
 have fz:∀j,W1.frozen? ⟨b,j,none⟩=false:=fun j=>o.out.c.fz j
 clear h m1 e a g y5 y6 y7 y8 y9 y2;refine(callsIn_wide (n:=8)).1 ?_;refine callsIn_of_wp_marks Tryz.func80 rfl trivial ?_ rfl;simp only[Tryz.ntmps80,List.size_toArray,List.length_cons,List.length_nil,Nat.reduceAdd,Nat.reduceSub,Array.replicate_succ,Array.replicate_zero,List.push_toArray,List.append_toArray,List.nil_append,List.cons_append];refine wpIn_wide.2 ?_;go_upto_region 1 with fail;rw[s.out,r.out];go_upto_region 15 with fail;refine zB ?_;refine zl 16 (fun w'=>w'.cell? ⟨fb,4,none⟩=some (.int .u64 (t:Int))∧w'.cell? ⟨b,234,none⟩=some (.int .u64 (gr:Int))∧w'.cell? ⟨b,235,none⟩=some (.bool false)) (⟨w,q1,q2⟩) ?_;refine GI 0 ?_;iterate 16
  refine GS rfl ?_ ?_ ?_;rotate_left
  ·(intro wx m;(try dsimp only at m);obtain⟨f4,f34,f35⟩:=m;go_simp)<;>(try with_reducible rfl)
  try simp only[PS]
 refine zQ rfl (fun K x=>?_);go_simp;refine x.out _ _ ?_;clear x K;try simp only[PS]
 refine zo ?_;refine⟨rfl,?_⟩;go_wp2_with fail;refine⟨_,results_none rfl _ _ _,rfl,d,V,?_⟩;rw[show(f.lim==c.grant)=((t:Int)==(gr:Int))by rw[k,l,zdZ]];exact(o.out.store (233+2) (.bool _) (zV c { c with anew:=((t:Int)==(gr:Int)) } V V _ rfl rfl rfl rfl) ⟨rfl,fun _ _=>⟨rfl,rfl,rfl⟩,fun _ _=>⟨rfl,rfl⟩,rfl,rfl,rfl,rfl⟩).mod0 (Mod.refl NoB _).drew
theorem ziT{tag:Nat→Nat×Nat}{i b:Nat}{s:World}{t:CV}{c:CS}{d:Nat→Nat×Nat}{V:CV}{W:World}(h:zt tag i b s t c d V W)(f:Frm)(u:Value)(k:Nat)(hk:k<8)(p:f.stream=(k:Int))(v:f.kind=6)(w:(c.rs k).anew=true) :
  Calls Tryz.prog 80 #[.pointer (some ⟨b,0,none⟩),.agg (zh f u)] W (zcm tag i b s t { c with rs:=upd c.rs k { c.rs k with anew:=true } }):=by
 have HH:=zb h;obtain⟨W1,e⟩:=nm (W.alloc (.cells (zh f u) 65));have m1:Mod NoB W W1:=by rw[←e];exact(Mod.refl _ _).alloc _
 have g:zi W1 W.heap.size f u:=by rw[←e];exact heap_alloc_new W _
 obtain⟨fb,l⟩:=nm W.heap.size;rw[l]at g;have x:=zb e;have y:=zb l;have q:=zb (h.mod0 m1);obtain⟨y0,B,y2,y3,C,y5,y6,y7,y8,y9⟩:=g.cells;rw[v]at y0;obtain⟨lm,m⟩:=nm f.lim;obtain⟨gr,o⟩:=nm ((c.rs k).grant);rw[m]at C;have q1:W1.cell? ⟨b,129+k*13+11,none⟩=some (.int .u64 (gr:Int)):=by rw[←o,Nat.mul_comm k 13];exact q.out.c.r (j:=11) hk rfl
 have q2:W1.cell? ⟨b,129+k*13+12,none⟩=some (.bool true):=by rw[←w,Nat.mul_comm k 13];exact q.out.c.r (j:=12) hk rfl
 have fz:∀j,W1.frozen? ⟨b,j,none⟩=false:=fun j=>q.out.c.fz j
 have HA:=zb w;have HLM:=zb m;have HGR:=zb o;rw[p]at B;have d0:(0:Int)≤k:=by omega
 have d8:(k:Int)<8:=by omega
 clear w m o p;clear h m1 g e l y5 y6 y7 y8 y9 y2;refine(callsIn_wide (n:=8)).1 ?_;refine callsIn_of_wp_marks Tryz.func80 rfl trivial ?_ rfl;simp only[Tryz.ntmps80,List.size_toArray,List.length_cons,List.length_nil,Nat.reduceAdd,Nat.reduceSub,Array.replicate_succ,Array.replicate_zero,List.push_toArray,List.append_toArray,List.nil_append,List.cons_append];refine wpIn_wide.2 ?_;go_upto_region 1 with fail;rw[y.out,x.out];go_upto_region 17 with fail;refine zB ?_;refine zl 7 (fun w'=>w'.cell? ⟨fb,1,none⟩=some (.int .i64 (k:Int))) (B) ?_;refine GI 0 ?_;iterate 7
  refine GS rfl ?_ ?_ ?_;rotate_left
  ·(intro D a;(try dsimp only at a);go_simp)<;>(try with_reducible rfl)
  try simp only[PS]
 refine zo ?_;refine⟨rfl,?_⟩;go_upto_region 18 with fail;refine zB ?_;refine zl 16 (fun w'=>w'.cell? ⟨fb,4,none⟩=some (.int .u64 (lm:Int))∧w'.cell? ⟨b,129+k*13+11,none⟩=some (.int .u64 (gr:Int))∧w'.cell? ⟨b,129+k*13+12,none⟩=some (.bool true)) (⟨C,q1,q2⟩) ?_;refine GI 0 ?_;iterate 6
  refine GS rfl ?_ ?_ ?_;rotate_left
  ·(intro D a;(try dsimp only at a);obtain⟨f4,z,A⟩:=a;go_simp)<;>(try with_reducible rfl)
  try simp only[PS]
 refine GI 6 ?_;iterate 7
  refine GU rfl (fun _ _ _ h=>nomatch h.1) ?_;try simp only[PS]
 refine GI 13 ?_;iterate 3
  refine GS rfl ?_ ?_ ?_;rotate_left
  ·(intro D a;(try dsimp only at a);obtain⟨f4,z,A⟩:=a;go_simp)<;>(try with_reducible rfl)
  try simp only[PS]
 refine zQ rfl (fun K E=>?_);go_simp;refine E.out _ _ ?_;clear E K;try simp only[PS]
 refine zo ?_;refine⟨rfl,?_⟩;go_wp2_with fail;refine⟨_,results_none rfl _ _ _,rfl,d,V,?_⟩;have R2:zt tag i b s t { c with rs:=upd c.rs k (c.rs k) } d V W1:=q.out.same (by rw[za2]);have R3:=R2.storeR hk 12 (by decide) (.bool true) { c.rs k with anew:=true } rfl rfl rfl;rw[Nat.mul_comm k 13];exact R3.mod0 (((Mod.refl NoB _).drew).drew)
theorem ziU{tag:Nat→Nat×Nat}{i b:Nat}{t:World}{u:CV}{c:CS}{a:Nat→Nat×Nat}{V:CV}{W:World}(h:zt tag i b t u c a V W)(f:Frm)(v:Value)(k:Nat)(hk:k<8)(p:f.stream=(k:Int))(w:f.kind=6)(x:(c.rs k).anew=false) :
  Calls Tryz.prog 80 #[.pointer (some ⟨b,0,none⟩),.agg (zh f v)] W (zcm tag i b t u { c with rs:=upd c.rs k { c.rs k with anew:=f.lim==(c.rs k).grant } }):=by
 have HH:=zb h;obtain⟨W1,d⟩:=nm (W.alloc (.cells (zh f v) 65));have m1:Mod NoB W W1:=by rw[←d];exact(Mod.refl _ _).alloc _
 have g:zi W1 W.heap.size f v:=by rw[←d];exact heap_alloc_new W _
 obtain⟨fb,l⟩:=nm W.heap.size;rw[l]at g;have y:=zb d;have z:=zb l;have q:=zb (h.mod0 m1);obtain⟨y0,C,y2,y3,D,y5,y6,y7,y8,y9⟩:=g.cells;rw[w]at y0;obtain⟨s,m⟩:=nm f.lim;obtain⟨gr,o⟩:=nm ((c.rs k).grant);rw[m]at D;have q1:W1.cell? ⟨b,129+k*13+11,none⟩=some (.int .u64 (gr:Int)):=by rw[←o,Nat.mul_comm k 13];exact q.out.c.r (j:=11) hk rfl
 have q2:W1.cell? ⟨b,129+k*13+12,none⟩=some (.bool false):=by rw[←x,Nat.mul_comm k 13];exact q.out.c.r (j:=12) hk rfl
 have fz:∀j,W1.frozen? ⟨b,j,none⟩=false:=fun j=>q.out.c.fz j
 have HA:=zb x;have A:=zb m;have B:=zb o;rw[p]at C;have d0:(0:Int)≤k:=by omega
 have d8:(k:Int)<8:=by omega
 clear x m o p;clear h m1 g d l y5 y6 y7 y8 y9 y2;refine(callsIn_wide (n:=8)).1 ?_;refine callsIn_of_wp_marks Tryz.func80 rfl trivial ?_ rfl;simp only[Tryz.ntmps80,List.size_toArray,List.length_cons,List.length_nil,Nat.reduceAdd,Nat.reduceSub,Array.replicate_succ,Array.replicate_zero,List.push_toArray,List.append_toArray,List.nil_append,List.cons_append];refine wpIn_wide.2 ?_;go_upto_region 1 with fail;rw[z.out,y.out];go_upto_region 17 with fail;refine zB ?_;refine zl 7 (fun w'=>w'.cell? ⟨fb,1,none⟩=some (.int .i64 (k:Int))) (C) ?_;refine GI 0 ?_;iterate 7
  refine GS rfl ?_ ?_ ?_;rotate_left
  ·(intro wx e;(try dsimp only at e);go_simp)<;>(try with_reducible rfl)
  try simp only[PS]
 refine zo ?_;refine⟨rfl,?_⟩;go_upto_region 18 with fail;refine zB ?_;refine zl 16 (fun w'=>w'.cell? ⟨fb,4,none⟩=some (.int .u64 (s:Int))∧w'.cell? ⟨b,129+k*13+11,none⟩=some (.int .u64 (gr:Int))∧w'.cell? ⟨b,129+k*13+12,none⟩=some (.bool false)) (⟨D,q1,q2⟩) ?_;refine GI 0 ?_;iterate 16
  refine GS rfl ?_ ?_ ?_;rotate_left
  ·(intro wx e;(try dsimp only at e);obtain⟨f4,f34,f35⟩:=e;go_simp)<;>(try with_reducible rfl)
  try simp only[PS]
 refine zQ rfl (fun K E=>?_);go_simp;refine E.out _ _ ?_;clear E K;try simp only[PS]
 refine zo ?_;refine⟨rfl,?_⟩;go_wp2_with fail;refine⟨_,results_none rfl _ _ _,rfl,a,V,?_⟩;rw[show(f.lim==(c.rs k).grant)=((s:Int)==(gr:Int))by rw[A.out,B.out,zdZ]];have R2:zt tag i b t u { c with rs:=upd c.rs k (c.rs k) } a V W1:=q.out.same (by rw[za2]);have R3:=R2.storeR hk 12 (by decide) (.bool ((s:Int)==(gr:Int))) { c.rs k with anew:=((s:Int)==(gr:Int)) } rfl rfl rfl;rw[Nat.mul_comm k 13];exact R3.mod0 (((Mod.refl NoB _).drew).drew)
theorem ziV{tag:Nat→Nat×Nat}{i b:Nat}{s:World}{t:CV}{c:CS}{a:Nat→Nat×Nat}{V:CV}{W:World}(h:zt tag i b s t c a V W)(f:Frm)(u:Value)(k:Nat)(hk:k<8)(p:f.stream=(k:Int))(v:f.kind=3)(q:f.rel=(c.ws k).keep) :
  Calls Tryz.prog 80 #[.pointer (some ⟨b,0,none⟩),.agg (zh f u)] W (zcm tag i b s t { c with ws:=upd c.ws k { c.ws k with telling:=false } }):=by
 have HH:=zb h;obtain⟨W1,d⟩:=nm (W.alloc (.cells (zh f u) 65));have m1:Mod NoB W W1:=by rw[←d];exact(Mod.refl _ _).alloc _
 have g:zi W1 W.heap.size f u:=by rw[←d];exact heap_alloc_new W _
 obtain⟨fb,l⟩:=nm W.heap.size;rw[l]at g;have x:=zb d;have y:=zb l;have r:=zb (h.mod0 m1);obtain⟨y0,A,y2,B,y4,y5,y6,y7,y8,y9⟩:=g.cells;rw[v]at y0;obtain⟨z,m⟩:=nm ((c.ws k).keep);obtain⟨rl,o⟩:=nm f.rel;rw[o]at B;rw[m,o]at q;have q1:W1.cell? ⟨b,9+k*15+11,none⟩=some (.int .u64 (z:Int)):=by rw[←m,Nat.mul_comm k 15];exact r.out.c.w (j:=11) hk rfl
 have q2:W1.cell? ⟨b,9+k*15+13,none⟩=some (.bool (c.ws k).telling):=by rw[Nat.mul_comm k 15];exact r.out.c.w (j:=13) hk rfl
 have fz:∀j,W1.frozen? ⟨b,j,none⟩=false:=fun j=>r.out.c.fz j
 have hb:((rl:Int)==(z:Int))=true:=by rw[zdZ];simp[q]
 have HR:=zb q;rw[p]at A;have d0:(0:Int)≤k:=by omega
 have d8:(k:Int)<8:=by omega
 clear m o p q;clear h m1 g d l y5 y6 y7 y8 y9 y2;refine(callsIn_wide (n:=8)).1 ?_;refine callsIn_of_wp_marks Tryz.func80 rfl trivial ?_ rfl;simp only[Tryz.ntmps80,List.size_toArray,List.length_cons,List.length_nil,Nat.reduceAdd,Nat.reduceSub,Array.replicate_succ,Array.replicate_zero,List.push_toArray,List.append_toArray,List.nil_append,List.cons_append];refine wpIn_wide.2 ?_;go_upto_region 1 with fail;rw[y.out,x.out];go_upto_region 11 with fail;refine zB ?_;refine zl 7 (fun w'=>w'.cell? ⟨fb,1,none⟩=some (.int .i64 (k:Int))) (A) ?_;refine GI 0 ?_;iterate 7
  refine GS rfl ?_ ?_ ?_;rotate_left
  ·(intro wx e;(try dsimp only at e);go_simp)<;>(try with_reducible rfl)
  try simp only[PS]
 refine zo ?_;refine⟨rfl,?_⟩;go_upto_region 12 with fail;refine zB ?_;refine zl 7 (fun w'=>w'.cell? ⟨fb,3,none⟩=some (.int .u64 (rl:Int))∧w'.cell? ⟨b,9+k*15+11,none⟩=some (.int .u64 (z:Int))) (⟨B,q1⟩) ?_;refine GI 0 ?_;iterate 7
  refine GS rfl ?_ ?_ ?_;rotate_left
  ·(intro wx e;(try dsimp only at e);obtain⟨f3,f11⟩:=e;go_simp)<;>(try with_reducible rfl)
  try simp only[PS]
 refine zo ?_;refine⟨rfl,?_⟩;go_wp2_with fail;refine⟨_,results_none rfl _ _ _,rfl,a,V,?_⟩;have R2:zt tag i b s t { c with ws:=upd c.ws k (c.ws k) } a V W1:=r.out.same (by rw[za2]);have R3:=R2.storeW hk 13 (by decide) (.bool false) { c.ws k with telling:=false } rfl rfl rfl rfl;rw[Nat.mul_comm k 15];exact R3.mod0 (((Mod.refl NoB _).drew).drew)
theorem ziW{tag:Nat→Nat×Nat}{i b:Nat}{t:World}{u:CV}{c:CS}{a:Nat→Nat×Nat}{V:CV}{W:World}(h:zt tag i b t u c a V W)(f:Frm)(v:Value)(k:Nat)(hk:k<8)(p:f.stream=(k:Int))(x:f.kind=3)(q:¬f.rel=(c.ws k).keep) :
  Calls Tryz.prog 80 #[.pointer (some ⟨b,0,none⟩),.agg (zh f v)] W (zcm tag i b t u { c with ws:=upd c.ws k (c.ws k) }):=by
 have HH:=zb h;obtain⟨W1,d⟩:=nm (W.alloc (.cells (zh f v) 65));have m1:Mod NoB W W1:=by rw[←d];exact(Mod.refl _ _).alloc _
 have g:zi W1 W.heap.size f v:=by rw[←d];exact heap_alloc_new W _
 obtain⟨fb,l⟩:=nm W.heap.size;rw[l]at g;have y:=zb d;have z:=zb l;have r:=zb (h.mod0 m1);obtain⟨y0,A,y2,B,y4,y5,y6,y7,y8,y9⟩:=g.cells;rw[x]at y0;obtain⟨s,m⟩:=nm ((c.ws k).keep);obtain⟨rl,o⟩:=nm f.rel;rw[o]at B;rw[m,o]at q;have q1:W1.cell? ⟨b,9+k*15+11,none⟩=some (.int .u64 (s:Int)):=by rw[←m,Nat.mul_comm k 15];exact r.out.c.w (j:=11) hk rfl
 have q2:W1.cell? ⟨b,9+k*15+13,none⟩=some (.bool (c.ws k).telling):=by rw[Nat.mul_comm k 15];exact r.out.c.w (j:=13) hk rfl
 have fz:∀j,W1.frozen? ⟨b,j,none⟩=false:=fun j=>r.out.c.fz j
 have hb:((rl:Int)==(s:Int))=false:=by rw[zdZ];simp[q]
 have hne:¬(rl:Int)=(s:Int):=by omega
 have HR:=zb q;rw[p]at A;have d0:(0:Int)≤k:=by omega
 have d8:(k:Int)<8:=by omega
 clear m o p q;clear h m1 g d l y5 y6 y7 y8 y9 y2;refine(callsIn_wide (n:=8)).1 ?_;refine callsIn_of_wp_marks Tryz.func80 rfl trivial ?_ rfl;simp only[Tryz.ntmps80,List.size_toArray,List.length_cons,List.length_nil,Nat.reduceAdd,Nat.reduceSub,Array.replicate_succ,Array.replicate_zero,List.push_toArray,List.append_toArray,List.nil_append,List.cons_append];refine wpIn_wide.2 ?_;go_upto_region 1 with fail;rw[z.out,y.out];go_upto_region 11 with fail;refine zB ?_;refine zl 7 (fun w'=>w'.cell? ⟨fb,1,none⟩=some (.int .i64 (k:Int))) (A) ?_;refine GI 0 ?_;iterate 7
  refine GS rfl ?_ ?_ ?_;rotate_left
  ·(intro wx e;(try dsimp only at e);go_simp)<;>(try with_reducible rfl)
  try simp only[PS]
 refine zo ?_;refine⟨rfl,?_⟩;go_upto_region 12 with fail;refine zB ?_;refine zl 7 (fun w'=>w'.cell? ⟨fb,3,none⟩=some (.int .u64 (rl:Int))∧w'.cell? ⟨b,9+k*15+11,none⟩=some (.int .u64 (s:Int))) (⟨B,q1⟩) ?_;refine GI 0 ?_;iterate 7
  refine GS rfl ?_ ?_ ?_;rotate_left
  ·(intro wx e;(try dsimp only at e);obtain⟨f3,f11⟩:=e;go_simp)<;>(try with_reducible rfl)
  try simp only[PS]
 refine zo ?_;refine⟨rfl,?_⟩;go_wp2_with fail;refine⟨_,results_none rfl _ _ _,rfl,a,V,?_⟩;have R2:zt tag i b t u { c with ws:=upd c.ws k (c.ws k) } a V W1:=r.out.same (by rw[za2]);exact R2.mod0 (((Mod.refl NoB _).drew).drew)
theorem zkw{tag:Nat→Nat×Nat}{i b:Nat}{m:World}{o:CV}{c:CS}{d:Nat→Nat×Nat}{V:CV}{W:World}(h:zt tag i b m o c d V W)(f:Frm)(j:Value)(h3:¬f.kind=3)(h4:¬f.kind=4)(h5:¬f.kind=5)(h6:¬f.kind=6) :
  Calls Tryz.prog 80 #[.pointer (some ⟨b,0,none⟩),.agg (zh f j)] W (zcm tag i b m o c):=by
 have HH:=zb h;obtain⟨W1,a⟩:=nm (W.alloc (.cells (zh f j) 65));have m1:Mod NoB W W1:=by rw[←a];exact(Mod.refl _ _).alloc _
 have e:zi W1 W.heap.size f j:=by rw[←a];exact heap_alloc_new W _
 obtain⟨fb,g⟩:=nm W.heap.size;rw[g]at e;have k:=zb a;have l:=zb g;have R1:=zb (h.mod0 m1);obtain⟨y0,y1,y2,y3,y4,y5,y6,y7,y8,y9⟩:=e.cells;have h3':¬(f.kind:Int)=3:=by omega
 have h4':¬(f.kind:Int)=4:=by omega
 have h5':¬(f.kind:Int)=5:=by omega
 have h6':¬(f.kind:Int)=6:=by omega
 clear h m1 e a g y5 y6 y7 y8 y9 y2;refine(callsIn_wide (n:=8)).1 ?_;refine callsIn_of_wp_marks Tryz.func80 rfl trivial ?_ rfl;simp only[Tryz.ntmps80,List.size_toArray,List.length_cons,List.length_nil,Nat.reduceAdd,Nat.reduceSub,Array.replicate_succ,Array.replicate_zero,List.push_toArray,List.append_toArray,List.nil_append,List.cons_append];refine wpIn_wide.2 ?_;go_upto_region 1 with fail;rw[l.out,k.out];go_wp2_with fail;refine⟨_,results_none rfl _ _ _,rfl,d,V,?_⟩;exact R1.out
structure zho(c:CS)(f:Frm):Prop where
 k4:f.kind=4→AgOk c f f.stream.toNat
 k3:f.kind=3→0≤f.stream∧f.stream<8
 k6:f.kind=6→0≤f.stream∧f.stream<8
theorem zhp{tag:Nat→Nat×Nat}{i b:Nat}{p:World}{q:CV}{c:CS}{j:Nat→Nat×Nat}{V:CV}{W:World}(h:zt tag i b p q c j V W)(f:Frm)(d:Value)(ok:zho c f)(o:∃a n cap,d = .slice a n cap) :
  Calls Tryz.prog 80 #[.pointer (some ⟨b,0,none⟩),.agg (zh f d)] W (zcm tag i b p q (c.again f)):=by
 unfold CS.again;by_cases h4:f.kind=4
 ·rw[if_pos h4];exact zkv h f d _ (ok.k4 h4) h4 o
 ·rw[if_neg h4];by_cases h3:f.kind=3
  ·rw[if_pos h3];obtain⟨a1,a2⟩:=ok.k3 h3;have hk:f.stream.toNat<8:=by omega
   have hs:f.stream=(f.stream.toNat:Int):=by omega
   generalize f.stream.toNat=k at hk hs;by_cases m:f.rel=(c.ws k).keep
   ·have e:{ c.ws k with telling:=(c.ws k).telling && !(f.rel==(c.ws k).keep) }={ c.ws k with telling:=false }:=by simp[m]
    rw[e];exact ziV h f d k hk hs h3 m
   ·have e:{ c.ws k with telling:=(c.ws k).telling && !(f.rel==(c.ws k).keep) }=c.ws k:=by
     have e2:(f.rel==(c.ws k).keep)=false:=by simp[m]
     rw[e2];simp
    rw[e];exact ziW h f d k hk hs h3 m
  ·rw[if_neg h3];by_cases l:f.kind=5
   ·rw[if_pos l];cases ha:c.anew with
    | true =>
     have:=ziR h f d l ha;simpa using this
    | false =>
     have:=ziS h f d l ha;simpa using this
   ·rw[if_neg l];by_cases g:f.kind=6
    ·rw[if_pos g];obtain⟨a1,a2⟩:=ok.k6 g;have hk:f.stream.toNat<8:=by omega
     have hs:f.stream=(f.stream.toNat:Int):=by omega
     generalize f.stream.toNat=k at hk hs;cases ha:(c.rs k).anew with
     | true =>
      have:=ziT h f d k hk hs g ha;simpa using this
     | false =>
      have:=ziU h f d k hk hs g ha;simpa using this
    ·rw[if_neg g];exact zkw h f d h3 h4 l g
theorem zt.came{tag:Nat→Nat×Nat}{i b:Nat}{w:World}{x:CV}{c:CS}{tag':Nat→Nat×Nat}{d:CV}{W' W'':World}{v':Value}{s:zaQ}(h:zt tag i b w x c tag' d W'){k:Nat}(hk:k<8)(ha:zhn s b (9+15*k+4) (d.wc k) W' W'' v')(hm:s.most=(c.ws k).came.most) :
  ∃tag2 V2,zt tag i b w x { c with ws:=upd c.ws k { c.ws k with came:=s } } tag2 V2 W''∧∀g,g<W'.heap.size→tag2 g=tag' g:=by
 obtain⟨l,n,f,v⟩:=ha;have z:=h.p;have o:∀{g r:Nat},tag' g=(i,r)→g<W'.heap.size:=fun hg=>zaA h.e.out hg z
 have t:∀g,(tag' g).1=i→retag tag' W' W'' (i,30+k) g=tag' g:=fun g hg=>zw (o (r:=(tag' g).2) (by rw[←hg]))
 have A:∀g,(g=b∨(d.wc k).ownBlock=some g)→∃r,(r=1∨r=30+k)∧tag' g=(i,r):=fun g hg=>by
  rcases hg with hg|hg
  ·exact⟨1,.inl rfl,by rw[hg,h.c.tb]⟩
  ·exact⟨30+k,.inr rfl,h.c.twc k hk g hg⟩
 refine⟨retag tag' W' W'' (i,30+k),{ d with wc:=upd d.wc k v' },⟨?_,h.e.trans (zbj f.size) h.m.size,zan h.e h.m (f.mono (fun g hg=>.inl ?_)),z,h.ft⟩,fun g hg=>zw hg⟩
 ·refine h.c.build (R:=fun r=>r=1∨r=30+k) f A t ?_ (.inl ⟨rfl,rfl,rfl,by omega,by omega⟩) (fun q u=>.inl ⟨?_,rfl,by omega⟩) (fun q u=>.inl ⟨?_,rfl,by omega⟩) (fun q u=>?_) (fun q u=>.inl ⟨rfl,rfl,by omega⟩) (fun q u=>.inl ⟨rfl,rfl,by omega⟩) (.inl ⟨rfl,rfl,rfl,by omega,by omega⟩) (.inl ⟨rfl,rfl,by omega⟩) (.inl ⟨rfl,rfl,by omega⟩) (.inl ⟨rfl,rfl,by omega⟩)
  ·rw[n,zc (zc h.c.obj)];simp only[List.setIfInBounds_toArray];have e1:=zar c c d { d with wc:=upd d.wc k v' } (k:=k) (j:=4) v' hk (by decide) (fun q _=>by
    by_cases a:q=k
    ·subst a;simp only[zf,if_true];rfl
    ·simp only[ze _ _ a,if_neg a]) rfl rfl rfl
   rw[e1];have e2:=zar c { c with ws:=upd c.ws k { c.ws k with came:=s } } { d with wc:=upd d.wc k v' } { d with wc:=upd d.wc k v' } (k:=k) (j:=5) (.int .u64 (s.fl:Int)) hk (by decide) (fun q _=>by
    by_cases a:q=k
    ·subst a;simp only[zf,if_true,zbn,hm];rfl
    ·simp only[ze _ _ a,if_neg a]) rfl rfl rfl
   rw[show 9+15*k+4+1=9+15*k+5 from rfl,e2]
  ·by_cases a:q=k
   ·subst a;simp only[zf]
   ·simp only[ze _ _ a]
  ·by_cases a:q=k
   ·subst a;simp only[zf]
   ·simp only[ze _ _ a]
  ·by_cases a:q=k
   ·subst a;simp only[zf];refine .inr ⟨l,fun g hg=>?_⟩;rcases v g hg with y|y
    ·rw[zw (o (h.c.twc q hk g y)),h.c.twc q hk g y]
    ·exact zaj y (zE l g hg)
   ·exact .inl ⟨by simp only[ze _ _ a],by simp only[ze _ _ a],by omega⟩
 ·obtain⟨r,hr,e⟩:=A g hg;exact zbk e (by omega)
end Go.Proofs.YtddfdpbaiedcjaaGreatDoor
