/- A part of Carried's proof. Conditions: none. Part 8 of 13. -/
import Derived.Test.YtddfdpbaiedcjaaGreatDoorCar7
import Derived.Shelf.RegionOpen
set_option maxRecDepth 100000
set_option maxHeartbeats 16000000
set_option linter.all false
namespace Go.Proofs.YtddfdpbaiedcjaaGreatDoor
open Go.RowKit Go.Proofs.Tryz Go.Shelf
attribute [local go_sem] Oper.semAt_some
def OnlyN(Q:Exit→Act→World→Prop):Exit→Act→World→Prop:=fun e a w=>e = .normal∧Q .normal a w
variable{P:Program}{Q:Exit→Act→World→Prop}{w:World}
theorem zB{c:Code}{a:Act}(h:c.wp P (OnlyN Q) a w):c.wp P Q a w :=
 wp_mono h (fun e a w k=>by rw[k.1];exact k.2)
def zhC(s:zaI)(b o:Nat)(v:Value)(w w':World)(v':Value):Prop :=
 w'.ownsRow 0 214 2 v' s.rs.length (zn s.rs)∧w'.heap[b]?=((w.setCell ⟨b,o,none⟩ v').setCell ⟨b,o+1,none⟩ (.int .u64 (s.fl:Int))).heap[b]?∧Mod (fun k=>k=b∨v.ownBlock=some k) w w'∧zaH w v v'
structure AgJ(s:zaI)(b o e0:Nat)(cs0:Array Value)(v:Value)(w:World)(db rb:Nat)(rec:Loop)(pre:zA)(v':Value)(X:World):Prop where
 own:X.ownsRow 0 214 2 v' (s.adds pre).rs.length (zn (s.adds pre).rs)
 ob:X.heap[b]?=some (.cells ((cs0.setIfInBounds o v').setIfInBounds (o+1) (.int .u64 ((s.adds pre).fl:Int))) e0 (0,0))
 m:Mod (fun k=>k=b∨v.ownBlock=some k) w X
 nw:zaH w v v'
 ok:(s.adds pre).Ok
 mo:(s.adds pre).most=s.most
 df:X.heap[db]?=some (.deferred (some []))
 rc:X.heap[rb]?=some (.loop rec)
variable{base e g n sz:Nat}{v:Value}{xs:List Value}
theorem zX(h:w.ownsRow base e sz v n xs)(hg:v.ownBlock=some g):∃cur,w.heap[g]?=some (.cells cur e (0,0)):=by
 rcases h.2 with⟨rfl,_⟩|⟨g',c,cur,rfl,_,h1,_⟩
 ·simp[Value.ownBlock]at hg
 ·simp[Value.ownBlock]at hg;subst hg;exact⟨cur,h1⟩
variable{b db o rb:Nat}{s:zaI}
theorem AgJ.own_from{e0:Nat}{d:Array Value}{B:Nat}{f:Loop}(hB:w.heap.size≤B)(hb:b<B)(hd:db<B)(hr:rb<B):OwnFrom B (fun pre X=>∃v',AgJ s b o e0 d v w db rb f pre v' X):=by
 rintro pre A C row ⟨v',h⟩ hg a;have c:∀k,k<B→some k≠row:=fun k hk e=>by have:=(a k e.symm).1;omega
 have n:Mod (fun k=>row=some k) A C:=(Mod.refl _ _).grown hg (fun k hk=>.inl hk);refine⟨v',n.owns h.own (fun g j hx=>?_),(hg.block _ (Array.getElem?_eq_some_iff.1 h.ob).1 (c _ hb)).trans h.ob,h.m.then n (fun i hi=>.inr (by have:=(a i hi).1;omega)),h.nw,h.ok,h.mo,?_,?_⟩
 ·obtain⟨cur,hc⟩:=zX h.own j;obtain⟨_,ob,ho,l⟩:=a g hx;rw[ho]at hc;cases hc;cases l
 ·exact(hg.block _ (Array.getElem?_eq_some_iff.1 h.df).1 (c _ hd)).trans h.df
 ·exact(hg.block _ (Array.getElem?_eq_some_iff.1 h.rc).1 (c _ hr)).trans h.rc
theorem zm0(cs:Array Value)(o:Nat)(a x b y:Value):(((cs.setIfInBounds o a).setIfInBounds (o+1) x).setIfInBounds o b).setIfInBounds (o+1) y=(cs.setIfInBounds o b).setIfInBounds (o+1) y:=by
 apply Array.ext_getElem?;intro i;simp only[Array.getElem?_setIfInBounds,Array.size_setIfInBounds];by_cases h1:o+1=i
 ·simp[h1]
 ·by_cases h2:o=i
  ·simp[h1,h2]
  ·simp[h1,h2]
variable{X:World}{v':Value}
theorem AgJ.set{e0:Nat}{a:Array Value}{c:Loop}{pre:zA}(h:AgJ s b o e0 a v w db rb c pre v' X)(hz:o+2<a.size)(h2:a[o+2]?=some (.int .i64 (s.most:Int))):zbA X b o v' (s.adds pre).rs (s.adds pre).fl (s.adds pre).most:=by
 refine⟨za h.ob ?_,za h.ob ?_,za h.ob ?_,h.own,by have:=h.ok.rl;have:=h.ok.most.2;omega,fun j=>zf h.ob⟩
 ·simp[Array.getElem?_setIfInBounds];omega
 ·simp[Array.getElem?_setIfInBounds];omega
 ·simp[Array.getElem?_setIfInBounds,h.mo];have:=h2;simpa using this
theorem zdL:∀(l:zA) (lo hi:Nat) (t:zaI),(zbI l lo hi t).most=t.most
 | [],_,_,_=>rfl
 | r::l,lo,hi,t=>by
  unfold zbI;rw[zdL l lo hi];split
  ·split
   ·rw[zbm,zbm]
   ·rw[zbm]
  ·split
   ·rw[zbm]
   ·rfl
theorem ze2:∀(l:zA) (t:zaI),(t.adds l).most=t.most
 | [],_=>rfl
 | r::l,t=>by
  have:t.adds (r::l)=(t.add r.1 r.2).adds l:=rfl;rw[this,ze2 l,zbm]
theorem ze3(t:zaI)(l:zA)(r:Nat×Nat):t.adds (l++[r])=(t.adds l).add r.1 r.2:=by
 simp[zaI.adds]
structure zt(tag:Nat→Nat×Nat)(i b:Nat)(W0:World)(V0:CV)(c:CS)(tag':Nat→Nat×Nat)(V':CV)(W':World):Prop where
 c:zg tag' i b c V' W'
 e:Ext i tag tag' W0 W'
 m:Mod (zai i tag) W0 W'
 p:0<i
 ft:V'.ft=V0.ft∧V'.fts=V0.fts
variable{V' V0:CV}{W' W'' W0:World}{c:CS}{i k:Nat}{tag tag':Nat→Nat×Nat}
theorem zt.sent(h:zt tag i b W0 V0 c tag' V' W')(hk:k<8)(ha:zhC s b (9+15*k+1) (V'.ws k) W' W'' v')(hm:s.most=(c.ws k).sent.most):∃tag2 V2,zt tag i b W0 V0 { c with ws:=upd c.ws k { c.ws k with sent:=s } } tag2 V2 W''∧∀g,g<W'.heap.size→tag2 g=tag' g:=by
 obtain⟨f,l,d,u⟩:=ha;have v:=h.p;have n:∀{g r:Nat},tag' g=(i,r)→g<W'.heap.size:=fun hg=>zaD h.e.out hg v
 have o:∀g,(tag' g).1=i→retag tag' W' W'' (i,20+k) g=tag' g:=fun g hg=>zy (n (r:=(tag' g).2) (by rw[←hg]))
 have w:∀g,(g=b∨(V'.ws k).ownBlock=some g)→∃r,(r=1∨r=20+k)∧tag' g=(i,r):=fun g hg=>by
  rcases hg with hg|hg
  ·exact⟨1,.inl rfl,by rw[hg,h.c.tb]⟩
  ·exact⟨20+k,.inr rfl,h.c.tws k hk g hg⟩
 refine⟨retag tag' W' W'' (i,20+k),{ V' with ws:=upd V'.ws k v' },⟨?_,h.e.trans (zbw d.size) h.m.size,zap h.e h.m (d.mono (fun g hg=>.inl ?_)),v,h.ft⟩,fun g hg=>zy hg⟩
 ·refine h.c.build (R:=fun r=>r=1∨r=20+k) d w o ?_ (.inl ⟨rfl,rfl,rfl,by omega,by omega⟩) (fun q t=>.inl ⟨?_,rfl,by omega⟩) (fun q t=>?_) (fun q t=>.inl ⟨?_,rfl,by omega⟩) (fun q t=>.inl ⟨rfl,rfl,by omega⟩) (fun q t=>.inl ⟨rfl,rfl,by omega⟩) (.inl ⟨rfl,rfl,rfl,by omega,by omega⟩) (.inl ⟨rfl,rfl,by omega⟩) (.inl ⟨rfl,rfl,by omega⟩) (.inl ⟨rfl,rfl,by omega⟩)
  ·rw[l,zc (zc h.c.obj)];simp only[List.setIfInBounds_toArray];have e1:=zat c c V' { V' with ws:=upd V'.ws k v' } (k:=k) (j:=1) v' hk (by decide) (fun q _=>by
    by_cases a:q=k
    ·subst a;simp only[ze,if_true];rfl
    ·simp only[zd _ _ a,if_neg a]) rfl rfl rfl
   rw[e1];have e2:=zat c { c with ws:=upd c.ws k { c.ws k with sent:=s } } { V' with ws:=upd V'.ws k v' } { V' with ws:=upd V'.ws k v' } (k:=k) (j:=2) (.int .u64 (s.fl:Int)) hk (by decide) (fun q _=>by
    by_cases a:q=k
    ·subst a;simp only[ze,if_true,zbp,hm];rfl
    ·simp only[zd _ _ a,if_neg a]) rfl rfl rfl
   rw[show 9+15*k+1+1=9+15*k+2 from rfl,e2]
  ·by_cases a:q=k
   ·subst a;simp only[ze]
   ·simp only[zd _ _ a]
  ·by_cases a:q=k
   ·subst a;simp only[ze];refine .inr ⟨f,fun g hg=>?_⟩;rcases u g hg with y|y
    ·rw[zy (n (h.c.tws q hk g y)),h.c.tws q hk g y]
    ·exact zav y (zE f g hg)
   ·exact .inl ⟨by simp only[zd _ _ a],by simp only[zd _ _ a],by omega⟩
  ·by_cases a:q=k
   ·subst a;simp only[ze]
   ·simp only[zd _ _ a]
 ·obtain⟨r,hr,e⟩:=w g hg;exact zbk e (by omega)
theorem zt.mod0(h:zt tag i b W0 V0 c tag' V' W')(m:Mod NoB W' W''):zt tag i b W0 V0 c tag' V' W'' :=
 ⟨h.c.mod0 m,⟨h.e.old,h.e.new,h.e.out.mod m⟩,h.m.trans (m.mono (fun _ x=>x.elim)),h.p,h.ft⟩
variable{S:Nat→Prop}
theorem zt.free(h:zt tag i b W0 V0 c tag' V' W')(m:Mod S W' W'')(a:∀g,S g→tag' g=(0,0)∧W0.heap.size≤g):zt tag i b W0 V0 c tag' V' W'':=by
 have hp:=h.p;exact⟨h.c.mod m (fun g hg=>by rw[(a g hg).1];simp;omega) (fun _ _=>rfl),⟨h.e.old,h.e.new,h.e.out.mod m⟩,h.m.then m (fun g hg=>.inr (a g hg).2),h.p,h.ft⟩
variable{c':CS}
theorem zt.store(h:zt tag i b W0 V0 c tag' V' W')(j:Nat)(v:Value)(hc:(zr c V').set j v=zr c' V')(s:zbH c c'):zt tag i b W0 V0 c' tag' V' (W'.setCell ⟨b,j,none⟩ v):=by
 have a:Mod (fun q=>q=b) W' (W'.setCell ⟨b,j,none⟩ v):=(Mod.refl (fun q=>q=b) _).setCell (p:=⟨b,j,none⟩) (.inl rfl) _;exact⟨h.c.store j v hc s,⟨h.e.old,h.e.new,h.e.out.mod a⟩,zap h.e h.m (a.mono (fun q hq=>.inl (zbk (r:=1) (by rw[show q=b from hq];exact h.c.tb) (by decide)))),h.p,h.ft⟩
variable{y:WS}
theorem zt.storeW(h:zt tag i b W0 V0 { c with ws:=upd c.ws k y } tag' V' W')(hk:k<8)(j:Nat)(hj:j<15)(v:Value)(x:WS)(hx:zbp x (V'.wb k) (V'.ws k) (V'.wc k)=(zbp y (V'.wb k) (V'.ws k) (V'.wc k)).set j v)(h1:x.b=y.b)(h2:x.sent.rs=y.sent.rs)(h3:x.came.rs=y.came.rs):zt tag i b W0 V0 { c with ws:=upd c.ws k x } tag' V' (W'.setCell ⟨b,9+15*k+j,none⟩ v):=by
 have a:Mod (fun q=>q=b) W' (W'.setCell ⟨b,9+15*k+j,none⟩ v):=(Mod.refl (fun q=>q=b) _).setCell (p:=⟨b,_,none⟩) (.inl rfl) _;exact⟨h.c.storeW2 hk j hj v x hx h1 h2 h3,⟨h.e.old,h.e.new,h.e.out.mod a⟩,zap h.e h.m (a.mono (fun q hq=>.inl (zbk (r:=1) (by rw[show q=b from hq];exact h.c.tb) (by decide)))),h.p,h.ft⟩
variable{j:Nat}
theorem zfI{D:Nat}{o:Obj}(h:b≠D):(w.setCell ⟨b,j,none⟩ v).putObj D o=(w.putObj D o).setCell ⟨b,j,none⟩ v:=by
 simp only[World.setCell,World.putObj]
 congr 1
 apply Array.ext_getElem?;intro q;simp only[Array.getElem?_modify,Array.getElem?_setIfInBounds,Array.size_modify];by_cases h1:D=q
 ·subst h1;simp[h]
 ·by_cases h2:b=q
  ·subst h2;simp[h1]
  ·simp[h1,h2]
def zcr(tag:Nat→Nat×Nat)(i b:Nat)(W0:World)(V0:CV)(c:CS)(e:Ending)(W':World):Prop:=e = .returned (.tuple #[])∧∃tag' V',zt tag i b W0 V0 c tag' V' W'
structure AgOk(c:CS)(f:Frm)(k:Nat):Prop where
 lt:k<8
 st:f.stream=(k:Int)
 sent:(c.ws k).sent.Ok
 came:(c.ws k).came.Ok
 end_:f.off+f.data.length≤zD
 dl:f.data.length≤1099511627776
variable{V:CV}{W:World}
theorem zg.cameAt(h:zg tag i b c V W)(hk:k<8)(hl:(c.ws k).came.rs.length≤1099511627776):zbA W b (9+15*k+4) (V.wc k) (c.ws k).came.rs (c.ws k).came.fl (c.ws k).came.most :=
 ⟨h.w (j:=4) hk rfl,h.w (j:=5) hk rfl,h.w (j:=6) hk rfl,h.wc k hk,hl,fun j=>h.fz j⟩
variable{tag0:Nat→Nat×Nat}
theorem zk4(h:zt tag i b W0 V0 c tag0 V W)(f:Frm)(rv:Value)(k:Nat)(ok:AgOk c f k)(b4:f.kind=4)(b5:∃a n cap,rv = .slice a n cap):Calls prog 80 #[.pointer (some ⟨b,0,none⟩),.agg (zj f rv)] W (zcr tag i b W0 V0 { c with ws:=upd c.ws k ((c.ws k).again f) }):=by
 have hk:=ok.lt;have bh:=ok.st;obtain⟨ra,rn,aL,rfl⟩:=b5;obtain⟨x,hx⟩:=nm (c.ws k);rw[hx];have HX:=zb hx;obtain⟨fr,b6⟩:=nm (Value.slice ra rn aL);have b7:=ok;have Q:=zb ok;have HH:=zb h;obtain⟨off,ab⟩:=nm f.off;obtain⟨DL,aA⟩:=nm f.data.length;have b1:=ok.end_;have b2:=ok.dl;rw[ab,aA]at b1;rw[aA]at b2;unfold zD at b1;have b8:=zb ab;have bi:=zb aA;have d0:(0:Int)≤k:=by omega
 have d8:(k:Int)<8:=by omega
 obtain⟨W1,aj⟩:=nm (W.alloc (.cells (zj f (.slice ra rn aL)) 65));have m1:Mod NoB W W1:=by rw[←aj];exact(Mod.refl _ _).alloc _
 have aB:zh W1 W.heap.size f (.slice ra rn aL):=by rw[←aj];exact heap_alloc_new W _
 have R:W1.heap.size=W.heap.size+1:=by rw[←aj];simp
 obtain⟨fb,bj⟩:=nm W.heap.size;rw[bj]at aB R;have HF1:=zb aB;have b9:=zb aj;have ak:=zb bj;have M1:=zb m1;have bk:=zb R;obtain⟨y0,y1,y2,y3,y4,y5,y6,y7,y8,y9⟩:=aB.cells;rw[b4]at y0;rw[bh]at y1;rw[ab]at y2;clear h ok hx b6 ab aA m1 aB R aj b7 bh;refine(callsIn_wide (n:=8)).1 ?_;refine callsIn_of_wp_marks func80 rfl trivial ?_ rfl;simp only[ntmps80,List.size_toArray,List.length_cons,List.length_nil,Nat.reduceAdd,Nat.reduceSub,Array.replicate_succ,Array.replicate_zero,List.push_toArray,List.append_toArray,List.nil_append,List.cons_append];refine wpIn_wide.2 ?_;go_upto_region 1 with fail;rw[b9.out];have R:W1.heap.size=fb+1:=bk.out;obtain⟨E,aC⟩:=nm ((W1.alloc (.cells #[.pointer (some ⟨b,9+k*15,none⟩)] 225)).drew);have HW3:=zb aC;go_upto_region 3 with fail
 go_cut [4]from 12 to 112 (fun pv wx=>pv = .pointer (some ⟨fb+1,0,none⟩)∧wx=E)
 case first =>
  refine zB ?_;refine zm 7 (fun w'=>w'.cell? ⟨fb,1,none⟩=some (.int .i64 (k:Int))) (y1) ?_;refine GI 0 ?_;iterate 6
   refine GS rfl ?_ ?_ ?_;rotate_left
   ·(intro wx S;(try dsimp only at S);go_simp;try with_reducible rfl)
   try simp only[PS]
  refine zz 6 rfl (fun K hK=>?_);go_simp;have ca:∀o,(W1.drew.alloc o).cell? ⟨fb,1,none⟩=some (.int .i64 (k:Int)):=fun o=>((Mod.refl NoB W1.drew).alloc o).cell (a:=⟨fb,1,none⟩) id y1
  refine hK.out _ _ (ca _) ?_;clear hK K;try simp only[PS]
  refine zW rfl (fun K hK=>?_);have hnb:∀u,((W1.drew.alloc (.cells #[.pointer none] 225)).cell? ⟨fb+1,0,none⟩=some (.pointer none))∧(W1.drew.alloc (.cells #[.pointer none] 225)).frozen? ⟨fb+1,0,none⟩=u→True:=fun _ _=>trivial
  have bm:(W1.drew.alloc (.cells #[.pointer none] 225)).heap[fb+1]?=some (.cells #[.pointer none] 225 (0,0)):=by
   rw[←R];exact heap_alloc_new W1.drew _
  have z1:=za (o:=0) bm rfl;have z2:∀p,(W1.drew.alloc (.cells #[.pointer none] 225)).frozen? ⟨fb+1,p,none⟩=false:=fun p=>zf bm
  go_simp;refine hK.out _ _ ?_;clear hK K;try simp only[PS]
  refine zo ?_;refine⟨rfl,?_⟩;go_wp2_with fail;go_meet;exact⟨rfl,rfl⟩
 case rest =>
 obtain⟨rfl,hw⟩:=hcut;have hw:=hw.symm;subst hw;have ae:Mod NoB W1 E:=by rw[←aC];exact((Mod.refl _ _).alloc _).drew
 have bn:E.heap.size=fb+2:=by rw[←aC];simp[World.drew,bk.out]
 have bo:E.cell? ⟨fb+1,0,none⟩=some (.pointer (some ⟨b,9+k*15,none⟩)):=by
  rw[←aC];have:=heap_alloc_new W1 (.cells #[.pointer (some ⟨b,9+k*15,none⟩)] 225);rw[R]at this;exact za (o:=0) this rfl
 have z2:=ae.cell (a:=⟨fb,2,none⟩) id y2;have z5:=ae.cell (a:=⟨fb,5,none⟩) id y5;have z8:=ae.cell (a:=⟨fb,8,none⟩) id y8;have M:=zb (HH.out.mod0 (M1.out.trans ae));have M3:=zb (M1.out.trans ae);have cc:(zq f.data).size=DL:=by rw[zF];exact bi.out
 have aD:=zi8 x.sent b (9+15*k+1) off (off+DL) (V.ws k) E.drew (by
  rw[←HX.out];exact(M.out.mod0 (Mod.refl NoB E).drew).c.sentAt hk (by have:=Q.out.sent.rl;have:=Q.out.sent.most.2;omega)) (by rw[←HX.out];exact Q.out.sent) (by unfold zD;omega) (by unfold zD;omega)
 rw[Nat.mul_comm 15 k]at aD;have bp:((off+DL:Nat):Int)=(off:Int)+DL:=by omega
 rw[bp]at aD;have cd:=zb aD;have w1:E.cell? ⟨b,9+k*15+1,none⟩=some (V.ws k):=by rw[Nat.mul_comm k 15];exact M.out.c.w (j:=1) hk rfl
 have w2:E.cell? ⟨b,9+k*15+2,none⟩=some (.int .u64 ((c.ws k).sent.fl:Int)):=by rw[Nat.mul_comm k 15];exact M.out.c.w (j:=2) hk rfl
 have w3:E.cell? ⟨b,9+k*15+3,none⟩=some (.int .i64 ((c.ws k).sent.most:Int)):=by rw[Nat.mul_comm k 15];exact M.out.c.w (j:=3) hk rfl
 have ce:IntKind.u64.wrap (DL:Int)=(DL:Int):=by rw[IntKind.wrap_u64];omega
 have ci:=wu ((off:Int)+DL) (by omega);have aM:=zb bo;have aN:=zb bn;have bq:=zb (And.intro w1 (And.intro w2 w3));clear ae y1 y2 y3 y4 y5 y6 y7 y8 y9 aD bn R bp w1 w2 w3;go_upto_region 4 with fail
 go_cut []from 12 to 112 (fun wx=>∃(L:Nat→Nat×Nat) (I:CV),Hid (zt tag i b W0 V0 { c with ws:=upd c.ws k { c.ws k with sent:=x.sent.without off (off+DL) } } L I wx)∧Hid ((∀g,g<E.heap.size→L g=tag0 g)∧Mod (fun g=>g=b) E wx∧(x.sent.without off (off+DL)).Ok∧(x.sent.without off (off+DL)).most=(c.ws k).sent.most))
 case first =>
  refine zB ?_;refine zm 16 (fun w'=>w'.cell? ⟨fb+1,0,none⟩=some (.pointer (some ⟨b,9+k*15,none⟩))∧w'.cell? ⟨fb,2,none⟩=some (.int .u64 (off:Int))∧w'.cell? ⟨fb,8,none⟩=some (.string (zq f.data))) (⟨bo,z2,z8⟩) ?_;refine GI 0 ?_;iterate 13
   refine GS rfl ?_ ?_ ?_;rotate_left
   ·(intro wx S;obtain⟨f1,f2,f8⟩:=S;go_simp;try with_reducible rfl)
   try simp only[PS]
  refine zz 13 rfl (fun K hK=>?_);go_simp;refine cd.out.mono ?_;rintro e W4 ⟨v4,rfl,aO,aP,m4⟩;obtain⟨aQ,aR,cj,_⟩:=zi aO;have M4:=zb m4;have mm:Mod NoB E W4:=(Mod.refl NoB E).drew.trans m4;refine hK.out _ _ ⟨mm.cell (a:=⟨fb+1,0,none⟩) id aM.out,mm.cell (a:=⟨fb,2,none⟩) id z2,mm.cell (a:=⟨fb,8,none⟩) id z8⟩ ?_;clear hK K;try simp only[PS]
  refine GI 14 ?_;iterate 2
   refine GS rfl ?_ ?_ ?_;rotate_left
   ·(intro wx S;obtain⟨f1,f2,f8⟩:=S;go_simp;try with_reducible rfl)
   try simp only[PS]
  refine zW rfl (fun K hK=>?_);have mm:Mod NoB E W4:=(Mod.refl NoB E).drew.trans M4.out;obtain⟨w1,w2,w3⟩:=bq.out;have q1:=mm.cell (a:=⟨b,_,none⟩) id w1;have q2:=mm.cell (a:=⟨b,_,none⟩) id w2;have q3:=mm.cell (a:=⟨b,_,none⟩) id w3;have qf:∀p,W4.frozen? ⟨b,p,none⟩=false:=fun p=>zf (mm.obj (fun x=>x) M.out.c.obj)
  have qf2:∀p v p',(W4.setCell ⟨b,p,none⟩ v).frozen? ⟨b,p',none⟩=false:=fun p v p'=>zf (zc (mm.obj (fun x=>x) M.out.c.obj))
  have qf3:∀p v p2 v2 p',((W4.setCell ⟨b,p,none⟩ v).setCell ⟨b,p2,none⟩ v2).frozen? ⟨b,p',none⟩=false:=fun p v p2 v2 p'=>zf (zc (zc (mm.obj (fun x=>x) M.out.c.obj)))
  subst cj;clear w1 w2 w3 mm;go_simp;refine hK.out _ _ ?_;clear hK K;try simp only[PS]
  refine zo ?_;have hb3:b<E.heap.size:=zk bq.out.1;have ac:(x.sent.without off (off+DL)).most=(c.ws k).sent.most:=by rw[HX.out];exact zdL _ _ _ _
  obtain⟨s1,F⟩:=nm (x.sent.without off (off+DL));rw[F]at aO aP ac ⊢;have al:=zb F;have aS:s1.Ok:=by
   rw[←F];exact zdl _ _ _ _ (fun r hr=>by
    obtain⟨j,l⟩:=List.getElem?_of_mem hr;have aT:=(List.getElem?_eq_some_iff.1 l).1;have e:=zfZ aT;rw[l]at e;cases e;rw[←HX.out]at aT ⊢;exact Q.out.sent.hi j aT) (zbf _ (by rw[←HX.out];exact Q.out.sent.most))
  obtain⟨G,am⟩:=nm ((((W4.setCell ⟨b,9+k*15+1,none⟩ (.slice aQ s1.rs.length aR)).setCell ⟨b,9+k*15+1+1,none⟩ (.int .u64 (s1.fl:Int))).setCell ⟨b,9+k*15+1+2,none⟩ (.int .i64 (s1.most:Int))));have aU:Mod (fun g=>g=b) W4 G:=by
   rw[←am];exact(((Mod.refl (fun g=>g=b) W4).setCell (p:=⟨b,_,none⟩) (.inl rfl) _).setCell (p:=⟨b,_,none⟩) (.inl rfl) _).setCell (p:=⟨b,_,none⟩) (.inl rfl) _
  have aV:Mod NoB E.drew W4:=M4.out;have N:zhC s1 b (9+15*k+1) (V.ws k) E.drew G (.slice aQ s1.rs.length aR):=by
   refine⟨aU.owns aO (fun g hg x=>?_),?_,(aV.mono (fun _ x=>x.elim)).trans (aU.mono (fun g hg=>.inl (.inl hg))),fun g hg=>.inr (aP g hg)⟩
   ·have:=aP g hg;have x:g=b:=x;have e:E.drew.heap.size=E.heap.size:=rfl;omega
   ·have o3:E.drew.heap[b]?=some (.cells (zr c V).toArray 127 (0,0)):=M.out.c.obj;have o4:=aV.obj (fun x=>x) o3;have ep:9+k*15+1=9+15*k+1:=by omega
    rw[←am,ep];have ck:((W4.setCell ⟨b,9+15*k+1,none⟩ (.slice aQ s1.rs.length aR)).setCell ⟨b,9+15*k+1+1,none⟩ (.int .u64 (s1.fl:Int))).cell? ⟨b,9+15*k+1+2,none⟩=some (.int .i64 (s1.most:Int)):=by
     refine za (zc (zc o4)) ?_;have h3:(zr c V)[9+15*k+3]?=some (.int .i64 ((c.ws k).sent.most:Int)):=zfU c V hk rfl;rw[Array.getElem?_setIfInBounds_ne (by omega),Array.getElem?_setIfInBounds_ne (by omega),List.getElem?_toArray,h3,ac]
    rw[zaz ck,zc (zc o4),zc (zc o3)]
  obtain⟨L,I,R5,co⟩:=(M.out.mod0 (Mod.refl NoB E).drew).sent hk N ac;have e:Hid ((∀g,g<E.heap.size→L g=tag0 g)∧Mod (fun g=>g=b) E G∧s1.Ok∧s1.most=(c.ws k).sent.most):=zb ⟨co,(((Mod.refl NoB E).drew.trans aV).mono (fun _ x=>x.elim)).trans aU,aS,ac⟩;have T:=zb R5;clear R5;rw[am];refine⟨rfl,?_⟩;go_wp2_with fail;go_meet;rw[al.out];exact⟨L,I,T,e⟩
 case rest =>
 obtain⟨L,I,T,U⟩:=hcut;obtain⟨G,am⟩:=nn wc;subst am;obtain⟨s1,F⟩:=nm (x.sent.without off (off+DL));rw[F]at T U;have al:=zb F;have hbf:b<W.heap.size:=zk (HH.out.c.hd (j:=0) rfl);have cp:G.cell? ⟨fb+1,0,none⟩=some (.pointer (some ⟨b,9+k*15,none⟩))∧G.cell? ⟨fb,5,none⟩=some (.bool f.fin):=by
  have e:=ak.out;exact⟨U.out.2.1.cell (a:=⟨fb+1,0,none⟩) (fun x=>by have x:fb+1=b:=x;omega) aM.out,U.out.2.1.cell (a:=⟨fb,5,none⟩) (fun x=>by have x:fb=b:=x;omega) z5⟩
 have cL:fb+2≤G.heap.size:=by
  have:=aN.out;have h1:=U.out.2.1.size;omega
 clear F z2 z5 z8 y0 ce ci cc aM;have hbw:b<G.heap.size:=zk (T.out.c.hd (j:=0) rfl);obtain⟨bt,cq⟩:=cp;go_upto_region 5 with fail;go_wp2_with (go_at_call 141;refine((callsIn_wide (n:=8)).1 (zpk Fence.wide 8 trivial rfl b (9+k*15+4) G)).mono ?_;rintro e w6 ⟨rfl,rfl⟩);obtain⟨sB,aW⟩:=nm G.heap.size;have hbs:b<sB:=by omega
 obtain⟨W6,af⟩:=nm (G.alloc (.cells #[.pointer (some ⟨b,9+k*15+4,none⟩)] 114));have bu:=af;have m6:Mod NoB G W6:=by rw[←af];exact(Mod.refl _ _).alloc _
 have an:W6.heap.size=sB+1:=by rw[←af];simp[aW]
 have cv:W6.cell? ⟨sB,0,none⟩=some (.pointer (some ⟨b,9+k*15+4,none⟩)):=by
  rw[←af,←aW];exact za (heap_alloc_new G _) rfl
 try rw[af]
 try rw[aW]
 refine(wpIn_wide (n:=8)).1 ?_;refine zeM rfl (by decide) (gf:=193) (lb:=#[.pointer (some ⟨sB,0,none⟩)]) rfl trivial (enters_of func193 (by kernel_rfl) rfl) ?_;intro fn hf;generalize hrec:Loop.mk .ready none fn _ _ _ _ _=rec;rw[an]at hrec ⊢;obtain⟨D,hD⟩:=nm (sB+1);rw[hD]at hrec an ⊢;obtain⟨W7,ah⟩:=nm ((W6.alloc (.deferred (some []))).alloc (.loop rec));have bv:Mod NoB W6 W7:=by rw[←ah];exact((Mod.refl _ _).alloc _).alloc _
 have hs7:W7.heap.size=D+2:=by rw[←ah];simp[an]
 have cw:W7.heap[D]?=some (.deferred (some [])):=by
  rw[←ah,←an];exact(Below.heap_alloc _ _ _ (by simp)).trans (World.alloc_heap_new W6 _)
 have cx:W7.heap[D+1]?=some (.loop rec):=by
  rw[←ah];have:=World.alloc_heap_new (W6.alloc (.deferred (some []))) (.loop rec);rw[World.size_alloc,an]at this;exact this
 rw[ah];have Z:Mod NoB G W7:=m6.trans bv;have C5:=T.out.c;obtain⟨c5,aX⟩:∃c5:CS,{ c with ws:=upd c.ws k { c.ws k with sent:=s1 } }=c5:=⟨_,rfl⟩;rw[aX]at T C5;have ao:c5.ws k={ x with sent:=s1 }:=by rw[←aX,←HX.out];simp[ze]
 obtain⟨rs,ai⟩:=nm x.came.rs;have s:=C5.wc k hk;rw[ao]at s;have s:G.ownsRow 0 214 2 (I.wc k) rs.length (zn rs):=by rw[←ai];exact s
 obtain⟨a5,ap,aE,_⟩:=zi s;rw[aE]at s;have aq:∀j,(fun r:Nat×Nat=>r.1≤zD∧r.2≤zD) (loAt rs j,hiAt rs j):=fun j=>by
  by_cases l:j<rs.length
  ·have h1:=Q.out.came.hi j (by rw[HX.out,ai];exact l);have h2:=Q.out.came.wf.1 j (by rw[HX.out,ai];exact l);rw[HX.out,ai]at h1 h2;exact⟨by show loAt rs j≤zD;omega,h1⟩
  ·have:loAt rs j=0∧hiAt rs j=0:=by
    unfold loAt hiAt;rw[List.getD_eq_getElem?_getD,List.getElem?_eq_none (by omega)];exact⟨rfl,rfl⟩
   rw[this.1,this.2];exact⟨Nat.zero_le _,Nat.zero_le _⟩
 have bw:∀j,j<rs.length→loAt rs j<18446744073709551616∧hiAt rs j<18446744073709551616:=fun j _=>by
  have:=aq j;unfold zD at this;omega
 have H:∃H,H=(zr c5 I).toArray:=⟨_,rfl⟩;obtain⟨H,O⟩:=H;have bz:G.heap[b]?=some (.cells H 127 (0,0)):=by rw[O];exact C5.obj
 have g0:H[9+k*15+1]?=some (I.ws k):=by rw[O,List.getElem?_toArray,Nat.mul_comm k 15];exact zfU c5 I (j:=1) hk rfl
 have g1:H[9+k*15+1+1]?=some (.int .u64 (s1.fl:Int)):=by rw[O,List.getElem?_toArray,Nat.mul_comm k 15];have:=zfU c5 I (k:=k) (j:=2) (v:=.int .u64 ((c5.ws k).sent.fl:Int)) hk rfl;rw[ao]at this;exact this
 have g2:H[9+k*15+1+2]?=some (.int .i64 (s1.most:Int)):=by rw[O,List.getElem?_toArray,Nat.mul_comm k 15];have:=zfU c5 I (k:=k) (j:=3) (v:=.int .i64 ((c5.ws k).sent.most:Int)) hk rfl;rw[ao]at this;exact this
 have hz:9+k*15+1+2<H.size:=(Array.getElem?_eq_some_iff.1 g2).1;have owns:G.ownsRow 0 214 2 (I.ws k) s1.rs.length (zn s1.rs):=by
  have:=C5.ws k hk;rw[ao]at this;exact this
 have j0:AgJ s1 b (9+k*15+1) 127 H (I.ws k) G D (D+1) rec [] (I.ws k) W7:=by
  refine⟨Z.owns owns (fun _ _ x=>x),?_,Z.mono (fun _ x=>x.elim),fun g hg=>.inl hg,U.out.2.2.1,rfl,cw,cx⟩;rw[Z.obj (fun x=>x) bz]
  congr 2
  apply Array.ext_getElem?;intro j;simp only[Array.getElem?_setIfInBounds,Array.size_setIfInBounds];by_cases q1:9+k*15+1+1=j
  ·subst q1;rw[if_pos rfl,if_pos (by omega),g1];rfl
  ·rw[if_neg q1];by_cases q2:9+k*15+1=j
   ·subst q2;rw[if_pos rfl,if_pos (by omega),g0]
   ·rw[if_neg q2]
 have aY:=congrArg Loop.assign hrec.symm;dsimp only at aY;have aZ:=congrArg Loop.body hrec.symm;dsimp only at aZ;have a0:=congrArg Loop.tmps hrec.symm;dsimp only at a0;have bA:rec.params=#[38]:=by rw[←hrec]
 have aJ:rec.state = .ready:=by rw[←hrec]
 have bB:rec.pending=none:=by rw[←hrec]
 have bC:=zb bB;have cy:=zb aY;have cz:=zb aZ;have cA:=zb a0;have bD:=zb bA;have a1:=zb aJ;have cB:=bv.cell (a:=⟨sB,0,none⟩) id cv;have cC:W7.cell? ⟨b,9+k*15+4,none⟩=some (.slice a5 rs.length ap):=by
  have h1:G.cell? ⟨b,9+k*15+4,none⟩=some (I.wc k):=by rw[Nat.mul_comm k 15];exact C5.w (j:=4) hk rfl
  rw[aE]at h1;have:=Z.cell (a:=⟨b,_,none⟩) id h1;have e:x.came.rs.length=rs.length:=by rw[ai]
  simpa [e]using this
 have cD:RR W7 (.slice a5 rs.length ap) rs:=by
  have:=zgs.rr (rs:=rs) ⟨s,bw⟩;exact this.mod Z (za2.no _)
 have twc:∀g o,a5=some ⟨g,o,none⟩→g<W7.heap.size∧g≠b∧g≠D+1:=fun g o e=>by
  have a2:(I.wc k).ownBlock=some g:=by rw[aE,e];rfl
  have h1:=C5.twc k hk g a2;have h2:=zE s g (by rw[e];rfl);refine⟨by have:=Z.size;omega,fun x=>?_,by omega⟩;rw[x,C5.tb]at h1;simp at h1;omega
 have bE:∀g o,a5=some ⟨g,o,none⟩→g<G.heap.size:=fun g o e=>zE s g (by rw[e];rfl)
 have bF:∀g o,a5=some ⟨g,o,none⟩→(I.ws k).ownBlock≠some g:=fun g o e x=>by
  have a2:(I.wc k).ownBlock=some g:=by rw[aE,e];rfl
  have h1:=C5.twc k hk g a2;have h2:=C5.tws k hk g x;rw[h1]at h2;simp at h2
 clear hrec aY aZ a0 bA aJ bB af bu ah O;refine(zmZ Fence.wide 7 (fun _=>trivial) rfl (by decide) (D+1) sB b (9+k*15+4) b ap a5 (fun r=>r.1≤zD∧r.2≤zD) rs aq
  (fun pre X=>∃v',AgJ s1 b (9+k*15+1) 127 H (I.ws k) G D (D+1) rec (pre.map (·.1)) v' X) (fun _ _=>False) W7 ?hY ?hJ ?hJx cB cC cD (by omega) (by omega) twc ⟨_,j0⟩).mono ?post
 case hJ =>
  intro pre A Y row hh hg hr;exact AgJ.own_from (B:=W7.heap.size) (by have:=Z.size;omega) (by omega) (by omega) (by omega) (pre.map (·.1)) A Y row hh hg hr
 case hJx=>intro _ _ _ _ x;exact x.elim
 case hY =>
  rintro pre y X ⟨v,l⟩ hlt;have d:=zb l;have cE:=(Array.getElem?_eq_some_iff.1 l.rc).1;refine⟨_,_,_,_,run_yield l.rc (by rw[bD.out];rfl),roundIn_of_wpIn trivial ?_⟩;rw[cy.out,cz.out,cA.out,bD.out];unfold zrI;clear l;gi_wp2;have a3:(X.alloc (.cells #[.int .u64 (y.1.1:Int),.int .u64 (y.1.2:Int)] 214)).heap[D+1]?=some (.loop rec):=(Below.heap_alloc _ _ _ cE).trans d.out.rc;refine⟨_,run_beginRound a3 a1.out,?_⟩;obtain⟨p0,a4⟩:=nm y.1.1;obtain⟨p1,a6⟩:=nm y.1.2;have aF:=y.2;simp only at aF;rw[a4,a6]at aF;rw[a4,a6]at a3 ⊢;obtain⟨t,J⟩:∃t,(X.alloc (.cells #[.int .u64 (p0:Int),.int .u64 (p1:Int)] 214)).putObj (D+1) (.loop { rec with state:=.busy })=t:=⟨_,rfl⟩;have ar:Mod (fun q=>q=D+1) X t:=by
   rw[←J];exact((Mod.refl (fun q=>q=D+1) X).alloc _).putObj (.inl rfl) _
  have bG:t.heap[D+1]?=some (.loop { rec with state:=.busy }):=by
   rw[←J];exact World.putObj_heap_same (by simp;omega)
  have a7:t.heap[X.heap.size]?=some (.cells #[.int .u64 (p0:Int),.int .u64 (p1:Int)] 214 (0,0)):=by
   rw[←J];exact(World.putObj_heap_other (by omega)).trans (heap_alloc_new X _)
  have bH:t.heap[D]?=some (.deferred (some [])):=by
   rw[←J];exact(World.putObj_heap_other (by omega)).trans ((Below.heap_alloc _ _ _ (by omega)).trans d.out.df)
  have bI:v.ownBlock≠some b:=fun e=>by
   obtain⟨aa,hc⟩:=zX d.out.own e;rw[d.out.ob]at hc;simp at hc
  have ad:v.ownBlock≠some (D+1):=fun e=>by
   obtain⟨aa,hc⟩:=zX d.out.own e;rw[d.out.rc]at hc;cases hc
  have au:v.ownBlock≠some D:=fun e=>by
   obtain⟨aa,hc⟩:=zX d.out.own e;rw[d.out.df]at hc;cases hc
  have aK:=(d.out.set hz g2).mod ar (by omega) (fun g hg e=>ad (by rw[hg,show g=D+1 from e]));have bJ:=ar.obj (k:=b) (by omega) d.out.ob;rw[J];have a8:=d.out.ok;have bK:=a8.most;unfold zD at aF;have ka:=zco (s1.adds (pre.map (·.1))) b (9+k*15+1) p0 p1 v t.drew (aK.mod (Mod.refl NoB t).drew (fun x=>x) (fun _ _ x=>x)) a8.wf (by omega) (by omega) (Nat.lt_of_le_of_lt a8.fl (by unfold zD;decide)) bI bK.1 (Nat.le_trans bK.2 (by decide));have KA:=zb ka;have u0:t.cell? ⟨X.heap.size,0,none⟩=some (.int .u64 (p0:Int)):=za a7 rfl;have u1:t.cell? ⟨X.heap.size,1,none⟩=some (.int .u64 (p1:Int)):=za a7 rfl;have bL:t.cell? ⟨fb+1,0,none⟩=some (.pointer (some ⟨b,9+k*15,none⟩)):=by
   have h1:=d.out.m.cell (a:=⟨fb+1,0,none⟩) (fun q=>by
    rcases q with q|q
    ·have q:fb+1=b:=q;have:=ak.out;omega
    ·have h3:=C5.tws k hk (fb+1) q;have h4:=U.out.1 (fb+1) (by rw[aN.out];omega);rw[h4,HH.out.e.out (fb+1) (by rw[ak.out];omega)]at h3;have h5:=congrArg Prod.snd h3;simp only at h5;omega) bt
   exact ar.cell (a:=⟨fb+1,0,none⟩) (by show ¬fb+1=D+1;omega) h1
  have bM:=zb bJ;have bN:=zb bG;have cF:=zb bH;have bO:=zb ar;have hmo:(prog).follows Departure.mixedOrders=true:=by kernel_rfl
  have av:Fence.wide.fn 88:=trivial;clear aK bJ a3 a7 J ka bG bH ar;gi_wp2;refine zpm 7 (fun w'=>w'.cell? ⟨X.heap.size,0,none⟩=some (.int .u64 (p0:Int))∧w'.cell? ⟨X.heap.size,1,none⟩=some (.int .u64 (p1:Int))∧w'.cell? ⟨fb+1,0,none⟩=some (.pointer (some ⟨b,9+k*15,none⟩))) (by kernel_rfl) (by kernel_rfl) (by kernel_rfl) (⟨u0,u1,bL⟩) ?_;refine GI 0 ?_;iterate 7
   refine GS rfl ?_ ?_ ?_;rotate_left
   ·(intro wx S;obtain⟨f1,f2,f8⟩:=S;go_simp;try with_reducible rfl)
   try simp only[PS]
  refine zW rfl (fun K hK=>?_);go_simp
  with_reducible refine(KA.out).mono ?_
  rintro e X3 ⟨v3,rfl,bP,bQ,bR,bS⟩;have bT:=zb bP;have cG:=zb bQ;have a9:=zb bR;have cH:=zb bS;clear bP bQ bR bS;go_simp;refine hK.out _ _ ?_;clear hK K;try simp only[PS]
  refine zo ?_;refine⟨rfl,?_⟩;gi_wp2;have cM:=(Array.getElem?_eq_some_iff.1 bN.out).1;have bU:∀q,q=D∨q=D+1→¬(q=b∨v.ownBlock=some q):=fun q C x=>by
   rcases C with rfl|rfl
   ·rcases x with x|x
    ·omega
    ·exact au x
   ·rcases x with x|x
    ·omega
    ·exact ad x
  have ba:X3.heap[D+1]?=some (.loop { rec with state:=.busy }):=a9.out.obj (bU _ (.inr rfl)) bN.out;have cI:X3.heap[D]?=some (.deferred (some [])):=a9.out.obj (bU _ (.inl rfl)) cF.out;have bV:=(Array.getElem?_eq_some_iff.1 ba).1;have cJ:Mod (fun q=>q=D+1∨q=b∨v.ownBlock=some q) X X3:=by
   refine(bO.out.mono (fun q C=>.inl (.inl C))).trans ((Mod.refl _ t).drew.trans (a9.out.mono (fun q C=>.inl (.inr C))))
  have bW:∀r,Mod (fun q=>q=D+1∨q=b∨v.ownBlock=some q) X (X3.putObj (D+1) r):=fun r=>cJ.putObj (.inl (.inl rfl)) r
  have bb:∀q,v.ownBlock=some q→(I.ws k).ownBlock=some q∨G.heap.size≤q:=d.out.nw;refine⟨_,_,run_endRound none ba,(bW _).mono (fun q C=>.inl ?_),rfl,v3,?_⟩
  ·rcases C with C|C|C
   ·exact .inr (.inl C)
   ·exact .inl C
   ·refine .inr (.inr ⟨fun g o e y=>?_,?_⟩)
    ·subst y;rcases bb _ C with y|y
     ·exact bF _ _ e y
     ·have:=bE _ _ e;omega
    ·obtain⟨aa,hc⟩:=zX d.out.own C;exact⟨_,_,hc⟩
  ·have aG:pre.map (·.1)++[y.1]=pre.map (·.1)++[(p0,p1)]:=by
    rw[←a4,←a6]
   have bX:v3.ownBlock≠some (D+1):=fun e=>by
    obtain⟨aa,hc⟩:=zX bT.out e;rw[ba]at hc;cases hc
   have mp:∀r,Mod (fun q=>q=D+1) X3 (X3.putObj (D+1) r):=fun r=>(Mod.refl (fun q=>q=D+1) X3).putObj (.inl rfl) r
   have cN:=d.out.m.size;refine⟨?_,?_,?_,?_,?_,?_,?_,?_⟩
   ·rw[aG,ze3];exact(mp _).owns bT.out (fun g hg e=>bX (by rw[hg,show g=D+1 from e]))
   ·rw[aG,ze3,World.putObj_heap_other (by omega),cG.out,zc (zc (show t.drew.heap[b]?=_ from bM.out)),zm0]
   ·refine d.out.m.then (bW _) (fun q C=>?_);rcases C with C|C|C
    ·exact .inr (by omega)
    ·exact .inl (.inl C)
    ·rcases bb q C with z|z
     ·exact .inl (.inr z)
     ·exact .inr z
   ·intro g hg;rcases cH.out g hg with z|z
    ·exact bb g z
    ·refine .inr ?_;have h1:=bO.out.size;have h2:t.drew.heap.size=t.heap.size:=rfl;omega
   ·rw[aG,ze3];exact d.out.ok.add _ aF.2
   ·rw[aG,ze2]
   ·exact(World.putObj_heap_other (by omega)).trans cI
   ·rw[World.putObj_heap_same bV];have bY:=bC.out;have bZ:=a1.out;cases rec;simp only at bY bZ;subst bY;subst bZ;rfl
 case post =>
  rintro e X ⟨⟨v0,rfl⟩,⟨v,l⟩|⟨q,C,hx⟩⟩;rotate_left
  ·exact hx.elim
  have aw:=run_endLoop (P:=prog) l.rc (by rw[a1.out];simp);rw[bC.out]at aw;refine⟨none,_,aw,?_⟩;clear aw;have ax:((zaF (fun r:Nat×Nat=>r.1≤zD∧r.2≤zD) rs aq rs.length).map RgP.rr).map (·.1)=rs.reverse:=by
   have h1:((zaF (fun r:Nat×Nat=>r.1≤zD∧r.2≤zD) rs aq rs.length).map RgP.rr).map (·.1)=((zaF (fun r:Nat×Nat=>r.1≤zD∧r.2≤zD) rs aq rs.length).map (·.1)).map (·.2):=by
    rw[List.map_map,List.map_map];rfl
   rw[h1,zi5,zfR rs rs.length (Nat.le_refl _),List.take_of_length_le (by simp)]
  rw[ax]at l;obtain⟨t,J⟩:∃t,X.putObj (D+1) (.loop { rec with state:=.exhausted,pending:=none })=t:=⟨_,rfl⟩;have hm:Mod (fun q=>q=D+1) X t:=by rw[←J];exact(Mod.refl (fun q=>q=D+1) _).putObj (.inl rfl) _
  have hd:t.heap[D]?=some (.deferred (some [])):=hm.obj (by simp) l.df;have bI:v.ownBlock≠some b:=fun e=>by
   obtain⟨aa,hc⟩:=zX l.own e;rw[l.ob]at hc;simp at hc
  have ad:v.ownBlock≠some (D+1):=fun e=>by
   obtain⟨aa,hc⟩:=zX l.own e;rw[l.rc]at hc;cases hc
  have au:v.ownBlock≠some D:=fun e=>by
   obtain⟨aa,hc⟩:=zX l.own e;rw[l.df]at hc;cases hc
  obtain⟨Y,hY⟩:=nm (t.putObj D (.deferred none));have mY:Mod (fun q=>q=D∨q=D+1) X Y:=by
   rw[←hY];exact(hm.mono (fun q C=>.inl (.inr C))).putObj (.inl (.inl rfl)) _
  have N:zhC (s1.adds rs.reverse) b (9+15*k+1) (I.ws k) G Y v:=by
   have ep:9+k*15+1=9+15*k+1:=by omega
   rw[←ep];refine⟨mY.owns l.own (fun g hg e=>?_),?_,l.m.then mY (fun q C=>.inr (by omega)),l.nw⟩
   ·rcases e with e|e
    ·exact au (by rw[hg,e])
    ·exact ad (by rw[hg,e])
   ·exact(mY.block b (Array.getElem?_eq_some_iff.1 l.ob).1 (by omega)).trans (l.ob.trans (zc (zc bz)).symm)
  obtain⟨ay,V6,R6,ht6⟩:=T.out.sent hk N (by rw[ze2,ao]);have b0:({ c5 with ws:=upd c5.ws k { c5.ws k with sent:=s1.adds rs.reverse } }:CS)={ c with ws:=upd c.ws k { x with sent:=s1.adds rs.reverse } }:=by
   rw[←aX];simp only[ze];rw[zdj,HX.out]
  rw[b0]at R6;have az:(x.sent.without f.off (f.off+f.data.length)).adds x.came.rs.reverse=s1.adds rs.reverse:=by
   rw[ai,b8.out,bi.out,al.out]
  have bc:t.heap[b]?=some (.cells (zr { c with ws:=upd c.ws k { x with sent:=s1.adds rs.reverse } } V6).toArray 127 (0,0)):=by
   rw[←R6.c.obj,←hY,World.putObj_heap_other (by omega)]
  have fe:=za (o:=9+k*15+9) bc (by
   rw[List.getElem?_toArray,Nat.mul_comm k 15];exact zfU { c with ws:=upd c.ws k { x with sent:=s1.adds rs.reverse } } V6 (k:=k) (j:=9) (v:=.bool x.ending) hk (by simp[ze,zbp]))
  have fz:∀j,t.frozen? ⟨b,j,none⟩=false:=fun j=>zf bc
  have bd:∀q,q=fb∨q=fb+1→¬(q=b∨(I.ws k).ownBlock=some q):=fun q C x=>by
   have cO:=ak.out;rcases x with x|x
   ·omega
   ·have h3:=C5.tws k hk q x;have h4:=U.out.1 q (by rw[aN.out];omega);rw[h4,HH.out.e.out q (by rw[ak.out];omega)]at h3;have h5:=congrArg Prod.snd h3;simp only at h5;omega
  have x1:=hm.cell (a:=⟨fb+1,0,none⟩) (by show ¬fb+1=D+1;omega) (l.m.cell (a:=⟨fb+1,0,none⟩) (bd _ (.inr rfl)) bt);have x5:=hm.cell (a:=⟨fb,5,none⟩) (by show ¬fb=D+1;omega) (l.m.cell (a:=⟨fb,5,none⟩) (bd _ (.inl rfl)) cq);have aH:=zb R6;have aI:=zb az;have b3:=zb hY;have hx2:D<t.heap.size:=(Array.getElem?_eq_some_iff.1 hd).1;rw[J];clear R6 az bc bd hm l N mY hY J b0 ax;cases av:f.fin with
  | false =>
   rw[av]at x5;have e1:x.again f={ x with sent:=s1.adds rs.reverse }:=by
    unfold WS.again;rw[aI.out,av];simp
   have be:=zb e1;have bf:=aH;clear aH e1 aI;go_wp2_with fail;refine⟨by simp,.inl ⟨_,_,rfl,run_takeDeferred hd,?_⟩⟩;refine⟨_,results_none rfl _ _ _,rfl,ay,V6,?_⟩;rw[b3.out,be.out];exact bf.out
  | true =>
   rw[av]at x5;have e1:x.again f={ x with sent:=s1.adds rs.reverse,ending:=false }:=by
    unfold WS.again;rw[aI.out,av];simp
   have be:=zb e1;have bf:Hid (zt tag i b W0 V0 { c with ws:=upd c.ws k { x with sent:=s1.adds rs.reverse,ending:=false } } ay V6 (Y.setCell ⟨b,9+15*k+9,none⟩ (.bool false))):=zb (aH.out.storeW hk 9 (by decide) (.bool false) { x with sent:=s1.adds rs.reverse,ending:=false } rfl rfl rfl rfl);clear aH e1 aI;go_wp2_with fail;have cK:(t.setCell ⟨b,9+k*15+9,none⟩ (.bool false)).heap[D]?=some (.deferred (some [])):=((Mod.refl (fun q=>q=b) t).setCell (p:=⟨b,_,none⟩) (.inl rfl) _).obj (by omega) hd;refine⟨by simp,.inl ⟨_,_,rfl,run_takeDeferred cK,?_⟩⟩;refine⟨_,results_none rfl _ _ _,rfl,ay,V6,?_⟩;rw[zfI (by omega),b3.out,Nat.mul_comm k 15,be.out];exact bf.out
end Go.Proofs.YtddfdpbaiedcjaaGreatDoor
namespace Go.Proofs.YtddfdpbaiedcjaaGreatDoor
open Go.RowKit Go.Proofs.Tryz
variable{V' V0:CV}{W' W0:World}{b i k:Nat}{c:CS}{tag tag':Nat→Nat×Nat}
theorem zt.storeR{y:RS}(h:zt tag i b W0 V0 { c with rs:=upd c.rs k y } tag' V' W')(hk:k<8)(j:Nat)(hj:j<13)(v:Value)(x:RS)(hx:zbO x (V'.rb k) (V'.rc k)=(zbO y (V'.rb k) (V'.rc k)).set j v)(h1:x.b=y.b)(h3:x.came.rs=y.came.rs):zt tag i b W0 V0 { c with rs:=upd c.rs k x } tag' V' (W'.setCell ⟨b,129+13*k+j,none⟩ v):=by
 have a:Mod (fun q=>q=b) W' (W'.setCell ⟨b,129+13*k+j,none⟩ v):=(Mod.refl (fun q=>q=b) _).setCell (p:=⟨b,_,none⟩) (.inl rfl) _;exact⟨h.c.storeR2 hk j hj v x hx h1 h3,⟨h.e.old,h.e.new,h.e.out.mod a⟩,zap h.e h.m (a.mono (fun q hq=>.inl (zbk (r:=1) (by rw[show q=b from hq];exact h.c.tb) (by decide)))),h.p,h.ft⟩
theorem zd7(a b:Nat):((a:Int)==(b:Int))=(a==b):=by
 rw[Bool.eq_iff_iff];simp;try omega
variable{c':CS}
theorem zt.same(h:zt tag i b W0 V0 c tag' V' W')(e:c=c'):zt tag i b W0 V0 c' tag' V' W':=e ▸ h
variable{V:CV}{W:World}{tag0:Nat→Nat×Nat}
theorem zi9(h:zt tag i b W0 V0 c tag0 V W)(f:Frm)(l:Value)(m:f.kind=5)(ha:c.anew=true):Calls prog 80 #[.pointer (some ⟨b,0,none⟩),.agg (zj f l)] W (zcr tag i b W0 V0 { c with anew:=true }):=by
 have HH:=zb h;obtain⟨W1,a⟩:=nm (W.alloc (.cells (zj f l) 65));have m1:Mod NoB W W1:=by rw[←a];exact(Mod.refl _ _).alloc _
 have d:zh W1 W.heap.size f l:=by rw[←a];exact heap_alloc_new W _
 obtain⟨fb,e⟩:=nm W.heap.size;rw[e]at d;have o:=zb a;have p:=zb e;have k:=zb (h.mod0 m1);obtain⟨y0,y1,y2,y3,u,y5,y6,y7,y8,y9⟩:=d.cells;rw[m]at y0;obtain⟨lm,q⟩:=nm f.lim;obtain⟨gr,r⟩:=nm c.grant;rw[q]at u;have q1:W1.cell? ⟨b,234,none⟩=some (.int .u64 (gr:Int)):=by rw[←r];exact k.out.c.tl (j:=1) rfl
 have q2:W1.cell? ⟨b,235,none⟩=some (.bool true):=by rw[←ha];exact k.out.c.tl (j:=2) rfl
 have fz:∀j,W1.frozen? ⟨b,j,none⟩=false:=fun j=>k.out.c.fz j
 clear h m1 d a e y5 y6 y7 y8 y9 y2;refine(callsIn_wide (n:=8)).1 ?_;refine callsIn_of_wp_marks func80 rfl trivial ?_ rfl;simp only[ntmps80,List.size_toArray,List.length_cons,List.length_nil,Nat.reduceAdd,Nat.reduceSub,Array.replicate_succ,Array.replicate_zero,List.push_toArray,List.append_toArray,List.nil_append,List.cons_append];refine wpIn_wide.2 ?_;go_upto_region 1 with fail;rw[p.out,o.out];go_upto_region 15 with fail;refine zB ?_;refine zm 16 (fun w'=>w'.cell? ⟨fb,4,none⟩=some (.int .u64 (lm:Int))∧w'.cell? ⟨b,234,none⟩=some (.int .u64 (gr:Int))∧w'.cell? ⟨b,235,none⟩=some (.bool true)) (⟨u,q1,q2⟩) ?_;refine GI 0 ?_;iterate 6
  refine GS rfl ?_ ?_ ?_;rotate_left
  ·(intro wx g;obtain⟨f4,s,t⟩:=g;go_simp;try with_reducible rfl)
  try simp only[PS]
 refine GI 6 ?_;iterate 7
  refine GU rfl (fun _ _ _ h=>nomatch h.1) ?_;try simp only[PS]
 refine GI 13 ?_;iterate 3
  refine GS rfl ?_ ?_ ?_;rotate_left
  ·(intro wx g;obtain⟨f4,s,t⟩:=g;go_simp;try with_reducible rfl)
  try simp only[PS]
 refine zW rfl (fun K v=>?_);go_simp;refine v.out _ _ ?_;clear v K;try simp only[PS]
 refine zo ?_;refine⟨rfl,?_⟩;go_wp2_with fail;refine⟨_,results_none rfl _ _ _,rfl,tag0,V,?_⟩;exact(k.out.store (233+2) (.bool true) (zaj c { c with anew:=true } V V _ rfl rfl rfl rfl) ⟨rfl,fun _ _=>⟨rfl,rfl,rfl⟩,fun _ _=>⟨rfl,rfl⟩,rfl,rfl,rfl,rfl⟩).mod0 (Mod.refl NoB _).drew
theorem zja(h:zt tag i b W0 V0 c tag0 V W)(f:Frm)(m:Value)(o:f.kind=5)(ha:c.anew=false):Calls prog 80 #[.pointer (some ⟨b,0,none⟩),.agg (zj f m)] W (zcr tag i b W0 V0 { c with anew:=f.lim==c.grant }):=by
 have HH:=zb h;obtain⟨W1,a⟩:=nm (W.alloc (.cells (zj f m) 65));have m1:Mod NoB W W1:=by rw[←a];exact(Mod.refl _ _).alloc _
 have d:zh W1 W.heap.size f m:=by rw[←a];exact heap_alloc_new W _
 obtain⟨fb,e⟩:=nm W.heap.size;rw[e]at d;have p:=zb a;have q:=zb e;have l:=zb (h.mod0 m1);obtain⟨y0,y1,y2,y3,t,y5,y6,y7,y8,y9⟩:=d.cells;rw[o]at y0;obtain⟨r,g⟩:=nm f.lim;obtain⟨gr,k⟩:=nm c.grant;rw[g]at t;have q1:W1.cell? ⟨b,234,none⟩=some (.int .u64 (gr:Int)):=by rw[←k];exact l.out.c.tl (j:=1) rfl
 have q2:W1.cell? ⟨b,235,none⟩=some (.bool false):=by rw[←ha];exact l.out.c.tl (j:=2) rfl
 have fz:∀j,W1.frozen? ⟨b,j,none⟩=false:=fun j=>l.out.c.fz j
 clear h m1 d a e y5 y6 y7 y8 y9 y2;refine(callsIn_wide (n:=8)).1 ?_;refine callsIn_of_wp_marks func80 rfl trivial ?_ rfl;simp only[ntmps80,List.size_toArray,List.length_cons,List.length_nil,Nat.reduceAdd,Nat.reduceSub,Array.replicate_succ,Array.replicate_zero,List.push_toArray,List.append_toArray,List.nil_append,List.cons_append];refine wpIn_wide.2 ?_;go_upto_region 1 with fail;rw[q.out,p.out];go_upto_region 15 with fail;refine zB ?_;refine zm 16 (fun w'=>w'.cell? ⟨fb,4,none⟩=some (.int .u64 (r:Int))∧w'.cell? ⟨b,234,none⟩=some (.int .u64 (gr:Int))∧w'.cell? ⟨b,235,none⟩=some (.bool false)) (⟨t,q1,q2⟩) ?_;refine GI 0 ?_;iterate 16
  refine GS rfl ?_ ?_ ?_;rotate_left
  ·(intro wx s;obtain⟨f4,f34,f35⟩:=s;go_simp;try with_reducible rfl)
  try simp only[PS]
 refine zW rfl (fun K u=>?_);go_simp;refine u.out _ _ ?_;clear u K;try simp only[PS]
 refine zo ?_;refine⟨rfl,?_⟩;go_wp2_with fail;refine⟨_,results_none rfl _ _ _,rfl,tag0,V,?_⟩;rw[show(f.lim==c.grant)=((r:Int)==(gr:Int))by rw[g,k,zd7]];exact(l.out.store (233+2) (.bool _) (zaj c { c with anew:=((r:Int)==(gr:Int)) } V V _ rfl rfl rfl rfl) ⟨rfl,fun _ _=>⟨rfl,rfl,rfl⟩,fun _ _=>⟨rfl,rfl⟩,rfl,rfl,rfl,rfl⟩).mod0 (Mod.refl NoB _).drew
theorem zjb(h:zt tag i b W0 V0 c tag0 V W)(f:Frm)(q:Value)(k:Nat)(hk:k<8)(o:f.stream=(k:Int))(s:f.kind=6)(t:(c.rs k).anew=true):Calls prog 80 #[.pointer (some ⟨b,0,none⟩),.agg (zj f q)] W (zcr tag i b W0 V0 { c with rs:=upd c.rs k { c.rs k with anew:=true } }):=by
 have HH:=zb h;obtain⟨W1,d⟩:=nm (W.alloc (.cells (zj f q) 65));have m1:Mod NoB W W1:=by rw[←d];exact(Mod.refl _ _).alloc _
 have e:zh W1 W.heap.size f q:=by rw[←d];exact heap_alloc_new W _
 obtain⟨fb,g⟩:=nm W.heap.size;rw[g]at e;have u:=zb d;have v:=zb g;have p:=zb (h.mod0 m1);obtain⟨y0,y,y2,y3,z,y5,y6,y7,y8,y9⟩:=e.cells;rw[s]at y0;obtain⟨lm,l⟩:=nm f.lim;obtain⟨gr,m⟩:=nm ((c.rs k).grant);rw[l]at z;have q1:W1.cell? ⟨b,129+k*13+11,none⟩=some (.int .u64 (gr:Int)):=by rw[←m,Nat.mul_comm k 13];exact p.out.c.r (j:=11) hk rfl
 have q2:W1.cell? ⟨b,129+k*13+12,none⟩=some (.bool true):=by rw[←t,Nat.mul_comm k 13];exact p.out.c.r (j:=12) hk rfl
 have fz:∀j,W1.frozen? ⟨b,j,none⟩=false:=fun j=>p.out.c.fz j
 have HA:=zb t;have HLM:=zb l;have HGR:=zb m;rw[o]at y;have d0:(0:Int)≤k:=by omega
 have d8:(k:Int)<8:=by omega
 clear t l m o;clear h m1 e d g y5 y6 y7 y8 y9 y2;refine(callsIn_wide (n:=8)).1 ?_;refine callsIn_of_wp_marks func80 rfl trivial ?_ rfl;simp only[ntmps80,List.size_toArray,List.length_cons,List.length_nil,Nat.reduceAdd,Nat.reduceSub,Array.replicate_succ,Array.replicate_zero,List.push_toArray,List.append_toArray,List.nil_append,List.cons_append];refine wpIn_wide.2 ?_;go_upto_region 1 with fail;rw[v.out,u.out];go_upto_region 17 with fail;refine zB ?_;refine zm 7 (fun w'=>w'.cell? ⟨fb,1,none⟩=some (.int .i64 (k:Int))) (y) ?_;refine GI 0 ?_;iterate 7
  refine GS rfl ?_ ?_ ?_;rotate_left
  ·(intro A a;(try dsimp only at a);go_simp;try with_reducible rfl)
  try simp only[PS]
 refine zo ?_;refine⟨rfl,?_⟩;go_upto_region 18 with fail;refine zB ?_;refine zm 16 (fun w'=>w'.cell? ⟨fb,4,none⟩=some (.int .u64 (lm:Int))∧w'.cell? ⟨b,129+k*13+11,none⟩=some (.int .u64 (gr:Int))∧w'.cell? ⟨b,129+k*13+12,none⟩=some (.bool true)) (⟨z,q1,q2⟩) ?_;refine GI 0 ?_;iterate 6
  refine GS rfl ?_ ?_ ?_;rotate_left
  ·(intro A a;obtain⟨f4,w,x⟩:=a;go_simp;try with_reducible rfl)
  try simp only[PS]
 refine GI 6 ?_;iterate 7
  refine GU rfl (fun _ _ _ h=>nomatch h.1) ?_;try simp only[PS]
 refine GI 13 ?_;iterate 3
  refine GS rfl ?_ ?_ ?_;rotate_left
  ·(intro A a;obtain⟨f4,w,x⟩:=a;go_simp;try with_reducible rfl)
  try simp only[PS]
 refine zW rfl (fun K B=>?_);go_simp;refine B.out _ _ ?_;clear B K;try simp only[PS]
 refine zo ?_;refine⟨rfl,?_⟩;go_wp2_with fail;refine⟨_,results_none rfl _ _ _,rfl,tag0,V,?_⟩;have R2:zt tag i b W0 V0 { c with rs:=upd c.rs k (c.rs k) } tag0 V W1:=p.out.same (by rw[zaB]);have R3:=R2.storeR hk 12 (by decide) (.bool true) { c.rs k with anew:=true } rfl rfl rfl;rw[Nat.mul_comm k 13];exact R3.mod0 (((Mod.refl NoB _).drew).drew)
theorem zjc(h:zt tag i b W0 V0 c tag0 V W)(f:Frm)(s:Value)(k:Nat)(hk:k<8)(o:f.stream=(k:Int))(t:f.kind=6)(u:(c.rs k).anew=false):Calls prog 80 #[.pointer (some ⟨b,0,none⟩),.agg (zj f s)] W (zcr tag i b W0 V0 { c with rs:=upd c.rs k { c.rs k with anew:=f.lim==(c.rs k).grant } }):=by
 have HH:=zb h;obtain⟨W1,a⟩:=nm (W.alloc (.cells (zj f s) 65));have m1:Mod NoB W W1:=by rw[←a];exact(Mod.refl _ _).alloc _
 have d:zh W1 W.heap.size f s:=by rw[←a];exact heap_alloc_new W _
 obtain⟨fb,e⟩:=nm W.heap.size;rw[e]at d;have v:=zb a;have w:=zb e;have p:=zb (h.mod0 m1);obtain⟨y0,z,y2,y3,A,y5,y6,y7,y8,y9⟩:=d.cells;rw[t]at y0;obtain⟨q,g⟩:=nm f.lim;obtain⟨gr,l⟩:=nm ((c.rs k).grant);rw[g]at A;have q1:W1.cell? ⟨b,129+k*13+11,none⟩=some (.int .u64 (gr:Int)):=by rw[←l,Nat.mul_comm k 13];exact p.out.c.r (j:=11) hk rfl
 have q2:W1.cell? ⟨b,129+k*13+12,none⟩=some (.bool false):=by rw[←u,Nat.mul_comm k 13];exact p.out.c.r (j:=12) hk rfl
 have fz:∀j,W1.frozen? ⟨b,j,none⟩=false:=fun j=>p.out.c.fz j
 have HA:=zb u;have x:=zb g;have y:=zb l;rw[o]at z;have d0:(0:Int)≤k:=by omega
 have d8:(k:Int)<8:=by omega
 clear u g l o;clear h m1 d a e y5 y6 y7 y8 y9 y2;refine(callsIn_wide (n:=8)).1 ?_;refine callsIn_of_wp_marks func80 rfl trivial ?_ rfl;simp only[ntmps80,List.size_toArray,List.length_cons,List.length_nil,Nat.reduceAdd,Nat.reduceSub,Array.replicate_succ,Array.replicate_zero,List.push_toArray,List.append_toArray,List.nil_append,List.cons_append];refine wpIn_wide.2 ?_;go_upto_region 1 with fail;rw[w.out,v.out];go_upto_region 17 with fail;refine zB ?_;refine zm 7 (fun w'=>w'.cell? ⟨fb,1,none⟩=some (.int .i64 (k:Int))) (z) ?_;refine GI 0 ?_;iterate 7
  refine GS rfl ?_ ?_ ?_;rotate_left
  ·(intro wx m;(try dsimp only at m);go_simp;try with_reducible rfl)
  try simp only[PS]
 refine zo ?_;refine⟨rfl,?_⟩;go_upto_region 18 with fail;refine zB ?_;refine zm 16 (fun w'=>w'.cell? ⟨fb,4,none⟩=some (.int .u64 (q:Int))∧w'.cell? ⟨b,129+k*13+11,none⟩=some (.int .u64 (gr:Int))∧w'.cell? ⟨b,129+k*13+12,none⟩=some (.bool false)) (⟨A,q1,q2⟩) ?_;refine GI 0 ?_;iterate 16
  refine GS rfl ?_ ?_ ?_;rotate_left
  ·(intro wx m;obtain⟨f4,f34,f35⟩:=m;go_simp;try with_reducible rfl)
  try simp only[PS]
 refine zW rfl (fun K B=>?_);go_simp;refine B.out _ _ ?_;clear B K;try simp only[PS]
 refine zo ?_;refine⟨rfl,?_⟩;go_wp2_with fail;refine⟨_,results_none rfl _ _ _,rfl,tag0,V,?_⟩;rw[show(f.lim==(c.rs k).grant)=((q:Int)==(gr:Int))by rw[x.out,y.out,zd7]];have R2:zt tag i b W0 V0 { c with rs:=upd c.rs k (c.rs k) } tag0 V W1:=p.out.same (by rw[zaB]);have R3:=R2.storeR hk 12 (by decide) (.bool ((q:Int)==(gr:Int))) { c.rs k with anew:=((q:Int)==(gr:Int)) } rfl rfl rfl;rw[Nat.mul_comm k 13];exact R3.mod0 (((Mod.refl NoB _).drew).drew)
theorem zjd(h:zt tag i b W0 V0 c tag0 V W)(f:Frm)(r:Value)(k:Nat)(hk:k<8)(o:f.stream=(k:Int))(s:f.kind=3)(p:f.rel=(c.ws k).keep):Calls prog 80 #[.pointer (some ⟨b,0,none⟩),.agg (zj f r)] W (zcr tag i b W0 V0 { c with ws:=upd c.ws k { c.ws k with telling:=false } }):=by
 have HH:=zb h;obtain⟨W1,a⟩:=nm (W.alloc (.cells (zj f r) 65));have m1:Mod NoB W W1:=by rw[←a];exact(Mod.refl _ _).alloc _
 have d:zh W1 W.heap.size f r:=by rw[←a];exact heap_alloc_new W _
 obtain⟨fb,e⟩:=nm W.heap.size;rw[e]at d;have t:=zb a;have u:=zb e;have q:=zb (h.mod0 m1);obtain⟨y0,x,y2,y,y4,y5,y6,y7,y8,y9⟩:=d.cells;rw[s]at y0;obtain⟨v,g⟩:=nm ((c.ws k).keep);obtain⟨rl,l⟩:=nm f.rel;rw[l]at y;rw[g,l]at p;have q1:W1.cell? ⟨b,9+k*15+11,none⟩=some (.int .u64 (v:Int)):=by rw[←g,Nat.mul_comm k 15];exact q.out.c.w (j:=11) hk rfl
 have q2:W1.cell? ⟨b,9+k*15+13,none⟩=some (.bool (c.ws k).telling):=by rw[Nat.mul_comm k 15];exact q.out.c.w (j:=13) hk rfl
 have fz:∀j,W1.frozen? ⟨b,j,none⟩=false:=fun j=>q.out.c.fz j
 have hb:((rl:Int)==(v:Int))=true:=by rw[zd7];simp[p]
 have HR:=zb p;rw[o]at x;have d0:(0:Int)≤k:=by omega
 have d8:(k:Int)<8:=by omega
 clear g l o p;clear h m1 d a e y5 y6 y7 y8 y9 y2;refine(callsIn_wide (n:=8)).1 ?_;refine callsIn_of_wp_marks func80 rfl trivial ?_ rfl;simp only[ntmps80,List.size_toArray,List.length_cons,List.length_nil,Nat.reduceAdd,Nat.reduceSub,Array.replicate_succ,Array.replicate_zero,List.push_toArray,List.append_toArray,List.nil_append,List.cons_append];refine wpIn_wide.2 ?_;go_upto_region 1 with fail;rw[u.out,t.out];go_upto_region 11 with fail;refine zB ?_;refine zm 7 (fun w'=>w'.cell? ⟨fb,1,none⟩=some (.int .i64 (k:Int))) (x) ?_;refine GI 0 ?_;iterate 7
  refine GS rfl ?_ ?_ ?_;rotate_left
  ·(intro wx m;(try dsimp only at m);go_simp;try with_reducible rfl)
  try simp only[PS]
 refine zo ?_;refine⟨rfl,?_⟩;go_upto_region 12 with fail;refine zB ?_;refine zm 7 (fun w'=>w'.cell? ⟨fb,3,none⟩=some (.int .u64 (rl:Int))∧w'.cell? ⟨b,9+k*15+11,none⟩=some (.int .u64 (v:Int))) (⟨y,q1⟩) ?_;refine GI 0 ?_;iterate 7
  refine GS rfl ?_ ?_ ?_;rotate_left
  ·(intro wx m;obtain⟨f3,f11⟩:=m;go_simp;try with_reducible rfl)
  try simp only[PS]
 refine zo ?_;refine⟨rfl,?_⟩;go_wp2_with fail;refine⟨_,results_none rfl _ _ _,rfl,tag0,V,?_⟩;have R2:zt tag i b W0 V0 { c with ws:=upd c.ws k (c.ws k) } tag0 V W1:=q.out.same (by rw[zaB]);have R3:=R2.storeW hk 13 (by decide) (.bool false) { c.ws k with telling:=false } rfl rfl rfl rfl;rw[Nat.mul_comm k 15];exact R3.mod0 (((Mod.refl NoB _).drew).drew)
theorem zje(h:zt tag i b W0 V0 c tag0 V W)(f:Frm)(s:Value)(k:Nat)(hk:k<8)(o:f.stream=(k:Int))(t:f.kind=3)(p:¬f.rel=(c.ws k).keep):Calls prog 80 #[.pointer (some ⟨b,0,none⟩),.agg (zj f s)] W (zcr tag i b W0 V0 { c with ws:=upd c.ws k (c.ws k) }):=by
 have HH:=zb h;obtain⟨W1,a⟩:=nm (W.alloc (.cells (zj f s) 65));have m1:Mod NoB W W1:=by rw[←a];exact(Mod.refl _ _).alloc _
 have d:zh W1 W.heap.size f s:=by rw[←a];exact heap_alloc_new W _
 obtain⟨fb,e⟩:=nm W.heap.size;rw[e]at d;have u:=zb a;have v:=zb e;have q:=zb (h.mod0 m1);obtain⟨y0,x,y2,y,y4,y5,y6,y7,y8,y9⟩:=d.cells;rw[t]at y0;obtain⟨r,g⟩:=nm ((c.ws k).keep);obtain⟨rl,l⟩:=nm f.rel;rw[l]at y;rw[g,l]at p;have q1:W1.cell? ⟨b,9+k*15+11,none⟩=some (.int .u64 (r:Int)):=by rw[←g,Nat.mul_comm k 15];exact q.out.c.w (j:=11) hk rfl
 have q2:W1.cell? ⟨b,9+k*15+13,none⟩=some (.bool (c.ws k).telling):=by rw[Nat.mul_comm k 15];exact q.out.c.w (j:=13) hk rfl
 have fz:∀j,W1.frozen? ⟨b,j,none⟩=false:=fun j=>q.out.c.fz j
 have hb:((rl:Int)==(r:Int))=false:=by rw[zd7];simp[p]
 have hne:¬(rl:Int)=(r:Int):=by omega
 have HR:=zb p;rw[o]at x;have d0:(0:Int)≤k:=by omega
 have d8:(k:Int)<8:=by omega
 clear g l o p;clear h m1 d a e y5 y6 y7 y8 y9 y2;refine(callsIn_wide (n:=8)).1 ?_;refine callsIn_of_wp_marks func80 rfl trivial ?_ rfl;simp only[ntmps80,List.size_toArray,List.length_cons,List.length_nil,Nat.reduceAdd,Nat.reduceSub,Array.replicate_succ,Array.replicate_zero,List.push_toArray,List.append_toArray,List.nil_append,List.cons_append];refine wpIn_wide.2 ?_;go_upto_region 1 with fail;rw[v.out,u.out];go_upto_region 11 with fail;refine zB ?_;refine zm 7 (fun w'=>w'.cell? ⟨fb,1,none⟩=some (.int .i64 (k:Int))) (x) ?_;refine GI 0 ?_;iterate 7
  refine GS rfl ?_ ?_ ?_;rotate_left
  ·(intro wx m;(try dsimp only at m);go_simp;try with_reducible rfl)
  try simp only[PS]
 refine zo ?_;refine⟨rfl,?_⟩;go_upto_region 12 with fail;refine zB ?_;refine zm 7 (fun w'=>w'.cell? ⟨fb,3,none⟩=some (.int .u64 (rl:Int))∧w'.cell? ⟨b,9+k*15+11,none⟩=some (.int .u64 (r:Int))) (⟨y,q1⟩) ?_;refine GI 0 ?_;iterate 7
  refine GS rfl ?_ ?_ ?_;rotate_left
  ·(intro wx m;obtain⟨f3,f11⟩:=m;go_simp;try with_reducible rfl)
  try simp only[PS]
 refine zo ?_;refine⟨rfl,?_⟩;go_wp2_with fail;refine⟨_,results_none rfl _ _ _,rfl,tag0,V,?_⟩;have R2:zt tag i b W0 V0 { c with ws:=upd c.ws k (c.ws k) } tag0 V W1:=q.out.same (by rw[zaB]);exact R2.mod0 (((Mod.refl NoB _).drew).drew)
theorem zk5(h:zt tag i b W0 V0 c tag0 V W)(f:Frm)(g:Value)(h3:¬f.kind=3)(h4:¬f.kind=4)(h5:¬f.kind=5)(h6:¬f.kind=6):Calls prog 80 #[.pointer (some ⟨b,0,none⟩),.agg (zj f g)] W (zcr tag i b W0 V0 c):=by
 have HH:=zb h;obtain⟨W1,a⟩:=nm (W.alloc (.cells (zj f g) 65));have m1:Mod NoB W W1:=by rw[←a];exact(Mod.refl _ _).alloc _
 have d:zh W1 W.heap.size f g:=by rw[←a];exact heap_alloc_new W _
 obtain⟨fb,e⟩:=nm W.heap.size;rw[e]at d;have j:=zb a;have k:=zb e;have R1:=zb (h.mod0 m1);obtain⟨y0,y1,y2,y3,y4,y5,y6,y7,y8,y9⟩:=d.cells;have h3':¬(f.kind:Int)=3:=by omega
 have h4':¬(f.kind:Int)=4:=by omega
 have h5':¬(f.kind:Int)=5:=by omega
 have h6':¬(f.kind:Int)=6:=by omega
 clear h m1 d a e y5 y6 y7 y8 y9 y2;refine(callsIn_wide (n:=8)).1 ?_;refine callsIn_of_wp_marks func80 rfl trivial ?_ rfl;simp only[ntmps80,List.size_toArray,List.length_cons,List.length_nil,Nat.reduceAdd,Nat.reduceSub,Array.replicate_succ,Array.replicate_zero,List.push_toArray,List.append_toArray,List.nil_append,List.cons_append];refine wpIn_wide.2 ?_;go_upto_region 1 with fail;rw[k.out,j.out];go_wp2_with fail;refine⟨_,results_none rfl _ _ _,rfl,tag0,V,?_⟩;exact R1.out
structure zhD(c:CS)(f:Frm):Prop where
 k4:f.kind=4→AgOk c f f.stream.toNat
 k3:f.kind=3→0≤f.stream∧f.stream<8
 k6:f.kind=6→0≤f.stream∧f.stream<8
theorem zhE(h:zt tag i b W0 V0 c tag0 V W)(f:Frm)(d:Value)(ok:zhD c f)(o:∃a n cap,d = .slice a n cap):Calls prog 80 #[.pointer (some ⟨b,0,none⟩),.agg (zj f d)] W (zcr tag i b W0 V0 (c.again f)):=by
 unfold CS.again;by_cases h4:f.kind=4
 ·rw[if_pos h4];exact zk4 h f d _ (ok.k4 h4) h4 o
 ·rw[if_neg h4];by_cases h3:f.kind=3
  ·rw[if_pos h3];obtain⟨a1,a2⟩:=ok.k3 h3;have hk:f.stream.toNat<8:=by omega
   have g:f.stream=(f.stream.toNat:Int):=by omega
   generalize f.stream.toNat=k at hk g;by_cases m:f.rel=(c.ws k).keep
   ·have e:{ c.ws k with telling:=(c.ws k).telling && !(f.rel==(c.ws k).keep) }={ c.ws k with telling:=false }:=by simp[m]
    rw[e];exact zjd h f d k hk g h3 m
   ·have e:{ c.ws k with telling:=(c.ws k).telling && !(f.rel==(c.ws k).keep) }=c.ws k:=by
     have e2:(f.rel==(c.ws k).keep)=false:=by simp[m]
     rw[e2];simp
    rw[e];exact zje h f d k hk g h3 m
  ·rw[if_neg h3];by_cases l:f.kind=5
   ·rw[if_pos l];cases ha:c.anew with
    | true =>
     have:=zi9 h f d l ha;simpa using this
    | false =>
     have:=zja h f d l ha;simpa using this
   ·rw[if_neg l];by_cases j:f.kind=6
    ·rw[if_pos j];obtain⟨a1,a2⟩:=ok.k6 j;have hk:f.stream.toNat<8:=by omega
     have g:f.stream=(f.stream.toNat:Int):=by omega
     generalize f.stream.toNat=k at hk g;cases ha:(c.rs k).anew with
     | true =>
      have:=zjb h f d k hk g j ha;simpa using this
     | false =>
      have:=zjc h f d k hk g j ha;simpa using this
    ·rw[if_neg j];exact zk5 h f d h3 h4 l j
theorem zhF(c:CS)(f:Frm):(c.again f).flight=c.flight:=by
 unfold CS.again;split
 ·rfl
 ·split
  ·rfl
  ·split
   ·rfl
   ·split<;>rfl
theorem zcs:∀(fs:List Frm) (c:CS),(c.agains fs).flight=c.flight
 | [],_=>rfl
 | f::fs,c=>by
  show((c.again f).agains fs).flight=_;rw[zcs fs,zhF]
variable{f:Frm}{fs:List Frm}
theorem ze4(h:fs[k]?=some f):c.agains (fs.take (k+1))=(c.agains (fs.take k)).again f:=by
 unfold CS.agains;rw[List.take_add_one,h,List.foldl_append];rfl
def zct(tag:Nat→Nat×Nat)(i b:Nat)(W0:World)(V0:CV)(c:CS)(p:Fly)(e:Ending)(W':World):Prop :=
 e = .returned (.bool (c.late p))∧∃tag' V',zt tag i b W0 V0 (if c.late p then c.agains p.fs else c) tag' V' W'
theorem zk6(h:zt tag i b W0 V0 c tag0 V W)(cb:Nat)(k:W0.cell? ⟨cb,0,none⟩=some (.pointer (some ⟨b,0,none⟩)))(w:¬zai i tag cb)
  (p:Fly) (v:Value) (H:(p,v)∈c.flight.zip V0.fts) (y:p.n≤zD) (z:p.at_≤zD) (h1:¬p.at_+6≤c.now) (h2:¬p.n+3≤c.largest) :
  Calls prog 79 #[.agg #[.int .u64 (p.n:Int),.int .u64 (p.at_:Int),v],.pointer (some ⟨cb,0,none⟩)] W (zct tag i b W0 V0 c p):=by
 have f:c.late p=false:=by
  unfold CS.late;simp[h1,h2]
 unfold zct;rw[f];simp only[Bool.false_eq_true,if_false];have HH:=zb h;have A:cb<W0.heap.size:=zk k;have I:Hid (∀{c':CS} {tag':Nat→Nat×Nat} {V':CV} {W':World},zt tag i b W0 V0 c' tag' V' W'→W'.cell? ⟨cb,0,none⟩=some (.pointer (some ⟨b,0,none⟩))):=zb (fun r=>r.m.cell (a:=⟨cb,0,none⟩) w k);have HP:=zb H;obtain⟨B,d⟩:=nm p.n;obtain⟨C,e⟩:=nm p.at_;obtain⟨fs,D⟩:=nm p.fs;obtain⟨nw,q⟩:=nm c.now;obtain⟨J,s⟩:=nm c.largest;rw[e,q]at h1;rw[d]at y;rw[e]at z;unfold zD at y z;rw[d,s]at h2;rw[d,e];have FT:=h.c.fs (p,v) (by rw[h.ft.2];exact H);obtain⟨l,hl,E,-,-⟩:=FT;simp only at hl E;rw[D]at hl;obtain⟨a,cap,rfl,Q,q2,-⟩:=E;have t:l.length=fs.length:=by rw[←hl,List.length_map]
 rw[t]at HP Q ⊢;have c3:W.cell? ⟨b,3,none⟩=some (.int .u64 (nw:Int)):=by rw[←q];exact h.c.hd (j:=3) rfl
 have F:W.cell? ⟨b,237,none⟩=some (.int .u64 (J:Int)):=by rw[←s];exact h.c.tl (j:=4) rfl
 have G:=I.out h;obtain⟨W1,g⟩:=nm (W.alloc (.cells #[.int .u64 (B:Int),.int .u64 (C:Int),.slice a fs.length cap] 173));have m1:Mod NoB W W1:=by rw[←g];exact(Mod.refl _ _).alloc _
 have R1:=zb (h.mod0 m1);have o1:W1.heap[W.heap.size]?=some (.cells #[.int .u64 (B:Int),.int .u64 (C:Int),.slice a fs.length cap] 173 (0,0)):=by rw[←g];exact heap_alloc_new W _
 obtain⟨K,u⟩:=nm W.heap.size;rw[u]at o1;have z0:=za (o:=0) o1 rfl;have z1:=za (o:=1) o1 rfl;have z2:W1.cell? ⟨K,2,none⟩=some (.slice a fs.length cap):=za (o:=2) o1 rfl;have x3:=m1.cell (a:=⟨b,_,none⟩) id c3;have L:=m1.cell (a:=⟨b,_,none⟩) id F;have M:=m1.cell (a:=⟨cb,_,none⟩) id G;have N:=zb g;have O:=zb u;have HLL:=zb t;have d1:¬(C:Int)+6≤nw:=by omega
 have y1:=wu ((C:Int)+6) (by omega);have y2:=wu ((B:Int)+3) (by omega);have d2:¬(B:Int)+3≤J:=by omega
 clear h H d e D q s h1 f m1 o1 c3 F G g u hl t Q q2 k w A h2;go_enter func79,ntmps79;go_upto_region 1 with fail;rw[N.out,O.out];refine zB ?_;refine zm 19 (fun w'=>w'.cell? ⟨K,0,none⟩=some (.int .u64 (B:Int))∧w'.cell? ⟨K,1,none⟩=some (.int .u64 (C:Int))∧w'.cell? ⟨cb,0,none⟩=some (.pointer (some ⟨b,0,none⟩))∧w'.cell? ⟨b,3,none⟩=some (.int .u64 (nw:Int))∧w'.cell? ⟨b,237,none⟩=some (.int .u64 (J:Int))) (⟨z0,z1,M,x3,L⟩) ?_;refine GI 0 ?_;iterate 19
  refine GS rfl ?_ ?_ ?_;rotate_left
  ·(intro wx P;obtain⟨f0,f1,fc,f3,f37⟩:=P;go_simp;try with_reducible rfl)
  try simp only[PS]
 refine zo ?_;refine⟨rfl,?_⟩;go_wp2_with fail;go_ret;exact⟨rfl,tag0,V,R1.out.mod0 (Mod.refl NoB _).drew⟩
theorem zk7(h:zt tag i b W0 V0 c tag0 V W)(cb:Nat)(A:W0.cell? ⟨cb,0,none⟩=some (.pointer (some ⟨b,0,none⟩)))(L:¬zai i tag cb)
  (p:Fly) (v:Value) (hp:(p,v)∈c.flight.zip V0.fts) (M:p.n≤zD) (N:p.at_≤zD) (B:∀k f,p.fs[k]?=some f→zhD (c.agains (p.fs.take k)) f) (af:p.fs.length≤1099511627776) (h1:p.at_+6≤c.now) :
  Calls prog 79 #[.agg #[.int .u64 (p.n:Int),.int .u64 (p.at_:Int),v],.pointer (some ⟨cb,0,none⟩)] W (zct tag i b W0 V0 c p):=by
 have q:c.late p=true:=by
  unfold CS.late;simp[h1]
 unfold zct;rw[q];simp only[if_true];have HH:=zb h;have O:cb<W0.heap.size:=zk A;have P:Hid (∀{c':CS} {tag':Nat→Nat×Nat} {V':CV} {W':World},zt tag i b W0 V0 c' tag' V' W'→W'.cell? ⟨cb,0,none⟩=some (.pointer (some ⟨b,0,none⟩))):=zb (fun r=>r.m.cell (a:=⟨cb,0,none⟩) L A);have HP:=zb hp;obtain⟨pn,s⟩:=nm p.n;obtain⟨Q,d⟩:=nm p.at_;obtain⟨fs,t⟩:=nm p.fs;obtain⟨nw,C⟩:=nm c.now;obtain⟨lg,R⟩:=nm c.largest;rw[d,C]at h1;rw[s]at M;rw[d]at N;unfold zD at M N;rw[t]at B af;rw[s,d,t];have FT:=h.c.fs (p,v) (by rw[h.ft.2];exact hp);obtain⟨l,hl,S,-,-⟩:=FT;simp only at hl S;rw[t]at hl;obtain⟨a,cap,rfl,q1,q2,-⟩:=S;have D:l.length=fs.length:=by rw[←hl,List.length_map]
 rw[D]at HP q1 ⊢;have c3:W.cell? ⟨b,3,none⟩=some (.int .u64 (nw:Int)):=by rw[←C];exact h.c.hd (j:=3) rfl
 have T:W.cell? ⟨b,237,none⟩=some (.int .u64 (lg:Int)):=by rw[←R];exact h.c.tl (j:=4) rfl
 have U:=P.out h;obtain⟨W1,w⟩:=nm (W.alloc (.cells #[.int .u64 (pn:Int),.int .u64 (Q:Int),.slice a fs.length cap] 173));have m1:Mod NoB W W1:=by rw[←w];exact(Mod.refl _ _).alloc _
 have R1:=zb (h.mod0 m1);have o1:W1.heap[W.heap.size]?=some (.cells #[.int .u64 (pn:Int),.int .u64 (Q:Int),.slice a fs.length cap] 173 (0,0)):=by rw[←w];exact heap_alloc_new W _
 obtain⟨pb,E⟩:=nm W.heap.size;rw[E]at o1;have z0:=za (o:=0) o1 rfl;have z1:=za (o:=1) o1 rfl;have z2:W1.cell? ⟨pb,2,none⟩=some (.slice a fs.length cap):=za (o:=2) o1 rfl;have x3:=m1.cell (a:=⟨b,_,none⟩) id c3;have X:=m1.cell (a:=⟨b,_,none⟩) id T;have F:=m1.cell (a:=⟨cb,_,none⟩) id U;have ah:=zb w;have ai:=zb E;have HLL:=zb D;have aj:=zb B;have ak:=zb t;have d1:(Q:Int)+6≤nw:=by omega
 have y1:=wu ((Q:Int)+6) (by omega);have y2:=wu ((pn:Int)+3) (by omega);clear h hp s d t C R h1 q m1 o1 c3 T U w E hl D q1 q2 A L O B;go_enter func79,ntmps79;go_upto_region 1 with fail;rw[ah.out,ai.out];refine zB ?_;refine zm 19 (fun w'=>w'.cell? ⟨pb,0,none⟩=some (.int .u64 (pn:Int))∧w'.cell? ⟨pb,1,none⟩=some (.int .u64 (Q:Int))∧w'.cell? ⟨cb,0,none⟩=some (.pointer (some ⟨b,0,none⟩))∧w'.cell? ⟨b,3,none⟩=some (.int .u64 (nw:Int))∧w'.cell? ⟨b,237,none⟩=some (.int .u64 (lg:Int))) (⟨z0,z1,F,x3,X⟩) ?_;refine GI 0 ?_;iterate 9
  refine GS rfl ?_ ?_ ?_;rotate_left
  ·(intro wx G;obtain⟨f0,f1,fc,f3,al⟩:=G;go_simp;try with_reducible rfl)
  try simp only[PS]
 refine GI 9 ?_;iterate 8
  refine GU rfl (fun _ _ _ h=>nomatch h.1) ?_;try simp only[PS]
 refine GI 17 ?_;iterate 2
  refine GS rfl ?_ ?_ ?_;rotate_left
  ·(intro wx G;obtain⟨f0,f1,fc,f3,al⟩:=G;go_simp;try with_reducible rfl)
  try simp only[PS]
 refine zo ?_;refine⟨rfl,?_⟩;go_wp2_with fail
 go_loopw [29] (fun iv wr=>∃(k:Nat) (tag':Nat→Nat×Nat) (V':CV),k≤fs.length∧iv = .int .i64 (k:Int)∧Hid (zt tag i b W0 V0 (c.agains (fs.take k)) tag' V' wr)) (fun iv _=>fs.length-(intOf iv).toNat)
 case atStart=>exact⟨0,tag0,V,Nat.zero_le _,rfl,zb (R1.out.mod0 (Mod.refl NoB _).drew)⟩
 case round =>
  clear z0 z1 z2 x3 X F R1;obtain⟨k,y,V1,hk,rfl,Z⟩:=hrel;by_cases hlt:k<fs.length
  ·obtain⟨l1,u,z,-,-⟩:=Z.out.c.fs (p,.slice a fs.length cap) (by rw[zcs,Z.out.ft.2];exact HP.out);simp only at u z;rw[ak.out]at u;obtain⟨a',ao,aa,_,_,h3⟩:=z;have ab:l1.length=fs.length:=by rw[←u,List.length_map]
   rw[ab]at aa;cases aa;obtain⟨⟨f,rv⟩,H⟩:∃fr,l1[k]?=some fr:=⟨l1[k],List.getElem?_eq_getElem (by omega)⟩;have I:fs[k]?=some f:=by rw[←u,List.getElem?_map,H];rfl
   obtain⟨⟨g,o,rfl,hc⟩,J⟩:=h3 k (f,rv) H;simp only at hc J;obtain⟨ra,rc,rfl,_⟩:=id J;obtain⟨hc0,hc1,hc2,hc3,hc4,hc5,hc6,hc7,hc8,am⟩:=zbX hc;obtain⟨Y,K⟩:=nm (wr.alloc (.cells (zj f (.slice ra f.rngs.length rc)) 65));have mY:Mod NoB wr Y:=by rw[←K];exact(Mod.refl _ _).alloc _
   have ac:zh Y wr.heap.size f (.slice ra f.rngs.length rc):=by rw[←K];exact heap_alloc_new wr _
   obtain⟨y0,y1,y2,y3,y4,y5,y6,y7,y8,y9⟩:=ac.cells;have ka:=zhE (Z.out.mod0 mY) f (.slice ra f.rngs.length rc) (aj.out k f I) ⟨_,_,_,rfl⟩;have HT:=zb (ze4 (c:=c) I);rw[←HT.out]at ka;have F:=P.out (Z.out.mod0 mY);obtain⟨RL,ad⟩:=nm f.rngs.length;rw[ad]at am K y9 ka;unfold zj at K ka;have KA:=zb ka;clear h3 H hc J mY ac ka I u ad;go_upto_region 6 with fail;try rw[K]
   clear K;go_wp2_with fail;refine(KA.out).mono ?_;rintro e w6 ⟨rfl,ae,V6,r6⟩;have R6:=zb r6;clear r6;go_wp2_with fail;go_roundw
   case rel=>exact⟨k+1,ae,V6,by omega,by go_num,R6⟩
   case measure=>simp[intOf];omega
  ·have hk2:fs.length=k:=by omega
   have an:Hid (zt tag i b W0 V0 (c.agains fs) y V1 wr):=zb (by have:=Z.out;rwa [List.take_of_length_le (by omega)]at this);go_wp2_with fail;go_ret;exact⟨rfl,y,V1,an.out⟩
theorem zk8(h:zt tag i b W0 V0 c tag0 V W)(cb:Nat)(A:W0.cell? ⟨cb,0,none⟩=some (.pointer (some ⟨b,0,none⟩)))(L:¬zai i tag cb)
  (p:Fly) (v:Value) (hp:(p,v)∈c.flight.zip V0.fts) (M:p.n≤zD) (N:p.at_≤zD) (B:∀k f,p.fs[k]?=some f→zhD (c.agains (p.fs.take k)) f) (af:p.fs.length≤1099511627776) (h1:¬p.at_+6≤c.now) (h2:p.n+3≤c.largest) :
  Calls prog 79 #[.agg #[.int .u64 (p.n:Int),.int .u64 (p.at_:Int),v],.pointer (some ⟨cb,0,none⟩)] W (zct tag i b W0 V0 c p):=by
 have s:c.late p=true:=by
  unfold CS.late;simp[h1,h2]
 unfold zct;rw[s];simp only[if_true];have HH:=zb h;have O:cb<W0.heap.size:=zk A;have P:Hid (∀{c':CS} {tag':Nat→Nat×Nat} {V':CV} {W':World},zt tag i b W0 V0 c' tag' V' W'→W'.cell? ⟨cb,0,none⟩=some (.pointer (some ⟨b,0,none⟩))):=zb (fun r=>r.m.cell (a:=⟨cb,0,none⟩) L A);have HP:=zb hp;obtain⟨Q,d⟩:=nm p.n;obtain⟨R,q⟩:=nm p.at_;obtain⟨fs,t⟩:=nm p.fs;obtain⟨nw,C⟩:=nm c.now;obtain⟨lg,D⟩:=nm c.largest;rw[q,C]at h1;rw[d]at M;rw[q]at N;unfold zD at M N;rw[d,D]at h2;rw[t]at B af;rw[d,q,t];have FT:=h.c.fs (p,v) (by rw[h.ft.2];exact hp);obtain⟨l,hl,S,-,-⟩:=FT;simp only at hl S;rw[t]at hl;obtain⟨a,cap,rfl,q1,q2,-⟩:=S;have E:l.length=fs.length:=by rw[←hl,List.length_map]
 rw[E]at HP q1 ⊢;have c3:W.cell? ⟨b,3,none⟩=some (.int .u64 (nw:Int)):=by rw[←C];exact h.c.hd (j:=3) rfl
 have T:W.cell? ⟨b,237,none⟩=some (.int .u64 (lg:Int)):=by rw[←D];exact h.c.tl (j:=4) rfl
 have U:=P.out h;obtain⟨W1,w⟩:=nm (W.alloc (.cells #[.int .u64 (Q:Int),.int .u64 (R:Int),.slice a fs.length cap] 173));have m1:Mod NoB W W1:=by rw[←w];exact(Mod.refl _ _).alloc _
 have R1:=zb (h.mod0 m1);have o1:W1.heap[W.heap.size]?=some (.cells #[.int .u64 (Q:Int),.int .u64 (R:Int),.slice a fs.length cap] 173 (0,0)):=by rw[←w];exact heap_alloc_new W _
 obtain⟨pb,F⟩:=nm W.heap.size;rw[F]at o1;have z0:=za (o:=0) o1 rfl;have z1:=za (o:=1) o1 rfl;have z2:W1.cell? ⟨pb,2,none⟩=some (.slice a fs.length cap):=za (o:=2) o1 rfl;have x3:=m1.cell (a:=⟨b,_,none⟩) id c3;have X:=m1.cell (a:=⟨b,_,none⟩) id T;have G:=m1.cell (a:=⟨cb,_,none⟩) id U;have ah:=zb w;have ai:=zb F;have HLL:=zb E;have aj:=zb B;have ak:=zb t;have d1:¬(R:Int)+6≤nw:=by omega
 have y1:=wu ((R:Int)+6) (by omega);have y2:=wu ((Q:Int)+3) (by omega);have d2:(Q:Int)+3≤lg:=by omega
 clear h hp d q t C D h1 s m1 o1 c3 T U w F hl E q1 q2 A L O h2 B;go_enter func79,ntmps79;go_upto_region 1 with fail;rw[ah.out,ai.out];refine zB ?_;refine zm 19 (fun w'=>w'.cell? ⟨pb,0,none⟩=some (.int .u64 (Q:Int))∧w'.cell? ⟨pb,1,none⟩=some (.int .u64 (R:Int))∧w'.cell? ⟨cb,0,none⟩=some (.pointer (some ⟨b,0,none⟩))∧w'.cell? ⟨b,3,none⟩=some (.int .u64 (nw:Int))∧w'.cell? ⟨b,237,none⟩=some (.int .u64 (lg:Int))) (⟨z0,z1,G,x3,X⟩) ?_;refine GI 0 ?_;iterate 19
  refine GS rfl ?_ ?_ ?_;rotate_left
  ·(intro wx al;obtain⟨f0,f1,fc,f3,f37⟩:=al;go_simp;try with_reducible rfl)
  try simp only[PS]
 refine zo ?_;refine⟨rfl,?_⟩;go_wp2_with fail
 go_loopw [29] (fun iv wr=>∃(k:Nat) (tag':Nat→Nat×Nat) (V':CV),k≤fs.length∧iv = .int .i64 (k:Int)∧Hid (zt tag i b W0 V0 (c.agains (fs.take k)) tag' V' wr)) (fun iv _=>fs.length-(intOf iv).toNat)
 case atStart=>exact⟨0,tag0,V,Nat.zero_le _,rfl,zb (R1.out.mod0 (Mod.refl NoB _).drew)⟩
 case round =>
  clear z0 z1 z2 x3 X G R1;obtain⟨k,y,V1,hk,rfl,Z⟩:=hrel;by_cases hlt:k<fs.length
  ·obtain⟨l1,u,z,-,-⟩:=Z.out.c.fs (p,.slice a fs.length cap) (by rw[zcs,Z.out.ft.2];exact HP.out);simp only at u z;rw[ak.out]at u;obtain⟨a',ao,aa,_,_,h3⟩:=z;have ab:l1.length=fs.length:=by rw[←u,List.length_map]
   rw[ab]at aa;cases aa;obtain⟨⟨f,rv⟩,H⟩:∃fr,l1[k]?=some fr:=⟨l1[k],List.getElem?_eq_getElem (by omega)⟩;have I:fs[k]?=some f:=by rw[←u,List.getElem?_map,H];rfl
   obtain⟨⟨g,o,rfl,hc⟩,J⟩:=h3 k (f,rv) H;simp only at hc J;obtain⟨ra,rc,rfl,_⟩:=id J;obtain⟨hc0,hc1,hc2,hc3,hc4,hc5,hc6,hc7,hc8,am⟩:=zbX hc;obtain⟨Y,K⟩:=nm (wr.alloc (.cells (zj f (.slice ra f.rngs.length rc)) 65));have mY:Mod NoB wr Y:=by rw[←K];exact(Mod.refl _ _).alloc _
   have ac:zh Y wr.heap.size f (.slice ra f.rngs.length rc):=by rw[←K];exact heap_alloc_new wr _
   obtain⟨y0,y1,y2,y3,y4,y5,y6,y7,y8,y9⟩:=ac.cells;have ka:=zhE (Z.out.mod0 mY) f (.slice ra f.rngs.length rc) (aj.out k f I) ⟨_,_,_,rfl⟩;have HT:=zb (ze4 (c:=c) I);rw[←HT.out]at ka;have G:=P.out (Z.out.mod0 mY);obtain⟨RL,ad⟩:=nm f.rngs.length;rw[ad]at am K y9 ka;unfold zj at K ka;have KA:=zb ka;clear h3 H hc J mY ac ka I u ad;go_upto_region 6 with fail;try rw[K]
   clear K;go_wp2_with fail;refine(KA.out).mono ?_;rintro e w6 ⟨rfl,ae,V6,r6⟩;have R6:=zb r6;clear r6;go_wp2_with fail;go_roundw
   case rel=>exact⟨k+1,ae,V6,by omega,by go_num,R6⟩
   case measure=>simp[intOf];omega
  ·have hk2:fs.length=k:=by omega
   have an:Hid (zt tag i b W0 V0 (c.agains fs) y V1 wr):=zb (by have:=Z.out;rwa [List.take_of_length_le (by omega)]at this);go_wp2_with fail;go_ret;exact⟨rfl,y,V1,an.out⟩
theorem zm1(h:zt tag i b W0 V0 c tag0 V W)(cb:Nat)(a:W0.cell? ⟨cb,0,none⟩=some (.pointer (some ⟨b,0,none⟩)))(d:¬zai i tag cb)
  (p:Fly) (v:Value) (m:(p,v)∈c.flight.zip V0.fts) (e:p.n≤zD) (g:p.at_≤zD) (j:c.late p=true→∀k f,p.fs[k]?=some f→zhD (c.agains (p.fs.take k)) f) (l:p.fs.length≤1099511627776) :
  Calls prog 79 #[.agg #[.int .u64 (p.n:Int),.int .u64 (p.at_:Int),v],.pointer (some ⟨cb,0,none⟩)] W (zct tag i b W0 V0 c p):=by
 by_cases h1:p.at_+6≤c.now
 ·exact zk7 h cb a d p v m e g (j (by simp[CS.late,h1])) l h1
 ·by_cases h2:p.n+3≤c.largest
  ·exact zk8 h cb a d p v m e g (j (by simp[CS.late,h2])) l h1 h2
  ·exact zk6 h cb a d p v m e g h1 h2
structure zrK(J:Nat→List (Fly×Value)→World→Prop)(N g:Nat):Prop where
 box:∀k R w w',J k R w→Mod NoB w w'→J k R w'
 len:∀k R w,J k R w→R.length=N
 rd:∀k R w,J k R w→∀(j:Nat) (x:Fly×Value),R[j]?=some x→w.cell? ⟨g,j*3,none⟩=some (.int .u64 (x.1.n:Int))∧w.cell? ⟨g,j*3+1,none⟩=some (.int .u64 (x.1.at_:Int))∧w.cell? ⟨g,j*3+2,none⟩=some x.2
def zqn(J:Nat→List (Fly×Value)→World→Prop)(del:Fly→Bool)(L:List (Fly×Value))(e:Ending)(w':World):Prop :=
 (∃k:Nat,e = .returned (.int .i64 (k:Int))∧k<L.length∧(∀x∈L.take k,del x.1=false)∧(∀x,L[k]?=some x→del x.1=true)∧J (k+1) L w') ∨
 (e = .returned (.int .i64 (-1))∧(∀x∈L,del x.1=false)∧J L.length L w')
theorem zk9(J:Nat→List (Fly×Value)→World→Prop)(del:Fly→Bool)(L:List (Fly×Value))(N g cap cb:Nat)(a:Option Addr)(u:L.length=N)(hNb:N≤1099511627776)(y:0<N→a=some ⟨g,0,none⟩)(z:zrK J N g)
  (c:∀k w x,J k L w→L[k]?=some x→Calls prog 79 #[.agg #[.int .u64 (x.1.n:Int),.int .u64 (x.1.at_:Int),x.2],.pointer (some ⟨cb,0,none⟩)] w (fun e w'=>e = .returned (.bool (del x.1))∧J (k+1) L w'))
  (w:World) (h0:J 0 L w) :
  Calls prog 139 #[.slice a N cap,.func (.func 79) #[] #[.pointer (some ⟨cb,0,none⟩)]] w (zqn J del L):=by
 have HJ:=zb z;have HC:=zb c;have H0:=zb h0;have HA:=zb y;have i:=zb u;clear z c h0 y u;go_enter func139,ntmps139;go_wp2_with fail
 go_loopw [8] (fun o wr=>∃k:Nat,k≤N∧o = .int .i64 (k:Int)∧Hid (J k L wr∧∀x∈L.take k,del x.1=false)) (fun o _=>N-(intOf o).toNat)
 case atStart=>exact⟨0,Nat.zero_le _,rfl,zb ⟨H0.out,fun x b=>by simp at b⟩⟩
 case round =>
  obtain⟨k,hk,rfl,h⟩:=hrel;by_cases d:k<N
  ·obtain⟨x,b⟩:∃x,L[k]?=some x:=⟨L[k]'(by rw[i.out];exact d),List.getElem?_eq_getElem (by rw[i.out];exact d)⟩;obtain⟨x0,x1,x2⟩:=HJ.out.rd k L wr h.out.1 k x b;have p:=HA.out (by omega);subst p;have m:=HC.out k wr x h.out.1 b;have A:=zb b;obtain⟨⟨fn,q,r⟩,v⟩:=x;simp only at x0 x1 x2 m;obtain⟨dv,f⟩:=nm (del ⟨fn,q,r⟩);rw[f]at m;have j:=zb f;have B:=zb m;clear m b f;cases dv with
   | true =>
    go_wp2_with (go_at_call 79;with_reducible refine(B.out).mono ?_;rintro e w6 ⟨rfl,l⟩;have s:=zb l;clear l);go_ret;exact .inl ⟨k,rfl,by rw[i.out];exact d,h.out.2,fun x b=>by rw[A.out]at b;cases b;exact j.out,s.out⟩
   | false =>
    go_wp2_with (go_at_call 79;with_reducible refine(B.out).mono ?_;rintro e w6 ⟨rfl,l⟩;have s:=zb l;clear l);go_roundw
    case rel =>
     refine⟨k+1,by omega,by go_num,zb ⟨s.out,fun x b=>?_⟩⟩;rw[List.take_add_one,A.out]at b;rcases List.mem_append.1 b with b|b
     ·exact h.out.2 x b
     ·simp at b;subst b;exact j.out
    case measure=>simp[intOf];omega
  ·have t:k=N:=by omega
   go_wp2_with fail;go_ret;exact .inr ⟨rfl,fun x b=>h.out.2 x (by rwa [List.take_of_length_le (by rw[i.out];omega)]),by rw[i.out,←t];exact h.out.1⟩
theorem zjf(J:Nat→List (Fly×Value)→World→Prop)(del:Fly→Bool)(L:List (Fly×Value))(N g cap lb cb:Nat)(a:Option Addr)(u:L.length=N)(hNb:N≤1099511627776)(y:0<N→a=some ⟨g,0,none⟩)(z:zrK J N g)
  (c:∀k w x,J k L w→L[k]?=some x→Calls prog 205 #[.agg #[.int .u64 (x.1.n:Int),.int .u64 (x.1.at_:Int),x.2],.pointer (some ⟨lb,0,none⟩),.pointer (some ⟨cb,0,none⟩)] w (fun e w'=>e = .returned (.bool (del x.1))∧J (k+1) L w'))
  (w:World) (h0:J 0 L w) :
  Calls prog 139 #[.slice a N cap,.func (.func 205) #[] #[.pointer (some ⟨lb,0,none⟩),.pointer (some ⟨cb,0,none⟩)]] w (zqn J del L):=by
 have HJ:=zb z;have HC:=zb c;have H0:=zb h0;have HA:=zb y;have i:=zb u;clear z c h0 y u;go_enter func139,ntmps139;go_wp2_with fail
 go_loopw [8] (fun o wr=>∃k:Nat,k≤N∧o = .int .i64 (k:Int)∧Hid (J k L wr∧∀x∈L.take k,del x.1=false)) (fun o _=>N-(intOf o).toNat)
 case atStart=>exact⟨0,Nat.zero_le _,rfl,zb ⟨H0.out,fun x b=>by simp at b⟩⟩
 case round =>
  obtain⟨k,hk,rfl,h⟩:=hrel;by_cases d:k<N
  ·obtain⟨x,b⟩:∃x,L[k]?=some x:=⟨L[k]'(by rw[i.out];exact d),List.getElem?_eq_getElem (by rw[i.out];exact d)⟩;obtain⟨x0,x1,x2⟩:=HJ.out.rd k L wr h.out.1 k x b;have p:=HA.out (by omega);subst p;have m:=HC.out k wr x h.out.1 b;have A:=zb b;obtain⟨⟨fn,q,r⟩,v⟩:=x;simp only at x0 x1 x2 m;obtain⟨dv,f⟩:=nm (del ⟨fn,q,r⟩);rw[f]at m;have j:=zb f;have B:=zb m;clear m b f;cases dv with
   | true =>
    go_wp2_with (go_at_call 205;with_reducible refine(B.out).mono ?_;rintro e w6 ⟨rfl,l⟩;have s:=zb l;clear l);go_ret;exact .inl ⟨k,rfl,by rw[i.out];exact d,h.out.2,fun x b=>by rw[A.out]at b;cases b;exact j.out,s.out⟩
   | false =>
    go_wp2_with (go_at_call 205;with_reducible refine(B.out).mono ?_;rintro e w6 ⟨rfl,l⟩;have s:=zb l;clear l);go_roundw
    case rel =>
     refine⟨k+1,by omega,by go_num,zb ⟨s.out,fun x b=>?_⟩⟩;rw[List.take_add_one,A.out]at b;rcases List.mem_append.1 b with b|b
     ·exact h.out.2 x b
     ·simp at b;subst b;exact j.out
    case measure=>simp[intOf];omega
  ·have t:k=N:=by omega
   go_wp2_with fail;go_ret;exact .inr ⟨rfl,fun x b=>h.out.2 x (by rwa [List.take_of_length_le (by rw[i.out];omega)]),by rw[i.out,←t];exact h.out.1⟩
structure DelK(J:Nat→List (Fly×Value)→World→Prop)(N g cap:Nat):Prop where
 obj:∀k R w,0<N→J k R w→∃cur,w.heap[g]?=some (.cells cur 173 (0,0))
 sl:∀k R w (x:Fly×Value),J k R w→x∈R→∃a n c,x.2 = .slice a n c
 st:∀k R w (i:Nat) (x:Fly×Value),J k R w→i<N→x∈R→J k (R.set i x) (((w.setCell ⟨g,i*3,none⟩ (.int .u64 (x.1.n:Int))).setCell ⟨g,i*3+1,none⟩ (.int .u64 (x.1.at_:Int))).setCell ⟨g,i*3+2,none⟩ x.2)
 cl:∀k R w (i:Nat),J k R w→i<N→∃w2 R2,(∀ty,(Builtin.clear_ #[123] ty #[.slice (some ⟨g,i*3,none⟩) (N-i) (cap-i)]).run prog w = .ok (.tuple #[]) w2)∧J k R2 w2∧R2.take i=R.take i
def zj9(J:Nat→List (Fly×Value)→World→Prop)(del:Fly→Bool)(L:List (Fly×Value))(a:Option Addr)(cap:Nat)(e:Ending)(w':World):Prop :=
 ∃(i:Nat) (R:List (Fly×Value)),e = .returned (.slice a i cap)∧i≤L.length∧J L.length R w'∧R.take i=L.filter (fun x => !del x.1)
theorem zcu{del:Fly→Bool}{l:List (Fly×Value)}(h:∀x∈l,del x.1=false):l.filter (fun x => !del x.1)=l :=
 List.filter_eq_self.2 (fun x hx=>by rw[h x hx];rfl)
theorem zdm{α : Type}{l:List α}{x : α}(h:i<l.length):(l.set i x).take (i+1)=l.take i++[x]:=by
 rw[List.take_add_one,List.take_set_of_le (by omega),List.getElem?_set_self h];rfl
variable{j:Nat}
theorem zdn{α : Type}{l:List α}{x : α}(h:i<j):(l.set i x).drop j=l.drop j:=by
 rw[List.drop_set,if_pos h]
theorem zjg(J:Nat→List (Fly×Value)→World→Prop)(del:Fly→Bool)(L:List (Fly×Value))(N g cap cb:Nat)(a:Option Addr)(hN:L.length=N)(aa:N≤1099511627776)(al:N≤cap)(ab:cap≤maxLen)(ha:0<N→a=some ⟨g,0,none⟩)(hJ:zrK J N g)(hK:DelK J N g cap)
  (d:∀k w x,J k L w→L[k]?=some x→Calls prog 79 #[.agg #[.int .u64 (x.1.n:Int),.int .u64 (x.1.at_:Int),x.2],.pointer (some ⟨cb,0,none⟩)] w (fun e w'=>e = .returned (.bool (del x.1))∧J (k+1) L w'))
  (b:∀k R w o x,J k R w→R[k]?=some x→L[k]?=some x→Calls prog 79 #[.agg #[.int .u64 (x.1.n:Int),.int .u64 (x.1.at_:Int),x.2],.pointer (some ⟨cb,0,none⟩)] (w.alloc o) (fun e w'=>e = .returned (.bool (del x.1))∧J (k+1) R w'∧w'.heap[w.heap.size]?=(w.alloc o).heap[w.heap.size]?))
  (w:World) (h0:J 0 L w) :
  Calls prog 78 #[.slice a N cap,.func (.func 79) #[] #[.pointer (some ⟨cb,0,none⟩)]] w (zj9 J del L a cap):=by
 have ki:=zk9 J del L N g cap cb a hN aa ha hJ d w h0;unfold maxLen at ab;have U:=zb hJ;have H:=zb hK;have HC:=zb b;have HA:=zb ha;have V:=zb hN;have KI:=zb ki;clear hJ hK d b h0 ha hN ki;go_enter func78,ntmps78;go_wp2_with fail;refine(KI.out).mono ?_;clear KI;rintro e w1 (⟨k,rfl,z,f,h,I⟩|⟨rfl,f,h⟩)
 ·have ac:k<N:=by rw[←V.out];exact z
  have ad:=HA.out (by omega);subst ad;have r:=zb I;have K:Hid (L.take k=(L.take (k+1)).filter (fun x => !del x.1)):=zb (by
   obtain⟨x,s⟩:∃x,L[k]?=some x:=⟨L[k],List.getElem?_eq_getElem z⟩;rw[List.take_add_one,s,List.filter_append,zcu f];simp[h x s])
  have d1:((k:Int) == -1)=false:=by rw[beq_eq_false_iff_ne];omega
  clear z f h I;go_wp2_with fail
  go_loopw [5,6] (fun iv jv wr=>∃(i j:Nat) (R:List (Fly×Value)),iv = .int .i64 (i:Int)∧jv = .int .i64 (j:Int)∧i<j∧j≤N∧Hid (J j R wr∧R.take i=(L.take j).filter (fun x => !del x.1)∧R.drop j=L.drop j)) (fun _ jv _=>N-(intOf jv).toNat)
  case atStart=>exact⟨k,k+1,L,rfl,by go_num,by omega,by omega,zb ⟨r.out,K.out,rfl⟩⟩
  case round =>
   clear r K d1 ac;obtain⟨i,j,R,rfl,rfl,ae,hj,q⟩:=hrel;have M:=U.out.len j R wr q.out.1;by_cases hlt:j<N
   ·obtain⟨x,s⟩:∃x,R[j]?=some x:=⟨R[j]'(by omega),List.getElem?_eq_getElem (by omega)⟩;have A:L[j]?=some x:=by
     have h1:=congrArg (fun l=>l[0]?) q.out.2.2;simp only[List.getElem?_drop,Nat.add_zero]at h1;rw[←h1];exact s
    obtain⟨x0,x1,x2⟩:=U.out.rd j R wr q.out.1 j x s;obtain⟨Y,W⟩:=nm (wr.alloc (.cells #[.int .u64 (x.1.n:Int),.int .u64 (x.1.at_:Int),x.2] 173));have E:=HC.out j R wr (.cells #[.int .u64 (x.1.n:Int),.int .u64 (x.1.at_:Int),x.2] 173) x q.out.1 s A;have F:(wr.alloc (.cells #[.int .u64 (x.1.n:Int),.int .u64 (x.1.at_:Int),x.2] 173)).heap[wr.heap.size]?=some (.cells #[.int .u64 (x.1.n:Int),.int .u64 (x.1.at_:Int),x.2] 173 (0,0)):=heap_alloc_new wr _;rw[F]at E;rw[W]at E F;have y0:Y.cell? ⟨wr.heap.size,0,none⟩=some (.int .u64 (x.1.n:Int)):=za F rfl;have y1:Y.cell? ⟨wr.heap.size,1,none⟩=some (.int .u64 (x.1.at_:Int)):=za F rfl;have y2:Y.cell? ⟨wr.heap.size,2,none⟩=some x.2:=za F rfl;have HX:=zb (And.intro s A);obtain⟨X,Z,vc,hv⟩:=H.out.sl _ _ _ x q.out.1 (List.mem_of_getElem? s);obtain⟨⟨fn,m,t⟩,v⟩:=x;simp only at hv;subst hv;simp only at x0 x1 x2 E y0 y1 y2 W;obtain⟨dv,B⟩:=nm (del ⟨fn,m,t⟩);rw[B]at E;have af:=zb B;have KC:=zb E;have C:=zb M;obtain⟨yb,D⟩:=nm wr.heap.size;rw[D]at y0 y1 y2 KC;clear E s A B F M;go_upto_region 8 with fail;try rw[W]
    try rw[D]
    clear W D;go_wp2_with fail;refine(KC.out).mono ?_;rintro e y ⟨rfl,G,o6⟩;have z0:y.cell? ⟨yb,0,none⟩=some (.int .u64 (fn:Int)):=za o6 rfl;have z1:y.cell? ⟨yb,1,none⟩=some (.int .u64 (m:Int)):=za o6 rfl;have z2:y.cell? ⟨yb,2,none⟩=some (.slice X Z vc):=za o6 rfl;have J6:=zb G;have u:i<N:=by omega
    have O:Hid ((L.take (j+1)).filter (fun x => !del x.1)=(L.take j).filter (fun x => !del x.1)++(if dv then []else [(⟨fn,m,t⟩,.slice X Z vc)])):=zb (by
     rw[List.take_add_one,HX.out.2,List.filter_append]
     congr 1
     have:=af.out;cases dv<;>simp[this])
    have P:Hid (R.drop (j+1)=L.drop (j+1)):=zb (by
     have h1:=congrArg (List.drop 1) q.out.2.2;simpa [List.drop_drop]using h1)
    clear KC y0 y1 y2 x0 x1 x2 o6;cases dv with
    | true =>
     clear G;go_wp2_with fail;go_roundw
     case rel=>exact⟨i,j+1,R,rfl,by go_num,by omega,by omega,zb ⟨J6.out,by rw[O.out,q.out.2.1];simp,P.out⟩⟩
     case measure=>simp[intOf];omega
    | false =>
     obtain⟨cur,c⟩:=H.out.obj _ _ _ (by omega) G;obtain⟨xi,Q⟩:∃xi,R[i]?=some xi:=⟨R[i]'(by rw[C.out];exact u),List.getElem?_eq_getElem (by rw[C.out];exact u)⟩;obtain⟨w0,w1',w2'⟩:=U.out.rd _ R y G i xi Q;have f1:∀p,y.frozen? ⟨g,p,none⟩=false:=fun p=>zf c
     have f2:∀p1 v1 p,(y.setCell ⟨g,p1,none⟩ v1).frozen? ⟨g,p,none⟩=false:=fun p1 v1 p=>zf (zc c)
     have f3:∀p1 v1 p2 v2 p,((y.setCell ⟨g,p1,none⟩ v1).setCell ⟨g,p2,none⟩ v2).frozen? ⟨g,p,none⟩=false:=fun p1 v1 p2 v2 p=>zf (zc (zc c))
     have J7:=zb (H.out.st _ R y i (⟨fn,m,t⟩,.slice X Z vc) G u (List.mem_of_getElem? HX.out.1));clear G c Q;go_wp2_with fail;go_roundw
     case rel =>
      refine⟨i+1,j+1,R.set i (⟨fn,m,t⟩,.slice X Z vc),by go_num,by go_num,by omega,by omega,zb ⟨J7.out,?_,?_⟩⟩
      ·rw[zdm (by rw[C.out];exact u),O.out,q.out.2.1];rfl
      ·rw[zdn (by omega),P.out]
     case measure=>simp[intOf];omega
   ·have ah:j=N:=by omega
    subst ah;obtain⟨w2,R2,kcl,j2,t2⟩:=H.out.cl j R wr i q.out.1 ae;have ai:=zb j2;have aj:=zb t2;have e1:¬cap=i:=by omega
    have d1:i≤cap:=by omega
    clear j2 t2;have HL:=V.out;have S:R2.take i=L.filter (fun x => !del x.1):=by
     rw[aj.out,q.out.2.1,List.take_of_length_le (by omega)]
    have ak:=zb S;have T:=zb HL;clear HL S;go_wp2_with fail;go_ret;exact⟨i,R2,rfl,by rw[T.out];omega,by rw[T.out];exact ai.out,ak.out⟩
 ·clear HC U H;have r:=zb h;have HF:=zb (zcu f);clear f h;go_wp2_with fail;go_ret;exact⟨N,L,rfl,by rw[V.out];exact Nat.le_refl _,r.out,by rw[HF.out,←V.out,List.take_of_length_le (Nat.le_refl _)]⟩
theorem zhG(J:Nat→List (Fly×Value)→World→Prop)(del:Fly→Bool)(L:List (Fly×Value))(N g cap lb cb:Nat)(a:Option Addr)(hN:L.length=N)(aa:N≤1099511627776)(al:N≤cap)(ab:cap≤maxLen)(ha:0<N→a=some ⟨g,0,none⟩)(hJ:zrK J N g)(hK:DelK J N g cap)
  (d:∀k w x,J k L w→L[k]?=some x→Calls prog 205 #[.agg #[.int .u64 (x.1.n:Int),.int .u64 (x.1.at_:Int),x.2],.pointer (some ⟨lb,0,none⟩),.pointer (some ⟨cb,0,none⟩)] w (fun e w'=>e = .returned (.bool (del x.1))∧J (k+1) L w'))
  (b:∀k R w o x,J k R w→R[k]?=some x→L[k]?=some x→Calls prog 205 #[.agg #[.int .u64 (x.1.n:Int),.int .u64 (x.1.at_:Int),x.2],.pointer (some ⟨lb,0,none⟩),.pointer (some ⟨cb,0,none⟩)] (w.alloc o) (fun e w'=>e = .returned (.bool (del x.1))∧J (k+1) R w'∧w'.heap[w.heap.size]?=(w.alloc o).heap[w.heap.size]?))
  (w:World) (h0:J 0 L w) :
  Calls prog 78 #[.slice a N cap,.func (.func 205) #[] #[.pointer (some ⟨lb,0,none⟩),.pointer (some ⟨cb,0,none⟩)]] w (zj9 J del L a cap):=by
 have ki:=zjf J del L N g cap lb cb a hN aa ha hJ d w h0;unfold maxLen at ab;have U:=zb hJ;have H:=zb hK;have HC:=zb b;have HA:=zb ha;have V:=zb hN;have KI:=zb ki;clear hJ hK d b h0 ha hN ki;go_enter func78,ntmps78;go_wp2_with fail;refine(KI.out).mono ?_;clear KI;rintro e w1 (⟨k,rfl,z,f,h,I⟩|⟨rfl,f,h⟩)
 ·have ac:k<N:=by rw[←V.out];exact z
  have ad:=HA.out (by omega);subst ad;have r:=zb I;have K:Hid (L.take k=(L.take (k+1)).filter (fun x => !del x.1)):=zb (by
   obtain⟨x,s⟩:∃x,L[k]?=some x:=⟨L[k],List.getElem?_eq_getElem z⟩;rw[List.take_add_one,s,List.filter_append,zcu f];simp[h x s])
  have d1:((k:Int) == -1)=false:=by rw[beq_eq_false_iff_ne];omega
  clear z f h I;go_wp2_with fail
  go_loopw [5,6] (fun iv jv wr=>∃(i j:Nat) (R:List (Fly×Value)),iv = .int .i64 (i:Int)∧jv = .int .i64 (j:Int)∧i<j∧j≤N∧Hid (J j R wr∧R.take i=(L.take j).filter (fun x => !del x.1)∧R.drop j=L.drop j)) (fun _ jv _=>N-(intOf jv).toNat)
  case atStart=>exact⟨k,k+1,L,rfl,by go_num,by omega,by omega,zb ⟨r.out,K.out,rfl⟩⟩
  case round =>
   clear r K d1 ac;obtain⟨i,j,R,rfl,rfl,ae,hj,q⟩:=hrel;have M:=U.out.len j R wr q.out.1;by_cases hlt:j<N
   ·obtain⟨x,s⟩:∃x,R[j]?=some x:=⟨R[j]'(by omega),List.getElem?_eq_getElem (by omega)⟩;have A:L[j]?=some x:=by
     have h1:=congrArg (fun l=>l[0]?) q.out.2.2;simp only[List.getElem?_drop,Nat.add_zero]at h1;rw[←h1];exact s
    obtain⟨x0,x1,x2⟩:=U.out.rd j R wr q.out.1 j x s;obtain⟨Y,W⟩:=nm (wr.alloc (.cells #[.int .u64 (x.1.n:Int),.int .u64 (x.1.at_:Int),x.2] 173));have E:=HC.out j R wr (.cells #[.int .u64 (x.1.n:Int),.int .u64 (x.1.at_:Int),x.2] 173) x q.out.1 s A;have F:(wr.alloc (.cells #[.int .u64 (x.1.n:Int),.int .u64 (x.1.at_:Int),x.2] 173)).heap[wr.heap.size]?=some (.cells #[.int .u64 (x.1.n:Int),.int .u64 (x.1.at_:Int),x.2] 173 (0,0)):=heap_alloc_new wr _;rw[F]at E;rw[W]at E F;have y0:Y.cell? ⟨wr.heap.size,0,none⟩=some (.int .u64 (x.1.n:Int)):=za F rfl;have y1:Y.cell? ⟨wr.heap.size,1,none⟩=some (.int .u64 (x.1.at_:Int)):=za F rfl;have y2:Y.cell? ⟨wr.heap.size,2,none⟩=some x.2:=za F rfl;have HX:=zb (And.intro s A);obtain⟨X,Z,vc,hv⟩:=H.out.sl _ _ _ x q.out.1 (List.mem_of_getElem? s);obtain⟨⟨fn,m,t⟩,v⟩:=x;simp only at hv;subst hv;simp only at x0 x1 x2 E y0 y1 y2 W;obtain⟨dv,B⟩:=nm (del ⟨fn,m,t⟩);rw[B]at E;have af:=zb B;have KC:=zb E;have C:=zb M;obtain⟨yb,D⟩:=nm wr.heap.size;rw[D]at y0 y1 y2 KC;clear E s A B F M;go_upto_region 8 with fail;try rw[W]
    try rw[D]
    clear W D;go_wp2_with fail;refine(KC.out).mono ?_;rintro e y ⟨rfl,G,o6⟩;have z0:y.cell? ⟨yb,0,none⟩=some (.int .u64 (fn:Int)):=za o6 rfl;have z1:y.cell? ⟨yb,1,none⟩=some (.int .u64 (m:Int)):=za o6 rfl;have z2:y.cell? ⟨yb,2,none⟩=some (.slice X Z vc):=za o6 rfl;have J6:=zb G;have u:i<N:=by omega
    have O:Hid ((L.take (j+1)).filter (fun x => !del x.1)=(L.take j).filter (fun x => !del x.1)++(if dv then []else [(⟨fn,m,t⟩,.slice X Z vc)])):=zb (by
     rw[List.take_add_one,HX.out.2,List.filter_append]
     congr 1
     have:=af.out;cases dv<;>simp[this])
    have P:Hid (R.drop (j+1)=L.drop (j+1)):=zb (by
     have h1:=congrArg (List.drop 1) q.out.2.2;simpa [List.drop_drop]using h1)
    clear KC y0 y1 y2 x0 x1 x2 o6;cases dv with
    | true =>
     clear G;go_wp2_with fail;go_roundw
     case rel=>exact⟨i,j+1,R,rfl,by go_num,by omega,by omega,zb ⟨J6.out,by rw[O.out,q.out.2.1];simp,P.out⟩⟩
     case measure=>simp[intOf];omega
    | false =>
     obtain⟨cur,c⟩:=H.out.obj _ _ _ (by omega) G;obtain⟨xi,Q⟩:∃xi,R[i]?=some xi:=⟨R[i]'(by rw[C.out];exact u),List.getElem?_eq_getElem (by rw[C.out];exact u)⟩;obtain⟨w0,w1',w2'⟩:=U.out.rd _ R y G i xi Q;have f1:∀p,y.frozen? ⟨g,p,none⟩=false:=fun p=>zf c
     have f2:∀p1 v1 p,(y.setCell ⟨g,p1,none⟩ v1).frozen? ⟨g,p,none⟩=false:=fun p1 v1 p=>zf (zc c)
     have f3:∀p1 v1 p2 v2 p,((y.setCell ⟨g,p1,none⟩ v1).setCell ⟨g,p2,none⟩ v2).frozen? ⟨g,p,none⟩=false:=fun p1 v1 p2 v2 p=>zf (zc (zc c))
     have J7:=zb (H.out.st _ R y i (⟨fn,m,t⟩,.slice X Z vc) G u (List.mem_of_getElem? HX.out.1));clear G c Q;go_wp2_with fail;go_roundw
     case rel =>
      refine⟨i+1,j+1,R.set i (⟨fn,m,t⟩,.slice X Z vc),by go_num,by go_num,by omega,by omega,zb ⟨J7.out,?_,?_⟩⟩
      ·rw[zdm (by rw[C.out];exact u),O.out,q.out.2.1];rfl
      ·rw[zdn (by omega),P.out]
     case measure=>simp[intOf];omega
   ·have ah:j=N:=by omega
    subst ah;obtain⟨w2,R2,kcl,j2,t2⟩:=H.out.cl j R wr i q.out.1 ae;have ai:=zb j2;have aj:=zb t2;have e1:¬cap=i:=by omega
    have d1:i≤cap:=by omega
    clear j2 t2;have HL:=V.out;have S:R2.take i=L.filter (fun x => !del x.1):=by
     rw[aj.out,q.out.2.1,List.take_of_length_le (by omega)]
    have ak:=zb S;have T:=zb HL;clear HL S;go_wp2_with fail;go_ret;exact⟨i,R2,rfl,by rw[T.out];omega,by rw[T.out];exact ai.out,ak.out⟩
 ·clear HC U H;have r:=zb h;have HF:=zb (zcu f);clear f h;go_wp2_with fail;go_ret;exact⟨N,L,rfl,by rw[V.out];exact Nat.le_refl _,r.out,by rw[HF.out,←V.out,List.take_of_length_le (Nat.le_refl _)]⟩
theorem zt.refl(h:zt tag i b W0 V0 c tag' V' W'):zt tag' i b W' V' c tag' V' W' :=
 ⟨h.c,Ext.same h.e.out (Mod.refl NoB W'),Mod.refl _ _,h.p,⟨rfl,rfl⟩⟩
variable{W2:World}
theorem zt.trans{V1:CV}{c2:CS}{tag2:Nat→Nat×Nat}{a:CV}(h:zt tag i b W0 V0 c tag' V' W')(k:zt tag' i b W' V1 c2 tag2 a W2):zt tag i b W0 a c2 tag2 a W2 :=
 ⟨k.c,h.e.trans k.e h.m.size,zap h.e h.m k.m,h.p,⟨rfl,rfl⟩⟩
theorem zaA{α β : Type}:∀(l:List (α × β)),(l.map (·.1)).zip (l.map (·.2))=l
 | []=>rfl
 | x::l=>by simp[zaA l]
theorem zaG(x:Fly×Value)(l:List (Fly×Value)):zw (x::l)=(.int .u64 (x.1.n:Int))::(.int .u64 (x.1.at_:Int))::x.2::zw l:=rfl
theorem zm2:∀(R:List (Fly×Value)) (i:Nat) (x:Fly×Value),i<R.length→zw (R.set i x)=(((zw R).set (i*3) (.int .u64 (x.1.n:Int))).set (i*3+1) (.int .u64 (x.1.at_:Int))).set (i*3+2) x.2
 | [],_,_,h=>by simp at h
 | y::R,0,x,_=>by simp[zaG]
 | y::R,i+1,x,h=>by
  have ih:=zm2 R i x (by simpa using h);rw[List.set_cons_succ,zaG,zaG,ih,show(i+1)*3=i*3+3 by omega];simp[List.set_cons_succ]
theorem zm3:∀(R:List (Fly×Value)) (j:Nat) (x:Fly×Value),R[j]?=some x→(zw R)[j*3]?=some (.int .u64 (x.1.n:Int))∧(zw R)[j*3+1]?=some (.int .u64 (x.1.at_:Int))∧(zw R)[j*3+2]?=some x.2
 | [],j,x,h=>by simp at h
 | y::R,0,x,h=>by
  simp at h;subst h;simp[zaG]
 | y::R,j+1,x,h=>by
  have ih:=zm3 R j x (by simpa using h);rw[zaG,show(j+1)*3=j*3+3 by omega];simpa using ih
theorem zY(R:List (Fly×Value)):(zw R).length=R.length*3:=by
 induction R with
 | nil=>rfl
 | cons x R ih =>
  rw[zaG];simp only[List.length_cons,ih];omega
theorem zbS(A B:List (Fly×Value)):zw (A++B)=zw A++zw B:=by simp[zw]
variable{N cap g:Nat}{w:World}{xs:List Value}
theorem zdM(h:w.ownsRow 0 173 3 (.slice (some ⟨g,0,none⟩) N cap) N xs):∃cur,w.heap[g]?=some (.cells cur 173 (0,0))∧N≤cap∧cap≤maxLen∧cur.size=cap*3∧cur.toList.take (N*3)=xs:=by
 rcases h.2 with⟨e,_⟩|⟨g',a,cur,e,_,h1,h2,h3,h4,h5⟩
 ·cases e
 ·cases e;exact⟨cur,h1,h2,h3,h4,h5⟩
variable{R:List (Fly×Value)}
theorem zka(x:Fly×Value)(h:w.ownsRow 0 173 3 (.slice (some ⟨g,0,none⟩) N cap) N (zw R))(hR:R.length=N)(hi:i<N):(((w.setCell ⟨g,i*3,none⟩ (.int .u64 (x.1.n:Int))).setCell ⟨g,i*3+1,none⟩ (.int .u64 (x.1.at_:Int))).setCell ⟨g,i*3+2,none⟩ x.2).ownsRow 0 173 3 (.slice (some ⟨g,0,none⟩) N cap) N (zw (R.set i x)):=by
 obtain⟨cur,h1,h2,h3,h4,h5⟩:=zdM h;refine⟨by rw[zY,List.length_set,hR],.inr ⟨g,cap,_,rfl,Nat.zero_le _,zc (zc (zc h1)),h2,h3,by simp[h4],?_⟩⟩;rw[zm2 R i x (by omega),←h5];simp[List.take_set]
theorem zf2(h:w.ownsRow 0 173 3 (.slice (some ⟨g,0,none⟩) N cap) N (zw R))(hR:R.length=N)(j:Nat)(x:Fly×Value)(e:R[j]?=some x):w.cell? ⟨g,j*3,none⟩=some (.int .u64 (x.1.n:Int))∧w.cell? ⟨g,j*3+1,none⟩=some (.int .u64 (x.1.at_:Int))∧w.cell? ⟨g,j*3+2,none⟩=some x.2:=by
 obtain⟨d,h1,h2,h3,h4,h5⟩:=zdM h;have hj:j<N:=by
  have:=(List.getElem?_eq_some_iff.1 e).1;omega
 obtain⟨a,b,c⟩:=zm3 R j x e;have hc:∀q v,q<N*3→(zw R)[q]?=some v→d[q]?=some v:=fun q v hq f=>by
  rw[←h5,List.getElem?_take_of_lt hq,Array.getElem?_toList]at f;exact f
 exact⟨za h1 (hc _ _ (by omega) a),za h1 (hc _ _ (by omega) b),za h1 (hc _ _ (by omega) c)⟩
variable{n:Nat}
theorem ze5(h:w.ownsRow 0 173 3 (.slice (some ⟨g,0,none⟩) N cap) N (zw R))(b:R.length=N)(c:n≤N):w.ownsRow 0 173 3 (.slice (some ⟨g,0,none⟩) n cap) n (zw (R.take n)):=by
 obtain⟨a,h1,h2,h3,h4,h5⟩:=zdM h;refine⟨by rw[zY,List.length_take,b,Nat.min_eq_left c],.inr ⟨g,cap,a,rfl,Nat.zero_le _,h1,by omega,h3,h4,?_⟩⟩;have h6:zw R=zw (R.take n)++zw (R.drop n):=by rw[←zbS,List.take_append_drop]
 have h7:(zw (R.take n)).length=n*3:=by rw[zY,List.length_take,b,Nat.min_eq_left c]
 have h8:a.toList.take (n*3)=(a.toList.take (N*3)).take (n*3):=by rw[List.take_take,Nat.min_eq_left (by omega)]
 rw[h8,h5,h6,List.take_append_of_le_length (by omega),List.take_of_length_le (by omega)]
theorem zg.fly{R':List (Fly×Value)}(h:zg tag i b c V W)(m:Mod (fun q=>q=g) W W')(hg:V.ft.ownBlock=some g)(d:W'.ownsRow 0 173 3 V.ft R'.length (zw R'))(f:∀p∈R',zjV tag (i,5) W p.2 p.1.fs):zg tag i b { c with flight:=R'.map (·.1) } { V with fts:=R'.map (·.2) } W':=by
 have a:=h.tft g hg;have j:b≠g:=fun e=>by
  rw[←e,h.tb]at a;simp at a
 refine h.build (R:=fun r=>r=4) m (fun q l=>⟨4,rfl,by rw[show q=g from l];exact a⟩) (fun _ _=>rfl) ?_ (.inl ⟨rfl,rfl,rfl,by omega,by omega⟩) (fun k hk=>.inl ⟨rfl,rfl,by omega⟩) (fun k hk=>.inl ⟨rfl,rfl,by omega⟩) (fun k hk=>.inl ⟨rfl,rfl,by omega⟩) (fun k hk=>.inl ⟨rfl,rfl,by omega⟩) (fun k hk=>.inl ⟨rfl,rfl,by omega⟩) (.inr ⟨?_,?_,?_,?_⟩) (.inl ⟨rfl,rfl,by omega⟩) (.inl ⟨rfl,rfl,by omega⟩) (.inl ⟨rfl,rfl,by omega⟩)
 ·exact(m.obj j h.obj)
 ·simp only[List.length_map,zaA];exact d
 ·simp
 ·simp only[zaA];intro p hp;exact(f p hp).mod m (fun q l e=>by rw[show q=g from l,a]at e;simp at e) (fun _ e=>e)
 ·exact h.tft
def CS.fly(c:CS)(l:List Fly):CS:={ c with flight:=l }
theorem zm4(c:CS)(l:List Fly)(f:Frm):(c.fly l).again f=(c.again f).fly l:=by
 unfold CS.again CS.fly;split
 ·rfl
 ·split
  ·rfl
  ·split
   ·rfl
   ·split<;>rfl
theorem zd8:∀(fs:List Frm) (c:CS) (l:List Fly),(c.fly l).agains fs=(c.agains fs).fly l
 | [],_,_=>rfl
 | f::fs,c,l=>by
  show((c.fly l).again f).agains fs=((c.again f).agains fs).fly l;rw[zm4,zd8 fs]
theorem zla(c:CS)(f:Frm)(p:Fly):(c.again f).late p=c.late p:=by
 unfold CS.again CS.late;split
 ·rfl
 ·split
  ·rfl
  ·split
   ·rfl
   ·split<;>rfl
theorem zdo:∀(fs:List Frm) (c:CS) (p:Fly),(c.agains fs).late p=c.late p
 | [],_,_=>rfl
 | f::fs,c,p=>by
  show((c.again f).agains fs).late p=_;rw[zdo fs,zla]
def CS.lose1(c:CS)(p:Fly):CS:=if c.late p then c.agains p.fs else c
def CS.loses(c:CS)(l:List Fly):CS:=l.foldl CS.lose1 c
theorem zlb(c:CS)(p q:Fly):(c.lose1 p).late q=c.late q:=by
 unfold CS.lose1;split
 ·exact zdo _ _ _
 ·rfl
theorem zf3:∀(l:List Fly) (c:CS) (q:Fly),(c.loses l).late q=c.late q
 | [],_,_=>rfl
 | p::l,c,q=>by
  show((c.lose1 p).loses l).late q=_;rw[zf3 l,zlb]
theorem zm5(c:CS)(l:List Fly)(p:Fly):(c.fly l).lose1 p=(c.lose1 p).fly l:=by
 unfold CS.lose1;rw[show(c.fly l).late p=c.late p from rfl];split
 ·exact zd8 _ _ _
 ·rfl
theorem zlc(c:CS)(l:List Fly)(k:Nat)(p:Fly)(h:l[k]?=some p):c.loses (l.take (k+1))=(c.loses (l.take k)).lose1 p:=by
 unfold CS.loses;rw[List.take_add_one,h,List.foldl_append];rfl
theorem zgN(c:CS):c.lose=(c.loses c.flight).fly (c.flight.filter fun p => !c.late p):=by
 have h:∀(l:List Fly) (d:CS),(∀q,d.late q=c.late q)→l.foldl (fun c p=>if c.late p then c.agains p.fs else c) d=d.loses l:=by
  intro l
  induction l with
  | nil=>intro d _;rfl
  | cons p l ih =>
   intro d hd;show l.foldl _ (if d.late p then d.agains p.fs else d)=(d.lose1 p).loses l;exact ih _ (fun q=>by
    split
    ·rw[zdo,hd]
    ·exact hd q)
 unfold CS.lose;rw[h c.flight c (fun _=>rfl)];rfl
theorem zhD.fly(h:zhD c f)(l:List Fly):zhD (c.fly l) f :=
 ⟨fun e=>⟨(h.k4 e).lt,(h.k4 e).st,(h.k4 e).sent,(h.k4 e).came,(h.k4 e).end_,(h.k4 e).dl⟩,h.k3,h.k6⟩
theorem zpn(c:CS)(l:List Fly)(f:Frm):(c.fly l).ackF f=(c.ackF f).fly l:=by
 unfold CS.ackF CS.fly;split<;>rfl
theorem ze6:∀(fs:List Frm) (c:CS) (l:List Fly),fs.foldl CS.ackF (c.fly l)=(fs.foldl CS.ackF c).fly l
 | [],_,_=>rfl
 | f::fs,c,l=>by
  show fs.foldl CS.ackF ((c.fly l).ackF f)=(fs.foldl CS.ackF (c.ackF f)).fly l;rw[zpn,ze6 fs]
theorem zpo(c:CS)(rs:zA)(l:List Fly)(p:Fly):(c.fly l).ackP rs p=(c.ackP rs p).fly l:=by
 unfold CS.ackP;split
 ·exact ze6 _ _ _
 ·rfl
def CS.ackPs(c:CS)(rs:zA)(l:List Fly):CS:=l.foldl (fun c p=>c.ackP rs p) c
theorem zm6(c:CS)(rs:zA)(l:List Fly)(k:Nat)(p:Fly)(h:l[k]?=some p):c.ackPs rs (l.take (k+1))=(c.ackPs rs (l.take k)).ackP rs p:=by
 unfold CS.ackPs;rw[List.take_add_one,h,List.foldl_append];rfl
theorem zjh(c:CS)(f:Frm):(c.ackF f).flight=c.flight:=by
 unfold CS.ackF;split<;>rfl
theorem zen:∀(fs:List Frm) (c:CS),(fs.foldl CS.ackF c).flight=c.flight
 | [],_=>rfl
 | f::fs,c=>by
  show(fs.foldl CS.ackF (c.ackF f)).flight=_;rw[zen fs,zjh]
theorem zld(h:fs[k]?=some f):(fs.take (k+1)).foldl CS.ackF c=((fs.take k).foldl CS.ackF c).ackF f:=by
 rw[List.take_add_one,h,List.foldl_append];rfl
theorem zpp(c:CS)(rs:zA)(h:¬c.next≤hiAt rs 0):c.acked rs=(0,(((({ c with largest:=max c.largest (hiAt rs 0) }:CS).ackPs rs c.flight).fly (c.flight.filter fun p => !zce rs p)).lose)):=by
 unfold CS.acked;rw[if_neg h];rfl
variable{W'':World}{s:zaI}{v':Value}
theorem zt.came(h:zt tag i b W0 V0 c tag' V' W')(hk:k<8)(ha:zhC s b (9+15*k+4) (V'.wc k) W' W'' v')(hm:s.most=(c.ws k).came.most):∃tag2 V2,zt tag i b W0 V0 { c with ws:=upd c.ws k { c.ws k with came:=s } } tag2 V2 W''∧∀g,g<W'.heap.size→tag2 g=tag' g:=by
 obtain⟨f,l,d,u⟩:=ha;have v:=h.p;have n:∀{g r:Nat},tag' g=(i,r)→g<W'.heap.size:=fun hg=>zaD h.e.out hg v
 have o:∀g,(tag' g).1=i→retag tag' W' W'' (i,30+k) g=tag' g:=fun g hg=>zy (n (r:=(tag' g).2) (by rw[←hg]))
 have w:∀g,(g=b∨(V'.wc k).ownBlock=some g)→∃r,(r=1∨r=30+k)∧tag' g=(i,r):=fun g hg=>by
  rcases hg with hg|hg
  ·exact⟨1,.inl rfl,by rw[hg,h.c.tb]⟩
  ·exact⟨30+k,.inr rfl,h.c.twc k hk g hg⟩
 refine⟨retag tag' W' W'' (i,30+k),{ V' with wc:=upd V'.wc k v' },⟨?_,h.e.trans (zbw d.size) h.m.size,zap h.e h.m (d.mono (fun g hg=>.inl ?_)),v,h.ft⟩,fun g hg=>zy hg⟩
 ·refine h.c.build (R:=fun r=>r=1∨r=30+k) d w o ?_ (.inl ⟨rfl,rfl,rfl,by omega,by omega⟩) (fun q t=>.inl ⟨?_,rfl,by omega⟩) (fun q t=>.inl ⟨?_,rfl,by omega⟩) (fun q t=>?_) (fun q t=>.inl ⟨rfl,rfl,by omega⟩) (fun q t=>.inl ⟨rfl,rfl,by omega⟩) (.inl ⟨rfl,rfl,rfl,by omega,by omega⟩) (.inl ⟨rfl,rfl,by omega⟩) (.inl ⟨rfl,rfl,by omega⟩) (.inl ⟨rfl,rfl,by omega⟩)
  ·rw[l,zc (zc h.c.obj)];simp only[List.setIfInBounds_toArray];have e1:=zat c c V' { V' with wc:=upd V'.wc k v' } (k:=k) (j:=4) v' hk (by decide) (fun q _=>by
    by_cases a:q=k
    ·subst a;simp only[ze,if_true];rfl
    ·simp only[zd _ _ a,if_neg a]) rfl rfl rfl
   rw[e1];have e2:=zat c { c with ws:=upd c.ws k { c.ws k with came:=s } } { V' with wc:=upd V'.wc k v' } { V' with wc:=upd V'.wc k v' } (k:=k) (j:=5) (.int .u64 (s.fl:Int)) hk (by decide) (fun q _=>by
    by_cases a:q=k
    ·subst a;simp only[ze,if_true,zbp,hm];rfl
    ·simp only[zd _ _ a,if_neg a]) rfl rfl rfl
   rw[show 9+15*k+4+1=9+15*k+5 from rfl,e2]
  ·by_cases a:q=k
   ·subst a;simp only[ze]
   ·simp only[zd _ _ a]
  ·by_cases a:q=k
   ·subst a;simp only[ze]
   ·simp only[zd _ _ a]
  ·by_cases a:q=k
   ·subst a;simp only[ze];refine .inr ⟨f,fun g hg=>?_⟩;rcases u g hg with y|y
    ·rw[zy (n (h.c.twc q hk g y)),h.c.twc q hk g y]
    ·exact zav y (zE f g hg)
   ·exact .inl ⟨by simp only[zd _ _ a],by simp only[zd _ _ a],by omega⟩
 ·obtain⟨r,hr,e⟩:=w g hg;exact zbk e (by omega)
structure zhH(c:CS)(f:Frm):Prop where
 st:∃k:Nat,k<8∧f.stream=(k:Int)
 a:f.kind=4→f.data≠[]→∃k,AgOk c f k
variable{l:List UInt8}
theorem zpq(h:l≠[]):(zq l).toList.isEmpty=false:=by
 rw[ByteArray.toList_eq,zaL];cases l with
 | nil=>exact absurd rfl h
 | cons a l=>rfl
theorem zpr:(zq []).toList.isEmpty=true:=by
 rw[ByteArray.toList_eq,zaL];rfl
variable{q:Nat}{rs:zA}
theorem zle{p:Fly}(a:q<rs.length)(h1:loAt rs q≤p.n)(h2:p.n≤hiAt rs q):zce rs p=true:=by
 unfold zce;rw[List.any_eq_true];refine⟨rs[q],List.getElem_mem a,?_⟩;have e:rs.getD q (0,0)=rs[q]:=by simp[List.getD,a]
 unfold loAt at h1;unfold hiAt at h2;rw[e]at h1 h2;simp[h1,h2]
theorem zji{p:Fly}(h:∀j,j<rs.length→¬(loAt rs j≤p.n∧p.n≤hiAt rs j)):zce rs p=false:=by
 unfold zce;rw[List.any_eq_false];intro r hr;obtain⟨j,a,rfl⟩:=List.mem_iff_getElem.1 hr;have h1:=h j a;have e:rs.getD j (0,0)=rs[j]:=by simp[List.getD,a]
 unfold loAt hiAt at h1;rw[e]at h1;simpa using h1
def zq9(tag:Nat→Nat×Nat)(i b:Nat)(W0:World)(V0:CV)(c:CS)(rs:zA)(p:Fly)(e:Ending)(W':World):Prop :=
 e = .returned (.bool (zce rs p))∧∃tag' V',zt tag i b W0 V0 (c.ackP rs p) tag' V' W'
theorem zgO{α : Type}(f:Nat → α)(k:Nat)(x y : α):upd (upd f k x) k y=upd f k y:=by
 funext j;by_cases h:j=k
 ·rw[h,ze,ze]
 ·rw[zd _ _ h,zd _ _ h,zd _ _ h]
def zm7(tag:Nat→Nat×Nat)(i b:Nat)(W0:World)(V0:CV)(c2:CS)(tag':Nat→Nat×Nat)(W':World)(e:Ending)(W'':World):Prop :=
 e = .returned (.tuple #[])∧(∃tag2 V2,zt tag i b W0 V0 c2 tag2 V2 W''∧∀g,g<W'.heap.size→tag2 g=tag' g)∧∀g,g<W'.heap.size→tag' g=(0,0)→W''.heap[g]?=W'.heap[g]?
theorem zt.addCame(h:zt tag i b W0 V0 c tag' V' W')(hk:k<8)(d:(c.ws k).came.Ok)(lo hi:Nat)(j:lo≤zD)(l:hi≤zD):Calls prog 88 #[.pointer (some ⟨b,9+15*k+4,none⟩),.int .u64 (lo:Int),.int .u64 (hi:Int)] W' (zm7 tag i b W0 V0 { c with ws:=upd c.ws k { c.ws k with came:=(c.ws k).came.add lo hi } } tag' W'):=by
 have hm:=d.most;have hrl:=d.rl;have m:=d.fl;have hp:=h.p;unfold zD at j l m;have n:(V'.wc k).ownBlock≠some b:=fun e=>by
  have h1:=h.c.twc k hk b e;rw[h.c.tb]at h1;have:=congrArg Prod.snd h1;simp only at this;omega
 refine(zco (c.ws k).came b (9+15*k+4) lo hi (V'.wc k) W' (h.c.cameAt hk (by omega)) d.wf (by omega) (by omega) (by omega) n hm.1 (by omega)).mono ?_;rintro e W'' ⟨v',rfl,h1,h2,h3,h4⟩;refine⟨rfl,?_,fun g hg f=>h3.block g hg (fun x=>?_)⟩
 ·obtain⟨tag2,V2,r,f⟩:=h.came hk ⟨h1,h2,h3,h4⟩ (zbm _ _ _);exact⟨tag2,V2,r,f⟩
 ·rcases x with x|x
  ·have a:=h.c.tb;rw[←x,f]at a;have:=congrArg Prod.snd a;simp at this
  ·have a:=h.c.twc k hk g x;rw[f]at a;have:=congrArg Prod.snd a;simp at this;omega
theorem zt.addSent(h:zt tag i b W0 V0 c tag' V' W')(hk:k<8)(d:(c.ws k).sent.Ok)(lo hi:Nat)(j:lo≤zD)(l:hi≤zD):Calls prog 88 #[.pointer (some ⟨b,9+15*k+1,none⟩),.int .u64 (lo:Int),.int .u64 (hi:Int)] W' (zm7 tag i b W0 V0 { c with ws:=upd c.ws k { c.ws k with sent:=(c.ws k).sent.add lo hi } } tag' W'):=by
 have hm:=d.most;have hrl:=d.rl;have m:=d.fl;have hp:=h.p;unfold zD at j l m;have n:(V'.ws k).ownBlock≠some b:=fun e=>by
  have h1:=h.c.tws k hk b e;rw[h.c.tb]at h1;have:=congrArg Prod.snd h1;simp only at this;omega
 refine(zco (c.ws k).sent b (9+15*k+1) lo hi (V'.ws k) W' (h.c.sentAt hk (by omega)) d.wf (by omega) (by omega) (by omega) n hm.1 (by omega)).mono ?_;rintro e W'' ⟨v',rfl,h1,h2,h3,h4⟩;refine⟨rfl,?_,fun g hg f=>h3.block g hg (fun x=>?_)⟩
 ·obtain⟨tag2,V2,r,f⟩:=h.sent hk ⟨h1,h2,h3,h4⟩ (zbm _ _ _);exact⟨tag2,V2,r,f⟩
 ·rcases x with x|x
  ·have a:=h.c.tb;rw[←x,f]at a;have:=congrArg Prod.snd a;simp at this
  ·have a:=h.c.tws k hk g x;rw[f]at a;have:=congrArg Prod.snd a;simp at this;omega
theorem zra(c:CS)(f:Frm)(k:Nat)(a:f.stream=(k:Int))(h4:f.kind=4)(hd:f.data≠[]){c2 c3:CS}(h2:c2={ c with ws:=upd c.ws k { c.ws k with came:=(c.ws k).came.add f.off (f.off+f.data.length-1) } })(h3:c3={ c2 with ws:=upd c2.ws k { c2.ws k with sent:=(c2.ws k).sent.add f.off (f.off+f.data.length-1) } }):c3=c.ackF f:=by
 subst h3 h2;unfold CS.ackF WS.acked;rw[if_pos ⟨h4,hd⟩,a];simp only[Int.toNat_natCast,ze];rw[zgO]
theorem zhI(c:CS)(f:Frm)(h:¬(f.kind=4∧f.data≠[])):c.ackF f=c:=by
 unfold CS.ackF;rw[if_neg h]
theorem zlf(h:zt tag i b W0 V0 c tag0 V W)(cb lb:Nat)(rs:zA)(la:Option Addr)(s:Nat)
  (aG:W0.cell? ⟨cb,0,none⟩=some (.pointer (some ⟨b,0,none⟩))) (aH:¬zai i tag cb) (aI:W0.cell? ⟨lb,0,none⟩=some (.slice la rs.length s)) (G:¬zai i tag lb)
  (aj:RR W0 (.slice la rs.length s) rs) (D:za2 (zai i tag) (.slice la rs.length s)) (a4:rs.length≤1099511627776)
  (p:Fly) (v:Value) (hp:(p,v)∈c.flight.zip V0.fts) (aJ:zce rs p=true→∀k f,p.fs[k]?=some f→zhH ((p.fs.take k).foldl CS.ackF c) f) (a5:p.fs.length≤1099511627776) :
  Calls prog 205 #[.agg #[.int .u64 (p.n:Int),.int .u64 (p.at_:Int),v],.pointer (some ⟨lb,0,none⟩),.pointer (some ⟨cb,0,none⟩)] W (zq9 tag i b W0 V0 c rs p):=by
 have aK:Hid (∀{c':CS} {tag':Nat→Nat×Nat} {V':CV} {W':World},zt tag i b W0 V0 c' tag' V' W'→W'.cell? ⟨cb,0,none⟩=some (.pointer (some ⟨b,0,none⟩))):=zb (fun r=>r.m.cell (a:=⟨cb,0,none⟩) aH aG);have aL:Hid (∀{c':CS} {tag':Nat→Nat×Nat} {V':CV} {W':World},zt tag i b W0 V0 c' tag' V' W'→W'.cell? ⟨lb,0,none⟩=some (.slice la rs.length s)):=zb (fun r=>r.m.cell (a:=⟨lb,0,none⟩) G aI);have aM:Hid (∀{c':CS} {tag':Nat→Nat×Nat} {V':CV} {W':World},zt tag i b W0 V0 c' tag' V' W'→RR W' (.slice la rs.length s) rs):=zb (fun r=>aj.mod r.m D);have a6:rs.length≤s∧s≤maxLen:=by
  obtain⟨_,_,e,q1,q2,_⟩:=aj;cases e;exact⟨q1,q2⟩
 obtain⟨aN,aO⟩:=a6;unfold maxLen at aO;have HP:=zb hp;have aP:=zb aJ;obtain⟨pn,H⟩:=nm p.n;obtain⟨pa,U⟩:=nm p.at_;obtain⟨fs,Q⟩:=nm p.fs;rw[Q]at aP a5;rw[H,U];have ak:=zb H;have FT:=h.c.fs (p,v) (by rw[h.ft.2];exact hp);obtain⟨l,hl,aQ,-,-⟩:=FT;simp only at hl aQ;rw[Q]at hl;obtain⟨a,cap,rfl,q1,q2,-⟩:=aQ;have X:l.length=fs.length:=by rw[←hl,List.length_map]
 rw[X]at HP q1 ⊢;have aR:=zb Q;have a7:=aK.out h;have aS:=aL.out h;obtain⟨W1,R⟩:=nm (W.alloc (.cells #[.int .u64 (pn:Int),.int .u64 (pa:Int),.slice a fs.length cap] 173));have m1:Mod NoB W W1:=by rw[←R];exact(Mod.refl _ _).alloc _
 have R1:=zb (h.mod0 m1);have o1:W1.heap[W.heap.size]?=some (.cells #[.int .u64 (pn:Int),.int .u64 (pa:Int),.slice a fs.length cap] 173 (0,0)):=by rw[←R];exact heap_alloc_new W _
 obtain⟨pb,al⟩:=nm W.heap.size;rw[al]at o1;have aT:=zb o1;have z0:=za (o:=0) o1 rfl;have z2:W1.cell? ⟨pb,2,none⟩=some (.slice a fs.length cap):=za (o:=2) o1 rfl;have aU:=m1.cell (a:=⟨lb,_,none⟩) id aS;have a8:=zb R;have a9:=zb al;obtain⟨RN,am⟩:=nm rs.length;have an:=zb am;rw[am]at aU a4 aN aL aM;clear h hp H U Q m1 o1 a7 aS R al hl X q1 q2 aG aH aI G aj D aJ am;go_enter func205,ntmps205;go_upto_region 1 with fail;rw[a8.out,a9.out];go_wp2_with fail
 go_loopw [12] (fun iv wr=>∃q:Nat,q≤RN∧iv = .int .i64 (q:Int)∧Hid ((∀j,j<q→¬(loAt rs j≤pn∧pn≤hiAt rs j))∧zt tag i b W0 V0 c tag0 V wr∧Mod NoB W1 wr)) (fun iv _=>RN-(intOf iv).toNat)
 case atStart=>exact⟨0,Nat.zero_le _,rfl,zb ⟨fun j hj=>absurd hj (Nat.not_lt_zero j),R1.out,Mod.refl _ _⟩⟩
 case round =>
  clear z0 z2 aU R1;obtain⟨q,hq,rfl,t⟩:=hrel;by_cases G:q<RN
  ·obtain⟨a',Z,I,_,_,h3⟩:=aM.out t.out.2.1;have ba:Z=s∧a'=la:=by cases I;exact⟨rfl,rfl⟩
   obtain⟨rfl,rfl⟩:=ba;obtain⟨g,o,bb,e1,e2,b1,b2⟩:=h3 q (by rw[an.out];exact G);subst bb;have z0:=za (o:=0) (t.out.2.2.obj (fun x=>x) aT.out) rfl;have z2:wr.cell? ⟨pb,2,none⟩=some (.slice a fs.length cap):=za (o:=2) (t.out.2.2.obj (fun x=>x) aT.out) rfl;have HQ:Hid (q<rs.length):=zb (by rw[an.out];exact G);obtain⟨lo,D⟩:=nm (loAt rs q);obtain⟨hi,ao⟩:=nm (hiAt rs q);rw[D]at e1 b1;rw[ao]at e2 b2;have ap:=zb D;have aq:=zb ao;have aV:=zk z0;have bc:=zk e1;obtain⟨Y,J⟩:=nm (wr.alloc (.cells #[.int .u64 (lo:Int),.int .u64 (hi:Int)] 214));have mY:Mod NoB wr Y:=by rw[←J];exact(Mod.refl _ _).alloc _
   have oY:Y.heap[wr.heap.size]?=some (.cells #[.int .u64 (lo:Int),.int .u64 (hi:Int)] 214 (0,0)):=by rw[←J];exact heap_alloc_new wr _
   have MY:=zb mY;have u0:=za (o:=0) oY rfl;have u1:=za (o:=1) oY rfl;have v0:=mY.cell (a:=⟨pb,0,none⟩) id z0;have v2:=mY.cell (a:=⟨pb,2,none⟩) id z2;obtain⟨yb,ar⟩:=nm wr.heap.size;rw[ar]at u0 u1;have S:=zb J;have w:=zb ar;clear h3 I D ao oY mY J ar;by_cases d1:(lo:Int)≤pn
   ·by_cases d2:(pn:Int)≤hi
    ·have au:Hid (zce rs p=true):=zb (zle HQ.out (by rw[ap.out,ak.out];omega) (by rw[aq.out,ak.out];omega));have RY:=zb (t.out.2.1.mod0 MY.out);have MW:=zb (t.out.2.2.trans MY.out);clear t;go_upto_region 4 with fail;rw[S.out,w.out];go_wp2_with fail
     go_loopw [31] (fun iv wr=>∃(k:Nat) (tag':Nat→Nat×Nat) (V':CV),k≤fs.length∧iv = .int .i64 (k:Int)∧Hid (zt tag i b W0 V0 ((fs.take k).foldl CS.ackF c) tag' V' wr)) (fun iv _=>fs.length-(intOf iv).toNat)
     case atStart=>exact⟨0,tag0,V,Nat.zero_le _,rfl,RY⟩
     case round =>
      clear z0 z2 e1 e2 u0 u1 v0 v2 RY aV bc MY S w MW;obtain⟨k,y,V1,hk,rfl,t⟩:=hrel;by_cases bv:k<fs.length
      ·obtain⟨l1,L,aa,-,-⟩:=t.out.c.fs (p,.slice a fs.length cap) (by rw[zen,t.out.ft.2];exact HP.out);simp only at L aa;rw[aR.out]at L;obtain⟨a',Z,I,_,_,h3⟩:=aa;have ab:l1.length=fs.length:=by rw[←L,List.length_map]
       rw[ab]at I;cases I;obtain⟨⟨f,rv⟩,av⟩:∃fr,l1[k]?=some fr:=⟨l1[k],List.getElem?_eq_getElem (by omega)⟩;have aw:fs[k]?=some f:=by rw[←L,List.getElem?_map,av];rfl
       obtain⟨⟨g2,o2,rfl,hc⟩,ax⟩:=h3 k (f,rv) av;simp only at hc ax;obtain⟨ra,rc,rfl,_⟩:=id ax;obtain⟨hc0,hc1,hc2,hc3,hc4,hc5,hc6,hc7,hc8,bd⟩:=zbX hc;obtain⟨Y,J⟩:=nm (wr.alloc (.cells (zj f (.slice ra f.rngs.length rc)) 65));have mY:Mod NoB wr Y:=by rw[←J];exact(Mod.refl _ _).alloc _
       have ay:Y.heap.size=wr.heap.size+1:=by rw[←J];simp
       have aW:zh Y wr.heap.size f (.slice ra f.rngs.length rc):=by rw[←J];exact heap_alloc_new wr _
       obtain⟨y0,y1,y2,y3,y4,y5,y6,y7,y8,y9⟩:=aW.cells;have ok:=aP.out au.out k f aw;have HT:=zb (zld (c:=c) aw);obtain⟨c1,M⟩:=nm ((fs.take k).foldl CS.ackF c);rw[M]at ok HT t;have C:y wr.heap.size=(0,0):=t.out.e.out _ (Nat.le_refl _);have RY:=zb (t.out.mod0 mY);have az:=aK.out RY.out;obtain⟨m,aX,E⟩:=ok.st;rw[E]at y1;obtain⟨fb,aA⟩:=nm wr.heap.size;rw[aA]at C y0 y1 y2 y8 ay;have be:=zb C;have bf:=zb ay;have dm0:(0:Int)≤m:=by omega
       have dm8:(m:Int)<8:=by omega
       obtain⟨RL,aY⟩:=nm f.rngs.length;rw[aY]at bd J;have S:=zb J;have w:=zb aA;obtain⟨off,N⟩:=nm f.off;obtain⟨d,O⟩:=nm f.data;rw[N]at y2;rw[O]at y8;have ac:=zb N;have z:=zb O;have HC1:=zb M;unfold zj at S;clear h3 av hc ax mY aW aw L aY t J aA M C ay y3 y4 y5 y6 y7 y9 N O ab;by_cases A:f.kind=4
       ·by_cases B:f.data=[]
        ·have bh:d=[]:=by rw[←z.out];exact B
         subst bh;have HE:Hid (c1.ackF f=c1):=zb (zhI c1 f (by simp[B]));rw[A]at y0;have HYD:Hid (f.data=[]):=zb B;have bi:=zpr;clear A E B ok;go_upto_region 8 with fail;rw[S.out,w.out];refine zB ?_;refine zm 7 (fun w'=>w'.cell? ⟨cb,0,none⟩=some (.pointer (some ⟨b,0,none⟩))∧w'.cell? ⟨fb,1,none⟩=some (.int .i64 (m:Int))) (⟨az,y1⟩) ?_;refine GI 0 ?_;iterate 7
          refine GS rfl ?_ ?_ ?_;rotate_left
          ·(intro wx u;obtain⟨fc,f1⟩:=u;go_simp;try with_reducible rfl)
          try simp only[PS]
         refine zo ?_;refine⟨rfl,?_⟩;go_wp2_with fail;go_roundw
         case rel=>exact⟨k+1,y,V1,by omega,by go_num,zb (by rw[HT.out,HE.out];exact RY.out.mod0 (Mod.refl NoB Y).drew)⟩
         case measure=>simp[intOf];omega
        ·obtain⟨m',F⟩:=ok.a A B;have bj:m=m':=by
          have h1:=F.st;rw[E]at h1;omega
         subst bj;have b1:=F.end_;have b2:=F.dl;have ad:d≠[]:=by rw[←z.out];exact B
         have b3:0<d.length:=List.length_pos_iff.2 ad;rw[ac.out,z.out]at b1;rw[z.out]at b2;have P:=RY.out.mod0 ((Mod.refl NoB Y).drew.drew);have aB:=P.addCame aX F.came off (off+d.length-1) (by omega) (by omega);have hz:((off+d.length-1:Nat):Int)=(off:Int)+d.length-1:=by omega
         rw[hz,Nat.mul_comm 15 m]at aB;have aZ:=zb aB;have a0:=zb F;have bk:=zb B;have bm:=zb E;have bn:=zb A;rw[A]at y0;unfold zD at b1;have hsz:(zq d).size=d.length:=zF d;have xw0:IntKind.u64.wrap (d.length:Int)=(d.length:Int):=by rw[IntKind.wrap_u64];omega
         have xw1:=wu ((off:Int)+d.length) (by omega);have xw2:=wu ((off:Int)+d.length-1) (by omega);have bi:(zq d).toList.isEmpty=false:=zpq ad;clear aB P ok F E A B hz;go_upto_region 8 with fail;rw[S.out,w.out];refine zB ?_;refine zm 7 (fun w'=>w'.cell? ⟨cb,0,none⟩=some (.pointer (some ⟨b,0,none⟩))∧w'.cell? ⟨fb,1,none⟩=some (.int .i64 (m:Int))) (⟨az,y1⟩) ?_;refine GI 0 ?_;iterate 7
          refine GS rfl ?_ ?_ ?_;rotate_left
          ·(intro wx u;obtain⟨fc,f1⟩:=u;go_simp;try with_reducible rfl)
          try simp only[PS]
         refine zo ?_;refine⟨rfl,?_⟩;go_upto_region 10 with fail;refine zB ?_;refine zm 13 (fun w'=>w'.cell? ⟨fb,2,none⟩=some (.int .u64 (off:Int))∧w'.cell? ⟨fb,8,none⟩=some (.string (zq d))) (⟨y2,y8⟩) ?_;refine GI 0 ?_;iterate 13
          refine GS rfl ?_ ?_ ?_;rotate_left
          ·(intro wx u;obtain⟨f2,f8⟩:=u;go_simp;try with_reducible rfl)
          try simp only[PS]
         refine zW rfl (fun K hK=>?_);go_simp
         with_reducible refine(aZ.out).mono ?_
         rintro e T ⟨rfl,⟨bo,V10,P,ae⟩,af⟩;have bp:=zb P;have bw:=zb ae;have a1:=zb af;clear P ae af;go_simp;refine hK.out _ _ ?_;clear hK K;try simp only[PS]
         refine zo ?_;refine⟨rfl,?_⟩;have hX:T.heap[fb]?=Y.heap[fb]?:=a1.out fb (by show fb<Y.heap.size;rw[bf.out];omega) be.out;have x2:T.cell? ⟨fb,2,none⟩=some (.int .u64 (off:Int)):=(World.cell?_of_block hX).trans y2;have x8:T.cell? ⟨fb,8,none⟩=some (.string (zq d)):=(World.cell?_of_block hX).trans y8;have aC:=(bp.out.mod0 (Mod.refl NoB T).drew).addSent aX (by simp only[ze];exact a0.out.sent) off (off+d.length-1) (by unfold zD;omega) (by unfold zD;omega);have hz:((off+d.length-1:Nat):Int)=(off:Int)+d.length-1:=by omega
         rw[hz,Nat.mul_comm 15 m]at aC;have a2:=zb aC;clear aC hX hz;go_upto_region 11 with fail;refine zB ?_;refine zm 13 (fun w'=>w'.cell? ⟨fb,2,none⟩=some (.int .u64 (off:Int))∧w'.cell? ⟨fb,8,none⟩=some (.string (zq d))) (⟨x2,x8⟩) ?_;refine GI 0 ?_;iterate 13
          refine GS rfl ?_ ?_ ?_;rotate_left
          ·(intro wx u;obtain⟨f2,f8⟩:=u;go_simp;try with_reducible rfl)
          try simp only[PS]
         refine zW rfl (fun K hK=>?_);go_simp
         with_reducible refine(a2.out).mono ?_
         rintro e X11 ⟨rfl,⟨aD,bq,a3,ah⟩,ai⟩;have bt:=zb a3;have bz:=zb ah;have bA:=zb ai;clear a3 ah ai;go_simp;refine hK.out _ _ ?_;clear hK K;try simp only[PS]
         refine zo ?_;refine⟨rfl,?_⟩;go_wp2_with fail;go_roundw
         case rel =>
          refine⟨k+1,aD,bq,by omega,by go_num,zb ?_⟩;rw[HT.out,←zra c1 f m bm.out bn.out bk.out rfl rfl,ac.out,z.out];exact bt.out
         case measure=>simp[intOf];omega
       ·have HE:Hid (c1.ackF f=c1):=zb (zhI c1 f (by simp[A]));have hb4:(f.kind==4)=false:=by simpa using A
        clear E ok;go_upto_region 8 with fail;rw[S.out,w.out];refine zB ?_;refine zm 7 (fun w'=>w'.cell? ⟨cb,0,none⟩=some (.pointer (some ⟨b,0,none⟩))∧w'.cell? ⟨fb,1,none⟩=some (.int .i64 (m:Int))) (⟨az,y1⟩) ?_;refine GI 0 ?_;iterate 7
         refine GS rfl ?_ ?_ ?_;rotate_left
         ·(intro wx u;obtain⟨fc,f1⟩:=u;go_simp;try with_reducible rfl)
         try simp only[PS]
        refine zo ?_;refine⟨rfl,?_⟩;go_wp2_with fail;go_roundw
        case rel=>exact⟨k+1,y,V1,by omega,by go_num,zb (by rw[HT.out,HE.out];exact RY.out.mod0 (Mod.refl NoB Y).drew)⟩
        case measure=>simp[intOf];omega
      ·have hk2:fs.length=k:=by omega
       have aE:Hid (zt tag i b W0 V0 (c.ackP rs p) y V1 wr):=zb (by
        have:=t.out;rw[List.take_of_length_le (by omega)]at this;unfold CS.ackP;rw[if_pos au.out,aR.out];exact this)
       go_wp2_with fail;go_ret;exact⟨by rw[au.out];rfl,y,V1,aE.out⟩
    ·go_upto_region 4 with fail;rw[S.out,w.out];go_wp2_with fail;go_roundw
     case rel =>
      refine⟨q+1,by omega,by go_num,zb ⟨fun j hj x=>?_,t.out.2.1.mod0 MY.out,t.out.2.2.trans MY.out⟩⟩;by_cases aF:j=q
      ·subst aF;rw[ap.out,aq.out]at x;omega
      ·exact t.out.1 j (by omega) x
     case measure=>simp[intOf];omega
   ·go_upto_region 4 with fail;rw[S.out,w.out];go_wp2_with fail;go_roundw
    case rel =>
     refine⟨q+1,by omega,by go_num,zb ⟨fun j hj x=>?_,t.out.2.1.mod0 MY.out,t.out.2.2.trans MY.out⟩⟩;by_cases aF:j=q
     ·subst aF;rw[ap.out,aq.out]at x;omega
     ·exact t.out.1 j (by omega) x
    case measure=>simp[intOf];omega
  ·have bu:q=RN:=by omega
   have HN:Hid (zce rs p=false):=zb (zji (fun j hj=>by
    rw[ak.out];exact t.out.1 j (by rw[an.out]at hj;omega)))
   have aE:Hid (zt tag i b W0 V0 (c.ackP rs p) tag0 V wr):=zb (by
    unfold CS.ackP;rw[if_neg (by rw[HN.out];simp)];exact t.out.2.1)
   clear bu;go_wp2_with fail;go_ret;exact⟨by rw[HN.out];rfl,tag0,V,aE.out⟩
structure ze7(c:CS):Prop where
 sz:∀p∈c.flight,p.n≤zD∧p.at_≤zD∧p.fs.length≤1099511627776
 ag:∀(k:Nat) p,c.flight[k]?=some p→c.late p=true→∀(j:Nat) f,p.fs[j]?=some f→zhD ((c.loses (c.flight.take k)).agains (p.fs.take j)) f
def zbT(tag:Nat→Nat×Nat)(i b:Nat)(W0:World)(c:CS)(a:Option Addr)(N cap:Nat)(k:Nat)(R:List (Fly×Value))(w:World):Prop :=
 R.length=N∧∃tag' V',zt tag i b W0 V' ((c.loses (c.flight.take k)).fly (R.map (·.1))) tag' V' w∧V'.ft = .slice a N cap∧V'.fts=R.map (·.2)
variable{a:Option Addr}
theorem zbT.row(h:zbT tag i b W0 c a N cap k R w):w.ownsRow 0 173 3 (.slice a N cap) N (zw R):=by
 obtain⟨hl,tag',V',r,h1,h2⟩:=h;have:=r.c.ft;rw[h1,h2]at this;simp only[CS.fly,List.length_map,zaA,hl]at this;exact this
variable{w':World}
theorem zbT.mod0(h:zbT tag i b W0 c a N cap k R w)(m:Mod NoB w w'):zbT tag i b W0 c a N cap k R w':=by
 obtain⟨hl,tag',V',r,h1,h2⟩:=h;exact⟨hl,tag',V',r.mod0 m,h1,h2⟩
theorem zbT.del(ha:0<N→a=some ⟨g,0,none⟩):zrK (zbT tag i b W0 c a N cap) N g:=by
 refine⟨fun k R w w' h m=>h.mod0 m,fun k R w h=>h.1,fun k R w h j x d=>?_⟩;have hj:0<N:=by
  have:=(List.getElem?_eq_some_iff.1 d).1;have:=h.1;omega
 have e:=h.row;rw[ha hj]at e;exact zf2 e h.1 j x d
variable{cb:Nat}{w1:World}
theorem zbT.ask(h:zbT tag i b W0 c a N cap k R w)(ok:ze7 c)(o:W0.cell? ⟨cb,0,none⟩=some (.pointer (some ⟨b,0,none⟩)))(d:¬zai i tag cb)(m:Mod NoB w w1)(x:Fly×Value)(hx:R[k]?=some x)(v:c.flight[k]?=some x.1):Calls prog 79 #[.agg #[.int .u64 (x.1.n:Int),.int .u64 (x.1.at_:Int),x.2],.pointer (some ⟨cb,0,none⟩)] w1 (fun e w'=>e = .returned (.bool (c.late x.1))∧zbT tag i b W0 c a N cap (k+1) R w'∧∀q,w.heap.size≤q→q<w1.heap.size→w'.heap[q]?=w1.heap[q]?):=by
 obtain⟨hl,tag',V',r,h1,h2⟩:=h;have y:=r.mod0 m;have z:cb<W0.heap.size:=zk o;have s:=y.m.cell (a:=⟨cb,0,none⟩) d o;have t:¬zai i tag' cb:=by unfold zai at d ⊢;rw[r.e.old cb z];exact d
 have u:x.1∈c.flight:=List.mem_of_getElem? v;obtain⟨s1,s2,s3⟩:=ok.sz _ u;have g:∀q,((c.loses (c.flight.take k)).fly (R.map (·.1))).late q=c.late q:=fun q=>zf3 (c.flight.take k) c q
 have kc:=zm1 y.refl cb s t x.1 x.2 (by rw[h2];simp only[CS.fly,zaA];exact List.mem_of_getElem? hx) s1 s2 (fun e j f hf=>by
  rw[g]at e;rw[zd8];exact(ok.ag k x.1 v e j f hf).fly _) s3
 refine kc.mono ?_;rintro e w' ⟨rfl,tag2,V2,l⟩;rw[g]at l ⊢;have A:(if c.late x.1=true then((c.loses (c.flight.take k)).fly (R.map (·.1))).agains x.1.fs else(c.loses (c.flight.take k)).fly (R.map (·.1)))=(c.loses (c.flight.take (k+1))).fly (R.map (·.1)):=by
  rw[zlc c c.flight k x.1 v,←zm5];unfold CS.lose1;rw[g]
 rw[A]at l;refine⟨rfl,⟨hl,tag2,V2,y.trans l,l.ft.1.trans h1,l.ft.2.trans h2⟩,fun q hq B=>?_⟩;refine l.m.block q B (fun hc=>?_);have:=hc.1;rw[r.e.out q hq]at this;have v:=r.p;simp at this;omega
theorem zkb(w:World):(zeroValue 173).run prog w = .ok (.agg #[.int .u64 0,.int .u64 0,.slice none 0 0]) w:=by kernel_rfl
def zjj:Fly×Value:=(⟨0,0,[]⟩,.slice none 0 0)
theorem zjV.none(tag:Nat→Nat×Nat)(t:Nat×Nat)(w:World):zjV tag t w (.slice none 0 0) [] :=
 ⟨[],rfl,⟨Option.none,0,rfl,Nat.le_refl _,by unfold maxLen;omega,fun i fr h=>by simp at h⟩,fun g h=>by simp[Value.blk]at h,fun fr h=>by simp at h⟩
theorem zf4(n:Nat):(Builtin.zeroCells (Value.agg #[.int .u64 0,.int .u64 0,.slice none 0 0]).cells n).toList=zw (List.replicate n zjj):=by
 have h:∀n,(Builtin.zeroCells (Value.agg #[.int .u64 0,.int .u64 0,.slice none 0 0]).cells n).toList=(List.range (n*3)).map (fun i=>(#[Value.int .u64 0,Value.int .u64 0,Value.slice none 0 0]:Array Value)[i % 3]!):=fun n=>by
  simp[Builtin.zeroCells,Value.cells]
 rw[h];clear h
 induction n with
 | zero=>rfl
 | succ n ih =>
  rw[List.replicate_succ,zaG,←ih,show(n+1)*3=3+n*3 by omega,List.range_add,List.map_append,List.map_map];have e:((fun i=>(#[Value.int .u64 0,Value.int .u64 0,Value.slice none 0 0]:Array Value)[i % 3]!) ∘ fun x=>3+x)=fun i=>(#[Value.int .u64 0,Value.int .u64 0,Value.slice none 0 0]:Array Value)[i % 3]!:=by
   funext q;simp only[Function.comp,Nat.add_mod_left]
  rw[e];rfl
theorem zcZ(w:World)(g:Nat)(cs:Array Value):Mod (fun q=>q=g) w (w.setRow g cs):=by
 refine⟨rfl,rfl,rfl,by simp[World.setRow],fun q hq a=>?_⟩;have a:¬g=q:=fun e=>a e.symm
 simp[World.setRow,Array.getElem?_modify,a]
theorem zbT.turn{R':List (Fly×Value)}(h:zbT tag i b W0 c (some ⟨g,0,none⟩) N cap k R w)(m:Mod (fun q=>q=g) w w')(hl:R'.length=N)(a:w'.ownsRow 0 173 3 (.slice (some ⟨g,0,none⟩) N cap) N (zw R'))(hs:∀p∈R',p∈R∨p=zjj):zbT tag i b W0 c (some ⟨g,0,none⟩) N cap k R' w':=by
 obtain⟨hl0,tag',j,r,h1,h2⟩:=h;have hg:j.ft.ownBlock=some g:=by rw[h1];rfl
 have d:=r.c.tft g hg;have f:∀p∈R',zjV tag' (i,5) w p.2 p.1.fs:=fun p hp=>by
  rcases hs p hp with x|x
  ·exact r.c.fs p (by rw[h2];simp only[CS.fly,zaA];exact x)
  ·subst x;exact zjV.none _ _ _
 have c1:=r.c.fly m hg (R':=R') (by rw[h1,hl];exact a) f;exact⟨hl,tag',{ j with fts:=R'.map (·.2) },⟨c1,⟨r.e.old,r.e.new,r.e.out.mod m⟩,zap r.e r.m (m.mono (fun q hq=>.inl (zbk (r:=4) (by rw[show q=g from hq];exact d) (by decide)))),r.p,⟨rfl,rfl⟩⟩,h1,rfl⟩
theorem zbT.delK(v:0<N→a=some ⟨g,0,none⟩)(hcm:N≤cap):DelK (zbT tag i b W0 c a N cap) N g cap:=by
 refine⟨fun k R w t h=>?_,fun k R w x h z=>?_,fun k R w j x h C z=>?_,fun k R w j h C=>?_⟩
 ·have D:=h.row;rw[v t]at D;obtain⟨d,h1,_⟩:=zdM D;exact⟨d,h1⟩
 ·obtain⟨hl,tag',V',r,h1,h2⟩:=h;obtain⟨l,_,⟨a',E,e,_⟩,_,_⟩:=r.c.fs x (by rw[h2];simp only[CS.fly,zaA];exact z);exact⟨_,_,_,e⟩
 ·have t:0<N:=by omega
  have m:=v t;subst m;have u:=zka x h.row h.1 C;refine h.turn ?_ (by rw[List.length_set];exact h.1) u (fun p A=>?_)
  ·exact(((Mod.refl (fun q=>q=g) w).setCell (p:=⟨g,_,none⟩) (.inl rfl) _).setCell (p:=⟨g,_,none⟩) (.inl rfl) _).setCell (p:=⟨g,_,none⟩) (.inl rfl) _
  ·rcases List.mem_or_eq_of_mem_set A with y|y
   ·exact .inl y
   ·exact .inl (y ▸ z)
 ·have t:0<N:=by omega
  have m:=v t;subst m;obtain⟨d,h1,h2,h3,h4,h5⟩:=zdM h.row;have B:w.heap[g]?=some (.cells d.toList.toArray 173 (0,0)):=by simpa using h1
  have f:d.toList.length=cap*3:=by simpa using h4
  have o:(zw (List.replicate (N-j) zjj)).length=(N-j)*3:=by rw[zY,List.length_replicate]
  refine⟨_,R.take j++List.replicate (N-j) zjj,fun ty=>zaK (P:=prog) w 123 ty 173 (.agg #[.int .u64 0,.int .u64 0,.slice none 0 0]) 3 underlying123 zkb rfl (by simp[Value.cells,Value.oneCell']) g (j*3) (N-j) _ d.toList _ B (by rw[f];omega),?_,?_⟩
  ·rw[zf4];have s:(R.take j).length=j:=by rw[List.length_take,h.1];omega
   refine h.turn ?_ (by rw[List.length_append,s,List.length_replicate];omega) ?_ (fun p A=>?_)
   ·exact zcZ w g _
   ·refine⟨by rw[zY,List.length_append,s,List.length_replicate];omega,.inr ⟨g,cap,_,rfl,Nat.zero_le _,setRow_heap w g _ _ _ _ h1,h2,h3,?_,?_⟩⟩
    ·rw[List.size_toArray,length_splice _ _ _ (by rw[o,f];omega),f]
    ·have h6:d.toList.take (j*3)=zw (R.take j):=by
      have:=(ze5 h.row h.1 (n:=j) (by omega));obtain⟨F,g1,_,_,_,g5⟩:=zdM this;rw[h1]at g1;cases g1;exact g5
     unfold splice;rw[h6,zbS];have G:(zw (R.take j)).length=j*3:=by rw[zY,s]
     rw[←List.append_assoc];simp only[List.toList_toArray];rw[List.take_append_of_le_length (by rw[List.length_append,G,o];omega),List.take_of_length_le (by rw[List.length_append,G,o];omega)]
   ·rcases List.mem_append.1 A with y|y
    ·exact .inl (List.mem_of_mem_take y)
    ·exact .inr (List.eq_of_mem_replicate y)
  ·rw[List.take_append_of_le_length (by rw[List.length_take,h.1];omega),List.take_take,Nat.min_self]
theorem zm8(h:w.ownsRow 0 173 3 (.slice a N cap) N (zw R))(hR:R.length=N)(hn:n≤N):w.ownsRow 0 173 3 (.slice a n cap) n (zw (R.take n)):=by
 by_cases h0:N=0
 ·have b:n=N:=by omega
  rw[b,List.take_of_length_le (by omega)];exact h
 ·obtain⟨a',c,e,_,_,hg⟩:=zi h;cases e;obtain⟨g,rfl⟩:=hg (by omega);exact ze5 h hR hn
theorem zbT.done(h:zbT tag i b W0 c a N cap N R w)(hN:c.flight.length=N)(hn:n≤N)(hR:(R.take n).map (·.1)=c.flight.filter fun p => !c.late p):∃tag' V',zt tag i b W0 V' c.lose tag' V' (w.setCell ⟨b,236,none⟩ (.slice a n cap)):=by
 have f:=zm8 h.row h.1 hn;obtain⟨hl,tag',V',r,h1,h2⟩:=h;rw[List.take_of_length_le (by omega)]at r;have m:Mod (fun q=>q=b) w (w.setCell ⟨b,236,none⟩ (.slice a n cap)):=(Mod.refl (fun q=>q=b) w).setCell (p:=⟨b,_,none⟩) (.inl rfl) _;have d:∀g,(Value.slice a n cap).ownBlock=some g→tag' g=(i,4):=fun g hg=>r.c.tft g (by rw[h1];cases a<;>exact hg)
 have s:∀g,(Value.slice a n cap).ownBlock=some g→¬g=b:=fun g hg e=>by
  have h3:=d g hg;rw[e,r.c.tb]at h3;simp at h3
 have l:(R.take n).length=n:=by rw[List.length_take,hl];omega
 rw[zgN,←hR];refine⟨tag',{ V' with ft:=.slice a n cap,fts:=(R.take n).map (·.2) },⟨?_,⟨r.e.old,r.e.new,r.e.out.mod m⟩,zap r.e r.m (m.mono (fun q o=>.inl (zbk (r:=1) (by rw[show q=b from o];exact r.c.tb) (by decide)))),r.p,⟨rfl,rfl⟩⟩⟩;refine r.c.build (R:=fun r=>r=1) m (fun q o=>⟨1,rfl,by rw[show q=b from o];exact r.c.tb⟩) (fun _ _=>rfl) ?_ (.inl ⟨rfl,rfl,rfl,by omega,by omega⟩) (fun k hk=>.inl ⟨rfl,rfl,by omega⟩) (fun k hk=>.inl ⟨rfl,rfl,by omega⟩) (fun k hk=>.inl ⟨rfl,rfl,by omega⟩) (fun k hk=>.inl ⟨rfl,rfl,by omega⟩) (fun k hk=>.inl ⟨rfl,rfl,by omega⟩) (.inr ⟨?_,?_,?_,?_⟩) (.inl ⟨rfl,rfl,by omega⟩) (.inl ⟨rfl,rfl,by omega⟩) (.inl ⟨rfl,rfl,by omega⟩)
 ·rw[zc r.c.obj];simp only[List.setIfInBounds_toArray];rw[show(236:Nat)=233+3 from rfl,zaj (j:=3) ((c.loses c.flight).fly (R.map (·.1))) ((c.loses c.flight).fly ((R.take n).map (·.1))) V' { V' with ft:=.slice a n cap,fts:=(R.take n).map (·.2) } (.slice a n cap) rfl rfl rfl rfl]
 ·simp only[CS.fly,List.length_map,zaA,l];exact m.owns f s
 ·simp[CS.fly]
 ·simp only[CS.fly,zaA];intro p hp;refine(r.c.fs p (by rw[h2];simp only[CS.fly,zaA];exact List.mem_of_mem_take hp)).mod m (fun q o e=>?_) (fun _ e=>e);rw[show q=b from o,r.c.tb]at e;simp at e
 ·exact d
variable{W1:World}
theorem zps(h:zg tag i b c V W)(ht:zR tag W)(hi:0<i)(ok:ze7 c)(hb:c.flight.length≤1099511627776)(j:W.cell? ⟨cb,0,none⟩=some (.pointer (some ⟨b,0,none⟩)))(n:¬zai i tag cb)(m:Mod NoB W W1)(v:V.ft = .slice a N cap)(y:c.flight.length=N):Calls prog 78 #[.slice a N cap,.func (.func 79) #[] #[.pointer (some ⟨cb,0,none⟩)]] W1 (zj9 (zbT tag i b W c a N cap) c.late (c.flight.zip V.fts) a cap):=by
 have q:(c.flight.zip V.fts).length=N:=by rw[List.length_zip,h.fl,Nat.min_self,y]
 have r:(c.flight.zip V.fts).map (·.1)=c.flight:=List.map_fst_zip (Nat.le_of_eq h.fl.symm);have s:(c.flight.zip V.fts).map (·.2)=V.fts:=List.map_snd_zip (Nat.le_of_eq h.fl);have d:=h.ft;rw[v,y]at d;obtain⟨a',z,e,A,q2,q3⟩:=zi d;cases e;have B:∀(k:Nat) (x:Fly×Value),(c.flight.zip V.fts)[k]?=some x→c.flight[k]?=some x.1:=fun k x f=>by
  have:=congrArg (fun l=>l[k]?) r;simp only[List.getElem?_map,f]at this;exact this.symm
 have r0:zt tag i b W V c tag V W:=⟨h,Ext.same ht (Mod.refl NoB W),Mod.refl _ _,hi,⟨rfl,rfl⟩⟩;have j0:zbT tag i b W c a N cap 0 (c.flight.zip V.fts) W:=⟨q,tag,V,by rw[r];exact r0,v,s.symm⟩;obtain⟨g,hg⟩:∃g,0<N→a=some ⟨g,0,none⟩:=by
  by_cases h0:0<N
  ·obtain⟨g,hg⟩:=q3 h0;exact⟨g,fun _=>hg⟩
  ·exact⟨0,fun x=>absurd x h0⟩
 refine zjg (zbT tag i b W c a N cap) c.late (c.flight.zip V.fts) N g cap cb a q (by omega) A q2 hg (zbT.del hg) (zbT.delK hg A) (fun k w x t f=>?_) (fun k R w o x t f u=>?_) W1 (j0.mod0 m)
 ·exact(t.ask ok j n (Mod.refl NoB w) x f (B k x f)).mono (fun e w' p=>⟨p.1,p.2.1⟩)
 ·exact(t.ask ok j n ((Mod.refl NoB w).alloc o) x f (B k x u)).mono (fun e w' p=>⟨p.1,p.2.1,p.2.2 _ (Nat.le_refl _) (by simp)⟩)
theorem zaU(ht:zR tag W)(m:Mod NoB W W0)(h:Ext i tag tag' W0 W'):Ext i tag tag' W W':=by
 refine⟨fun g hg=>h.old g (Nat.lt_of_lt_of_le hg m.size),fun g hg=>?_,h.out⟩;by_cases q:g<W0.heap.size
 ·exact .inr (by rw[h.old g q];exact ht g hg)
 ·exact h.new g (by omega)
theorem zkc(h:zg tag i b c V W)(y:zR tag W)(hi:0<i)(ok:ze7 c)(hb:c.flight.length≤1099511627776):Calls prog 49 #[.pointer (some ⟨b,0,none⟩)] W (zbC tag i b W (.tuple #[]) c.lose):=by
 obtain⟨a,cap,B,_⟩:=zi h.ft;obtain⟨N,t⟩:=nm c.flight.length;rw[t]at B;obtain⟨W1,f⟩:=nm (W.alloc (.cells #[.pointer (some ⟨b,0,none⟩)] 69));have m1:Mod NoB W W1:=by rw[←f];exact(Mod.refl _ _).alloc _
 have k:W1.cell? ⟨W.heap.size,0,none⟩=some (.pointer (some ⟨b,0,none⟩)):=by rw[←f];exact za (heap_alloc_new W _) rfl
 have l:¬zai i tag W.heap.size:=fun x=>by
  have h1:=x.1;rw[y _ (Nat.le_refl _)]at h1;simp at h1;omega
 have h1:=h.mod0 m1;have u:zR tag W1:=y.mod m1;have z:=zps h1 u hi ok hb k l (Mod.refl NoB W1).drew B t;have o:(c.flight.zip V.fts).length=N:=by rw[List.length_zip,h.fl,Nat.min_self,t]
 have q:(c.flight.zip V.fts).map (·.1)=c.flight:=List.map_fst_zip (Nat.le_of_eq h.fl.symm);obtain⟨L,J⟩:=nm (c.flight.zip V.fts);rw[J]at z o q;obtain⟨cb,d⟩:=nm W.heap.size;rw[d]at z k l;have C:W1.cell? ⟨b,236,none⟩=some (.slice a N cap):=by rw[←B];exact h1.tl (j:=3) rfl
 have fz:W1.frozen? ⟨b,236,none⟩=false:=h1.fz 236;have KD:=zb z;have HT:=zb y;have HI:=zb hi;have v:=zb m1;have D:=zb l;have E:=zb k;have M:=zb (And.intro o q);have HN:=zb t;have F:=zb f;have G:=zb d;clear z y hi m1 l o q t h h1 u ok hb J f d;go_enter func49,ntmps49;go_upto_region 1 with fail;try rw[F.out]
 try rw[G.out]
 refine zB ?_;refine zm 9 (fun w'=>w'.cell? ⟨cb,0,none⟩=some (.pointer (some ⟨b,0,none⟩))∧w'.cell? ⟨b,236,none⟩=some (.slice a N cap)∧w'.frozen? ⟨b,236,none⟩=false) (⟨k,C,fz⟩) ?_;refine GI 0 ?_;iterate 6
  refine GS rfl ?_ ?_ ?_;rotate_left
  ·(intro wx s;obtain⟨f0,f1,f2⟩:=s;go_simp;try with_reducible rfl)
  try simp only[PS]
 refine zz 6 rfl (fun K w=>?_);go_simp
 with_reducible refine(KD.out).mono ?_
 rintro e H ⟨n,R,rfl,O,I,A⟩;have HJ:=zb (And.intro O (And.intro I A));have P:H.cell? ⟨cb,0,none⟩=some (.pointer (some ⟨b,0,none⟩))∧H.cell? ⟨b,236,none⟩=some (.slice a N cap)∧H.frozen? ⟨b,236,none⟩=false:=by
  obtain⟨hl,tag',Q,r,g1,g2⟩:=I;exact⟨r.m.cell (a:=⟨cb,0,none⟩) D.out E.out,by rw[←g1];exact r.c.tl (j:=3) rfl,r.c.fz 236⟩
 clear I O A;go_simp;refine w.out _ _ P ?_;obtain⟨p0,p1,p2⟩:=P;clear w K;try simp only[PS]
 refine GI 7 ?_;iterate 2
  refine GS rfl ?_ ?_ ?_;rotate_left
  ·(intro wx s;obtain⟨f0,f1,f2⟩:=s;go_simp;try with_reducible rfl)
  try simp only[PS]
 refine zW rfl (fun K w=>?_);go_simp;refine w.out _ _ ?_;clear w K;try simp only[PS]
 refine zo ?_;refine⟨rfl,?_⟩;go_wp2_with fail
 go_end0
 refine⟨rfl,?_⟩;obtain⟨h1,h2,h3⟩:=HJ.out;rw[M.out.1]at h1 h2;have A:(R.take n).map (·.1)=c.flight.filter fun p => !c.late p:=by
  rw[h3,←M.out.2,List.filter_map];rfl
 obtain⟨tag',Q,r⟩:=h2.done HN.out h1 A;exact⟨tag',Q,r.c,zaU HT.out v.out r.e,(v.out.mono (fun _ x=>x.elim)).then r.m.ofC (fun g hg=>.inl hg)⟩
def zfJ(tag:Nat→Nat×Nat)(i b:Nat)(W0:World)(G:Nat→CS)(a:Option Addr)(N cap:Nat)(k:Nat)(R:List (Fly×Value))(w:World):Prop :=
 R.length=N∧∃tag' V',zt tag i b W0 V' ((G k).fly (R.map (·.1))) tag' V' w∧V'.ft = .slice a N cap∧V'.fts=R.map (·.2)
theorem zfJ.row{G:Nat→CS}(h:zfJ tag i b W0 G a N cap k R w):w.ownsRow 0 173 3 (.slice a N cap) N (zw R):=by
 obtain⟨hl,tag',V',r,h1,h2⟩:=h;have:=r.c.ft;rw[h1,h2]at this;simp only[CS.fly,List.length_map,zaA,hl]at this;exact this
theorem zfJ.mod0{G:Nat→CS}(h:zfJ tag i b W0 G a N cap k R w)(m:Mod NoB w w'):zfJ tag i b W0 G a N cap k R w':=by
 obtain⟨hl,tag',V',r,h1,h2⟩:=h;exact⟨hl,tag',V',r.mod0 m,h1,h2⟩
theorem zfJ.del{G:Nat→CS}(ha:0<N→a=some ⟨g,0,none⟩):zrK (zfJ tag i b W0 G a N cap) N g:=by
 refine⟨fun k R w w' h m=>h.mod0 m,fun k R w h=>h.1,fun k R w h j x c=>?_⟩;have hj:0<N:=by
  have:=(List.getElem?_eq_some_iff.1 c).1;have:=h.1;omega
 have d:=h.row;rw[ha hj]at d;exact zf2 d h.1 j x c
theorem zfJ.turn{G:Nat→CS}{R':List (Fly×Value)}(h:zfJ tag i b W0 G (some ⟨g,0,none⟩) N cap k R w)(m:Mod (fun q=>q=g) w w')(hl:R'.length=N)(a:w'.ownsRow 0 173 3 (.slice (some ⟨g,0,none⟩) N cap) N (zw R'))(hs:∀p∈R',p∈R∨p=zjj):zfJ tag i b W0 G (some ⟨g,0,none⟩) N cap k R' w':=by
 obtain⟨hl0,tag',j,r,h1,h2⟩:=h;have hg:j.ft.ownBlock=some g:=by rw[h1];rfl
 have d:=r.c.tft g hg;have f:∀p∈R',zjV tag' (i,5) w p.2 p.1.fs:=fun p hp=>by
  rcases hs p hp with x|x
  ·exact r.c.fs p (by rw[h2];simp only[CS.fly,zaA];exact x)
  ·subst x;exact zjV.none _ _ _
 have c1:=r.c.fly m hg (R':=R') (by rw[h1,hl];exact a) f;exact⟨hl,tag',{ j with fts:=R'.map (·.2) },⟨c1,⟨r.e.old,r.e.new,r.e.out.mod m⟩,zap r.e r.m (m.mono (fun q hq=>.inl (zbk (r:=4) (by rw[show q=g from hq];exact d) (by decide)))),r.p,⟨rfl,rfl⟩⟩,h1,rfl⟩
theorem zfJ.delK{G:Nat→CS}(v:0<N→a=some ⟨g,0,none⟩)(hcm:N≤cap):DelK (zfJ tag i b W0 G a N cap) N g cap:=by
 refine⟨fun k R w t h=>?_,fun k R w x h z=>?_,fun k R w j x h C z=>?_,fun k R w j h C=>?_⟩
 ·have D:=h.row;rw[v t]at D;obtain⟨d,h1,_⟩:=zdM D;exact⟨d,h1⟩
 ·obtain⟨hl,tag',V',r,h1,h2⟩:=h;obtain⟨l,_,⟨a',E,e,_⟩,_,_⟩:=r.c.fs x (by rw[h2];simp only[CS.fly,zaA];exact z);exact⟨_,_,_,e⟩
 ·have t:0<N:=by omega
  have m:=v t;subst m;have u:=zka x h.row h.1 C;refine h.turn ?_ (by rw[List.length_set];exact h.1) u (fun p A=>?_)
  ·exact(((Mod.refl (fun q=>q=g) w).setCell (p:=⟨g,_,none⟩) (.inl rfl) _).setCell (p:=⟨g,_,none⟩) (.inl rfl) _).setCell (p:=⟨g,_,none⟩) (.inl rfl) _
  ·rcases List.mem_or_eq_of_mem_set A with y|y
   ·exact .inl y
   ·exact .inl (y ▸ z)
 ·have t:0<N:=by omega
  have m:=v t;subst m;obtain⟨d,h1,h2,h3,h4,h5⟩:=zdM h.row;have B:w.heap[g]?=some (.cells d.toList.toArray 173 (0,0)):=by simpa using h1
  have f:d.toList.length=cap*3:=by simpa using h4
  have o:(zw (List.replicate (N-j) zjj)).length=(N-j)*3:=by rw[zY,List.length_replicate]
  refine⟨_,R.take j++List.replicate (N-j) zjj,fun ty=>zaK (P:=prog) w 123 ty 173 (.agg #[.int .u64 0,.int .u64 0,.slice none 0 0]) 3 underlying123 zkb rfl (by simp[Value.cells,Value.oneCell']) g (j*3) (N-j) _ d.toList _ B (by rw[f];omega),?_,?_⟩
  ·rw[zf4];have s:(R.take j).length=j:=by rw[List.length_take,h.1];omega
   refine h.turn ?_ (by rw[List.length_append,s,List.length_replicate];omega) ?_ (fun p A=>?_)
   ·exact zcZ w g _
   ·refine⟨by rw[zY,List.length_append,s,List.length_replicate];omega,.inr ⟨g,cap,_,rfl,Nat.zero_le _,setRow_heap w g _ _ _ _ h1,h2,h3,?_,?_⟩⟩
    ·rw[List.size_toArray,length_splice _ _ _ (by rw[o,f];omega),f]
    ·have h6:d.toList.take (j*3)=zw (R.take j):=by
      have:=(ze5 h.row h.1 (n:=j) (by omega));obtain⟨F,g1,_,_,_,g5⟩:=zdM this;rw[h1]at g1;cases g1;exact g5
     unfold splice;rw[h6,zbS];have H:(zw (R.take j)).length=j*3:=by rw[zY,s]
     rw[←List.append_assoc];simp only[List.toList_toArray];rw[List.take_append_of_le_length (by rw[List.length_append,H,o];omega),List.take_of_length_le (by rw[List.length_append,H,o];omega)]
   ·rcases List.mem_append.1 A with y|y
    ·exact .inl (List.mem_of_mem_take y)
    ·exact .inr (List.eq_of_mem_replicate y)
  ·rw[List.take_append_of_le_length (by rw[List.length_take,h.1];omega),List.take_take,Nat.min_self]
theorem zfJ.done{G:Nat→CS}(h:zfJ tag i b W0 G a N cap N R w)(hn:n≤N):∃tag' V',zt tag i b W0 V' ((G N).fly ((R.take n).map (·.1))) tag' V' (w.setCell ⟨b,236,none⟩ (.slice a n cap)):=by
 have f:=zm8 h.row h.1 hn;obtain⟨hl,tag',V',r,h1,h2⟩:=h;have m:Mod (fun q=>q=b) w (w.setCell ⟨b,236,none⟩ (.slice a n cap)):=(Mod.refl (fun q=>q=b) w).setCell (p:=⟨b,_,none⟩) (.inl rfl) _;have d:∀g,(Value.slice a n cap).ownBlock=some g→tag' g=(i,4):=fun g hg=>r.c.tft g (by rw[h1];cases a<;>exact hg)
 have s:∀g,(Value.slice a n cap).ownBlock=some g→¬g=b:=fun g hg e=>by
  have h3:=d g hg;rw[e,r.c.tb]at h3;simp at h3
 have l:(R.take n).length=n:=by rw[List.length_take,hl];omega
 refine⟨tag',{ V' with ft:=.slice a n cap,fts:=(R.take n).map (·.2) },⟨?_,⟨r.e.old,r.e.new,r.e.out.mod m⟩,zap r.e r.m (m.mono (fun q o=>.inl (zbk (r:=1) (by rw[show q=b from o];exact r.c.tb) (by decide)))),r.p,⟨rfl,rfl⟩⟩⟩;refine r.c.build (R:=fun r=>r=1) m (fun q o=>⟨1,rfl,by rw[show q=b from o];exact r.c.tb⟩) (fun _ _=>rfl) ?_ (.inl ⟨rfl,rfl,rfl,by omega,by omega⟩) (fun k hk=>.inl ⟨rfl,rfl,by omega⟩) (fun k hk=>.inl ⟨rfl,rfl,by omega⟩) (fun k hk=>.inl ⟨rfl,rfl,by omega⟩) (fun k hk=>.inl ⟨rfl,rfl,by omega⟩) (fun k hk=>.inl ⟨rfl,rfl,by omega⟩) (.inr ⟨?_,?_,?_,?_⟩) (.inl ⟨rfl,rfl,by omega⟩) (.inl ⟨rfl,rfl,by omega⟩) (.inl ⟨rfl,rfl,by omega⟩)
 ·rw[zc r.c.obj];simp only[List.setIfInBounds_toArray];rw[show(236:Nat)=233+3 from rfl,zaj (j:=3) ((G N).fly (R.map (·.1))) ((G N).fly ((R.take n).map (·.1))) V' { V' with ft:=.slice a n cap,fts:=(R.take n).map (·.2) } (.slice a n cap) rfl rfl rfl rfl]
 ·simp only[CS.fly,List.length_map,zaA,l];exact m.owns f s
 ·simp[CS.fly]
 ·simp only[CS.fly,zaA];intro p hp;refine(r.c.fs p (by rw[h2];simp only[CS.fly,zaA];exact List.mem_of_mem_take hp)).mod m (fun q o e=>?_) (fun _ e=>e);rw[show q=b from o,r.c.tb]at e;simp at e
 ·exact d
structure ze8(c:CS)(rs:zA):Prop where
 sz:∀p∈c.flight,p.fs.length≤1099511627776
 ag:∀(k:Nat) p,c.flight[k]?=some p→zce rs p=true→∀(j:Nat) f,p.fs[j]?=some f→zhH ((p.fs.take j).foldl CS.ackF (c.ackPs rs (c.flight.take k))) f
theorem zhH.fly(h:zhH c f)(l:List Fly):zhH (c.fly l) f :=
 ⟨h.st,fun h4 hd=>by
  obtain⟨k,o⟩:=h.a h4 hd;exact⟨k,⟨o.lt,o.st,o.sent,o.came,o.end_,o.dl⟩⟩⟩
def zpt(c:CS)(rs:zA)(k:Nat):CS:=c.ackPs rs (c.flight.take k)
theorem zm9{lb:Nat}{t:Option Addr}{d:Nat}(h:zfJ tag i b W0 (zpt c rs) a N cap k R w)(ok:ze8 c rs)(u:W0.cell? ⟨cb,0,none⟩=some (.pointer (some ⟨b,0,none⟩)))(l:¬zai i tag cb)(v:W0.cell? ⟨lb,0,none⟩=some (.slice t rs.length d))(s:¬zai i tag lb)
  (I:RR W0 (.slice t rs.length d) rs) (y:za2 (zai i tag) (.slice t rs.length d)) (J:∀g o n cc,Value.slice t rs.length d = .slice (some ⟨g,o,none⟩) n cc→g<W0.heap.size) (K:rs.length≤1099511627776) (m:Mod NoB w w1) (x:Fly×Value) (hx:R[k]?=some x) (H:c.flight[k]?=some x.1) :
  Calls prog 205 #[.agg #[.int .u64 (x.1.n:Int),.int .u64 (x.1.at_:Int),x.2],.pointer (some ⟨lb,0,none⟩),.pointer (some ⟨cb,0,none⟩)] w1 (fun e w'=>e = .returned (.bool (zce rs x.1))∧zfJ tag i b W0 (zpt c rs) a N cap (k+1) R w'∧∀q,w.heap.size≤q→q<w1.heap.size→w'.heap[q]?=w1.heap[q]?):=by
 obtain⟨hl,tag',V',r,h1,h2⟩:=h;have z:=r.mod0 m;have L:cb<W0.heap.size:=zk u;have M:lb<W0.heap.size:=zk v;have A:=z.m.cell (a:=⟨cb,0,none⟩) l u;have B:=z.m.cell (a:=⟨lb,0,none⟩) s v;have C:¬zai i tag' cb:=by unfold zai at l ⊢;rw[r.e.old cb L];exact l
 have D:¬zai i tag' lb:=by unfold zai at s ⊢;rw[r.e.old lb M];exact s
 have E:za2 (zai i tag') (.slice t rs.length d):=by
  intro g o n cc e x;unfold zai at x;rw[r.e.old g (J g o n cc e)]at x;exact y g o n cc e x
 have F:x.1∈c.flight:=List.mem_of_getElem? H;have s3:=ok.sz _ F;have kc:=zlf z.refl cb lb rs t d A C B D (I.mod z.m y) E K x.1 x.2 (by rw[h2];simp only[CS.fly,zaA];exact List.mem_of_getElem? hx) (fun e j f hf=>by
  rw[ze6];exact(ok.ag k x.1 H e j f hf).fly _) s3
 refine kc.mono ?_;rintro e w' ⟨rfl,tag2,V2,G⟩;have O:((zpt c rs k).fly (R.map (·.1))).ackP rs x.1=(zpt c rs (k+1)).fly (R.map (·.1)):=by
  unfold zpt;rw[zm6 c rs c.flight k x.1 H,zpo]
 rw[O]at G;refine⟨rfl,⟨hl,tag2,V2,z.trans G,G.ft.1.trans h1,G.ft.2.trans h2⟩,fun q hq P=>?_⟩;refine G.m.block q P (fun hc=>?_);have:=hc.1;rw[r.e.out q hq]at this;have H:=r.p;simp at this;omega
theorem zna{lb:Nat}{C:Option Addr}{d:Nat}(h:zg tag i b c V W)(ht:zR tag W)(hi:0<i)(ok:ze8 c rs)(hb:c.flight.length≤1099511627776)(q:W.cell? ⟨cb,0,none⟩=some (.pointer (some ⟨b,0,none⟩)))(r:¬zai i tag cb)(s:W.cell? ⟨lb,0,none⟩=some (.slice C rs.length d))(t:¬zai i tag lb)
  (u:RR W (.slice C rs.length d) rs) (v:za2 (zai i tag) (.slice C rs.length d)) (y:∀g o n cc,Value.slice C rs.length d = .slice (some ⟨g,o,none⟩) n cc→g<W.heap.size) (z:rs.length≤1099511627776) (m:Mod NoB W W1) (G:V.ft = .slice a N cap) (H:c.flight.length=N) :
  Calls prog 78 #[.slice a N cap,.func (.func 205) #[] #[.pointer (some ⟨lb,0,none⟩),.pointer (some ⟨cb,0,none⟩)]] W1 (zj9 (zfJ tag i b W (zpt c rs) a N cap) (zce rs) (c.flight.zip V.fts) a cap):=by
 have A:(c.flight.zip V.fts).length=N:=by rw[List.length_zip,h.fl,Nat.min_self,H]
 have B:(c.flight.zip V.fts).map (·.1)=c.flight:=List.map_fst_zip (Nat.le_of_eq h.fl.symm);have D:(c.flight.zip V.fts).map (·.2)=V.fts:=List.map_snd_zip (Nat.le_of_eq h.fl);have f:=h.ft;rw[G,H]at f;obtain⟨a',I,e,J,q2,q3⟩:=zi f;cases e;have K:∀(k:Nat) (x:Fly×Value),(c.flight.zip V.fts)[k]?=some x→c.flight[k]?=some x.1:=fun k x j=>by
  have:=congrArg (fun l=>l[k]?) B;simp only[List.getElem?_map,j]at this;exact this.symm
 have r0:zt tag i b W V c tag V W:=⟨h,Ext.same ht (Mod.refl NoB W),Mod.refl _ _,hi,⟨rfl,rfl⟩⟩;have j0:zfJ tag i b W (zpt c rs) a N cap 0 (c.flight.zip V.fts) W:=⟨A,tag,V,by rw[B];exact r0,G,D.symm⟩;obtain⟨g,hg⟩:∃g,0<N→a=some ⟨g,0,none⟩:=by
  by_cases h0:0<N
  ·obtain⟨g,hg⟩:=q3 h0;exact⟨g,fun _=>hg⟩
  ·exact⟨0,fun x=>absurd x h0⟩
 refine zhG (zfJ tag i b W (zpt c rs) a N cap) (zce rs) (c.flight.zip V.fts) N g cap lb cb a A (by omega) J q2 hg (zfJ.del hg) (zfJ.delK hg J) (fun k w x E j=>?_) (fun k R w o x E j F=>?_) W1 (j0.mod0 m)
 ·exact(zm9 E ok q r s t u v y z (Mod.refl NoB w) x j (K k x j)).mono (fun e w' p=>⟨p.1,p.2.1⟩)
 ·exact(zm9 E ok q r s t u v y z ((Mod.refl NoB w).alloc o) x j (K k x F)).mono (fun e w' p=>⟨p.1,p.2.1,p.2.2 _ (Nat.le_refl _) (by simp)⟩)
theorem zhP(f:Frm)(k:Value)(b cb now:Nat)(W:World)(i:W.cell? ⟨cb,0,none⟩=some (.pointer (some ⟨b,0,none⟩)))(d:W.cell? ⟨b,3,none⟩=some (.int .u64 (now:Int))):Calls prog 48 #[.agg (zj f k),.pointer (some ⟨cb,0,none⟩)] W (fun e w'=>e = .returned (.bool (decide (f.dl<now)))∧w'=(W.alloc (.cells (zj f k) 65)).drew):=by
 obtain⟨W1,c⟩:=nm (W.alloc (.cells (zj f k) 65));have m1:Mod NoB W W1:=by rw[←c];exact(Mod.refl _ _).alloc _
 have g:zh W1 W.heap.size f k:=by rw[←c];exact heap_alloc_new W _
 obtain⟨fb,h⟩:=nm W.heap.size;rw[h]at g;obtain⟨y0,y1,y2,y3,y4,y5,y6,o,y8,y9⟩:=g.cells;have c1:=m1.cell (a:=⟨cb,0,none⟩) id i;have c3:=m1.cell (a:=⟨b,3,none⟩) id d;obtain⟨dl,j⟩:=nm f.dl;rw[j]at o ⊢;have hd:decide ((dl:Int)<(now:Int))=decide (dl<now):=by simp
 have l:=zb c;have m:=zb h;have HD:=zb hd;rw[c];clear i d m1 g y0 y1 y2 y3 y4 y5 y6 y8 y9 j c h hd;go_enter func48,ntmps48;go_upto_region 1 with fail;rw[l.out,m.out];refine zB ?_;refine zm 8 (fun w'=>w'.cell? ⟨fb,7,none⟩=some (.int .u64 (dl:Int))∧w'.cell? ⟨cb,0,none⟩=some (.pointer (some ⟨b,0,none⟩))∧w'.cell? ⟨b,3,none⟩=some (.int .u64 (now:Int))) (⟨o,c1,c3⟩) ?_;refine GI 0 ?_;iterate 8
  refine GS rfl ?_ ?_ ?_;rotate_left
  ·(intro wx n;obtain⟨f7,f0,f3⟩:=n;go_simp;try with_reducible rfl)
  try simp only[PS]
 refine zo ?_;refine⟨rfl,?_⟩;go_wp2_with fail;go_ret;exact⟨by rw[←HD.out];rfl,rfl⟩
structure FrmJ(J:List Frm→World→Prop)(N g o b cb now:Nat):Prop where
 box:∀R w w',J R w→Mod NoB w w'→J R w'
 len:∀R w,J R w→R.length=N
 cb:∀R w,J R w→w.cell? ⟨cb,0,none⟩=some (.pointer (some ⟨b,0,none⟩))
 now:∀R w,J R w→w.cell? ⟨b,3,none⟩=some (.int .u64 (now:Int))
 rd:∀R w,J R w→∀(j:Nat) (f:Frm),R[j]?=some f→∀q x,(zj f (.slice none 0 0))[q]?=some x→w.cell? ⟨g,o+j*10+q,none⟩=some x
def IfPost(J:List Frm→World→Prop)(now:Nat)(L:List Frm)(e:Ending)(w':World):Prop :=
 (∃k:Nat,e = .returned (.int .i64 (k:Int))∧k<L.length∧(∀x∈L.take k,decide (x.dl<now)=false)∧(∀x,L[k]?=some x→decide (x.dl<now)=true)∧J L w') ∨
 (e = .returned (.int .i64 (-1))∧(∀x∈L,decide (x.dl<now)=false)∧J L w')
theorem zli(J:List Frm→World→Prop)(L:List Frm)(N g o cap b cb now:Nat)(a:Option Addr)(r:L.length=N)(hNb:N≤1099511627776)(s:0<N→a=some ⟨g,o,none⟩)(t:FrmJ J N g o b cb now)
  (w:World) (h0:J L w) :
  Calls prog 77 #[.slice a N cap,.func (.func 48) #[] #[.pointer (some ⟨cb,0,none⟩)]] w (IfPost J now L):=by
 have l:=zb t;have H0:=zb h0;have HA:=zb s;have m:=zb r;clear t h0 s r;go_enter func77,ntmps77;go_wp2_with fail
 go_loopw [8] (fun p wr=>∃k:Nat,k≤N∧p = .int .i64 (k:Int)∧Hid (J L wr∧∀x∈L.take k,decide (x.dl<now)=false)) (fun p _=>N-(intOf p).toNat)
 case atStart=>exact⟨0,Nat.zero_le _,rfl,zb ⟨H0.out,fun x c=>by simp at c⟩⟩
 case round =>
  obtain⟨k,hk,rfl,d⟩:=hrel;by_cases f:k<N
  ·obtain⟨x,c⟩:∃x,L[k]?=some x:=⟨L[k]'(by rw[m.out];exact f),List.getElem?_eq_getElem (by rw[m.out];exact f)⟩;obtain⟨hc0,hc1,hc2,hc3,hc4,hc5,hc6,hc7,hc8,hc9⟩:=zbX (l.out.rd L wr d.out.1 k x c);have q:=HA.out (by omega);subst q;have n:=zhP x (.slice none 0 0) b cb now wr (l.out.cb L wr d.out.1) (l.out.now L wr d.out.1);unfold zj at n;have u:=zb c;obtain⟨dv,h⟩:=nm (decide (x.dl<now));rw[h]at n;have i:=zb h;have v:=zb n;clear n c h;go_wp2_with fail;refine(v.out).mono ?_;rintro e w6 ⟨rfl,j⟩;have y:Hid (J L w6):=zb (by rw[j];exact l.out.box _ _ _ d.out.1 (((Mod.refl NoB wr).alloc _).drew));clear j v;cases dv with
   | true =>
    go_wp2_with fail;go_ret;exact .inl ⟨k,rfl,by rw[m.out];exact f,d.out.2,fun x c=>by rw[u.out]at c;cases c;exact i.out,y.out⟩
   | false =>
    go_wp2_with fail;go_roundw
    case rel =>
     refine⟨k+1,by omega,by go_num,zb ⟨y.out,fun x c=>?_⟩⟩;rw[List.take_add_one,u.out]at c;rcases List.mem_append.1 c with c|c
     ·exact d.out.2 x c
     ·simp at c;subst c;exact i.out
    case measure=>simp[intOf];omega
  ·have hk2:k=N:=by omega
   go_wp2_with fail;go_ret;exact .inr ⟨rfl,fun x c=>d.out.2 x (by rwa [List.take_of_length_le (by rw[m.out];omega)]),d.out.1⟩
end Go.Proofs.YtddfdpbaiedcjaaGreatDoor
