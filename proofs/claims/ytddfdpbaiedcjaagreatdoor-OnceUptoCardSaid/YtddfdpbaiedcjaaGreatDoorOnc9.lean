/- A part of Once's proof. Conditions: none. Part 9 of 15. -/
import Derived.Test.YtddfdpbaiedcjaaGreatDoorOnc8
import Derived.Shelf.RegionOpen
set_option maxRecDepth 100000
set_option maxHeartbeats 16000000
set_option linter.all false
namespace Go.Proofs.YtddfdpbaiedcjaaGreatDoor
section
open Go.RowKit Go.Proofs.Tryz Go.Shelf
attribute [local go_sem] Oper.semAt_some
def NE(Q:Exit->Act->World->Prop):Exit->Act->World->Prop:=λe a w=>e = .normal/\Q .normal a w
variable{P:Program}{Q:Exit->Act->World->Prop}{w:World}
def zD{c:Code}{a:Act}(h:c.wp P (NE Q) a w):c.wp P Q a w :=
 wp_mono h (λe a w k=>by rw[k.1];exact k.2)
def Lp(s:Dh)(b o:Nat)(v:Value)(w w':World)(v':Value):Prop :=
 w'.ownsRow 0 214 2 v' s.rs.length (zo s.rs)/\w'.heap[b]?=((w.setCell ⟨b,o,none⟩ v').setCell ⟨b,o+1,none⟩ (.int .u64 s.fl)).heap[b]?/\DW (λk=>k=b\/v.ownBlock=some k) w w'/\Dy w v v'
structure K6(s:Dh)(b o e0:Nat)(cs0:Array Value)(v:Value)(w:World)(db rb:Nat)(rec:Loop)(pre:zC)(v':Value)(X:World):Prop where
 own:X.ownsRow 0 214 2 v' (s.adds pre).rs.length (zo (s.adds pre).rs)
 ob:X.heap[b]?=some (.cells ((cs0.setIfInBounds o v').setIfInBounds (o+1) (.int .u64 ((s.adds pre).fl:Int))) e0 (0,0))
 m:DW (λk=>k=b\/v.ownBlock=some k) w X
 nw:Dy w v v'
 ok:(s.adds pre).Ok
 mo:(s.adds pre).most=s.most
 df:X.heap[db]?=some (.deferred (some []))
 rc:X.heap[rb]?=some (.loop rec)
variable{base e g sz:Nat}{v:Value}{xs:List Value}
def zY{n:Nat}(h:w.ownsRow base e sz v n xs)(hg:v.ownBlock=some g):∃cur,w.heap[g]?=some (.cells cur e (0,0)):=by
 rcases h.2 with⟨rfl,_⟩|⟨g',c,cur,rfl,_,h1,_⟩
 ·simp[Value.ownBlock]at hg
 ·simp[Value.ownBlock]at hg;subst hg;exact⟨cur,h1⟩
variable{b db o rb:Nat}
def K6.own_from{s:Dh}{e0:Nat}{d:Array Value}{B:Nat}{f:Loop}(hB:w.heap.size<=B)(hb:b<B)(hd:db<B)(hr:rb<B):OwnFrom B (λpre X=>∃v',K6 s b o e0 d v w db rb f pre v' X):=by
 rintro pre A C row ⟨v',h⟩ hg a;have c:∀k,k<B->some k≠row:=λk hk e=>by have:=(a k e.symm).1;omega
 have n:=(DW.refl _ _).grown hg (λk hk=>.inl hk);refine⟨v',n.owns h.own (λg j hx=>?_),(hg.block _ (AI.1 h.ob).1 (c _ hb)).trans h.ob,h.m.then n (λi hi=>.inr (by have:=(a i hi).1;omega)),h.nw,h.ok,h.mo,?_,?_⟩
 ·obtain⟨cur,hc⟩:=zY h.own j;obtain⟨_,ob,ho,l⟩:=a g hx;rw[ho]at hc;cases hc;cases l
 ·exact(hg.block _ (AI.1 h.df).1 (c _ hd)).trans h.df
 ·exact(hg.block _ (AI.1 h.rc).1 (c _ hr)).trans h.rc
def Yt(cs:Array Value)(o:Nat)(a x b y:Value):(((cs.setIfInBounds o a).setIfInBounds (o+1) x).setIfInBounds o b).setIfInBounds (o+1) y=(cs.setIfInBounds o b).setIfInBounds (o+1) y:=by
 apply Ce;intro i;simp only[BK,DB];by_cases h1:o+1=i
 ·simp[h1]
 ·by_cases h2:o=i
  ·simp[h1,h2]
  ·simp[h1,h2]
variable{X:World}{v':Value}
def K6.set{s:Dh}{e0:Nat}{a:Array Value}{c:Loop}{pre:zC}(h:K6 s b o e0 a v w db rb c pre v' X)(hz:o+2<a.size)(h2:a[o+2]?=some (.int .i64 s.most)):ET X b o v' (s.adds pre).rs (s.adds pre).fl (s.adds pre).most:=by
 refine⟨za h.ob ?_,za h.ob ?_,za h.ob ?_,h.own,by have:=h.ok.rl;have:=h.ok.most.2;omega,λj=>zf h.ob⟩
 ·simp[BK];omega
 ·simp[BK];omega
 ·simp[BK,h.mo];have:=h2;simpa using this
theorem UT:∀(l:zC) (lo hi:Nat) (t:Dh),(Ic l lo hi t).most=t.most
 | [],_,_,_=>rfl
 | r::l,lo,hi,t=>by
  unfold Ic;rw[UT l lo hi];split
  ·split
   ·rw[G8,G8]
   ·rw[G8]
  ·split
   ·rw[G8]
   ·rfl
theorem Pk:∀(l:zC) (t:Dh),(t.adds l).most=t.most
 | [],_=>rfl
 | r::l,t=>by
  have:t.adds (r::l)=(t.add r.1 r.2).adds l:=rfl;rw[this,Pk l,G8]
def Pj(t:Dh)(l:zC)(r:Nat×Nat):t.adds (l++[r])=(t.adds l).add r.1 r.2:=by
 simp[Dh.adds]
structure zx(tag:Nat->Nat×Nat)(i b:Nat)(W0:World)(V0:CV)(c:CS)(tag':Nat->Nat×Nat)(V':CV)(W':World):Prop where
 c:zg tag' i b c V' W'
 e:Dj i tag tag' W0 W'
 m:DW (Dp i tag) W0 W'
 p:0<i
 ft:V'.ft=V0.ft/\V'.fts=V0.fts
variable{V' V0:CV}{W' W'' W0:World}{c:CS}{i k:Nat}{tag tag':Nat->Nat×Nat}
def zx.sent{s:Dh}(h:zx tag i b W0 V0 c tag' V' W')(hk:k<8)(ha:Lp s b (9+15*k+1) (V'.ws k) W' W'' v')(hm:s.most=(c.ws k).sent.most):∃tag2 V2,zx tag i b W0 V0 { c with ws:=upd c.ws k { c.ws k with sent:=s } } tag2 V2 W''/\∀g,g<W'.heap.size->tag2 g=tag' g:=by
 obtain⟨f,l,d,u⟩:=ha;have v:=h.p;have n:∀{g r:Nat},tag' g=(i,r)->g<W'.heap.size:=λhg=>EQ h.e.z hg v
 have o:∀g,(tag' g).1=i->retag tag' W' W'' (i,20+k) g=tag' g:=λg hg=>zz (n (r:=(tag' g).2) (by rw[<-hg]))
 have w:∀g,(g=b\/(V'.ws k).ownBlock=some g)->∃r,(r=1\/r=20+k)/\tag' g=(i,r):=λg hg=>by
  rcases hg with hg|hg
  ·exact⟨1,.inl rfl,by rw[hg,h.c.tb]⟩
  ·exact⟨20+k,.inr rfl,h.c.tws k hk g hg⟩
 refine⟨retag tag' W' W'' (i,20+k),{ V' with ws:=upd V'.ws k v' },⟨?_,h.e.trans (Ib d.size) h.m.size,Ec h.e h.m (d.mono (λg hg=>.inl ?_)),v,h.ft⟩,λg hg=>zz hg⟩
 ·refine h.c.build (R:=λr=>r=1\/r=20+k) d w o ?_ (.inl ⟨rfl,rfl,rfl,by omega,by omega⟩) (λq t=>.inl ⟨?_,rfl,by omega⟩) (λq t=>?_) (λq t=>.inl ⟨?_,rfl,by omega⟩) (λq t=>.inl ⟨rfl,rfl,by omega⟩) (λq t=>.inl ⟨rfl,rfl,by omega⟩) (.inl ⟨rfl,rfl,rfl,by omega,by omega⟩) (.inl ⟨rfl,rfl,by omega⟩) (.inl ⟨rfl,rfl,by omega⟩) (.inl ⟨rfl,rfl,by omega⟩)
  ·rw[l,zc (zc h.c.obj)];simp only[Ap];have e1:=GY c c V' { V' with ws:=upd V'.ws k v' } (k:=k) (j:=1) v' hk (by decide) (λq _=>by
    by_cases a:q=k
    ·subst a;simp only[ze,A5];rfl
    ·simp only[zd _ _ a,AH a]) rfl rfl rfl
   rw[e1];have e2:=GY c { c with ws:=upd c.ws k { c.ws k with sent:=s } } { V' with ws:=upd V'.ws k v' } { V' with ws:=upd V'.ws k v' } (k:=k) (j:=2) (.int .u64 s.fl) hk (by decide) (λq _=>by
    by_cases a:q=k
    ·subst a;simp only[ze,A5,FZ,hm];rfl
    ·simp only[zd _ _ a,AH a]) rfl rfl rfl
   rw[show 9+15*k+1+1=9+15*k+2 from rfl,e2]
  ·by_cases a:q=k
   ·subst a;simp only[ze]
   ·simp only[zd _ _ a]
  ·by_cases a:q=k
   ·subst a;simp only[ze];refine .inr ⟨f,λg hg=>?_⟩;rcases u g hg with y|y
    ·rw[zz (n (h.c.tws q hk g y)),h.c.tws q hk g y]
    ·exact Fr y (zF f g hg)
   ·exact .inl ⟨by simp only[zd _ _ a],by simp only[zd _ _ a],by omega⟩
  ·by_cases a:q=k
   ·subst a;simp only[ze]
   ·simp only[zd _ _ a]
 ·obtain⟨r,hr,e⟩:=w g hg;exact EK e (by omega)
def zx.mod0(h:zx tag i b W0 V0 c tag' V' W')(m:DW DX W' W''):zx tag i b W0 V0 c tag' V' W'' :=
 ⟨h.c.mod0 m,⟨h.e.old,h.e.new,h.e.z.mod m⟩,h.m.trans (m.mono (λ_ x=>x.elim)),h.p,h.ft⟩
variable{S:Nat->Prop}
def zx.free(h:zx tag i b W0 V0 c tag' V' W')(m:DW S W' W'')(a:∀g,S g->tag' g=(0,0)/\W0.heap.size<=g):zx tag i b W0 V0 c tag' V' W'':=by
 have hp:=h.p;exact⟨h.c.mod m (λg hg=>by rw[(a g hg).1];simp;omega) (λ_ _=>rfl),⟨h.e.old,h.e.new,h.e.z.mod m⟩,h.m.then m (λg hg=>.inr (a g hg).2),h.p,h.ft⟩
variable{c':CS}
def zx.store(h:zx tag i b W0 V0 c tag' V' W')(j:Nat)(v:Value)(hc:(zt c V').set j v=zt c' V')(s:Id c c'):zx tag i b W0 V0 c' tag' V' (W'.setCell ⟨b,j,none⟩ v):=by
 have a:DW (λq=>q=b) W' (W'.setCell ⟨b,j,none⟩ v):=(DW.refl (λq=>q=b) _).setCell (p:=⟨b,j,none⟩) (.inl rfl) _;exact⟨h.c.store j v hc s,⟨h.e.old,h.e.new,h.e.z.mod a⟩,Ec h.e h.m (a.mono (λq hq=>.inl (EK (r:=1) (by rw[show q=b from hq];exact h.c.tb) (by decide)))),h.p,h.ft⟩
variable{y:WS}
def zx.storeW(h:zx tag i b W0 V0 { c with ws:=upd c.ws k y } tag' V' W')(hk:k<8)(j:Nat)(hj:j<15)(v:Value)(x:WS)(hx:FZ x (V'.wb k) (V'.ws k) (V'.wc k)=(FZ y (V'.wb k) (V'.ws k) (V'.wc k)).set j v)(h1:x.b=y.b)(h2:x.sent.rs=y.sent.rs)(h3:x.came.rs=y.came.rs):zx tag i b W0 V0 { c with ws:=upd c.ws k x } tag' V' (W'.setCell ⟨b,9+15*k+j,none⟩ v):=by
 have a:DW (λq=>q=b) W' (W'.setCell ⟨b,9+15*k+j,none⟩ v):=(DW.refl (λq=>q=b) _).setCell (p:=⟨b,_,none⟩) (.inl rfl) _;exact⟨h.c.storeW2 hk j hj v x hx h1 h2 h3,⟨h.e.old,h.e.new,h.e.z.mod a⟩,Ec h.e h.m (a.mono (λq hq=>.inl (EK (r:=1) (by rw[show q=b from hq];exact h.c.tb) (by decide)))),h.p,h.ft⟩
variable{j:Nat}
def iy{D:Nat}{o:Obj}(h:b≠D):(w.setCell ⟨b,j,none⟩ v).putObj D o=(w.putObj D o).setCell ⟨b,j,none⟩ v:=by
 simp only[World.setCell,World.putObj]
 congr 1
 apply Ce;intro q;simp only[CA,BK,Array.size_modify];by_cases h1:D=q
 ·subst h1;simp[h]
 ·by_cases h2:b=q
  ·subst h2;simp[h1]
  ·simp[h1,h2]
def Ia(tag:Nat->Nat×Nat)(i b:Nat)(W0:World)(V0:CV)(c:CS)(e:Ending)(W':World):Prop:=e = .returned (.tuple #[])/\∃tag' V',zx tag i b W0 V0 c tag' V' W'
structure K5(c:CS)(f:Db)(k:Nat):Prop where
 lt:k<8
 st:f.stream=(k:Int)
 sent:(c.ws k).sent.Ok
 came:(c.ws k).came.Ok
 end_:f.off+f.data.length<=zB
 dl:f.data.length<=1099511627776
variable{V:CV}{W:World}
def zg.cameAt(h:zg tag i b c V W)(hk:k<8)(hl:(c.ws k).came.rs.length<=1099511627776):ET W b (9+15*k+4) (V.wc k) (c.ws k).came.rs (c.ws k).came.fl (c.ws k).came.most :=
 ⟨h.w (j:=4) hk rfl,h.w (j:=5) hk rfl,h.w (j:=6) hk rfl,h.wc k hk,hl,λj=>h.fz j⟩
variable{tag0:Nat->Nat×Nat}
theorem fG(h:zx tag i b W0 V0 c tag0 V W)(f:Db)(rv:Value)(k:Nat)(ok:K5 c f k)(b4:f.kind=4)(b5:∃a n cap,rv = .slice a n cap):Calls prog 80 #[.pointer (some ⟨b,0,none⟩),.agg (zh f rv)] W (Ia tag i b W0 V0 { c with ws:=upd c.ws k ((c.ws k).again f) }):=by
 have hk:=ok.lt;have bh:=ok.st;obtain⟨ra,rn,aL,rfl⟩:=b5;obtain⟨x,hx⟩:=nm (c.ws k);rw[hx];have HX:=zb hx;obtain⟨fr,b6⟩:=nm (Value.slice ra rn aL);have b7:=ok;have Q:=zb ok;have HH:=zb h;obtain⟨off,ab⟩:=nm f.off;obtain⟨DL,az⟩:=nm f.data.length;have b1:=ok.end_;have b2:=ok.dl;rw[ab,az]at b1;rw[az]at b2;unfold zB at b1;have b8:=zb ab;have bi:=zb az;have d0:(0:Int)<=k:=by omega
 have d8:(k:Int)<8:=by omega
 obtain⟨W1,aj⟩:=nm (W.alloc (.cells (zh f (.slice ra rn aL)) 65));have m1:=AB aj
 have aA:zj W1 W.heap.size f (.slice ra rn aL):=by rw[<-aj];exact heap_alloc_new W _
 have R:=AC aj
 obtain⟨fb,bj⟩:=nm W.heap.size;rw[bj]at aA R;have HF1:=zb aA;have b9:=zb aj;have ak:=zb bj;have M1:=zb m1;have bk:=zb R;obtain⟨y0,y1,y2,y3,y4,y5,y6,y7,y8,y9⟩:=aA.cells;rw[b4]at y0;rw[bh]at y1;rw[ab]at y2;clear h ok hx b6 ab az m1 aA R aj b7 bh;refine(callsIn_wide (n:=8)).1 ?_;refine callsIn_of_wp_marks func80 rfl trivial ?_ rfl;simp only[ntmps80,Al,AQ,AX,Nat.reduceAdd,Nat.reduceSub,A8,A7,BG,BB,Am,BI];refine wpIn_wide.2 ?_;go_upto_region 1 with fail;rw[b9.z];have R:=bk.z;obtain⟨F,aB⟩:=nm ((W1.alloc (.cells #[.pointer (some ⟨b,9+k*15,none⟩)] 225)).drew);have HW3:=zb aB;go_upto_region 3 with fail
 go_cut [4]from 12 to 112 (λpv wx=>pv = .pointer (some ⟨fb+1,0,none⟩)/\wx=F)
 case first =>
  refine zD ?_;refine zl 7 (λw'=>w'.cell? ⟨fb,1,none⟩=some (.int .i64 k)) (y1) ?_;refine GI 0 ?_;iterate 6
   refine GV rfl ?_;try simp only[PS]
  refine zw 6 rfl (λK hK=>?_);go_simp;have ca:=λo=>((DW.refl DX W1.drew).alloc o).cell (a:=⟨fb,1,none⟩) id y1
  refine hK.z _ _ (ca _) ?_;clear hK K;try simp only[PS]
  refine zU rfl (λK hK=>?_);have hnb:∀u,((W1.drew.alloc (.cells #[.pointer none] 225)).cell? ⟨fb+1,0,none⟩=some (.pointer none))/\(W1.drew.alloc (.cells #[.pointer none] 225)).frozen? ⟨fb+1,0,none⟩=u->True:=λ_ _=>trivial
  have bm:(W1.drew.alloc (.cells #[.pointer none] 225)).heap[fb+1]?=some (.cells #[.pointer none] 225 (0,0)):=by
   rw[<-R];exact heap_alloc_new W1.drew _
  have z1:=za (o:=0) bm rfl;have z2:∀p,(W1.drew.alloc (.cells #[.pointer none] 225)).frozen? ⟨fb+1,p,none⟩=false:=λp=>zf bm
  go_simp;refine hK.z _ _ ?_;clear hK K;try simp only[PS]
  refine zn ?_;refine⟨rfl,?_⟩;go_wp2_with fail;go_meet;exact⟨rfl,rfl⟩
 case rest =>
 obtain⟨rfl,hw⟩:=hcut;have hw:=hw.symm;subst hw;have ae:DW DX W1 F:=by rw[<-aB];exact((DW.refl _ _).alloc _).drew
 have bn:F.heap.size=fb+2:=by rw[<-aB];simp[World.drew,bk.z]
 have bo:F.cell? ⟨fb+1,0,none⟩=some (.pointer (some ⟨b,9+k*15,none⟩)):=by
  rw[<-aB];have:=heap_alloc_new W1 (.cells #[.pointer (some ⟨b,9+k*15,none⟩)] 225);rw[R]at this;exact za (o:=0) this rfl
 have z2:=ae.cell (a:=⟨fb,2,none⟩) id y2;have z5:=ae.cell (a:=⟨fb,5,none⟩) id y5;have z8:=ae.cell (a:=⟨fb,8,none⟩) id y8;have M:=zb (HH.z.mod0 (M1.z.trans ae));have M3:=zb (M1.z.trans ae);have cc:(zq f.data).size=DL:=by rw[zE];exact bi.z
 have aC:=fY x.sent b (9+15*k+1) off (off+DL) (V.ws k) F.drew (by
  rw[<-HX.z];exact(M.z.mod0 (DW.refl DX F).drew).c.sentAt hk (by have:=Q.z.sent.rl;have:=Q.z.sent.most.2;omega)) (by rw[<-HX.z];exact Q.z.sent) (by unfold zB;omega) (by unfold zB;omega)
 rw[AK 15 k]at aC;have bp:((off+DL:Nat):Int)=(off:Int)+DL:=by omega
 rw[bp]at aC;have cd:=zb aC;have w1:F.cell? ⟨b,9+k*15+1,none⟩=some (V.ws k):=by rw[AK k 15];exact M.z.c.w (j:=1) hk rfl
 have w2:F.cell? ⟨b,9+k*15+2,none⟩=some (.int .u64 ((c.ws k).sent.fl:Int)):=by rw[AK k 15];exact M.z.c.w (j:=2) hk rfl
 have w3:F.cell? ⟨b,9+k*15+3,none⟩=some (.int .i64 ((c.ws k).sent.most:Int)):=by rw[AK k 15];exact M.z.c.w (j:=3) hk rfl
 have ce:IntKind.u64.wrap (DL:Int)=(DL:Int):=by rw[IntKind.wrap_u64];omega
 have ci:=wu ((off:Int)+DL) (by omega);have aM:=zb bo;have aN:=zb bn;have bq:=zb (And.intro w1 (And.intro w2 w3));clear ae y1 y2 y3 y4 y5 y6 y7 y8 y9 aC bn R bp w1 w2 w3;go_upto_region 4 with fail
 go_cut []from 12 to 112 (λwx=>∃(L:Nat->Nat×Nat) (G:CV),AA (zx tag i b W0 V0 { c with ws:=upd c.ws k { c.ws k with sent:=x.sent.without off (off+DL) } } L G wx)/\AA ((∀g,g<F.heap.size->L g=tag0 g)/\DW (λg=>g=b) F wx/\(x.sent.without off (off+DL)).Ok/\(x.sent.without off (off+DL)).most=(c.ws k).sent.most))
 case first =>
  refine zD ?_;refine zl 16 (λw'=>w'.cell? ⟨fb+1,0,none⟩=some (.pointer (some ⟨b,9+k*15,none⟩))/\w'.cell? ⟨fb,2,none⟩=some (.int .u64 off)/\w'.cell? ⟨fb,8,none⟩=some (.string (zq f.data))) (⟨bo,z2,z8⟩) ?_;refine GI 0 ?_;iterate 13
   refine GV rfl ?_;try simp only[PS]
  refine zw 13 rfl (λK hK=>?_);go_simp;refine cd.z.mono ?_;rintro e W4 ⟨v4,rfl,aO,aP,m4⟩;obtain⟨aQ,aR,cj,_⟩:=zi aO;have M4:=zb m4;have mm:=(DW.refl DX F).drew.trans m4;refine hK.z _ _ ⟨mm.cell (a:=⟨fb+1,0,none⟩) id aM.z,mm.cell (a:=⟨fb,2,none⟩) id z2,mm.cell (a:=⟨fb,8,none⟩) id z8⟩ ?_;clear hK K;try simp only[PS]
  refine GI 14 ?_;iterate 2
   refine GV rfl ?_;try simp only[PS]
  refine zU rfl (λK hK=>?_);have mm:=(DW.refl DX F).drew.trans M4.z;obtain⟨w1,w2,w3⟩:=bq.z;have q1:=mm.cell (a:=⟨b,_,none⟩) id w1;have q2:=mm.cell (a:=⟨b,_,none⟩) id w2;have q3:=mm.cell (a:=⟨b,_,none⟩) id w3;have qf:∀p,W4.frozen? ⟨b,p,none⟩=false:=λp=>zf (mm.obj (λx=>x) M.z.c.obj)
  have qf2:∀p v p',(W4.setCell ⟨b,p,none⟩ v).frozen? ⟨b,p',none⟩=false:=λp v p'=>zf (zc (mm.obj (λx=>x) M.z.c.obj))
  have qf3:∀p v p2 v2 p',((W4.setCell ⟨b,p,none⟩ v).setCell ⟨b,p2,none⟩ v2).frozen? ⟨b,p',none⟩=false:=λp v p2 v2 p'=>zf (zc (zc (mm.obj (λx=>x) M.z.c.obj)))
  subst cj;clear w1 w2 w3 mm;go_simp;refine hK.z _ _ ?_;clear hK K;try simp only[PS]
  refine zn ?_;have hb3:=zk bq.z.1;have ac:(x.sent.without off (off+DL)).most=(c.ws k).sent.most:=by rw[HX.z];exact UT _ _ _ _
  obtain⟨s1,E⟩:=nm (x.sent.without off (off+DL));rw[E]at aO aP ac ⊢;have al:=zb E;have aS:s1.Ok:=by
   rw[<-E];exact P9 _ _ _ _ (λr hr=>by
    obtain⟨j,l⟩:=Cu hr;have aT:=(AM.1 l).1;have e:=LH aT;rw[l]at e;cases e;rw[<-HX.z]at aT ⊢;exact Q.z.sent.hi j aT) (I2 _ (by rw[<-HX.z];exact Q.z.sent.most))
  obtain⟨H,am⟩:=nm ((((W4.setCell ⟨b,9+k*15+1,none⟩ (.slice aQ s1.rs.length aR)).setCell ⟨b,9+k*15+1+1,none⟩ (.int .u64 s1.fl)).setCell ⟨b,9+k*15+1+2,none⟩ (.int .i64 s1.most)));have aU:DW (λg=>g=b) W4 H:=by
   rw[<-am];exact(((DW.refl (λg=>g=b) W4).setCell (p:=⟨b,_,none⟩) (.inl rfl) _).setCell (p:=⟨b,_,none⟩) (.inl rfl) _).setCell (p:=⟨b,_,none⟩) (.inl rfl) _
  have aV:=M4.z;have N:Lp s1 b (9+15*k+1) (V.ws k) F.drew H (.slice aQ s1.rs.length aR):=by
   refine⟨aU.owns aO (λg hg x=>?_),?_,(aV.mono (λ_ x=>x.elim)).trans (aU.mono (λg hg=>.inl (.inl hg))),λg hg=>.inr (aP g hg)⟩
   ·have:=aP g hg;have x:=x;have e:F.drew.heap.size=F.heap.size:=rfl;omega
   ·have o3:F.drew.heap[b]?=some (.cells (zt c V).toArray 127 (0,0)):=M.z.c.obj;have o4:=aV.obj (λx=>x) o3;have ep:9+k*15+1=9+15*k+1:=by omega
    rw[<-am,ep];have ck:((W4.setCell ⟨b,9+15*k+1,none⟩ (.slice aQ s1.rs.length aR)).setCell ⟨b,9+15*k+1+1,none⟩ (.int .u64 s1.fl)).cell? ⟨b,9+15*k+1+2,none⟩=some (.int .i64 s1.most):=by
     refine za (zc (zc o4)) ?_;have h3:(zt c V)[9+15*k+3]?=some (.int .i64 ((c.ws k).sent.most:Int)):=LJ c V hk rfl;rw[Cm (by omega),Cm (by omega),BS,h3,ac]
    rw[MO ck,zc (zc o4),zc (zc o3)]
  obtain⟨L,G,R5,co⟩:=(M.z.mod0 (DW.refl DX F).drew).sent hk N ac;have e:AA ((∀g,g<F.heap.size->L g=tag0 g)/\DW (λg=>g=b) F H/\s1.Ok/\s1.most=(c.ws k).sent.most):=zb ⟨co,(((DW.refl DX F).drew.trans aV).mono (λ_ x=>x.elim)).trans aU,aS,ac⟩;have T:=zb R5;clear R5;rw[am];refine⟨rfl,?_⟩;go_wp2_with fail;go_meet;rw[al.z];exact⟨L,G,T,e⟩
 case rest =>
 obtain⟨L,G,T,U⟩:=hcut;obtain⟨H,am⟩:=nn wc;subst am;obtain⟨s1,E⟩:=nm (x.sent.without off (off+DL));rw[E]at T U;have al:=zb E;have hbf:=zk (HH.z.c.hd (j:=0) rfl);have cp:H.cell? ⟨fb+1,0,none⟩=some (.pointer (some ⟨b,9+k*15,none⟩))/\H.cell? ⟨fb,5,none⟩=some (.bool f.fin):=by
  have e:=ak.z;exact⟨U.z.2.1.cell (a:=⟨fb+1,0,none⟩) (λx=>by have x:fb+1=b:=x;omega) aM.z,U.z.2.1.cell (a:=⟨fb,5,none⟩) (λx=>by have x:fb=b:=x;omega) z5⟩
 have cL:fb+2<=H.heap.size:=by
  have:=aN.z;have h1:=U.z.2.1.size;omega
 clear E z2 z5 z8 y0 ce ci cc aM;have hbw:=zk (T.z.c.hd (j:=0) rfl);obtain⟨bt,cq⟩:=cp;go_upto_region 5 with fail;go_wp2_with (go_at_call 141;refine((callsIn_wide (n:=8)).1 (XC Fence.wide 8 trivial rfl b (9+k*15+4) H)).mono ?_;rintro e w6 ⟨rfl,rfl⟩);obtain⟨sB,aW⟩:=nm H.heap.size;have hbs:b<sB:=by omega
 obtain⟨W6,af⟩:=nm (H.alloc (.cells #[.pointer (some ⟨b,9+k*15+4,none⟩)] 114));have bu:=af;have m6:=AB af
 have an:W6.heap.size=sB+1:=by rw[<-af];simp[aW]
 have cv:W6.cell? ⟨sB,0,none⟩=some (.pointer (some ⟨b,9+k*15+4,none⟩)):=by
  rw[<-af,<-aW];exact za (heap_alloc_new H _) rfl
 try rw[af]
 try rw[aW]
 refine(wpIn_wide (n:=8)).1 ?_;refine UO rfl (by decide) (gf:=193) (lb:=#[.pointer (some ⟨sB,0,none⟩)]) rfl trivial (enters_of func193 (by kernel_rfl) rfl) ?_;intro fn hf;generalize hrec:Loop.mk .ready none fn _ _ _ _ _=rec;rw[an]at hrec ⊢;obtain⟨D,hD⟩:=nm (sB+1);rw[hD]at hrec an ⊢;obtain⟨W7,ah⟩:=nm ((W6.alloc (.deferred (some []))).alloc (.loop rec));have bv:DW DX W6 W7:=by rw[<-ah];exact((DW.refl _ _).alloc _).alloc _
 have hs7:W7.heap.size=D+2:=by rw[<-ah];simp[an]
 have cw:W7.heap[D]?=some (.deferred (some [])):=by
  rw[<-ah,<-an];exact(Below.heap_alloc _ _ _ (by simp)).trans (World.alloc_heap_new W6 _)
 have cx:W7.heap[D+1]?=some (.loop rec):=by
  rw[<-ah];have:=World.alloc_heap_new (W6.alloc (.deferred (some []))) (.loop rec);rw[World.size_alloc,an]at this;exact this
 rw[ah];have Z:=m6.trans bv;have C5:=T.z.c;obtain⟨c5,aX⟩:∃c5:CS,{ c with ws:=upd c.ws k { c.ws k with sent:=s1 } }=c5:=⟨_,rfl⟩;rw[aX]at T C5;have ao:c5.ws k={ x with sent:=s1 }:=by rw[<-aX,<-HX.z];simp[ze]
 obtain⟨rs,ai⟩:=nm x.came.rs;have s:=C5.wc k hk;rw[ao]at s;have s:H.ownsRow 0 214 2 (G.wc k) rs.length (zo rs):=by rw[<-ai];exact s
 obtain⟨a5,ap,aD,_⟩:=zi s;rw[aD]at s;have aq:∀j,(λr:Nat×Nat=>r.1<=zB/\r.2<=zB) (Da rs j,DY rs j):=λj=>by
  by_cases l:j<rs.length
  ·have h1:=Q.z.came.hi j (by rw[HX.z,ai];exact l);have h2:=Q.z.came.wf.1 j (by rw[HX.z,ai];exact l);rw[HX.z,ai]at h1 h2;exact⟨by show Da rs j<=zB;omega,h1⟩
  ·have:Da rs j=0/\DY rs j=0:=by
    unfold Da DY;rw[Ai,Bo (by omega)];exact⟨rfl,rfl⟩
   rw[this.1,this.2];exact⟨AL _,AL _⟩
 have bw:∀j,j<rs.length->Da rs j<18446744073709551616/\DY rs j<18446744073709551616:=λj _=>by
  have:=aq j;unfold zB at this;omega
 have I:∃I,I=(zt c5 G).toArray:=⟨_,rfl⟩;obtain⟨I,O⟩:=I;have bz:H.heap[b]?=some (.cells I 127 (0,0)):=by rw[O];exact C5.obj
 have g0:I[9+k*15+1]?=some (G.ws k):=by rw[O,BS,AK k 15];exact LJ c5 G (j:=1) hk rfl
 have g1:I[9+k*15+1+1]?=some (.int .u64 s1.fl):=by rw[O,BS,AK k 15];have:=LJ c5 G (k:=k) (j:=2) (v:=.int .u64 ((c5.ws k).sent.fl:Int)) hk rfl;rw[ao]at this;exact this
 have g2:I[9+k*15+1+2]?=some (.int .i64 s1.most):=by rw[O,BS,AK k 15];have:=LJ c5 G (k:=k) (j:=3) (v:=.int .i64 ((c5.ws k).sent.most:Int)) hk rfl;rw[ao]at this;exact this
 have hz:=(AI.1 g2).1;have owns:H.ownsRow 0 214 2 (G.ws k) s1.rs.length (zo s1.rs):=by
  have:=C5.ws k hk;rw[ao]at this;exact this
 have j0:K6 s1 b (9+k*15+1) 127 I (G.ws k) H D (D+1) rec [] (G.ws k) W7:=by
  refine⟨Z.owns owns (λ_ _ x=>x),?_,Z.mono (λ_ x=>x.elim),λg hg=>.inl hg,U.z.2.2.1,rfl,cw,cx⟩;rw[Z.obj (λx=>x) bz]
  congr 2
  apply Ce;intro j;simp only[BK,DB];by_cases q1:9+k*15+1+1=j
  ·subst q1;rw[AN rfl,AN (by omega),g1];rfl
  ·rw[AH q1];by_cases q2:9+k*15+1=j
   ·subst q2;rw[AN rfl,AN (by omega),g0]
   ·rw[AH q2]
 have aY:=A0 Loop.assign hrec.symm;dsimp only at aY;have aZ:=A0 Loop.body hrec.symm;dsimp only at aZ;have a0:=A0 Loop.tmps hrec.symm;dsimp only at a0;have bA:rec.params=#[38]:=by rw[<-hrec]
 have aI:rec.state = .ready:=by rw[<-hrec]
 have bB:rec.pending=none:=by rw[<-hrec]
 have bC:=zb bB;have cy:=zb aY;have cz:=zb aZ;have cA:=zb a0;have bD:=zb bA;have a1:=zb aI;have cB:=bv.cell (a:=⟨sB,0,none⟩) id cv;have cC:W7.cell? ⟨b,9+k*15+4,none⟩=some (.slice a5 rs.length ap):=by
  have h1:H.cell? ⟨b,9+k*15+4,none⟩=some (G.wc k):=by rw[AK k 15];exact C5.w (j:=4) hk rfl
  rw[aD]at h1;have:=Z.cell (a:=⟨b,_,none⟩) id h1;have e:x.came.rs.length=rs.length:=by rw[ai]
  simpa [e]using this
 have cD:RR W7 (.slice a5 rs.length ap) rs:=by
  have:=FG.rr (rs:=rs) ⟨s,bw⟩;exact this.mod Z (Dl.no _)
 have twc:∀g o,a5=some ⟨g,o,none⟩->g<W7.heap.size/\g≠b/\g≠D+1:=λg o e=>by
  have a2:(G.wc k).ownBlock=some g:=by rw[aD,e];rfl
  have h1:=C5.twc k hk g a2;have h2:=zF s g (by rw[e];rfl);refine⟨by have:=Z.size;omega,λx=>?_,by omega⟩;rw[x,C5.tb]at h1;simp at h1;omega
 have bE:∀g o,a5=some ⟨g,o,none⟩->g<H.heap.size:=λg o e=>zF s g (by rw[e];rfl)
 have bF:∀g o,a5=some ⟨g,o,none⟩->(G.ws k).ownBlock≠some g:=λg o e x=>by
  have a2:(G.wc k).ownBlock=some g:=by rw[aD,e];rfl
  have h1:=C5.twc k hk g a2;have h2:=C5.tws k hk g x;rw[h1]at h2;simp at h2
 clear hrec aY aZ a0 bA aI bB af bu ah O;refine(Yu Fence.wide 7 (λ_=>trivial) rfl (by decide) (D+1) sB b (9+k*15+4) b ap a5 (λr=>r.1<=zB/\r.2<=zB) rs aq
  (λpre X=>∃v',K6 s1 b (9+k*15+1) 127 I (G.ws k) H D (D+1) rec (pre.map (·.1)) v' X) (λ_ _=>False) W7 ?hY ?hJ ?hJx cB cC cD (by omega) (by omega) twc ⟨_,j0⟩).mono ?post
 case hJ =>
  intro pre A Y row hh hg hr;exact K6.own_from (B:=W7.heap.size) (by have:=Z.size;omega) (by omega) (by omega) (by omega) (pre.map (·.1)) A Y row hh hg hr
 case hJx=>intro _ _ _ _ x;exact x.elim
 case hY =>
  rintro pre y X ⟨v,l⟩ hlt;have d:=zb l;have cE:=(AI.1 l.rc).1;refine⟨_,_,_,_,run_yield l.rc (by rw[bD.z];rfl),roundIn_of_wpIn trivial ?_⟩;rw[cy.z,cz.z,cA.z,bD.z];unfold K9;clear l;gi_wp2;have a3:(X.alloc (.cells #[.int .u64 y.1.1,.int .u64 y.1.2] 214)).heap[D+1]?=some (.loop rec):=(Below.heap_alloc _ _ _ cE).trans d.z.rc;refine⟨_,run_beginRound a3 a1.z,?_⟩;obtain⟨p0,a4⟩:=nm y.1.1;obtain⟨p1,a6⟩:=nm y.1.2;have aE:=y.2;simp only at aE;rw[a4,a6]at aE;rw[a4,a6]at a3 ⊢;obtain⟨C,J⟩:∃C,(X.alloc (.cells #[.int .u64 p0,.int .u64 p1] 214)).putObj (D+1) (.loop { rec with state:=.busy })=C:=⟨_,rfl⟩;have ar:DW (λq=>q=D+1) X C:=by
   rw[<-J];exact((DW.refl (λq=>q=D+1) X).alloc _).putObj (.inl rfl) _
  have bG:C.heap[D+1]?=some (.loop { rec with state:=.busy }):=by
   rw[<-J];exact World.putObj_heap_same (by simp;omega)
  have a7:C.heap[X.heap.size]?=some (.cells #[.int .u64 p0,.int .u64 p1] 214 (0,0)):=by
   rw[<-J];exact(World.putObj_heap_other (by omega)).trans (heap_alloc_new X _)
  have bH:C.heap[D]?=some (.deferred (some [])):=by
   rw[<-J];exact(World.putObj_heap_other (by omega)).trans ((Below.heap_alloc _ _ _ (by omega)).trans d.z.df)
  have bI:v.ownBlock≠some b:=λe=>by
   obtain⟨aa,hc⟩:=zY d.z.own e;rw[d.z.ob]at hc;simp at hc
  have ad:v.ownBlock≠some (D+1):=λe=>by
   obtain⟨aa,hc⟩:=zY d.z.own e;rw[d.z.rc]at hc;cases hc
  have au:v.ownBlock≠some D:=λe=>by
   obtain⟨aa,hc⟩:=zY d.z.own e;rw[d.z.df]at hc;cases hc
  have aJ:=(d.z.set hz g2).mod ar (by omega) (λg hg e=>ad (by rw[hg,show g=D+1 from e]));have bJ:=ar.obj (k:=b) (by omega) d.z.ob;rw[J];have a8:=d.z.ok;have bK:=a8.most;unfold zB at aE;have ka:=Jo (s1.adds (pre.map (·.1))) b (9+k*15+1) p0 p1 v C.drew (aJ.mod (DW.refl DX C).drew (λx=>x) (λ_ _ x=>x)) a8.wf (by omega) (by omega) (Nat.lt_of_le_of_lt a8.fl (by unfold zB;decide)) bI bK.1 (AO bK.2 (by decide));have KA:=zb ka;have u0:C.cell? ⟨X.heap.size,0,none⟩=some (.int .u64 p0):=za a7 rfl;have u1:C.cell? ⟨X.heap.size,1,none⟩=some (.int .u64 p1):=za a7 rfl;have bL:C.cell? ⟨fb+1,0,none⟩=some (.pointer (some ⟨b,9+k*15,none⟩)):=by
   have h1:=d.z.m.cell (a:=⟨fb+1,0,none⟩) (λq=>by
    rcases q with q|q
    ·have q:fb+1=b:=q;have:=ak.z;omega
    ·have h3:=C5.tws k hk (fb+1) q;have h4:=U.z.1 (fb+1) (by rw[aN.z];omega);rw[h4,HH.z.e.z (fb+1) (by rw[ak.z];omega)]at h3;have h5:=A0 Prod.snd h3;simp only at h5;omega) bt
   exact ar.cell (a:=⟨fb+1,0,none⟩) (by show ¬fb+1=D+1;omega) h1
  have bM:=zb bJ;have bN:=zb bG;have cF:=zb bH;have bO:=zb ar;have hmo:(prog).follows Departure.mixedOrders=true:=by kernel_rfl
  have av:Fence.wide.fn 88:=trivial;clear aJ bJ a3 a7 J ka bG bH ar;gi_wp2;refine XA 7 (λw'=>w'.cell? ⟨X.heap.size,0,none⟩=some (.int .u64 p0)/\w'.cell? ⟨X.heap.size,1,none⟩=some (.int .u64 p1)/\w'.cell? ⟨fb+1,0,none⟩=some (.pointer (some ⟨b,9+k*15,none⟩))) (by kernel_rfl) (by kernel_rfl) (by kernel_rfl) (⟨u0,u1,bL⟩) ?_;refine GI 0 ?_;iterate 7
   refine GV rfl ?_;try simp only[PS]
  refine zU rfl (λK hK=>?_);go_simp
  with_reducible refine(KA.z).mono ?_
  rintro e X3 ⟨v3,rfl,bP,bQ,bR,bS⟩;have bT:=zb bP;have cG:=zb bQ;have a9:=zb bR;have cH:=zb bS;clear bP bQ bR bS;go_simp;refine hK.z _ _ ?_;clear hK K;try simp only[PS]
  refine zn ?_;refine⟨rfl,?_⟩;gi_wp2;have cM:=(AI.1 bN.z).1;have bU:∀q,q=D\/q=D+1->¬(q=b\/v.ownBlock=some q):=λq t x=>by
   rcases t with rfl|rfl
   ·rcases x with x|x
    ·omega
    ·exact au x
   ·rcases x with x|x
    ·omega
    ·exact ad x
  have ba:=a9.z.obj (bU _ (.inr rfl)) bN.z;have cI:=a9.z.obj (bU _ (.inl rfl)) cF.z;have bV:=(AI.1 ba).1;have cJ:DW (λq=>q=D+1\/q=b\/v.ownBlock=some q) X X3:=by
   refine(bO.z.mono (λq t=>.inl (.inl t))).trans ((DW.refl _ C).drew.trans (a9.z.mono (λq t=>.inl (.inr t))))
  have bW:=λr=>cJ.putObj (.inl (.inl rfl)) r
  have bb:∀q,v.ownBlock=some q->(G.ws k).ownBlock=some q\/H.heap.size<=q:=d.z.nw;refine⟨_,_,run_endRound none ba,(bW _).mono (λq t=>.inl ?_),rfl,v3,?_⟩
  ·rcases t with t|t|t
   ·exact .inr (.inl t)
   ·exact .inl t
   ·refine .inr (.inr ⟨λg o e y=>?_,?_⟩)
    ·subst y;rcases bb _ t with y|y
     ·exact bF _ _ e y
     ·have:=bE _ _ e;omega
    ·obtain⟨aa,hc⟩:=zY d.z.own t;exact⟨_,_,hc⟩
  ·have aF:pre.map (·.1)++[y.1]=pre.map (·.1)++[(p0,p1)]:=by
    rw[<-a4,<-a6]
   have bX:v3.ownBlock≠some (D+1):=λe=>by
    obtain⟨aa,hc⟩:=zY bT.z e;rw[ba]at hc;cases hc
   have mp:=λr=>(DW.refl (λq=>q=D+1) X3).putObj (.inl rfl) r
   have cN:=d.z.m.size;refine⟨?_,?_,?_,?_,?_,?_,?_,?_⟩
   ·rw[aF,Pj];exact(mp _).owns bT.z (λg hg e=>bX (by rw[hg,show g=D+1 from e]))
   ·rw[aF,Pj,World.putObj_heap_other (by omega),cG.z,zc (zc (show C.drew.heap[b]?=_ from bM.z)),Yt]
   ·refine d.z.m.then (bW _) (λq t=>?_);rcases t with t|t|t
    ·exact .inr (by omega)
    ·exact .inl (.inl t)
    ·rcases bb q t with z|z
     ·exact .inl (.inr z)
     ·exact .inr z
   ·intro g hg;rcases cH.z g hg with z|z
    ·exact bb g z
    ·refine .inr ?_;have h1:=bO.z.size;have h2:C.drew.heap.size=C.heap.size:=rfl;omega
   ·rw[aF,Pj];exact d.z.ok.add _ aE.2
   ·rw[aF,Pk]
   ·exact(World.putObj_heap_other (by omega)).trans cI
   ·rw[World.putObj_heap_same bV];have bY:=bC.z;have bZ:=a1.z;cases rec;simp only at bY bZ;subst bY;subst bZ;rfl
 case post =>
  rintro e X ⟨⟨v0,rfl⟩,⟨v,l⟩|⟨q,t,hx⟩⟩;rotate_left
  ·exact hx.elim
  have aw:=run_endLoop (P:=prog) l.rc (by rw[a1.z];simp);rw[bC.z]at aw;refine⟨none,_,aw,?_⟩;clear aw;have ax:((FJ (λr:Nat×Nat=>r.1<=zB/\r.2<=zB) rs aq rs.length).map GZ.rr).map (·.1)=rs.reverse:=by
   have h1:((FJ (λr:Nat×Nat=>r.1<=zB/\r.2<=zB) rs aq rs.length).map GZ.rr).map (·.1)=((FJ (λr:Nat×Nat=>r.1<=zB/\r.2<=zB) rs aq rs.length).map (·.1)).map (·.2):=by
    rw[CY,CY];rfl
   rw[h1,fg,T1 rs rs.length (AG _),AW (by simp)]
  rw[ax]at l;obtain⟨C,J⟩:∃C,X.putObj (D+1) (.loop { rec with state:=.exhausted,pending:=none })=C:=⟨_,rfl⟩;have hm:DW (λq=>q=D+1) X C:=by rw[<-J];exact(DW.refl (λq=>q=D+1) _).putObj (.inl rfl) _
  have hd:=hm.obj (by simp) l.df;have bI:v.ownBlock≠some b:=λe=>by
   obtain⟨aa,hc⟩:=zY l.own e;rw[l.ob]at hc;simp at hc
  have ad:v.ownBlock≠some (D+1):=λe=>by
   obtain⟨aa,hc⟩:=zY l.own e;rw[l.rc]at hc;cases hc
  have au:v.ownBlock≠some D:=λe=>by
   obtain⟨aa,hc⟩:=zY l.own e;rw[l.df]at hc;cases hc
  obtain⟨Y,hY⟩:=nm (C.putObj D (.deferred none));have mY:DW (λq=>q=D\/q=D+1) X Y:=by
   rw[<-hY];exact(hm.mono (λq t=>.inl (.inr t))).putObj (.inl (.inl rfl)) _
  have N:Lp (s1.adds rs.reverse) b (9+15*k+1) (G.ws k) H Y v:=by
   have ep:9+k*15+1=9+15*k+1:=by omega
   rw[<-ep];refine⟨mY.owns l.own (λg hg e=>?_),?_,l.m.then mY (λq t=>.inr (by omega)),l.nw⟩
   ·rcases e with e|e
    ·exact au (by rw[hg,e])
    ·exact ad (by rw[hg,e])
   ·exact(mY.block b (AI.1 l.ob).1 (by omega)).trans (l.ob.trans (zc (zc bz)).symm)
  obtain⟨aK,V6,R6,ht6⟩:=T.z.sent hk N (by rw[Pk,ao]);have b0:({ c5 with ws:=upd c5.ws k { c5.ws k with sent:=s1.adds rs.reverse } }:CS)={ c with ws:=upd c.ws k { x with sent:=s1.adds rs.reverse } }:=by
   rw[<-aX];simp only[ze];rw[Jn,HX.z]
  rw[b0]at R6;have ay:(x.sent.without f.off (f.off+f.data.length)).adds x.came.rs.reverse=s1.adds rs.reverse:=by
   rw[ai,b8.z,bi.z,al.z]
  have bc:C.heap[b]?=some (.cells (zt { c with ws:=upd c.ws k { x with sent:=s1.adds rs.reverse } } V6).toArray 127 (0,0)):=by
   rw[<-R6.c.obj,<-hY,World.putObj_heap_other (by omega)]
  have fe:=za (o:=9+k*15+9) bc (by
   rw[BS,AK k 15];exact LJ { c with ws:=upd c.ws k { x with sent:=s1.adds rs.reverse } } V6 (k:=k) (j:=9) (v:=.bool x.ending) hk (by simp[ze,FZ]))
  have fz:∀j,C.frozen? ⟨b,j,none⟩=false:=λj=>zf bc
  have bd:∀q,q=fb\/q=fb+1->¬(q=b\/(G.ws k).ownBlock=some q):=λq t x=>by
   have cO:=ak.z;rcases x with x|x
   ·omega
   ·have h3:=C5.tws k hk q x;have h4:=U.z.1 q (by rw[aN.z];omega);rw[h4,HH.z.e.z q (by rw[ak.z];omega)]at h3;have h5:=A0 Prod.snd h3;simp only at h5;omega
  have x1:=hm.cell (a:=⟨fb+1,0,none⟩) (by show ¬fb+1=D+1;omega) (l.m.cell (a:=⟨fb+1,0,none⟩) (bd _ (.inr rfl)) bt);have x5:=hm.cell (a:=⟨fb,5,none⟩) (by show ¬fb=D+1;omega) (l.m.cell (a:=⟨fb,5,none⟩) (bd _ (.inl rfl)) cq);have aG:=zb R6;have aH:=zb ay;have b3:=zb hY;have hx2:=(AI.1 hd).1;rw[J];clear R6 ay bc bd hm l N mY hY J b0 ax;cases av:f.fin with
  | false =>
   rw[av]at x5;have e1:x.again f={ x with sent:=s1.adds rs.reverse }:=by
    unfold WS.again;rw[aH.z,av];simp
   have be:=zb e1;have bf:=aG;clear aG e1 aH;go_wp2_with fail;refine⟨by simp,.inl ⟨_,_,rfl,run_takeDeferred hd,?_⟩⟩;refine⟨_,results_none rfl _ _ _,rfl,aK,V6,?_⟩;rw[b3.z,be.z];exact bf.z
  | true =>
   rw[av]at x5;have e1:x.again f={ x with sent:=s1.adds rs.reverse,ending:=false }:=by
    unfold WS.again;rw[aH.z,av];simp
   have be:=zb e1;have bf:=zb (aG.z.storeW hk 9 (by decide) (.bool false) { x with sent:=s1.adds rs.reverse,ending:=false } rfl rfl rfl rfl);clear aG e1 aH;go_wp2_with fail;have cK:(C.setCell ⟨b,9+k*15+9,none⟩ (.bool false)).heap[D]?=some (.deferred (some [])):=((DW.refl (λq=>q=b) C).setCell (p:=⟨b,_,none⟩) (.inl rfl) _).obj (by omega) hd;refine⟨by simp,.inl ⟨_,_,rfl,run_takeDeferred cK,?_⟩⟩;refine⟨_,results_none rfl _ _ _,rfl,aK,V6,?_⟩;rw[iy (by omega),b3.z,AK k 15,be.z];exact bf.z
end
section
open Go.RowKit Go.Proofs.Tryz
variable{V' V0:CV}{W' W0:World}{b i k:Nat}{c:CS}{tag tag':Nat->Nat×Nat}
def zx.storeR{y:RS}(h:zx tag i b W0 V0 { c with rs:=upd c.rs k y } tag' V' W')(hk:k<8)(j:Nat)(hj:j<13)(v:Value)(x:RS)(hx:GD x (V'.rb k) (V'.rc k)=(GD y (V'.rb k) (V'.rc k)).set j v)(h1:x.b=y.b)(h3:x.came.rs=y.came.rs):zx tag i b W0 V0 { c with rs:=upd c.rs k x } tag' V' (W'.setCell ⟨b,129+13*k+j,none⟩ v):=by
 have a:DW (λq=>q=b) W' (W'.setCell ⟨b,129+13*k+j,none⟩ v):=(DW.refl (λq=>q=b) _).setCell (p:=⟨b,_,none⟩) (.inl rfl) _;exact⟨h.c.storeR2 hk j hj v x hx h1 h3,⟨h.e.old,h.e.new,h.e.z.mod a⟩,Ec h.e h.m (a.mono (λq hq=>.inl (EK (r:=1) (by rw[show q=b from hq];exact h.c.tb) (by decide)))),h.p,h.ft⟩
def LO(a b:Nat):((a:Int)==(b:Int))=(a==b):=by
 rw[DK];simp;try omega
variable{c':CS}
def zx.same(h:zx tag i b W0 V0 c tag' V' W')(e:c=c'):zx tag i b W0 V0 c' tag' V' W':=e ▸ h
variable{V:CV}{W:World}{tag0:Nat->Nat×Nat}
def fX(h:zx tag i b W0 V0 c tag0 V W)(f:Db)(l:Value)(m:f.kind=5)(ha:c.anew=true):Calls prog 80 #[.pointer (some ⟨b,0,none⟩),.agg (zh f l)] W (Ia tag i b W0 V0 { c with anew:=true }):=by
 have HH:=zb h;obtain⟨W1,a⟩:=nm (W.alloc (.cells (zh f l) 65));have m1:=AB a
 have d:zj W1 W.heap.size f l:=by rw[<-a];exact heap_alloc_new W _
 obtain⟨fb,e⟩:=nm W.heap.size;rw[e]at d;have o:=zb a;have p:=zb e;have k:=zb (h.mod0 m1);obtain⟨y0,y1,y2,y3,u,y5,y6,y7,y8,y9⟩:=d.cells;rw[m]at y0;obtain⟨lm,q⟩:=nm f.lim;obtain⟨gr,r⟩:=nm c.grant;rw[q]at u;have q1:W1.cell? ⟨b,234,none⟩=some (.int .u64 gr):=by rw[<-r];exact k.z.c.tl (j:=1) rfl
 have q2:W1.cell? ⟨b,235,none⟩=some (.bool true):=by rw[<-ha];exact k.z.c.tl (j:=2) rfl
 have fz:=λj=>k.z.c.fz j
 clear h m1 d a e y5 y6 y7 y8 y9 y2;refine(callsIn_wide (n:=8)).1 ?_;refine callsIn_of_wp_marks func80 rfl trivial ?_ rfl;simp only[ntmps80,Al,AQ,AX,Nat.reduceAdd,Nat.reduceSub,A8,A7,BG,BB,Am,BI];refine wpIn_wide.2 ?_;go_upto_region 1 with fail;rw[p.z,o.z];go_upto_region 15 with fail;refine zD ?_;refine zl 16 (λw'=>w'.cell? ⟨fb,4,none⟩=some (.int .u64 lm)/\w'.cell? ⟨b,234,none⟩=some (.int .u64 gr)/\w'.cell? ⟨b,235,none⟩=some (.bool true)) (⟨u,q1,q2⟩) ?_;refine GI 0 ?_;iterate 6
  refine GV rfl ?_;try simp only[PS]
 refine GI 6 ?_;iterate 7
  refine GU rfl (λ_ _ _ h=>nomatch h.1) ?_;try simp only[PS]
 refine GI 13 ?_;iterate 3
  refine GV rfl ?_;try simp only[PS]
 refine zU rfl (λK v=>?_);go_simp;refine v.z _ _ ?_;clear v K;try simp only[PS]
 refine zn ?_;refine⟨rfl,?_⟩;go_wp2_with fail;refine⟨_,results_none rfl _ _ _,rfl,tag0,V,?_⟩;exact(k.z.store (233+2) (.bool true) (zX c { c with anew:=true } V V _ rfl rfl rfl rfl) ⟨rfl,λ_ _=>⟨rfl,rfl,rfl⟩,λ_ _=>⟨rfl,rfl⟩,rfl,rfl,rfl,rfl⟩).mod0 (DW.refl DX _).drew
def fW(h:zx tag i b W0 V0 c tag0 V W)(f:Db)(m:Value)(o:f.kind=5)(ha:c.anew=false):Calls prog 80 #[.pointer (some ⟨b,0,none⟩),.agg (zh f m)] W (Ia tag i b W0 V0 { c with anew:=f.lim==c.grant }):=by
 have HH:=zb h;obtain⟨W1,a⟩:=nm (W.alloc (.cells (zh f m) 65));have m1:=AB a
 have d:zj W1 W.heap.size f m:=by rw[<-a];exact heap_alloc_new W _
 obtain⟨fb,e⟩:=nm W.heap.size;rw[e]at d;have p:=zb a;have q:=zb e;have l:=zb (h.mod0 m1);obtain⟨y0,y1,y2,y3,t,y5,y6,y7,y8,y9⟩:=d.cells;rw[o]at y0;obtain⟨r,g⟩:=nm f.lim;obtain⟨gr,k⟩:=nm c.grant;rw[g]at t;have q1:W1.cell? ⟨b,234,none⟩=some (.int .u64 gr):=by rw[<-k];exact l.z.c.tl (j:=1) rfl
 have q2:W1.cell? ⟨b,235,none⟩=some (.bool false):=by rw[<-ha];exact l.z.c.tl (j:=2) rfl
 have fz:=λj=>l.z.c.fz j
 clear h m1 d a e y5 y6 y7 y8 y9 y2;refine(callsIn_wide (n:=8)).1 ?_;refine callsIn_of_wp_marks func80 rfl trivial ?_ rfl;simp only[ntmps80,Al,AQ,AX,Nat.reduceAdd,Nat.reduceSub,A8,A7,BG,BB,Am,BI];refine wpIn_wide.2 ?_;go_upto_region 1 with fail;rw[q.z,p.z];go_upto_region 15 with fail;refine zD ?_;refine zl 16 (λw'=>w'.cell? ⟨fb,4,none⟩=some (.int .u64 r)/\w'.cell? ⟨b,234,none⟩=some (.int .u64 gr)/\w'.cell? ⟨b,235,none⟩=some (.bool false)) (⟨t,q1,q2⟩) ?_;refine GI 0 ?_;iterate 16
  refine GV rfl ?_;try simp only[PS]
 refine zU rfl (λK u=>?_);go_simp;refine u.z _ _ ?_;clear u K;try simp only[PS]
 refine zn ?_;refine⟨rfl,?_⟩;go_wp2_with fail;refine⟨_,results_none rfl _ _ _,rfl,tag0,V,?_⟩;rw[show(f.lim==c.grant)=((r:Int)==(gr:Int))by rw[g,k,LO]];exact(l.z.store (233+2) (.bool _) (zX c { c with anew:=((r:Int)==(gr:Int)) } V V _ rfl rfl rfl rfl) ⟨rfl,λ_ _=>⟨rfl,rfl,rfl⟩,λ_ _=>⟨rfl,rfl⟩,rfl,rfl,rfl,rfl⟩).mod0 (DW.refl DX _).drew
def fV(h:zx tag i b W0 V0 c tag0 V W)(f:Db)(q:Value)(k:Nat)(hk:k<8)(o:f.stream=(k:Int))(s:f.kind=6)(t:(c.rs k).anew=true):Calls prog 80 #[.pointer (some ⟨b,0,none⟩),.agg (zh f q)] W (Ia tag i b W0 V0 { c with rs:=upd c.rs k { c.rs k with anew:=true } }):=by
 have HH:=zb h;obtain⟨W1,d⟩:=nm (W.alloc (.cells (zh f q) 65));have m1:=AB d
 have e:zj W1 W.heap.size f q:=by rw[<-d];exact heap_alloc_new W _
 obtain⟨fb,g⟩:=nm W.heap.size;rw[g]at e;have u:=zb d;have v:=zb g;have p:=zb (h.mod0 m1);obtain⟨y0,y,y2,y3,z,y5,y6,y7,y8,y9⟩:=e.cells;rw[s]at y0;obtain⟨lm,l⟩:=nm f.lim;obtain⟨gr,m⟩:=nm ((c.rs k).grant);rw[l]at z;have q1:W1.cell? ⟨b,129+k*13+11,none⟩=some (.int .u64 gr):=by rw[<-m,AK k 13];exact p.z.c.r (j:=11) hk rfl
 have q2:W1.cell? ⟨b,129+k*13+12,none⟩=some (.bool true):=by rw[<-t,AK k 13];exact p.z.c.r (j:=12) hk rfl
 have fz:=λj=>p.z.c.fz j
 have HA:=zb t;have HLM:=zb l;have HGR:=zb m;rw[o]at y;have d0:(0:Int)<=k:=by omega
 have d8:(k:Int)<8:=by omega
 clear t l m o;clear h m1 e d g y5 y6 y7 y8 y9 y2;refine(callsIn_wide (n:=8)).1 ?_;refine callsIn_of_wp_marks func80 rfl trivial ?_ rfl;simp only[ntmps80,Al,AQ,AX,Nat.reduceAdd,Nat.reduceSub,A8,A7,BG,BB,Am,BI];refine wpIn_wide.2 ?_;go_upto_region 1 with fail;rw[v.z,u.z];go_upto_region 17 with fail;refine zD ?_;refine zl 7 (λw'=>w'.cell? ⟨fb,1,none⟩=some (.int .i64 k)) (y) ?_;refine GI 0 ?_;iterate 7
  refine GV rfl ?_;try simp only[PS]
 refine zn ?_;refine⟨rfl,?_⟩;go_upto_region 18 with fail;refine zD ?_;refine zl 16 (λw'=>w'.cell? ⟨fb,4,none⟩=some (.int .u64 lm)/\w'.cell? ⟨b,129+k*13+11,none⟩=some (.int .u64 gr)/\w'.cell? ⟨b,129+k*13+12,none⟩=some (.bool true)) (⟨z,q1,q2⟩) ?_;refine GI 0 ?_;iterate 6
  refine GV rfl ?_;try simp only[PS]
 refine GI 6 ?_;iterate 7
  refine GU rfl (λ_ _ _ h=>nomatch h.1) ?_;try simp only[PS]
 refine GI 13 ?_;iterate 3
  refine GV rfl ?_;try simp only[PS]
 refine zU rfl (λK B=>?_);go_simp;refine B.z _ _ ?_;clear B K;try simp only[PS]
 refine zn ?_;refine⟨rfl,?_⟩;go_wp2_with fail;refine⟨_,results_none rfl _ _ _,rfl,tag0,V,?_⟩;have R2:zx tag i b W0 V0 { c with rs:=upd c.rs k (c.rs k) } tag0 V W1:=p.z.same (by rw[Fj]);have R3:=R2.storeR hk 12 (by decide) (.bool true) { c.rs k with anew:=true } rfl rfl rfl;rw[AK k 13];exact R3.mod0 (((DW.refl DX _).drew).drew)
def fU(h:zx tag i b W0 V0 c tag0 V W)(f:Db)(s:Value)(k:Nat)(hk:k<8)(o:f.stream=(k:Int))(t:f.kind=6)(u:(c.rs k).anew=false):Calls prog 80 #[.pointer (some ⟨b,0,none⟩),.agg (zh f s)] W (Ia tag i b W0 V0 { c with rs:=upd c.rs k { c.rs k with anew:=f.lim==(c.rs k).grant } }):=by
 have HH:=zb h;obtain⟨W1,a⟩:=nm (W.alloc (.cells (zh f s) 65));have m1:=AB a
 have d:zj W1 W.heap.size f s:=by rw[<-a];exact heap_alloc_new W _
 obtain⟨fb,e⟩:=nm W.heap.size;rw[e]at d;have v:=zb a;have w:=zb e;have p:=zb (h.mod0 m1);obtain⟨y0,z,y2,y3,A,y5,y6,y7,y8,y9⟩:=d.cells;rw[t]at y0;obtain⟨q,g⟩:=nm f.lim;obtain⟨gr,l⟩:=nm ((c.rs k).grant);rw[g]at A;have q1:W1.cell? ⟨b,129+k*13+11,none⟩=some (.int .u64 gr):=by rw[<-l,AK k 13];exact p.z.c.r (j:=11) hk rfl
 have q2:W1.cell? ⟨b,129+k*13+12,none⟩=some (.bool false):=by rw[<-u,AK k 13];exact p.z.c.r (j:=12) hk rfl
 have fz:=λj=>p.z.c.fz j
 have HA:=zb u;have x:=zb g;have y:=zb l;rw[o]at z;have d0:(0:Int)<=k:=by omega
 have d8:(k:Int)<8:=by omega
 clear u g l o;clear h m1 d a e y5 y6 y7 y8 y9 y2;refine(callsIn_wide (n:=8)).1 ?_;refine callsIn_of_wp_marks func80 rfl trivial ?_ rfl;simp only[ntmps80,Al,AQ,AX,Nat.reduceAdd,Nat.reduceSub,A8,A7,BG,BB,Am,BI];refine wpIn_wide.2 ?_;go_upto_region 1 with fail;rw[w.z,v.z];go_upto_region 17 with fail;refine zD ?_;refine zl 7 (λw'=>w'.cell? ⟨fb,1,none⟩=some (.int .i64 k)) (z) ?_;refine GI 0 ?_;iterate 7
  refine GV rfl ?_;try simp only[PS]
 refine zn ?_;refine⟨rfl,?_⟩;go_upto_region 18 with fail;refine zD ?_;refine zl 16 (λw'=>w'.cell? ⟨fb,4,none⟩=some (.int .u64 q)/\w'.cell? ⟨b,129+k*13+11,none⟩=some (.int .u64 gr)/\w'.cell? ⟨b,129+k*13+12,none⟩=some (.bool false)) (⟨A,q1,q2⟩) ?_;refine GI 0 ?_;iterate 16
  refine GV rfl ?_;try simp only[PS]
 refine zU rfl (λK B=>?_);go_simp;refine B.z _ _ ?_;clear B K;try simp only[PS]
 refine zn ?_;refine⟨rfl,?_⟩;go_wp2_with fail;refine⟨_,results_none rfl _ _ _,rfl,tag0,V,?_⟩;rw[show(f.lim==(c.rs k).grant)=((q:Int)==(gr:Int))by rw[x.z,y.z,LO]];have R2:zx tag i b W0 V0 { c with rs:=upd c.rs k (c.rs k) } tag0 V W1:=p.z.same (by rw[Fj]);have R3:=R2.storeR hk 12 (by decide) (.bool ((q:Int)==(gr:Int))) { c.rs k with anew:=((q:Int)==(gr:Int)) } rfl rfl rfl;rw[AK k 13];exact R3.mod0 (((DW.refl DX _).drew).drew)
def gV(h:zx tag i b W0 V0 c tag0 V W)(f:Db)(r:Value)(k:Nat)(hk:k<8)(o:f.stream=(k:Int))(s:f.kind=3)(p:f.rel=(c.ws k).keep):Calls prog 80 #[.pointer (some ⟨b,0,none⟩),.agg (zh f r)] W (Ia tag i b W0 V0 { c with ws:=upd c.ws k { c.ws k with telling:=false } }):=by
 have HH:=zb h;obtain⟨W1,a⟩:=nm (W.alloc (.cells (zh f r) 65));have m1:=AB a
 have d:zj W1 W.heap.size f r:=by rw[<-a];exact heap_alloc_new W _
 obtain⟨fb,e⟩:=nm W.heap.size;rw[e]at d;have t:=zb a;have u:=zb e;have q:=zb (h.mod0 m1);obtain⟨y0,x,y2,y,y4,y5,y6,y7,y8,y9⟩:=d.cells;rw[s]at y0;obtain⟨v,g⟩:=nm ((c.ws k).keep);obtain⟨rl,l⟩:=nm f.rel;rw[l]at y;rw[g,l]at p;have q1:W1.cell? ⟨b,9+k*15+11,none⟩=some (.int .u64 v):=by rw[<-g,AK k 15];exact q.z.c.w (j:=11) hk rfl
 have q2:W1.cell? ⟨b,9+k*15+13,none⟩=some (.bool (c.ws k).telling):=by rw[AK k 15];exact q.z.c.w (j:=13) hk rfl
 have fz:=λj=>q.z.c.fz j
 have hb:((rl:Int)==(v:Int))=true:=by rw[LO];simp[p]
 have HR:=zb p;rw[o]at x;have d0:(0:Int)<=k:=by omega
 have d8:(k:Int)<8:=by omega
 clear g l o p;clear h m1 d a e y5 y6 y7 y8 y9 y2;refine(callsIn_wide (n:=8)).1 ?_;refine callsIn_of_wp_marks func80 rfl trivial ?_ rfl;simp only[ntmps80,Al,AQ,AX,Nat.reduceAdd,Nat.reduceSub,A8,A7,BG,BB,Am,BI];refine wpIn_wide.2 ?_;go_upto_region 1 with fail;rw[u.z,t.z];go_upto_region 11 with fail;refine zD ?_;refine zl 7 (λw'=>w'.cell? ⟨fb,1,none⟩=some (.int .i64 k)) (x) ?_;refine GI 0 ?_;iterate 7
  refine GV rfl ?_;try simp only[PS]
 refine zn ?_;refine⟨rfl,?_⟩;go_upto_region 12 with fail;refine zD ?_;refine zl 7 (λw'=>w'.cell? ⟨fb,3,none⟩=some (.int .u64 rl)/\w'.cell? ⟨b,9+k*15+11,none⟩=some (.int .u64 v)) (⟨y,q1⟩) ?_;refine GI 0 ?_;iterate 7
  refine GV rfl ?_;try simp only[PS]
 refine zn ?_;refine⟨rfl,?_⟩;go_wp2_with fail;refine⟨_,results_none rfl _ _ _,rfl,tag0,V,?_⟩;have R2:zx tag i b W0 V0 { c with ws:=upd c.ws k (c.ws k) } tag0 V W1:=q.z.same (by rw[Fj]);have R3:=R2.storeW hk 13 (by decide) (.bool false) { c.ws k with telling:=false } rfl rfl rfl rfl;rw[AK k 15];exact R3.mod0 (((DW.refl DX _).drew).drew)
def gU(h:zx tag i b W0 V0 c tag0 V W)(f:Db)(s:Value)(k:Nat)(hk:k<8)(o:f.stream=(k:Int))(t:f.kind=3)(p:¬f.rel=(c.ws k).keep):Calls prog 80 #[.pointer (some ⟨b,0,none⟩),.agg (zh f s)] W (Ia tag i b W0 V0 { c with ws:=upd c.ws k (c.ws k) }):=by
 have HH:=zb h;obtain⟨W1,a⟩:=nm (W.alloc (.cells (zh f s) 65));have m1:=AB a
 have d:zj W1 W.heap.size f s:=by rw[<-a];exact heap_alloc_new W _
 obtain⟨fb,e⟩:=nm W.heap.size;rw[e]at d;have u:=zb a;have v:=zb e;have q:=zb (h.mod0 m1);obtain⟨y0,x,y2,y,y4,y5,y6,y7,y8,y9⟩:=d.cells;rw[t]at y0;obtain⟨r,g⟩:=nm ((c.ws k).keep);obtain⟨rl,l⟩:=nm f.rel;rw[l]at y;rw[g,l]at p;have q1:W1.cell? ⟨b,9+k*15+11,none⟩=some (.int .u64 r):=by rw[<-g,AK k 15];exact q.z.c.w (j:=11) hk rfl
 have q2:W1.cell? ⟨b,9+k*15+13,none⟩=some (.bool (c.ws k).telling):=by rw[AK k 15];exact q.z.c.w (j:=13) hk rfl
 have fz:=λj=>q.z.c.fz j
 have hb:((rl:Int)==(r:Int))=false:=by rw[LO];simp[p]
 have hne:¬(rl:Int)=(r:Int):=by omega
 have HR:=zb p;rw[o]at x;have d0:(0:Int)<=k:=by omega
 have d8:(k:Int)<8:=by omega
 clear g l o p;clear h m1 d a e y5 y6 y7 y8 y9 y2;refine(callsIn_wide (n:=8)).1 ?_;refine callsIn_of_wp_marks func80 rfl trivial ?_ rfl;simp only[ntmps80,Al,AQ,AX,Nat.reduceAdd,Nat.reduceSub,A8,A7,BG,BB,Am,BI];refine wpIn_wide.2 ?_;go_upto_region 1 with fail;rw[v.z,u.z];go_upto_region 11 with fail;refine zD ?_;refine zl 7 (λw'=>w'.cell? ⟨fb,1,none⟩=some (.int .i64 k)) (x) ?_;refine GI 0 ?_;iterate 7
  refine GV rfl ?_;try simp only[PS]
 refine zn ?_;refine⟨rfl,?_⟩;go_upto_region 12 with fail;refine zD ?_;refine zl 7 (λw'=>w'.cell? ⟨fb,3,none⟩=some (.int .u64 rl)/\w'.cell? ⟨b,9+k*15+11,none⟩=some (.int .u64 r)) (⟨y,q1⟩) ?_;refine GI 0 ?_;iterate 7
  refine GV rfl ?_;try simp only[PS]
 refine zn ?_;refine⟨rfl,?_⟩;go_wp2_with fail;refine⟨_,results_none rfl _ _ _,rfl,tag0,V,?_⟩;have R2:zx tag i b W0 V0 { c with ws:=upd c.ws k (c.ws k) } tag0 V W1:=q.z.same (by rw[Fj]);exact R2.mod0 (((DW.refl DX _).drew).drew)
def fF(h:zx tag i b W0 V0 c tag0 V W)(f:Db)(g:Value)(h3:¬f.kind=3)(h4:¬f.kind=4)(h5:¬f.kind=5)(h6:¬f.kind=6):Calls prog 80 #[.pointer (some ⟨b,0,none⟩),.agg (zh f g)] W (Ia tag i b W0 V0 c):=by
 have HH:=zb h;obtain⟨W1,a⟩:=nm (W.alloc (.cells (zh f g) 65));have m1:=AB a
 have d:zj W1 W.heap.size f g:=by rw[<-a];exact heap_alloc_new W _
 obtain⟨fb,e⟩:=nm W.heap.size;rw[e]at d;have j:=zb a;have k:=zb e;have R1:=zb (h.mod0 m1);obtain⟨y0,y1,y2,y3,y4,y5,y6,y7,y8,y9⟩:=d.cells;have h3':¬(f.kind:Int)=3:=by omega
 have h4':¬(f.kind:Int)=4:=by omega
 have h5':¬(f.kind:Int)=5:=by omega
 have h6':¬(f.kind:Int)=6:=by omega
 clear h m1 d a e y5 y6 y7 y8 y9 y2;refine(callsIn_wide (n:=8)).1 ?_;refine callsIn_of_wp_marks func80 rfl trivial ?_ rfl;simp only[ntmps80,Al,AQ,AX,Nat.reduceAdd,Nat.reduceSub,A8,A7,BG,BB,Am,BI];refine wpIn_wide.2 ?_;go_upto_region 1 with fail;rw[k.z,j.z];go_wp2_with fail;refine⟨_,results_none rfl _ _ _,rfl,tag0,V,?_⟩;exact R1.z
structure Iq(c:CS)(f:Db):Prop where
 k4:f.kind=4->K5 c f f.stream.toNat
 k3:f.kind=3->0<=f.stream/\f.stream<8
 k6:f.kind=6->0<=f.stream/\f.stream<8
theorem TH(h:zx tag i b W0 V0 c tag0 V W)(f:Db)(d:Value)(ok:Iq c f)(o:∃a n cap,d = .slice a n cap):Calls prog 80 #[.pointer (some ⟨b,0,none⟩),.agg (zh f d)] W (Ia tag i b W0 V0 (c.again f)):=by
 unfold CS.again;by_cases h4:f.kind=4
 ·rw[AN h4];exact fG h f d _ (ok.k4 h4) h4 o
 ·rw[AH h4];by_cases h3:f.kind=3
  ·rw[AN h3];obtain⟨a1,a2⟩:=ok.k3 h3;have hk:f.stream.toNat<8:=by omega
   have g:f.stream=(f.stream.toNat:Int):=by omega
   generalize f.stream.toNat=k at hk g;by_cases m:f.rel=(c.ws k).keep
   ·have e:{ c.ws k with telling:=(c.ws k).telling && !(f.rel==(c.ws k).keep) }={ c.ws k with telling:=false }:=by simp[m]
    rw[e];exact gV h f d k hk g h3 m
   ·have e:{ c.ws k with telling:=(c.ws k).telling && !(f.rel==(c.ws k).keep) }=c.ws k:=by
     have e2:(f.rel==(c.ws k).keep)=false:=by simp[m]
     rw[e2];simp
    rw[e];exact gU h f d k hk g h3 m
  ·rw[AH h3];by_cases l:f.kind=5
   ·rw[AN l];cases ha:c.anew with
    | true =>
     have:=fX h f d l ha;simpa using this
    | false =>
     have:=fW h f d l ha;simpa using this
   ·rw[AH l];by_cases j:f.kind=6
    ·rw[AN j];obtain⟨a1,a2⟩:=ok.k6 j;have hk:f.stream.toNat<8:=by omega
     have g:f.stream=(f.stream.toNat:Int):=by omega
     generalize f.stream.toNat=k at hk g;cases ha:(c.rs k).anew with
     | true =>
      have:=fV h f d k hk g j ha;simpa using this
     | false =>
      have:=fU h f d k hk g j ha;simpa using this
    ·rw[AH j];exact fF h f d h3 h4 l j
def ie(c:CS)(f:Db):(c.again f).flight=c.flight:=by
 unfold CS.again;split
 ·rfl
 ·split
  ·rfl
  ·split
   ·rfl
   ·split<;>rfl
theorem QP:∀(fs:List Db) (c:CS),(c.agains fs).flight=c.flight
 | [],_=>rfl
 | f::fs,c=>by
  show((c.again f).agains fs).flight=_;rw[QP fs,ie]
variable{f:Db}{fs:List Db}
def Ts(h:fs[k]?=some f):c.agains (fs.take (k+1))=(c.agains (fs.take k)).again f:=by
 unfold CS.agains;rw[BD,h,Ci];rfl
def Jr(tag:Nat->Nat×Nat)(i b:Nat)(W0:World)(V0:CV)(c:CS)(p:Df)(e:Ending)(W':World):Prop :=
 e = .returned (.bool (c.late p))/\∃tag' V',zx tag i b W0 V0 (if c.late p then c.agains p.fs else c) tag' V' W'
def fE(h:zx tag i b W0 V0 c tag0 V W)(cb:Nat)(k:W0.cell? ⟨cb,0,none⟩=some (.pointer (some ⟨b,0,none⟩)))(w:¬Dp i tag cb)
  (p:Df) (v:Value) (H:(p,v)∈c.flight.zip V0.fts) (y:p.n<=zB) (z:p.at_<=zB) (h1:¬p.at_+6<=c.now) (h2:¬p.n+3<=c.largest) :
  Calls prog 79 #[.agg #[.int .u64 p.n,.int .u64 p.at_,v],.pointer (some ⟨cb,0,none⟩)] W (Jr tag i b W0 V0 c p):=by
 have f:c.late p=false:=by
  unfold CS.late;simp[h1,h2]
 unfold Jr;rw[f];simp only[BQ,BY];have HH:=zb h;have A:=zk k;have I:AA (∀{c':CS} {tag':Nat->Nat×Nat} {V':CV} {W':World},zx tag i b W0 V0 c' tag' V' W'->W'.cell? ⟨cb,0,none⟩=some (.pointer (some ⟨b,0,none⟩))):=zb (λr=>r.m.cell (a:=⟨cb,0,none⟩) w k);have HP:=zb H;obtain⟨B,d⟩:=nm p.n;obtain⟨C,e⟩:=nm p.at_;obtain⟨fs,D⟩:=nm p.fs;obtain⟨nw,q⟩:=nm c.now;obtain⟨J,s⟩:=nm c.largest;rw[e,q]at h1;rw[d]at y;rw[e]at z;unfold zB at y z;rw[d,s]at h2;rw[d,e];have FT:=h.c.fs (p,v) (by rw[h.ft.2];exact H);obtain⟨l,hl,E,-,-⟩:=FT;simp only at hl E;rw[D]at hl;obtain⟨a,cap,rfl,Q,q2,-⟩:=E;have t:l.length=fs.length:=by rw[<-hl,A9]
 rw[t]at HP Q ⊢;have c3:W.cell? ⟨b,3,none⟩=some (.int .u64 nw):=by rw[<-q];exact h.c.hd (j:=3) rfl
 have F:W.cell? ⟨b,237,none⟩=some (.int .u64 J):=by rw[<-s];exact h.c.tl (j:=4) rfl
 have G:=I.z h;obtain⟨W1,g⟩:=nm (W.alloc (.cells #[.int .u64 B,.int .u64 C,.slice a fs.length cap] 173));have m1:=AB g
 have R1:=zb (h.mod0 m1);have o1:=AD g
 obtain⟨K,u⟩:=nm W.heap.size;rw[u]at o1;have z0:=za (o:=0) o1 rfl;have z1:=za (o:=1) o1 rfl;have z2:W1.cell? ⟨K,2,none⟩=some (.slice a fs.length cap):=za (o:=2) o1 rfl;have x3:=m1.cell (a:=⟨b,_,none⟩) id c3;have L:=m1.cell (a:=⟨b,_,none⟩) id F;have M:=m1.cell (a:=⟨cb,_,none⟩) id G;have N:=zb g;have O:=zb u;have HLL:=zb t;have d1:¬(C:Int)+6<=nw:=by omega
 have y1:=wu ((C:Int)+6) (by omega);have y2:=wu ((B:Int)+3) (by omega);have d2:¬(B:Int)+3<=J:=by omega
 clear h H d e D q s h1 f m1 o1 c3 F G g u hl t Q q2 k w A h2;go_enter func79,ntmps79;go_upto_region 1 with fail;rw[N.z,O.z];refine zD ?_;refine zl 19 (λw'=>w'.cell? ⟨K,0,none⟩=some (.int .u64 B)/\w'.cell? ⟨K,1,none⟩=some (.int .u64 C)/\w'.cell? ⟨cb,0,none⟩=some (.pointer (some ⟨b,0,none⟩))/\w'.cell? ⟨b,3,none⟩=some (.int .u64 nw)/\w'.cell? ⟨b,237,none⟩=some (.int .u64 J)) (⟨z0,z1,M,x3,L⟩) ?_;refine GI 0 ?_;iterate 19
  refine GV rfl ?_;try simp only[PS]
 refine zn ?_;refine⟨rfl,?_⟩;go_wp2_with fail;go_ret;exact⟨rfl,tag0,V,R1.z.mod0 (DW.refl DX _).drew⟩
def fD(h:zx tag i b W0 V0 c tag0 V W)(cb:Nat)(z:W0.cell? ⟨cb,0,none⟩=some (.pointer (some ⟨b,0,none⟩)))(K:¬Dp i tag cb)
  (p:Df) (v:Value) (hp:(p,v)∈c.flight.zip V0.fts) (L:p.n<=zB) (M:p.at_<=zB) (A:∀k f,p.fs[k]?=some f->Iq (c.agains (p.fs.take k)) f) (af:p.fs.length<=1099511627776) (h1:p.at_+6<=c.now) :
  Calls prog 79 #[.agg #[.int .u64 p.n,.int .u64 p.at_,v],.pointer (some ⟨cb,0,none⟩)] W (Jr tag i b W0 V0 c p):=by
 have q:c.late p=true:=by
  unfold CS.late;simp[h1]
 unfold Jr;rw[q];simp only[A5];have HH:=zb h;have N:=zk z;have O:AA (∀{c':CS} {tag':Nat->Nat×Nat} {V':CV} {W':World},zx tag i b W0 V0 c' tag' V' W'->W'.cell? ⟨cb,0,none⟩=some (.pointer (some ⟨b,0,none⟩))):=zb (λr=>r.m.cell (a:=⟨cb,0,none⟩) K z);have HP:=zb hp;obtain⟨pn,s⟩:=nm p.n;obtain⟨P,d⟩:=nm p.at_;obtain⟨fs,t⟩:=nm p.fs;obtain⟨nw,B⟩:=nm c.now;obtain⟨lg,Q⟩:=nm c.largest;rw[d,B]at h1;rw[s]at L;rw[d]at M;unfold zB at L M;rw[t]at A af;rw[s,d,t];have FT:=h.c.fs (p,v) (by rw[h.ft.2];exact hp);obtain⟨l,hl,R,-,-⟩:=FT;simp only at hl R;rw[t]at hl;obtain⟨a,cap,rfl,q1,q2,-⟩:=R;have C:l.length=fs.length:=by rw[<-hl,A9]
 rw[C]at HP q1 ⊢;have c3:W.cell? ⟨b,3,none⟩=some (.int .u64 nw):=by rw[<-B];exact h.c.hd (j:=3) rfl
 have S:W.cell? ⟨b,237,none⟩=some (.int .u64 lg):=by rw[<-Q];exact h.c.tl (j:=4) rfl
 have T:=O.z h;obtain⟨W1,w⟩:=nm (W.alloc (.cells #[.int .u64 pn,.int .u64 P,.slice a fs.length cap] 173));have m1:=AB w
 have R1:=zb (h.mod0 m1);have o1:=AD w
 obtain⟨pb,D⟩:=nm W.heap.size;rw[D]at o1;have z0:=za (o:=0) o1 rfl;have z1:=za (o:=1) o1 rfl;have z2:W1.cell? ⟨pb,2,none⟩=some (.slice a fs.length cap):=za (o:=2) o1 rfl;have x3:=m1.cell (a:=⟨b,_,none⟩) id c3;have U:=m1.cell (a:=⟨b,_,none⟩) id S;have E:=m1.cell (a:=⟨cb,_,none⟩) id T;have ah:=zb w;have ai:=zb D;have HLL:=zb C;have aj:=zb A;have ak:=zb t;have d1:(P:Int)+6<=nw:=by omega
 have y1:=wu ((P:Int)+6) (by omega);have y2:=wu ((pn:Int)+3) (by omega);clear h hp s d t B Q h1 q m1 o1 c3 S T w D hl C q1 q2 z K N A;go_enter func79,ntmps79;go_upto_region 1 with fail;rw[ah.z,ai.z];refine zD ?_;refine zl 19 (λw'=>w'.cell? ⟨pb,0,none⟩=some (.int .u64 pn)/\w'.cell? ⟨pb,1,none⟩=some (.int .u64 P)/\w'.cell? ⟨cb,0,none⟩=some (.pointer (some ⟨b,0,none⟩))/\w'.cell? ⟨b,3,none⟩=some (.int .u64 nw)/\w'.cell? ⟨b,237,none⟩=some (.int .u64 lg)) (⟨z0,z1,E,x3,U⟩) ?_;refine GI 0 ?_;iterate 9
  refine GV rfl ?_;try simp only[PS]
 refine GI 9 ?_;iterate 8
  refine GU rfl (λ_ _ _ h=>nomatch h.1) ?_;try simp only[PS]
 refine GI 17 ?_;iterate 2
  refine GV rfl ?_;try simp only[PS]
 refine zn ?_;refine⟨rfl,?_⟩;go_wp2_with fail
 go_loopw [29] (λiv wr=>∃(k:Nat) (tag':Nat->Nat×Nat) (V':CV),k<=fs.length/\iv = .int .i64 k/\AA (zx tag i b W0 V0 (c.agains (fs.take k)) tag' V' wr)) (λiv _=>fs.length-(intOf iv).toNat)
 case atStart=>exact⟨0,tag0,V,AL _,rfl,zb (R1.z.mod0 (DW.refl DX _).drew)⟩
 case round =>
  clear z0 z1 z2 x3 U E R1;obtain⟨k,X,V1,hk,rfl,Z⟩:=hrel;by_cases hlt:k<fs.length
  ·obtain⟨l1,u,y,-,-⟩:=Z.z.c.fs (p,.slice a fs.length cap) (by rw[QP,Z.z.ft.2];exact HP.z);simp only at u y;rw[ak.z]at u;obtain⟨a',ao,aa,_,_,h3⟩:=y;have ab:l1.length=fs.length:=by rw[<-u,A9]
   rw[ab]at aa;cases aa;obtain⟨⟨f,rv⟩,G⟩:∃fr,l1[k]?=some fr:=⟨l1[k],AJ (by omega)⟩;have H:fs[k]?=some f:=by rw[<-u,BW,G];rfl
   obtain⟨⟨g,o,rfl,hc⟩,I⟩:=h3 k (f,rv) G;simp only at hc I;obtain⟨ra,rc,rfl,_⟩:=id I;obtain⟨hc0,hc1,hc2,hc3,hc4,hc5,hc6,hc7,hc8,am⟩:=I8 hc;obtain⟨Y,J⟩:=nm (wr.alloc (.cells (zh f (.slice ra f.rngs.length rc)) 65));have mY:=AB J
   have ac:zj Y wr.heap.size f (.slice ra f.rngs.length rc):=by rw[<-J];exact heap_alloc_new wr _
   obtain⟨y0,y1,y2,y3,y4,y5,y6,y7,y8,y9⟩:=ac.cells;have ka:=TH (Z.z.mod0 mY) f (.slice ra f.rngs.length rc) (aj.z k f H) ⟨_,_,_,rfl⟩;have HT:=zb (Ts (c:=c) H);rw[<-HT.z]at ka;have E:=O.z (Z.z.mod0 mY);obtain⟨RL,ad⟩:=nm f.rngs.length;rw[ad]at am J y9 ka;unfold zh at J ka;have KA:=zb ka;clear h3 G hc I mY ac ka H u ad;go_upto_region 6 with fail;try rw[J]
   clear J;go_wp2_with fail;refine(KA.z).mono ?_;rintro e w6 ⟨rfl,ae,V6,r6⟩;have R6:=zb r6;clear r6;go_wp2_with fail;go_roundw
   case rel=>exact⟨k+1,ae,V6,by omega,by go_num,R6⟩
   case measure=>simp[intOf];omega
  ·have hk2:fs.length=k:=by omega
   have an:=zb (by have:=Z.z;rwa [AW (by omega)]at this);go_wp2_with fail;go_ret;exact⟨rfl,X,V1,an.z⟩
def fC(h:zx tag i b W0 V0 c tag0 V W)(cb:Nat)(z:W0.cell? ⟨cb,0,none⟩=some (.pointer (some ⟨b,0,none⟩)))(K:¬Dp i tag cb)
  (p:Df) (v:Value) (hp:(p,v)∈c.flight.zip V0.fts) (L:p.n<=zB) (M:p.at_<=zB) (A:∀k f,p.fs[k]?=some f->Iq (c.agains (p.fs.take k)) f) (af:p.fs.length<=1099511627776) (h1:¬p.at_+6<=c.now) (h2:p.n+3<=c.largest) :
  Calls prog 79 #[.agg #[.int .u64 p.n,.int .u64 p.at_,v],.pointer (some ⟨cb,0,none⟩)] W (Jr tag i b W0 V0 c p):=by
 have s:c.late p=true:=by
  unfold CS.late;simp[h1,h2]
 unfold Jr;rw[s];simp only[A5];have HH:=zb h;have N:=zk z;have O:AA (∀{c':CS} {tag':Nat->Nat×Nat} {V':CV} {W':World},zx tag i b W0 V0 c' tag' V' W'->W'.cell? ⟨cb,0,none⟩=some (.pointer (some ⟨b,0,none⟩))):=zb (λr=>r.m.cell (a:=⟨cb,0,none⟩) K z);have HP:=zb hp;obtain⟨P,d⟩:=nm p.n;obtain⟨Q,q⟩:=nm p.at_;obtain⟨fs,t⟩:=nm p.fs;obtain⟨nw,B⟩:=nm c.now;obtain⟨lg,C⟩:=nm c.largest;rw[q,B]at h1;rw[d]at L;rw[q]at M;unfold zB at L M;rw[d,C]at h2;rw[t]at A af;rw[d,q,t];have FT:=h.c.fs (p,v) (by rw[h.ft.2];exact hp);obtain⟨l,hl,R,-,-⟩:=FT;simp only at hl R;rw[t]at hl;obtain⟨a,cap,rfl,q1,q2,-⟩:=R;have D:l.length=fs.length:=by rw[<-hl,A9]
 rw[D]at HP q1 ⊢;have c3:W.cell? ⟨b,3,none⟩=some (.int .u64 nw):=by rw[<-B];exact h.c.hd (j:=3) rfl
 have S:W.cell? ⟨b,237,none⟩=some (.int .u64 lg):=by rw[<-C];exact h.c.tl (j:=4) rfl
 have T:=O.z h;obtain⟨W1,w⟩:=nm (W.alloc (.cells #[.int .u64 P,.int .u64 Q,.slice a fs.length cap] 173));have m1:=AB w
 have R1:=zb (h.mod0 m1);have o1:=AD w
 obtain⟨pb,E⟩:=nm W.heap.size;rw[E]at o1;have z0:=za (o:=0) o1 rfl;have z1:=za (o:=1) o1 rfl;have z2:W1.cell? ⟨pb,2,none⟩=some (.slice a fs.length cap):=za (o:=2) o1 rfl;have x3:=m1.cell (a:=⟨b,_,none⟩) id c3;have U:=m1.cell (a:=⟨b,_,none⟩) id S;have F:=m1.cell (a:=⟨cb,_,none⟩) id T;have ah:=zb w;have ai:=zb E;have HLL:=zb D;have aj:=zb A;have ak:=zb t;have d1:¬(Q:Int)+6<=nw:=by omega
 have y1:=wu ((Q:Int)+6) (by omega);have y2:=wu ((P:Int)+3) (by omega);have d2:(P:Int)+3<=lg:=by omega
 clear h hp d q t B C h1 s m1 o1 c3 S T w E hl D q1 q2 z K N h2 A;go_enter func79,ntmps79;go_upto_region 1 with fail;rw[ah.z,ai.z];refine zD ?_;refine zl 19 (λw'=>w'.cell? ⟨pb,0,none⟩=some (.int .u64 P)/\w'.cell? ⟨pb,1,none⟩=some (.int .u64 Q)/\w'.cell? ⟨cb,0,none⟩=some (.pointer (some ⟨b,0,none⟩))/\w'.cell? ⟨b,3,none⟩=some (.int .u64 nw)/\w'.cell? ⟨b,237,none⟩=some (.int .u64 lg)) (⟨z0,z1,F,x3,U⟩) ?_;refine GI 0 ?_;iterate 19
  refine GV rfl ?_;try simp only[PS]
 refine zn ?_;refine⟨rfl,?_⟩;go_wp2_with fail
 go_loopw [29] (λiv wr=>∃(k:Nat) (tag':Nat->Nat×Nat) (V':CV),k<=fs.length/\iv = .int .i64 k/\AA (zx tag i b W0 V0 (c.agains (fs.take k)) tag' V' wr)) (λiv _=>fs.length-(intOf iv).toNat)
 case atStart=>exact⟨0,tag0,V,AL _,rfl,zb (R1.z.mod0 (DW.refl DX _).drew)⟩
 case round =>
  clear z0 z1 z2 x3 U F R1;obtain⟨k,X,V1,hk,rfl,Z⟩:=hrel;by_cases hlt:k<fs.length
  ·obtain⟨l1,u,y,-,-⟩:=Z.z.c.fs (p,.slice a fs.length cap) (by rw[QP,Z.z.ft.2];exact HP.z);simp only at u y;rw[ak.z]at u;obtain⟨a',ao,aa,_,_,h3⟩:=y;have ab:l1.length=fs.length:=by rw[<-u,A9]
   rw[ab]at aa;cases aa;obtain⟨⟨f,rv⟩,G⟩:∃fr,l1[k]?=some fr:=⟨l1[k],AJ (by omega)⟩;have H:fs[k]?=some f:=by rw[<-u,BW,G];rfl
   obtain⟨⟨g,o,rfl,hc⟩,I⟩:=h3 k (f,rv) G;simp only at hc I;obtain⟨ra,rc,rfl,_⟩:=id I;obtain⟨hc0,hc1,hc2,hc3,hc4,hc5,hc6,hc7,hc8,am⟩:=I8 hc;obtain⟨Y,J⟩:=nm (wr.alloc (.cells (zh f (.slice ra f.rngs.length rc)) 65));have mY:=AB J
   have ac:zj Y wr.heap.size f (.slice ra f.rngs.length rc):=by rw[<-J];exact heap_alloc_new wr _
   obtain⟨y0,y1,y2,y3,y4,y5,y6,y7,y8,y9⟩:=ac.cells;have ka:=TH (Z.z.mod0 mY) f (.slice ra f.rngs.length rc) (aj.z k f H) ⟨_,_,_,rfl⟩;have HT:=zb (Ts (c:=c) H);rw[<-HT.z]at ka;have F:=O.z (Z.z.mod0 mY);obtain⟨RL,ad⟩:=nm f.rngs.length;rw[ad]at am J y9 ka;unfold zh at J ka;have KA:=zb ka;clear h3 G hc I mY ac ka H u ad;go_upto_region 6 with fail;try rw[J]
   clear J;go_wp2_with fail;refine(KA.z).mono ?_;rintro e w6 ⟨rfl,ae,V6,r6⟩;have R6:=zb r6;clear r6;go_wp2_with fail;go_roundw
   case rel=>exact⟨k+1,ae,V6,by omega,by go_num,R6⟩
   case measure=>simp[intOf];omega
  ·have hk2:fs.length=k:=by omega
   have an:=zb (by have:=Z.z;rwa [AW (by omega)]at this);go_wp2_with fail;go_ret;exact⟨rfl,X,V1,an.z⟩
def Ys(h:zx tag i b W0 V0 c tag0 V W)(cb:Nat)(a:W0.cell? ⟨cb,0,none⟩=some (.pointer (some ⟨b,0,none⟩)))(d:¬Dp i tag cb)
  (p:Df) (v:Value) (m:(p,v)∈c.flight.zip V0.fts) (e:p.n<=zB) (g:p.at_<=zB) (j:c.late p=true->∀k f,p.fs[k]?=some f->Iq (c.agains (p.fs.take k)) f) (l:p.fs.length<=1099511627776) :
  Calls prog 79 #[.agg #[.int .u64 p.n,.int .u64 p.at_,v],.pointer (some ⟨cb,0,none⟩)] W (Jr tag i b W0 V0 c p):=by
 by_cases h1:p.at_+6<=c.now
 ·exact fD h cb a d p v m e g (j (by simp[CS.late,h1])) l h1
 ·by_cases h2:p.n+3<=c.largest
  ·exact fC h cb a d p v m e g (j (by simp[CS.late,h2])) l h1 h2
  ·exact fE h cb a d p v m e g h1 h2
structure K8(J:Nat->List (Df×Value)->World->Prop)(N g:Nat):Prop where
 box:∀k R w w',J k R w->DW DX w w'->J k R w'
 len:∀k R w,J k R w->R.length=N
 rd:∀k R w,J k R w->∀(j:Nat) (x:Df×Value),R[j]?=some x->w.cell? ⟨g,j*3,none⟩=some (.int .u64 x.1.n)/\w.cell? ⟨g,j*3+1,none⟩=some (.int .u64 x.1.at_)/\w.cell? ⟨g,j*3+2,none⟩=some x.2
def Qd(J:Nat->List (Df×Value)->World->Prop)(del:Df->Bool)(L:List (Df×Value))(e:Ending)(w':World):Prop :=
 (∃k:Nat,e = .returned (.int .i64 k)/\k<L.length/\(∀x∈L.take k,del x.1=false)/\(∀x,L[k]?=some x->del x.1=true)/\J (k+1) L w') \/
 (e = .returned (.int .i64 (-1))/\(∀x∈L,del x.1=false)/\J L.length L w')
theorem fB(J:Nat->List (Df×Value)->World->Prop)(del:Df->Bool)(L:List (Df×Value))(N g cap cb:Nat)(a:Option Addr)(u:L.length=N)(hNb:N<=1099511627776)(y:0<N->a=some ⟨g,0,none⟩)(z:K8 J N g)
  (c:∀k w x,J k L w->L[k]?=some x->Calls prog 79 #[.agg #[.int .u64 x.1.n,.int .u64 x.1.at_,x.2],.pointer (some ⟨cb,0,none⟩)] w (λe w'=>e = .returned (.bool (del x.1))/\J (k+1) L w'))
  (w:World) (h0:J 0 L w) :
  Calls prog 139 #[.slice a N cap,.func (.func 79) #[] #[.pointer (some ⟨cb,0,none⟩)]] w (Qd J del L):=by
 have HJ:=zb z;have HC:=zb c;have H0:=zb h0;have HA:=zb y;have i:=zb u;clear z c h0 y u;go_enter func139,ntmps139;go_wp2_with fail
 go_loopw [8] (λo wr=>∃k:Nat,k<=N/\o = .int .i64 k/\AA (J k L wr/\∀x∈L.take k,del x.1=false)) (λo _=>N-(intOf o).toNat)
 case atStart=>exact⟨0,AL _,rfl,zb ⟨H0.z,λx b=>by simp at b⟩⟩
 case round =>
  obtain⟨k,hk,rfl,h⟩:=hrel;by_cases d:k<N
  ·obtain⟨x,b⟩:∃x,L[k]?=some x:=⟨L[k]'(by rw[i.z];exact d),AJ (by rw[i.z];exact d)⟩;obtain⟨x0,x1,x2⟩:=HJ.z.rd k L wr h.z.1 k x b;have p:=HA.z (by omega);subst p;have m:=HC.z k wr x h.z.1 b;have A:=zb b;obtain⟨⟨fn,q,r⟩,v⟩:=x;simp only at x0 x1 x2 m;obtain⟨dv,f⟩:=nm (del ⟨fn,q,r⟩);rw[f]at m;have j:=zb f;have B:=zb m;clear m b f;cases dv with
   | true =>
    go_wp2_with (go_at_call 79;with_reducible refine(B.z).mono ?_;rintro e w6 ⟨rfl,l⟩;have s:=zb l;clear l);go_ret;exact .inl ⟨k,rfl,by rw[i.z];exact d,h.z.2,λx b=>by rw[A.z]at b;cases b;exact j.z,s.z⟩
   | false =>
    go_wp2_with (go_at_call 79;with_reducible refine(B.z).mono ?_;rintro e w6 ⟨rfl,l⟩;have s:=zb l;clear l);go_roundw
    case rel =>
     refine⟨k+1,by omega,by go_num,zb ⟨s.z,λx b=>?_⟩⟩;rw[BD,A.z]at b;rcases An.1 b with b|b
     ·exact h.z.2 x b
     ·simp at b;subst b;exact j.z
    case measure=>simp[intOf];omega
  ·have t:k=N:=by omega
   go_wp2_with fail;go_ret;exact .inr ⟨rfl,λx b=>h.z.2 x (by rwa [AW (by rw[i.z];omega)]),by rw[i.z,<-t];exact h.z.1⟩
theorem gT(J:Nat->List (Df×Value)->World->Prop)(del:Df->Bool)(L:List (Df×Value))(N g cap lb cb:Nat)(a:Option Addr)(u:L.length=N)(hNb:N<=1099511627776)(y:0<N->a=some ⟨g,0,none⟩)(z:K8 J N g)
  (c:∀k w x,J k L w->L[k]?=some x->Calls prog 205 #[.agg #[.int .u64 x.1.n,.int .u64 x.1.at_,x.2],.pointer (some ⟨lb,0,none⟩),.pointer (some ⟨cb,0,none⟩)] w (λe w'=>e = .returned (.bool (del x.1))/\J (k+1) L w'))
  (w:World) (h0:J 0 L w) :
  Calls prog 139 #[.slice a N cap,.func (.func 205) #[] #[.pointer (some ⟨lb,0,none⟩),.pointer (some ⟨cb,0,none⟩)]] w (Qd J del L):=by
 have HJ:=zb z;have HC:=zb c;have H0:=zb h0;have HA:=zb y;have i:=zb u;clear z c h0 y u;go_enter func139,ntmps139;go_wp2_with fail
 go_loopw [8] (λo wr=>∃k:Nat,k<=N/\o = .int .i64 k/\AA (J k L wr/\∀x∈L.take k,del x.1=false)) (λo _=>N-(intOf o).toNat)
 case atStart=>exact⟨0,AL _,rfl,zb ⟨H0.z,λx b=>by simp at b⟩⟩
 case round =>
  obtain⟨k,hk,rfl,h⟩:=hrel;by_cases d:k<N
  ·obtain⟨x,b⟩:∃x,L[k]?=some x:=⟨L[k]'(by rw[i.z];exact d),AJ (by rw[i.z];exact d)⟩;obtain⟨x0,x1,x2⟩:=HJ.z.rd k L wr h.z.1 k x b;have p:=HA.z (by omega);subst p;have m:=HC.z k wr x h.z.1 b;have A:=zb b;obtain⟨⟨fn,q,r⟩,v⟩:=x;simp only at x0 x1 x2 m;obtain⟨dv,f⟩:=nm (del ⟨fn,q,r⟩);rw[f]at m;have j:=zb f;have B:=zb m;clear m b f;cases dv with
   | true =>
    go_wp2_with (go_at_call 205;with_reducible refine(B.z).mono ?_;rintro e w6 ⟨rfl,l⟩;have s:=zb l;clear l);go_ret;exact .inl ⟨k,rfl,by rw[i.z];exact d,h.z.2,λx b=>by rw[A.z]at b;cases b;exact j.z,s.z⟩
   | false =>
    go_wp2_with (go_at_call 205;with_reducible refine(B.z).mono ?_;rintro e w6 ⟨rfl,l⟩;have s:=zb l;clear l);go_roundw
    case rel =>
     refine⟨k+1,by omega,by go_num,zb ⟨s.z,λx b=>?_⟩⟩;rw[BD,A.z]at b;rcases An.1 b with b|b
     ·exact h.z.2 x b
     ·simp at b;subst b;exact j.z
    case measure=>simp[intOf];omega
  ·have t:k=N:=by omega
   go_wp2_with fail;go_ret;exact .inr ⟨rfl,λx b=>h.z.2 x (by rwa [AW (by rw[i.z];omega)]),by rw[i.z,<-t];exact h.z.1⟩
structure Ik(J:Nat->List (Df×Value)->World->Prop)(N g cap:Nat):Prop where
 obj:∀k R w,0<N->J k R w->∃cur,w.heap[g]?=some (.cells cur 173 (0,0))
 sl:∀k R w (x:Df×Value),J k R w->x∈R->∃a n c,x.2 = .slice a n c
 st:∀k R w (i:Nat) (x:Df×Value),J k R w->i<N->x∈R->J k (R.set i x) (((w.setCell ⟨g,i*3,none⟩ (.int .u64 x.1.n)).setCell ⟨g,i*3+1,none⟩ (.int .u64 x.1.at_)).setCell ⟨g,i*3+2,none⟩ x.2)
 cl:∀k R w (i:Nat),J k R w->i<N->∃w2 R2,(∀ty,(Builtin.clear_ #[123] ty #[.slice (some ⟨g,i*3,none⟩) (N-i) (cap-i)]).run prog w = .ok (.tuple #[]) w2)/\J k R2 w2/\R2.take i=R.take i
def NT(J:Nat->List (Df×Value)->World->Prop)(del:Df->Bool)(L:List (Df×Value))(a:Option Addr)(cap:Nat)(e:Ending)(w':World):Prop :=
 ∃(i:Nat) (R:List (Df×Value)),e = .returned (.slice a i cap)/\i<=L.length/\J L.length R w'/\R.take i=L.filter (λx => !del x.1)
def OE{del:Df->Bool}{l:List (Df×Value)}(h:∀x∈l,del x.1=false):l.filter (λx => !del x.1)=l :=
 DR.2 (λx hx=>by rw[h x hx];rfl)
def P8{α : Type}{l:List α}{x : α}(h:i<l.length):(l.set i x).take (i+1)=l.take i++[x]:=by
 rw[BD,List.take_set_of_le (by omega),List.getElem?_set_self h];rfl
variable{j:Nat}
def P7{α : Type}{l:List α}{x : α}(h:i<j):(l.set i x).drop j=l.drop j:=by
 rw[List.drop_set,AN h]
theorem gS(J:Nat->List (Df×Value)->World->Prop)(del:Df->Bool)(L:List (Df×Value))(N g cap cb:Nat)(a:Option Addr)(hN:L.length=N)(aa:N<=1099511627776)(al:N<=cap)(ab:cap<=maxLen)(ha:0<N->a=some ⟨g,0,none⟩)(hJ:K8 J N g)(hK:Ik J N g cap)
  (d:∀k w x,J k L w->L[k]?=some x->Calls prog 79 #[.agg #[.int .u64 x.1.n,.int .u64 x.1.at_,x.2],.pointer (some ⟨cb,0,none⟩)] w (λe w'=>e = .returned (.bool (del x.1))/\J (k+1) L w'))
  (b:∀k R w o x,J k R w->R[k]?=some x->L[k]?=some x->Calls prog 79 #[.agg #[.int .u64 x.1.n,.int .u64 x.1.at_,x.2],.pointer (some ⟨cb,0,none⟩)] (w.alloc o) (λe w'=>e = .returned (.bool (del x.1))/\J (k+1) R w'/\w'.heap[w.heap.size]?=(w.alloc o).heap[w.heap.size]?))
  (w:World) (h0:J 0 L w) :
  Calls prog 78 #[.slice a N cap,.func (.func 79) #[] #[.pointer (some ⟨cb,0,none⟩)]] w (NT J del L a cap):=by
 have ki:=fB J del L N g cap cb a hN aa ha hJ d w h0;unfold maxLen at ab;have U:=zb hJ;have H:=zb hK;have HC:=zb b;have HA:=zb ha;have V:=zb hN;have KI:=zb ki;clear hJ hK d b h0 ha hN ki;go_enter func78,ntmps78;go_wp2_with fail;refine(KI.z).mono ?_;clear KI;rintro e w1 (⟨k,rfl,z,f,h,I⟩|⟨rfl,f,h⟩)
 ·have ac:k<N:=by rw[<-V.z];exact z
  have ad:=HA.z (by omega);subst ad;have r:=zb I;have K:AA (L.take k=(L.take (k+1)).filter (λx => !del x.1)):=zb (by
   obtain⟨x,s⟩:∃x,L[k]?=some x:=⟨L[k],AJ z⟩;rw[BD,s,CP,OE f];simp[h x s])
  have d1:((k:Int) == -1)=false:=by rw[AR];omega
  clear z f h I;go_wp2_with fail
  go_loopw [5,6] (λiv jv wr=>∃(i j:Nat) (R:List (Df×Value)),iv = .int .i64 i/\jv = .int .i64 j/\i<j/\j<=N/\AA (J j R wr/\R.take i=(L.take j).filter (λx => !del x.1)/\R.drop j=L.drop j)) (λ_ jv _=>N-(intOf jv).toNat)
  case atStart=>exact⟨k,k+1,L,rfl,by go_num,by omega,by omega,zb ⟨r.z,K.z,rfl⟩⟩
  case round =>
   clear r K d1 ac;obtain⟨i,j,R,rfl,rfl,ae,hj,q⟩:=hrel;have M:=U.z.len j R wr q.z.1;by_cases hlt:j<N
   ·obtain⟨x,s⟩:∃x,R[j]?=some x:=⟨R[j]'(by omega),AJ (by omega)⟩;have A:L[j]?=some x:=by
     have h1:=A0 (λl=>l[0]?) q.z.2.2;simp only[A6,Br]at h1;rw[<-h1];exact s
    obtain⟨x0,x1,x2⟩:=U.z.rd j R wr q.z.1 j x s;obtain⟨Y,W⟩:=nm (wr.alloc (.cells #[.int .u64 x.1.n,.int .u64 x.1.at_,x.2] 173));have E:=HC.z j R wr (.cells #[.int .u64 x.1.n,.int .u64 x.1.at_,x.2] 173) x q.z.1 s A;have F:(wr.alloc (.cells #[.int .u64 x.1.n,.int .u64 x.1.at_,x.2] 173)).heap[wr.heap.size]?=some (.cells #[.int .u64 x.1.n,.int .u64 x.1.at_,x.2] 173 (0,0)):=heap_alloc_new wr _;rw[F]at E;rw[W]at E F;have y0:Y.cell? ⟨wr.heap.size,0,none⟩=some (.int .u64 x.1.n):=za F rfl;have y1:Y.cell? ⟨wr.heap.size,1,none⟩=some (.int .u64 x.1.at_):=za F rfl;have y2:Y.cell? ⟨wr.heap.size,2,none⟩=some x.2:=za F rfl;have HX:=zb (And.intro s A);obtain⟨X,Z,vc,hv⟩:=H.z.sl _ _ _ x q.z.1 (Ac s);obtain⟨⟨fn,m,t⟩,v⟩:=x;simp only at hv;subst hv;simp only at x0 x1 x2 E y0 y1 y2 W;obtain⟨dv,B⟩:=nm (del ⟨fn,m,t⟩);rw[B]at E;have af:=zb B;have KC:=zb E;have C:=zb M;obtain⟨yb,D⟩:=nm wr.heap.size;rw[D]at y0 y1 y2 KC;clear E s A B F M;go_upto_region 8 with fail;try rw[W]
    try rw[D]
    clear W D;go_wp2_with fail;refine(KC.z).mono ?_;rintro e y ⟨rfl,G,o6⟩;have z0:y.cell? ⟨yb,0,none⟩=some (.int .u64 fn):=za o6 rfl;have z1:y.cell? ⟨yb,1,none⟩=some (.int .u64 m):=za o6 rfl;have z2:y.cell? ⟨yb,2,none⟩=some (.slice X Z vc):=za o6 rfl;have J6:=zb G;have u:i<N:=by omega
    have O:AA ((L.take (j+1)).filter (λx => !del x.1)=(L.take j).filter (λx => !del x.1)++(if dv then []else [(⟨fn,m,t⟩,.slice X Z vc)])):=zb (by
     rw[BD,HX.z.2,CP]
     congr 1
     have:=af.z;cases dv<;>simp[this])
    have P:=zb (by
     have h1:=A0 (List.drop 1) q.z.2.2;simpa [CW]using h1)
    clear KC y0 y1 y2 x0 x1 x2 o6;cases dv with
    | true =>
     clear G;go_wp2_with fail;go_roundw
     case rel=>exact⟨i,j+1,R,rfl,by go_num,by omega,by omega,zb ⟨J6.z,by rw[O.z,q.z.2.1];simp,P.z⟩⟩
     case measure=>simp[intOf];omega
    | false =>
     obtain⟨cur,c⟩:=H.z.obj _ _ _ (by omega) G;obtain⟨xi,Q⟩:∃xi,R[i]?=some xi:=⟨R[i]'(by rw[C.z];exact u),AJ (by rw[C.z];exact u)⟩;obtain⟨w0,w1',w2'⟩:=U.z.rd _ R y G i xi Q;have f1:∀p,y.frozen? ⟨g,p,none⟩=false:=λp=>zf c
     have f2:∀p1 v1 p,(y.setCell ⟨g,p1,none⟩ v1).frozen? ⟨g,p,none⟩=false:=λp1 v1 p=>zf (zc c)
     have f3:∀p1 v1 p2 v2 p,((y.setCell ⟨g,p1,none⟩ v1).setCell ⟨g,p2,none⟩ v2).frozen? ⟨g,p,none⟩=false:=λp1 v1 p2 v2 p=>zf (zc (zc c))
     have J7:=zb (H.z.st _ R y i (⟨fn,m,t⟩,.slice X Z vc) G u (Ac HX.z.1));clear G c Q;go_wp2_with fail;go_roundw
     case rel =>
      refine⟨i+1,j+1,R.set i (⟨fn,m,t⟩,.slice X Z vc),by go_num,by go_num,by omega,by omega,zb ⟨J7.z,?_,?_⟩⟩
      ·rw[P8 (by rw[C.z];exact u),O.z,q.z.2.1];rfl
      ·rw[P7 (by omega),P.z]
     case measure=>simp[intOf];omega
   ·have ah:j=N:=by omega
    subst ah;obtain⟨w2,R2,kcl,j2,t2⟩:=H.z.cl j R wr i q.z.1 ae;have ai:=zb j2;have aj:=zb t2;have e1:¬cap=i:=by omega
    have d1:i<=cap:=by omega
    clear j2 t2;have HL:=V.z;have S:R2.take i=L.filter (λx => !del x.1):=by
     rw[aj.z,q.z.2.1,AW (by omega)]
    have ak:=zb S;have T:=zb HL;clear HL S;go_wp2_with fail;go_ret;exact⟨i,R2,rfl,by rw[T.z];omega,by rw[T.z];exact ai.z,ak.z⟩
 ·clear HC U H;have r:=zb h;have HF:=zb (OE f);clear f h;go_wp2_with fail;go_ret;exact⟨N,L,rfl,by rw[V.z];exact AG _,r.z,by rw[HF.z,<-V.z,AW (AG _)]⟩
theorem ic(J:Nat->List (Df×Value)->World->Prop)(del:Df->Bool)(L:List (Df×Value))(N g cap lb cb:Nat)(a:Option Addr)(hN:L.length=N)(aa:N<=1099511627776)(al:N<=cap)(ab:cap<=maxLen)(ha:0<N->a=some ⟨g,0,none⟩)(hJ:K8 J N g)(hK:Ik J N g cap)
  (d:∀k w x,J k L w->L[k]?=some x->Calls prog 205 #[.agg #[.int .u64 x.1.n,.int .u64 x.1.at_,x.2],.pointer (some ⟨lb,0,none⟩),.pointer (some ⟨cb,0,none⟩)] w (λe w'=>e = .returned (.bool (del x.1))/\J (k+1) L w'))
  (b:∀k R w o x,J k R w->R[k]?=some x->L[k]?=some x->Calls prog 205 #[.agg #[.int .u64 x.1.n,.int .u64 x.1.at_,x.2],.pointer (some ⟨lb,0,none⟩),.pointer (some ⟨cb,0,none⟩)] (w.alloc o) (λe w'=>e = .returned (.bool (del x.1))/\J (k+1) R w'/\w'.heap[w.heap.size]?=(w.alloc o).heap[w.heap.size]?))
  (w:World) (h0:J 0 L w) :
  Calls prog 78 #[.slice a N cap,.func (.func 205) #[] #[.pointer (some ⟨lb,0,none⟩),.pointer (some ⟨cb,0,none⟩)]] w (NT J del L a cap):=by
 have ki:=gT J del L N g cap lb cb a hN aa ha hJ d w h0;unfold maxLen at ab;have U:=zb hJ;have H:=zb hK;have HC:=zb b;have HA:=zb ha;have V:=zb hN;have KI:=zb ki;clear hJ hK d b h0 ha hN ki;go_enter func78,ntmps78;go_wp2_with fail;refine(KI.z).mono ?_;clear KI;rintro e w1 (⟨k,rfl,z,f,h,I⟩|⟨rfl,f,h⟩)
 ·have ac:k<N:=by rw[<-V.z];exact z
  have ad:=HA.z (by omega);subst ad;have r:=zb I;have K:AA (L.take k=(L.take (k+1)).filter (λx => !del x.1)):=zb (by
   obtain⟨x,s⟩:∃x,L[k]?=some x:=⟨L[k],AJ z⟩;rw[BD,s,CP,OE f];simp[h x s])
  have d1:((k:Int) == -1)=false:=by rw[AR];omega
  clear z f h I;go_wp2_with fail
  go_loopw [5,6] (λiv jv wr=>∃(i j:Nat) (R:List (Df×Value)),iv = .int .i64 i/\jv = .int .i64 j/\i<j/\j<=N/\AA (J j R wr/\R.take i=(L.take j).filter (λx => !del x.1)/\R.drop j=L.drop j)) (λ_ jv _=>N-(intOf jv).toNat)
  case atStart=>exact⟨k,k+1,L,rfl,by go_num,by omega,by omega,zb ⟨r.z,K.z,rfl⟩⟩
  case round =>
   clear r K d1 ac;obtain⟨i,j,R,rfl,rfl,ae,hj,q⟩:=hrel;have M:=U.z.len j R wr q.z.1;by_cases hlt:j<N
   ·obtain⟨x,s⟩:∃x,R[j]?=some x:=⟨R[j]'(by omega),AJ (by omega)⟩;have A:L[j]?=some x:=by
     have h1:=A0 (λl=>l[0]?) q.z.2.2;simp only[A6,Br]at h1;rw[<-h1];exact s
    obtain⟨x0,x1,x2⟩:=U.z.rd j R wr q.z.1 j x s;obtain⟨Y,W⟩:=nm (wr.alloc (.cells #[.int .u64 x.1.n,.int .u64 x.1.at_,x.2] 173));have E:=HC.z j R wr (.cells #[.int .u64 x.1.n,.int .u64 x.1.at_,x.2] 173) x q.z.1 s A;have F:(wr.alloc (.cells #[.int .u64 x.1.n,.int .u64 x.1.at_,x.2] 173)).heap[wr.heap.size]?=some (.cells #[.int .u64 x.1.n,.int .u64 x.1.at_,x.2] 173 (0,0)):=heap_alloc_new wr _;rw[F]at E;rw[W]at E F;have y0:Y.cell? ⟨wr.heap.size,0,none⟩=some (.int .u64 x.1.n):=za F rfl;have y1:Y.cell? ⟨wr.heap.size,1,none⟩=some (.int .u64 x.1.at_):=za F rfl;have y2:Y.cell? ⟨wr.heap.size,2,none⟩=some x.2:=za F rfl;have HX:=zb (And.intro s A);obtain⟨X,Z,vc,hv⟩:=H.z.sl _ _ _ x q.z.1 (Ac s);obtain⟨⟨fn,m,t⟩,v⟩:=x;simp only at hv;subst hv;simp only at x0 x1 x2 E y0 y1 y2 W;obtain⟨dv,B⟩:=nm (del ⟨fn,m,t⟩);rw[B]at E;have af:=zb B;have KC:=zb E;have C:=zb M;obtain⟨yb,D⟩:=nm wr.heap.size;rw[D]at y0 y1 y2 KC;clear E s A B F M;go_upto_region 8 with fail;try rw[W]
    try rw[D]
    clear W D;go_wp2_with fail;refine(KC.z).mono ?_;rintro e y ⟨rfl,G,o6⟩;have z0:y.cell? ⟨yb,0,none⟩=some (.int .u64 fn):=za o6 rfl;have z1:y.cell? ⟨yb,1,none⟩=some (.int .u64 m):=za o6 rfl;have z2:y.cell? ⟨yb,2,none⟩=some (.slice X Z vc):=za o6 rfl;have J6:=zb G;have u:i<N:=by omega
    have O:AA ((L.take (j+1)).filter (λx => !del x.1)=(L.take j).filter (λx => !del x.1)++(if dv then []else [(⟨fn,m,t⟩,.slice X Z vc)])):=zb (by
     rw[BD,HX.z.2,CP]
     congr 1
     have:=af.z;cases dv<;>simp[this])
    have P:=zb (by
     have h1:=A0 (List.drop 1) q.z.2.2;simpa [CW]using h1)
    clear KC y0 y1 y2 x0 x1 x2 o6;cases dv with
    | true =>
     clear G;go_wp2_with fail;go_roundw
     case rel=>exact⟨i,j+1,R,rfl,by go_num,by omega,by omega,zb ⟨J6.z,by rw[O.z,q.z.2.1];simp,P.z⟩⟩
     case measure=>simp[intOf];omega
    | false =>
     obtain⟨cur,c⟩:=H.z.obj _ _ _ (by omega) G;obtain⟨xi,Q⟩:∃xi,R[i]?=some xi:=⟨R[i]'(by rw[C.z];exact u),AJ (by rw[C.z];exact u)⟩;obtain⟨w0,w1',w2'⟩:=U.z.rd _ R y G i xi Q;have f1:∀p,y.frozen? ⟨g,p,none⟩=false:=λp=>zf c
     have f2:∀p1 v1 p,(y.setCell ⟨g,p1,none⟩ v1).frozen? ⟨g,p,none⟩=false:=λp1 v1 p=>zf (zc c)
     have f3:∀p1 v1 p2 v2 p,((y.setCell ⟨g,p1,none⟩ v1).setCell ⟨g,p2,none⟩ v2).frozen? ⟨g,p,none⟩=false:=λp1 v1 p2 v2 p=>zf (zc (zc c))
     have J7:=zb (H.z.st _ R y i (⟨fn,m,t⟩,.slice X Z vc) G u (Ac HX.z.1));clear G c Q;go_wp2_with fail;go_roundw
     case rel =>
      refine⟨i+1,j+1,R.set i (⟨fn,m,t⟩,.slice X Z vc),by go_num,by go_num,by omega,by omega,zb ⟨J7.z,?_,?_⟩⟩
      ·rw[P8 (by rw[C.z];exact u),O.z,q.z.2.1];rfl
      ·rw[P7 (by omega),P.z]
     case measure=>simp[intOf];omega
   ·have ah:j=N:=by omega
    subst ah;obtain⟨w2,R2,kcl,j2,t2⟩:=H.z.cl j R wr i q.z.1 ae;have ai:=zb j2;have aj:=zb t2;have e1:¬cap=i:=by omega
    have d1:i<=cap:=by omega
    clear j2 t2;have HL:=V.z;have S:R2.take i=L.filter (λx => !del x.1):=by
     rw[aj.z,q.z.2.1,AW (by omega)]
    have ak:=zb S;have T:=zb HL;clear HL S;go_wp2_with fail;go_ret;exact⟨i,R2,rfl,by rw[T.z];omega,by rw[T.z];exact ai.z,ak.z⟩
 ·clear HC U H;have r:=zb h;have HF:=zb (OE f);clear f h;go_wp2_with fail;go_ret;exact⟨N,L,rfl,by rw[V.z];exact AG _,r.z,by rw[HF.z,<-V.z,AW (AG _)]⟩
def zx.refl(h:zx tag i b W0 V0 c tag' V' W'):zx tag' i b W' V' c tag' V' W' :=
 ⟨h.c,Dj.same h.e.z (DW.refl DX W'),DW.refl _ _,h.p,⟨rfl,rfl⟩⟩
variable{W2:World}
def zx.trans{V1:CV}{c2:CS}{tag2:Nat->Nat×Nat}{a:CV}(h:zx tag i b W0 V0 c tag' V' W')(k:zx tag' i b W' V1 c2 tag2 a W2):zx tag i b W0 a c2 tag2 a W2 :=
 ⟨k.c,h.e.trans k.e h.m.size,Ec h.e h.m k.m,h.p,⟨rfl,rfl⟩⟩
theorem Fi{α β : Type}:∀(l:List (α × β)),(l.map (·.1)).zip (l.map (·.2))=l
 | []=>rfl
 | x::l=>by simp[Fi l]
def Jz(x:Df×Value)(l:List (Df×Value)):zy (x::l)=(.int .u64 x.1.n)::(.int .u64 x.1.at_)::x.2::zy l:=rfl
theorem RJ:∀(R:List (Df×Value)) (i:Nat) (x:Df×Value),i<R.length->zy (R.set i x)=(((zy R).set (i*3) (.int .u64 x.1.n)).set (i*3+1) (.int .u64 x.1.at_)).set (i*3+2) x.2
 | [],_,_,h=>by simp at h
 | y::R,0,x,_=>by simp[Jz]
 | y::R,i+1,x,h=>by
  have ih:=RJ R i x (by simpa using h);rw[CO,Jz,Jz,ih,show(i+1)*3=i*3+3 by omega];simp[CO]
theorem RI:∀(R:List (Df×Value)) (j:Nat) (x:Df×Value),R[j]?=some x->(zy R)[j*3]?=some (.int .u64 x.1.n)/\(zy R)[j*3+1]?=some (.int .u64 x.1.at_)/\(zy R)[j*3+2]?=some x.2
 | [],j,x,h=>by simp at h
 | y::R,0,x,h=>by
  simp at h;subst h;simp[Jz]
 | y::R,j+1,x,h=>by
  have ih:=RI R j x (by simpa using h);rw[Jz,show(j+1)*3=j*3+3 by omega];simpa using ih
theorem zZ(R:List (Df×Value)):(zy R).length=R.length*3:=by
 induction R with
 | nil=>rfl
 | cons x R ih =>
  rw[Jz];simp only[AQ,ih];omega
def QR(A B:List (Df×Value)):zy (A++B)=zy A++zy B:=by simp[zy]
variable{N cap g:Nat}{w:World}{xs:List Value}
def IU(h:w.ownsRow 0 173 3 (.slice (some ⟨g,0,none⟩) N cap) N xs):∃cur,w.heap[g]?=some (.cells cur 173 (0,0))/\N<=cap/\cap<=maxLen/\cur.size=cap*3/\cur.toList.take (N*3)=xs:=by
 rcases h.2 with⟨e,_⟩|⟨g',a,cur,e,_,h1,h2,h3,h4,h5⟩
 ·cases e
 ·cases e;exact⟨cur,h1,h2,h3,h4,h5⟩
variable{R:List (Df×Value)}
def SQ(x:Df×Value)(h:w.ownsRow 0 173 3 (.slice (some ⟨g,0,none⟩) N cap) N (zy R))(hR:R.length=N)(hi:i<N):(((w.setCell ⟨g,i*3,none⟩ (.int .u64 x.1.n)).setCell ⟨g,i*3+1,none⟩ (.int .u64 x.1.at_)).setCell ⟨g,i*3+2,none⟩ x.2).ownsRow 0 173 3 (.slice (some ⟨g,0,none⟩) N cap) N (zy (R.set i x)):=by
 obtain⟨cur,h1,h2,h3,h4,h5⟩:=IU h;refine⟨by rw[zZ,Ba,hR],.inr ⟨g,cap,_,rfl,AL _,zc (zc (zc h1)),h2,h3,by simp[h4],?_⟩⟩;rw[RJ R i x (by omega),<-h5];simp[DU]
def Ti(h:w.ownsRow 0 173 3 (.slice (some ⟨g,0,none⟩) N cap) N (zy R))(hR:R.length=N)(j:Nat)(x:Df×Value)(e:R[j]?=some x):w.cell? ⟨g,j*3,none⟩=some (.int .u64 x.1.n)/\w.cell? ⟨g,j*3+1,none⟩=some (.int .u64 x.1.at_)/\w.cell? ⟨g,j*3+2,none⟩=some x.2:=by
 obtain⟨d,h1,h2,h3,h4,h5⟩:=IU h;have hj:j<N:=by
  have:=(AM.1 e).1;omega
 obtain⟨a,b,c⟩:=RI R j x e;have hc:∀q v,q<N*3->(zy R)[q]?=some v->d[q]?=some v:=λq v hq f=>by
  rw[<-h5,BE hq,Bd]at f;exact f
 exact⟨za h1 (hc _ _ (by omega) a),za h1 (hc _ _ (by omega) b),za h1 (hc _ _ (by omega) c)⟩
def Pi{n:Nat}(h:w.ownsRow 0 173 3 (.slice (some ⟨g,0,none⟩) N cap) N (zy R))(b:R.length=N)(c:n<=N):w.ownsRow 0 173 3 (.slice (some ⟨g,0,none⟩) n cap) n (zy (R.take n)):=by
 obtain⟨a,h1,h2,h3,h4,h5⟩:=IU h;refine⟨by rw[zZ,AS,b,BM c],.inr ⟨g,cap,a,rfl,AL _,h1,by omega,h3,h4,?_⟩⟩;have h6:zy R=zy (R.take n)++zy (R.drop n):=by rw[<-QR,Bn]
 have h7:(zy (R.take n)).length=n*3:=by rw[zZ,AS,b,BM c]
 have h8:a.toList.take (n*3)=(a.toList.take (N*3)).take (n*3):=by rw[BZ,BM (by omega)]
 rw[h8,h5,h6,BC (by omega),AW (by omega)]
def zg.fly{R':List (Df×Value)}(h:zg tag i b c V W)(m:DW (λq=>q=g) W W')(hg:V.ft.ownBlock=some g)(d:W'.ownsRow 0 173 3 V.ft R'.length (zy R'))(f:∀p∈R',GF tag (i,5) W p.2 p.1.fs):zg tag i b { c with flight:=R'.map (·.1) } { V with fts:=R'.map (·.2) } W':=by
 have a:=h.tft g hg;have j:b≠g:=λe=>by
  rw[<-e,h.tb]at a;simp at a
 refine h.build (R:=λr=>r=4) m (λq l=>⟨4,rfl,by rw[show q=g from l];exact a⟩) (λ_ _=>rfl) ?_ (.inl ⟨rfl,rfl,rfl,by omega,by omega⟩) (λk hk=>.inl ⟨rfl,rfl,by omega⟩) (λk hk=>.inl ⟨rfl,rfl,by omega⟩) (λk hk=>.inl ⟨rfl,rfl,by omega⟩) (λk hk=>.inl ⟨rfl,rfl,by omega⟩) (λk hk=>.inl ⟨rfl,rfl,by omega⟩) (.inr ⟨?_,?_,?_,?_⟩) (.inl ⟨rfl,rfl,by omega⟩) (.inl ⟨rfl,rfl,by omega⟩) (.inl ⟨rfl,rfl,by omega⟩)
 ·exact(m.obj j h.obj)
 ·simp only[A9,Fi];exact d
 ·simp
 ·simp only[Fi];intro p hp;exact(f p hp).mod m (λq l e=>by rw[show q=g from l,a]at e;simp at e) (λ_ e=>e)
 ·exact h.tft
def CS.fly(c:CS)(l:List Df):CS:={ c with flight:=l }
def Yr(c:CS)(l:List Df)(f:Db):(c.fly l).again f=(c.again f).fly l:=by
 unfold CS.again CS.fly;split
 ·rfl
 ·split
  ·rfl
  ·split
   ·rfl
   ·split<;>rfl
theorem Px:∀(fs:List Db) (c:CS) (l:List Df),(c.fly l).agains fs=(c.agains fs).fly l
 | [],_,_=>rfl
 | f::fs,c,l=>by
  show((c.fly l).again f).agains fs=((c.again f).agains fs).fly l;rw[Yr,Px fs]
def fA(c:CS)(f:Db)(p:Df):(c.again f).late p=c.late p:=by
 unfold CS.again CS.late;split
 ·rfl
 ·split
  ·rfl
  ·split
   ·rfl
   ·split<;>rfl
theorem P6:∀(fs:List Db) (c:CS) (p:Df),(c.agains fs).late p=c.late p
 | [],_,_=>rfl
 | f::fs,c,p=>by
  show((c.again f).agains fs).late p=_;rw[P6 fs,fA]
def CS.lose1(c:CS)(p:Df):CS:=if c.late p then c.agains p.fs else c
def CS.loses(c:CS)(l:List Df):CS:=l.foldl CS.lose1 c
def ey(c:CS)(p q:Df):(c.lose1 p).late q=c.late q:=by
 unfold CS.lose1;split
 ·exact P6 _ _ _
 ·rfl
theorem Th:∀(l:List Df) (c:CS) (q:Df),(c.loses l).late q=c.late q
 | [],_,_=>rfl
 | p::l,c,q=>by
  show((c.lose1 p).loses l).late q=_;rw[Th l,ey]
def Yq(c:CS)(l:List Df)(p:Df):(c.fly l).lose1 p=(c.lose1 p).fly l:=by
 unfold CS.lose1;rw[show(c.fly l).late p=c.late p from rfl];split
 ·exact Px _ _ _
 ·rfl
def ex(c:CS)(l:List Df)(k:Nat)(p:Df)(h:l[k]?=some p):c.loses (l.take (k+1))=(c.loses (l.take k)).lose1 p:=by
 unfold CS.loses;rw[BD,h,Ci];rfl
theorem Lx(c:CS):c.lose=(c.loses c.flight).fly (c.flight.filter λp => !c.late p):=by
 have h:∀(l:List Df) (d:CS),(∀q,d.late q=c.late q)->l.foldl (λc p=>if c.late p then c.agains p.fs else c) d=d.loses l:=by
  intro l
  induction l with
  | nil=>intro d _;rfl
  | cons p l ih =>
   intro d hd;show l.foldl _ (if d.late p then d.agains p.fs else d)=(d.lose1 p).loses l;exact ih _ (λq=>by
    split
    ·rw[P6,hd]
    ·exact hd q)
 unfold CS.lose;rw[h c.flight c (λ_=>rfl)];rfl
def Iq.fly(h:Iq c f)(l:List Df):Iq (c.fly l) f :=
 ⟨λe=>⟨(h.k4 e).lt,(h.k4 e).st,(h.k4 e).sent,(h.k4 e).came,(h.k4 e).end_,(h.k4 e).dl⟩,h.k3,h.k6⟩
def Wz(c:CS)(l:List Df)(f:Db):(c.fly l).ackF f=(c.ackF f).fly l:=by
 unfold CS.ackF CS.fly;split<;>rfl
theorem Ph:∀(fs:List Db) (c:CS) (l:List Df),fs.foldl CS.ackF (c.fly l)=(fs.foldl CS.ackF c).fly l
 | [],_,_=>rfl
 | f::fs,c,l=>by
  show fs.foldl CS.ackF ((c.fly l).ackF f)=(fs.foldl CS.ackF (c.ackF f)).fly l;rw[Wz,Ph fs]
def Wy(c:CS)(rs:zC)(l:List Df)(p:Df):(c.fly l).ackP rs p=(c.ackP rs p).fly l:=by
 unfold CS.ackP;split
 ·exact Ph _ _ _
 ·rfl
def CS.ackPs(c:CS)(rs:zC)(l:List Df):CS:=l.foldl (λc p=>c.ackP rs p) c
def Yp(c:CS)(rs:zC)(l:List Df)(k:Nat)(p:Df)(h:l[k]?=some p):c.ackPs rs (l.take (k+1))=(c.ackPs rs (l.take k)).ackP rs p:=by
 unfold CS.ackPs;rw[BD,h,Ci];rfl
def gR(c:CS)(f:Db):(c.ackF f).flight=c.flight:=by
 unfold CS.ackF;split<;>rfl
theorem UM:∀(fs:List Db) (c:CS),(fs.foldl CS.ackF c).flight=c.flight
 | [],_=>rfl
 | f::fs,c=>by
  show(fs.foldl CS.ackF (c.ackF f)).flight=_;rw[UM fs,gR]
def ew(h:fs[k]?=some f):(fs.take (k+1)).foldl CS.ackF c=((fs.take k).foldl CS.ackF c).ackF f:=by
 rw[BD,h,Ci];rfl
def Ww(c:CS)(rs:zC)(h:¬c.next<=DY rs 0):c.acked rs=(0,(((({ c with largest:=max c.largest (DY rs 0) }:CS).ackPs rs c.flight).fly (c.flight.filter λp => !Eu rs p)).lose)):=by
 unfold CS.acked;rw[AH h];rfl
variable{W'':World}{v':Value}
def zx.came{s:Dh}(h:zx tag i b W0 V0 c tag' V' W')(hk:k<8)(ha:Lp s b (9+15*k+4) (V'.wc k) W' W'' v')(hm:s.most=(c.ws k).came.most):∃tag2 V2,zx tag i b W0 V0 { c with ws:=upd c.ws k { c.ws k with came:=s } } tag2 V2 W''/\∀g,g<W'.heap.size->tag2 g=tag' g:=by
 obtain⟨f,l,d,u⟩:=ha;have v:=h.p;have n:∀{g r:Nat},tag' g=(i,r)->g<W'.heap.size:=λhg=>EQ h.e.z hg v
 have o:∀g,(tag' g).1=i->retag tag' W' W'' (i,30+k) g=tag' g:=λg hg=>zz (n (r:=(tag' g).2) (by rw[<-hg]))
 have w:∀g,(g=b\/(V'.wc k).ownBlock=some g)->∃r,(r=1\/r=30+k)/\tag' g=(i,r):=λg hg=>by
  rcases hg with hg|hg
  ·exact⟨1,.inl rfl,by rw[hg,h.c.tb]⟩
  ·exact⟨30+k,.inr rfl,h.c.twc k hk g hg⟩
 refine⟨retag tag' W' W'' (i,30+k),{ V' with wc:=upd V'.wc k v' },⟨?_,h.e.trans (Ib d.size) h.m.size,Ec h.e h.m (d.mono (λg hg=>.inl ?_)),v,h.ft⟩,λg hg=>zz hg⟩
 ·refine h.c.build (R:=λr=>r=1\/r=30+k) d w o ?_ (.inl ⟨rfl,rfl,rfl,by omega,by omega⟩) (λq t=>.inl ⟨?_,rfl,by omega⟩) (λq t=>.inl ⟨?_,rfl,by omega⟩) (λq t=>?_) (λq t=>.inl ⟨rfl,rfl,by omega⟩) (λq t=>.inl ⟨rfl,rfl,by omega⟩) (.inl ⟨rfl,rfl,rfl,by omega,by omega⟩) (.inl ⟨rfl,rfl,by omega⟩) (.inl ⟨rfl,rfl,by omega⟩) (.inl ⟨rfl,rfl,by omega⟩)
  ·rw[l,zc (zc h.c.obj)];simp only[Ap];have e1:=GY c c V' { V' with wc:=upd V'.wc k v' } (k:=k) (j:=4) v' hk (by decide) (λq _=>by
    by_cases a:q=k
    ·subst a;simp only[ze,A5];rfl
    ·simp only[zd _ _ a,AH a]) rfl rfl rfl
   rw[e1];have e2:=GY c { c with ws:=upd c.ws k { c.ws k with came:=s } } { V' with wc:=upd V'.wc k v' } { V' with wc:=upd V'.wc k v' } (k:=k) (j:=5) (.int .u64 s.fl) hk (by decide) (λq _=>by
    by_cases a:q=k
    ·subst a;simp only[ze,A5,FZ,hm];rfl
    ·simp only[zd _ _ a,AH a]) rfl rfl rfl
   rw[show 9+15*k+4+1=9+15*k+5 from rfl,e2]
  ·by_cases a:q=k
   ·subst a;simp only[ze]
   ·simp only[zd _ _ a]
  ·by_cases a:q=k
   ·subst a;simp only[ze]
   ·simp only[zd _ _ a]
  ·by_cases a:q=k
   ·subst a;simp only[ze];refine .inr ⟨f,λg hg=>?_⟩;rcases u g hg with y|y
    ·rw[zz (n (h.c.twc q hk g y)),h.c.twc q hk g y]
    ·exact Fr y (zF f g hg)
   ·exact .inl ⟨by simp only[zd _ _ a],by simp only[zd _ _ a],by omega⟩
 ·obtain⟨r,hr,e⟩:=w g hg;exact EK e (by omega)
structure Lu(c:CS)(f:Db):Prop where
 st:∃k:Nat,k<8/\f.stream=(k:Int)
 a:f.kind=4->f.data≠[]->∃k,K5 c f k
variable{l:List UInt8}
theorem Xe(h:l≠[]):(zq l).toList.isEmpty=false:=by
 rw[ByteArray.toList_eq,IL];cases l with
 | nil=>exact absurd rfl h
 | cons a l=>rfl
def Xd:(zq []).toList.isEmpty=true:=by
 rw[ByteArray.toList_eq,IL];rfl
variable{q:Nat}{rs:zC}
def eq{p:Df}(a:q<rs.length)(h1:Da rs q<=p.n)(h2:p.n<=DY rs q):Eu rs p=true:=by
 unfold Eu;rw[B7];refine⟨rs[q],DH a,?_⟩;have e:rs.getD q (0,0)=rs[q]:=by simp[List.getD,a]
 unfold Da at h1;unfold DY at h2;rw[e]at h1 h2;simp[h1,h2]
def gQ{p:Df}(h:∀j,j<rs.length->¬(Da rs j<=p.n/\p.n<=DY rs j)):Eu rs p=false:=by
 unfold Eu;rw[Ck];intro r hr;obtain⟨j,a,rfl⟩:=Ct.1 hr;have h1:=h j a;have e:rs.getD j (0,0)=rs[j]:=by simp[List.getD,a]
 unfold Da DY at h1;rw[e]at h1;simpa using h1
def VJ(tag:Nat->Nat×Nat)(i b:Nat)(W0:World)(V0:CV)(c:CS)(rs:zC)(p:Df)(e:Ending)(W':World):Prop :=
 e = .returned (.bool (Eu rs p))/\∃tag' V',zx tag i b W0 V0 (c.ackP rs p) tag' V' W'
def Pc{α : Type}(f:Nat -> α)(k:Nat)(x y : α):upd (upd f k x) k y=upd f k y:=by
 funext j;by_cases h:j=k
 ·rw[h,ze,ze]
 ·rw[zd _ _ h,zd _ _ h,zd _ _ h]
def Om(tag:Nat->Nat×Nat)(i b:Nat)(W0:World)(V0:CV)(c2:CS)(tag':Nat->Nat×Nat)(W':World)(e:Ending)(W'':World):Prop :=
 e = .returned (.tuple #[])/\(∃tag2 V2,zx tag i b W0 V0 c2 tag2 V2 W''/\∀g,g<W'.heap.size->tag2 g=tag' g)/\∀g,g<W'.heap.size->tag' g=(0,0)->W''.heap[g]?=W'.heap[g]?
def zx.addCame(h:zx tag i b W0 V0 c tag' V' W')(hk:k<8)(d:(c.ws k).came.Ok)(lo hi:Nat)(j:lo<=zB)(l:hi<=zB):Calls prog 88 #[.pointer (some ⟨b,9+15*k+4,none⟩),.int .u64 lo,.int .u64 hi] W' (Om tag i b W0 V0 { c with ws:=upd c.ws k { c.ws k with came:=(c.ws k).came.add lo hi } } tag' W'):=by
 have hm:=d.most;have hrl:=d.rl;have m:=d.fl;have hp:=h.p;unfold zB at j l m;have n:(V'.wc k).ownBlock≠some b:=λe=>by
  have h1:=h.c.twc k hk b e;rw[h.c.tb]at h1;have:=A0 Prod.snd h1;simp only at this;omega
 refine(Jo (c.ws k).came b (9+15*k+4) lo hi (V'.wc k) W' (h.c.cameAt hk (by omega)) d.wf (by omega) (by omega) (by omega) n hm.1 (by omega)).mono ?_;rintro e W'' ⟨v',rfl,h1,h2,h3,h4⟩;refine⟨rfl,?_,λg hg f=>h3.block g hg (λx=>?_)⟩
 ·obtain⟨tag2,V2,r,f⟩:=h.came hk ⟨h1,h2,h3,h4⟩ (G8 _ _ _);exact⟨tag2,V2,r,f⟩
 ·rcases x with x|x
  ·have a:=h.c.tb;rw[<-x,f]at a;have:=A0 Prod.snd a;simp at this
  ·have a:=h.c.twc k hk g x;rw[f]at a;have:=A0 Prod.snd a;simp at this;omega
def zx.addSent(h:zx tag i b W0 V0 c tag' V' W')(hk:k<8)(d:(c.ws k).sent.Ok)(lo hi:Nat)(j:lo<=zB)(l:hi<=zB):Calls prog 88 #[.pointer (some ⟨b,9+15*k+1,none⟩),.int .u64 lo,.int .u64 hi] W' (Om tag i b W0 V0 { c with ws:=upd c.ws k { c.ws k with sent:=(c.ws k).sent.add lo hi } } tag' W'):=by
 have hm:=d.most;have hrl:=d.rl;have m:=d.fl;have hp:=h.p;unfold zB at j l m;have n:(V'.ws k).ownBlock≠some b:=λe=>by
  have h1:=h.c.tws k hk b e;rw[h.c.tb]at h1;have:=A0 Prod.snd h1;simp only at this;omega
 refine(Jo (c.ws k).sent b (9+15*k+1) lo hi (V'.ws k) W' (h.c.sentAt hk (by omega)) d.wf (by omega) (by omega) (by omega) n hm.1 (by omega)).mono ?_;rintro e W'' ⟨v',rfl,h1,h2,h3,h4⟩;refine⟨rfl,?_,λg hg f=>h3.block g hg (λx=>?_)⟩
 ·obtain⟨tag2,V2,r,f⟩:=h.sent hk ⟨h1,h2,h3,h4⟩ (G8 _ _ _);exact⟨tag2,V2,r,f⟩
 ·rcases x with x|x
  ·have a:=h.c.tb;rw[<-x,f]at a;have:=A0 Prod.snd a;simp at this
  ·have a:=h.c.tws k hk g x;rw[f]at a;have:=A0 Prod.snd a;simp at this;omega
def VI(c:CS)(f:Db)(k:Nat)(a:f.stream=(k:Int))(h4:f.kind=4)(hd:f.data≠[]){c2 c3:CS}(h2:c2={ c with ws:=upd c.ws k { c.ws k with came:=(c.ws k).came.add f.off (f.off+f.data.length-1) } })(h3:c3={ c2 with ws:=upd c2.ws k { c2.ws k with sent:=(c2.ws k).sent.add f.off (f.off+f.data.length-1) } }):c3=c.ackF f:=by
 subst h3 h2;unfold CS.ackF WS.acked;rw[AN ⟨h4,hd⟩,a];simp only[Ao,ze];rw[Pc]
def TU(c:CS)(f:Db)(h:¬(f.kind=4/\f.data≠[])):c.ackF f=c:=by
 unfold CS.ackF;rw[AH h]
def eh(h:zx tag i b W0 V0 c tag0 V W)(cb lb:Nat)(rs:zC)(la:Option Addr)(s:Nat)
  (aF:W0.cell? ⟨cb,0,none⟩=some (.pointer (some ⟨b,0,none⟩))) (aG:¬Dp i tag cb) (aH:W0.cell? ⟨lb,0,none⟩=some (.slice la rs.length s)) (G:¬Dp i tag lb)
  (ai:RR W0 (.slice la rs.length s) rs) (D:Dl (Dp i tag) (.slice la rs.length s)) (a4:rs.length<=1099511627776)
  (p:Df) (v:Value) (hp:(p,v)∈c.flight.zip V0.fts) (aI:Eu rs p=true->∀k f,p.fs[k]?=some f->Lu ((p.fs.take k).foldl CS.ackF c) f) (a5:p.fs.length<=1099511627776) :
  Calls prog 205 #[.agg #[.int .u64 p.n,.int .u64 p.at_,v],.pointer (some ⟨lb,0,none⟩),.pointer (some ⟨cb,0,none⟩)] W (VJ tag i b W0 V0 c rs p):=by
 have aJ:AA (∀{c':CS} {tag':Nat->Nat×Nat} {V':CV} {W':World},zx tag i b W0 V0 c' tag' V' W'->W'.cell? ⟨cb,0,none⟩=some (.pointer (some ⟨b,0,none⟩))):=zb (λr=>r.m.cell (a:=⟨cb,0,none⟩) aG aF);have aK:AA (∀{c':CS} {tag':Nat->Nat×Nat} {V':CV} {W':World},zx tag i b W0 V0 c' tag' V' W'->W'.cell? ⟨lb,0,none⟩=some (.slice la rs.length s)):=zb (λr=>r.m.cell (a:=⟨lb,0,none⟩) G aH);have aL:AA (∀{c':CS} {tag':Nat->Nat×Nat} {V':CV} {W':World},zx tag i b W0 V0 c' tag' V' W'->RR W' (.slice la rs.length s) rs):=zb (λr=>ai.mod r.m D);have a6:rs.length<=s/\s<=maxLen:=by
  obtain⟨_,_,e,q1,q2,_⟩:=ai;cases e;exact⟨q1,q2⟩
 obtain⟨aM,aN⟩:=a6;unfold maxLen at aN;have HP:=zb hp;have aO:=zb aI;obtain⟨pn,H⟩:=nm p.n;obtain⟨pa,T⟩:=nm p.at_;obtain⟨fs,Q⟩:=nm p.fs;rw[Q]at aO a5;rw[H,T];have aj:=zb H;have FT:=h.c.fs (p,v) (by rw[h.ft.2];exact hp);obtain⟨l,hl,aP,-,-⟩:=FT;simp only at hl aP;rw[Q]at hl;obtain⟨a,cap,rfl,q1,q2,-⟩:=aP;have U:l.length=fs.length:=by rw[<-hl,A9]
 rw[U]at HP q1 ⊢;have aQ:=zb Q;have a7:=aJ.z h;have aR:=aK.z h;obtain⟨W1,R⟩:=nm (W.alloc (.cells #[.int .u64 pn,.int .u64 pa,.slice a fs.length cap] 173));have m1:=AB R
 have R1:=zb (h.mod0 m1);have o1:=AD R
 obtain⟨pb,ak⟩:=nm W.heap.size;rw[ak]at o1;have aS:=zb o1;have z0:=za (o:=0) o1 rfl;have z2:W1.cell? ⟨pb,2,none⟩=some (.slice a fs.length cap):=za (o:=2) o1 rfl;have aT:=m1.cell (a:=⟨lb,_,none⟩) id aR;have a8:=zb R;have a9:=zb ak;obtain⟨RN,al⟩:=nm rs.length;have am:=zb al;rw[al]at aT a4 aM aK aL;clear h hp H T Q m1 o1 a7 aR R ak hl U q1 q2 aF aG aH G ai D aI al;go_enter func205,ntmps205;go_upto_region 1 with fail;rw[a8.z,a9.z];go_wp2_with fail
 go_loopw [12] (λiv wr=>∃q:Nat,q<=RN/\iv = .int .i64 q/\AA ((∀j,j<q->¬(Da rs j<=pn/\pn<=DY rs j))/\zx tag i b W0 V0 c tag0 V wr/\DW DX W1 wr)) (λiv _=>RN-(intOf iv).toNat)
 case atStart=>exact⟨0,AL _,rfl,zb ⟨λj hj=>absurd hj (BA j),R1.z,DW.refl _ _⟩⟩
 case round =>
  clear z0 z2 aT R1;obtain⟨q,hq,rfl,t⟩:=hrel;by_cases G:q<RN
  ·obtain⟨a',X,I,_,_,h3⟩:=aL.z t.z.2.1;have ba:X=s/\a'=la:=by cases I;exact⟨rfl,rfl⟩
   obtain⟨rfl,rfl⟩:=ba;obtain⟨g,o,bb,e1,e2,b1,b2⟩:=h3 q (by rw[am.z];exact G);subst bb;have z0:=za (o:=0) (t.z.2.2.obj (λx=>x) aS.z) rfl;have z2:wr.cell? ⟨pb,2,none⟩=some (.slice a fs.length cap):=za (o:=2) (t.z.2.2.obj (λx=>x) aS.z) rfl;have HQ:AA (q<rs.length):=zb (by rw[am.z];exact G);obtain⟨lo,D⟩:=nm (Da rs q);obtain⟨hi,an⟩:=nm (DY rs q);rw[D]at e1 b1;rw[an]at e2 b2;have ao:=zb D;have ap:=zb an;have aU:=zk z0;have bc:=zk e1;obtain⟨Y,J⟩:=nm (wr.alloc (.cells #[.int .u64 lo,.int .u64 hi] 214));have mY:=AB J
   have oY:=AD J
   have MY:=zb mY;have u0:=za (o:=0) oY rfl;have u1:=za (o:=1) oY rfl;have v0:=mY.cell (a:=⟨pb,0,none⟩) id z0;have v2:=mY.cell (a:=⟨pb,2,none⟩) id z2;obtain⟨yb,aq⟩:=nm wr.heap.size;rw[aq]at u0 u1;have S:=zb J;have w:=zb aq;clear h3 I D an oY mY J aq;by_cases d1:(lo:Int)<=pn
   ·by_cases d2:(pn:Int)<=hi
    ·have ar:=zb (eq HQ.z (by rw[ao.z,aj.z];omega) (by rw[ap.z,aj.z];omega));have RY:=zb (t.z.2.1.mod0 MY.z);have MW:=zb (t.z.2.2.trans MY.z);clear t;go_upto_region 4 with fail;rw[S.z,w.z];go_wp2_with fail
     go_loopw [31] (λiv wr=>∃(k:Nat) (tag':Nat->Nat×Nat) (V':CV),k<=fs.length/\iv = .int .i64 k/\AA (zx tag i b W0 V0 ((fs.take k).foldl CS.ackF c) tag' V' wr)) (λiv _=>fs.length-(intOf iv).toNat)
     case atStart=>exact⟨0,tag0,V,AL _,rfl,RY⟩
     case round =>
      clear z0 z2 e1 e2 u0 u1 v0 v2 RY aU bc MY S w MW;obtain⟨k,C,V1,hk,rfl,t⟩:=hrel;by_cases bv:k<fs.length
      ·obtain⟨l1,L,Z,-,-⟩:=t.z.c.fs (p,.slice a fs.length cap) (by rw[UM,t.z.ft.2];exact HP.z);simp only at L Z;rw[aQ.z]at L;obtain⟨a',X,I,_,_,h3⟩:=Z;have aa:l1.length=fs.length:=by rw[<-L,A9]
       rw[aa]at I;cases I;obtain⟨⟨f,rv⟩,au⟩:∃fr,l1[k]?=some fr:=⟨l1[k],AJ (by omega)⟩;have av:fs[k]?=some f:=by rw[<-L,BW,au];rfl
       obtain⟨⟨g2,o2,rfl,hc⟩,aw⟩:=h3 k (f,rv) au;simp only at hc aw;obtain⟨ra,rc,rfl,_⟩:=id aw;obtain⟨hc0,hc1,hc2,hc3,hc4,hc5,hc6,hc7,hc8,bd⟩:=I8 hc;obtain⟨Y,J⟩:=nm (wr.alloc (.cells (zh f (.slice ra f.rngs.length rc)) 65));have mY:=AB J
       have ax:=AC J
       have aV:zj Y wr.heap.size f (.slice ra f.rngs.length rc):=by rw[<-J];exact heap_alloc_new wr _
       obtain⟨y0,y1,y2,y3,y4,y5,y6,y7,y8,y9⟩:=aV.cells;have ok:=aO.z ar.z k f av;have HT:=zb (ew (c:=c) av);obtain⟨c1,M⟩:=nm ((fs.take k).foldl CS.ackF c);rw[M]at ok HT t;have B:=t.z.e.z _ (AG _);have RY:=zb (t.z.mod0 mY);have ay:=aJ.z RY.z;obtain⟨m,aW,E⟩:=ok.st;rw[E]at y1;obtain⟨fb,az⟩:=nm wr.heap.size;rw[az]at B y0 y1 y2 y8 ax;have be:=zb B;have bf:=zb ax;have dm0:(0:Int)<=m:=by omega
       have dm8:(m:Int)<8:=by omega
       obtain⟨RL,aX⟩:=nm f.rngs.length;rw[aX]at bd J;have S:=zb J;have w:=zb az;obtain⟨off,N⟩:=nm f.off;obtain⟨d,O⟩:=nm f.data;rw[N]at y2;rw[O]at y8;have ab:=zb N;have y:=zb O;have HC1:=zb M;unfold zh at S;clear h3 au hc aw mY aV av L aX t J az M B ax y3 y4 y5 y6 y7 y9 N O aa;by_cases z:f.kind=4
       ·by_cases A:f.data=[]
        ·have bh:d=[]:=by rw[<-y.z];exact A
         subst bh;have HE:=zb (TU c1 f (by simp[A]));rw[z]at y0;have HYD:=zb A;have bi:=Xd;clear z E A ok;go_upto_region 8 with fail;rw[S.z,w.z];refine zD ?_;refine zl 7 (λw'=>w'.cell? ⟨cb,0,none⟩=some (.pointer (some ⟨b,0,none⟩))/\w'.cell? ⟨fb,1,none⟩=some (.int .i64 m)) (⟨ay,y1⟩) ?_;refine GI 0 ?_;iterate 7
          refine GV rfl ?_;try simp only[PS]
         refine zn ?_;refine⟨rfl,?_⟩;go_wp2_with fail;go_roundw
         case rel=>exact⟨k+1,C,V1,by omega,by go_num,zb (by rw[HT.z,HE.z];exact RY.z.mod0 (DW.refl DX Y).drew)⟩
         case measure=>simp[intOf];omega
        ·obtain⟨m',F⟩:=ok.a z A;have bj:m=m':=by
          have h1:=F.st;rw[E]at h1;omega
         subst bj;have b1:=F.end_;have b2:=F.dl;have ac:d≠[]:=by rw[<-y.z];exact A
         have b3:=BU.2 ac;rw[ab.z,y.z]at b1;rw[y.z]at b2;have P:=RY.z.mod0 ((DW.refl DX Y).drew.drew);have aA:=P.addCame aW F.came off (off+d.length-1) (by omega) (by omega);have hz:((off+d.length-1:Nat):Int)=(off:Int)+d.length-1:=by omega
         rw[hz,AK 15 m]at aA;have aY:=zb aA;have aZ:=zb F;have bk:=zb A;have bm:=zb E;have bn:=zb z;rw[z]at y0;unfold zB at b1;have hsz:=zE d;have xw0:IntKind.u64.wrap (d.length:Int)=(d.length:Int):=by rw[IntKind.wrap_u64];omega
         have xw1:=wu ((off:Int)+d.length) (by omega);have xw2:=wu ((off:Int)+d.length-1) (by omega);have bi:=Xe ac;clear aA P ok F E z A hz;go_upto_region 8 with fail;rw[S.z,w.z];refine zD ?_;refine zl 7 (λw'=>w'.cell? ⟨cb,0,none⟩=some (.pointer (some ⟨b,0,none⟩))/\w'.cell? ⟨fb,1,none⟩=some (.int .i64 m)) (⟨ay,y1⟩) ?_;refine GI 0 ?_;iterate 7
          refine GV rfl ?_;try simp only[PS]
         refine zn ?_;refine⟨rfl,?_⟩;go_upto_region 10 with fail;refine zD ?_;refine zl 13 (λw'=>w'.cell? ⟨fb,2,none⟩=some (.int .u64 off)/\w'.cell? ⟨fb,8,none⟩=some (.string (zq d))) (⟨y2,y8⟩) ?_;refine GI 0 ?_;iterate 13
          refine GV rfl ?_;try simp only[PS]
         refine zU rfl (λK hK=>?_);go_simp
         with_reducible refine(aY.z).mono ?_
         rintro e a0 ⟨rfl,⟨bo,V10,P,ad⟩,ae⟩;have bp:=zb P;have bw:=zb ad;have a1:=zb ae;clear P ad ae;go_simp;refine hK.z _ _ ?_;clear hK K;try simp only[PS]
         refine zn ?_;refine⟨rfl,?_⟩;have hX:a0.heap[fb]?=Y.heap[fb]?:=a1.z fb (by show fb<Y.heap.size;rw[bf.z];omega) be.z;have x2:=(World.cell?_of_block hX).trans y2;have x8:=(World.cell?_of_block hX).trans y8;have aB:=(bp.z.mod0 (DW.refl DX a0).drew).addSent aW (by simp only[ze];exact aZ.z.sent) off (off+d.length-1) (by unfold zB;omega) (by unfold zB;omega);have hz:((off+d.length-1:Nat):Int)=(off:Int)+d.length-1:=by omega
         rw[hz,AK 15 m]at aB;have a2:=zb aB;clear aB hX hz;go_upto_region 11 with fail;refine zD ?_;refine zl 13 (λw'=>w'.cell? ⟨fb,2,none⟩=some (.int .u64 off)/\w'.cell? ⟨fb,8,none⟩=some (.string (zq d))) (⟨x2,x8⟩) ?_;refine GI 0 ?_;iterate 13
          refine GV rfl ?_;try simp only[PS]
         refine zU rfl (λK hK=>?_);go_simp
         with_reducible refine(a2.z).mono ?_
         rintro e X11 ⟨rfl,⟨aC,bq,a3,af⟩,ah⟩;have bt:=zb a3;have bz:=zb af;have bA:=zb ah;clear a3 af ah;go_simp;refine hK.z _ _ ?_;clear hK K;try simp only[PS]
         refine zn ?_;refine⟨rfl,?_⟩;go_wp2_with fail;go_roundw
         case rel =>
          refine⟨k+1,aC,bq,by omega,by go_num,zb ?_⟩;rw[HT.z,<-VI c1 f m bm.z bn.z bk.z rfl rfl,ab.z,y.z];exact bt.z
         case measure=>simp[intOf];omega
       ·have HE:=zb (TU c1 f (by simp[z]));have hb4:(f.kind==4)=false:=by simpa using z
        clear E ok;go_upto_region 8 with fail;rw[S.z,w.z];refine zD ?_;refine zl 7 (λw'=>w'.cell? ⟨cb,0,none⟩=some (.pointer (some ⟨b,0,none⟩))/\w'.cell? ⟨fb,1,none⟩=some (.int .i64 m)) (⟨ay,y1⟩) ?_;refine GI 0 ?_;iterate 7
         refine GV rfl ?_;try simp only[PS]
        refine zn ?_;refine⟨rfl,?_⟩;go_wp2_with fail;go_roundw
        case rel=>exact⟨k+1,C,V1,by omega,by go_num,zb (by rw[HT.z,HE.z];exact RY.z.mod0 (DW.refl DX Y).drew)⟩
        case measure=>simp[intOf];omega
      ·have hk2:fs.length=k:=by omega
       have aD:AA (zx tag i b W0 V0 (c.ackP rs p) C V1 wr):=zb (by
        have:=t.z;rw[AW (by omega)]at this;unfold CS.ackP;rw[AN ar.z,aQ.z];exact this)
       go_wp2_with fail;go_ret;exact⟨by rw[ar.z];rfl,C,V1,aD.z⟩
    ·go_upto_region 4 with fail;rw[S.z,w.z];go_wp2_with fail;go_roundw
     case rel =>
      refine⟨q+1,by omega,by go_num,zb ⟨λj hj x=>?_,t.z.2.1.mod0 MY.z,t.z.2.2.trans MY.z⟩⟩;by_cases aE:j=q
      ·subst aE;rw[ao.z,ap.z]at x;omega
      ·exact t.z.1 j (by omega) x
     case measure=>simp[intOf];omega
   ·go_upto_region 4 with fail;rw[S.z,w.z];go_wp2_with fail;go_roundw
    case rel =>
     refine⟨q+1,by omega,by go_num,zb ⟨λj hj x=>?_,t.z.2.1.mod0 MY.z,t.z.2.2.trans MY.z⟩⟩;by_cases aE:j=q
     ·subst aE;rw[ao.z,ap.z]at x;omega
     ·exact t.z.1 j (by omega) x
    case measure=>simp[intOf];omega
  ·have bu:q=RN:=by omega
   have HN:=zb (gQ (λj hj=>by
    rw[aj.z];exact t.z.1 j (by rw[am.z]at hj;omega)))
   have aD:AA (zx tag i b W0 V0 (c.ackP rs p) tag0 V wr):=zb (by
    unfold CS.ackP;rw[AH (by rw[HN.z];simp)];exact t.z.2.1)
   clear bu;go_wp2_with fail;go_ret;exact⟨by rw[HN.z];rfl,tag0,V,aD.z⟩
structure Jg(c:CS):Prop where
 sz:∀p∈c.flight,p.n<=zB/\p.at_<=zB/\p.fs.length<=1099511627776
 ag:∀(k:Nat) p,c.flight[k]?=some p->c.late p=true->∀(j:Nat) f,p.fs[j]?=some f->Iq ((c.loses (c.flight.take k)).agains (p.fs.take j)) f
def El(tag:Nat->Nat×Nat)(i b:Nat)(W0:World)(c:CS)(a:Option Addr)(N cap:Nat)(k:Nat)(R:List (Df×Value))(w:World):Prop :=
 R.length=N/\∃tag' V',zx tag i b W0 V' ((c.loses (c.flight.take k)).fly (R.map (·.1))) tag' V' w/\V'.ft = .slice a N cap/\V'.fts=R.map (·.2)
variable{a:Option Addr}
def El.row(h:El tag i b W0 c a N cap k R w):w.ownsRow 0 173 3 (.slice a N cap) N (zy R):=by
 obtain⟨hl,tag',V',r,h1,h2⟩:=h;have:=r.c.ft;rw[h1,h2]at this;simp only[CS.fly,A9,Fi,hl]at this;exact this
variable{w':World}
def El.mod0(h:El tag i b W0 c a N cap k R w)(m:DW DX w w'):El tag i b W0 c a N cap k R w':=by
 obtain⟨hl,tag',V',r,h1,h2⟩:=h;exact⟨hl,tag',V',r.mod0 m,h1,h2⟩
def El.del(ha:0<N->a=some ⟨g,0,none⟩):K8 (El tag i b W0 c a N cap) N g:=by
 refine⟨λk R w w' h m=>h.mod0 m,λk R w h=>h.1,λk R w h j x d=>?_⟩;have hj:0<N:=by
  have:=(AM.1 d).1;have:=h.1;omega
 have e:=h.row;rw[ha hj]at e;exact Ti e h.1 j x d
variable{cb:Nat}{w1:World}
def El.ask(h:El tag i b W0 c a N cap k R w)(ok:Jg c)(o:W0.cell? ⟨cb,0,none⟩=some (.pointer (some ⟨b,0,none⟩)))(d:¬Dp i tag cb)(m:DW DX w w1)(x:Df×Value)(hx:R[k]?=some x)(v:c.flight[k]?=some x.1):Calls prog 79 #[.agg #[.int .u64 x.1.n,.int .u64 x.1.at_,x.2],.pointer (some ⟨cb,0,none⟩)] w1 (λe w'=>e = .returned (.bool (c.late x.1))/\El tag i b W0 c a N cap (k+1) R w'/\∀q,w.heap.size<=q->q<w1.heap.size->w'.heap[q]?=w1.heap[q]?):=by
 obtain⟨hl,tag',V',r,h1,h2⟩:=h;have y:=r.mod0 m;have z:=zk o;have s:=y.m.cell (a:=⟨cb,0,none⟩) d o;have t:¬Dp i tag' cb:=by unfold Dp at d ⊢;rw[r.e.old cb z];exact d
 have u:=Ac v;obtain⟨s1,s2,s3⟩:=ok.sz _ u;have g:∀q,((c.loses (c.flight.take k)).fly (R.map (·.1))).late q=c.late q:=λq=>Th (c.flight.take k) c q
 have kc:=Ys y.refl cb s t x.1 x.2 (by rw[h2];simp only[CS.fly,Fi];exact Ac hx) s1 s2 (λe j f hf=>by
  rw[g]at e;rw[Px];exact(ok.ag k x.1 v e j f hf).fly _) s3
 refine kc.mono ?_;rintro e w' ⟨rfl,tag2,V2,l⟩;rw[g]at l ⊢;have A:(if c.late x.1=true then((c.loses (c.flight.take k)).fly (R.map (·.1))).agains x.1.fs else(c.loses (c.flight.take k)).fly (R.map (·.1)))=(c.loses (c.flight.take (k+1))).fly (R.map (·.1)):=by
  rw[ex c c.flight k x.1 v,<-Yq];unfold CS.lose1;rw[g]
 rw[A]at l;refine⟨rfl,⟨hl,tag2,V2,y.trans l,l.ft.1.trans h1,l.ft.2.trans h2⟩,λq hq B=>?_⟩;refine l.m.block q B (λhc=>?_);have:=hc.1;rw[r.e.z q hq]at this;have v:=r.p;simp at this;omega
def SO(w:World):(zeroValue 173).run prog w = .ok (.agg #[.int .u64 0,.int .u64 0,.slice none 0 0]) w:=by kernel_rfl
def Jd:Df×Value:=(⟨0,0,[]⟩,.slice none 0 0)
def GF.none(tag:Nat->Nat×Nat)(t:Nat×Nat)(w:World):GF tag t w (.slice none 0 0) [] :=
 ⟨[],rfl,⟨Option.none,0,rfl,AG _,by unfold maxLen;omega,λi fr h=>by simp at h⟩,λg h=>by simp[Value.blk]at h,λfr h=>by simp at h⟩
theorem Tg(n:Nat):(Builtin.zeroCells (Value.agg #[.int .u64 0,.int .u64 0,.slice none 0 0]).cells n).toList=zy (List.replicate n Jd):=by
 have h:∀n,(Builtin.zeroCells (Value.agg #[.int .u64 0,.int .u64 0,.slice none 0 0]).cells n).toList=(List.range (n*3)).map (λi=>(#[Value.int .u64 0,Value.int .u64 0,Value.slice none 0 0]:Array Value)[i % 3]!):=λn=>by
  simp[Builtin.zeroCells,Value.cells]
 rw[h];clear h
 induction n with
 | zero=>rfl
 | succ n ih =>
  rw[List.replicate_succ,Jz,<-ih,show(n+1)*3=3+n*3 by omega,List.range_add,BO,CY];have e:((λi=>(#[Value.int .u64 0,Value.int .u64 0,Value.slice none 0 0]:Array Value)[i % 3]!) ∘ λx=>3+x)=λi=>(#[Value.int .u64 0,Value.int .u64 0,Value.slice none 0 0]:Array Value)[i % 3]!:=by
   funext q;simp only[Function.comp,Nat.add_mod_left]
  rw[e];rfl
def OL(w:World)(g:Nat)(cs:Array Value):DW (λq=>q=g) w (w.setRow g cs):=by
 refine⟨rfl,rfl,rfl,by simp[World.setRow],λq hq a=>?_⟩;have a:¬g=q:=λe=>a e.symm
 simp[World.setRow,CA,a]
def El.turn{R':List (Df×Value)}(h:El tag i b W0 c (some ⟨g,0,none⟩) N cap k R w)(m:DW (λq=>q=g) w w')(hl:R'.length=N)(a:w'.ownsRow 0 173 3 (.slice (some ⟨g,0,none⟩) N cap) N (zy R'))(hs:∀p∈R',p∈R\/p=Jd):El tag i b W0 c (some ⟨g,0,none⟩) N cap k R' w':=by
 obtain⟨hl0,tag',j,r,h1,h2⟩:=h;have hg:j.ft.ownBlock=some g:=by rw[h1];rfl
 have d:=r.c.tft g hg;have f:∀p∈R',GF tag' (i,5) w p.2 p.1.fs:=λp hp=>by
  rcases hs p hp with x|x
  ·exact r.c.fs p (by rw[h2];simp only[CS.fly,Fi];exact x)
  ·subst x;exact GF.none _ _ _
 have c1:=r.c.fly m hg (R':=R') (by rw[h1,hl];exact a) f;exact⟨hl,tag',{ j with fts:=R'.map (·.2) },⟨c1,⟨r.e.old,r.e.new,r.e.z.mod m⟩,Ec r.e r.m (m.mono (λq hq=>.inl (EK (r:=4) (by rw[show q=g from hq];exact d) (by decide)))),r.p,⟨rfl,rfl⟩⟩,h1,rfl⟩
def El.delK(v:0<N->a=some ⟨g,0,none⟩)(hcm:N<=cap):Ik (El tag i b W0 c a N cap) N g cap:=by
 refine⟨λk R w t h=>?_,λk R w x h z=>?_,λk R w j x h C z=>?_,λk R w j h C=>?_⟩
 ·have D:=h.row;rw[v t]at D;obtain⟨d,h1,_⟩:=IU D;exact⟨d,h1⟩
 ·obtain⟨hl,tag',V',r,h1,h2⟩:=h;obtain⟨l,_,⟨a',E,e,_⟩,_,_⟩:=r.c.fs x (by rw[h2];simp only[CS.fly,Fi];exact z);exact⟨_,_,_,e⟩
 ·have t:0<N:=by omega
  have m:=v t;subst m;have u:=SQ x h.row h.1 C;refine h.turn ?_ (by rw[Ba];exact h.1) u (λp A=>?_)
  ·exact(((DW.refl (λq=>q=g) w).setCell (p:=⟨g,_,none⟩) (.inl rfl) _).setCell (p:=⟨g,_,none⟩) (.inl rfl) _).setCell (p:=⟨g,_,none⟩) (.inl rfl) _
  ·rcases List.mem_or_eq_of_mem_set A with y|y
   ·exact .inl y
   ·exact .inl (y ▸ z)
 ·have t:0<N:=by omega
  have m:=v t;subst m;obtain⟨d,h1,h2,h3,h4,h5⟩:=IU h.row;have B:w.heap[g]?=some (.cells d.toList.toArray 173 (0,0)):=by simpa using h1
  have f:d.toList.length=cap*3:=by simpa using h4
  have o:(zy (List.replicate (N-j) Jd)).length=(N-j)*3:=by rw[zZ,Bc]
  refine⟨_,R.take j++List.replicate (N-j) Jd,λty=>Ld (P:=prog) w 123 ty 173 (.agg #[.int .u64 0,.int .u64 0,.slice none 0 0]) 3 underlying123 SO rfl (by simp[Value.cells,Value.oneCell']) g (j*3) (N-j) _ d.toList _ B (by rw[f];omega),?_,?_⟩
  ·rw[Tg];have s:(R.take j).length=j:=by rw[AS,h.1];omega
   refine h.turn ?_ (by rw[AF,s,Bc];omega) ?_ (λp A=>?_)
   ·exact OL w g _
   ·refine⟨by rw[zZ,AF,s,Bc];omega,.inr ⟨g,cap,_,rfl,AL _,setRow_heap w g _ _ _ _ h1,h2,h3,?_,?_⟩⟩
    ·rw[Al,length_splice _ _ _ (by rw[o,f];omega),f]
    ·have h6:d.toList.take (j*3)=zy (R.take j):=by
      have:=(Pi h.row h.1 (n:=j) (by omega));obtain⟨F,g1,_,_,_,g5⟩:=IU this;rw[h1]at g1;cases g1;exact g5
     unfold splice;rw[h6,QR];have G:(zy (R.take j)).length=j*3:=by rw[zZ,s]
     rw[<-List.append_assoc];simp only[DQ];rw[BC (by rw[AF,G,o];omega),AW (by rw[AF,G,o];omega)]
   ·rcases An.1 A with y|y
    ·exact .inl (Be y)
    ·exact .inr (List.eq_of_mem_replicate y)
  ·rw[BC (by rw[AS,h.1];omega),BZ,CX]
def RH{n:Nat}(h:w.ownsRow 0 173 3 (.slice a N cap) N (zy R))(hR:R.length=N)(hn:n<=N):w.ownsRow 0 173 3 (.slice a n cap) n (zy (R.take n)):=by
 by_cases h0:N=0
 ·have b:n=N:=by omega
  rw[b,AW (by omega)];exact h
 ·obtain⟨a',c,e,_,_,hg⟩:=zi h;cases e;obtain⟨g,rfl⟩:=hg (by omega);exact Pi h hR hn
def El.done{n:Nat}(h:El tag i b W0 c a N cap N R w)(hN:c.flight.length=N)(hn:n<=N)(hR:(R.take n).map (·.1)=c.flight.filter λp => !c.late p):∃tag' V',zx tag i b W0 V' c.lose tag' V' (w.setCell ⟨b,236,none⟩ (.slice a n cap)):=by
 have f:=RH h.row h.1 hn;obtain⟨hl,tag',V',r,h1,h2⟩:=h;rw[AW (by omega)]at r;have m:DW (λq=>q=b) w (w.setCell ⟨b,236,none⟩ (.slice a n cap)):=(DW.refl (λq=>q=b) w).setCell (p:=⟨b,_,none⟩) (.inl rfl) _;have d:∀g,(Value.slice a n cap).ownBlock=some g->tag' g=(i,4):=λg hg=>r.c.tft g (by rw[h1];cases a<;>exact hg)
 have s:∀g,(Value.slice a n cap).ownBlock=some g->¬g=b:=λg hg e=>by
  have h3:=d g hg;rw[e,r.c.tb]at h3;simp at h3
 have l:(R.take n).length=n:=by rw[AS,hl];omega
 rw[Lx,<-hR];refine⟨tag',{ V' with ft:=.slice a n cap,fts:=(R.take n).map (·.2) },⟨?_,⟨r.e.old,r.e.new,r.e.z.mod m⟩,Ec r.e r.m (m.mono (λq o=>.inl (EK (r:=1) (by rw[show q=b from o];exact r.c.tb) (by decide)))),r.p,⟨rfl,rfl⟩⟩⟩;refine r.c.build (R:=λr=>r=1) m (λq o=>⟨1,rfl,by rw[show q=b from o];exact r.c.tb⟩) (λ_ _=>rfl) ?_ (.inl ⟨rfl,rfl,rfl,by omega,by omega⟩) (λk hk=>.inl ⟨rfl,rfl,by omega⟩) (λk hk=>.inl ⟨rfl,rfl,by omega⟩) (λk hk=>.inl ⟨rfl,rfl,by omega⟩) (λk hk=>.inl ⟨rfl,rfl,by omega⟩) (λk hk=>.inl ⟨rfl,rfl,by omega⟩) (.inr ⟨?_,?_,?_,?_⟩) (.inl ⟨rfl,rfl,by omega⟩) (.inl ⟨rfl,rfl,by omega⟩) (.inl ⟨rfl,rfl,by omega⟩)
 ·rw[zc r.c.obj];simp only[Ap];rw[show(236:Nat)=233+3 from rfl,zX (j:=3) ((c.loses c.flight).fly (R.map (·.1))) ((c.loses c.flight).fly ((R.take n).map (·.1))) V' { V' with ft:=.slice a n cap,fts:=(R.take n).map (·.2) } (.slice a n cap) rfl rfl rfl rfl]
 ·simp only[CS.fly,A9,Fi,l];exact m.owns f s
 ·simp[CS.fly]
 ·simp only[CS.fly,Fi];intro p hp;refine(r.c.fs p (by rw[h2];simp only[CS.fly,Fi];exact Be hp)).mod m (λq o e=>?_) (λ_ e=>e);rw[show q=b from o,r.c.tb]at e;simp at e
 ·exact d
variable{W1:World}
def Xc(h:zg tag i b c V W)(ht:Do tag W)(hi:0<i)(ok:Jg c)(hb:c.flight.length<=1099511627776)(j:W.cell? ⟨cb,0,none⟩=some (.pointer (some ⟨b,0,none⟩)))(n:¬Dp i tag cb)(m:DW DX W W1)(v:V.ft = .slice a N cap)(y:c.flight.length=N):Calls prog 78 #[.slice a N cap,.func (.func 79) #[] #[.pointer (some ⟨cb,0,none⟩)]] W1 (NT (El tag i b W c a N cap) c.late (c.flight.zip V.fts) a cap):=by
 have q:(c.flight.zip V.fts).length=N:=by rw[Cw,h.fl,CX,y]
 have r:(c.flight.zip V.fts).map (·.1)=c.flight:=DG (BX h.fl.symm);have s:(c.flight.zip V.fts).map (·.2)=V.fts:=List.map_snd_zip (BX h.fl);have d:=h.ft;rw[v,y]at d;obtain⟨a',z,e,A,q2,q3⟩:=zi d;cases e;have B:∀(k:Nat) (x:Df×Value),(c.flight.zip V.fts)[k]?=some x->c.flight[k]?=some x.1:=λk x f=>by
  have:=A0 (λl=>l[k]?) r;simp only[BW,f]at this;exact this.symm
 have r0:zx tag i b W V c tag V W:=⟨h,Dj.same ht (DW.refl DX W),DW.refl _ _,hi,⟨rfl,rfl⟩⟩;have j0:El tag i b W c a N cap 0 (c.flight.zip V.fts) W:=⟨q,tag,V,by rw[r];exact r0,v,s.symm⟩;obtain⟨g,hg⟩:∃g,0<N->a=some ⟨g,0,none⟩:=by
  by_cases h0:0<N
  ·obtain⟨g,hg⟩:=q3 h0;exact⟨g,λ_=>hg⟩
  ·exact⟨0,λx=>absurd x h0⟩
 refine gS (El tag i b W c a N cap) c.late (c.flight.zip V.fts) N g cap cb a q (by omega) A q2 hg (El.del hg) (El.delK hg A) (λk w x t f=>?_) (λk R w o x t f u=>?_) W1 (j0.mod0 m)
 ·exact(t.ask ok j n (DW.refl DX w) x f (B k x f)).mono (λe w' p=>⟨p.1,p.2.1⟩)
 ·exact(t.ask ok j n ((DW.refl DX w).alloc o) x f (B k x u)).mono (λe w' p=>⟨p.1,p.2.1,p.2.2 _ (AG _) (by simp)⟩)
def Hh(ht:Do tag W)(m:DW DX W W0)(h:Dj i tag tag' W0 W'):Dj i tag tag' W W':=by
 refine⟨λg hg=>h.old g (Aw hg m.size),λg hg=>?_,h.z⟩;by_cases q:g<W0.heap.size
 ·exact .inr (by rw[h.old g q];exact ht g hg)
 ·exact h.new g (by omega)
def SM(h:zg tag i b c V W)(y:Do tag W)(hi:0<i)(ok:Jg c)(hb:c.flight.length<=1099511627776):Calls prog 49 #[.pointer (some ⟨b,0,none⟩)] W (EA tag i b W (.tuple #[]) c.lose):=by
 obtain⟨a,cap,B,_⟩:=zi h.ft;obtain⟨N,t⟩:=nm c.flight.length;rw[t]at B;obtain⟨W1,f⟩:=nm (W.alloc (.cells #[.pointer (some ⟨b,0,none⟩)] 69));have m1:=AB f
 have k:W1.cell? ⟨W.heap.size,0,none⟩=some (.pointer (some ⟨b,0,none⟩)):=by rw[<-f];exact za (heap_alloc_new W _) rfl
 have l:¬Dp i tag W.heap.size:=λx=>by
  have h1:=x.1;rw[y _ (AG _)]at h1;simp at h1;omega
 have h1:=h.mod0 m1;have u:=y.mod m1;have z:=Xc h1 u hi ok hb k l (DW.refl DX W1).drew B t;have o:(c.flight.zip V.fts).length=N:=by rw[Cw,h.fl,CX,t]
 have q:(c.flight.zip V.fts).map (·.1)=c.flight:=DG (BX h.fl.symm);obtain⟨L,J⟩:=nm (c.flight.zip V.fts);rw[J]at z o q;obtain⟨cb,d⟩:=nm W.heap.size;rw[d]at z k l;have C:W1.cell? ⟨b,236,none⟩=some (.slice a N cap):=by rw[<-B];exact h1.tl (j:=3) rfl
 have fz:=h1.fz 236;have KD:=zb z;have HT:=zb y;have HI:=zb hi;have v:=zb m1;have D:=zb l;have E:=zb k;have M:=zb (And.intro o q);have HN:=zb t;have F:=zb f;have G:=zb d;clear z y hi m1 l o q t h h1 u ok hb J f d;go_enter func49,ntmps49;go_upto_region 1 with fail;try rw[F.z]
 try rw[G.z]
 refine zD ?_;refine zl 9 (λw'=>w'.cell? ⟨cb,0,none⟩=some (.pointer (some ⟨b,0,none⟩))/\w'.cell? ⟨b,236,none⟩=some (.slice a N cap)/\w'.frozen? ⟨b,236,none⟩=false) (⟨k,C,fz⟩) ?_;refine GI 0 ?_;iterate 6
  refine GV rfl ?_;try simp only[PS]
 refine zw 6 rfl (λK w=>?_);go_simp
 with_reducible refine(KD.z).mono ?_
 rintro e H ⟨n,R,rfl,O,I,A⟩;have HJ:=zb (And.intro O (And.intro I A));have P:H.cell? ⟨cb,0,none⟩=some (.pointer (some ⟨b,0,none⟩))/\H.cell? ⟨b,236,none⟩=some (.slice a N cap)/\H.frozen? ⟨b,236,none⟩=false:=by
  obtain⟨hl,tag',Q,r,g1,g2⟩:=I;exact⟨r.m.cell (a:=⟨cb,0,none⟩) D.z E.z,by rw[<-g1];exact r.c.tl (j:=3) rfl,r.c.fz 236⟩
 clear I O A;go_simp;refine w.z _ _ P ?_;obtain⟨p0,p1,p2⟩:=P;clear w K;try simp only[PS]
 refine GI 7 ?_;iterate 2
  refine GV rfl ?_;try simp only[PS]
 refine zU rfl (λK w=>?_);go_simp;refine w.z _ _ ?_;clear w K;try simp only[PS]
 refine zn ?_;refine⟨rfl,?_⟩;go_wp2_with fail
 go_end0
 refine⟨rfl,?_⟩;obtain⟨h1,h2,h3⟩:=HJ.z;rw[M.z.1]at h1 h2;have A:(R.take n).map (·.1)=c.flight.filter λp => !c.late p:=by
  rw[h3,<-M.z.2,List.filter_map];rfl
 obtain⟨tag',Q,r⟩:=h2.done HN.z h1 A;exact⟨tag',Q,r.c,Hh HT.z v.z r.e,(v.z.mono (λ_ x=>x.elim)).then r.m.ofC (λg hg=>.inl hg)⟩
def Es(tag:Nat->Nat×Nat)(i b:Nat)(W0:World)(G:Nat->CS)(a:Option Addr)(N cap:Nat)(k:Nat)(R:List (Df×Value))(w:World):Prop :=
 R.length=N/\∃tag' V',zx tag i b W0 V' ((G k).fly (R.map (·.1))) tag' V' w/\V'.ft = .slice a N cap/\V'.fts=R.map (·.2)
def Es.row{G:Nat->CS}(h:Es tag i b W0 G a N cap k R w):w.ownsRow 0 173 3 (.slice a N cap) N (zy R):=by
 obtain⟨hl,tag',V',r,h1,h2⟩:=h;have:=r.c.ft;rw[h1,h2]at this;simp only[CS.fly,A9,Fi,hl]at this;exact this
def Es.mod0{G:Nat->CS}(h:Es tag i b W0 G a N cap k R w)(m:DW DX w w'):Es tag i b W0 G a N cap k R w':=by
 obtain⟨hl,tag',V',r,h1,h2⟩:=h;exact⟨hl,tag',V',r.mod0 m,h1,h2⟩
def Es.del{G:Nat->CS}(ha:0<N->a=some ⟨g,0,none⟩):K8 (Es tag i b W0 G a N cap) N g:=by
 refine⟨λk R w w' h m=>h.mod0 m,λk R w h=>h.1,λk R w h j x c=>?_⟩;have hj:0<N:=by
  have:=(AM.1 c).1;have:=h.1;omega
 have d:=h.row;rw[ha hj]at d;exact Ti d h.1 j x c
def Es.turn{G:Nat->CS}{R':List (Df×Value)}(h:Es tag i b W0 G (some ⟨g,0,none⟩) N cap k R w)(m:DW (λq=>q=g) w w')(hl:R'.length=N)(a:w'.ownsRow 0 173 3 (.slice (some ⟨g,0,none⟩) N cap) N (zy R'))(hs:∀p∈R',p∈R\/p=Jd):Es tag i b W0 G (some ⟨g,0,none⟩) N cap k R' w':=by
 obtain⟨hl0,tag',j,r,h1,h2⟩:=h;have hg:j.ft.ownBlock=some g:=by rw[h1];rfl
 have d:=r.c.tft g hg;have f:∀p∈R',GF tag' (i,5) w p.2 p.1.fs:=λp hp=>by
  rcases hs p hp with x|x
  ·exact r.c.fs p (by rw[h2];simp only[CS.fly,Fi];exact x)
  ·subst x;exact GF.none _ _ _
 have c1:=r.c.fly m hg (R':=R') (by rw[h1,hl];exact a) f;exact⟨hl,tag',{ j with fts:=R'.map (·.2) },⟨c1,⟨r.e.old,r.e.new,r.e.z.mod m⟩,Ec r.e r.m (m.mono (λq hq=>.inl (EK (r:=4) (by rw[show q=g from hq];exact d) (by decide)))),r.p,⟨rfl,rfl⟩⟩,h1,rfl⟩
def Es.delK{G:Nat->CS}(v:0<N->a=some ⟨g,0,none⟩)(hcm:N<=cap):Ik (Es tag i b W0 G a N cap) N g cap:=by
 refine⟨λk R w t h=>?_,λk R w x h z=>?_,λk R w j x h C z=>?_,λk R w j h C=>?_⟩
 ·have D:=h.row;rw[v t]at D;obtain⟨d,h1,_⟩:=IU D;exact⟨d,h1⟩
 ·obtain⟨hl,tag',V',r,h1,h2⟩:=h;obtain⟨l,_,⟨a',E,e,_⟩,_,_⟩:=r.c.fs x (by rw[h2];simp only[CS.fly,Fi];exact z);exact⟨_,_,_,e⟩
 ·have t:0<N:=by omega
  have m:=v t;subst m;have u:=SQ x h.row h.1 C;refine h.turn ?_ (by rw[Ba];exact h.1) u (λp A=>?_)
  ·exact(((DW.refl (λq=>q=g) w).setCell (p:=⟨g,_,none⟩) (.inl rfl) _).setCell (p:=⟨g,_,none⟩) (.inl rfl) _).setCell (p:=⟨g,_,none⟩) (.inl rfl) _
  ·rcases List.mem_or_eq_of_mem_set A with y|y
   ·exact .inl y
   ·exact .inl (y ▸ z)
 ·have t:0<N:=by omega
  have m:=v t;subst m;obtain⟨d,h1,h2,h3,h4,h5⟩:=IU h.row;have B:w.heap[g]?=some (.cells d.toList.toArray 173 (0,0)):=by simpa using h1
  have f:d.toList.length=cap*3:=by simpa using h4
  have o:(zy (List.replicate (N-j) Jd)).length=(N-j)*3:=by rw[zZ,Bc]
  refine⟨_,R.take j++List.replicate (N-j) Jd,λty=>Ld (P:=prog) w 123 ty 173 (.agg #[.int .u64 0,.int .u64 0,.slice none 0 0]) 3 underlying123 SO rfl (by simp[Value.cells,Value.oneCell']) g (j*3) (N-j) _ d.toList _ B (by rw[f];omega),?_,?_⟩
  ·rw[Tg];have s:(R.take j).length=j:=by rw[AS,h.1];omega
   refine h.turn ?_ (by rw[AF,s,Bc];omega) ?_ (λp A=>?_)
   ·exact OL w g _
   ·refine⟨by rw[zZ,AF,s,Bc];omega,.inr ⟨g,cap,_,rfl,AL _,setRow_heap w g _ _ _ _ h1,h2,h3,?_,?_⟩⟩
    ·rw[Al,length_splice _ _ _ (by rw[o,f];omega),f]
    ·have h6:d.toList.take (j*3)=zy (R.take j):=by
      have:=(Pi h.row h.1 (n:=j) (by omega));obtain⟨F,g1,_,_,_,g5⟩:=IU this;rw[h1]at g1;cases g1;exact g5
     unfold splice;rw[h6,QR];have H:(zy (R.take j)).length=j*3:=by rw[zZ,s]
     rw[<-List.append_assoc];simp only[DQ];rw[BC (by rw[AF,H,o];omega),AW (by rw[AF,H,o];omega)]
   ·rcases An.1 A with y|y
    ·exact .inl (Be y)
    ·exact .inr (List.eq_of_mem_replicate y)
  ·rw[BC (by rw[AS,h.1];omega),BZ,CX]
def Es.done{G:Nat->CS}{n:Nat}(h:Es tag i b W0 G a N cap N R w)(hn:n<=N):∃tag' V',zx tag i b W0 V' ((G N).fly ((R.take n).map (·.1))) tag' V' (w.setCell ⟨b,236,none⟩ (.slice a n cap)):=by
 have f:=RH h.row h.1 hn;obtain⟨hl,tag',V',r,h1,h2⟩:=h;have m:DW (λq=>q=b) w (w.setCell ⟨b,236,none⟩ (.slice a n cap)):=(DW.refl (λq=>q=b) w).setCell (p:=⟨b,_,none⟩) (.inl rfl) _;have d:∀g,(Value.slice a n cap).ownBlock=some g->tag' g=(i,4):=λg hg=>r.c.tft g (by rw[h1];cases a<;>exact hg)
 have s:∀g,(Value.slice a n cap).ownBlock=some g->¬g=b:=λg hg e=>by
  have h3:=d g hg;rw[e,r.c.tb]at h3;simp at h3
 have l:(R.take n).length=n:=by rw[AS,hl];omega
 refine⟨tag',{ V' with ft:=.slice a n cap,fts:=(R.take n).map (·.2) },⟨?_,⟨r.e.old,r.e.new,r.e.z.mod m⟩,Ec r.e r.m (m.mono (λq o=>.inl (EK (r:=1) (by rw[show q=b from o];exact r.c.tb) (by decide)))),r.p,⟨rfl,rfl⟩⟩⟩;refine r.c.build (R:=λr=>r=1) m (λq o=>⟨1,rfl,by rw[show q=b from o];exact r.c.tb⟩) (λ_ _=>rfl) ?_ (.inl ⟨rfl,rfl,rfl,by omega,by omega⟩) (λk hk=>.inl ⟨rfl,rfl,by omega⟩) (λk hk=>.inl ⟨rfl,rfl,by omega⟩) (λk hk=>.inl ⟨rfl,rfl,by omega⟩) (λk hk=>.inl ⟨rfl,rfl,by omega⟩) (λk hk=>.inl ⟨rfl,rfl,by omega⟩) (.inr ⟨?_,?_,?_,?_⟩) (.inl ⟨rfl,rfl,by omega⟩) (.inl ⟨rfl,rfl,by omega⟩) (.inl ⟨rfl,rfl,by omega⟩)
 ·rw[zc r.c.obj];simp only[Ap];rw[show(236:Nat)=233+3 from rfl,zX (j:=3) ((G N).fly (R.map (·.1))) ((G N).fly ((R.take n).map (·.1))) V' { V' with ft:=.slice a n cap,fts:=(R.take n).map (·.2) } (.slice a n cap) rfl rfl rfl rfl]
 ·simp only[CS.fly,A9,Fi,l];exact m.owns f s
 ·simp[CS.fly]
 ·simp only[CS.fly,Fi];intro p hp;refine(r.c.fs p (by rw[h2];simp only[CS.fly,Fi];exact Be hp)).mod m (λq o e=>?_) (λ_ e=>e);rw[show q=b from o,r.c.tb]at e;simp at e
 ·exact d
structure Lw(c:CS)(rs:zC):Prop where
 sz:∀p∈c.flight,p.fs.length<=1099511627776
 ag:∀(k:Nat) p,c.flight[k]?=some p->Eu rs p=true->∀(j:Nat) f,p.fs[j]?=some f->Lu ((p.fs.take j).foldl CS.ackF (c.ackPs rs (c.flight.take k))) f
def Lu.fly(h:Lu c f)(l:List Df):Lu (c.fly l) f :=
 ⟨h.st,λh4 hd=>by
  obtain⟨k,o⟩:=h.a h4 hd;exact⟨k,⟨o.lt,o.st,o.sent,o.came,o.end_,o.dl⟩⟩⟩
def IR(c:CS)(rs:zC)(k:Nat):CS:=c.ackPs rs (c.flight.take k)
def RG{lb:Nat}{t:Option Addr}{d:Nat}(h:Es tag i b W0 (IR c rs) a N cap k R w)(ok:Lw c rs)(u:W0.cell? ⟨cb,0,none⟩=some (.pointer (some ⟨b,0,none⟩)))(l:¬Dp i tag cb)(v:W0.cell? ⟨lb,0,none⟩=some (.slice t rs.length d))(s:¬Dp i tag lb)
  (I:RR W0 (.slice t rs.length d) rs) (y:Dl (Dp i tag) (.slice t rs.length d)) (J:∀g o n cc,Value.slice t rs.length d = .slice (some ⟨g,o,none⟩) n cc->g<W0.heap.size) (K:rs.length<=1099511627776) (m:DW DX w w1) (x:Df×Value) (hx:R[k]?=some x) (H:c.flight[k]?=some x.1) :
  Calls prog 205 #[.agg #[.int .u64 x.1.n,.int .u64 x.1.at_,x.2],.pointer (some ⟨lb,0,none⟩),.pointer (some ⟨cb,0,none⟩)] w1 (λe w'=>e = .returned (.bool (Eu rs x.1))/\Es tag i b W0 (IR c rs) a N cap (k+1) R w'/\∀q,w.heap.size<=q->q<w1.heap.size->w'.heap[q]?=w1.heap[q]?):=by
 obtain⟨hl,tag',V',r,h1,h2⟩:=h;have z:=r.mod0 m;have L:=zk u;have M:=zk v;have A:=z.m.cell (a:=⟨cb,0,none⟩) l u;have B:=z.m.cell (a:=⟨lb,0,none⟩) s v;have C:¬Dp i tag' cb:=by unfold Dp at l ⊢;rw[r.e.old cb L];exact l
 have D:¬Dp i tag' lb:=by unfold Dp at s ⊢;rw[r.e.old lb M];exact s
 have E:Dl (Dp i tag') (.slice t rs.length d):=by
  intro g o n cc e x;unfold Dp at x;rw[r.e.old g (J g o n cc e)]at x;exact y g o n cc e x
 have F:=Ac H;have s3:=ok.sz _ F;have kc:=eh z.refl cb lb rs t d A C B D (I.mod z.m y) E K x.1 x.2 (by rw[h2];simp only[CS.fly,Fi];exact Ac hx) (λe j f hf=>by
  rw[Ph];exact(ok.ag k x.1 H e j f hf).fly _) s3
 refine kc.mono ?_;rintro e w' ⟨rfl,tag2,V2,G⟩;have O:((IR c rs k).fly (R.map (·.1))).ackP rs x.1=(IR c rs (k+1)).fly (R.map (·.1)):=by
  unfold IR;rw[Yp c rs c.flight k x.1 H,Wy]
 rw[O]at G;refine⟨rfl,⟨hl,tag2,V2,z.trans G,G.ft.1.trans h1,G.ft.2.trans h2⟩,λq hq P=>?_⟩;refine G.m.block q P (λhc=>?_);have:=hc.1;rw[r.e.z q hq]at this;have H:=r.p;simp at this;omega
def Yo{lb:Nat}{C:Option Addr}{d:Nat}(h:zg tag i b c V W)(ht:Do tag W)(hi:0<i)(ok:Lw c rs)(hb:c.flight.length<=1099511627776)(q:W.cell? ⟨cb,0,none⟩=some (.pointer (some ⟨b,0,none⟩)))(r:¬Dp i tag cb)(s:W.cell? ⟨lb,0,none⟩=some (.slice C rs.length d))(t:¬Dp i tag lb)
  (u:RR W (.slice C rs.length d) rs) (v:Dl (Dp i tag) (.slice C rs.length d)) (y:∀g o n cc,Value.slice C rs.length d = .slice (some ⟨g,o,none⟩) n cc->g<W.heap.size) (z:rs.length<=1099511627776) (m:DW DX W W1) (G:V.ft = .slice a N cap) (H:c.flight.length=N) :
  Calls prog 78 #[.slice a N cap,.func (.func 205) #[] #[.pointer (some ⟨lb,0,none⟩),.pointer (some ⟨cb,0,none⟩)]] W1 (NT (Es tag i b W (IR c rs) a N cap) (Eu rs) (c.flight.zip V.fts) a cap):=by
 have A:(c.flight.zip V.fts).length=N:=by rw[Cw,h.fl,CX,H]
 have B:(c.flight.zip V.fts).map (·.1)=c.flight:=DG (BX h.fl.symm);have D:(c.flight.zip V.fts).map (·.2)=V.fts:=List.map_snd_zip (BX h.fl);have f:=h.ft;rw[G,H]at f;obtain⟨a',I,e,J,q2,q3⟩:=zi f;cases e;have K:∀(k:Nat) (x:Df×Value),(c.flight.zip V.fts)[k]?=some x->c.flight[k]?=some x.1:=λk x j=>by
  have:=A0 (λl=>l[k]?) B;simp only[BW,j]at this;exact this.symm
 have r0:zx tag i b W V c tag V W:=⟨h,Dj.same ht (DW.refl DX W),DW.refl _ _,hi,⟨rfl,rfl⟩⟩;have j0:Es tag i b W (IR c rs) a N cap 0 (c.flight.zip V.fts) W:=⟨A,tag,V,by rw[B];exact r0,G,D.symm⟩;obtain⟨g,hg⟩:∃g,0<N->a=some ⟨g,0,none⟩:=by
  by_cases h0:0<N
  ·obtain⟨g,hg⟩:=q3 h0;exact⟨g,λ_=>hg⟩
  ·exact⟨0,λx=>absurd x h0⟩
 refine ic (Es tag i b W (IR c rs) a N cap) (Eu rs) (c.flight.zip V.fts) N g cap lb cb a A (by omega) J q2 hg (Es.del hg) (Es.delK hg J) (λk w x E j=>?_) (λk R w o x E j F=>?_) W1 (j0.mod0 m)
 ·exact(RG E ok q r s t u v y z (DW.refl DX w) x j (K k x j)).mono (λe w' p=>⟨p.1,p.2.1⟩)
 ·exact(RG E ok q r s t u v y z ((DW.refl DX w).alloc o) x j (K k x F)).mono (λe w' p=>⟨p.1,p.2.1,p.2.2 _ (AG _) (by simp)⟩)
def Sr(f:Db)(k:Value)(b cb now:Nat)(W:World)(i:W.cell? ⟨cb,0,none⟩=some (.pointer (some ⟨b,0,none⟩)))(d:W.cell? ⟨b,3,none⟩=some (.int .u64 now)):Calls prog 48 #[.agg (zh f k),.pointer (some ⟨cb,0,none⟩)] W (λe w'=>e = .returned (.bool (decide (f.dl<now)))/\w'=(W.alloc (.cells (zh f k) 65)).drew):=by
 obtain⟨W1,c⟩:=nm (W.alloc (.cells (zh f k) 65));have m1:=AB c
 have g:zj W1 W.heap.size f k:=by rw[<-c];exact heap_alloc_new W _
 obtain⟨fb,h⟩:=nm W.heap.size;rw[h]at g;obtain⟨y0,y1,y2,y3,y4,y5,y6,o,y8,y9⟩:=g.cells;have c1:=m1.cell (a:=⟨cb,0,none⟩) id i;have c3:=m1.cell (a:=⟨b,3,none⟩) id d;obtain⟨dl,j⟩:=nm f.dl;rw[j]at o ⊢;have hd:decide ((dl:Int)<(now:Int))=decide (dl<now):=by simp
 have l:=zb c;have m:=zb h;have HD:=zb hd;rw[c];clear i d m1 g y0 y1 y2 y3 y4 y5 y6 y8 y9 j c h hd;go_enter func48,ntmps48;go_upto_region 1 with fail;rw[l.z,m.z];refine zD ?_;refine zl 8 (λw'=>w'.cell? ⟨fb,7,none⟩=some (.int .u64 dl)/\w'.cell? ⟨cb,0,none⟩=some (.pointer (some ⟨b,0,none⟩))/\w'.cell? ⟨b,3,none⟩=some (.int .u64 now)) (⟨o,c1,c3⟩) ?_;refine GI 0 ?_;iterate 8
  refine GV rfl ?_;try simp only[PS]
 refine zn ?_;refine⟨rfl,?_⟩;go_wp2_with fail;go_ret;exact⟨by rw[<-HD.z];rfl,rfl⟩
structure K0(J:List Db->World->Prop)(N g o b cb now:Nat):Prop where
 box:∀R w w',J R w->DW DX w w'->J R w'
 len:∀R w,J R w->R.length=N
 cb:∀R w,J R w->w.cell? ⟨cb,0,none⟩=some (.pointer (some ⟨b,0,none⟩))
 now:∀R w,J R w->w.cell? ⟨b,3,none⟩=some (.int .u64 now)
 rd:∀R w,J R w->∀(j:Nat) (f:Db),R[j]?=some f->∀q x,(zh f (.slice none 0 0))[q]?=some x->w.cell? ⟨g,o+j*10+q,none⟩=some x
def Ky(J:List Db->World->Prop)(now:Nat)(L:List Db)(e:Ending)(w':World):Prop :=
 (∃k:Nat,e = .returned (.int .i64 k)/\k<L.length/\(∀x∈L.take k,decide (x.dl<now)=false)/\(∀x,L[k]?=some x->decide (x.dl<now)=true)/\J L w') \/
 (e = .returned (.int .i64 (-1))/\(∀x∈L,decide (x.dl<now)=false)/\J L w')
theorem eW(J:List Db->World->Prop)(L:List Db)(N g o cap b cb now:Nat)(a:Option Addr)(r:L.length=N)(hNb:N<=1099511627776)(s:0<N->a=some ⟨g,o,none⟩)(t:K0 J N g o b cb now)
  (w:World) (h0:J L w) :
  Calls prog 77 #[.slice a N cap,.func (.func 48) #[] #[.pointer (some ⟨cb,0,none⟩)]] w (Ky J now L):=by
 have l:=zb t;have H0:=zb h0;have HA:=zb s;have m:=zb r;clear t h0 s r;go_enter func77,ntmps77;go_wp2_with fail
 go_loopw [8] (λp wr=>∃k:Nat,k<=N/\p = .int .i64 k/\AA (J L wr/\∀x∈L.take k,decide (x.dl<now)=false)) (λp _=>N-(intOf p).toNat)
 case atStart=>exact⟨0,AL _,rfl,zb ⟨H0.z,λx c=>by simp at c⟩⟩
 case round =>
  obtain⟨k,hk,rfl,d⟩:=hrel;by_cases f:k<N
  ·obtain⟨x,c⟩:∃x,L[k]?=some x:=⟨L[k]'(by rw[m.z];exact f),AJ (by rw[m.z];exact f)⟩;obtain⟨hc0,hc1,hc2,hc3,hc4,hc5,hc6,hc7,hc8,hc9⟩:=I8 (l.z.rd L wr d.z.1 k x c);have q:=HA.z (by omega);subst q;have n:=Sr x (.slice none 0 0) b cb now wr (l.z.cb L wr d.z.1) (l.z.now L wr d.z.1);unfold zh at n;have u:=zb c;obtain⟨dv,h⟩:=nm (decide (x.dl<now));rw[h]at n;have i:=zb h;have v:=zb n;clear n c h;go_wp2_with fail;refine(v.z).mono ?_;rintro e w6 ⟨rfl,j⟩;have y:AA (J L w6):=zb (by rw[j];exact l.z.box _ _ _ d.z.1 (((DW.refl DX wr).alloc _).drew));clear j v;cases dv with
   | true =>
    go_wp2_with fail;go_ret;exact .inl ⟨k,rfl,by rw[m.z];exact f,d.z.2,λx c=>by rw[u.z]at c;cases c;exact i.z,y.z⟩
   | false =>
    go_wp2_with fail;go_roundw
    case rel =>
     refine⟨k+1,by omega,by go_num,zb ⟨y.z,λx c=>?_⟩⟩;rw[BD,u.z]at c;rcases An.1 c with c|c
     ·exact d.z.2 x c
     ·simp at c;subst c;exact i.z
    case measure=>simp[intOf];omega
  ·have hk2:k=N:=by omega
   go_wp2_with fail;go_ret;exact .inr ⟨rfl,λx c=>d.z.2 x (by rwa [AW (by rw[m.z];omega)]),d.z.1⟩
end
end Go.Proofs.YtddfdpbaiedcjaaGreatDoor
