/- A part of Live's proof. Conditions: none. Part 5 of 15. -/
import Derived.Test.YtddfdpbaiedcjaaGreatDoorLiv4
set_option maxRecDepth 100000
set_option maxHeartbeats 16000000
set_option linter.all false
namespace Go.Proofs.YtddfdpbaiedcjaaGreatDoor
section
open Go.RowKit Go.Proofs.Tryz
def JV(b:Nat):Nat->Prop:=λk=>k=b
def OJ(e:Addr)(tb:Nat)(old:Value)(w:World)(hg:FJ w)(b:w.cell? tb=some old)(hf:w.frozen? ⟨tb,0,none⟩=false):Calls prog 75 #[.iface 162 (.pointer (some e)),.iface 164 (.pointer tb)] w λev w'=>ev=.returned (.bool true)/\DW (JV tb) w w'/\w'.cell? tb=some (.pointer (some e)):=by
 refine(ON e ⟨tb,0,none⟩ old w hg b hf).mono ?_;rintro ev w' ⟨rfl,rfl⟩;have hl:=zm b;refine⟨rfl,(((((DW.refl (JV tb) w).alloc _).alloc _).alloc _).alloc _).setCell (p:=tb) (.inl rfl) _,World.cell?_setCell_same _ _ _ ((((((DW.refl DY w).alloc _).alloc _).alloc _).alloc _).cell (a:=tb) id b)⟩
def OM(n:Int)(tb:Nat)(old:Value)(w:World)(hg:FJ w)(b:w.cell? tb=some old)(hf:w.frozen? ⟨tb,0,none⟩=false):Calls prog 75 #[.iface 57 (.int .i64 n),.iface 168 (.pointer tb)] w λev w'=>ev=.returned (.bool true)/\DW (JV tb) w w'/\w'.cell? tb=some (.int .i64 n):=by
 refine(OP n ⟨tb,0,none⟩ old w hg b hf).mono ?_;rintro ev w' ⟨rfl,rfl⟩;refine⟨rfl,(((((DW.refl (JV tb) w).alloc _).alloc _).alloc _).alloc _).setCell (p:=tb) (.inl rfl) _,World.cell?_setCell_same _ _ _ ((((((DW.refl DY w).alloc _).alloc _).alloc _).alloc _).cell (a:=tb) id b)⟩
def OL(n:Int)(tb:Nat)(old:Value)(w:World)(hg:FJ w)(ht:w.cell? tb=some old):Calls prog 75 #[.iface 57 (.int .i64 n),.iface 164 (.pointer tb)] w λev w'=>ev=.returned (.bool false)/\DW DY w w':=by
 refine(OO n ⟨tb,0,none⟩ old w hg ht).mono ?_;rintro ev w' ⟨rfl,rfl⟩;exact⟨rfl,(((DW.refl DY w).alloc _).alloc _).alloc _⟩
variable{S:Nat->Prop}{w w':World}
def FJ.mod(h:FJ w)(m:DW S w w')(hs:¬S 0):FJ w':=m.cell (a:=⟨0,0,none⟩) hs h
def MQ(w:World)(n at_:Int)(e:Ending)(w':World):Prop:=e=.returned (.tuple #[[n],[at_]])/\DW DY w w'
def Qk(w:World):Calls prog 43 #[.nilIface] w (MQ w 0 (-1)):=by
 go_enter func43,ntmps43;go_wp2_with fail;go_ret2;exact⟨rfl,((DW.refl _ _).alloc _).alloc _⟩
def eH(n:Int)(w:World):(binOp .eql 98 (.iface 57 (.int .i64 n)) .nilIface).run prog w=.ok (.bool false) w:=mr
def eG(p:Addr)(w:World):(binOp .eql 98 (.iface 162 (.pointer (some p))) .nilIface).run prog w=.ok (.bool false) w:=mr
structure Lo(w W:World):Prop where
 o0:W.heap[w.heap.size]?=some (.cells #[.pointer none] 162 (0,0))
 o1:W.heap[w.heap.size+1]?=some (.cells #[.int .i64 0] 57 (0,0))
 m:DW DY w W
def Vr(w:World):Lo w ((w.alloc (.cells #[.pointer none] 162)).alloc (.cells #[.int .i64 0] 57)):=by
 have e1:(w.alloc (.cells #[.pointer none] 162)).heap.size=w.heap.size+1:=mv;refine⟨((DW.refl DY _).alloc _).obj (λx=>x) (heap_alloc_new w _),?_,((DW.refl DY w).alloc _).alloc _⟩;rw[<-e1];exact heap_alloc_new _ _
def QF(n:Int)(w:World)(hg:FJ w):Calls prog 43 #[.iface 57 (.int .i64 n)] w (MQ w n (-1)):=by
 have q0:=eH n;have a:=Vr w;obtain⟨W,b⟩:=nm ((w.alloc (.cells #[.pointer none] 162)).alloc (.cells #[.int .i64 0] 57));rw[b]at a;have f:W.heap.size=w.heap.size+1+1:=by rw[<-b];simp
 have h0:=zm hg;have c:=hg.mod a.m (λx=>x);have g:=OL n w.heap.size _ W c (za a.o0 rfl);have d:=zb a;have HG:=zb c;have HW:=zb b;have HS:=zb f;clear a c b f hg;go_enter func43,ntmps43;go_wp2_with fail;rw[HW.z];refine g.mono ?_;rintro e w1 ⟨rfl,m1⟩;have k2:=OM n (w.heap.size+1) _ w1 (HG.z.mod m1 (λx=>x)) (za (m1.obj (λx=>x) d.z.o1) rfl) (zg (m1.obj (λx=>x) d.z.o1));clear g;have M1:=zb m1;clear m1;go_wp2_with fail;refine k2.mono ?_;rintro e w2 ⟨rfl,h,c2⟩;have k3:=OC n w2;have M2:=zb h;clear h k2;go_wp2_with fail;refine k3.mono ?_;rintro e w3 ⟨rfl,rfl⟩;go_wp2_with fail;go_ret2;exact⟨rfl,(d.z.m.trans M1.z).then M2.z (λk hk=>by unfold JV at hk;omega)⟩
def Sl(p:Nat)(n at_:Int)(w:World)(hg:FJ w)(f:w.cell? p=some (.int .i64 n))(c:w.cell? (p,1)=some (.int .i64 at_)):Calls prog 43 #[.iface 162 (.pointer p)] w (MQ w n at_):=by
 have q0:=eG ⟨p,0,none⟩;have b:=Vr w;obtain⟨W,g⟩:=nm ((w.alloc (.cells #[.pointer none] 162)).alloc (.cells #[.int .i64 0] 57));rw[g]at b;have hpl:=zm f;have h0:=zm hg;have h:=hg.mod b.m (λx=>x);have i:=OJ ⟨p,0,none⟩ w.heap.size _ W h (za b.o0 rfl) (zg b.o0);have p0:=b.m.cell (a:=p) id f;have p1:=b.m.cell (a:=U p 1) id c;have HT:=zb b;have HW:=zb g;clear b h g hg;go_enter func43,ntmps43;go_wp2_with fail;rw[HW.z];refine i.mono ?_;rintro e w1 ⟨rfl,m1,c1⟩;have d:¬JV w.heap.size p:=by unfold JV;omega
 have r0:=m1.cell (a:=p) d p0;have r1:=m1.cell (a:=U p 1) d p1;have k3:=OA p n w1 r0;have M1:=zb m1;clear m1 i p0 p1 f c;go_wp2_with fail;refine k3.mono ?_;rintro e w3 ⟨rfl,rfl⟩;clear k3;go_wp2_with fail;go_quiet (fail);go_wp2_with fail;go_ret2;exact⟨rfl,(HT.z.m.then M1.z (λk hk=>by unfold JV at hk;omega)).drewN _⟩
def UF(w:World)(n:Int)(e:Ending)(w':World):Prop:=e=.returned (.int .i64 n)/\DW DY w w'
def U9(v:Value)(n at_:Int)(w:World)(h:Calls prog 43 #[v] w (MQ w n at_)):Calls prog 53 #[v] w (UF w n):=by
 go_enter func53,ntmps53;go_wp2_with fail;refine h.mono ?_;rintro e w1 ⟨rfl,m1⟩;go_wp2_with fail;go_ret;exact⟨rfl,m1⟩
def EZ(n:Nat):Value:=if n=0 then .nilIface else .iface 57 (.int .i64 n)
def fw:EZ 0=.nilIface:=rfl
def Jf{n:Nat}(h:n≠0):EZ n=.iface 57 (.int .i64 n):=by simp[EZ,h]
def Nf(n:Nat)(w:World)(hg:FJ w):Calls prog 53 #[EZ n] w (UF w (n:Int)):=by
 by_cases h:n=0
 .subst h;exact U9 _ _ _ w (Qk w)
 rw[Jf h];exact U9 _ _ _ w (QF (n:Int) w hg)
def Ds(tag:nH)(i b:Nat)(W:World)(c':CS)(W':World):Prop :=
 ∃tag' V',zi tag' i b c' V' W'/\Dn i tag tag' W W'/\DW (λg=>(tag g).1=i) W W'
def Ej(tag:nH)(i b:Nat)(W:World)(r:Value)(c':CS)(e:Ending)(W':World):Prop:=e=.returned r/\Ds tag i b W c' W'
structure Kv(c c':CS):Prop where
 got:c'.got=c.got
 ws:∀k,k<8->(c'.ws k).b=(c.ws k).b/\(c'.ws k).sent.rs=(c.ws k).sent.rs/\(c'.ws k).came.rs=(c.ws k).came.rs
 rs:∀k,k<8->(c'.rs k).b=(c.rs k).b/\(c'.rs k).came.rs=(c.rs k).came.rs
 flight:c'.flight=c.flight
 waits:c'.waits=c.waits
 seen:c'.seen=c.seen
 came:c'.came=c.came
variable{V:CV}{W W':World}{b i:Nat}{c c':CS}{tag:nH}
def zi.re(h:zi tag i b c V W)(m:DW (λg=>g=b) W W')(d:W'.heap[b]?=some (.cells (zw c' V).toArray 127 (0,0)))(s:Kv c c'):zi tag i b c' V W':=by
 have q:∀{g:Nat} {r:Nat},tag g=(i,r)->r≠1->¬g=b:=λhg hr x=>by
  rw[x,h.tb]at hg;simp at hg;exact hr hg.symm
 have ne:∀(a k:Nat),1<a->a+k≠1:=λa k ha=>I
 obtain⟨s1,s2,f,e,s5,s6,s7⟩:=s;exact
  {obj:=d
   tb:=h.tb
   got:=by rw[s1];exact h.got.mod m (q h.tg mu) (λg hg=>q (h.tgv g hg) mu)
   tg:=h.tg
   tgv:=h.tgv
   wb:=λk hk=>by rw[(s2 k hk).1];exact m.owns (h.wb k hk) (λg hg=>q (h.twb k hk g hg) (ne _ _ mu))
   ws:=λk hk=>by rw[(s2 k hk).2.1];exact m.owns (h.ws k hk) (λg hg=>q (h.tws k hk g hg) (ne _ _ mu))
   wc:=λk hk=>by rw[(s2 k hk).2.2];exact m.owns (h.wc k hk) (λg hg=>q (h.twc k hk g hg) (ne _ _ mu))
   rb:=λk hk=>by rw[(f k hk).1];exact m.owns (h.rb k hk) (λg hg=>q (h.trb k hk g hg) (ne _ _ mu))
   rc:=λk hk=>by rw[(f k hk).2];exact m.owns (h.rc k hk) (λg hg=>q (h.trc k hk g hg) (ne _ _ mu))
   twb:=h.twb
   tws:=h.tws
   twc:=h.twc
   trb:=h.trb
   trc:=h.trc
   ft:=by rw[e];exact m.owns h.ft (λg hg=>q (h.tft g hg) mu)
   fl:=by rw[e];exact h.fl
   fs:=λp j=>by rw[e]at j;exact(h.fs p j).mod m (λg hg x=>q x mu hg) (λg hg=>hg)
   tft:=h.tft
   wt:=by rw[s5];exact h.wt.mod m (λg hg=>q (h.twt g hg) mu)
   twt:=h.twt
   sn:=by rw[s6];exact h.sn.mod m (q h.tsn mu)
   tsn:=h.tsn
   cm:=by rw[s7];exact m.owns h.cm (λg hg=>q (h.tcm g hg) mu)
   tcm:=h.tcm }
def zi.store(h:zi tag i b c V W)(j:Nat)(v:Value)(hc:(zw c V).set j v=zw c' V)(s:Kv c c'):zi tag i b c' V (W.setCell (b,j) v) :=
 h.re ((DW.refl (λg=>g=b) _).setCell (p:=(b,j)) (.inl rfl) _) (by rw[zc h.obj,Aq,hc]) s
def zi.left(h:zi tag i b c V W')(ht:Dv tag W)(m:DW (λg=>(tag g).1=i) W W'):Ds tag i b W c W':=⟨tag,V,h,Dn.same ht m,m⟩
def zi.modb(h:zi tag i b c V W)(m:DW (λg=>g=b) W W'):DW (λg=>(tag g).1=i) W W':=m.mono (λg hg=>.inl (by rw[hg,h.tb]))
variable{k:Nat}
def zi.storeW(h:zi tag i b c V W)(hk:k<8)(j:Nat)(hj:j<15)(v:Value)(x:WS)(hx:Fx x (V.wb k) (V.ws k) (V.wc k)=(Fx (c.ws k) (V.wb k) (V.ws k) (V.wc k)).set j v)(h1:x.b=(c.ws k).b)(h2:x.sent.rs=(c.ws k).sent.rs)(h3:x.came.rs=(c.ws k).came.rs):zi tag i b { c with ws:=zf c.ws k x } V (W.setCell (b,9+15*k+j) v):=by
 refine h.store _ _ (Ht _ _ _ _ _ hk hj (λq _=>?_) rfl rfl rfl) ⟨rfl,λq hq=>?_,λ_ _=>⟨rfl,rfl⟩,rfl,rfl,rfl,rfl⟩
 .by_cases a:q=k
  .subst a;simp only[ze,BC];exact hx
  simp only[zd _ _ a,AI a]
 by_cases a:q=k
 .subst a;simp only[ze];exact⟨h1,h2,h3⟩
 simp[zd _ _ a]
def zi.storeR(h:zi tag i b c V W)(hk:k<8)(j:Nat)(hj:j<13)(v:Value)(x:RS)(hx:Gp x (V.rb k) (V.rc k)=(Gp (c.rs k) (V.rb k) (V.rc k)).set j v)(h1:x.b=(c.rs k).b)(h3:x.came.rs=(c.rs k).came.rs):zi tag i b { c with rs:=zf c.rs k x } V (W.setCell (b,129+13*k+j) v):=by
 refine h.store _ _ (Ky _ _ _ _ _ hk hj (λq _=>?_) rfl rfl rfl) ⟨rfl,λ_ _=>⟨rfl,rfl,rfl⟩,λq hq=>?_,rfl,rfl,rfl,rfl⟩
 .by_cases a:q=k
  .subst a;simp only[ze,BC];exact hx
  simp only[zd _ _ a,AI a]
 by_cases a:q=k
 .subst a;simp only[ze];exact⟨h1,h3⟩
 simp[zd _ _ a]
def CS.stream(c:CS)(k:Int):Nat:=if c.closed≠0 then 12 else if k<0\/8<=k then 2 else 0
def Rw(h:zi tag i b c V W)(k:Int):Calls prog 90 #[(b,0),[k]] W λe W'=>e=.returned (EZ (c.stream k))/\W=W':=by
 have c4:=h.hd (j:=4) rfl;unfold CS.stream EZ;clear h;by_cases h0:c.closed=0
 .rw[h0]at c4;by_cases h1:k<0
  .simp only[h0,h1,true_or,ne_eq,CY,Be,BC];clear h0;go_enter func90,ntmps90;go_wp2_with fail;go_ret;exact⟨rfl,rfl⟩
  by_cases h2:8<=k
  .simp only[h0,h2,or_true,ne_eq,CY,Be,BC];clear h0;go_enter func90,ntmps90;go_wp2_with fail;go_ret;exact⟨rfl,rfl⟩
  simp only[h0,h1,h2,or_self,ne_eq,CY,Be,BC];clear h0;go_enter func90,ntmps90;go_wp2_with fail;go_ret;exact⟨rfl,rfl⟩
 have hb:((c.closed:Int)==0)=false:=AS.2 I;simp only[h0,ne_eq,As,BC];clear h0;go_enter func90,ntmps90;go_wp2_with fail;go_ret;exact⟨rfl,rfl⟩
def CS.finish(c:CS)(k:Int):Nat×CS :=
 if c.stream k≠0 then(c.stream k,c)else if (c.ws k.toNat).finished||(c.ws k.toNat).cut then(4,c)else(0,{ c with ws:=zf c.ws k.toNat { c.ws k.toNat with finished:=true } })
def j5(h:zi tag i b c V W)(r:Dv tag W)(k:Int):Calls prog 70 #[(b,0),[k]] W (Ej tag i b W (EZ (c.finish k).1) (c.finish k).2):=by
 have e:=Rw h k;have s:=zb (h.left r (DW.refl _ _));unfold CS.finish;by_cases d:c.stream k=0
 .obtain⟨k0,k8,m⟩:0<=k/\k<8/\c.closed=0:=by
   unfold CS.stream at d;split at d
   .cases d
   split at d
   .cases d
   rename_i a b;simp at a;omega
  obtain⟨q,rfl⟩:∃q:Nat,k=(q:Int):=⟨k.toNat,I⟩;have t:q<8:=I;rw[d]at e;simp only[d,Ae,ne_eq,CY,Be];obtain⟨fi,f⟩:=nm ((c.ws q).finished);obtain⟨cu,l⟩:=nm ((c.ws q).cut);have w8:W.cell? (b,9+q*15+8)=some (.bool fi):=by rw[<-f,AL];exact h.w (j:=8) t rfl
  have w10:W.cell? (b,9+q*15+10)=some (.bool cu):=by rw[<-l,AL];exact h.w (j:=10) t rfl
  have cf:=h.fz (9+q*15+8);have u:=h.storeW t 8 mu (.bool true) { c.ws q with finished:=true } rfl rfl rfl rfl;rw[AL]at u;have H:=zb (u.left r (h.modb ((DW.refl (λg=>g=b) _).setCell (p:=(b,9+q*15+8)) (.inl rfl) _)));obtain⟨c1,o⟩:∃c1:CS,{ c with ws:=zf c.ws q { c.ws q with finished:=true } }=c1:=⟨_,rfl⟩;rw[o]at H ⊢;rw[f,l];clear h u r f l d m o;cases fi
  .cases cu
   .go_enter func70,ntmps70;go_wp2_with (go_at_call 90;refine e.mono ?_;rintro _ _ ⟨rfl,rfl⟩;unfold EZ;simp only[BC]);go_ret;exact⟨rfl,H.z⟩
   go_enter func70,ntmps70;go_wp2_with (go_at_call 90;refine e.mono ?_;rintro _ _ ⟨rfl,rfl⟩;unfold EZ;simp only[BC]);go_ret;exact⟨rfl,s.z⟩
  go_enter func70,ntmps70;go_wp2_with (go_at_call 90;refine e.mono ?_;rintro _ _ ⟨rfl,rfl⟩;unfold EZ;simp only[BC]);go_ret;exact⟨rfl,s.z⟩
 obtain⟨n,m⟩:=nm (c.stream k);rw[m]at e d;simp only[m,d,ne_eq,As,BC];rw[Jf d]at e ⊢;clear h r m d;go_enter func70,ntmps70;go_wp2_with (go_at_call 90;refine e.mono ?_;rintro _ _ ⟨rfl,rfl⟩);go_ret;exact⟨rfl,s.z⟩
variable{V':CV}{tag':nH}
def zi.build{R:Nat->Prop}(h:zi tag i b c V W)(m:DW S W W')(hS:∀g,S g->∃r,R r/\tag g=(i,r))(ht:∀g,(tag g).1=i->tag' g=tag g)
  (n:W'.heap[b]?=some (.cells (zw c' V').toArray 127 (0,0)))
  (got:(c'.got=c.got/\V'.g=V.g/\V'.gv=V.gv/\¬R 2/\¬R 3)\/(El W' V'.g 0 V'.gv c'.got.rs c'.got.fl c'.got.most/\tag' V'.g=(i,2)/\∀g,V'.gv.ownBlock=some g->tag' g=(i,3)))
  (wb:∀k,k<8->((c'.ws k).b=(c.ws k).b/\V'.wb k=V.wb k/\¬R (10+k))\/(OB W' (V'.wb k) (c'.ws k).b/\∀g,(V'.wb k).ownBlock=some g->tag' g=(i,10+k)))
  (ws:∀k,k<8->((c'.ws k).sent.rs=(c.ws k).sent.rs/\V'.ws k=V.ws k/\¬R (20+k))\/(W'.ownsRow 0 214 2 (V'.ws k) (c'.ws k).sent.rs.length (zq (c'.ws k).sent.rs)/\∀g,(V'.ws k).ownBlock=some g->tag' g=(i,20+k)))
  (wc:∀k,k<8->((c'.ws k).came.rs=(c.ws k).came.rs/\V'.wc k=V.wc k/\¬R (30+k))\/(W'.ownsRow 0 214 2 (V'.wc k) (c'.ws k).came.rs.length (zq (c'.ws k).came.rs)/\∀g,(V'.wc k).ownBlock=some g->tag' g=(i,30+k)))
  (rb:∀k,k<8->((c'.rs k).b=(c.rs k).b/\V'.rb k=V.rb k/\¬R (40+k))\/(OB W' (V'.rb k) (c'.rs k).b/\∀g,(V'.rb k).ownBlock=some g->tag' g=(i,40+k)))
  (rc:∀k,k<8->((c'.rs k).came.rs=(c.rs k).came.rs/\V'.rc k=V.rc k/\¬R (50+k))\/(W'.ownsRow 0 214 2 (V'.rc k) (c'.rs k).came.rs.length (zq (c'.rs k).came.rs)/\∀g,(V'.rc k).ownBlock=some g->tag' g=(i,50+k)))
  (ft:(c'.flight=c.flight/\V'.ft=V.ft/\V'.fts=V.fts/\¬R 4/\¬R 5)\/(W'.ownsRow 0 173 3 V'.ft c'.flight.length (zy (c'.flight.zip V'.fts))/\V'.fts.length=c'.flight.length/\(∀p∈c'.flight.zip V'.fts,Gt tag' (i,5) W' p.2 p.1.fs)/\∀g,V'.ft.ownBlock=some g->tag' g=(i,4)))
  (wt:(c'.waits=c.waits/\V'.wt=V.wt/\¬R 6)\/(Er W' 65 10 V'.wt c'.waits.length (zt c'.waits)/\∀g,Value.blk V'.wt=some g->tag' g=(i,6)))
  (sn:(c'.seen=c.seen/\V'.sn=V.sn/\¬R 7)\/(Fw W' V'.sn c'.seen/\tag' V'.sn=(i,7)))
  (cm:(c'.came=c.came/\V'.cm=V.cm/\¬R 8)\/(W'.ownsRow 0 154 2 V'.cm c'.came.length (FB c'.came)/\∀g,V'.cm.ownBlock=some g->tag' g=(i,8))) :
  zi tag' i b c' V' W':=by
 have q:∀{g r:Nat},tag g=(i,r)->¬R r->¬S g:=λhg C x=>by
  obtain⟨r',h1,h2⟩:=hS _ x;rw[hg]at h2;simp at h2;rw[h2]at C;exact C h1
 have e:∀{g r:Nat},tag g=(i,r)->tag' g=(i,r):=λhg=>(ht _ (by rw[hg])).trans hg
 have j:El W' V'.g 0 V'.gv c'.got.rs c'.got.fl c'.got.most/\tag' V'.g=(i,2)/\∀g,V'.gv.ownBlock=some g->tag' g=(i,3):=by
  rcases got with⟨a,d,f,A,B⟩|x
  .rw[a,d,f];exact⟨h.got.mod m (q h.tg A) (λg hg=>q (h.tgv g hg) B),e h.tg,λg hg=>e (h.tgv g hg)⟩
  exact x
 have o:∀k,k<8->OB W' (V'.wb k) (c'.ws k).b/\∀g,(V'.wb k).ownBlock=some g->tag' g=(i,10+k):=λk hk=>by
  rcases wb k hk with⟨a,d,f⟩|x
  .rw[a,d];exact⟨m.owns (h.wb k hk) (λg hg=>q (h.twb k hk g hg) f),λg hg=>e (h.twb k hk g hg)⟩
  exact x
 have s:∀k,k<8->W'.ownsRow 0 214 2 (V'.ws k) (c'.ws k).sent.rs.length (zq (c'.ws k).sent.rs)/\∀g,(V'.ws k).ownBlock=some g->tag' g=(i,20+k):=λk hk=>by
  rcases ws k hk with⟨a,d,f⟩|x
  .rw[a,d];exact⟨m.owns (h.ws k hk) (λg hg=>q (h.tws k hk g hg) f),λg hg=>e (h.tws k hk g hg)⟩
  exact x
 have t:∀k,k<8->W'.ownsRow 0 214 2 (V'.wc k) (c'.ws k).came.rs.length (zq (c'.ws k).came.rs)/\∀g,(V'.wc k).ownBlock=some g->tag' g=(i,30+k):=λk hk=>by
  rcases wc k hk with⟨a,d,f⟩|x
  .rw[a,d];exact⟨m.owns (h.wc k hk) (λg hg=>q (h.twc k hk g hg) f),λg hg=>e (h.twc k hk g hg)⟩
  exact x
 have u:∀k,k<8->OB W' (V'.rb k) (c'.rs k).b/\∀g,(V'.rb k).ownBlock=some g->tag' g=(i,40+k):=λk hk=>by
  rcases rb k hk with⟨a,d,f⟩|x
  .rw[a,d];exact⟨m.owns (h.rb k hk) (λg hg=>q (h.trb k hk g hg) f),λg hg=>e (h.trb k hk g hg)⟩
  exact x
 have v:∀k,k<8->W'.ownsRow 0 214 2 (V'.rc k) (c'.rs k).came.rs.length (zq (c'.rs k).came.rs)/\∀g,(V'.rc k).ownBlock=some g->tag' g=(i,50+k):=λk hk=>by
  rcases rc k hk with⟨a,d,f⟩|x
  .rw[a,d];exact⟨m.owns (h.rc k hk) (λg hg=>q (h.trc k hk g hg) f),λg hg=>e (h.trc k hk g hg)⟩
  exact x
 have l:W'.ownsRow 0 173 3 V'.ft c'.flight.length (zy (c'.flight.zip V'.fts))/\V'.fts.length=c'.flight.length/\(∀p∈c'.flight.zip V'.fts,Gt tag' (i,5) W' p.2 p.1.fs)/\∀g,V'.ft.ownBlock=some g->tag' g=(i,4):=by
  rcases ft with⟨a,d,f,A,B⟩|x
  .rw[a,d,f];exact⟨m.owns h.ft (λg hg=>q (h.tft g hg) A),h.fl,λp hp=>(h.fs p hp).mod m (λg hg x=>q x B hg) (λg hg=>e hg),λg hg=>e (h.tft g hg)⟩
  exact x
 have w:Er W' 65 10 V'.wt c'.waits.length (zt c'.waits)/\∀g,Value.blk V'.wt=some g->tag' g=(i,6):=by
  rcases wt with⟨a,d,f⟩|x
  .rw[a,d];exact⟨h.wt.mod m (λg hg=>q (h.twt g hg) f),λg hg=>e (h.twt g hg)⟩
  exact x
 have y:Fw W' V'.sn c'.seen/\tag' V'.sn=(i,7):=by
  rcases sn with⟨a,d,f⟩|x
  .rw[a,d];exact⟨h.sn.mod m (q h.tsn f),e h.tsn⟩
  exact x
 have z:W'.ownsRow 0 154 2 V'.cm c'.came.length (FB c'.came)/\∀g,V'.cm.ownBlock=some g->tag' g=(i,8):=by
  rcases cm with⟨a,d,f⟩|x
  .rw[a,d];exact⟨m.owns h.cm (λg hg=>q (h.tcm g hg) f),λg hg=>e (h.tcm g hg)⟩
  exact x
 exact⟨n,e h.tb,j.1,j.2.1,j.2.2,λk hk=>(o k hk).1,λk hk=>(s k hk).1,λk hk=>(t k hk).1,λk hk=>(u k hk).1,λk hk=>(v k hk).1,λk hk=>(o k hk).2,λk hk=>(s k hk).2,λk hk=>(t k hk).2,λk hk=>(u k hk).2,λk hk=>(v k hk).2,
  l.1,l.2.1,l.2.2.1,l.2.2.2,w.1,w.2,y.1,y.2,z.1,z.2⟩
variable{g:Nat}
def zi.apart{a r b:Nat}(h:tag g=(i,r))(h':tag a=(i,b))(hr:r≠b):g≠a:=λe=>by
 rw[e,h']at h;simp at h;exact hr h.symm
variable{base e sz:Nat}{v:Value}{xs:nJ}
def zK{n:Nat}(h:w.ownsRow base e sz v n xs):∀g,v.ownBlock=some g->g<w.heap.size:=by
 intro g hg;rcases h.2 with⟨rfl,rfl⟩|⟨g',cap,cur,rfl,_,h0,h1,h2,_⟩
 .simp[Value.ownBlock]at hg
 simp[Value.ownBlock]at hg;subst hg;exact(AH.1 h0).1
def QE(w:World)(v:Value)(l:nG)(a:Addr)(cap:Nat)(s:nG)(h:OB w v l)(hb:BR w (.slice (some a) s.length cap) s)(hl:l.length+s.length<=140737488355328):∃v' w',(∀ty,(Builtin.append_ #[60,60] ty #[v,.slice (some a) s.length cap]).run prog w=.ok v' w')/\Dz w v l s v' w':=by
 obtain⟨i,hi,hz,b,c⟩:=info_parts Ox;obtain⟨a',c',e,_,_,hc⟩:=hb;cases e;obtain⟨v',w',h1,h2,h3,h4,h5⟩:=K3 (P:=prog) w 60 5 i (.int .u8 0) 1 1 underlying60 hi hz b c rfl mu v l.length (zU l) h a s.length cap (zU s) (by simp[zU]) (λj u f=>by
   simp only[zU,Bc,CB]at f;obtain⟨x,hx,rfl⟩:=f;obtain⟨g,o,e2,d⟩:=hc j x hx;cases e2;rw[zZ];exact d) (Ri s) mz I
 exact⟨v',w',h1,by rw[OB,AG,Nh];exact h2,h5,h3,h4⟩
def CS.send(c:CS)(k:Int)(s:nG):Nat×CS :=
 if c.stream k≠0 then(c.stream k,c)else if (c.ws k.toNat).finished||(c.ws k.toNat).cut then(4,c)else if 2048<(c.ws k.toNat).b.length+s.length then(3,c)else(0,{ c with ws:=zf c.ws k.toNat { c.ws k.toNat with b:=(c.ws k.toNat).b++s } })
def Nd{k:Int}(d:c.stream k=0):0<=k/\k<8/\c.closed=0:=by
 unfold CS.stream at d;split at d
 .cases d
 split at d
 .cases d
 rename_i a b;simp at a;omega
variable{W1:World}{v':Value}
def zi.newWb(h:zi tag i b c V W)(f:Dv tag W)(hi:0<i)(hk:k<8){s:nG}(d:Dz W (V.wb k) (c.ws k).b s v' W1):Ds tag i b W { c with ws:=zf c.ws k { c.ws k with b:=(c.ws k).b++s } } (W1.setCell (b,9+15*k) v'):=by
 have m1:=(DW.refl _ W).grown d.grown (λg hg=>.inl hg);have hb:¬(V.wb k).ownBlock=some b:=λx=>zi.apart h.tb (h.twb k hk b x) I rfl
 have o1:=m1.obj hb h.obj;have hbW:=Ei f h.tb hi;have l:DW (λg=>(V.wb k).ownBlock=some g\/g=b) W (W1.setCell (b,9+15*k) v'):=(m1.mono (λg hg=>.inl (.inl hg))).setCell (p:=(b,9+15*k)) (.inl (.inr rfl)) _;have hw:DW (λg=>g=b) W1 (W1.setCell (b,9+15*k) v'):=(DW.refl (λg=>g=b) _).setCell (p:=(b,9+15*k)) (.inl rfl) _;have j:∀g,v'.ownBlock=some g->g≠b:=λg hg x=>by
  subst x;rcases d.at_ g hg with y|y
  .exact hb y
  omega
 have hs1:W1.heap.size=(W1.setCell (b,9+15*k) v').heap.size:=mv;refine⟨zQ tag W W1 (i,10+k),{ V with wb:=zf V.wb k v' },?_,?_,l.mono (λg hg=>.inl ?_)⟩
 .refine h.build (R:=λr=>r=1\/r=10+k) l (λg hg=>?_) (λg hg=>zD (Ei f (i:=i) (r:=(tag g).2) (by rw[<-hg]) hi)) ?_ (.inl ⟨rfl,rfl,rfl,I,I⟩) (λq e=>?_) (λq e=>.inl ⟨?_,rfl,I⟩) (λq e=>.inl ⟨?_,rfl,I⟩) (λq e=>.inl ⟨rfl,rfl,I⟩) (λq e=>.inl ⟨rfl,rfl,I⟩) (.inl ⟨rfl,rfl,rfl,I,I⟩) (.inl ⟨rfl,rfl,I⟩) (.inl ⟨rfl,rfl,I⟩) (.inl ⟨rfl,rfl,I⟩)
  .rcases hg with hg|hg
   .exact⟨10+k,.inr rfl,h.twb k hk g hg⟩
   exact⟨1,.inl rfl,by rw[hg,h.tb]⟩
  .rw[zc o1,Aq];rw[show 9+15*k=9+15*k+0 from rfl,Ht c { c with ws:=zf c.ws k { c.ws k with b:=(c.ws k).b++s } } V { V with wb:=zf V.wb k v' } v' hk mu (λq _=>?_) rfl rfl rfl];by_cases a:q=k
   .subst a;simp only[ze,BC];rfl
   simp only[zd _ _ a,AI a]
  .by_cases a:q=k
   .subst a;simp only[ze];refine .inr ⟨hw.owns d.own j,λg hg=>?_⟩;rcases d.at_ g hg with y|y
    .rw[zD (Ei f (h.twb q hk g y) hi),h.twb q hk g y]
    rw[Gs y];have:=zK d.own g hg;exact this
   exact .inl ⟨by simp only[zd _ _ a],by simp only[zd _ _ a],I⟩
  .by_cases a:q=k
   .subst a;simp only[ze]
   simp only[zd _ _ a]
  by_cases a:q=k
  .subst a;simp only[ze]
  simp only[zd _ _ a]
 .have:=Jt (i:=i) (r:=10+k) (tag:=tag) m1.size;exact⟨this.old,this.new,λg hg=>this.z g (nF hg)⟩
 rcases hg with hg|hg
 .rw[h.twb k hk g hg]
 rw[hg,h.tb]
def fm(h:zi tag i b c V W)(A:Dv tag W)(hi:0<i)(k:Int)(a:Addr)(cap:Nat)(s:nG)(m:BR W (.slice (some a) s.length cap) s)(hsl:s.length<=1099511627776)(o:∀k,k<8->(c.ws k).b.length<=1099511627776):Calls prog 69 #[(b,0),.int .i64 k,.slice (some a) s.length cap] W (Ej tag i b W (EZ (c.send k s).1) (c.send k s).2):=by
 have f:=Rw h k;have B:=zb (h.left A (DW.refl _ _));unfold CS.send;by_cases l:c.stream k=0
 .obtain⟨k0,k8,v⟩:=Nd l;obtain⟨q,rfl⟩:∃q:Nat,k=(q:Int):=⟨k.toNat,I⟩;have e:q<8:=I;rw[l]at f;simp only[l,Ae,ne_eq,CY,Be];obtain⟨fi,p⟩:=nm ((c.ws q).finished);obtain⟨cu,r⟩:=nm ((c.ws q).cut);obtain⟨N,u⟩:=nm ((c.ws q).b.length);have C:=o q e;rw[u]at C;have w8:W.cell? (b,9+q*15+8)=some (.bool fi):=by rw[<-p,AL];exact h.w (j:=8) e rfl
  have w10:W.cell? (b,9+q*15+10)=some (.bool cu):=by rw[<-r,AL];exact h.w (j:=10) e rfl
  have E:W.cell? (b,9+q*15)=some (V.wb q):=by rw[AL];exact h.w (j:=0) e rfl
  obtain⟨v',W1,De,y⟩:=QE W (V.wb q) (c.ws q).b a cap s (h.wb q e) m I;obtain⟨va,vc,rfl,_⟩:=zk y.own;have D:=h.newWb A hi e y;rw[AL]at D;have w1:W1.cell? (b,9+q*15)=some (V.wb q):=by
   have m1:=(DW.refl _ W).grown y.grown (λg hg=>.inl hg);exact m1.cell (a:=⟨b,_,none⟩) (λx=>zi.apart h.tb (h.twb q e b x) I rfl) E
  have f1:W1.frozen? ⟨b,9+q*15,none⟩=false:=by
   have m1:=(DW.refl _ W).grown y.grown (λg hg=>.inl hg);have o1:=m1.obj (λx=>zi.apart h.tb (h.twb q e b x) I rfl) h.obj;simp[World.frozen?,o1]
  have H:=zb D;obtain⟨c1,z⟩:∃c1:CS,{ c with ws:=zf c.ws q { c.ws q with b:=(c.ws q).b++s } }=c1:=⟨_,rfl⟩;rw[z]at H ⊢;rw[p,r,u];rw[AG,u]at H;rw[AG,u]at De;obtain⟨wa,wc,t,_⟩:=zk (h.wb q e);rw[u]at t;rw[t]at E w1 De;clear h D A p r l v z u y m t o;cases fi
  .cases cu
   .by_cases d:2048<N+s.length
    .have d1:(2048:Int)-N<s.length:=I;simp only[d,Bool.or_self,BX,Be,BC];clear d;go_enter func69,ntmps69;go_wp2_with (go_at_call 90;refine f.mono ?_;rintro _ _ ⟨rfl,rfl⟩;unfold EZ;simp only[BC]);go_ret;exact⟨rfl,B.z⟩
    have d1:¬(2048:Int)-N<s.length:=I;simp only[d,Bool.or_self,BX,Be];clear d;go_enter func69,ntmps69;go_wp2_with (first|(go_at_call 90;refine f.mono ?_;rintro _ _ ⟨rfl,rfl⟩;unfold EZ;simp only[BC])|(at_builtin;refine zn rfl _ _ _ _ rfl _ _ _ rfl rfl De ?_));go_ret;exact⟨rfl,H.z⟩
   simp only[Bool.or_true,BC];go_enter func69,ntmps69;go_wp2_with (go_at_call 90;refine f.mono ?_;rintro _ _ ⟨rfl,rfl⟩;unfold EZ;simp only[BC]);go_ret;exact⟨rfl,B.z⟩
  simp only[Bool.true_or,BC];go_enter func69,ntmps69;go_wp2_with (go_at_call 90;refine f.mono ?_;rintro _ _ ⟨rfl,rfl⟩;unfold EZ;simp only[BC]);go_ret;exact⟨rfl,B.z⟩
 obtain⟨n,v⟩:=nm (c.stream k);rw[v]at f l;simp only[v,l,ne_eq,As,BC];rw[Jf l]at f ⊢;clear h A v l m o;go_enter func69,ntmps69;go_wp2_with (go_at_call 90;refine f.mono ?_;rintro _ _ ⟨rfl,rfl⟩);go_ret;exact⟨rfl,B.z⟩
structure EC(i:Nat)(tag:nH)(W:World):Prop where
 ok:Dv tag W
 pos:0<i
 err:FJ W
 tab:GA W
 g0:tag 0=(0,0)
 g1:tag 1=(0,0)
def EC.mod(h:EC i tag W)(m:DW S W W')(a:∀g,S g->(tag g).1≠0\/W.heap.size<=g):EC i tag W':=by
 have s0:¬S 0:=λx=>by
  rcases a 0 x with q|q
  .rw[h.g0]at q;exact q rfl
  have:=zm h.err;omega
 have s1:¬S 1:=λx=>by
  rcases a 1 x with q|q
  .rw[h.g1]at q;exact q rfl
  have:=h.tab.lt;omega
 exact⟨h.ok.mod m,h.pos,h.err.mod m s0,h.tab.mod m s1,h.g0,h.g1⟩
def EC.mod0(h:EC i tag W)(m:DW DY W W'):EC i tag W':=h.mod m (λ_ x=>x.elim)
def EC.left(h:EC i tag W)(e:Dn i tag tag' W W')(m:DW (λg=>(tag g).1=i) W W'):EC i tag' W':=by
 have p0:=zm h.err;have p1:=h.tab.lt;have a:=h.mod m (λg hg=>.inl (nC h.pos));exact⟨e.z,h.pos,a.err,a.tab,by rw[e.old 0 p0,h.g0],by rw[e.old 1 p1,h.g1]⟩
variable{W2:World}
def Ds.then0(h:Ds tag i b W c W1)(m:DW DY W1 W2):Ds tag i b W c W2:=by
 obtain⟨tag',V',h1,h2,h3⟩:=h;exact⟨tag',V',h1.mod0 m,⟨h2.old,h2.new,h2.z.mod m⟩,h3.trans (m.mono (λ_ x=>x.elim))⟩
variable{W0:World}
def Ds.thenS(e:Dv tag W)(hi:0<i)(m0:DW DY W W0)(h:Ds tag i b W0 c W1)(m:DW S W1 W2)(f:∀g,S g->W.heap.size<=g/\g<W0.heap.size):Ds tag i b W c W2:=by
 obtain⟨tag',V',h1,h2,h3⟩:=h;have q:∀g,S g->tag' g=(0,0):=λg hg=>by
  obtain⟨a,b⟩:=f g hg;rw[h2.old g b];exact e g a
 refine⟨tag',V',h1.mod m (λg hg x=>?_) (λ_ _=>rfl),⟨λg hg=>h2.old g (A7 hg m0.size),λg hg=>?_,h2.z.mod m⟩,?_⟩
 .rw[q g hg]at x;simp at x;omega
 .by_cases d:g<W0.heap.size
  .exact .inr (by rw[h2.old g d];exact e g hg)
  exact h2.new g I
 exact((m0.mono (λ_ x=>x.elim)).then h3 (λg hg=>.inl hg)).then m (λg hg=>.inr (f g hg).1)
def Ds.from0(ht:Dv tag W)(hi:0<i)(m0:DW DY W W0)(h:Ds tag i b W0 c W1):Ds tag i b W c W1 :=
 h.thenS (S:=DY) ht hi m0 (DW.refl _ _) (λ_ x=>x.elim)
def IP(w:World)(g n:Nat):Prop:=∃cs t fz,w.heap[g]?=some (.cells cs t fz)/\n<=cs.size/\n<=fz.1
variable{j:Nat}
def IP.cell{n:Nat}(h:IP w g n)(hj:j<n):(∃v,w.cell? (g,j)=some v)/\w.frozen? ⟨g,j,none⟩=false:=by
 obtain⟨cs,t,fz,h1,h2,h3⟩:=h;refine⟨⟨cs[j],za h1 (by simp[(I:j<cs.size)])⟩,?_⟩;obtain⟨lo,hi⟩:=fz;have:n<=lo:=h3;simp[World.frozen?,h1];omega
def IP.set{n:Nat}(h:IP w g n)(j:Nat)(v:Value):IP (w.setCell (g,j) v) g n:=by
 obtain⟨cs,t,fz,h1,h2,h3⟩:=h;exact⟨_,t,fz,zc h1,nF h2,h3⟩
def IP.mod{n:Nat}(h:IP w g n)(m:DW S w w')(hs:¬S g):IP w' g n:=by
 obtain⟨cs,t,fz,h1,h2,h3⟩:=h;exact⟨cs,t,fz,m.obj hs h1,h2,h3⟩
def Vq(w:World)(l:nG)(hl:l.length<=4611686018427387904):∃cap w',(convert 9 60 (.string (zu l))).run prog w=.ok (.slice w.heap.size l.length cap) w'/\BR w' (.slice w.heap.size l.length cap) l/\DW DY w w'/\w'.heap.size=w.heap.size+1/\IP w' w.heap.size l.length:=by
 have h:=Lib.run_convert_string_bytes (P:=prog) w 9 60 5 (zu l) (u:=.string) underlying9 underlying60 underlying5;have a:=grownCap_ge w (zu l).size 0 5;have b:grownCap w (zu l).size 0 5<=maxLen:=grownCap_le_maxLen w _ 0 _ (by rw[zJ];unfold maxLen;omega);have hb:=Lib.bytesWorld_at_new w 5 (zu l);rw[zJ]at h a b;have d:l.length<=(Lib.bytesCells w 5 (zu l)).size:=by
  by_cases h0:l.length=0
  .omega
  have:=Lib.bytesWorld_cell w 5 (zu l) (l.length-1) (by rw[zJ];omega);rw[World.cell?,hb]at this;have hq:(Lib.bytesCells w 5 (zu l))[l.length-1]?=some (.int .u8 (((zu l).data.toList.getD (l.length-1) 0).toNat:Int)):=nF this;have:=(AH.1 hq).1;omega
 refine⟨_,_,h,⟨_,_,rfl,a,b,λi c hc=>⟨_,_,rfl,?_⟩⟩,⟨?_,?_,?_,?_,?_⟩,Lib.bytesWorld_size _ _ _,⟨_,_,_,hb,d,d⟩⟩
 .have hi:=(AN.1 hc).1;have:=Lib.bytesWorld_cell w 5 (zu l) i (by rw[zJ];exact hi);rw[A6,this];simp only[zu,List.getD,hc,Option.getD_some]
 .simp[Lib.bytesWorld,World.freeze,World.alloc,World.drew,-World.alloc_eq,-World.drew_eq]
 .simp[Lib.bytesWorld,World.freeze,World.alloc,World.drew,-World.alloc_eq,-World.drew_eq]
 .simp[Lib.bytesWorld,World.freeze,World.alloc,World.drew,-World.alloc_eq,-World.drew_eq]
 .rw[Lib.bytesWorld_size];omega
 intro k hk _;exact Lib.bytesWorld_at_old w _ _ k hk
def j4(h:zi tag i b c V W)(E:EC i tag W)(k:Int):Calls prog 38 #[(b,0),[k]] W (Ej tag i b W (.int .i64 ((c.finish k).1:Int)) (c.finish k).2):=by
 have d:=j5 h E.ok k;have HE:=zb E;clear h E;go_enter func38,ntmps38;go_wp2_with fail;refine d.mono ?_;rintro _ W1 ⟨rfl,a⟩;obtain⟨tag',V',h1,h2,h3⟩:=id a;have kn:=Nf (c.finish k).1 W1 (HE.z.left h2 h3).err;have HL:=zb a;clear a h1 h2 h3 d;go_wp2_with fail;refine kn.mono ?_;rintro _ W2 ⟨rfl,e⟩;have H:=zb (HL.z.then0 e);clear e;go_wp2_with fail;go_ret;exact⟨rfl,H.z⟩
def fk(h:zi tag i b c V W)(E:EC i tag W)(k:Int)(s:nG)(t:s.length<=1099511627776)(d:∀k,k<8->(c.ws k).b.length<=1099511627776):Calls prog 37 #[(b,0),.int .i64 k,.string (zu s)] W (Ej tag i b W (.int .i64 ((c.send k s).1:Int)) (c.send k s).2):=by
 obtain⟨cap,W1,u,a,m1,f,l⟩:=Vq W s I;have L:=fm (h.mod0 m1) (E.ok.mod m1) E.pos k ⟨W.heap.size,0,none⟩ cap s a t d;have v:s.length<=cap/\cap<=maxLen:=by
  obtain⟨_,_,e,w,q,_⟩:=a;cases e;exact⟨w,q⟩
 obtain⟨hc1,y⟩:=v;unfold maxLen at y;have n:=zb E;have M:=zb m1;have HB:=zb l;have HS:=zb f;clear h E a m1 d l f;go_enter func37,ntmps37;go_wp2_with fail;refine L.mono ?_;rintro _ W2 ⟨rfl,z⟩;clear L;obtain⟨tag',V',w,q,A⟩:=id z;have N:=(n.z.mod0 M.z).left q A;have o:=HB.z.mod A (λx=>by
  have:=n.z.ok W.heap.size (AF _);rw[this]at x;have:=n.z.pos;simp at x;omega)
 have kn:=Nf (c.send k s).1 W2 N.err;have HL:=zb z;have B:=zb o;clear z w q A N o u;go_wp2_with fail;refine kn.mono ?_;rintro _ W3 ⟨rfl,C⟩;have D:=zb (B.z.mod C (λx=>x));have F:=zb (HL.z.then0 C);clear C kn;go_wp2_with fail
 go_loopw [19] (λG wr=>∃j:Nat,j<=s.length/\G=.int .i64 j/\IP wr W.heap.size s.length/\DW (λg=>g=W.heap.size) W3 wr) (λG _=>s.length-(intOf G).toNat)
 case atStart=>exact⟨0,AM _,rfl,D.z,DW.refl _ _⟩
 case round =>
  obtain⟨j,hj,rfl,r,m⟩:=hrel;by_cases J:j<s.length
  .obtain⟨⟨v0,e0⟩,z0⟩:=r.cell J;have K:=zb (r.set j (.int .u8 33));have HM:=zb (m.setCell (p:=(W.heap.size,j)) (.inl rfl) (.int .u8 33));clear r m;go_wp2_with fail;go_roundw
   case rel=>exact⟨j+1,I,by go_num,K.z,HM.z⟩
   simp[intOf];omega
  have H:=zb (F.z.thenS n.z.ok n.z.pos M.z m (λg hg=>by
   have hg:=hg;have:=HS.z;omega))
  clear r m;go_wp2_with fail;go_ret;exact⟨rfl,H.z⟩
def RS.used(x:RS):Nat:=if x.state=2 then x.fin else x.read
def RS.hopes(x:RS):Bool:=if x.cut then decide (x.grant<x.keep)||(x.anew&&x.state==0)else !x.ended
def UE(h:zi tag i b c V W)(hk:k<8):Calls prog 196 #[(b,129+k*13)] W λe W'=>e=.returned (.int .u64 ((c.rs k).used:Int))/\W=W':=by
 have f:W.cell? (b,129+k*13+10)=some (.int .i64 ((c.rs k).state:Int)):=by rw[AL];exact h.r (j:=10) hk rfl
 have c5:W.cell? (b,129+k*13+5)=some (.int .u64 ((c.rs k).fin:Int)):=by rw[AL];exact h.r (j:=5) hk rfl
 have c9:W.cell? (b,129+k*13+9)=some (.int .u64 ((c.rs k).read:Int)):=by rw[AL];exact h.r (j:=9) hk rfl
 obtain⟨x,hx⟩:=nm (c.rs k);rw[hx]at f c5 c9 ⊢;clear h hx;unfold RS.used;by_cases a:x.state=2
 .have d:((x.state:Int)==2)=true:=by rw[a];rfl
  rw[AQ a];clear a;go_enter func196,ntmps196;go_wp2_with fail;go_ret;exact⟨rfl,rfl⟩
 have d:((x.state:Int)==2)=false:=AS.2 I;rw[AI a];clear a;go_enter func196,ntmps196;go_wp2_with fail;go_ret;exact⟨rfl,rfl⟩
def U8(h:zi tag i b c V W)(hk:k<8):Calls prog 197 #[(b,129+k*13)] W λe W'=>e=.returned (.bool (c.rs k).hopes)/\DW DY W W':=by
 have f:W.cell? (b,129+k*13+10)=some (.int .i64 ((c.rs k).state:Int)):=by rw[AL];exact h.r (j:=10) hk rfl
 have q:W.cell? (b,129+k*13+6)=some (.bool (c.rs k).ended):=by rw[AL];exact h.r (j:=6) hk rfl
 have s:W.cell? (b,129+k*13+7)=some (.bool (c.rs k).cut):=by rw[AL];exact h.r (j:=7) hk rfl
 have t:W.cell? (b,129+k*13+8)=some (.int .u64 ((c.rs k).keep:Int)):=by rw[AL];exact h.r (j:=8) hk rfl
 have g:W.cell? (b,129+k*13+11)=some (.int .u64 ((c.rs k).grant:Int)):=by rw[AL];exact h.r (j:=11) hk rfl
 have a:W.cell? (b,129+k*13+12)=some (.bool (c.rs k).anew):=by rw[AL];exact h.r (j:=12) hk rfl
 obtain⟨x,hx⟩:=nm (c.rs k);rw[hx]at f q s t g a ⊢;clear h hx;unfold RS.hopes;obtain⟨cu,l⟩:=nm x.cut;obtain⟨an,m⟩:=nm x.anew;obtain⟨en,n⟩:=nm x.ended;rw[l]at s ⊢;rw[m]at a ⊢;rw[n]at q ⊢;clear l m n;cases cu
 .clear t f g a;cases en
  .go_enter func197,ntmps197;go_wp2_with fail;go_ret;exact⟨rfl,DW.refl _ _⟩
  go_enter func197,ntmps197;go_wp2_with fail;go_ret;exact⟨rfl,DW.refl _ _⟩
 by_cases hg:x.grant<x.keep
 .have d:decide (x.grant<x.keep)=true:=by simp[hg]
  have HD:AA (decide (x.grant<x.keep)=true):=zb (by simp[hg]);clear hg;go_enter func197,ntmps197;go_wp2_with fail;go_quiet (fail);go_wp2_with fail;go_ret;exact⟨rfl,(DW.refl DY _).drewN _⟩
 have d:decide (x.grant<x.keep)=false:=by simp[hg]
 have HD:AA (decide (x.grant<x.keep)=false):=zb (by simp[hg]);clear hg;cases an
 .go_enter func197,ntmps197;go_wp2_with fail;go_quiet (fail);go_wp2_with fail;go_ret;exact⟨rfl,(DW.refl DY _).drewN _⟩
 by_cases o:x.state=0
 .have e:((x.state:Int)==0)=true:=by rw[o];rfl
  have p:AA ((x.state==0)=true):=zb (by rw[o];rfl);clear o;go_enter func197,ntmps197;go_wp2_with fail;go_quiet (fail);go_wp2_with fail;go_ret;exact⟨by rw[p.z];rfl,(DW.refl DY _).drewN _⟩
 have e:((x.state:Int)==0)=false:=AS.2 I;have p:=zb (AS.2 o);clear o;go_enter func197,ntmps197;go_wp2_with fail;go_quiet (fail);go_wp2_with fail;go_ret;exact⟨by rw[p.z];rfl,(DW.refl DY _).drewN _⟩
def zI(ws:Nat->WS):Nat->Nat
 | 0=>0
 | k+1=>zI ws k+(ws k).high
def CS.spent(c:CS):Nat:=zI c.ws 8
variable{m:Nat}
theorem lW(ws:Nat->WS)(h:k<=m):zI ws k<=zI ws m:=by
 induction m with
 | zero=>rw[Nat.le_zero.1 h];exact AF _
 | succ m ih =>
  by_cases e:k=m+1
  .rw[e];exact AF _
  have:=ih I;simp only[zI];omega
def fj(h:zi tag i b c V W)(o:c.spent<18446744073709551616):Calls prog 199 #[(b,0)] W λe W'=>e=.returned (.int .u64 c.spent)/\W=W':=by
 have HH:=zb h;have HS:=zb o;clear h o;go_enter func199,ntmps199;go_wp2_with fail
 go_loopw [3,5] (λnv f wr=>∃k:Nat,k<=8/\nv=.int .u64 (zI c.ws k:Int)/\f=.int .i64 k/\W=wr) (λ_ f _=>8-(intOf f).toNat)
 case atStart=>exact⟨0,I,rfl,rfl,rfl⟩
 case round =>
  obtain⟨k,hk,rfl,rfl,rfl⟩:=hrel;by_cases g:k<8
  .have c7:W.cell? (b,9+k*15+7)=some (.int .u64 ((c.ws k).high:Int)):=by rw[AL];exact HH.z.w (j:=7) g rfl
   have hb:zI c.ws k+(c.ws k).high<18446744073709551616:=by
    have h1:zI c.ws (k+1)<=zI c.ws 8:=lW _ I;have h2:zI c.ws 8<18446744073709551616:=HS.z;have h3:zI c.ws (k+1)=zI c.ws k+(c.ws k).high:=rfl;omega
   obtain⟨n,a⟩:=nm (zI c.ws k);obtain⟨m,d⟩:=nm ((c.ws k).high);have HN:AA (zI c.ws (k+1)=n+m):=by
    show _=_;rw[<-a,<-d];rfl
   rw[a,d]at hb;rw[a];rw[d]at c7;have hw1:=wu ((n:Int)+m) I;clear a d;go_wp2_with fail;go_roundw
   case rel=>exact⟨k+1,I,by rw[HN.z];rfl,by go_num,trivial⟩
   simp[intOf];omega
  have l:k=8:=I;subst l;go_wp2_with fail;go_ret;exact⟨rfl,rfl⟩
structure Dd where
 b:nG
 fs:List Da
 room:Nat
 wants:Bool
 full:Bool
def Dd.add(d:Dd)(f:Da):Option Dd :=
 if d.room<(d.b++zA f).length+4 then none else some { d with b:=d.b++zA f,fs:=d.fs++[f],wants:=d.wants||f.kind != 2 }
structure Eh(tag:nH)(i db:Nat)(d:Dd)(bv fv:Value)(l:List (Da×Value))(W:World):Prop where
 obj:W.heap[db]?=some (.cells #[bv,fv,[d.room],d.wants,d.full] 180 (0,0))
 tb:tag db=(i,90)
 ob:OB W bv d.b
 tbv:∀g,bv.ownBlock=some g->tag g=(i,91)
 own:W.ownsRow 0 65 10 fv l.length (FM l)
 lf:l.map (·.1)=d.fs
 rr:∀x∈l,RR W x.2 x.1.rngs/\∀g,Value.blk x.2=some g->tag g=(i,5)
 tfv:∀g,fv.ownBlock=some g->tag g=(i,92)
structure JM(i:Nat)(tag tag':nH)(W W':World):Prop where
 old:∀g,g<W.heap.size->tag' g=tag g
 new:∀g,W.heap.size<=g->(∃r,90<=r/\tag' g=(i,r))\/tag' g=(0,0)
 z:Dv tag' W'
def JU(i:Nat)(tag:nH)(g:Nat):Prop:=∃r,90<=r/\tag g=(i,r)
def zi.modR(h:zi tag i b c V W)(hk:Dv tag W)(hi:0<i)(m:DW (JU i tag) W W')(e:∀g,g<W.heap.size->tag' g=tag g):zi tag' i b c V W':=by
 refine h.build (R:=λr=>90<=r) m (λg hg=>hg) (λg hg=>e g (Ei hk (i:=i) (r:=(tag g).2) (by rw[<-hg]) hi)) (m.obj (λ⟨r,hr,hx⟩=>?_) h.obj) (.inl ⟨rfl,rfl,rfl,I,I⟩) (λk hk=>.inl ⟨rfl,rfl,I⟩) (λk hk=>.inl ⟨rfl,rfl,I⟩) (λk hk=>.inl ⟨rfl,rfl,I⟩) (λk hk=>.inl ⟨rfl,rfl,I⟩) (λk hk=>.inl ⟨rfl,rfl,I⟩) (.inl ⟨rfl,rfl,rfl,I,I⟩) (.inl ⟨rfl,rfl,I⟩) (.inl ⟨rfl,rfl,I⟩) (.inl ⟨rfl,rfl,I⟩);rw[h.tb]at hx;simp at hx;omega
def JO(tag:nH)(i db:Nat)(W:World)(d:Dd)(f:Da)(e:Ending)(W':World):Prop :=
 e=.returned (.bool (d.add f).isSome)/\∃tag' bv' fv' l',Eh tag' i db ((d.add f).getD d) bv' fv' l' W'/\JM i tag tag' W W'/\DW (JU i tag) W W'
variable{bv fv:Value}{d:Dd}{db:Nat}{f:Da}
def X1{l:List (Da×Value)}(h:Eh tag i db d bv fv l W)(hk:Dv tag W)(hi:0<i)(m1:DW DY W W1)(j:Dz W1 bv d.b (zA f) v' W2)(c:d.add f=none):JO tag i db W d f (.returned (.bool false)) W2:=by
 have e:=((m1.mono (λ_ x=>x.elim)).then ((DW.refl (λg=>bv.ownBlock=some g) W1).grown j.grown (λg hg=>.inl hg)) (λg hg=>.inl hg));have a:∀{g r:Nat},tag g=(i,r)->g<W.heap.size:=λhg=>Ei hk hg hi
 refine⟨by rw[c];rfl,zQ tag W W2 (i,91),bv,fv,l,?_,⟨λg hg=>zD hg,λg hg=>?_,λg hg=>?_⟩,e.mono (λg hg=>.inl ⟨91,mu,h.tbv g hg⟩)⟩
 .rw[c];show Eh _ i db d bv fv l W2;exact⟨e.obj (λx=>zi.apart h.tb (h.tbv _ x) mu rfl) h.obj,by rw[zD (a h.tb),h.tb],j.old,λg hg=>by rw[zD (a (h.tbv g hg)),h.tbv g hg],e.owns h.own (λg hg x=>zi.apart (h.tfv g hg) (h.tbv g x) mu rfl),h.lf,
   λx hx=>⟨(h.rr x hx).1.mod e (Hq λg hg y=>zi.apart ((h.rr x hx).2 g hg) (h.tbv g y) mu rfl),λg hg=>by rw[zD (a ((h.rr x hx).2 g hg)),(h.rr x hx).2 g hg]⟩,λg hg=>by rw[zD (a (h.tfv g hg)),h.tfv g hg]⟩
 .by_cases q:g<W2.heap.size
  .exact .inl ⟨91,mu,Gs hg q⟩
  exact .inr (by simp only[zQ,(I:¬g<W.heap.size),q,AI,As])
 have:=e.size;simp only[zQ,(I:¬g<W.heap.size),(I:¬g<W2.heap.size),AI,As]
variable{d':Dd}{rv:Value}
def eD{l:List (Da×Value)}{n k e:World}{o:Value}(h:Eh tag i db d bv fv l W)(hk:Dv tag W)(hi:0<i)(m1:DW DY W W1)(p:Dz W1 bv d.b (zA f) v' W2)(hd:d.add f=some d')
  (hr:RR W rv f.rngs) (s:∀g,Value.blk rv=some g->tag g=(i,5)) (C:DW (λg=>g=db) W2 n) (c:k.ownsRow 0 65 10 o (l.length+1) (FM (l++[(f,rv)]))) (w:n.grownBy k fv.ownBlock) (t:EA n fv o) (z:DW (λg=>g=db) k e)
  (ho:e.heap[db]?=some (.cells #[v',o,[d.room],d'.wants,d.full] 180 (0,0))) (hs3:n.heap.size=W2.heap.size) (hs6:e.heap.size=k.heap.size) :
  JO tag i db W d f (.returned (.bool true)) e:=by
 have a:∀{g r:Nat},tag g=(i,r)->g<W.heap.size:=λhg=>Ei hk hg hi
 have D:=(DW.refl (λg=>bv.ownBlock=some g) W1).grown p.grown (λg hg=>.inl hg);have m2:=(m1.mono (λ_ x=>x.elim)).then D (λg hg=>.inl hg);have A:=(DW.refl (λg=>fv.ownBlock=some g) n).grown w (λg hg=>.inl hg);have m:DW (λg=>g=db\/bv.ownBlock=some g\/fv.ownBlock=some g) W e:=(((m2.mono (λg hg=>.inl (.inr (.inl hg)))).then C (λg hg=>.inl (.inl hg))).then A (λg hg=>.inl (.inr (.inr hg)))).then z (λg hg=>.inl (.inl hg));have B:DW (λg=>g=db\/fv.ownBlock=some g) W2 e:=((C.mono (λg hg=>.inl (.inl hg))).then A (λg hg=>.inl (.inr hg))).then z (λg hg=>.inl (.inl hg));have z1:=m1.size;have z2:=D.size;have z5:=A.size;have j:d'={ d with b:=d.b++zA f,fs:=d.fs++[f],wants:=d.wants||f.kind != 2 }:=by
  unfold Dd.add at hd;split at hd
  .cases hd
  exact(Bt hd).symm
 have u:=λx hx=>(h.rr x hx).1.mod m (Hq λg hg y=>by
  rcases y with y|y|y
  .exact zi.apart ((h.rr x hx).2 g hg) (y ▸ h.tb) mu rfl
  .exact zi.apart ((h.rr x hx).2 g hg) (h.tbv g y) mu rfl
  exact zi.apart ((h.rr x hx).2 g hg) (h.tfv g y) mu rfl)
 have v:=hr.mod m (Hq λg hg y=>by
  rcases y with y|y|y
  .exact zi.apart (s g hg) (y ▸ h.tb) mu rfl
  .exact zi.apart (s g hg) (h.tbv g y) mu rfl
  exact zi.apart (s g hg) (h.tfv g y) mu rfl)
 refine⟨by rw[hd];rfl,λg=>if g<W.heap.size then tag g else if g<W2.heap.size then(i,91)else if g<k.heap.size then(i,92)else(0,0),v',o,l++[(f,rv)],?_,⟨λg hg=>AQ hg,λg hg=>?_,λg hg=>?_⟩,m.mono (λg hg=>.inl ?_)⟩
 .rw[hd];show Eh _ i db d' v' o _ e;refine⟨by rw[ho,j],by rw[AQ (a h.tb),h.tb],?_,λg hg=>?_,?_,by rw[j,Ba,h.lf];rfl,λx hx=>?_,λg hg=>?_⟩
  .rw[j];refine B.owns p.own (λg hg y=>?_);rcases p.at_ g hg with q|q
   .rcases y with y|y
    .exact zi.apart (h.tbv g q) (y ▸ h.tb) mu rfl
    exact zi.apart (h.tbv g q) (h.tfv g y) mu rfl
   rcases y with y|y
   .have:=a h.tb;omega
   have:=a (h.tfv g y);omega
  .rcases p.at_ g hg with q|q
   .rw[AQ (a (h.tbv g q)),h.tbv g q]
   have:=zK p.own g hg;simp only[(I:¬g<W.heap.size),AI,As,AQ this]
  .rw[AG];refine z.owns c (λg hg y=>?_);have y:=y;rcases t g hg with q|q
   .exact zi.apart (h.tfv g q) (y ▸ h.tb) mu rfl
   have:=a h.tb;omega
  .rw[Al]at hx;rcases hx with hx|hx
   .exact⟨u x hx,λg hg=>by rw[AQ (a ((h.rr x hx).2 g hg)),(h.rr x hx).2 g hg]⟩
   rw[Ag]at hx;subst hx;exact⟨v,λg hg=>by rw[AQ (a (s g hg)),s g hg]⟩
  rcases t g hg with q|q
  .rw[AQ (a (h.tfv g q)),h.tfv g q]
  have:=zK c g hg;simp only[(I:¬g<W.heap.size),(I:¬g<W2.heap.size),AI,As,AQ this]
 .simp only[(I:¬g<W.heap.size),AI,As];split
  .exact .inl ⟨91,mu,rfl⟩
  split
  .exact .inl ⟨92,mu,rfl⟩
  exact .inr rfl
 .simp only[(I:¬g<W.heap.size),(I:¬g<W2.heap.size),(I:¬g<k.heap.size),AI,As]
 rcases hg with hg|hg|hg
 .exact⟨90,mu,by rw[hg,h.tb]⟩
 .exact⟨91,mu,h.tbv g hg⟩
 exact⟨92,mu,h.tfv g hg⟩
def O0{l:List (Da×Value)}(h:Eh tag i db d bv fv l W)(hk:Dv tag W)(hi:0<i)(f:Da)(ra:nI)(rn rc:Nat)(hs:zX f=true)(hr:RR W (.slice ra rn rc) f.rngs)(ht:∀g,Value.blk (.slice ra rn rc)=some g->tag g=(i,5))
  (ax:f.rngs.length<=1099511627776) (ay:f.data.length<=35184372088832) (az:d.b.length<=35184372088832) (hbf:(zA f).length<=35184372088832) (aA:l.length<=1099511627776) :
  Calls prog 142 #[(db,0),.agg (zl f (.slice ra rn rc))] W (JO tag i db W d f):=by
 obtain⟨rv,M⟩:=nm (Value.slice ra rn rc);rw[M]at hr ht ⊢;obtain⟨W0,z⟩:=nm (W.alloc (.cells (zl f rv) 65));have m0:=AB z;have o0:zj W0 W.heap.size f rv:=by rw[<-z];exact heap_alloc_new W _
 have O:=m0.drew;have oD:=m0.obj (λx=>x) h.obj;have aL:=Ei hk h.tb hi;have ka:=Rg bv d.b f rv W0.drew (O.owns h.ob (λ_ _ x=>x)) (λ_=>Hq λg hg x=>zi.apart (ht g hg) (h.tbv g x) mu rfl) (hr.mod O (Dp.no _)) ax ay az;rw[hs]at ka;have F:¬bv.ownBlock=some db:=λx=>zi.apart h.tb (h.tbv _ x) mu rfl
 have G:¬bv.ownBlock=some W.heap.size:=λx=>nC (Ei hk (h.tbv _ x) hi)
 have aa:¬fv.ownBlock=some db:=λx=>zi.apart h.tb (h.tfv _ x) mu rfl
 have ab:¬fv.ownBlock=some W.heap.size:=λx=>nC (Ei hk (h.tfv _ x) hi)
 obtain⟨ba,bc,ac,hb1,hb2,_⟩:=zk h.ob;obtain⟨fa,fc,ad,hf1,hf2,_⟩:=zk h.own;have P:=zb h;have HK:=zb hk;have HR:=zb hr;have HT:=zb ht;have KA:=zb ka;have M0:=zb m0;have Q:=zb oD;have R:=zb o0;have aB:=zb z;have ae:¬W.heap.size=db:=I;have aM:¬db=W.heap.size:=I;clear h hk hr ht ka m0 oD o0 z O hs;obtain⟨dw,af⟩:=nm d.wants;have ah:=zb af;have aC:=zb ac;have HFV:=zb ad;have aD:=zb M;clear af ac ad M;go_enter func142,ntmps142;go_wp2_with fail;rw[aB.z];refine zo 7 (λw'=>zj w' W.heap.size f rv/\w'.heap[db]?=some (.cells #[bv,fv,[d.room],d.wants,d.full] 180 (0,0))) (⟨R.z,Q.z⟩) ?_;refine GI 0 ?_;iterate 5
  refine GS rfl ?_ ?_ ?_;rotate_left
  ·(intro wx k;obtain⟨hf,hd⟩:=k;obtain⟨y0,y1,y2,y3,y4,y5,y6,y7,y8,y9⟩:=hf.cells;have d0:=za (o:=0) hd rfl;have d1:=za (o:=1) hd rfl;go_simp;try with_reducible rfl)
  try simp only[PS]
 refine zE 5 rfl (λK s=>?_);go_simp;refine KA.z.mono ?_;rintro e W2 (⟨_,v',rfl,hA⟩|⟨hx,_⟩);rotate_left
 .cases hx
 have mA:=(DW.refl (λg=>bv.ownBlock=some g) W0.drew).grown hA.grown (λg hg=>.inl hg);have A:zj W2 W.heap.size f rv/\W2.heap[db]?=some (.cells #[bv,fv,[d.room],d.wants,d.full] 180 (0,0)):=⟨mA.obj G R.z,mA.obj F Q.z⟩;refine s.z _ _ A ?_;clear s K;try simp only[PS]
 refine GI 6 ?_;refine GS rfl ?_ ?_ ?_;rotate_left
 ·(intro wx k;obtain⟨hf,hd⟩:=k;obtain⟨y0,y1,y2,y3,y4,y5,y6,y7,y8,y9⟩:=hf.cells;have d0:=za (o:=0) hd rfl;have d1:=za (o:=1) hd rfl;go_simp;try with_reducible rfl)
 try simp only[PS]
 refine zr ?_;obtain⟨va,vc,S,z1,z2,_⟩:=zk hA.own;have HA:=zb hA;have MA:=zb mA;have aE:=zb A;have x2:W2.cell? (db,2)=some (.int .i64 d.room):=za A.2 rfl;obtain⟨N,T⟩:=nm ((d.b++zA f).length);rw[T]at S z1;have hNl:N<=70368744177664:=by rw[<-T,AG];omega
 unfold maxLen at z2;have ai:=zb S;clear hA mA A aE;rw[ai.z];by_cases c:d.room<N+4
 .have a:d.add f=none:=by unfold Dd.add;rw[T,AQ c]
  have H:=zb (X1 P.z HK.z hi M0.z.drew HA.z a);have q1:(d.room:Int)<(N:Int)+4:=I;clear T c a S;go_wp2_with fail;go_ret;exact H.z
 have q1:¬(d.room:Int)<(N:Int)+4:=I;obtain⟨d',a⟩:∃d',d.add f=some d':=by unfold Dd.add;rw[T,AI c];exact⟨_,rfl⟩
 have aj:d'.wants=(d.wants||f.kind != 2):=by
  unfold Dd.add at a;rw[T,AI c]at a;rw[<-Option.some.inj a]
 have HW:=zb aj;have ak:=zb a;have B:=MA.z.obj F Q.z;have al:=MA.z.obj G R.z;have aF:W2.cell? db=some bv:=za B rfl;have f2:∀j,W2.frozen? ⟨db,j,none⟩=false:=λj=>zg B
 obtain⟨r,t⟩:=nm (W2.setCell db v');have m3:DW (λg=>g=db) W2 r:=by rw[<-t];exact(DW.refl (λg=>g=db) _).setCell (p:=db) (.inl rfl) _
 have am:r.heap.size=W2.heap.size:=by rw[<-t];simp
 have C:r.heap[db]?=some (.cells #[v',fv,[d.room],d.wants,d.full] 180 (0,0)):=by rw[<-t];exact zc B
 have D:zj r W.heap.size f rv:=m3.obj ae al;have an:=(M0.z.drew.mono (λ_ x=>x.elim)).then MA.z (λg hg=>.inl hg);have ao:=m3.owns (an.owns P.z.own (λg hg x=>zi.apart (P.z.tfv g hg) (P.z.tbv g x) mu rfl)) (λg hg x=>zi.apart (P.z.tfv g hg) (x ▸ P.z.tb) mu rfl);obtain⟨v5,V,Y,n,q,ap⟩:=Tn r.drew fv l f ra rn rc ao aA;rw[aD.z]at Y n;obtain⟨fa5,fc5,aq,_⟩:=zk n;have u:r.grownBy V fv.ownBlock:=⟨q.os,q.tape,q.output,q.size,q.block⟩;have J:EA r fv v5:=ap;have m5:=(DW.refl (λg=>fv.ownBlock=some g) r).grown u (λg hg=>.inl hg);have v:=m5.obj aa C;have Z:=m5.obj ab D;have f5:∀j,V.frozen? ⟨db,j,none⟩=false:=λj=>zg v
 have c51:V.cell? (db,1)=some fv:=za v rfl;obtain⟨L,w⟩:=nm (V.setCell (U db 1) v5);have m6:DW (λg=>g=db) V L:=by rw[<-w];exact(DW.refl (λg=>g=db) _).setCell (p:=U db 1) (.inl rfl) _
 have E:L.heap[db]?=some (.cells #[v',v5,[d.room],d.wants,d.full] 180 (0,0)):=by rw[<-w];exact zc v
 have ar:zj L W.heap.size f rv:=m6.obj ae Z;have c63:L.cell? (db,3)=some (.bool dw):=by rw[<-ah.z];exact za E rfl
 have k60:=ar.cells.1;have f6:∀j,L.frozen? ⟨db,j,none⟩=false:=λj=>zg E
 have H:∀x,L.setCell (db,3) (.bool x)=L.setCell (db,3) (.bool x)->x=(dw||f.kind != 2)->JO tag i db W d f (.returned (.bool true)) (L.setCell (db,3) (.bool x)):=λx _ hx=>by
  refine eD P.z HK.z hi M0.z.drew HA.z ak.z HR.z HT.z m3 n u J (m6.setCell (p:=U db 3) (.inl rfl) _) ?_ am (by rw[<-w];simp);rw[zc E,HW.z,ah.z,<-hx];rfl
 have HH:=zb H;have aG:AA (zj r.drew W.heap.size f rv/\r.drew.heap[db]?=some (.cells #[v',fv,[d.room],d.wants,d.full] 180 (0,0))):=⟨D,C⟩;have aH:AA (∀X,DW DY r X->zj X W.heap.size f rv/\X.heap[db]?=some (.cells #[v',fv,[d.room],d.wants,d.full] 180 (0,0))):=λX m=>⟨m.obj (λx=>x) D,m.obj (λx=>x) C⟩
 have aI:AA (zj V W.heap.size f rv/\V.heap[db]?=some (.cells #[v',fv,[d.room],d.wants,d.full] 180 (0,0))):=⟨Z,v⟩;have aJ:=zb t;have aK:=zb w;have au:=zb aq;have av:=zb Y;clear H T c a aj B al t m3 am C D an ao Y n q u ap J m5 v Z w m6 E ar aq;have aw:=aC.z;rw[aw]at aF;go_wp2_with fail;rw[<-ai.z,aJ.z];refine zo 10 (λw'=>zj w' W.heap.size f rv/\w'.heap[db]?=some (.cells #[v',fv,[d.room],d.wants,d.full] 180 (0,0))) (aG.z) ?_;refine GI 0 ?_;iterate 6
  refine GS rfl ?_ ?_ ?_;rotate_left
  ·(intro wx k;obtain⟨hf,hd⟩:=k;obtain⟨y0,y1,y2,y3,y4,y5,y6,y7,y8,y9⟩:=hf.cells;have d0:=za (o:=0) hd rfl;have d1:=za (o:=1) hd rfl;go_simp;try with_reducible rfl)
  try simp only[PS]
 refine zE 6 rfl (λK s=>?_);go_simp;refine s.z _ _ (aH.z _ ((DW.refl DY r).drew.alloc _)) ?_;clear s K;try simp only[PS]
 refine zE 7 rfl (λK s=>?_);refine zS rfl _ _ _ _ rfl _ _ _ rfl rfl av.z ?_;refine s.z _ _ aI.z ?_;clear s K;try simp only[PS]
 refine GI 8 ?_;iterate 2
  refine GS rfl ?_ ?_ ?_;rotate_left
  ·(intro wx k;obtain⟨hf,hd⟩:=k;obtain⟨y0,y1,y2,y3,y4,y5,y6,y7,y8,y9⟩:=hf.cells;have d0:=za (o:=0) hd rfl;have d1:=za (o:=1) hd rfl;go_simp;try with_reducible rfl)
  try simp only[PS]
 rw[au.z];refine EX rfl (λK s=>?_);go_simp;refine s.z _ _ ?_;clear s K;try simp only[PS]
 refine zr ?_;rw[<-au.z,aK.z];clear av;cases dw
 .have y:=zb (HH.z (f.kind != 2) trivial mv);go_wp2_with fail;go_ret;exact y.z
 have y:=zb (HH.z true trivial mv);go_wp2_with fail;go_ret;exact y.z
def Dx(i:Nat)(tag:nH)(g:Nat):Prop:=(tag g).1=i/\(tag g).2≠5
def EW{r:Nat}(h:tag g=(i,r))(hr:r≠5):Dx i tag g:=⟨by rw[h],by rw[h];exact hr⟩
def DW.ofC(m:DW (Dx i tag) W W'):DW (λg=>(tag g).1=i) W W':=m.mono (λ_ h=>.inl h.1)
def Gk(tag:nH)(i b db:Nat)(W:World)(c':CS)(d':Dd)(r:Bool)(e:Ending)(W':World):Prop :=
 e=.returned (.bool r)/\∃tag' V' bv' fv' l',zi tag' i b c' V' W'/\Eh tag' i db d' bv' fv' l' W'/\Dn i tag tag' W W'/\DW (Dx i tag) W W'
def JM.ext(h:JM i tag tag' W W'):Dn i tag tag' W W' :=
 ⟨h.old,λg hg=>by
  rcases h.new g hg with⟨r,_,e⟩|e
  .exact .inl (by rw[e])
  exact .inr e,h.z⟩
def Mj(m:DW (JU i tag) W W'):DW (Dx i tag) W W':=m.mono (λg ⟨r,hr,e⟩=>.inl (EW e I))
def Eh.modC{l:List (Da×Value)}(h:Eh tag i db d bv fv l W)(m:DW S W W')(hS:∀g,S g->∃r,r<90/\r≠5/\tag g=(i,r))(e:∀g,(tag g).1=i->tag' g=tag g):Eh tag' i db d bv fv l W':=by
 have q:∀{g r:Nat},tag g=(i,r)->(90<=r\/r=5)->¬S g:=λhg hr x=>by
  obtain⟨r',h1,h2,h3⟩:=hS _ x;rw[hg]at h3;simp at h3;omega
 have t:∀{g r:Nat},tag g=(i,r)->tag' g=(i,r):=λhg=>(e _ (by rw[hg])).trans hg
 exact⟨m.obj (q h.tb (.inl mu)) h.obj,t h.tb,m.owns h.ob (λg hg=>q (h.tbv g hg) (.inl mu)),λg hg=>t (h.tbv g hg),m.owns h.own (λg hg=>q (h.tfv g hg) (.inl mu)),h.lf,
  λx hx=>⟨(h.rr x hx).1.mod m (Hq λg hg=>q ((h.rr x hx).2 g hg) (.inr rfl)),λg hg=>t ((h.rr x hx).2 g hg)⟩,λg hg=>t (h.tfv g hg)⟩
def fh{e:Ending}(h:zi tag i b c V W)(hk:Dv tag W)(hi:0<i)(hd:JO tag i db W d f e W')(a:d.add f=none):Gk tag i b db W c d false e W':=by
 obtain⟨rfl,tag',g,j,l',h1,h2,h3⟩:=hd;rw[a]at h1 ⊢;exact⟨rfl,tag',V,g,j,l',h.modR hk hi h3 h2.old,h1,h2.ext,Mj h3⟩
def CS.datagrams(c:CS)(d:Dd):Option (CS×Dd) :=
 match c.waits with
 | []=>none
 | f::l=>(d.add f).map λd'=>({ c with waits:=l },d')
structure Da.Fits(f:Da):Prop where
 sound:zX f=true
 rn:f.rngs=[]
 data:f.data.length<=1048576
 len:(zA f).length<=1073741824
def jz{l:List Da}(h:Er W 65 10 v (f::l).length (zt (f::l))):∃g o cap,v=.slice (some ⟨g,o*10,none⟩) (l.length+1) cap/\l.length+1<=cap/\cap<=maxLen/\(∀j x,(zl f (.slice none 0 0))[j]?=some x->W.cell? ⟨g,o*10+j,none⟩=some x)/\Er W 65 10 (.slice (some ⟨g,(o+1)*10,none⟩) l.length (cap-1)) l.length (zt l)/\(cap-1=0->Er W 65 10 (.slice (some ⟨g,o*10,none⟩) l.length 0) l.length (zt l)):=by
 rcases h.2 with⟨_,hn⟩|⟨g,o,cap,a,rfl,hg,h1,h2,h3,h4⟩
 .simp at hn
 have b:(zt l).length=l.length*10:=by
  have:=h.1;simp only[zt,DQ,AG,AR]at this ⊢;have e:(zl f (.slice none 0 0)).toList.length=10:=rfl;omega
 have e0:zt (f::l)=(zl f (.slice none 0 0)).toList++zt l:=rfl;have h1':l.length+1<=cap:=nF h1;refine⟨g,o,cap,rfl,h1,h2,λj x hx=>?_,⟨b,.inr ⟨g,o+1,cap-1,a,rfl,hg,I,I,?_,?_⟩⟩,λhc=>?_⟩
 .have hj:j<10:=(AH.1 hx).1;refine za hg ?_;have:((a.toList.drop (o*10)).take ((f::l).length*10))[j]?=some x:=by
   rw[h4,e0,Ao (by exact hj),Bl];exact hx
  rw[CU]at this;split at this
  .rw[BD]at this;simpa using this
  cases this
 .rw[(I:o+1+(cap-1)=o+cap)];exact h3
 .have c:(a.toList.drop (o*10)).take ((l.length+1)*10)=(zl f (.slice none 0 0)).toList++zt l:=h4;have:((a.toList.drop (o*10)).take ((l.length+1)*10)).drop 10=zt l:=by
   rw[c];exact List.drop_left' rfl
  rw[<-this,C9,Cc];congr 1
  .omega
  congr 1;omega
 have d:l=[]:=Aj I;subst d;exact⟨rfl,.inr ⟨g,o,0,a,rfl,hg,AF _,AM _,AJ (B8 10 I) h3,by simp[zt]⟩⟩
theorem mS{l:List (Da×Value)}(h:zi tag i b c V W)(L:Eh tag i db d bv fv l W)(E:EC i tag W)(P:∀f∈c.waits,f.Fits)(hbl:d.b.length<=1073741824)(hll:l.length<=1073741824):Calls prog 146 #[(b,0),(db,0)] W (Gk tag i b db W ((c.datagrams d).getD (c,d)).1 ((c.datagrams d).getD (c,d)).2 (c.datagrams d).isSome):=by
 have c5:W.cell? (b,238)=some V.wt:=h.tl (j:=5) rfl;cases hwt:c.waits with
 | nil =>
  have z:c.datagrams d=none:=by unfold CS.datagrams;rw[hwt]
  rw[z];have G:V.wt=.slice none 0 0\/∃a cap,V.wt=.slice (some a) 0 cap:=by
   have:=h.wt;rw[hwt]at this;rcases this.2 with⟨e,_⟩|⟨g,o,cap,cur,e,_⟩
   .exact .inl e
   exact .inr ⟨_,cap,e⟩
  have H:AA (Gk tag i b db W c d false (.returned (.bool false)) W):=⟨rfl,tag,V,bv,fv,l,h,L,Dn.same E.ok (DW.refl DY _),DW.refl _ _⟩;clear h L E P hwt z;rcases G with e|⟨a,cap,e⟩;all_goals
   rw[e]at c5;clear e;go_enter func146,ntmps146;go_wp2_with fail;go_ret;exact H.z
 | cons f ws =>
  have J:=P f (by rw[hwt];exact AO);have B:=h.wt;rw[hwt]at B;obtain⟨g,o,cap,G,n1,n2,m,w,t⟩:=jz B;have M:=h.twt g (by rw[G];rfl);have Q:=O0 L E.ok E.pos f none 0 0 J.sound (by rw[J.rn];exact⟨none,0,rfl,AF _,AM _,λi hi=>absurd hi (A5 i)⟩) (λg hg=>by simp[Value.blk]at hg) (by rw[J.rn];simp) (nC J.data) I (nC J.len) I;have y0:W.cell? ⟨g,o*10,none⟩=some (.int .i64 f.kind):=m 0 _ rfl;have y1:=m 1 _ rfl;have y2:=m 2 _ rfl;have y3:=m 3 _ rfl;have y4:=m 4 _ rfl;have y5:=m 5 _ rfl;have y6:=m 6 _ rfl;have y7:=m 7 _ rfl;have y8:=m 8 _ rfl;have y9:=m 9 _ rfl;rw[G]at c5;unfold maxLen at n2;have S:=zb h;have HD:=zb L;have K:=zb E;have N:=zb hwt;have HV:=zb G;have C:=zb M;have HR:=zb w;have T:=zb t;clear h L E P hwt G m J B M w t;unfold zl at Q;have KA:=zb Q;clear Q;cases hadd:d.add f with
  | none =>
   have z:c.datagrams d=none:=by unfold CS.datagrams;rw[N.z];simp[hadd]
   rw[z];have u:=zb hadd;clear z hadd;go_enter func146,ntmps146;go_wp2_with (go_at_call 142;refine KA.z.mono ?_;intro e W1 hd;have H:=zb (fh S.z K.z.ok K.z.pos hd u.z);obtain⟨rfl,_⟩:=hd;simp only[u.z,Option.isSome_none]at H ⊢);go_ret;exact H.z
  | some d' =>
   have z:c.datagrams d=some ({ c with waits:=ws },d'):=by unfold CS.datagrams;rw[N.z];simp[hadd]
   rw[z];have u:=zb hadd;clear z hadd;go_enter func146,ntmps146;go_wp2_with fail;refine KA.z.mono ?_;rintro e W1 ⟨rfl,tag',X,Y,l',D,v,A⟩;rw[u.z]at D ⊢;have n:=S.z.modR K.z.ok K.z.pos A v.old;have Z:W1.cell? (b,238)=some V.wt:=n.tl (j:=5) rfl;have f51:=n.fz 238;have y:tag' g=(i,6):=by rw[v.old g (Ei K.z.ok C.z K.z.pos),C.z]
   rw[HV.z]at Z;have HN:AA (∀v2,Er W 65 10 v2 ws.length (zt ws)->(∀q,Value.blk v2=some q->q=g)->Gk tag i b db W { c with waits:=ws } d' true (.returned (.bool true)) (W1.setCell (U b 238) v2)):=by
    intro v2 aa F;have O:DW (λq=>q=b) W1 (W1.setCell (U b 238) v2):=(DW.refl (λq=>q=b) _).setCell (p:=U b 238) (.inl rfl) _;refine⟨rfl,tag',{ V with wt:=v2 },X,Y,l',?_,?_,⟨v.ext.old,v.ext.new,v.z.mod O⟩,?_⟩
    .refine n.build (R:=λr=>r=1\/r=6) O (λq s=>⟨1,.inl rfl,by rw[s,n.tb]⟩) (λ_ _=>rfl) ?_ (.inl ⟨rfl,rfl,rfl,I,I⟩) (λk hk=>.inl ⟨rfl,rfl,I⟩) (λk hk=>.inl ⟨rfl,rfl,I⟩) (λk hk=>.inl ⟨rfl,rfl,I⟩) (λk hk=>.inl ⟨rfl,rfl,I⟩) (λk hk=>.inl ⟨rfl,rfl,I⟩) (.inl ⟨rfl,rfl,rfl,I,I⟩) (.inr ⟨?_,λq s=>?_⟩) (.inl ⟨rfl,rfl,I⟩) (.inl ⟨rfl,rfl,I⟩)
     .rw[zc n.obj,Aq];rw[show(238:Nat)=233+5 from rfl,G8 c { c with waits:=ws } V { V with wt:=v2 } _ rfl rfl rfl rfl]
     .refine(aa.mod A (λq s ⟨r,z,hx⟩=>?_)).mod O (λq s x=>?_)
      .rw[F q s,C.z]at hx;simp at hx;omega
      have x:=x;rw[F q s]at x;exact zi.apart y (x ▸ n.tb) mu rfl
     rw[F q s,y]
    .exact D.modC O (λq s=>⟨1,mu,mu,by rw[s,n.tb]⟩) (λ_ _=>rfl)
    exact(Mj A).then O (λq s=>.inl (by
     have s:=s;exact EW (by rw[s,S.z.tb]) mu))
   clear D v A n y y0 y1 y2 y3 y4 y5 y6 y7 y8 y9;go_wp2_with fail;all_goals go_ret
   .exact HN.z _ (T.z I) (λq s=>by simpa [Value.blk]using s.symm)
   have:=HR.z;rw[(I:(o+1)*10=o*10+10)]at this;exact HN.z _ this (λq s=>by simpa [Value.blk]using s.symm)
def zF:Nat:=4611686018427387903
def GD(k n:Nat):Da:=⟨6,(k:Int),0,0,n,false,0,0,[],[]⟩
def Gv(n:Nat):Da:=⟨5,0,0,0,n,false,0,0,[],[]⟩
def Hj(k final keep:Nat):Da:=⟨3,(k:Int),final,keep,0,false,0,0,[],[]⟩
def ER(c:CS)(d:Dd):Nat->Nat->Nat->Option (CS×Dd)×Nat
 | 0,_,t=>(none,t)
 | n+1,k,t =>
  if (decide ((c.rs k).grant<max (c.rs k).grant ((c.rs k).used+c.window))||(c.rs k).anew)&&(c.rs k).hopes then
   match d.add (GD k (max (c.rs k).grant ((c.rs k).used+c.window)))with
   | some d'=>(some ({ c with rs:=zf c.rs k { c.rs k with grant:=max (c.rs k).grant ((c.rs k).used+c.window),anew:=false } },d'),min (t+(c.rs k).used) zF)
   | none=>ER c d n (k+1) (min (t+(c.rs k).used) zF)
  else ER c d n (k+1) (min (t+(c.rs k).used) zF)
def ET(c:CS)(d:Dd):Nat->Nat->Option (CS×Dd)
 | 0,_=>none
 | n+1,k =>
  if (c.ws k).cut && !(c.ws k).telling then
   match d.add (Hj k (c.ws k).final (c.ws k).keep)with
   | some d'=>some ({ c with ws:=zf c.ws k { c.ws k with telling:=true } },d')
   | none=>ET c d n (k+1)
  else ET c d n (k+1)
def I1(c:CS)(d:Dd)(t:Nat):Option (CS×Dd) :=
 if decide (c.grant<max t c.grant)||c.anew then
  match d.add (Gv (max t c.grant))with
  | some d'=>some ({ c with grant:=max t c.grant,anew:=false },d')
  | none=>ET c d 8 0
 else ET c d 8 0
def CS.control(c:CS)(d:Dd):Option (CS×Dd) :=
 match (ER c d 8 0 c.total).1 with
 | some x=>some x
 | none=>I1 c d (ER c d 8 0 c.total).2
def Mi(f:Da)(hr:f.rngs=[]):(zA f).length<=64+f.data.length:=by
 have v1:=zx f.stream.toNat;have v2:=zx f.off;have v3:=zx f.rel;have v4:=zx f.lim;have v5:=zx f.id;have v6:=zx f.dl;have v7:=zx f.data.length;unfold zA Jm Jl Jc Ji Jk Hy;split
 .simp;omega
 split
 .unfold Gm;rw[hr];have w1:=zx (DX [] 0);have w2:=zx (([]:zC).length-1);have w3:=zx (DX [] 0-DZ [] 0);simp only[AG,AR,Ad];have:(D8 [] (0-1)).length=0:=rfl;simp only[Ad]at w2;omega
 split
 .simp only[AG,AR,Ad];omega
 split
 .split
  .simp only[AG,AR,Ad];omega
  simp only[AG,AR,Ad];omega
 split
 .simp only[AG,AR,Ad];omega
 split
 .simp only[AG,AR,Ad];omega
 split
 .simp only[AG,AR,Ad];omega
 simp only[AG,AR,Ad];omega
def QT{n:Nat}(hk:k<8)(hn:n<=zF):(GD k n).Fits:=by
 refine⟨?_,rfl,by simp[GD],AJ (Mi _ rfl) (by simp[GD])⟩;unfold zF at hn;simp[zX,Ef,nums,Ek,zO,GD]
 and_intros<;>first|omega|exact Ax I
def TP{n:Nat}(hn:n<=zF):(Gv n).Fits:=by
 refine⟨?_,rfl,by simp[Gv],AJ (Mi _ rfl) (by simp[Gv])⟩;simp[zX,Ef,nums,Ek,zO,Gv];unfold zF at hn;omega
def TO{final keep:Nat}(hk:k<8)(hn:final<=zF)(hle:keep<=final):(Hj k final keep).Fits:=by
 refine⟨?_,rfl,by simp[Hj],AJ (Mi _ rfl) (by simp[Hj])⟩;unfold zF at hn;simp[zX,Ef,nums,Ek,zO,Hj]
 and_intros<;>first|omega|exact Ax I
def Nc{l:List (Da×Value)}(h:Eh tag i db d bv fv l W)(hk:Dv tag W)(hi:0<i)(f:Da)(hf:f.Fits)(hbl:d.b.length<=1073741824)(hll:d.fs.length<=1073741824):Calls prog 142 #[(db,0),.agg (zl f (.slice none 0 0))] W (JO tag i db W d f):=by
 have hl:l.length=d.fs.length:=by rw[<-h.lf,BB]
 exact O0 h hk hi f none 0 0 hf.sound (by rw[hf.rn];exact⟨none,0,rfl,AF _,AM _,λi hi=>absurd hi (A5 i)⟩) (λg hg=>by simp[Value.blk]at hg) (by rw[hf.rn];simp) (nC hf.data) I (nC hf.len) I
structure zN(tag:nH)(i b db:Nat)(W:World)(c:CS)(d:Dd)(tag':nH)(V':CV)(bv' fv':Value)(l':List (Da×Value))(W':World):Prop where
 c:zi tag' i b c V' W'
 d:Eh tag' i db d bv' fv' l' W'
 e:Dn i tag tag' W W'
 m:DW (Dx i tag) W W'
 p:0<i
variable{bv' fv':Value}{l':List (Da×Value)}
def zN.ok(h:zN tag i b db W c d tag' V' bv' fv' l' W'):Dv tag' W':=h.e.z
def zN.post(h:zN tag i b db W c d tag' V' bv' fv' l' W')(r:Bool):Gk tag i b db W c d r (.returned (.bool r)) W':=⟨rfl,tag',V',bv',fv',l',h.c,h.d,h.e,h.m⟩
variable{W'':World}
def Ew(e:Dn i tag tag' W W')(m:DW (Dx i tag) W W')(m':DW (Dx i tag') W' W''):DW (Dx i tag) W W'':=by
 refine m.then m' (λg hg=>?_);by_cases q:g<W.heap.size
 .exact .inl (by unfold Dx at hg ⊢;rw[e.old g q]at hg;exact hg)
 exact .inr I
def zN.add{e:Ending}(h:zN tag i b db W c d tag' V' bv' fv' l' W')(hd:JO tag' i db W' d f e W''):e=.returned (.bool (d.add f).isSome)/\∃tag2 bv2 fv2 l2,zN tag i b db W c ((d.add f).getD d) tag2 V' bv2 fv2 l2 W'':=by
 obtain⟨rfl,tag2,bv2,fv2,l2,h1,h2,h3⟩:=hd;exact⟨rfl,tag2,bv2,fv2,l2,h.c.modR h.e.z h.p h3 h2.old,h1,h.e.trans h2.ext h.m.size,Ew h.e h.m (Mj h3),h.p⟩
def zN.store(h:zN tag i b db W c d tag' V' bv' fv' l' W')(j:Nat)(v:Value)(hc:(zw c V').set j v=zw c' V')(s:Kv c c'):zN tag i b db W c' d tag' V' bv' fv' l' (W'.setCell (b,j) v):=by
 have a:DW (λq=>q=b) W' (W'.setCell (b,j) v):=(DW.refl (λq=>q=b) _).setCell (p:=(b,j)) (.inl rfl) _;exact⟨h.c.store j v hc s,h.d.modC a (λq f=>⟨1,mu,mu,by rw[f,h.c.tb]⟩) (λ_ _=>rfl),⟨h.e.old,h.e.new,h.e.z.mod a⟩,Ew h.e h.m (a.mono (λq f=>.inl (EW (r:=1) (by rw[show q=b from f];exact h.c.tb) mu))),h.p⟩
def zN.mod0(h:zN tag i b db W c d tag' V' bv' fv' l' W')(m:DW DY W' W''):zN tag i b db W c d tag' V' bv' fv' l' W'' :=
 ⟨h.c.mod0 m,h.d.modC m (λ_ x=>x.elim) (λ_ _=>rfl),⟨h.e.old,h.e.new,h.e.z.mod m⟩,h.m.trans (m.mono (λ_ x=>x.elim)),h.p⟩
def Kp{α : Type}(f:Nat -> α)(k:Nat)(x y : α):zf (zf f k x) k y=zf f k y:=by
 funext j;by_cases h:j=k
 .rw[h,ze,ze]
 rw[zd _ _ h,zd _ _ h,zd _ _ h]
def LI(c:CS)(k:Nat)(x:RS)(h1:x.b=(c.rs k).b)(h3:x.came.rs=(c.rs k).came.rs):Kv c { c with rs:=zf c.rs k x } :=
 ⟨rfl,λ_ _=>⟨rfl,rfl,rfl⟩,λq _=>by
  by_cases a:q=k
  .subst a;simp only[ze];exact⟨h1,h3⟩
  simp[zd _ _ a],rfl,rfl,rfl,rfl⟩
def zN.storeR(h:zN tag i b db W c d tag' V' bv' fv' l' W')(hk:k<8)(j:Nat)(hj:j<13)(v:Value)(x:RS)(hx:Gp x (V'.rb k) (V'.rc k)=(Gp (c.rs k) (V'.rb k) (V'.rc k)).set j v)(h1:x.b=(c.rs k).b)(h3:x.came.rs=(c.rs k).came.rs):zN tag i b db W { c with rs:=zf c.rs k x } d tag' V' bv' fv' l' (W'.setCell (b,129+13*k+j) v):=by
 refine h.store _ _ (Ky _ _ _ _ _ hk hj (λq _=>?_) rfl rfl rfl) (LI c k x h1 h3);by_cases a:q=k
 .subst a;simp only[ze,BC];exact hx
 simp only[zd _ _ a,AI a]
def zN.granted(h:zN tag i b db W c d tag' V' bv' fv' l' W')(hk:k<8)(m:Nat):zN tag i b db W { c with rs:=zf c.rs k { c.rs k with grant:=m,anew:=false } } d tag' V' bv' fv' l' ((W'.setCell (b,129+13*k+11) (.int .u64 m)).setCell (b,129+13*k+12) (.bool false)):=by
 have h1:=h.storeR hk 11 mu (.int .u64 m) { c.rs k with grant:=m } rfl rfl rfl;have h2:=h1.storeR hk 12 mu (.bool false) { c.rs k with grant:=m,anew:=false } (by simp only[ze];rfl) (by simp only[ze]) (by simp only[ze]);simp only[Kp]at h2;exact h2
def zN.grantedAll(h:zN tag i b db W c d tag' V' bv' fv' l' W')(m:Nat):zN tag i b db W { c with grant:=m,anew:=false } d tag' V' bv' fv' l' ((W'.setCell (b,234) (.int .u64 m)).setCell (b,235) (.bool false)):=by
 have h1:zN tag i b db W { c with grant:=m } d tag' V' bv' fv' l' (W'.setCell (U b 234) (.int .u64 m)):=h.store (233+1) _ (G8 c { c with grant:=m } V' V' _ rfl rfl rfl rfl) ⟨rfl,λ_ _=>⟨rfl,rfl,rfl⟩,λ_ _=>⟨rfl,rfl⟩,rfl,rfl,rfl,rfl⟩;exact h1.store (233+2) _ (G8 { c with grant:=m } { c with grant:=m,anew:=false } V' V' _ rfl rfl rfl rfl) ⟨rfl,λ_ _=>⟨rfl,rfl,rfl⟩,λ_ _=>⟨rfl,rfl⟩,rfl,rfl,rfl,rfl⟩
structure KY(c:CS):Prop where
 win:c.window<=4096
 tot:c.total<=4096
 grant:c.grant<=zF
 used:∀k,k<8->(c.rs k).used<=zF/\(c.rs k).grant<=zF
 hopes:∀k,k<8->(c.rs k).hopes=true->(c.rs k).used+c.window<=zF
 cut:∀k,k<8->(c.ws k).keep<=(c.ws k).final/\(c.ws k).final<=zF
def zN.telling(h:zN tag i b db W c d tag' V' bv' fv' l' W')(hk:k<8):zN tag i b db W { c with ws:=zf c.ws k { c.ws k with telling:=true } } d tag' V' bv' fv' l' (W'.setCell (b,9+15*k+13) (.bool true)):=by
 refine h.store _ _ (Ht _ _ _ _ _ hk mu (λq _=>?_) rfl rfl rfl) ⟨rfl,λq _=>?_,λ_ _=>⟨rfl,rfl⟩,rfl,rfl,rfl,rfl⟩
 .by_cases a:q=k
  .subst a;simp only[ze,BC];rfl
  simp only[zd _ _ a,AI a]
 by_cases a:q=k
 .subst a;simp[ze]
 simp[zd _ _ a]
def XO(c:CS)(d:Dd)(k n:Nat)(x:WS):Option Dd->Option (CS×Dd)
 | some d'=>some ({ c with ws:=zf c.ws k { x with telling:=true } },d')
 | none=>ET c d n (k+1)
def Sk(c:CS)(d:Dd)(m:Nat):Option Dd->Option (CS×Dd)
 | some d'=>some ({ c with grant:=m,anew:=false },d')
 | none=>ET c d 8 0
theorem jy{l:List (Da×Value)}(h:zi tag i b c V W)(hD:Eh tag i db d bv fv l W)(E:EC i tag W)(ok:KY c)(ae:d.b.length<=1073741824)(af:d.fs.length<=1073741824):Calls prog 145 #[(b,0),(db,0)] W (Gk tag i b db W ((c.control d).getD (c,d)).1 ((c.control d).getD (c,d)).2 (c.control d).isSome):=by
 have S0:AA (zN tag i b db W c d tag V bv fv l W):=zb ⟨h,hD,Dn.same E.ok (DW.refl DY _),DW.refl _ _,E.pos⟩;have c2:=h.hd (j:=2) rfl;obtain⟨R,hR⟩:=nm (c.control d);rw[hR];have HR:=zb hR;have OK:=zb ok;have aK:=ok.tot;have aL:IntKind.u64.wrap (c.total:Int)=(c.total:Int):=by rw[IntKind.wrap_u64];omega
 obtain⟨T,hT⟩:=nm c.total;rw[hT]at c2 aL;have HT:=zb hT;obtain⟨RR,aM⟩:=nm (ER c d 8 0 c.total);have aq:=zb aM;clear h hD E ok hR aK hT aM;go_enter func145,ntmps145;go_wp2_with fail;clear c2 aL
 go_loopw [5,17] (λtv kv wr=>∃k t tag' V' bv' fv' l',k<=8/\tv=.int .u64 ((t:Nat):Int)/\kv=.int .i64 ((k:Nat):Int)/\t<=zF/\AA (zN tag i b db W c d tag' V' bv' fv' l' wr)/\AA (ER c d (8-k) k t=RR)) (λ_ kv _=>8-(intOf kv).toNat)
 case atStart=>exact⟨0,T,tag,V,bv,fv,l,I,rfl,rfl,by have:=OK.z.tot;have:=HT.z;unfold zF;omega,S0,zb (by rw[<-aq.z,HT.z])⟩
 case round =>
  obtain⟨k,t,tag',V',bv',fv',l',hk,rfl,rfl,ht,M,HC⟩:=hrel;by_cases a:k<8
  .obtain⟨n,hn⟩:∃n,8-k=n+1:=⟨7-k,I⟩;have Y:8-(k+1)=n:=I;have o:=HC.z;rw[hn]at o;unfold ER at o;obtain⟨m,hm⟩:=nm (max (c.rs k).grant ((c.rs k).used+c.window));rw[hm]at o;have ku:=UE M.z.c a;have kh:=U8 M.z.c a;have ar:=UE (M.z.c.mod0 (DW.refl DY wr).drew) a;have ah:=U8 (M.z.c.mod0 (DW.refl DY wr).drew) a;have au:wr.cell? (b,129+k*13+11)=some (.int .u64 ((c.rs k).grant:Int)):=by rw[AL];exact M.z.c.r (j:=11) a rfl
   have av:wr.cell? (b,129+k*13+12)=some (.bool (c.rs k).anew):=by rw[AL];exact M.z.c.r (j:=12) a rfl
   have r1:=M.z.c.hd (j:=1) rfl;obtain⟨q1,q2⟩:=OK.z.used k a;have q3:=OK.z.hopes k a;have q4:=OK.z.win;obtain⟨u,hu⟩:=nm ((c.rs k).used);obtain⟨g,hg⟩:=nm ((c.rs k).grant);obtain⟨an,N⟩:=nm ((c.rs k).anew);obtain⟨hp,aw⟩:=nm ((c.rs k).hopes);obtain⟨win,S⟩:=nm c.window;rw[hu]at ku ar q1 q3 o;rw[hg]at au q2 o;rw[N]at av o;rw[aw]at kh ah q3 o;rw[S]at r1 q3 q4;rw[hu,hg,S]at hm;have ai:=zb hm;have o:=zb o;have HX:=zb (And.intro hu (And.intro hg (And.intro N (And.intro aw S))));have HN:=zb (And.intro hn Y);unfold zF at ht q1 q2 q3;have aZ:=wu ((t:Int)+u) I;have a0:IntKind.u64.wrap (win:Int)=(win:Int):=by rw[IntKind.wrap_u64];omega
   have a1:=wu ((u:Int)+win) I;obtain⟨t2,ax⟩:=nm (min (t+u) zF);have aN:=zb ax;have Z:t2<=4611686018427387903:=by rw[<-ax];exact Nat.min_le_right _ _
   have aa:=zb q3;clear hu hg N aw S hn Y ax q3 hm;go_upto_region 6 with fail
   go_cut [5] (λtv L=>tv=.int .u64 t2/\L=wr)
   case first =>
    go_wp2_with (go_at_call 196;refine ku.mono ?_;rintro _ _ ⟨rfl,rfl⟩);all_goals
     go_meet;have aO:=aN.z;unfold zF at aO;exact⟨by congr 1;omega,rfl⟩
   case rest =>
   obtain⟨rfl,hw⟩:=hcut;have hw:=hw.symm;subst hw;go_upto_region 7 with fail
   go_cut [8] (λnv L=>nv=.int .u64 m/\L=wr.drew)
   case first =>
    refine zo 15 (λw'=>w'=wr.drew) (rfl) ?_;refine GI 0 ?_;iterate 5
     refine GV rfl ?_;try simp only[PS]
    refine GI 6 ?_;iterate 6
     refine GV rfl ?_;try simp only[PS]
    refine zE 5 rfl (λK hK=>?_);go_simp;refine ar.mono ?_;rintro _ _ ⟨rfl,rfl⟩;refine hK.z _ _ rfl ?_;clear hK K;try simp only[PS]
    refine GI 12 ?_;refine GV rfl ?_;try simp only[PS]
    refine Jn (i:=13) (v:=.int .u64 m) rfl mr (λ_ _ _ h=>h) (Or.inl ⟨by rfl,?_⟩) ?_
    .intro L f;subst f;go_simp;have:=ai.z;split<;>omega
    try simp only[PS]
    refine GI 14 ?_;refine GV rfl ?_;try simp only[PS]
    refine zr ?_;go_wp2_with fail;go_meet;exact⟨rfl,rfl⟩
   case rest =>
   obtain⟨rfl,hw⟩:=hcut;subst hw;have aj:=zb (M.z.mod0 ((DW.refl DY wr).drew));have aP:m<=4611686018427387903\/hp=false:=by
    cases hp
    .exact .inr rfl
    have:=ai.z;have:=aa.z rfl;exact .inl I
   obtain⟨dn,s⟩:=nm (d.add (GD k m));have z:=zb s;have ay:=o.z;rw[s,aN.z]at ay;have F:=zb ay;have ba:wr.drew.cell? (b,129+k*13+11)=some (.int .u64 g):=au;have bb:wr.drew.cell? (b,129+k*13+12)=some (.bool an):=av;clear s ay o ku kh ar r1 q1 q2 aZ a0 a1 au av;have D:g<m\/(¬g<m/\an=true)\/(¬g<m/\an=false):=by
    by_cases e:g<m
    .exact .inl e
    cases an
    .exact .inr (.inr ⟨e,rfl⟩)
    exact .inr (.inl ⟨e,rfl⟩)
   rcases D with hA|⟨hA,rfl⟩|⟨hA,rfl⟩;rotate_left;rotate_left
   .have H:AA (ER c d (8-(k+1)) (k+1) t2=RR):=by
     show _=_;rw[HN.z.2,<-F.z];simp[hA]
    clear F;go_wp2_with fail;go_roundw
    case rel=>exact⟨k+1,t2,tag',V',bv',fv',l',I,rfl,by go_num,Z,aj,H⟩
    simp[intOf];omega
   all_goals
    cases hp
    .have H:AA (ER c d (8-(k+1)) (k+1) t2=RR):=by
      show _=_;rw[HN.z.2,<-F.z];simp
     clear F;go_wp2_with (go_at_call 197;refine ah.mono ?_;rintro _ W9 ⟨rfl,mh⟩);have S9:=zb (aj.z.mod0 mh);go_roundw
     case rel=>exact⟨k+1,t2,tag',V',bv',fv',l',I,rfl,by go_num,Z,S9,H⟩
     simp[intOf];omega
    have ab:m<=zF:=by
     rcases aP with e|e
     .exact e
     cases e
    have ak:=zb ab;clear aP ab;cases dn with
    | none =>
     have H:AA (ER c d (8-(k+1)) (k+1) t2=RR):=by
      show _=_;rw[HN.z.2,<-F.z];simp
     clear F;go_wp2_with (first|(go_at_call 197;refine ah.mono ?_;rintro _ W9 ⟨rfl,mh⟩;have S9:=zb (aj.z.mod0 mh);clear mh)|(go_at_call 142;refine(Nc S9.z.d S9.z.ok S9.z.p (GD k m) (QT a ak.z) ae af).mono ?_;intro e W1 hd;obtain⟨rfl,tag2,A,B,l2,q⟩:=S9.z.add hd;rw[z.z]at q;rw[z.z];have q:=zb q;clear hd));go_roundw
     case rel=>exact⟨k+1,t2,tag2,V',A,B,l2,I,rfl,by go_num,Z,q,H⟩
     simp[intOf];omega
    | some d1 =>
     have aQ:AA (R=some ({ c with rs:=zf c.rs k { c.rs k with grant:=m,anew:=false } },d1)):=by
      show _=_;have e1:=F.z;rw[AQ (by simp[hA])]at e1;rw[<-HR.z,CS.control,aq.z,<-e1]
     clear F;go_wp2_with (go_at_call 197;refine ah.mono ?_;rintro _ W9 ⟨rfl,mh⟩;have S9:=zb (aj.z.mod0 mh);clear mh);refine(Nc S9.z.d S9.z.ok S9.z.p (GD k m) (QT a ak.z) ae af).mono ?_;intro e W1 hd;obtain⟨rfl,tag2,A,B,l2,q⟩:=S9.z.add hd;rw[z.z]at q;rw[z.z];clear hd;have w11:W1.cell? (b,129+k*13+11)=some (.int .u64 ((c.rs k).grant:Int)):=by
      rw[AL k 13];exact q.c.r (j:=11) a rfl
     have w12:W1.cell? (b,129+k*13+12)=some (.bool (c.rs k).anew):=by
      rw[AL k 13];exact q.c.r (j:=12) a rfl
     have wf:=λp=>q.c.fz p
     have q:=zb q;go_wp2_with fail;go_ret;rw[aQ.z];have G:=q.z.granted a m;rw[AL 13 k]at G;exact G.post true
  have az:k=8:=I;subst az;have ac:AA (RR=(none,t)):=zb HC.z.symm;have aR:AA (R=I1 c d t):=by
   show _=_;rw[<-HR.z,CS.control,aq.z,ac.z]
  clear HC;have aS:wr.cell? (b,234)=some (.int .u64 c.grant):=M.z.c.tl (j:=1) rfl;have aT:wr.cell? (b,235)=some (.bool c.anew):=M.z.c.tl (j:=2) rfl;have a2:=OK.z.grant;obtain⟨m,hm⟩:=nm (max t c.grant);have ab:m<=zF:=I;have ak:=zb ab;have C:AA (R=if decide (c.grant<m)||c.anew then Sk c d m (d.add (Gv m))else ET c d 8 0):=by
   show _=_;rw[aR.z];unfold I1;rw[hm];cases d.add (Gv m)<;>rfl
  obtain⟨dn,s⟩:=nm (d.add (Gv m));have z:=zb s;rw[s]at C;obtain⟨g,hg⟩:=nm c.grant;obtain⟨an,N⟩:=nm c.anew;have HG:=zb hg;have aU:=zb N;rw[hg]at aS hm;rw[N]at aT;have ai:=zb hm;clear hg N hm s ab a2 aR ac;go_upto_region 12 with fail
  go_cut [5] (λtv L=>tv=.int .u64 m/\L=wr)
  case first =>
   go_wp2_with fail;all_goals
    go_meet;have aO:=ai.z;exact⟨by congr 1;omega,rfl⟩
  case rest =>
  obtain⟨rfl,hw⟩:=hcut;have hw:=hw.symm;subst hw;go_upto_region 13 with fail
  go_cut [98] (λrv L=>∃(r:Bool) (d2:Dd) (tag2:nH) (A B:Value) (l2:List (Da×Value)),rv=.bool r/\AA (zN tag i b db W c d2 tag2 V' A B l2 L)/\AA ((r=true/\R=some ({ c with grant:=m,anew:=false },d2))\/(r=false/\d2=d/\R=ET c d 8 0)))
  case first =>
   have D:g<m\/(¬g<m/\an=true)\/(¬g<m/\an=false):=by
    by_cases e:g<m
    .exact .inl e
    cases an
    .exact .inr (.inr ⟨e,rfl⟩)
    exact .inr (.inl ⟨e,rfl⟩)
   rcases D with hA|⟨hA,rfl⟩|⟨hA,rfl⟩;rotate_left;rotate_left
   .have H:AA (R=ET c d 8 0):=by
     show _=_;rw[C.z,HG.z,aU.z];simp[hA]
    clear C;go_wp2_with fail;go_meet;exact⟨false,d,tag',bv',fv',l',rfl,M,zb (.inr ⟨rfl,rfl,H.z⟩)⟩
   all_goals
    have aV:AA (R=Sk c d m dn):=by
     show _=_;rw[C.z,AQ (by rw[HG.z,aU.z];simp[hA])]
    clear C;go_wp2_with fail;refine(Nc M.z.d M.z.ok M.z.p (Gv m) (TP ak.z) ae af).mono ?_;intro e W1 hd;obtain⟨rfl,tag2,A,B,l2,q⟩:=M.z.add hd;rw[z.z]at q;rw[z.z];have q:=zb q;clear hd;cases dn with
    | none =>
     go_wp2_with fail;go_meet;exact⟨false,d,tag2,A,B,l2,rfl,q,zb (.inr ⟨rfl,rfl,aV.z⟩)⟩
    | some d1 =>
     go_wp2_with fail;go_meet;exact⟨true,d1,tag2,A,B,l2,rfl,q,zb (.inl ⟨rfl,aV.z⟩)⟩
  case rest =>
  obtain⟨r,d2,tag2,A,B,l2,rfl,q,HQ⟩:=hcut;have aW:wc.cell? (b,234)=some (.int .u64 c.grant):=q.z.c.tl (j:=1) rfl;have aX:wc.cell? (b,235)=some (.bool c.anew):=q.z.c.tl (j:=2) rfl;have wf:=λp=>q.z.c.fz p
  clear aS aT C;cases r
  .have HN:AA (d2=d/\R=ET c d 8 0):=by
    rcases HQ.z with⟨e,_⟩|⟨_,e1,e2⟩
    .cases e
    exact⟨e1,e2⟩
   clear HQ aW aX wf;go_wp2_with fail;have a3:AA (zN tag i b db W c d tag2 V' A B l2 wc):=by
    have:=q.z;rw[HN.z.1]at this;exact this
   have a4:=zb HN.z.2.symm;clear HN q
   go_loopw [106] (λkv wy=>∃(k:Nat) (X:nH) (al am:Value) (l3:List (Da×Value)),k<=8/\kv=.int .i64 k/\AA (zN tag i b db W c d X V' al am l3 wy)/\AA (ET c d (8-k) k=R)) (λkv _=>8-(intOf kv).toNat)
   case atStart=>exact⟨0,tag2,A,B,l2,I,rfl,a3,a4⟩
   case round =>
    obtain⟨k,X,al,am,l3,hk,rfl,SY,HC⟩:=hrel;by_cases a:k<8
    .obtain⟨n,hn⟩:∃n,8-k=n+1:=⟨7-k,I⟩;have Y:8-(k+1)=n:=I;have o:=HC.z;rw[hn]at o;unfold ET at o;obtain⟨z1,z2⟩:=OK.z.cut k a;have ap:=TO a z2 z1;obtain⟨x,hx⟩:=nm (c.ws k);have aA:wr.cell? (b,9+k*15+10)=some (.bool (c.ws k).cut):=by rw[AL k 15];exact SY.z.c.w (j:=10) a rfl
     have aB:wr.cell? (b,9+k*15+13)=some (.bool (c.ws k).telling):=by rw[AL k 15];exact SY.z.c.w (j:=13) a rfl
     have aC:wr.cell? (b,9+k*15+12)=some (.int .u64 ((c.ws k).final:Int)):=by rw[AL k 15];exact SY.z.c.w (j:=12) a rfl
     have aD:wr.cell? (b,9+k*15+11)=some (.int .u64 ((c.ws k).keep:Int)):=by rw[AL k 15];exact SY.z.c.w (j:=11) a rfl
     have J:=λWd (md:DW DY wr Wd)=>Nc (SY.z.mod0 md).d (SY.z.mod0 md).ok SY.z.p (Hj k (c.ws k).final (c.ws k).keep) ap ae af
     have HX:=zb hx;rw[hx]at aA aD aC aB J;rw[hx]at o;obtain⟨cu,aE⟩:=nm x.cut;obtain⟨te,aF⟩:=nm x.telling;obtain⟨fn,aG⟩:=nm x.final;obtain⟨kp,aH⟩:=nm x.keep;rw[aE]at aA o;rw[aF]at aB o;rw[aG]at aC J o;rw[aH]at aD J o;have aY:=zb (And.intro aG aH);have ad:=zb J;obtain⟨dn,s⟩:=nm (d.add (Hj k fn kp));rw[s]at o;have z:=zb s;have ac:=zb (And.intro aE aF);have o:=zb o;have aI:=zb Y;clear HC hn Y z1 z2 ap hx J s aE aF aG aH;cases cu
     .have H:AA (ET c d (8-(k+1)) (k+1)=R):=by
       show _=_;rw[aI.z,<-o.z];rfl
      clear o;clear ad;go_wp2_with fail;go_quiet (fail);go_wp2_with fail;go_roundw
      case rel=>exact⟨k+1,X,al,am,l3,I,by go_num,zb (SY.z.mod0 ((DW.refl DY wr).drewN _)),H⟩
      simp[intOf];omega
     cases te
     .have H:AA (XO c d k (8-(k+1)) x dn=R):=by
       show _=_;rw[aI.z,<-o.z];cases dn<;>rfl
      clear o;go_upto_region 20 with fail
      go_cut [138] (λrv L=>∃(r:Bool) (d2:Dd) (y:nH) (O P:Value) (l4:List (Da×Value)),rv=.bool r/\AA (zN tag i b db W c d2 y V' O P l4 L)/\AA ((r=true/\dn=some d2)\/(r=false/\d2=d/\dn=none)))
      case first =>
       clear H;refine zo 25 (λw'=>w'.cell? (b,9+k*15+10)=some (.bool true)/\w'.cell? (b,9+k*15+13)=some (.bool false)/\w'.cell? (b,9+k*15+12)=some (.int .u64 fn)/\w'.cell? (b,9+k*15+11)=some (.int .u64 kp)) (⟨aA,aB,aC,aD⟩) ?_;refine GI 0 ?_;iterate 23
        refine GV rfl ?_;try simp only[PS]
       refine zE 23 rfl (λK hK=>?_);go_simp;refine(ad.z _ ((DW.refl DY wr).drew)).mono ?_;intro e W1 hd;obtain⟨rfl,y,O,P,l4,Q⟩:=(SY.z.mod0 ((DW.refl DY wr).drew)).add hd;rw[z.z]at Q;rw[z.z];clear hd;have W4:W1.cell? (b,9+k*15+10)=some (.bool true)/\W1.cell? (b,9+k*15+13)=some (.bool false)/\W1.cell? (b,9+k*15+12)=some (.int .u64 fn)/\W1.cell? (b,9+k*15+11)=some (.int .u64 kp):=by
        rw[<-ac.z.1,<-ac.z.2,<-aY.z.1,<-aY.z.2,<-HX.z,AL k 15];exact⟨Q.c.w (j:=10) a rfl,Q.c.w (j:=13) a rfl,Q.c.w (j:=12) a rfl,Q.c.w (j:=11) a rfl⟩
       have Q:=zb Q;refine hK.z _ _ W4 ?_;clear hK K;try simp only[PS]
       refine GI 24 ?_;refine GV rfl ?_;try simp only[PS]
       refine zr ?_;go_wp2_with fail;go_meet;cases dn with
       | none=>exact⟨false,d,y,O,P,l4,rfl,Q,zb (.inr ⟨rfl,rfl,rfl⟩)⟩
       | some d1=>exact⟨true,d1,y,O,P,l4,rfl,Q,zb (.inl ⟨rfl,rfl⟩)⟩
      case rest =>
      obtain⟨r,d2,y,O,P,l4,rfl,Q,ao⟩:=hcut;cases r
      .have aa:AA (d2=d/\dn=none):=by
        rcases ao.z with⟨e,_⟩|⟨_,e1,e2⟩
        .cases e
        exact⟨e1,e2⟩
       have S5:AA (zN tag i b db W c d y V' O P l4 wc):=by
        rw[<-aa.z.1];exact Q
       have aJ:AA (ET c d (8-(k+1)) (k+1)=R):=by
        have:=H.z;rw[aa.z.2]at this;exact this
       clear H ao aa Q;go_wp2_with fail;go_roundw
       case rel=>exact⟨k+1,y,O,P,l4,I,by go_num,S5,aJ⟩
       simp[intOf];omega
      have aJ:AA (some ({ c with ws:=zf c.ws k { x with telling:=true } },d2)=R):=by
       have:=H.z;rcases ao.z with⟨_,e⟩|⟨e,_⟩
       .rw[e]at this;exact this
       cases e
      have wf:=λp=>Q.z.c.fz p
      have u13:wc.cell? (b,9+k*15+13)=some (.bool (c.ws k).telling):=by rw[AL k 15];exact Q.z.c.w (j:=13) a rfl
      clear H ao;go_wp2_with fail;go_ret;rw[<-aJ.z];have G:=Q.z.telling a;rw[HX.z,AL 15 k]at G;exact G.post true
     have H:AA (ET c d (8-(k+1)) (k+1)=R):=by
      show _=_;rw[aI.z,<-o.z];rfl
     clear o ad;go_wp2_with fail;go_quiet (fail);go_wp2_with fail;go_roundw
     case rel=>exact⟨k+1,X,al,am,l3,I,by go_num,zb (SY.z.mod0 ((DW.refl DY wr).drewN _)),H⟩
     simp[intOf];omega
    have az:k=8:=I;subst az;have a9:AA (R=none):=zb HC.z.symm;clear HC;go_wp2_with fail;go_ret;rw[a9.z];exact SY.z.post false
  have HN:AA (R=some ({ c with grant:=m,anew:=false },d2)):=by
   rcases HQ.z with⟨_,e⟩|⟨e,_⟩
   .exact e
   cases e
  clear HQ;go_wp2_with fail;go_ret;rw[HN.z];exact(q.z.grantedAll m).post true
def zW(p:Nat->Bool)(n:Nat):Nat:=(List.range n).findIdx p
def Rb{p:Nat->Bool}{n:Nat}(h:FD n p m)(a:∀i j,i<=j->j<n->p i=true->p j=true):zW p n=m:=by
 obtain⟨h1,h2,h3⟩:=h;unfold zW;by_cases hn:m=n
 .subst hn;have:∀x∈List.range m,p x=false:=λx hx=>by
   have hx:x<m:=nF hx;cases hq:p x
   .rfl
   have:=a x (m-1) I I hq;rw[h2 I]at this;cases this
  rw[List.findIdx_eq_length.2 (λx hx=>by rw[this x hx])];simp
 refine(List.findIdx_eq (by rw[CO];omega)).2 ⟨by rw[List.getElem_range];exact h3 I,λj hj=>?_⟩;simp only[List.getElem_range];cases hq:p j
 .rfl
 have:=a j (m-1) I I hq;rw[h2 I]at this;cases this
def Dl.add(s:Dl)(lo hi:Nat):Dl :=
 if hi<max lo s.fl then s else
 if s.most<(EI s.rs (max lo s.fl) hi (zW (D0 s.rs (max lo s.fl)) s.rs.length) (zW (EF s.rs hi) s.rs.length)).length then
  ⟨(EI s.rs (max lo s.fl) hi (zW (D0 s.rs (max lo s.fl)) s.rs.length) (zW (EF s.rs hi) s.rs.length)).drop 1,DX (EI s.rs (max lo s.fl) hi (zW (D0 s.rs (max lo s.fl)) s.rs.length) (zW (EF s.rs hi) s.rs.length)) 0+1,s.most⟩
 else⟨EI s.rs (max lo s.fl) hi (zW (D0 s.rs (max lo s.fl)) s.rs.length) (zW (EF s.rs hi) s.rs.length),s.fl,s.most⟩
variable{rs:zC}
def fg(hw:WF rs):∀i j,i<=j->j<rs.length->D0 rs m i=true->D0 rs m j=true:=by
 intro i j a hj h;have hm:=(Ko hw a hj).2;simp only[D0,Bb,Ah]at h ⊢;omega
def WN(hw:WF rs):∀i j,i<=j->j<rs.length->EF rs m i=true->EF rs m j=true:=by
 intro i j a hj h;have hm:=(Ko hw a hj).1;simp only[EF,AZ,Ah]at h ⊢;omega
def Pv(s:Dl)(b o lo hi:Nat)(v:Value)(w:World)(e:Ending)(w':World):Prop :=
 ∃v',e=.returned (.tuple #[])/\w'.ownsRow 0 214 2 v' (s.add lo hi).rs.length (zq (s.add lo hi).rs)/\w'.heap[b]?=((w.setCell (b,o) v').setCell (b,o+1) (.int .u64 ((s.add lo hi).fl:Int))).heap[b]? /\
  DW (λk=>k=b\/v.ownBlock=some k) w w'/\EA w v v'
def Ku(s:Dl)(b o lo hi:Nat)(v:Value)(w:World)(h:El w b o v s.rs s.fl s.most)(a:WF s.rs)(r:lo<18446744073709551616)(j:hi<18446744073709551616)(t:s.fl<18446744073709551616)
  (u:v.ownBlock≠some b) (d:1<=s.most) (c:s.most<=9223372036854775807) :
  Calls prog 88 #[(b,o),lo,hi] w (Pv s b o lo hi v w):=by
 have B:=zK h.own;by_cases k:max lo s.fl<=hi
 .refine(Lm s.rs s.fl s.most b o lo hi v w h a r j t B u k d c (λm1 m2 h1 h2=>Qj a k j h1 h2)).mono ?_;rintro e w' ⟨m1,m2,v',y,z,h1,h2,f,rfl,l,i,n,A⟩;have q:=Rb h1 (fg a);have e2:=Rb h2 (WN a);have p:s.add lo hi=⟨y,z,s.most⟩:=by
   unfold Dl.add;rw[AI I,q,e2];split at f
   .rename_i hc;rw[AQ hc];cases f;rfl
   rename_i hc;rw[AI hc];cases f;rfl
  refine⟨v',rfl,?_,?_,n,A⟩
  .rw[p];exact l
  rw[p];exact i
 have p:s.add lo hi=s:=by
  unfold Dl.add;rw[AQ I]
 refine(Xq s.rs s.fl s.most b o lo hi v w h B I).mono ?_;rintro e w' ⟨rfl,m⟩;have hb:=zm h.cl;refine⟨v,rfl,?_,?_,m.mono (λ_ x=>x.elim),λg hg=>.inl hg⟩
 .rw[p];exact m.owns h.own (λ_ _ x=>x)
 rw[p,m.block b hb (λx=>x)];have q:=Nk h.cl;have c2:=(World.cell?_of_block q).trans h.cf;rw[Nk c2,q]
def Ec(k lo:Nat)(fin:Bool)(s:nG):Da:=⟨4,(k:Int),lo,0,0,fin,0,0,s,[]⟩
def CS.end0(c:CS)(k:Nat):Nat:=min (min (c.ws k).b.length (c.ws k).credit) ((c.ws k).high+c.credit-min c.credit c.spent)
def CS.endOf(c:CS)(k:Nat):Nat:=if (c.ws k).cut then min (c.end0 k) (c.ws k).keep else c.end0 k
def NQ(c:CS)(k:Nat):c.endOf k<=c.end0 k:=by
 unfold CS.endOf;split
 .exact Bu _ _
 exact AF _
def WS.fin(x:WS):Bool:=x.finished && !x.cut
def CS.bytesAdd(c:CS)(d:Dd)(k lo hi:Nat)(fin:Bool):Bool×CS×Dd :=
 match d.add (Ec k lo fin (((c.ws k).b.drop lo).take (hi-lo)))with
 | none=>(false,c,{ d with full:=true })
 | some d'=>(true,{ c with ws:=zf c.ws k { c.ws k with sent:=if lo<hi then(c.ws k).sent.add lo (hi-1)else(c.ws k).sent,ending:=(c.ws k).ending||fin,high:=max (c.ws k).high hi } },d')
def CS.bytesGot(c:CS)(d:Dd)(k lo hi:Nat)(fin:Bool):Option Dd->Bool×CS×Dd
 | none=>(false,c,{ d with full:=true })
 | some d'=>(true,{ c with ws:=zf c.ws k { c.ws k with sent:=if lo<hi then(c.ws k).sent.add lo (hi-1)else(c.ws k).sent,ending:=(c.ws k).ending||fin,high:=max (c.ws k).high hi } },d')
def jx(c:CS)(d:Dd)(k lo hi:Nat)(fin:Bool):c.bytesAdd d k lo hi fin=c.bytesGot d k lo hi fin (d.add (Ec k lo fin (((c.ws k).b.drop lo).take (hi-lo)))):=by
 unfold CS.bytesAdd;cases d.add (Ec k lo fin (((c.ws k).b.drop lo).take (hi-lo)))<;>rfl
def IB(c:CS)(d:Dd)(k lo hi:Nat):Int :=
 (d.room:Int)-4-d.b.length-(((zA (Ec k lo false (((c.ws k).b.drop lo).take (hi-lo)))).length:Int)-((hi:Int)-lo))
def CS.bytesR(c:CS)(d:Dd)(k lo hi:Nat):Bool×CS×Dd :=
 if IB c d k lo hi<(hi:Int)-lo then
  if IB c d k lo hi<1 then(false,c,{ d with full:=true })
  else c.bytesAdd d k lo (lo+(IB c d k lo hi).toNat) false
 else c.bytesAdd d k lo hi ((c.ws k).fin&&hi==(c.ws k).b.length)
def CS.bytes(c:CS)(d:Dd)(k:Nat):Bool×CS×Dd :=
 if c.waits≠[]\/d.full=true then(false,c,d)else
 if (Dj (c.ws k).sent.rs 0 (c.endOf k)).2<=(Dj (c.ws k).sent.rs 0 (c.endOf k)).1 then
  if (!(c.ws k).fin||(c.ws k).ending)||decide (c.endOf k<(c.ws k).b.length)then(false,c,d)
  else c.bytesR d k (c.ws k).b.length (c.ws k).b.length
 else c.bytesR d k (Dj (c.ws k).sent.rs 0 (c.endOf k)).1 (Dj (c.ws k).sent.rs 0 (c.endOf k)).2
def Eh.modN{l:List (Da×Value)}(h:Eh tag i db d bv fv l W)(m:DW S W W')(hS:∀g,S g->(tag g).1≠i):Eh tag i db d bv fv l W':=by
 have q:∀{g r:Nat},tag g=(i,r)->¬S g:=λhg x=>hS _ x (by rw[hg])
 exact⟨m.obj (q h.tb) h.obj,h.tb,m.owns h.ob (λg hg=>q (h.tbv g hg)),h.tbv,m.owns h.own (λg hg=>q (h.tfv g hg)),h.lf,λx hx=>⟨(h.rr x hx).1.mod m (Hq λg hg=>q ((h.rr x hx).2 g hg)),(h.rr x hx).2⟩,h.tfv⟩
def zN.free(h:zN tag i b db W c d tag' V' bv' fv' l' W')(m:DW S W' W'')(a:∀g,S g->tag' g=(0,0)/\W.heap.size<=g):zN tag i b db W c d tag' V' bv' fv' l' W'':=by
 have hp:=h.p;have q:∀g,S g->(tag' g).1≠i:=λg hg=>by rw[(a g hg).1];simp;omega
 exact⟨h.c.mod m q (λ_ _=>rfl),h.d.modN m q,⟨h.e.old,h.e.new,h.e.z.mod m⟩,h.m.then m (λg hg=>.inr (a g hg).2),h.p⟩
def zN.setFull(h:zN tag i b db W c d tag' V' bv' fv' l' W'):zN tag i b db W c { d with full:=true } tag' V' bv' fv' l' (W'.setCell (db,4) (.bool true)):=by
 have m:DW (λg=>g=db) W' (W'.setCell (U db 4) (.bool true)):=(DW.refl (λg=>g=db) _).setCell (p:=U db 4) (.inl rfl) _;have a:DW (JU i tag') W' (W'.setCell (db,4) (.bool true)):=m.mono (λg hg=>.inl ⟨90,mu,by rw[hg,h.d.tb]⟩);refine⟨h.c.modR h.e.z h.p a (λ_ _=>rfl),⟨?_,h.d.tb,m.owns h.d.ob (λg hg x=>?_),h.d.tbv,m.owns h.d.own (λg hg x=>?_),h.d.lf,λx hx=>⟨(h.d.rr x hx).1.mod m (Hq λg hg y=>?_),(h.d.rr x hx).2⟩,h.d.tfv⟩,⟨h.e.old,h.e.new,h.e.z.mod m⟩,Ew h.e h.m (Mj a),h.p⟩
 .rw[zc h.d.obj];rfl
 .exact zi.apart (h.d.tbv g hg) (x ▸ h.d.tb) mu rfl
 .exact zi.apart (h.d.tfv g hg) (x ▸ h.d.tb) mu rfl
 exact zi.apart ((h.d.rr x hx).2 g hg) (y ▸ h.d.tb) mu rfl
def LH(c:CS)(k:Nat)(x:WS)(h1:x.b=(c.ws k).b)(h2:x.sent.rs=(c.ws k).sent.rs)(h3:x.came.rs=(c.ws k).came.rs):Kv c { c with ws:=zf c.ws k x } :=
 ⟨rfl,λq _=>by
  by_cases a:q=k
  .subst a;simp only[ze];exact⟨h1,h2,h3⟩
  simp[zd _ _ a],λ_ _=>⟨rfl,rfl⟩,rfl,rfl,rfl,rfl⟩
def zN.storeW(h:zN tag i b db W c d tag' V' bv' fv' l' W')(hk:k<8)(j:Nat)(hj:j<15)(v:Value)(x:WS)(hx:Fx x (V'.wb k) (V'.ws k) (V'.wc k)=(Fx (c.ws k) (V'.wb k) (V'.ws k) (V'.wc k)).set j v)(h1:x.b=(c.ws k).b)(h2:x.sent.rs=(c.ws k).sent.rs)(h3:x.came.rs=(c.ws k).came.rs):zN tag i b db W { c with ws:=zf c.ws k x } d tag' V' bv' fv' l' (W'.setCell (b,9+15*k+j) v):=by
 refine h.store _ _ (Ht _ _ _ _ _ hk hj (λq _=>?_) rfl rfl rfl) (LH c k x h1 h2 h3);by_cases a:q=k
 .subst a;simp only[ze,BC];exact hx
 simp only[zd _ _ a,AI a]
def zN.sentHigh(h:zN tag i b db W c d tag' V' bv' fv' l' W')(hk:k<8)(e:Bool)(m:Nat):zN tag i b db W { c with ws:=zf c.ws k { c.ws k with ending:=e,high:=m } } d tag' V' bv' fv' l' ((W'.setCell (b,9+15*k+9) (.bool e)).setCell (b,9+15*k+7) (.int .u64 m)):=by
 have h1:=h.storeW hk 9 mu (.bool e) { c.ws k with ending:=e } rfl rfl rfl rfl;have h2:=h1.storeW hk 7 mu (.int .u64 m) { c.ws k with ending:=e,high:=m } (by simp only[ze];rfl) (by simp only[ze]) (by simp only[ze]) (by simp only[ze]);simp only[Kp]at h2;exact h2
variable{hi lo:Nat}
def zN.sentAdd{e:Ending}(h:zN tag i b db W c d tag' V' bv' fv' l' W')(hk:k<8)(ha:Pv (c.ws k).sent b (9+15*k+1) lo hi (V'.ws k) W' e W'')(hm:((c.ws k).sent.add lo hi).most=(c.ws k).sent.most):e=.returned (.tuple #[])/\∃tag2 V2,zN tag i b db W { c with ws:=zf c.ws k { c.ws k with sent:=(c.ws k).sent.add lo hi } } d tag2 V2 bv' fv' l' W'':=by
 obtain⟨v',rfl,l,o,f,u⟩:=ha;have w:=h.p;have s:∀{g r:Nat},tag' g=(i,r)->g<W'.heap.size:=λhg=>Ei h.e.z hg w
 have n:∀g,(tag' g).1=i->zQ tag' W' W'' (i,20+k) g=tag' g:=λg hg=>zD (s (r:=(tag' g).2) (by rw[<-hg]))
 have v:∀g,(g=b\/(V'.ws k).ownBlock=some g)->∃r,(r=1\/r=20+k)/\tag' g=(i,r):=λg hg=>by
  rcases hg with hg|hg
  .exact⟨1,.inl rfl,by rw[hg,h.c.tb]⟩
  exact⟨20+k,.inr rfl,h.c.tws k hk g hg⟩
 refine⟨rfl,zQ tag' W' W'' (i,20+k),{ V' with ws:=zf V'.ws k v' },?_,?_,h.e.trans (Jt f.size) h.m.size,Ew h.e h.m (f.mono (λg hg=>.inl ?_)),w⟩
 .refine h.c.build (R:=λr=>r=1\/r=20+k) f v n ?_ (.inl ⟨rfl,rfl,rfl,I,I⟩) (λq t=>.inl ⟨?_,rfl,I⟩) (λq t=>?_) (λq t=>.inl ⟨?_,rfl,I⟩) (λq t=>.inl ⟨rfl,rfl,I⟩) (λq t=>.inl ⟨rfl,rfl,I⟩) (.inl ⟨rfl,rfl,rfl,I,I⟩) (.inl ⟨rfl,rfl,I⟩) (.inl ⟨rfl,rfl,I⟩) (.inl ⟨rfl,rfl,I⟩)
  .rw[o,zc (zc h.c.obj)];simp only[Aq];have e1:=Ht c c V' { V' with ws:=zf V'.ws k v' } (k:=k) (j:=1) v' hk mu (λq _=>by
    by_cases a:q=k
    .subst a;simp only[ze,BC];rfl
    simp only[zd _ _ a,AI a]) rfl rfl rfl
   rw[e1];have e2:=Ht c { c with ws:=zf c.ws k { c.ws k with sent:=(c.ws k).sent.add lo hi } } { V' with ws:=zf V'.ws k v' } { V' with ws:=zf V'.ws k v' } (k:=k) (j:=2) (.int .u64 (((c.ws k).sent.add lo hi).fl:Int)) hk mu (λq _=>by
    by_cases a:q=k
    .subst a;simp only[ze,BC,Fx,hm];rfl
    simp only[zd _ _ a,AI a]) rfl rfl rfl
   rw[show 9+15*k+1+1=9+15*k+2 from rfl,e2]
  .by_cases a:q=k
   .subst a;simp only[ze]
   simp only[zd _ _ a]
  .by_cases a:q=k
   .subst a;simp only[ze];refine .inr ⟨l,λg hg=>?_⟩;rcases u g hg with y|y
    .rw[zD (s (h.c.tws q hk g y)),h.c.tws q hk g y]
    exact Gs y (zK l g hg)
   exact .inl ⟨by simp only[zd _ _ a],by simp only[zd _ _ a],I⟩
  by_cases a:q=k
  .subst a;simp only[ze]
  simp only[zd _ _ a]
 .exact h.d.modC f (λg hg=>by
   obtain⟨r,hr,e⟩:=v g hg;exact⟨r,I,I,e⟩) n
 obtain⟨r,hr,e⟩:=v g hg;exact EW e I
def IN(s:Dl)(lo hi:Nat):(s.add lo hi).most=s.most:=by
 unfold Dl.add;split
 .rfl
 split<;>rfl
def U7{fin:Bool}{s:nG}(hk:k<8)(hl:s.length<=1048576)(a:lo+s.length<=zF):(Ec k lo fin s).Fits:=by
 have hb:=Mi (Ec k lo fin s) rfl;have hd:(Ec k lo fin s).data.length=s.length:=rfl;refine⟨?_,rfl,by rw[hd];exact hl,by rw[hd]at hb;omega⟩;unfold zF at a;simp[zX,Ef,nums,Ek,zO,Ec]
 and_intros<;>first|omega|exact Ax I
def zN.add2{e:Ending}(h:zN tag i b db W c d tag' V' bv' fv' l' W')(hd:JO tag' i db W' d f e W''):e=.returned (.bool (d.add f).isSome)/\∃tag2 bv2 fv2 l2,zN tag i b db W c ((d.add f).getD d) tag2 V' bv2 fv2 l2 W''/\(∀g,g<W'.heap.size->tag2 g=tag' g)/\DW (JU i tag') W' W'':=by
 obtain⟨rfl,tag2,bv2,fv2,l2,h1,h2,h3⟩:=hd;exact⟨rfl,tag2,bv2,fv2,l2,⟨h.c.modR h.e.z h.p h3 h2.old,h1,h.e.trans h2.ext h.m.size,Ew h.e h.m (Mj h3),h.p⟩,h2.old,h3⟩
structure QR(c:CS)(k:Nat):Prop where
 lt:k<8
 cut:(c.ws k).keep<=zF
 len:(c.ws k).b.length<=1048576
 credit:(c.ws k).credit<=zF
 high:(c.ws k).high<=zF
 all:c.credit<=zF
 spent:c.spent<=zF
 wf:WF (c.ws k).sent.rs
 hi:∀j,j<(c.ws k).sent.rs.length->DX (c.ws k).sent.rs j<9223372036854775808
 fl:(c.ws k).sent.fl<=zF
 most:1<=(c.ws k).sent.most/\(c.ws k).sent.most<=1099511627776
 rl:(c.ws k).sent.rs.length<=1099511627776
theorem Il(rs:zC):∀lo hi,(Dj rs lo hi).2<=hi:=by
 induction rs with
 | nil=>intro lo hi;exact AF _
 | cons r l ih =>
  intro lo hi;unfold Dj;split
  .exact ih lo hi
  split
  .exact Bu _ _
  exact ih _ _
theorem TM(rs:zC)(h:∀r∈rs,r.2<9223372036854775808):∀lo hi,lo<=9223372036854775808->(Dj rs lo hi).1<=9223372036854775808:=by
 induction rs with
 | nil=>intro lo hi hl;exact hl
 | cons r l ih =>
  intro lo hi hl;have hr:=h r AO;have a:=ih (λx hx=>h x (AW _ hx));unfold Dj;split
  .exact a lo hi hl
  split
  .exact hl
  exact a _ _ I
def ff{n:Nat}(h:Er W 65 10 v n xs):∃a cap,v=.slice a n cap:=by
 rcases h.2 with⟨e,e2⟩|⟨g,o,cap,cur,e,_⟩
 .exact⟨none,0,by rw[e,e2]⟩
 exact⟨_,cap,e⟩
variable{N:Nat}{new:nG}
def Wa{e:Ending}(h:O7 w (.slice none 0 0) [] true new e w')(hN:new.length=N):∃a c,e=.returned (.slice a N c)/\DW DY w w':=by
 rcases h with⟨_,v',rfl,b⟩|⟨hx,_⟩
 .obtain⟨a,c,e,_⟩:=zk b.own;rw[An,hN]at e;exact⟨a,c,by rw[e],(DW.refl DY w).grown b.grown (λg hg=>by simp[Value.ownBlock]at hg)⟩
 cases hx
def zi.sentAt(h:zi tag i b c V W)(hk:k<8)(hl:(c.ws k).sent.rs.length<=1099511627776):El W b (9+15*k+1) (V.ws k) (c.ws k).sent.rs (c.ws k).sent.fl (c.ws k).sent.most :=
 ⟨h.w (j:=1) hk rfl,h.w (j:=2) hk rfl,h.w (j:=3) hk rfl,h.ws k hk,hl,λj=>h.fz j⟩
theorem fZ{l:List (Da×Value)}(h:zi tag i b c V W)(hD:Eh tag i db d bv fv l W)(E:EC i tag W)(k:Nat)(ok:QR c k)(bR:d.b.length<=1073741824)(bS:d.fs.length<=1073741824)(bT:d.room<=1073741824):Calls prog 149 #[(b,0),(db,0),[k]] W (Gk tag i b db W (c.bytes d k).2.1 (c.bytes d k).2.2 (c.bytes d k).1):=by
 have S0:AA (zN tag i b db W c d tag V bv fv l W):=zb ⟨h,hD,Dn.same E.ok (DW.refl DY _),DW.refl _ _,E.pos⟩;have hk:=ok.lt;have hk0:(0:Int)<=k:=I;have hk8:(k:Int)<8:=I;have c5:W.cell? (b,238)=some V.wt:=h.tl (j:=5) rfl;obtain⟨wta,wtc,bb⟩:=ff h.wt;rw[bb]at c5;have e4:W.cell? (db,4)=some (.bool d.full):=za hD.obj rfl;have w0:W.cell? (b,9+k*15)=some (V.wb k):=by rw[AL];exact h.w (j:=0) hk rfl
 obtain⟨wa,n,ah,_⟩:=zk (h.wb k hk);rw[ah]at w0;have w7:W.cell? (b,9+k*15+7)=some (.int .u64 ((c.ws k).high:Int)):=by rw[AL];exact h.w (j:=7) hk rfl
 have ai:W.cell? (b,9+k*15+14)=some (.int .u64 ((c.ws k).credit:Int)):=by rw[AL];exact h.w (j:=14) hk rfl
 have Z:W.cell? (b,9+k*15+10)=some (.bool (c.ws k).cut):=by rw[AL];exact h.w (j:=10) hk rfl
 have aj:W.cell? (b,9+k*15+11)=some (.int .u64 ((c.ws k).keep:Int)):=by rw[AL];exact h.w (j:=11) hk rfl
 have g0:W.cell? (b,233)=some (.int .u64 c.credit):=h.tl (j:=0) rfl;have ks:=fj (h.mod0 ((DW.refl DY W).drew)) (by have:=ok.spent;unfold zF at this;omega);obtain⟨R,hR⟩:=nm (c.bytes d k);rw[hR];have HR:=zb hR;have OK:=zb ok;obtain⟨L,hL⟩:=nm ((c.ws k).b.length);obtain⟨hh,aN⟩:=nm ((c.ws k).high);obtain⟨cr,aO⟩:=nm ((c.ws k).credit);obtain⟨cc,aP⟩:=nm c.credit;obtain⟨cu,ak⟩:=nm ((c.ws k).cut);obtain⟨kp,aQ⟩:=nm ((c.ws k).keep);obtain⟨sp,aR⟩:=nm c.spent;obtain⟨nw,aS⟩:=nm c.waits.length;obtain⟨df,aT⟩:=nm d.full;have b1:=ok.len;have b2:=ok.credit;have b3:=ok.high;have b4:=ok.all;have b5:=ok.spent;have b6:=ok.cut;unfold zF at b2 b3 b4 b5 b6;have HE:AA (c.endOf k=if cu=true then min (min (min L cr) (hh+cc-min cc sp)) kp else min (min L cr) (hh+cc-min cc sp)):=by
  show _=_;rw[CS.endOf,CS.end0,hL,aN,aO,aP,aR,ak,aQ]
 rw[hL]at w0 b1;rw[aN]at w7 b3;rw[aO]at ai b2;rw[aP]at g0 b4;rw[ak]at Z;rw[aQ]at aj b6;have bU:=zb ak;rw[aR]at ks b5;rw[aS]at c5;rw[aT]at e4;have HL:=zb hL;have aa:AA (V.wb k=.slice wa L n):=by rw[hL]at ah;exact ah
 have be:=zb aS;have bf:=zb aT;have al:0<nw\/(nw=0/\df=true)\/(nw=0/\df=false):=by
  cases df
  .by_cases e:nw=0
   .exact .inr (.inr ⟨e,rfl⟩)
   exact .inl I
  by_cases e:nw=0
  .exact .inr (.inl ⟨e,rfl⟩)
  exact .inl I
 clear h hD E ok hR bb ah hL aN aO aP aR aS aT ak aQ;rcases al with hA|⟨rfl,rfl⟩|⟨rfl,rfl⟩
 .have D:AA (R=(false,c,d)):=by
   show _=_;rw[<-HR.z,CS.bytes,AQ (.inl (λe=>by have:=be.z;rw[e]at this;simp at this;omega))]
  have d1:(0:Int)<nw:=I;clear hA ks w0 w7 ai Z aj g0;go_enter func149,ntmps149;go_wp2_with fail;go_ret;rw[D.z];exact S0.z.post false
 .have D:AA (R=(false,c,d)):=by
   show _=_;rw[<-HR.z,CS.bytes,AQ (.inr bf.z)]
  clear ks w0 w7 ai Z aj g0;go_enter func149,ntmps149;go_wp2_with fail;go_ret;rw[D.z];exact S0.z.post false
 have bh:AA (R=if (Dj (c.ws k).sent.rs 0 (c.endOf k)).2<=(Dj (c.ws k).sent.rs 0 (c.endOf k)).1 then
  if (!(c.ws k).fin||(c.ws k).ending)||decide (c.endOf k<(c.ws k).b.length)then(false,c,d)
  else c.bytesR d k (c.ws k).b.length (c.ws k).b.length
 else c.bytesR d k (Dj (c.ws k).sent.rs 0 (c.endOf k)).1 (Dj (c.ws k).sent.rs 0 (c.endOf k)).2):=by
  show _=_;rw[<-HR.z,CS.bytes,AI];rintro(e|e)
  .exact e (Aj be.z)
  rw[bf.z]at e;cases e
 obtain⟨q1,aU⟩:=nm (min cc sp);obtain⟨t,aV⟩:=nm (min (min L cr) (hh+cc-q1));obtain⟨en,aW⟩:=nm ((if cu=true then min t kp else t));have bV:AA (c.endOf k=en):=by
  show _=_;rw[HE.z,aU,aV,aW]
 have bi:=zb aU;have ab:=zb aW;have bj:=zb aV;have x1:IntKind.u64.wrap (L:Int)=(L:Int):=by rw[IntKind.wrap_u64];omega
 have x2:=wu ((hh:Int)+cc) I;have x3:=wu ((hh:Int)+cc-q1) I;clear aU aW aV HE HR;go_enter func149,ntmps149;go_upto_region 4 with fail
 go_cut [8] (λev o=>ev=.int .u64 t/\o=W.drew)
 case first=>as_aux_lemma =>
  refine zo 29 (λw'=>w'=W.drew) (rfl) ?_;refine GI 0 ?_;iterate 24
   refine GV rfl ?_;try simp only[PS]
  refine zE 24 rfl (λK hK=>?_);go_simp;refine ks.mono ?_;rintro _ _ ⟨rfl,rfl⟩;refine hK.z _ _ rfl ?_;clear hK K;try simp only[PS]
  refine Jn (i:=25) (v:=.int .u64 q1) rfl mr (λ_ _ _ h=>h) (Or.inl ⟨by rfl,?_⟩) ?_
  .intro o q;subst q;go_simp;have:=bi.z;split<;>omega
  try simp only[PS]
  refine GI 26 ?_;refine GV rfl ?_;try simp only[PS]
  refine Jn (i:=27) (v:=.int .u64 t) rfl mr (λ_ _ _ h=>h) (Or.inl ⟨by rfl,?_⟩) ?_
  .intro o q;subst q;go_simp;have h1:=bi.z;have h2:=bj.z
   (repeat' split)<;>omega
  try simp only[PS]
  refine GI 28 ?_;refine GV rfl ?_;try simp only[PS]
  refine zr ?_;go_wp2_with fail;go_meet;exact⟨rfl,rfl⟩
 case rest =>
 obtain⟨rfl,X⟩:=hcut;subst X;go_upto_if 64 with fail
 go_cut [8] (λev o=>ev=.int .u64 en/\o=W.drew)
 case first=>as_aux_lemma =>
  cases cu
  .have h2:t=en:=ab.z;subst h2;go_wp2_with fail;go_meet;exact⟨rfl,rfl⟩
  go_wp2_with fail;all_goals
   go_meet;have h2:min t kp=en:=ab.z;exact⟨by congr 1;omega,rfl⟩
 case rest =>
 obtain⟨rfl,X⟩:=hcut;subst X;have bk:en<=L:=by
  have h1:(if cu=true then min t kp else t)=en:=ab.z;have h2:min (min L cr) (hh+cc-q1)=t:=bj.z;have h3:t<=L:=by rw[<-h2];exact AJ (Bu _ _) (Bu _ _)
  clear h2;split at h1
  .have:=Bu t kp;omega
  omega
 have S1:=zb (S0.z.mod0 (DW.refl DY W).drew);have kg:=QS (c.ws k).sent.rs (c.ws k).sent.fl (c.ws k).sent.most b (9+15*k+1) 0 en (V.ws k) W.drew (S1.z.c.sentAt hk OK.z.rl) I OK.z.hi;rw[AL 15 k]at kg;have aG:=TM (c.ws k).sent.rs (λr hr=>by
  obtain⟨j,hj⟩:=Cw hr;have bm:=(AN.1 hj).1;have e:=Gn bm;rw[hj]at e;cases e;exact OK.z.hi j bm) 0 en I
 have aH:=Il (c.ws k).sent.rs 0 en;obtain⟨y,S⟩:=nm ((Dj (c.ws k).sent.rs 0 en).1);obtain⟨A,T⟩:=nm ((Dj (c.ws k).sent.rs 0 en).2);rw[S]at aG;rw[T]at aH;have bn:AA (R=if A<=y then(if (!(c.ws k).fin||(c.ws k).ending)||decide (en<L)then(false,c,d)else c.bytesR d k L L)else c.bytesR d k y A):=by
  show _=_;rw[bh.z,bV.z,S,T,HL.z]
 rw[S,T]at kg;have KG:=zb kg;clear kg S T bh ks x1 x2 x3 w0 w7 ai aj g0 c5 e4;go_upto_region 7 with fail
 go_cut [9,10] (λlv hv o=>lv=.int .u64 y/\hv=.int .u64 A/\AA (DW DY W.drew o))
 case first=>as_aux_lemma =>
  go_wp2_with (go_at_call 91;refine KG.z.mono ?_;rintro _ W2 ⟨rfl,m2⟩);go_meet;exact⟨rfl,rfl,m2⟩
 case rest =>
 obtain⟨rfl,rfl,m2⟩:=hcut;obtain⟨W2,aX⟩:=nn wc;subst aX;have S2:=zb (S1.z.mod0 m2.z);have w0:W2.cell? (b,9+k*15)=some (.slice wa L n):=by
  rw[AL k 15,<-aa.z];exact S2.z.c.w (j:=0) hk rfl
 have w8:W2.cell? (b,9+k*15+8)=some (.bool (c.ws k).finished):=by
  rw[AL k 15];exact S2.z.c.w (j:=8) hk rfl
 have w9:W2.cell? (b,9+k*15+9)=some (.bool (c.ws k).ending):=by
  rw[AL k 15];exact S2.z.c.w (j:=9) hk rfl
 have bo:W2.cell? (b,9+k*15+10)=some (.bool cu):=m2.z.cell (a:=⟨b,_,none⟩) id Z;obtain⟨fi,am⟩:=nm ((c.ws k).fin);obtain⟨fq,aY⟩:=nm ((c.ws k).finished);have bW:AA ((fq && !cu)=fi):=by
  show _=_;rw[<-aY,<-bU.z,<-am];rfl
 obtain⟨eg,an⟩:=nm ((c.ws k).ending);have bX:=zb am;have ao:=zb an;have F:=bn.z;rw[am,an]at F;rw[aY]at w8;rw[an]at w9;replace F:=zb F;have M2:=zb m2.z;have x1:IntKind.u64.wrap (L:Int)=(L:Int):=by rw[IntKind.wrap_u64];omega
 clear am aY an bn m2 Z;go_upto_region 9 with fail
 go_cut [12] (λfv o=>fv=.bool fi/\o=W2)
 case first=>as_aux_lemma =>
  cases fq;all_goals
   cases cu;all_goals
    have bp:=bW.z;subst bp;go_wp2_with fail;go_meet;exact⟨rfl,rfl⟩
 case rest =>
 obtain⟨rfl,X⟩:=hcut;obtain⟨W2,aX⟩:=nn wc;subst aX;subst X;go_upto_if 98 with fail
 go_cut [9,10] (λlv hv o=>∃lo hi:Nat,lv=.int .u64 lo/\hv=.int .u64 hi/\o=W2/\lo<=hi/\hi<=L/\AA (R=c.bytesR d k lo hi))
 case first=>as_aux_lemma =>
  by_cases ap:A<=y
  .have H:AA (R=if (!fi||eg)||decide (en<L)then(false,c,d)else c.bytesR d k L L):=by
    show _=_;rw[F.z,AQ ap]
   have d1:(A:Int)<=y:=I;clear ap F;cases fi
   .have D:AA (R=(false,c,d)):=by
     show _=_;rw[H.z];simp
    clear H;go_wp2_with fail;go_ret;rw[D.z];exact S2.z.post false
   cases eg
   .by_cases aq:en<L
    .have D:AA (R=(false,c,d)):=by
      show _=_;rw[H.z];simp[aq]
     have d2:(en:Int)<L:=I;clear H aq;go_wp2_with fail;go_ret;rw[D.z];exact S2.z.post false
    have D:AA (R=c.bytesR d k L L):=by
     show _=_;rw[H.z];simp[aq]
    have d2:¬(en:Int)<L:=I;clear H aq;go_wp2_with fail;go_meet;exact⟨L,L,rfl,rfl,rfl,AF _,AF _,D⟩
   have D:AA (R=(false,c,d)):=by
    show _=_;rw[H.z];simp
   clear H;go_wp2_with fail;go_ret;rw[D.z];exact S2.z.post false
  have D:AA (R=c.bytesR d k y A):=by
   show _=_;rw[F.z,AI ap]
  have d1:¬(A:Int)<=y:=I;have bY:y<=A:=I;clear ap F;go_wp2_with fail;go_meet;exact⟨y,A,rfl,rfl,rfl,bY,I,D⟩
 case rest =>
 obtain⟨lo,hi,rfl,rfl,X,bZ,hhL,bq⟩:=hcut;clear F;have X:=X.symm;subst X;obtain⟨f0,bt⟩:=nm ((fi&&hi==L));have ar:=zb bt;clear bt;obtain⟨W3,au⟩:=nm (W2.alloc (.cells (zl (Ec k lo f0 []) (.slice none 0 0)) 65));go_upto_region 14 with fail
 go_cut [13] (λpv o=>pv=.pointer W2.heap.size/\o=W3)
 case first=>as_aux_lemma =>
  have hd:W3=W2.alloc (.cells #[.int .i64 4,[k],lo,.int .u64 0,.int .u64 0,f0,.int .u64 0,.int .u64 0,.string ⟨#[]⟩,.slice none 0 0] 65):=au.symm;have aZ:=zb hd;clear hd;cases fi
  .have t:f0=false:=by rw[<-ar.z];rfl
   subst t;go_wp2_with fail;go_meet;exact⟨rfl,aZ.z.symm⟩
  by_cases e:hi=L
  .have t:f0=true:=by rw[<-ar.z,e];simp
   have e1:((hi:Int)==(L:Int))=true:=by rw[e];simp
   subst t;clear e;go_wp2_with fail;go_meet;exact⟨rfl,aZ.z.symm⟩
  have t:f0=false:=by rw[<-ar.z];simp[e]
  have e1:((hi:Int)==(L:Int))=false:=AS.2 I;subst t;clear e;go_wp2_with fail;go_meet;exact⟨rfl,aZ.z.symm⟩
 case rest =>
 obtain⟨rfl,X⟩:=hcut;obtain⟨W4,b0⟩:=nn wc;subst b0;subst X;have bu:=AB au;have oF:=AD au;have S4:=zb (S2.z.mod0 bu);have OF:=zb oF;obtain⟨s,hs⟩:=nm (((c.ws k).b.drop lo).take (hi-lo));have b7:s.length=hi-lo:=by
  rw[<-hs,AU,Ac,HL.z];omega
 have J:BR W4 (.slice wa L n) (c.ws k).b:=by
  have:=(S4.z.c.wb k hk).br;rw[aa.z]at this;exact this
 have bw:L<=n/\n<=9223372036854775807:=by
  obtain⟨a',c',e,q1,q2,_⟩:=J;cases e;rw[HL.z]at q1;unfold maxLen at q2;exact⟨q1,I⟩
 obtain⟨b8,b9⟩:=bw;rw[<-HL.z]at J;have ac:(convert 60 9 (.slice (wa.map λx=>x.add lo) (hi-lo) (n-lo))).run prog W4=.ok (.string (zu s)) W4:=by
  rw[<-hs];exact Ju (J.sub (by rw[HL.z];omega))
 have ad:∀a,(convert 60 9 (.slice a 0 0)).run prog W4=.ok (.string (zu [])) W4:=λa=>Ju (BR.nil _ a 0 mz)
 have bz:zX (Ec k lo false s)=true:=by
  have e1:decide ((k:Int)<8)=true:=Ax I;simp[zX,Ef,nums,Ek,zO,Ec]
  and_intros<;>first|omega|exact Ax I
 have bA:=Mi (Ec k lo false s) rfl;have a0:(Ec k lo false s).data.length=hi-lo:=b7;rw[a0]at bA;have a1:=Rg (.slice none 0 0) [] (Ec k lo false s) (.slice none 0 0) W4 (OB.nil W4) (λh=>absurd h (A5 _)) ⟨none,0,rfl,AF _,AM _,λi hi=>absurd hi (A5 i)⟩ (AM _) (by rw[a0];omega) (AM _);rw[bz]at a1;obtain⟨N,hN⟩:=nm ((zA (Ec k lo false s)).length);rw[hN]at bA;have D:=zb hN;have ca:=zb hs;have bB:=zb a1;have w0:W4.cell? (b,9+k*15)=some (.slice wa L n):=by
  rw[AL k 15,<-aa.z];exact S4.z.c.w (j:=0) hk rfl
 have x1:=wu ((hi:Int)-lo) I;have x2:IntKind.i64.wrap ((hi:Int)-lo)=(hi:Int)-lo:=IntWalk.i64_in _ I;have x3:IntKind.i64.wrap ((N:Int)-((hi:Int)-lo))=(N:Int)-((hi:Int)-lo):=IntWalk.i64_in _ I;clear hs hN a1 J w8 w9 bo au oF aG aH b2 b3 b4 b5 bk bz a0 bu;go_upto_region 15 with fail
 go_cut [14] (λhv o=>hv=.int .i64 ((N:Int)-((hi:Int)-lo))/\AA (DW DY W4 o))
 case first=>as_aux_lemma =>
  by_cases hc:lo=n
  .have a2:hi=lo:=I;subst a2;have a3:s=[]:=Aj I;subst a3;subst hc;go_wp2_with (go_at_call 144;refine bB.z.mono ?_;intro e W5 ae;obtain⟨va,vc,rfl,m5⟩:=Wa ae D.z;have M5:=zb m5;clear ae m5);all_goals
    go_meet;exact⟨by congr 1;omega,M5⟩
  have cd:¬n=lo:=λh=>hc h.symm
  go_wp2_with (go_at_call 144;refine bB.z.mono ?_;intro e W5 ae;obtain⟨va,vc,rfl,m5⟩:=Wa ae D.z;have M5:=zb m5;clear ae m5);all_goals
   go_meet;exact⟨rfl,M5⟩
 case rest =>
 obtain⟨rfl,m4⟩:=hcut;obtain⟨W5,ce⟩:=nn wc;subst ce;have S5:=zb (S4.z.mod0 m4.z);have ci:=zb (m4.z.obj (λx=>x) OF.z);obtain⟨cB,a4,bC,l5,D5⟩:∃(t5:nH) (a4 bC:Value) (l5:List (Da×Value)),AA (Eh t5 i db d a4 bC l5 W5):=⟨_,_,_,_,S5.z.d⟩;have t:W5.cell? db=some a4:=za D5.z.obj rfl;have e2:W5.cell? (db,2)=some (.int .i64 d.room):=za D5.z.obj rfl;obtain⟨ba,bc,bD,_⟩:=zk D5.z.ob;rw[bD]at t;obtain⟨B,hB⟩:=nm d.b.length;obtain⟨Rm,av⟩:=nm d.room;have M:AA (IB c d k lo hi=(Rm:Int)-4-B-((N:Int)-((hi:Int)-lo))):=by
  show _=_;rw[IB,ca.z,D.z,hB,av]
 rw[hB]at t bR;rw[av]at e2 bT;have HB:=zb hB;have HRm:=zb av;have y1:IntKind.i64.wrap ((Rm:Int)-4)=(Rm:Int)-4:=IntWalk.i64_in _ I;have y2:IntKind.i64.wrap ((Rm:Int)-4-B)=(Rm:Int)-4-B:=IntWalk.i64_in _ I;have y3:IntKind.i64.wrap ((Rm:Int)-4-B-((N:Int)-((hi:Int)-lo)))=(Rm:Int)-4-B-((N:Int)-((hi:Int)-lo)):=IntWalk.i64_in _ I;clear bD hB av w0 ad ac x3;go_upto_region 16 with fail
 go_cut [15] (λrv o=>rv=.int .i64 (IB c d k lo hi)/\AA (DW DY W5 o))
 case first=>as_aux_lemma =>
  go_quiet (fail);go_wp2_with fail;go_meet;exact⟨by rw[M.z],(DW.refl DY W5).drewN _⟩
 case rest =>
 obtain⟨rfl,m5⟩:=hcut;obtain⟨W6,cj⟩:=nn wc;subst cj;have S6:=zb (S5.z.mod0 m5.z);have aw:=zb (m5.z.obj (λx=>x) ci.z);obtain⟨z,hz⟩:=nm (IB c d k lo hi);have HZ:=zb hz;have hzb : -2199023255552<=z/\z<=2199023255552:=by
  have:=M.z;rw[hz]at this;omega
 rw[hz];have O:AA (R=if z<(hi:Int)-lo then(if z<1 then(false,c,{ d with full:=true })else c.bytesAdd d k lo (lo+z.toNat) false)else c.bytesAdd d k lo hi f0):=by
  show _=_;rw[bq.z,CS.bytesR,hz,bX.z,HL.z,ar.z]
 have bE:W.heap.size<=W2.heap.size:=S2.z.m.size;have e4:W6.cell? (db,4)=some (.bool d.full):=za S6.z.d.obj rfl;have bF:∀j,W6.frozen? ⟨db,j,none⟩=false:=λj=>zg S6.z.d.obj
 have ck:W6.cell? (W2.heap.size,5)=some (.bool f0):=za aw.z rfl;have co:∀j,W6.frozen? ⟨W2.heap.size,j,none⟩=false:=λj=>zg aw.z
 have ax:AA (tag W2.heap.size=(0,0)):=zb (S2.z.e.z _ (AF _));clear hz bq m5 t e2 y1 y2 y3 M;go_upto_if 159 with fail
 go_cut [10] (λhv o=>∃(f:Nat) (P:Bool),hv=.int .u64 f/\lo<=f/\f<=hi/\AA (R=c.bytesAdd d k lo f P)/\AA (o.heap[W2.heap.size]?=some (.cells (zl (Ec k lo P []) (.slice none 0 0)) 65 (0,0)))/\AA (DW (λg=>g=W2.heap.size) W6 o))
 case first=>as_aux_lemma =>
  by_cases a5:z<(hi:Int)-lo
  .by_cases bG:z<1
   .have C:AA (R=(false,c,{ d with full:=true })):=by
     show _=_;rw[O.z,AQ a5,AQ bG]
    clear O;go_wp2_with fail;go_ret;rw[C.z];exact S6.z.setFull.post false
   have C:AA (R=c.bytesAdd d k lo (lo+z.toNat) false):=by
    show _=_;rw[O.z,AQ a5,AI bG]
   have z1:IntKind.u64.wrap z=z:=by rw[IntKind.wrap_u64];omega
   have z2:=wu ((lo:Int)+z) I;have cp:AA ((W6.setCell (W2.heap.size,5) (.bool false)).heap[W2.heap.size]?=some (.cells (zl (Ec k lo false []) (.slice none 0 0)) 65 (0,0))):=by
    show _=_;rw[zc aw.z];rfl
   clear O;go_wp2_with fail;go_meet;exact⟨lo+z.toNat,false,by congr 1;omega,I,I,C,cp,(DW.refl (λg=>g=W2.heap.size) _).setCell (p:=U W2.heap.size 5) (.inl rfl) _⟩
  have C:AA (R=c.bytesAdd d k lo hi f0):=by
   show _=_;rw[O.z,AI a5]
  clear O;go_wp2_with fail;go_meet;exact⟨hi,f0,rfl,bZ,AF _,C,aw,DW.refl _ _⟩
 case rest =>
 obtain⟨f,P,rfl,hl2,hh2,bH,a6,m7⟩:=hcut;obtain⟨W7,cq⟩:=nn wc;subst cq;have S7:=zb (S6.z.free m7.z (λg hg=>by
  have hg:g=W2.heap.size:=hg;rw[hg];exact⟨ax.z,bE⟩))
 obtain⟨s2,ay⟩:=nm (((c.ws k).b.drop lo).take (f-lo));have bI:s2.length=f-lo:=by
  rw[<-ay,AU,Ac,HL.z];omega
 have J:BR W7 (.slice wa L n) (c.ws k).b:=by
  have:=(S7.z.c.wb k hk).br;rw[aa.z]at this;exact this
 rw[<-HL.z]at J;have ac:(convert 60 9 (.slice (wa.map λx=>x.add lo) (f-lo) (n-lo))).run prog W7=.ok (.string (zu s2)) W7:=by
  rw[<-ay];exact Ju (J.sub (by rw[HL.z];omega))
 have ad:∀a,(convert 60 9 (.slice a 0 0)).run prog W7=.ok (.string (zu [])) W7:=λa=>Ju (BR.nil _ a 0 mz)
 have w0:W7.cell? (b,9+k*15)=some (.slice wa L n):=by
  rw[AL k 15,<-aa.z];exact S7.z.c.w (j:=0) hk rfl
 have v8:W7.cell? (W2.heap.size,8)=some (.string ⟨#[]⟩):=za a6.z rfl;have cv:∀j,W7.frozen? ⟨W2.heap.size,j,none⟩=false:=λj=>zg a6.z
 obtain⟨W8,az⟩:=nm (W7.setCell (U W2.heap.size 8) (.string (zu s2)));have a7:AA (zj W8 W2.heap.size (Ec k lo P s2) (.slice none 0 0)):=by
  show _=_;rw[<-az,zc a6.z];rfl
 have S8:=zb (S7.z.free (show DW (λg=>g=W2.heap.size) W7 W8 by rw[<-az];exact(DW.refl (λg=>g=W2.heap.size) _).setCell (p:=U W2.heap.size 8) (.inl rfl) _) (λg hg=>by
  have hg:g=W2.heap.size:=hg;rw[hg];exact⟨ax.z,bE⟩))
 have cw:=zb ay;have bJ:=zb az;clear ay J az ck co e4 bF O;go_upto_region 23 with fail
 go_cut [] (λo=>o=W8)
 case first=>as_aux_lemma =>
  by_cases hc:lo=n
  .have a2:f=lo:=I;subst a2;have a3:s2=[]:=Aj I;subst a3;subst hc;go_wp2_with fail;all_goals
    go_meet;exact bJ.z
  have cd:¬n=lo:=λh=>hc h.symm
  go_wp2_with fail;all_goals
   go_meet;exact bJ.z
 case rest =>
 have X:=hcut.symm;subst X;clear ad ac w0 v8 cv hcut;have cx:(Ec k lo P s2).Fits:=U7 hk I (by rw[bI];unfold zF;omega);have aI:=Nc S8.z.d S8.z.ok S8.z.p (Ec k lo P s2) cx (by rw[HB.z];omega) bS;obtain⟨dn,a8⟩:=nm (d.add (Ec k lo P s2));have aA:=zb a8;have aB:AA (R=c.bytesGot d k lo f P dn):=by
  show _=_;rw[bH.z,jx,cw.z,a8]
 have aJ:=zb aI;obtain⟨y0,y1,y2,y3,y4,y5,y6,y7,y8,y9⟩:=a7.z.cells;have cy:W2.heap.size<W8.heap.size:=(AH.1 a7.z).1;clear aI a8 bH;cases dn with
 | none=>as_aux_lemma =>
  go_wp2_with fail;refine aJ.z.mono ?_;intro e W9 hd;obtain⟨rfl,af,bK,bL,l9,u,_,_⟩:=S8.z.add2 hd;rw[aA.z]at u;rw[aA.z];clear hd;have e4:W9.cell? (db,4)=some (.bool d.full):=za u.d.obj rfl;have bF:∀j,W9.frozen? ⟨db,j,none⟩=false:=λj=>zg u.d.obj
  have u:=zb u;have C:AA (R=(false,c,{ d with full:=true })):=aB.z;clear aB y0 y1 y2 y3 y4 y5 y6 y7 y8 y9;go_wp2_with fail;go_ret;rw[C.z];exact u.z.setFull.post false
 | some d1 =>
  go_wp2_with fail;refine aJ.z.mono ?_;intro e W9 hd;obtain⟨rfl,af,bK,bL,l9,u,bM,bN⟩:=S8.z.add2 hd;rw[aA.z]at u;rw[aA.z];have cC:=S8.z.p;have aC:zj W9 W2.heap.size (Ec k lo P s2) (.slice none 0 0):=bN.obj (λ⟨r,hr,hx⟩=>by
   rw[ax.z]at hx;simp at hx;omega) a7.z
  have aD:af W2.heap.size=(0,0):=by rw[bM _ cy,ax.z]
  have C:AA (R=(true,{ c with ws:=zf c.ws k { c.ws k with sent:=if lo<f then(c.ws k).sent.add lo (f-1)else(c.ws k).sent,ending:=(c.ws k).ending||P,high:=max (c.ws k).high f } },d1)):=aB.z;clear hd aB y0 y1 y2 y3 y4 y5 y6 y7 y8 y9 bN bM;have bO:∀(tx:nH) (Vx:CV) (WX:World) (sn:Dl),sn=(if lo<f then(c.ws k).sent.add lo (f-1)else(c.ws k).sent)->zN tag i b db W { c with ws:=zf c.ws k { c.ws k with sent:=sn } } d1 tx Vx bK bL l9 WX->Gk tag i b db W R.2.1 R.2.2 R.1 (.returned (.bool true)) ((WX.setCell (b,9+k*15+9) (.bool ((c.ws k).ending||P))).setCell (b,9+k*15+7) (.int .u64 ((max (c.ws k).high f:Nat):Int))):=λtx Vx WX sn cz SX=>by
   have G:=SX.sentHigh hk ((c.ws k).ending||P) (max (c.ws k).high f);simp only[Kp,ze]at G;rw[C.z];rw[AL 15 k]at G;rw[cz]at G;exact G.post true
  have aK:=zb bO;have u:=zb u;have aC:=zb aC;clear bO;obtain⟨h7,bP⟩:=nm ((c.ws k).high);have aE:=zb bP;clear bP;by_cases aF:lo<f
  .as_aux_lemma =>
   have ka:=Ku (c.ws k).sent b (9+15*k+1) lo (f-1) (V.ws k) W9 (u.z.c.sentAt hk OK.z.rl) OK.z.wf I I (by have:=OK.z.fl;unfold zF at this;omega) (λx=>zi.apart u.z.c.tb (u.z.c.tws k hk b x) I rfl) OK.z.most.1 (nC OK.z.most.2);rw[AL 15 k]at ka;have KA:=zb ka;have d1:(lo:Int)<f:=I;have y1:IntKind.u64.wrap ((f:Int)-1)=((f-1:Nat):Int):=by rw[IntKind.wrap_u64];omega
   have cA:=zb aF;clear ka aF;go_wp2_with fail;refine KA.z.mono ?_;intro e Y ha;have a9:=ha;rw[AL k 15]at a9;obtain⟨rfl,tx,Vx,SX⟩:=u.z.sentAdd hk a9 (IN _ _ _);obtain⟨v',_,_,_,aL,_⟩:=ha;have bQ:¬(W2.heap.size=b\/(V.ws k).ownBlock=some W2.heap.size):=by
    rintro(x|x)
    .rw[x,u.z.c.tb]at aD;simp at aD
    rw[u.z.c.tws k hk _ x]at aD;simp at aD
   have aM:zj Y W2.heap.size (Ec k lo P s2) (.slice none 0 0):=aL.obj bQ aC.z;have w9:Y.cell? (b,9+k*15+9)=some (.bool eg):=by
    rw[AL k 15,<-ao.z];exact SX.c.w (j:=9) hk (by simp only[ze];rfl)
   have w7:Y.cell? (b,9+k*15+7)=some (.int .u64 h7):=by
    rw[AL k 15,<-aE.z];exact SX.c.w (j:=7) hk (by simp only[ze];rfl)
   have wf:∀p,Y.frozen? ⟨b,p,none⟩=false:=λp=>SX.c.fz p
   have v5:Y.cell? (W2.heap.size,5)=some (.bool P):=aM.cells.2.2.2.2.2.1;have G:=aK.z tx Vx Y _ (by rw[AQ cA.z]) SX;rw[ao.z,aE.z]at G;clear a9 SX aL aM bQ;rcases CM h7 f with hx|hx|hx;all_goals
    first
     | (have Q:max h7 f=f:=by omega)
     | (have Q:max h7 f=h7:=by omega)
    rw[Q]at G;have HG:=zb G;clear G Q;cases eg;all_goals
     go_wp2_with fail;all_goals first
      | (exfalso;omega)
      | (go_ret;exact HG.z)
      | (go_ret;subst hx;exact HG.z)
  as_aux_lemma =>
  have d1:¬(lo:Int)<f:=I;have w9:W9.cell? (b,9+k*15+9)=some (.bool eg):=by
   rw[AL k 15,<-ao.z];exact u.z.c.w (j:=9) hk rfl
  have w7:W9.cell? (b,9+k*15+7)=some (.int .u64 h7):=by
   rw[AL k 15,<-aE.z];exact u.z.c.w (j:=7) hk rfl
  have wf:∀p,W9.frozen? ⟨b,p,none⟩=false:=λp=>u.z.c.fz p
  have v5:W9.cell? (W2.heap.size,5)=some (.bool P):=aC.z.cells.2.2.2.2.2.1;have G:=aK.z af V W9 _ (by rw[AI aF]) (by
   have:=u.z;have e:{ c with ws:=zf c.ws k { c.ws k with sent:=(c.ws k).sent } }=c:=by
    show{ c with ws:=zf c.ws k (c.ws k) }=c;rw[Fy]
   rw[e];exact this)
  rw[ao.z,aE.z]at G;clear aF;rcases CM h7 f with hx|hx|hx;all_goals
   first
    | (have Q:max h7 f=f:=by omega)
    | (have Q:max h7 f=h7:=by omega)
   rw[Q]at G;have HG:=zb G;clear G Q;cases eg;all_goals
    go_wp2_with fail;all_goals first
     | (exfalso;omega)
     | (go_ret;exact HG.z)
     | (go_ret;subst hx;exact HG.z)
def zR(fn:Nat->Value)(l:List Nat):List Value:=l.flatMap fun(c:Nat)=>[Value.int .i64 c,fn c]
theorem jw(fn:Nat->Value)(l:List Nat){c:Nat}(h:l[i]?=some c):(zR fn l)[i*2]?=some (.int .i64 c)/\(zR fn l)[i*2+1]?=some (fn c):=by
 induction l generalizing i with
 | nil=>cases h
 | cons x l ih =>
  have e:zR fn (x::l)=.int .i64 x::fn x::zR fn l:=rfl;cases i with
  | zero =>
   cases h;exact⟨rfl,rfl⟩
  | succ i =>
   have:=ih (i:=i) h;rw[e,(I:(i+1)*2=i*2+1+1)];exact this
theorem SH(fn:Nat->Value)(l:List Nat):(zR fn l).length=l.length*2:=by
 induction l with
 | nil=>rfl
 | cons x l ih =>
  have e:zR fn (x::l)=.int .i64 x::fn x::zR fn l:=rfl;rw[e,AR,AR,ih,AR];omega
structure EJ(sb:Nat)(fn:Nat->Value)(l:List Nat)(g cap:Nat)(W:World):Prop where
 obj:W.heap[sb]?=some (.cells #[.slice g l.length cap] 268 (0,0))
 own:W.ownsRow 0 266 2 (.slice g l.length cap) l.length (zR fn l)
 ne:g≠sb
 small:l.length<=1024
 fns:∀c,∃f a b,fn c=.func f a b
variable{cap sb:Nat}{fn:Nat->Value}
def EJ.at_{l:List Nat}(h:EJ sb fn l g cap W){c:Nat}(hi:l[i]?=some c):W.cell? (g,i*2)=some (.int .i64 c)/\W.cell? (g,i*2+1)=some (fn c):=by
 obtain⟨h1,h2⟩:=jw fn l hi;have a:=h.own.cells (g:=g) rfl _ _ h1;have b:=h.own.cells (g:=g) rfl _ _ h2;rw[zZ,A6]at a b;exact⟨a,b⟩
def EJ.mod{l:List Nat}(h:EJ sb fn l g cap W)(m:DW S W W')(h1:¬S sb)(h2:¬S g):EJ sb fn l g cap W' :=
 ⟨m.obj h1 h.obj,m.owns h.own (λq a x=>by
  have a:g=q:=by simpa [Value.ownBlock]using a
  rw[<-a]at x;exact h2 x),h.ne,h.small,h.fns⟩
def Qi(a:nI)(n cap:Nat)(w:World):Calls prog 150 #[.slice a n cap] w λe w'=>e=.returned (.int .i64 n)/\w=w':=by
 go_enter func150,ntmps150;go_wp2_with fail;go_ret;exact⟨rfl,rfl⟩
def Nb{l:List Nat}(h:EJ sb fn l g cap W){x y:Nat}(hi:l[i]?=some x)(hk:l[k]?=some y):Calls prog 245 #[.slice g l.length cap,[i],[k]] W λe w'=>e=.returned (.bool (decide (x<y)))/\DW DY W w':=by
 obtain⟨a1,_⟩:=h.at_ hi;obtain⟨b1,_⟩:=h.at_ hk;have hil:(i:Int)<l.length:=nC ((AN.1 hi).1);have hkl:(k:Int)<l.length:=nC ((AN.1 hk).1);have hi0:(0:Int)<=i:=I;have hk0:(0:Int)<=k:=I;clear h hi hk;go_enter func245,ntmps245;go_wp2_with fail;go_quiet (fail);go_wp2_with fail;go_ret;exact⟨mv,(DW.refl DY _).drewN _⟩
def Ot{n:Nat}(h:w.ownsRow 0 e sz (.slice g n cap) n xs)(hj:j<xs.length)(u:Value):(w.setCell (g,j) u).ownsRow 0 e sz (.slice g n cap) n (xs.set j u):=by
 obtain⟨h0,h1⟩:=h;refine⟨by rw[Bg];exact h0,?_⟩;rcases h1 with⟨hx,_⟩|⟨g',a,cur,hv,hb,hg,hn,hm,hs,ht⟩
 .cases hx
 cases hv;refine .inr ⟨g,cap,_,rfl,hb,zc hg,hn,hm,nF hs,?_⟩;rw[Array.toList_setIfInBounds,DO,ht]
theorem WK(fn:Nat->Value)(l:List Nat)(i y:Nat):((zR fn l).set (i*2) (.int .i64 y)).set (i*2+1) (fn y)=zR fn (l.set i y):=by
 induction l generalizing i with
 | nil=>rfl
 | cons x l ih =>
  have e:∀x l,zR fn (x::l)=.int .i64 x::fn x::zR fn l:=λ_ _=>rfl
  cases i with
  | zero=>rfl
  | succ i =>
   rw[e,(I:(i+1)*2=i*2+1+1)];simp only[CT];rw[e,ih i]
def Fi(l:List Nat)(i k:Nat):List Nat:=(l.set i (l.getD k 0)).set k (l.getD i 0)
def PL{l:List Nat}(h:EJ sb fn l g cap W){x y:Nat}(hi:l[i]?=some x)(hk:l[k]?=some y):Calls prog 248 #[.slice g l.length cap,[i],[k]] W λe w'=>e=.returned (.tuple #[])/\EJ sb fn (Fi l i k) g cap w'/\DW (λq=>q=g) W w':=by
 have a:=zb h;obtain⟨a1,a2⟩:=h.at_ hi;obtain⟨b1,z⟩:=h.at_ hk;have hil:(i:Int)<l.length:=nC ((AN.1 hi).1);have f:(k:Int)<l.length:=nC ((AN.1 hk).1);have hi0:(0:Int)<=i:=I;have n:(0:Int)<=k:=I;have hfz:∀j,W.frozen? ⟨g,j,none⟩=false:=λj=>by
  rcases h.own.2 with⟨hx,_⟩|⟨g',A,cur,hv,_,hg,_⟩
  .cases hx
  cases hv;exact zg hg
 obtain⟨f1,v1,u1,o⟩:=h.fns x;obtain⟨f2,v2,u2,r⟩:=h.fns y;rw[o]at a2;rw[r]at z;have s:=zb o;have d:=zb r;have B:=hi;have C:=hk;have t:=zb B;have u:=zb C;clear h hi hk B C o r;have fin:∀W',W'=(((W.setCell (g,i*2) (.int .i64 y)).setCell (g,i*2+1) (fn y)).setCell (g,k*2) (.int .i64 x)).setCell (g,k*2+1) (fn x)->EJ sb fn (Fi l i k) g cap W'/\DW (λq=>q=g) W W':=by
  rintro W' rfl;have hl:(Fi l i k).length=l.length:=by simp[Fi]
  have m:DW (λq=>q=g) W ((((W.setCell (g,i*2) (.int .i64 y)).setCell (g,i*2+1) (fn y)).setCell (g,k*2) (.int .i64 x)).setCell (g,k*2+1) (fn x)) :=
   ((((DW.refl (λq=>q=g) W).setCell (p:=(g,i*2)) (.inl rfl) _).setCell (p:=(g,i*2+1)) (.inl rfl) _).setCell (p:=(g,k*2)) (.inl rfl) _).setCell (p:=(g,k*2+1)) (.inl rfl) _
  have D:=(AN.1 t.z).1;have E:=(AN.1 u.z).1;have sl:=SH fn l;have o1:=Ot a.z.own (j:=i*2) I (.int .i64 y);have G:=Ot o1 (j:=i*2+1) (by rw[Bg];omega) (fn y);rw[WK]at G;have v:=SH fn (l.set i y);rw[Bg]at v;have o3:=Ot G (j:=k*2) I (.int .i64 x);have H:=Ot o3 (j:=k*2+1) (by rw[Bg];omega) (fn x);rw[WK]at H;have e:Fi l i k=(l.set i y).set k x:=by
   simp[Fi,Ak,t.z,u.z]
  refine⟨⟨?_,?_,a.z.ne,by rw[hl];exact a.z.small,a.z.fns⟩,m⟩
  .rw[hl];exact m.obj (λx=>a.z.ne x.symm) a.z.obj
  rw[hl,e];exact H
 have b:=zb fin;clear fin;by_cases c:i=k
 .subst c;have w:x=y:=by
   have:=t.z;rw[u.z]at this;exact(Bt this).symm
  subst w;rw[s.z]at d;have HEY:=d;clear b1 z f n d;go_enter func248,ntmps248;go_wp2_with fail
  go_region
  go_wp2_with fail;refine bodyPost_end (results_none rfl _ _ _) rfl ⟨rfl,?_⟩;have F:=b.z _ rfl;rw[s.z]at F;exact⟨F.1.mod ((DW.refl DY _).drew) (λx=>x) (λx=>x),F.2.drew⟩
 have n1:¬i*2=k*2:=I;have n2:¬k*2=i*2:=I;have n3:¬i*2+1=k*2:=I;have n4:¬k*2=i*2+1:=I;have n5:¬k*2+1=i*2:=I;have n6:¬i*2=k*2+1:=I;clear c;go_enter func248,ntmps248;go_wp2_with fail
 go_region
 go_wp2_with fail;refine bodyPost_end (results_none rfl _ _ _) rfl ⟨rfl,?_⟩;have F:=b.z _ rfl;rw[s.z,d.z]at F;exact⟨F.1.mod ((DW.refl DY _).drew) (λx=>x) (λx=>x),F.2.drew⟩
def hI(sb:Nat):Value:=.iface 263 (.pointer sb)
def Ms(c0:w.cell? sb=some v)(f:FuncId):(do let v <-loadVar 268 ⟨sb,0,none⟩;pure (f,v):Sem (FuncId×Value)).run prog w=.ok (f,v) w:=by
 have e2:(isAgg 268).run prog w=.ok false w:=mr;simp[loadVar,e2,c0,Result.andThen]
def M7(c0:w.cell? sb=some v):(method 451 263 (.pointer (some ⟨sb, 0, none⟩)) "Less").run prog w=.ok (245, v) w :=
 Eq.trans (show _=(do let v <-loadVar 268 ⟨sb,0,none⟩;pure (245,v):Sem (FuncId×Value)).run prog w by kernel_rfl) (Ms c0 _)
def Ol(c0:w.cell? sb=some v):(method 451 263 (.pointer (some ⟨sb, 0, none⟩)) "Swap").run prog w=.ok (248, v) w :=
 Eq.trans (show _=(do let v <-loadVar 268 ⟨sb,0,none⟩;pure (248,v):Sem (FuncId×Value)).run prog w by kernel_rfl) (Ms c0 _)
def J3(c0:w.cell? sb=some v):(method 451 263 (.pointer (some ⟨sb, 0, none⟩)) "Len").run prog w=.ok (150, v) w :=
 Eq.trans (show _=(do let v <-loadVar 268 ⟨sb,0,none⟩;pure (150,v):Sem (FuncId×Value)).run prog w by kernel_rfl) (Ms c0 _)
def LR(a:Nat)(w:World):(method 451 263 (.pointer (some ⟨a, 0, none⟩)) "Push").run prog w=.ok (247, .pointer (some ⟨a, 0, none⟩)) w := mr
def OD(a:Nat)(w:World):(method 451 263 (.pointer (some ⟨a, 0, none⟩)) "Pop").run prog w=.ok (246, .pointer (some ⟨a, 0, none⟩)) w := mr
def EJ.c0{l:List Nat}(h:EJ sb fn l g cap W):W.cell? sb=some (.slice g l.length cap):=za h.obj rfl
def ju:(prog.info? 266).map (λi=>(i.zero,i.size,i.bytes))=some (some (.agg #[.int .i64 0,.nilFunc]),2,16):=mr
def De{l:List Nat}(h:EJ sb fn l g cap w)(c:Nat)(hl:l.length<1024):∃v' w' g' cap',(∀ty,(Builtin.append_ #[268,268] ty #[.slice g l.length cap,.slice w.heap.size 1 1]).run prog (w.alloc (.cells #[[c],fn c] 266))=.ok v' w') /\
   v'=.slice (some ⟨g',0,none⟩) (l.length+1) cap'/\w'.ownsRow 0 266 2 v' (l.length+1) (zR fn (l++[c]))/\w.grownBy w' (some g)/\(g'=g\/w.heap.size<=g'):=by
 obtain⟨i,d,hz,e,f⟩:=info_parts ju;have sl:=SH fn l;obtain⟨f1,a1,b1,ef⟩:=h.fns c;have e1:zR fn [c]=[.int .i64 c,fn c]:=rfl;have a:∀(j:Nat) u,(zR fn [c])[j]?=some u->(w.alloc (.cells #[[c],fn c] 266)).cell? ((⟨w.heap.size,0,none⟩:Addr).add j)=some u:=by
  intro j u hj;rw[zZ];refine za (heap_alloc_new w _) ?_;rw[A6,<-Array.getElem?_toList];exact hj
 have hg:g<w.heap.size:=by
  rcases h.own.2 with⟨hx,_⟩|⟨g',cap',m,b,_,hg,_⟩
  .cases hx
  cases b;exact(AH.1 hg).1
 obtain⟨v',w',h1,h2,h3,h4,h5⟩:=K3 (P:=prog) (w.alloc (.cells #[[c],fn c] 266)) 268 266 i _ 2 16 underlying268 d hz e f rfl mu (.slice g l.length cap) l.length (zR fn l) (World.ownsRow.alloc h.own _)
  ⟨w.heap.size,0,none⟩ 1 1 (zR fn [c]) rfl a (by rw[e1,ef];intro u n;simp at n;rcases n with rfl|rfl<;>rfl) mz I
 have e2:zR fn l++zR fn [c]=zR fn (l++[c]):=by simp[zR]
 rw[e2]at h2;rcases h2.2 with⟨hx,hy⟩|⟨g',cap',m,b,hb,hg',o,hm,hs,ht⟩
 .exact absurd hy I
 refine⟨v',w',g',cap',h1,b,h2,⟨h3.os,h3.tape,h3.output,AJ mv h3.size,λk hk o=>(h3.block k my o).trans (Below.heap_alloc w _ k hk)⟩,?_⟩;rcases h4 g' (by rw[b];rfl)with x|x
 .left;have:g=g':=by simpa [Value.ownBlock]using x
  exact this.symm
 right;simp at x;omega
def QD(a:Nat)(fn:Nat->Value)(l:List Nat)(c g:Nat)(W:World)(e:Ending)(w':World):Prop :=
 e=.returned (.tuple #[])/\∃g' cap',EJ a fn (l++[c]) g' cap' w'/\(g'=g\/W.heap.size<=g')/\DW (λq=>q=a\/q=g) W w'
def fY{l:List Nat}(h:EJ sb fn l g cap W)(c:Nat)(hl:l.length<1024):Calls prog 247 #[(sb,0),.iface 266 (.agg #[.int .i64 c,fn c])] W (QD sb fn l c g W):=by
 obtain⟨v',w',n,a,z,hv,f,r,b⟩:=De (h.mod ((DW.refl DY W).drew) (λx=>x) (λx=>x)) c hl;subst hv;have d:=((DW.refl (λq=>q=g) W).drew).grown r (λq k=>.inl (nF k.symm));have s:=d.obj (λx=>h.ne x.symm) h.obj;have hsb:=(AH.1 h.obj).1;have m:n≠sb:=by
  rcases b with x|x
  .rw[x];exact h.ne
  simp at x;omega
 have fin:QD sb fn l c g W (.returned (.tuple #[])) (w'.setCell sb (.slice n (l.length+1) a)):=by
  have A:DW (λq=>q=sb) w' (w'.setCell sb (.slice n (l.length+1) a)):=(DW.refl (λq=>q=sb) _).setCell (p:=sb) (.inl rfl) _;refine⟨rfl,n,a,⟨?_,?_,m,by rw[AG,Af];omega,h.fns⟩,nF b,(d.mono (λ_ x=>.inl (.inr x))).then A (λ_ k=>.inl (.inl k))⟩
  .rw[zc s,AG,Af];rfl
  rw[AG,Af];exact A.owns f (λq k x=>by
   have k:n=q:=by simpa [Value.ownBlock]using k
   exact m (k.trans x))
 have y:=zb fin;have HR:=zb z;have c0:=h.c0;have B:=zb h;have c1:w'.cell? sb=some (.slice g l.length cap):=za s rfl;have t:=zb s;have f1:∀j,w'.frozen? ⟨sb,j,none⟩=false:=λj=>zg s
 obtain⟨fa,fb,fc,u⟩:=h.fns c;have EFN:=zb u;clear fin z d s h f r b m c1 u;have hta:∀(v:Value) (w:World),(Instr.typeAssert (.iface 266 v) 20 266 false).run prog w=.ok v w:=λ_ _=>mr
 go_enter func247,ntmps247;go_wp2_with fail;refine zo 9 (λw'=>w'.heap[sb]?=some (.cells #[.slice g l.length cap] 268 (0,0))) (B.z.obj) ?_;refine GI 0 ?_;iterate 6
  refine GS rfl ?_ ?_ ?_;rotate_left
  ·(intro wx e;(try dsimp only at e);have c0:=za (o:=0) e rfl;go_simp;try with_reducible rfl)
  try simp only[PS]
 refine zE 6 rfl (λK i=>?_);go_simp;refine i.z _ _ (((DW.refl DY W).drew.alloc _).obj (λx=>x) B.z.obj) ?_;clear i K;try simp only[PS]
 refine zE 7 rfl (λK i=>?_);refine zS rfl _ _ _ _ rfl _ _ _ rfl rfl HR.z ?_;refine i.z _ _ t.z ?_;clear i K;try simp only[PS]
 refine GI 8 ?_;refine GS rfl ?_ ?_ ?_;rotate_left
 ·(intro wx e;(try dsimp only at e);have c0:=za (o:=0) e rfl;go_simp;try with_reducible rfl)
 try simp only[PS]
 have c1:w'.cell? sb=some (.slice g l.length cap):=za t.z rfl;refine EX rfl (λK i=>?_);go_simp;refine i.z _ _ ?_;clear i K;try simp only[PS]
 refine zr ?_;exact bodyPost_end (results_none rfl _ _ _) rfl y.z
variable{p:Nat}
def fX{l:List Nat}(h:EJ sb fn l g cap W){x y:Nat}(a:l[j]?=some y)(hp:(j-1) / 2=p)(hx:l[p]?=some x)(hle:x<=y)(h1:1<=j):Calls prog 198 #[hI sb,[j]] W λe W'=>e=.returned (.tuple #[])/\DW DY W W':=by
 have hjl:=(AN.1 a).1;have hs:=h.small;have q1:IntKind.i64.wrap ((j:Int)-1)=(j:Int)-1:=IntWalk.i64_in _ I;have q2:((j:Int)-1).tdiv 2=(p:Int):=by
  rw[Int.tdiv_eq_ediv_of_nonneg I];omega
 have hne:((p:Int)==(j:Int))=false:=AS.2 I;have HH:=zb h;have HJ:=zb a;have HX:=zb hx;clear h a hx;unfold hI;go_enter func198,ntmps198;go_wp2_with fail
 go_loopw [1] (λjv wr=>jv=.int .i64 j/\DW DY W wr) (λ_ _=>0)
 case atStart=>exact⟨rfl,DW.refl _ _⟩
 case round =>
  obtain⟨rfl,m⟩:=hrel;have h:=HH.z.mod m (λx=>x) (λx=>x);have hm:=M7 h.c0;have b:=Nb h HJ.z HX.z;have c:decide (y<x)=false:=my;rw[c]at b;have KL:=zb b;have M:=zb m;clear h b c m;go_wp2_with (refine KL.z.mono ?_;rintro e w2 ⟨rfl,d⟩;have M2:=zb d;clear d);exact bodyPost_end (results_none rfl _ _ _) rfl ⟨rfl,M.z.trans M2.z⟩
def jS{l:List Nat}(h:EJ sb fn l g cap W)(c:Nat)(hl:l.length<1024)(h1:1<=l.length)(b:∀x∈l,x<=c):Calls prog 147 #[hI sb,.iface 266 (.agg #[.int .i64 c,fn c])] W (QD sb fn l c g W):=by
 have hm:=LR sb W;have n:=fY h c hl;have KP:=zb n;have d:=zb b;clear h n b;unfold hI;go_enter func147,ntmps147;go_upto_region 1 with(refine KP.z.mono ?_;rintro e w2 ⟨rfl,o,a,h2,hg,q⟩;have i:=zb h2;have HG:=zb hg;have M2:=zb q;clear h2 hg q);have k:=J3 i.z.c0;have r:=Qi (some ⟨o,0,none⟩) (l++[c]).length a w2;have m:(l++[c]).length=l.length+1:=mv;have HE1:=zb m;have f:(l.length-1) / 2<l.length:=I;have s:=fX i.z (j:=l.length) (p:=(l.length-1) / 2) (x:=(l[(l.length-1) / 2]'f)) (y:=c) mv rfl (by rw[Ao f,AK f]) (d.z _ (DF f)) h1;have q1:IntKind.i64.wrap (((l.length+1:Nat):Int)-1)=(l.length:Int):=by rw[IntWalk.i64_in _ I];omega
 have t:=zb s;unfold hI at t;rw[m]at k r;clear s hm m d;go_wp2_with (first|(refine r.mono ?_;rintro _ _ ⟨rfl,rfl⟩;(try simp only[q1]))|(refine t.z.mono ?_;rintro e w3 ⟨rfl,u⟩));exact bodyPost_end (results_none rfl _ _ _) rfl ⟨rfl,o,a,i.z.mod u (λx=>x) (λx=>x),HG.z,M2.z.trans (u.mono (λ_ x=>x.elim))⟩
def fW{n:Nat}(h:w.ownsRow 0 e sz (.slice g n cap) n xs)(hm:m<=n):w.ownsRow 0 e sz (.slice g m cap) m (xs.take (m*sz)):=by
 obtain⟨h0,h1⟩:=h;have a:m*sz<=n*sz:=B8 _ hm;refine⟨by rw[AU];omega,?_⟩;rcases h1 with⟨hx,_⟩|⟨g',d,b,hv,hb,hg,hn,c,hs,ht⟩
 .cases hx
 cases hv;exact .inr ⟨g,cap,b,rfl,hb,hg,I,c,hs,by rw[<-ht,Bf,BZ a]⟩
theorem lp(fn:Nat->Value)(l:List Nat)(m:Nat):(zR fn l).take (m*2)=zR fn (l.take m):=by
 induction l generalizing m with
 | nil=>simp[zR]
 | cons x l ih =>
  have e:∀x l,zR fn (x::l)=.int .i64 x::fn x::zR fn l:=λ_ _=>rfl
  cases m with
  | zero=>simp[zR]
  | succ m =>
   rw[e,(I:(m+1)*2=m*2+1+1)];simp only[Ch];rw[e,ih m]
def gX{l:List Nat}{c:Nat}(h:EJ sb fn (l++[c]) g cap W):Calls prog 246 #[(sb,0)] W λe w'=>e=.returned (.iface 266 (.agg #[.int .i64 c,fn c]))/\EJ sb fn l g cap w'/\DW (λq=>q=sb) W w':=by
 have b:(l++[c]).length=l.length+1:=mv;have c0:=h.c0;obtain⟨k1,k2⟩:=h.at_ (i:=l.length) (c:=c) mv;have hs:=h.small;rw[b]at c0 hs;have hsb:=(AH.1 h.obj).1;have hg:g<W.heap.size:=by
  rcases h.own.2 with⟨hx,_⟩|⟨g',a,d,f,_,hg,_⟩
  .cases hx
  cases f;exact(AH.1 hg).1
 have r:l.length+1<=cap:=by
  rcases h.own.2 with⟨hx,_⟩|⟨g',a,d,f,_,hg,s,_⟩
  .cases hx
  cases f;rw[b]at s;exact s
 obtain⟨f1,a1,b1,j⟩:=h.fns c;have fin:∀w':World,DW DY W w'->EJ sb fn l g cap (w'.setCell sb (.slice g l.length cap))/\DW (λq=>q=sb) W (w'.setCell sb (.slice g l.length cap)):=λw' m=>by
  have t:=h.mod m (λx=>x) (λx=>x);have u:DW (λq=>q=sb) w' (w'.setCell sb (.slice g l.length cap)):=(DW.refl (λq=>q=sb) _).setCell (p:=sb) (.inl rfl) _;refine⟨⟨by rw[zc t.obj];rfl,?_,h.ne,I,h.fns⟩,(m.mono (λ_ x=>x.elim)).trans u⟩;have o:=fW (m:=l.length) t.own (by rw[b];omega);rw[lp,BT]at o;exact u.owns o (λq k x=>by
   have k:g=q:=by simpa [Value.ownBlock]using k
   exact h.ne (k.trans x))
 have n:=zb fin;have HE:=zb j;rw[j]at k2 ⊢;have HO:=zb h.obj;have q1:IntKind.i64.wrap ((l.length+1:Int)-1)=(l.length:Int):=by rw[IntWalk.i64_in _ I];omega
 have hfz:W.frozen? ⟨sb,0,none⟩=false:=zg h.obj;clear h fin j b;go_enter func246,ntmps246;go_wp2_with fail;go_ret;have F:=n.z W (DW.refl _ _);exact⟨rfl,F.1.mod ((DW.refl DY _).alloc _) (λx=>x) (λx=>x),F.2.alloc _⟩
end
end Go.Proofs.YtddfdpbaiedcjaaGreatDoor
