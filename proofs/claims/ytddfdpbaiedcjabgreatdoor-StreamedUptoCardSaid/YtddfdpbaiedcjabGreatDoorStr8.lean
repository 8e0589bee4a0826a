/- Streamed. Part 8 of 17. -/
import Derived.Test.YtddfdpbaiedcjabGreatDoorStr7
import Derived.Shelf.RegionOpen
set_option maxRecDepth 100000
set_option maxHeartbeats 16000000
set_option linter.all false
namespace Go.Proofs.YtddfdpbaiedcjabGreatDoor
section
open Go.RowKit Go.Proofs.Tryz
def iD:(prog.info? 44).map (λi=>(i.zero,i.size,i.bytes))=some (some (.slice none 0 0),1,24):=kw
def iC:(prog.info? 166).map (λi=>(i.zero,i.size,i.bytes))=some (some (.agg #[.int .u64 0,.int .u64 0,.slice none 0 0]),3,40):=kw
def Wn(w:rT)(v:rU)(e:qt)(a:qs)(n c:Nat)(h:w.ownsRow 0 44 1 v e.length e)(g:e.length<=1099511627776):∃m w',(∀g,(Builtin.append_ #[112,112] g #[v,.slice w 1 1]).run prog (w.alloc (.cells #[.slice a n c] 44))=.ok m w') /\
   w'.ownsRow 0 44 1 m (e.length+1) (e++[.slice a n c])/\w.grownBy w' v.ownBlock/\Dh w v m:=by
 obtain⟨i,y,C,z,A⟩:=info_parts iD;have g:∀(j:Nat) u,([Value.slice a n c])[j]?=some u->(w.alloc<|.cells #[.slice a n c] 44) ((⟨w.heap.size,0,none⟩:Addr).add j)=some u:=by
  intro j u D;rw[EU];refine za (heap_alloc_new w _) ?_;rw[An,<-Array.getElem?_toList];exact D
 obtain⟨m,w',E,G,q,K,D⟩:=KZ (P:=prog) (w.alloc<|.cells #[.slice a n c] 44) 112 44 i _ 1 24 underlying112 y C z A rfl lc v e.length e (World.ownsRow.alloc h _)
  ⟨w.heap.size,0,none⟩ 1 1 [.slice a n c] rfl g (by intro u B;simp at B;rcases B with rfl;rfl) pi I
 refine⟨m,w',E,G,?_,?_⟩
 .exact⟨q.os,q.tape,q.output,AR nl q.size,λk a e=>(q.block k ol e).trans<|Below.heap_alloc w _ k a⟩
 intro k a;rcases K k a with x|x
 .exact .inl x
 exact .inr<|by simp at x;omega
def Wm(w:rT)(v:rU)(e:List (DI×rU))(f:DI)(a:qs)(n c:Nat)(h:w.ownsRow 0 166 3 v e.length (zF e))(g:e.length<=1099511627776):∃m w',(∀g,(Builtin.append_ #[145,145] g #[v,.slice w 1 1]).run prog (w.alloc (.cells #[f.n,f.at_,.slice a n c] 166))=.ok m w') /\
   w'.ownsRow 0 166 3 m (e.length+1) (zF<|e++[(f,.slice a n c)])/\w.grownBy w' v.ownBlock/\Dh w v m:=by
 obtain⟨i,y,D,z,A⟩:=info_parts iC;have E:zF [(f,.slice a n c)]=[.int .u64 f.n,.int .u64 f.at_,.slice a n c]:=rfl;have g:∀(j:Nat) u,(zF [(f,.slice a n c)])[j]?=some u->(w.alloc<|.cells #[f.n,f.at_,.slice a n c] 166) ((⟨w.heap.size,0,none⟩:Addr).add j)=some u:=by
  intro j u G;rw[EU];refine za (heap_alloc_new w _) ?_;rw[An,<-Array.getElem?_toList];exact G
 obtain⟨m,w',K,B,q,L,G⟩:=KZ (P:=prog) (w.alloc<|.cells #[f.n,f.at_,.slice a n c] 166) 145 166 i _ 3 40 underlying145 y D z A rfl lc v e.length (zF e) (World.ownsRow.alloc h _)
  ⟨w.heap.size,0,none⟩ 1 1 (zF [(f,.slice a n c)]) rfl g (by rw[E];intro u C;simp at C;rcases C with rfl|rfl|rfl<;>rfl) pi I
 have g:zF e++zF [(f,.slice a n c)]=zF (e++[(f,.slice a n c)]):=by simp[zF]
 rw[g]at B;refine⟨m,w',K,B,?_,?_⟩
 .exact⟨q.os,q.tape,q.output,AR nl q.size,λk a e=>(q.block k ol e).trans<|Below.heap_alloc w _ k a⟩
 intro k a;rcases L k a with x|x
 .exact .inl x
 exact .inr<|by simp at x;omega
variable{V:CV}{W:rT}{b i:Nat}{c:CS}{tag tag':qr}
def zn.nz(h:zn tag i b c V W)(m:∀g r,r<90->tag g=(i,r)->tag' g=(i,r)):zn tag' i b c V W:=by
 have e:∀{g r:Nat},tag g=(i,r)->r<90->tag' g=(i,r):=λa n=>m _ _ n a
 exact
  {obj:=h.obj
   tb:=e h.tb lc
   kN:=h.kN
   tg:=e h.tg lc
   nW:=λg a=>e (h.nW g a) lc
   wb:=h.wb
   ws:=h.ws
   wc:=h.wc
   rb:=h.rb
   rc:=h.rc
   nK:=λk m g a=>e (h.nK k m g a) I
   nC:=λk m g a=>e (h.nC k m g a) I
   nJ:=λk m g a=>e (h.nJ k m g a) I
   nV:=λk m g a=>e (h.nV k m g a) I
   nU:=λk m g a=>e (h.nU k m g a) I
   ft:=h.ft
   fl:=h.fl
   fs:=λp m=>(h.fs p m).mod (C9.refl DA W) rQ<|λg a=>e a lc
   nF:=λg a=>e (h.nF g a) lc
   wt:=h.wt
   nE:=λg a=>e (h.nE g a) lc
   sn:=h.sn
   nT:=e h.nT lc
   cm:=h.cm
   nN:=λg a=>e (h.nN g a) lc
   ou:=h.ou }
structure Fd(tag:qr)(W0 W:rT)(ov:rU)(vs:qt)(bs:List qq):Prop where
 own:W.ownsRow 0 44 1 ov vs.length vs
 pd:∀g,ov.ownBlock=some g->W0.heap.size<=g/\tag g=(0,0)
 len:vs.length=bs.length
 each:∀(k:Nat) (v:rU) (l:qq),vs[k]?=some v->bs[k]?=some l->OB W v l/\∀g,v.ownBlock=some g->W0.heap.size<=g/\tag g=(0,0)
 apart:∀(j k:Nat) (u v:rU),j<k->vs[j]?=some u->vs[k]?=some v->∀g,u.ownBlock=some g->v.ownBlock≠some g
def Fd.nil(tag:qr)(W0 W:rT):Fd tag W0 W rV [] [] :=
 ⟨World.ownsRow_nil _ 0 _ 1,(λg a=>by cases a),rfl,(λk v l a _=>by simp at a),(λj k u v _ a _=>by simp at a)⟩
variable{S:Nat->Prop}{W' W0:rT}{ov:rU}{vs:qt}
def Fd.mod{a:List qq}(h:Fd tag W0 W ov vs a)(m:C9 S W W')(u:∀g,S g->tag g≠(0,0))(n:∀g,g<W.heap.size->tag g=(0,0)->tag' g=(0,0)):Fd tag' W0 W' ov vs a:=by
 have q:∀g,tag g=(0,0)->¬S g:=λg e x=>u g x e
 refine⟨m.owns h.own<|λg e=>q g (h.pd g e).2,λg e=>⟨(h.pd g e).1,n g (zI h.own g e) (h.pd g e).2⟩,h.len,λk v l u y=>?_,h.apart⟩;obtain⟨a,b⟩:=h.each k v l u y;exact⟨m.owns a<|λg e=>q g (b g e).2,λg e=>⟨(b g e).1,n g (zI a g e) (b g e).2⟩⟩
variable{l:qq}{v:rU}
def Fd.push{a:rU}{L:List qq}(h:Fd tag W0 W ov vs L)(m:C9 (λg=>ov.ownBlock=some g) W W')(E:W0.heap.size<=W.heap.size)(N:W'.ownsRow 0 44 1 a (vs.length+1) (vs++[v]))(O:Dh W ov a)(R:OB W v l)
  (hb:∀g,v.ownBlock=some g->W0.heap.size<=g/\tag' g=(0,0)) (C:∀g,v.ownBlock=some g->ov.ownBlock≠some g) (D:∀(k:Nat) (u:rU),vs[k]?=some u->∀g,u.ownBlock=some g->v.ownBlock≠some g) (M:∀g,g<W.heap.size->tag g=(0,0)->tag' g=(0,0)) (E:∀g,W.heap.size<=g->tag' g=(0,0)) (G:∀(k:Nat) (u:rU),vs[k]?=some u->∀g,u.ownBlock=some g->ov.ownBlock≠some g):Fd tag' W0 W' a (vs++[v]) (L++[l]):=by
 refine⟨by rw[AF,Ak];exact N,λg y=>?_,by simp[h.len],λk u L n A=>?_,λj k u X K n e=>?_⟩
 .rcases O g y with x|x
  .exact⟨(h.pd g x).1,M g (zI h.own g x) (h.pd g x).2⟩
  exact⟨I,E g x⟩
 .by_cases B:k<vs.length
  .rw[Ag B]at n;rw[Ag (by rw[<-h.len];exact B)]at A;obtain⟨a,b⟩:=h.each k u L n A;exact⟨m.owns a<|λg y x=>G k u n g y x,λg y=>⟨(b g y).1,M g (zI a g y) (b g y).2⟩⟩
  have q:=(AO.1 n).1;rw[AF,Ak]at q;have z:k=vs.length:=I;subst z;rw[Ac (AI _)]at n;rw[h.len,Ac (AI _)]at A;simp at n A;subst n;subst A;exact⟨m.owns R<|λg y x=>C g y x,hb⟩
 have q:=(AO.1 e).1;rw[AF,Ak]at q;rw[Ag I]at n;by_cases B:k<vs.length
 .rw[Ag B]at e;exact h.apart j k u X K n e
 have z:k=vs.length:=I;subst z;rw[Ac (AI _)]at e;simp at e;subst e;exact D j u n
def CS.kJ(c:CS):DJ:=⟨zV c.next,[],c.kj,false,false⟩
def zB(d:DJ)(l:zE):DJ×zE:=if l=[]then(d,l)else Gx d l
def CS.kM(c:CS)(d:DJ):CS×DJ:=if c.kB.length<12 then c.fill d else(c,d)
def CS.lQ(c:CS)(d:DJ):CS:={ c with kB:=if d.kX then c.kB++[⟨c.next,c.now,d.fs⟩]else c.kB,next:=c.next+1 }
def Fs(l:qq):qq:=l++EP (Dz l)
def CS.mI:Nat->CS->zE->List qq×CS
 | 0,c,_=>([],c)
 | n+1,c,l =>
  if (c.kM (zB c.kJ l).1).2.fs=[]then([],(c.kM (zB c.kJ l).1).1)
  else(Fs (c.kM (zB c.kJ l).1).2.b::(CS.mI n ((c.kM (zB c.kJ l).1).1.lQ (c.kM (zB c.kJ l).1).2) (zB c.kJ l).2).1,
   (CS.mI n ((c.kM (zB c.kJ l).1).1.lQ (c.kM (zB c.kJ l).1).2) (zB c.kJ l).2).2)
def CS.lS(c:CS):List qq×CS:=CS.mI (12-c.kB.length+c.lK.1.length+1) c.lK.2 c.lK.1
variable{q:Nat}
theorem Pd(g:q<10):∀n (c:CS) (d:DJ),c.Ok->d.Ok->(CS.lP q n c d).1.Ok/\(CS.lP q n c d).2.Ok/\(CS.lP q n c d).2.room=d.room/\((CS.lP q n c d).2.kX=true\/(CS.lP q n c d).2.fs=d.fs)/\(d.kX=true->(CS.lP q n c d).2.kX=true)/\(d.fs≠[]->(CS.lP q n c d).2.fs≠[]) /\
  ((CS.lP q n c d).1.next=c.next/\(CS.lP q n c d).1.now=c.now/\(CS.lP q n c d).1.closed=c.closed/\(CS.lP q n c d).1.kB=c.kB/\(CS.lP q n c d).1.kj=c.kj/\(CS.lP q n c d).1.answer=c.answer/\(CS.lP q n c d).1.kN=c.kN):=by
 intro n
 induction n with
 | zero=>intro c d e hd;exact⟨e,hd,rfl,.inr rfl,id,id,⟨rfl,rfl,rfl,rfl,rfl,rfl,rfl⟩⟩
 | succ n ih =>
  intro c d e hd;have a:=Nt (d:=d) e g;have g:=a.qh hd;unfold CS.lP;split
  .rename_i e;obtain⟨f,_,m,h⟩:=a.yes e;obtain⟨_,n,y,_,u,_⟩:=DJ.lz h;have h:(c.put d q).2.2.kX=true:=by
    rw[u];simp[m]
   obtain⟨u,y,z,C,m,A,B⟩:=ih _ _ a.ok g.1;obtain⟨C,D,E,G,K,L,M⟩:=a.next;obtain⟨N,O,R,X,Y,Z,y7⟩:=B;exact⟨u,y,z.trans g.2.1,.inl<|m h,λ_=>m h,λ_=>A<|by rw[n];simp,N.trans C,O.trans D,R.trans E,X.trans G,Y.trans K,Z.trans L,y7.trans M⟩
  rename_i e;have h:(c.put d q).1=false:=qp e;obtain⟨e,m⟩:=a.no h;have e:(c.put d q).2.2.fs=d.fs/\(c.put d q).2.2.kX=d.kX:=by
   rcases m with e|e
   .rw[e];exact rM
   rw[e];exact rM
  exact⟨a.ok,g.1,g.2.1,.inr e.1,λh=>by rw[e.2];exact h,λh=>by rw[e.1];exact h,a.next⟩
theorem P2:∀n (c:CS) (d:DJ),n<=10->c.Ok->d.Ok->(CS.lB n c d).1.Ok/\(CS.lB n c d).2.Ok/\(CS.lB n c d).2.room=d.room/\((CS.lB n c d).2.kX=true\/(CS.lB n c d).2.fs=d.fs)/\(d.kX=true->(CS.lB n c d).2.kX=true)/\(d.fs≠[]->(CS.lB n c d).2.fs≠[]) /\
  ((CS.lB n c d).1.next=c.next/\(CS.lB n c d).1.now=c.now/\(CS.lB n c d).1.closed=c.closed/\(CS.lB n c d).1.kB=c.kB/\(CS.lB n c d).1.kj=c.kj/\(CS.lB n c d).1.answer=c.answer/\(CS.lB n c d).1.kN=c.kN):=by
 intro n
 induction n with
 | zero=>intro c d _ e hd;exact⟨e,hd,rfl,.inr rfl,id,id,⟨rfl,rfl,rfl,rfl,rfl,rfl,rfl⟩⟩
 | succ n ih =>
  intro c d a e hd;obtain⟨h,m,u,a,y,z,A,B,C,D,E,G,K⟩:=Pd (q:=9-n) I (d.room+1) c d e hd;obtain⟨n,q,L,e,g,M,N,O,R,X,Y,Z,y7⟩:=ih _ _ I h m;unfold CS.lB;refine⟨n,q,L.trans u,?_,λh=>g<|y h,λh=>M<|z h,N.trans A,O.trans B,R.trans C,X.trans D,Y.trans E,Z.trans G,y7.trans K⟩;rcases a with a|a
  .exact .inl (g a)
  rcases e with e|e
  .exact .inl e
  exact .inr<|e.trans a
structure FM(tag:qr)(i b:Nat)(W0:rT)(c:CS)(told:zE)(outs:List qq)(tag':qr)(V:CV)(vs:qt)(ov tv:rU)(W:rT):Prop where
 c:zn tag' i b c V W
 e:DK i tag tag' W0 W
 m:C9 (Da i tag) W0 W
 o:Fd tag' W0 W ov vs outs
 t:FR tag' (i,5) W tv told
 p:0<i
structure Eo(tag:qr)(i b db:Nat)(W0:rT)(c:CS)(d:DJ)(told:zE)(outs:List qq)(tag':qr)(V:CV)(bv fv:rU)(l:List (DF×rU))(vs:qt)(ov tv:rU)(W:rT):Prop where
 s:zW tag i b db W0 c d tag' V bv fv l W
 o:Fd tag' W0 W ov vs outs
 t:FR tag' (i,5) W tv told
variable{W1 W2:rT}{c':CS}{d d':DJ}{db:Nat}
def zW.comp{a e:qr}{A y:CV}{q u g m:rU}{B z:List (DF×rU)}(h:zW tag i b db W c d a A q u B W1)(n:zW a i b db W1 c' d' e y g m z W2):zW tag i b db W c' d' e y g m z W2:=⟨n.c,n.d,h.e.trans n.e h.m.size,Ek h.e h.m n.m,h.p⟩
def Fd.qH{a:List qq}(h:Fd tag W0 W ov vs a)(hi:0<i)(e:DK i tag tag' W W')(m:C9 (Da i tag) W W'):Fd tag' W0 W' ov vs a :=
 h.mod m.pF (λg a x=>by rw[x]at a;have a:(0:Nat)=i:=a;omega) (λg a x=>by rw[e.lH g a,x])
variable{bv fv tv:rU}{outs:List qq}{told:zE}
def Eo.kI{l:List (DF×rU)}(h:Eo tag i b db W0 c d told outs tag' V bv fv l vs ov tv W)(m:C9 DA W W'):Eo tag i b db W0 c d told outs tag' V bv fv l vs ov tv W' :=
 ⟨h.s.kI m,h.o.mod m rQ<|λ_ _ x=>x,h.t.mod m rQ<|λ_ x=>x⟩
def Eo.tell{a:zE}{l:List (DF×rU)}{e:Ending}(h:Eo tag i b db W0 c d told outs tag' V bv fv l vs ov tv W)(z:OA tag' i b db W c d' a e W'):∃v g q m n u,e=.returned v/\Eo tag i b db W0 c d' a outs g q m n u vs ov v W':=by
 obtain⟨v,g,q,m,n,u,rfl,A,y⟩:=z;exact⟨v,g,q,m,n,u,rfl,h.s.comp y,h.o.qH h.s.p y.e y.m,A⟩
def Eo.fill{l:List (DF×rU)}{e:Ending}(h:Eo tag i b db W0 c d told outs tag' V bv fv l vs ov tv W)(y:SM tag' i b db W c' d' e W'):e=.returned (.tuple #[])/\∃a q g m u,Eo tag i b db W0 c' d' told outs a q g m u vs ov tv W':=by
 obtain⟨rfl,a,q,g,m,u,n⟩:=y;exact⟨rfl,a,q,g,m,u,h.s.comp n,h.o.qH h.s.p n.e n.m,h.t.mod n.m (λg a x=>a.2<|by rw[x])<|λg a=>by rw[n.e.lH g (Ds h.s.ok a h.s.p),a]⟩
def FM.pT(h:FM tag i b W0 c told outs tag' V vs ov tv W)(m1:C9 DA W W1)(z:DX W1 rV [] (zV c.next) bv W2):∃a,Eo tag i b W2.heap.size W0 c c.kJ told outs a V bv rV [] vs ov tv (W2.alloc (.cells #[bv,.slice none 0 0,[c.kj],false,false] 162)):=by
 have B:=h.e.z;have D:=h.p;have m:=m1.trans ((C9.refl DA W1).grown z.grown (λg e=>by simp[Value.ownBlock]at e));obtain⟨o,E⟩:=nm<|Obj.cells #[bv,.slice none 0 0,[c.kj],false,false] 162;rw[E];have A:C9 DA W (W2.alloc o):=m.alloc _;have n:=m1.size;have n:=m.size;have C:(W2.alloc o).heap.size=W2.heap.size+1:=nl;have u:∀g,bv.ownBlock=some g->W.heap.size<=g/\g<W2.heap.size:=λg e=>by
  refine⟨?_,zI z.own g e⟩;rcases z.at_ g e with x|x
  .simp[Value.ownBlock]at x
  omega
 obtain⟨a,m⟩:∃a:Nat->Nat×Nat,(λg=>if g=W2.heap.size then(i,90)else if bv.ownBlock=some g then(i,91)else tag' g)=a:=⟨_,rfl⟩;have n:∀g,g<W.heap.size->a g=tag' g:=λg e=>by
  rw[<-m];simp only;rw[AH I,AH (λx=>qm<|(u g x).1)]
 have q:∀g,(tag' g).1=i->a g=tag' g:=λg e=>n g<|Ds B (i:=i) (r:=(tag' g).2) (by rw[<-e]) D
 have y:DK i tag' a W (W2.alloc o):=by
  refine⟨n,λg e=>?_,λg e=>?_⟩
  .rw[<-m];simp only;split
   .exact .inl rfl
   split
   .exact .inl rfl
   exact .inr<|B g e
  rw[C]at e;rw[<-m];simp only;rw[AH I,AH (λx=>qm<|(u g x).2)];exact B g I
 refine⟨a,⟨h.c.mod A rQ q,⟨?_,?_,World.ownsRow.alloc z.own _,λg e=>?_,World.ownsRow_nil _ 0 _ 10,rfl,λx a=>absurd a CW,λg e=>by simp[Value.ownBlock]at e⟩,h.e.trans y h.m.size,h.m.trans<|A.mono rQ,D⟩,h.o.mod A rQ<|λg e x=>by rw[n g e,x],h.t.mod A rQ<|λg e=>by rw[q g (by rw[e]),e]⟩
 .rw[heap_alloc_new W2 o,<-E];rfl
 .rw[<-m];simp
 rw[<-m];simp only;rw[AH (qm<|(u g e).2),AL e]
variable{w:rT}
def K7{e:List (DF×rU)}(h:w.ownsRow 0 48 10 v e.length (E0 e))(q:∀x∈e,RR w x.2 x.1.kC):FE w v e:=by
 obtain⟨a,m,rfl,u,y,z⟩:=zi h;refine⟨a,m,rfl,u,y,λi fr n=>⟨?_,q fr<|AZ n⟩⟩;have a:=(AO.1 n).1;obtain⟨g,rfl⟩:=z I;refine⟨g,0,rfl,λj x a=>?_⟩;have:=h.cells (g:=g) rfl _ _ (Ta e i fr n j x a);rw[EU]at this;rw[An]at this
 rwa [An]
variable{g:Nat}
def Tk{m n y z n1 n2:Nat}{q u:rU}{A B:qt}(C:w.ownsRow 0 m y q n1 A)(D:w.ownsRow 0 n z u n2 B)(E:m≠n)(e:q.ownBlock=some g):u.ownBlock≠some g:=λa=>by
 rcases C.2 with⟨rfl,_⟩|⟨g,c1,m,rfl,_,G,_⟩
 .simp[Value.ownBlock]at e
 rcases D.2 with⟨rfl,_⟩|⟨g,c2,m,rfl,_,h,_⟩
 .simp[Value.ownBlock]at a
 simp[Value.ownBlock]at e a;subst e;subst a;rw[G]at h;simp at h;exact E h.2
structure Ns(tag:qr)(i b db:Nat)(W0:rT)(c:CS)(d:DJ)(told:zE)(outs:List qq)(tag':qr)(V:CV)(bv fv:rU)(vs:qt)(ov tv:rU)(W:rT):Prop where
 h:FM tag i b W0 c told outs tag' V vs ov tv W
 obj:W.heap[db]?=some (.cells #[bv,fv,[d.room],d.kX,d.full] 162 (0,0))
 fr:GQ tag' (i,5) W fv d.fs
 fv:∃a cap,fv=.slice a d.fs.length cap
 db:tag' db=(i,90)
variable{new:qq}{v':rU}
def Eo.ml{l:List (DF×rU)}{a:rU}{q:rT}(h:Eo tag i b db W0 c d told outs tag' V bv fv l vs ov tv W)(u:∀g r,90<=r->tag g≠(i,r))
  (Z:DX W bv d.b new v' W1) (ho:q.ownsRow 0 44 1 a (vs.length+1) (vs++[v'])) (e:W1.grownBy q ov.ownBlock) (hn:Dh W1 ov a) :
  ∃m,Ns tag i b db W0 c d told (outs++[d.b++new]) m V bv fv (vs++[v']) a tv q:=by
 have L:=h.s.ok;have hp:=h.s.p;have n:=h.s.d;have M:=(C9.refl (λg=>bv.ownBlock=some g) W).grown Z.grown<|λg e=>.inl e;have N:=(C9.refl (λg=>ov.ownBlock=some g) W1).grown e<|λg e=>.inl e;have G:C9 (λg=>bv.ownBlock=some g\/ov.ownBlock=some g) W q:=(M.mono<|λg x=>.inl<|.inl x).trans<|N.mono<|λg x=>.inl<|.inr x;have a:=h.s.m.size;have a:=M.size;have a:=N.size;have z:∀r,((0:Nat),(0:Nat))≠(i,r):=λr x=>by simp at x;omega
 obtain⟨m,a⟩:∃m:Nat->Nat×Nat,(λg=>if tag' g=(i,91)then(0,0)else if tag' g=(i,92)then(i,5)else tag' g)=m:=⟨_,rfl⟩;have k1:∀g,tag' g=(i,91)->m g=(0,0):=λg e=>by rw[<-a];simp only;rw[AL e]
 have k2:∀g,tag' g=(i,92)->m g=(i,5):=λg e=>by rw[<-a];simp only;rw[AH (by rw[e];simp),AL e]
 have O:∀g,tag' g≠(i,91)->tag' g≠(i,92)->m g=tag' g:=λg E y=>by rw[<-a];simp only;rw[AH E,AH y]
 have R:∀g r,r≠91->r≠92->tag' g=(i,r)->m g=(i,r):=λg r E y e=>by rw[O g (by rw[e];simpa using E) (by rw[e];simpa using y),e]
 have X:∀g,tag' g=(0,0)->m g=(0,0):=λg e=>by rw[O g (by rw[e];exact z _) (by rw[e];exact z _),e]
 have A:∀g r,90<=r->tag' g=(i,r)->W0.heap.size<=g:=λg r Y e=>by
  by_cases q:g<W0.heap.size
  .rw[h.s.e.lH g q]at e;exact absurd e<|u g r Y
  omega
 have K:∀g,v'.ownBlock=some g->(bv.ownBlock=some g/\tag' g=(i,91))\/W.heap.size<=g:=λg e=>by
  rcases Z.at_ g e with x|x
  .exact .inl ⟨x,n.mU g x⟩
  exact .inr x
 have q:∀g,ov.ownBlock=some g->g<W.heap.size/\tag' g=(0,0):=λg e=>⟨zI h.o.own g e,(h.o.pd g e).2⟩
 have C:∀(k:Nat) (u:rU),vs[k]?=some u->(∃lb,OB W u lb)/\∀g,u.ownBlock=some g->g<W.heap.size/\tag' g=(0,0):=λk u D=>by
  have B:k<outs.length:=by rw[<-h.o.len];exact(AO.1 D).1
  obtain⟨a,b⟩:=h.o.each k u outs[k] D<|AG B;exact⟨⟨_,a⟩,λg e=>⟨zI a g e,(b g e).2⟩⟩
 have B:∀g,tag' g=(0,0)->g<W.heap.size->v'.ownBlock≠some g:=λg E y x=>by
  rcases K g x with y|y
  .rw[y.2]at E;exact z _ E.symm
  omega
 have E:=h.s.c.nj L hp (M.mono<|λg e=>.inl ⟨91,lc,n.mU g e⟩)<|λ_ _=>rfl;have aa:=E.mod N (λg e=>by rw[(q g e).2];simp;omega)<|λ_ _=>rfl;have E:∀{g r:Nat},tag' g=(i,r)->r≠91->¬(bv.ownBlock=some g\/ov.ownBlock=some g):=λe Y x=>by
  rcases x with x|x
  .have:=n.mU _ x;rw[e]at this;simp at this;exact Y this
  have:=(q _ x).2;rw[e]at this;exact z _ this.symm
 refine⟨m,⟨⟨aa.nz<|λg r Y e=>R g r I I e,⟨λg e=>?_,λg e=>?_,λg e=>X g<|L g I⟩,h.s.m.then G<|λg e=>.inr ?_,?_,?_,hp⟩,G.obj (E n.tb lc) n.obj,?_,?_,R _ 90 lc lc n.tb⟩⟩
 .rw[O g (λx=>qm<|A g 91 (by decide) x) (λx=>qm<|A g 92 (by decide) x),h.s.e.lH g e]
 .by_cases m:tag' g=(i,91)
  .exact .inr (k1 g m)
  by_cases Y:tag' g=(i,92)
  .exact .inl (by rw[k2 g Y])
  rw[O g m Y];exact h.s.e.new g e
 .rcases e with x|x
  .exact A g 91 lc (n.mU g x)
  exact(h.o.pd g x).1
 .have m:=h.o.mod M (λg e x=>by rw[n.mU g e]at x;exact z _ x.symm)<|λ_ _ x=>x;refine m.push N I ho hn Z.own (λg e=>?_) (λg e x=>?_) (λk u D g e=>B g ((C k u D).2 g e).2 ((C k u D).2 g e).1) (λg _ e=>X g e) (λg e=>X g<|L g I) (λk u D g e=>?_)
  .rcases K g e with y|y
   .exact⟨A g 91 lc y.2,k1 g y.2⟩
   exact⟨I,X g<|L g y⟩
  .exact B g (q g x).2 (q g x).1 e
  obtain⟨⟨lb,hb⟩,_⟩:=C k u D;exact Tk hb h.o.own lc e
 .exact h.t.mod G (λg e x=>E x lc e) (λg e=>R g 5 lc lc e)
 .refine⟨l,n.lf,K7 (G.owns n.own<|λg e=>E (n.nD g e) lc)<|λx h=>(n.rr x h).1.mod G<|GB λg e=>E ((n.rr x h).2 g e) lc,λg e=>k2 g<|n.nD g<|Pf n.own e,λx h g e=>R g 5 lc lc<|(n.rr x h).2 g e⟩
 obtain⟨a,g,e,_⟩:=zi n.own;have h:l.length=d.fs.length:=by rw[<-n.lf,Az]
 exact⟨a,g,by rw[e,h]⟩
def Ns.lE(h:Ns tag i b db W0 c d told outs tag' V bv fv vs ov tv W)(A:C9 DA W W1)
  (N:W2.ownsRow 0 166 3 v' (c.kB.length+1) (zF<|c.kB.zip V.lh++[(⟨c.next,c.now,d.fs⟩,fv)])) (a:W1.grownBy W2 V.ft.ownBlock) (O:Dh W1 V.ft v') :
  ∃z,FM tag i b W0 { c with kB:=c.kB++[⟨c.next,c.now,d.fs⟩] } told outs z { V with ft:=v',lh:=V.lh++[fv] } vs ov tv (W2.setCell (b,236) v'):=by
 have u:=h.h;have B:=u.e.z;have X:=u.p;have m:=u.c;have z:=(C9.refl (λg=>V.ft.ownBlock=some g) W1).grown a<|λg a=>.inl a;have C:C9 (λg=>g=b\/V.ft.ownBlock=some g) W (W2.setCell (U b 236) v'):=((A.mono rQ).trans<|z.mono<|λg x=>.inl<|.inr x).setCell (p:=U b 236) (.inl rO) _;have G:=A.size;have G:=z.size;have K:(W2.setCell (b,236) v').heap.size=W2.heap.size:=nl;have D:∀g,(g=b\/V.ft.ownBlock=some g)->∃r,(r=1\/r=4)/\tag' g=(i,r):=λg a=>by
  rcases a with a|a
  .exact⟨1,.inl rfl,by rw[a,m.tb]⟩
  exact⟨4,.inr rfl,m.nF g a⟩
 have n:∀{g r:Nat},tag' g=(i,r)->g<W.heap.size:=λa=>Ds B a X
 have E:∀g,(tag' g).1=i->zT tag' W W2 (i,4) g=tag' g:=λg a=>zx<|n (r:=(tag' g).2)<|by rw[<-a]
 have L:=z.obj (λx=>by
  have:=m.nF b x;rw[m.tb]at this;simp at this) (A.obj rP m.obj)
 have M:∀g,v'.ownBlock=some g->g≠b:=λg a x=>by
  subst x;rcases O g a with y|y
  .have:=m.nF g y;rw[m.tb]at this;simp at this
  have:=n m.tb;omega
 have z:∀g,tag' g=(0,0)->¬(g=b\/V.ft.ownBlock=some g):=λg a x=>by
  obtain⟨r,_,e⟩:=D g x;rw[a]at e;simp at e;omega
 have G:DK i tag' (zT tag' W W2 (i,4)) W (W2.setCell (b,236) v'):=by
  refine⟨λg a=>zx a,λg a=>?_,λg a=>?_⟩
  .by_cases q:g<W2.heap.size
   .exact .inl (by rw[FH a q])
   exact .inr<|by simp only[zT,(I:¬g<W.heap.size),q,AH,Ae]
  rw[K]at a;simp only[zT,(I:¬g<W.heap.size),(I:¬g<W2.heap.size),AH,Ae]
 have A:(c.kB++[(⟨c.next,c.now,d.fs⟩:DI)]).zip (V.lh++[fv])=c.kB.zip V.lh++[(⟨c.next,c.now,d.fs⟩,fv)]:=by
  rw[List.zip_append m.fl.symm];rfl
 refine⟨_,?_,u.e.trans G u.m.size,Ek u.e u.m<|C.mono<|λg a=>.inl ?_,u.o.mod C (λg a x=>z g x a)<|λg a x=>by rw[zx a,x],u.t.mod C (λg a x=>?_)<|λg a=>by rw[zx (n a),a],X⟩
 .refine m.build (R:=λr=>r=1\/r=4) C D E ?_ rL (λk B=>.inl rK) (λk B=>.inl rK) (λk B=>.inl rK) (λk B=>.inl rK) (λk B=>.inl rK) (.inr ⟨?_,?_,?_,?_⟩) rJ rJ rJ
  .rw[zc L,Ab];rw[show(236:Nat)=233+3 from rfl,Fv c { c with kB:=c.kB++[⟨c.next,c.now,d.fs⟩] } V { V with ft:=v',lh:=V.lh++[fv] } _ rfl rfl rfl rfl]
  .rw[A];have:=((C9.refl (λg=>g=b) W2).setCell (p:=U b 236) rO v').owns N<|λg a x=>M g a x;rw[AF,Ak];exact this
  .rw[AF,AF,m.fl];rfl
  .intro p u;have u:p∈(c.kB++[(⟨c.next,c.now,d.fs⟩:DI)]).zip (V.lh++[fv]):=u;rw[A]at u;have Y:∀g,(g=b\/V.ft.ownBlock=some g)->tag' g≠(i,5):=λg a x=>by
    obtain⟨r,Z,e⟩:=D g a;rw[x]at e;simp at e;omega
   rcases Ap.1 u with q|q
   .exact(m.fs p q).mod C Y (λg a=>by rw[zx (n a),a])
   simp at q;subst q;exact h.fr.mod C Y<|λg a=>by rw[zx (n a),a]
  intro g a;rcases O g a with y|y
  .rw[zx (n<|m.nF g y),m.nF g y]
  exact FH I<|zI N g a
 .obtain⟨r,Z,e⟩:=D g a;exact EM e I
 obtain⟨r,Z,e⟩:=D g a;rw[x]at e;simp at e;omega
def FM.next(h:FM tag i b W0 c told outs tag' V vs ov tv W):FM tag i b W0 { c with next:=c.next+1 } told outs tag' V vs ov tv (W.setCell (b,6) (.int .u64 ((c.next+1:Nat):Int))):=by
 have m:C9 (λg=>g=b) W (W.setCell (U b 6)<|.int .u64 ((c.next+1:Nat):Int)):=(C9.refl (λg=>g=b) W).setCell (p:=U b 6) rO _;have tb:=h.c.tb;have e:=h.p;exact⟨h.c.store 6 _ (IN c { c with next:=c.next+1 } V V (j:=6) _ lc rfl rfl rfl rfl) ⟨rfl,λ_ _=>⟨rfl,rfl,rfl⟩,λ_ _=>⟨rfl,rfl⟩,rfl,rfl,rfl,rfl⟩,⟨h.e.lH,h.e.new,h.e.z.mod m⟩,
  Ek h.e h.m (m.mono<|λq a=>.inl<|EM (r:=1) (by rw[show q=b from a];exact tb) lc),h.o.mod m (λg a x=>by rw[show g=b from a,tb]at x;simp at x)<|λ_ _ x=>x,h.t.mod m (λg a x=>by rw[show g=b from a,tb]at x;simp at x)<|λ_ x=>x,e⟩
def Gu(l:zE):Prop:=∀i,i<l.length->G8 l i=true
def Gu.tell{l:zE}(h:Gu l):RH l:=by
 intro n a m;have a:(l.take n).length=n:=by rw[AU];omega
 have e:EQ (l.take n)=true:=by
  unfold EQ G7;rw[a];simp only[AV,By,CJ,AW];refine⟨λi a=>?_,I⟩;have:=h i I;unfold G8 at this ⊢;rw[(Mk l n i a).1,(Mk l n i a).2];by_cases g:i=0
  .subst g;simpa using this
  rw[(Mk l n (i-1) I).1];exact this
 have:zH (kP<|l.take n)=(D8 (kP<|l.take n)&&D6 (kP<|l.take n)&&EQ (l.take n)):=rfl;rw[this,e];rfl
def Gu.drop{l:zE}(h:Gu l)(n:Nat):Gu (l.drop n):=by
 intro i e;rw[Af]at e;have:=h (n+i) I;unfold G8 at this ⊢;rw[(Fz l n i).1,(Fz l n i).2];by_cases a:i=0
 .subst a;simp only[AV]at this;have e:=CI this.1.1;have g:=CI this.1.2;rw[Bb]at e g;simp[e,g]
 rw[(Fz l n<|i-1).1,(I:n+(i-1)=n+i-1)];have e:¬n+i=0:=I;simpa [e,a]using this
def DO.Ok.desc{s:DO}(h:s.Ok):Gu s.rs.reverse:=by
 have g:∀i,i<s.rs.length->DE s.rs.reverse i=DE s.rs (s.rs.length-1-i)/\DB s.rs.reverse i=DB s.rs (s.rs.length-1-i):=λi a=>by
  simp[DE,DB,AQ,List.getElem?_reverse a]
 intro i a;rw[List.length_reverse]at a;have m:=h.wf.1 (s.rs.length-1-i) I;have e:=h.hi (s.rs.length-1-i) I;unfold G8;rw[(g i a).1,(g i a).2];unfold zG at e;by_cases a:i=0
 .simp[a]at m e ⊢;exact⟨m.1,e⟩
 rw[(g (i-1) I).1];have a:=h.wf.2 (s.rs.length-1-i) (s.rs.length-1-(i-1)) I I;simp only[AV,Br,AW];exact⟨⟨m.1,e⟩,.inr ⟨I,I⟩⟩
def Fp(c:CS)(l:zE):Nat:=(12-c.kB.length)+l.length
structure Hy(c:CS)(l:zE):Prop where
 ok:c.Ok
 kj:64<=c.kj
 desc:Gu l
 len:l.length<=1048576
 fl:c.kB.length<=12
 next:c.next+Fp c l<zG
def I8(h:c.Ok):c.kJ.Ok:=by
 have:=zK c.next;exact⟨by show(zV c.next).length<=_;omega,AK _,h.kj⟩
theorem Nz(hd:d.Ok)(l:zE):(zB d l).1.Ok/\(zB d l).1.room=d.room/\(l=[]->(zB d l)=(d,l))/\(l≠[]->(zB d l).2.length<l.length)/\(Gu l->Gu (zB d l).2)/\(zB d l).2.length<=l.length/\(zB d l).1.kX=d.kX:=by
 unfold zB;by_cases a:l=[]
 .rw[AL a];exact⟨hd,rfl,λ_=>rfl,λh=>absurd a h,id,AI _,rfl⟩
 rw[AH a];have e:1<=l.length:=Bu.2 a;have n:=QO d l l.length e;have g:(Gx d l).2.length<l.length:=by
  show(l.drop _).length<_;rw[Af];omega
 have m:(Gx d l).1.Ok/\(Gx d l).1.room=d.room/\(Gx d l).1.kX=d.kX:=by
  show((d.add _).getD d).Ok/\((d.add _).getD d).room=d.room/\((d.add _).getD d).kX=d.kX;cases h:d.add (kP<|l.take<|Ep d l l.length)with
  | none=>exact⟨hd,rfl,rfl⟩
  | some d' =>
   obtain⟨e,n,q,_,u,y⟩:=DJ.lz h;have hb:=UV<|kP<|l.take<|Ep d l l.length;have y:=hd.room;have y:=hd.fs;have y:d'.b.length=d.b.length+(zC<|kP<|l.take<|Ep d l l.length).length:=by rw[e,AF]
   exact⟨⟨by show d'.b.length<=_;omega,by show d'.fs.length<=d'.b.length;rw[n,AF,Ak];omega,by show d'.room<=_;omega⟩,q,u.trans<|by simp[kP]⟩
 exact⟨m.1,m.2.1,λh=>absurd h a,λ_=>g,λh=>h.drop _,Nat.le_of_lt g,m.2.2⟩
def Hy.round{l:zE}(h:Hy c l):(zB c.kJ l).1.Ok/\(c.kM (zB c.kJ l).1).1.Ok/\(c.kM (zB c.kJ l).1).2.Ok/\(c.kM (zB c.kJ l).1).1.next=c.next/\(c.kM (zB c.kJ l).1).1.now=c.now/\(c.kM (zB c.kJ l).1).1.kB=c.kB /\
  ((c.kM (zB c.kJ l).1).2.fs≠[]->Hy ((c.kM (zB c.kJ l).1).1.lQ (c.kM (zB c.kJ l).1).2) (zB c.kJ l).2/\Fp ((c.kM (zB c.kJ l).1).1.lQ (c.kM (zB c.kJ l).1).2) (zB c.kJ l).2<Fp c l):=by
 obtain⟨n,e,u,y,z,g,A⟩:=Nz (I8 h.ok) l;have B:(c.kM (zB c.kJ l).1).1.Ok/\(c.kM (zB c.kJ l).1).2.Ok/\((c.kM (zB c.kJ l).1).1.next=c.next/\(c.kM (zB c.kJ l).1).1.now=c.now/\(c.kM (zB c.kJ l).1).1.kB=c.kB/\(c.kM (zB c.kJ l).1).1.kj=c.kj) /\
   (l=[]->(c.kM (zB c.kJ l).1).2.fs≠[]->c.kB.length<12/\(c.kM (zB c.kJ l).1).2.kX=true)/\((c.kM (zB c.kJ l).1).2.kX=true->c.kB.length<12):=by
  unfold CS.kM;split
  .rename_i e;obtain⟨q,C,L,g,M,N,D,E,O,G,K,R,X⟩:=P2 10 c (zB c.kJ l).1 (AI _) h.ok n;refine⟨q,C,⟨D,E,G,K⟩,λq a=>⟨e,?_⟩,λ_=>e⟩;rcases g with g|g
   .exact g
   exact absurd (g.trans<|by rw[u q];rfl) a
  exact⟨h.ok,n,⟨rfl,rfl,rfl,rfl⟩,λq a=>absurd (by rw[u q];rfl) a,λm=>by rw[show(c,(zB c.kJ l).1).2=(zB c.kJ l).1 from rfl,A]at m;cases m⟩
 obtain⟨e,q,⟨u,A,g,E⟩,C,D⟩:=B;refine⟨n,e,q,u,A,g,λa=>?_⟩;have n:Fp ((c.kM (zB c.kJ l).1).1.lQ (c.kM (zB c.kJ l).1).2) (zB c.kJ l).2<Fp c l:=by
  unfold Fp CS.lQ;simp only;by_cases q:l=[]
  .obtain⟨A,u⟩:=C q a;rw[AL u,g,AF,Ak];omega
  have:=y q;split
  .rw[g,AF,Ak];omega
  rw[g];omega
 have a:=h.next;have a:=h.fl;have q:=h.kj;refine⟨⟨⟨e.kj,e.ln,e.lr,e.kE,e.kF,e.ws,e.rs,e.waits⟩,by show 64<=(c.kM _).1.kj;omega,z h.desc,qm h.len,?_,?_⟩,n⟩
 .unfold CS.lQ;simp only;split
  .rename_i m;rw[g,AF,Ak];have:=D m;omega
  rw[g];exact a
 show(c.kM _).1.next+1+_<zG;omega
def WS.mT(x:WS)(n:Nat):WS :=
 {x with final:=if x.cut then x.final else max x.high n,kD:=if !x.cut||decide (n<x.kD)then n else x.kD,kQ:=if !x.cut||decide (n<x.kD)then false else x.kQ,cut:=true }
def CS.reset(c:CS)(k kD:Int):Nat×CS :=
 if c.stream k≠0 then(c.stream k,c)else(0,{ c with ws:=zh c.ws k.toNat ((c k.toNat).mT<|min kD.toNat (c k.toNat).b.length) })
def Gg(id a:Nat)(s:qq):DF:=⟨7,0,0,0,0,false,id,a,s,[]⟩
def CS.kK(c:CS)(id a:Nat)(s:qq):Nat×CS :=
 if c.closed≠0 then(12,c)else
 if zG<id\/zG<a\/(c.lW=true/\id<=c.lN)then(5,c)else
 if c.kj<s.length+40 then(6,c)else
 if c.waits.length=16 then(3,c)else
 (0,{ c with lW:=true,lN:=id,waits:=if c.now<=a then c.waits++[Gg id a s]else c.waits })
def IZ:zE->Nat->Nat->DO->DO
 | [],_,_,t=>t
 | r::l,lo,hi,t =>
  IZ l lo hi (if hi<=r.2 then(if r.1<lo then t.add r.1 (min r.2<|lo-1)else t).add (max r.1 hi) r.2 else(if r.1<lo then t.add r.1 (min r.2<|lo-1)else t))
def DO.lp(s:DO)(lo hi:Nat):DO:=IZ s.rs lo hi ⟨[],0,s.most⟩
def DO.lY(t:DO)(l:zE):DO:=l.foldl (λt r=>t.add r.1 r.2) t
def WS.again(x:WS)(f:DF):WS :=
 {x with kH:=(x.kH.lp f.off<|f.off+f.data.length).lY x.kG.rs.reverse,ending:=x.ending && !f.fin }
def CS.again(c:CS)(f:DF):CS :=
 if f.kind=4 then{ c with ws:=zh c.ws f.stream.toNat ((c f.stream.toNat).again f) }
 else if f.kind=3 then{ c with ws:=zh c.ws f.stream.toNat { c.ws f.stream.toNat with kQ:=(c f.stream.toNat).kQ && !(f.rel==(c f.stream.toNat).kD) } }
 else if f.kind=5 then{ c with ky:=c.ky||f.lF==c.kE }
 else if f.kind=6 then{ c with rs:=zh c.rs f.stream.toNat { c.rs f.stream.toNat with ky:=(c.rs f.stream.toNat).ky||f.lF==(c.rs f.stream.toNat).kE } }
 else c
def CS.lG(c:CS)(a:List DF):CS:=a.foldl CS.again c
def CS.late(c:CS)(p:DI):Bool:=decide (p.at_+6<=c.now)||decide (p.n+3<=c.kO)
def CS.mF(c:CS):CS:={ (c.kB.foldl (λc p=>if c.late p then c.lG p.fs else c) c)with kB:=c.kB.filter (λp => !c.late p) }
def CS.tick(c:CS):CS:=({ c with now:=c.now+1,waits:=c.waits.filter (λf => !decide (f.dl<c.now+1)) }:CS).mF
def WS.lC(x:WS)(f:DF):WS :=
 {x with kG:=x.kG.add f.off<|f.off+f.data.length-1,kH:=x.kH.add f.off (f.off+f.data.length-1) }
def CS.kP(c:CS)(f:DF):CS:=if f.kind=4/\f.data≠[]then{ c with ws:=zh c.ws f.stream.toNat ((c f.stream.toNat).lC f) }else c
def FW(l:zE)(p:DI):Bool:=l.any λr=>decide (r.1<=p.n)&&decide (p.n<=r.2)
def CS.mM(c:CS)(l:zE)(p:DI):CS:=if FW l p then p.fs.foldl CS.kP c else c
def CS.lC(c:CS)(l:zE):Nat×CS :=
 if c.next<=DB l 0 then(11,c)
 else(0,({ (c.kB.foldl (λc p=>c.mM l p) { c with kO:=max c.kO (DB l 0) })with kB:=c.kB.filter (λp => !FW l p) }:CS).mF)
def RS.kZ(x:RS)(f:DF):RS:={ x with kD:=if !x.cut||decide (f.rel<x.kD)then f.rel else x.kD,cut:=true,ended:=true,fin:=f.off }
def CS.kZ(c:CS)(f:DF):Nat×CS :=
 if ((c.rs f.stream.toNat).ended&&(c.rs f.stream.toNat).fin != f.off)||decide (f.off<(c.rs f.stream.toNat).high)then(10,c)
 else(0,{ c with rs:=zh c.rs f.stream.toNat ((c.rs f.stream.toNat).kZ f) })
def Ha(b:qq)(i:Nat)(s:qq):qq:=b.take i++(s++b.drop (i+s.length))
def EB(off:Nat)(data:qq)(e:Nat):Nat->Nat->qq->DO->qq×DO
 | 0,_,b,s=>(b,s)
 | n+1,lo,b,s =>
  if lo<e then
   if e<=(DP s.rs lo e).1 then(b,s)
   else EB off data e n (DP s.rs lo e).2 (Ha b (DP s.rs lo e).1<|(data.drop<|(DP s.rs lo e).1-off).take<|(DP s.rs lo e).2-(DP s.rs lo e).1) (s.add (DP s.rs lo e).1<|(DP s.rs lo e).2-1)
  else(b,s)
def Fr(b:qq)(n:Nat):qq:=b++List.replicate (n-b.length) 0
def DF.end_(f:DF):Nat:=f.off+f.data.length
def RS.mj(x:RS)(f:DF):qq×DO:=EB f.off f.data f.end_ (f.data.length+1) f.off (Fr x.b (max x.high f.end_)) x.kG
def RS.data(x:RS)(f:DF):RS :=
 {x with high:=max x.high f.end_,ended:=x.ended||f.fin,fin:=if f.fin then f.end_ else x.fin,b:=(x.mj f).1,kG:=(x.mj f).2 }
def Fq(rs:Nat->RS):Nat->Nat
 | 0=>0
 | k+1=>Fq rs k+(rs k).high
def RS.lM(x:RS)(f:DF):Bool:=(x.ended&&(decide (x.fin<f.end_)||(f.fin&&f.end_ != x.fin)))||(f.fin&&decide (f.end_<x.high))
def CS.data(c:CS)(f:DF):Nat×CS :=
 if (c.rs f.stream.toNat).lM f then(10,c)else
 if (c.rs f.stream.toNat).high<f.end_/\((c.rs f.stream.toNat).kE<f.end_\/c.kE<f.end_-(c.rs f.stream.toNat).high+Fq c.rs 8)then(9,c)else
 (0,{ c with rs:=zh c.rs f.stream.toNat ((c.rs f.stream.toNat).data f) })
def D2(m id:Nat):Bool:=decide (32<=m)&&decide (id<=m-32)
def CS.message(c:CS)(f:DF):CS :=
 if (c.seen.any λp=>p.1==f.id)||decide (f.dl<c.now)||(decide (0<c.seen.length)&&D2 c.most f.id)then c else
 {c with most:=max c.most f.id,seen:=(c.seen++[(f.id,f.dl)]).filter<|λp => !D2 (max c.most f.id) p.1,kG:=c.kG++[(f.id,f.data)] }
def CS.take(c:CS)(f:DF):Nat×CS :=
 if f.kind=2 then c.lC f.kC
 else if f.kind=3 then c.kZ f
 else if f.kind=4 then c.data f
 else if f.kind=5 then(0,{ c with kF:=max c.kF f.lF })
 else if f.kind=6 then(0,{ c with ws:=zh c.ws f.stream.toNat { c.ws f.stream.toNat with kF:=max (c f.stream.toNat).kF f.lF } })
 else if f.kind=7 then(0,c.message f)
 else if f.kind=8 then(13,c)
 else(0,c)
def CS.kV:List DF->CS->Nat×CS
 | [],c=>(0,c)
 | f::fs,c =>
  if (c.take f).1≠0 then((c.take f).1,{ (c.take f).2 with closed:=(c.take f).1,said:=(c.take f).1==13 })
  else CS.kV fs { (c.take f).2 with answer:=(c.take f).2.answer||f.kind != 2 }
def CS.kL(c:CS)(a:qq):(Nat×Int)×CS :=
 if c.closed≠0 then((12,-1),c)else
 match dec a with
 | .sum=>((7,-1),c)
 | .bad p=>((8,(p:Int)),{ c with closed:=8 })
 | .ok n fs=>if G9 c.kN.rs c.kN.fl n then((0,-1),c)else
  (((CS.kV fs { c with kN:=c.kN.add n n }).1,-1),(CS.kV fs { c with kN:=c.kN.add n n }).2)
def CS.kW(c:CS):List (Nat×qq)×CS:=(c.kG,{ c with kG:=[] })
def RS.kR(x:RS)(a:Nat):Nat :=
 if x.cut then max x.read (min (min (DP x.kG.rs x.read x.high).1<|x.read+a) x.kD)else min (DP x.kG.rs x.read x.high).1 (x.read+a)
def RS.kx(x:RS)(e:Nat):Nat:=if x.cut&&decide (x.kD<=e)then 2 else if !x.cut&&x.ended&&e==x.fin then 1 else 0
def CS.read(c:CS)(k a:Int):(qq×Nat×Nat)×CS :=
 if c.stream k≠0 then(([],0,c.stream k),c)else
 if (c.rs k.toNat).state≠0 then(([],(c.rs k.toNat).state,0),c)else
 ((((c.rs k.toNat).b.drop (c.rs k.toNat).read).take<|(c.rs k.toNat).kR a.toNat-(c.rs k.toNat).read,(c.rs k.toNat).kx<|(c.rs k.toNat).kR a.toNat,0),
  {c with rs:=zh c.rs k.toNat { c.rs k.toNat with read:=(c.rs k.toNat).kR a.toNat,state:=(c.rs k.toNat).kx ((c.rs k.toNat).kR a.toNat) } })
def FQ(nB:Nat):DF:=⟨8,0,0,0,nB,false,0,0,[],[]⟩
def CS.kY(c:CS):List qq×CS :=
 if c.said then([],c)else
 ([Fs ((c.kJ.add<|FQ<|if c.closed=12 then 0 else c.closed).getD c.kJ).b],{ c with said:=true,next:=c.next+1 })
def CS.z(c:CS):List qq×CS:=if c.closed≠0 then c.kY else c.lS
def IA(w:rT)(b:Nat)(v:rU)(s:DO):Prop:=w.heap[b]?=some (.cells #[v,s.fl,[s.most]] 138 (0,0))/\w.ownsRow 0 110 2 v s.rs.length (zw s.rs)
def IA.set{s:DO}(h:IA w b v s)(a:s.rs.length<=1099511627776):Ed w b 0 v s.rs s.fl s.most :=
 ⟨za h.1 rfl,za h.1 rfl,za h.1 rfl,h.2,a,λj=>zd h.1⟩
variable{w':rT}
def IA.mod{s:DO}(h:IA w b v s)(m:C9 S w w')(a:¬S b)(e:∀g,v.ownBlock=some g->¬S g):IA w' b v s:=⟨m.obj a h.1,m.owns h.2 e⟩
def Wl(s:DO)(b lo hi:Nat)(v:rU)(w:rT)(h:IA w b v s)(ok:s.Ok)(m:lo<=zG)(n:hi<=zG):rH 38 #[(b,0),lo,hi] w λe w'=>e=.returned (.tuple #[])/\∃a,IA w' b a (s.add lo hi)/\C9 (λk=>k=b\/v.ownBlock=some k) w w'/\Dh w v a:=by
 have y:=ok.most;have g:=ok.rl;have q:v.ownBlock≠some b:=λe=>by
  rcases h.2.2 with⟨rfl,_⟩|⟨g,c,z,rfl,_,u,_⟩
  .simp[Value.ownBlock]at e
  simp[Value.ownBlock]at e;subst e;rw[h.1]at u;simp at u
 have g:=ok.fl;unfold zG at m n g;refine(Jw s b 0 lo hi v w (h.set I) ok.wf I I I q y.1 I).mono ?_;rintro e w' ⟨a,rfl,A,B,C,D⟩;refine⟨rfl,a,⟨?_,A⟩,C,D⟩;rw[B,zc (zc h.1)];simp only[Ab,List.set_cons_zero,CE];have:(s.add lo hi).most=s.most:=by
  unfold DO.add;split
  .rfl
  split<;>rfl
 rw[this]
def RG(w:rT)(t:DO)(e:Ending)(w':rT):Prop :=
 ∃v,e=.returned (.agg #[v,.int .u64 t.fl,.int .i64 t.most])/\w'.ownsRow 0 110 2 v t.rs.length (zw t.rs)/\(∀g,v.ownBlock=some g->w.heap.size<=g)/\C9 DA w w'
theorem Qj:∀(l:zE) (e g:Nat) (t:DO),(∀r∈l,r.2<=zG)->t.Ok->(IZ l e g t).Ok
 | [],_,_,_,_,h=>h
 | r::l,e,g,t,hl,h=>by
  have a:=hl r BB;have m:min r.2 (e-1)<=zG:=AR (Bq _ _) a;unfold IZ;refine Qj l e g _ (λr a=>hl r<|BA _ a) ?_;split
  .split
   .exact(h.add _ m).add _ a
   exact h.add _ a
  split
  .exact h.add _ m
  exact h
def Id(a:Nat)(h:1<=a/\a<=1099511627776):(⟨[],0,a⟩:DO).Ok :=
 ⟨⟨λi a=>absurd a<|Al i,λi j _ a=>absurd a<|Al j⟩,λj a=>absurd a<|Al j,AK _,h,AK _⟩
def iB(a:Array rU)(w:rT)(e:Nat)(x y z:rU)(h:a.getD 6 undef=.pointer e)(c0:w e=some x)(c1:w (e,1)=some y)(c2:w (e,2)=some z):(results f165 a).run prog w=.ok (.agg #[x,y,z]) w:=by
 have g:a[6]?.getD undef=.pointer e:=by rw[<-h];simp
 simp[results,results165,go_sem,g,c0,c1,c2]
def Hu(w:rT)(a tb h p q:Nat)(t:DO)(e:rT):Prop :=
 ∃v,IA e tb v t/\t.Ok/\C9 DA w e/\(∀g,v.ownBlock=some g->a+2<=g/\g≠h)/\e.heap[a]?=some (.cells #[rV,.int .u64 0,.int .i64 0] 138 (0,0))/\e.heap[h]?=some (.cells #[p,q] 110 (0,0))/\w.heap.size=a/\tb=a+1/\a+2<=h
variable{hi lo p rb:Nat}
def Hu.calls{tb y:Nat}{t:DO}{g:rT}(h:Hu w rb tb y p q t g)(n:lo<=zG)(a:hi<=zG):rH 38 #[(tb,0),lo,hi] g λe w'=>e=.returned (.tuple #[])/\Hu w rb tb y p q (t.add lo hi) w':=by
 obtain⟨v,q,z,B,m,C,A,D,E,G⟩:=h;refine(Wl t tb lo hi v g q z n a).mono ?_;rintro e w' ⟨rfl,K,L,u,M⟩;have e:=(AJ.1 A).1;refine⟨rfl,K,L,z.add lo a,B.then u<|λg a=>.inr ?_,λg a=>?_,u.obj (λx=>?_) C,u.obj (λx=>?_) A,D,E,G⟩
 .rcases a with a|a
  .omega
  have:=m g a;omega
 .rcases M g a with y|y
  .exact m g y
  omega
 .rcases x with x|x
  .omega
  have:=m _ x;omega
 rcases x with x|x
 .omega
 exact(m _ x).2 rfl
def Hu.two{tb a:Nat}{t:DO}{e:rT}(h:Hu w rb tb a p q t e):e a=some (.int .u64 p)/\e (a,1)=some (.int .u64 q):=by
 obtain⟨v,e,g,m,n,q,a,u,y,z⟩:=h;exact⟨za a rfl,za a rfl⟩
def iA(s:DO)(b o lo hi:Nat)(v:rU)(w:rT)(h:Ed w b o v s.rs s.fl s.most)(ok:s.Ok)(C:lo<=zG)(ai:hi<=zG):rH 165 #[(b,o),lo,hi] w (RG w (s.lp lo hi)):=by
 obtain⟨a,cap,rfl,A,q2,q3⟩:=zi h.own;have c0:=h.cl;have c2:=h.cm;obtain⟨N,B⟩:=nm s.rs.length;obtain⟨R,hR⟩:=nm<|s.lp lo hi;rw[hR];have aa:=zb h.own;have HA:AA (∀k,k<N->∃g,a=some ⟨g,0,none⟩):=zb<|λk hk=>q3 I;have A:AA (IZ s.rs lo hi ⟨[],0,s.most⟩=R):=zb hR;have ad:=zb ok;have M:N<=1099511627776:=by rw[<-B];exact h.len
 have hS:=Id s.most ok.most;have HS:=zb hS;obtain⟨M,hM⟩:=nm s.most;rw[hM]at c2 HS A;rw[B]at c0 aa;have HN:=zb B;have HM:=zb hM;unfold maxLen at q2;unfold zG at C ai;clear h ok hR hS q3 B hM;go_enter func165,ntmps165;go_upto_region 1 with fail;obtain⟨W1,B⟩:=nm<|w.alloc<|.cells #[rV,.int .u64 0,.int .i64 0] 138;have m1:=AB B;have s1:=AC B;have r1:=AD B;rw[B];have aj:=m1.cell (a:=⟨b,_,none⟩) id c2;have ae:=m1.cell (a:=⟨b,_,none⟩) id c0;clear c0 c2 B;go_upto_region 2 with fail;obtain⟨W2,B⟩:=nm<|W1.alloc<|.cells #[rV,.int .u64 0,[M]] 138;have m2:=AB B;have s2:W2.heap.size=w.heap.size+2:=by rw[<-B];simp;omega
 have L:IA W2 W1.heap.size rV ⟨[],0,M⟩:=by rw[<-B];exact⟨heap_alloc_new W1 _,World.ownsRow_nil _ 0 _ 2⟩
 have r2:=m2.obj rP r1;rw[B];have c0:=m2.cell (a:=⟨b,_,none⟩) id ae;have M2:=zb<|m1.trans m2;obtain⟨tb,af⟩:=nm<|w.heap.size+1;rw[s1]at L;rw[af]at L ⊢;have C:tb=w.heap.size+1:=I;obtain⟨u,ab⟩:=nm w.heap.size;rw[ab]at r2 C s2 ⊢;have ac:=zb ab;clear aj ae B m1 m2 r1 s1 af ab;go_wp2_with fail;have T2:=zb L;have R2:=zb r2;have C0:=zb c0;have ag:=zb<|And.intro C s2;clear c0 L r2 C s2
 go_loopw [20] (λB wr=>∃(k:Nat) (v:rU) (t:DO),k<=N/\B=.int .i64 k/\AA (IA wr tb v t/\t.Ok/\IZ (s.rs.drop k) lo hi t=R)/\AA (C9 DA w wr/\u+2<=wr.heap.size/\(∀g,v.ownBlock=some g->u+2<=g)/\wr.heap[u]?=some (.cells #[rV,.int .u64 0,.int .i64 0] 138 (0,0)))) (λB _=>N-(intOf B).toNat)
 case atStart=>exact⟨0,.slice none 0 0,⟨[],0,M⟩,AK _,rfl,zb ⟨T2.z,HS.z,A.z⟩,zb ⟨M2.z,by rw[ag.z.2];omega,λg y=>by simp[Value.ownBlock]at y,R2.z⟩⟩
 case round =>
  clear T2 R2 C0 A;obtain⟨k,v,t,hk,rfl,D,m⟩:=hrel;by_cases ah:k<N
  .obtain⟨g,rfl⟩:=HA.z k ah;have A:k<s.rs.length:=by rw[HN.z];exact ah
   obtain⟨C,M⟩:=Hp (rs:=s.rs) (n:=N) (cap:=cap) (g:=g) (by rw[HN.z];exact aa.z) k A;have C:=m.z.1.cell (a:=⟨g,_,none⟩) id C;have M:=m.z.1.cell (a:=⟨g,_,none⟩) id M;have E:=ad.z.hi k A;have a:=ad.z.wf.1 k A;have HD:AA (IZ (s.rs.drop<|k+1) lo hi (if hi<=DB s.rs k then(if DE s.rs k<lo then t.add (DE s.rs k) (min (DB s.rs k)<|lo-1)else t).add (max (DE s.rs k) hi) (DB s.rs k)else(if DE s.rs k<lo then t.add (DE s.rs k) (min (DB s.rs k)<|lo-1)else t))=R):=by
    have X:=D.z.2.2;rw[Rw A]at X;exact X
   obtain⟨p,z⟩:=nm<|DE s.rs k;obtain⟨q,n⟩:=nm<|DB s.rs k;rw[z]at C HD a;rw[n]at M HD E a;unfold zG at E;clear z n A;go_upto_region 5 with fail;obtain⟨N,a⟩:=nm<|wr.alloc<|.cells #[p,q] 110;obtain⟨xb,n⟩:=nm wr.heap.size;have J4:AA (Hu w u tb xb p q t N):=by
    have A:=AB a;refine zb ⟨v,D.z.1.mod A rP<|λ_ _ x=>x,D.z.2.1,m.z.1.trans A,λg y=>⟨m.z.2.2.1 g y,λe=>?_⟩,A.obj rP m.z.2.2.2,?_,ac.z,ag.z.1,?_⟩
    .have:=zI D.z.1.2 g y;omega
    .rw[<-a,<-n];exact heap_alloc_new wr _
    rw[<-n];exact m.z.2.1
   rw[a,n];obtain⟨y0,y1⟩:=J4.z.two;obtain⟨O,A⟩:=nm<|(if p<lo then t.add p (min q<|lo-1)else t);rw[A]at HD;have Y:=zb A;obtain⟨L,B⟩:=nm<|(if hi<=q then O.add (max p hi) q else O);rw[B]at HD;have Z:=zb B;clear D m a n A B C M;go_upto_if 27 with fail
   go_cut [] (λa=>AA<|Hu w u tb xb p q O a)
   case first =>
    by_cases z:p<lo
    .have d1:(p:Int)<lo:=I;have G:t.add p (min q<|lo-1)=O:=by
      have:=Y.z;rw[AL z]at this;exact this
     have kq:q<=lo-1->rH 38 #[(tb,0),p,q] N λe w'=>e=.returned (.tuple #[])/\Hu w u tb xb p q O w':=λh=>by
      have k:=J4.z.calls (lo:=p) (hi:=q) (by unfold zG;omega) E;rw[<-G,BU h];exact k
     have kl:lo-1<=q->rH 38 #[(tb,0),p,.int .u64 ((lo:Int)-1)] N λe w'=>e=.returned (.tuple #[])/\Hu w u tb xb p q O w':=λh=>by
      have k:=J4.z.calls (lo:=p) (hi:=lo-1) (by unfold zG;omega) (by unfold zG;omega);rw[<-G,Nat.min_eq_right h];rw[(I:((lo-1:Nat):Int)=(lo:Int)-1)]at k;exact k
     have KQ:=zb kq;have KL:=zb kl;have a:=wu ((lo:Int)-1) I;clear z G kq kl Y;go_wp2_with (go_at_call 38;first|(have K:=KQ.z I;with_reducible refine K.mono ?_;clear K;rintro e w5 ⟨rfl,j5⟩;have J5:=zb j5)|(have K:=KL.z I;with_reducible refine K.mono ?_;clear K;rintro e w5 ⟨rfl,j5⟩;have J5:=zb j5));all_goals go_meet
     all_goals exact J5
    have d1:¬(p:Int)<lo:=I;have G:t=O:=by
     have:=Y.z;rw[AH z]at this;exact this
    subst G;clear z Y;go_wp2;go_meet;exact J4
   case rest =>
   have J5:=hcut;clear J4 y0 y1;obtain⟨y0,y1⟩:=J5.z.two;clear hcut;by_cases z:hi<=q
   .have d1:(hi:Int)<=q:=I;have G:O.add (max p hi) q=L:=by
     have:=Z.z;rw[AL z]at this;exact this
    have kq:p<=hi->rH 38 #[(tb,0),hi,q] wc λe w'=>e=.returned (.tuple #[])/\Hu w u tb xb p q L w':=λh=>by
     have k:=J5.z.calls (lo:=hi) (hi:=q) (by unfold zG;omega) E;rw[<-G,Nat.max_eq_right h];exact k
    have kl:hi<=p->rH 38 #[(tb,0),p,q] wc λe w'=>e=.returned (.tuple #[])/\Hu w u tb xb p q L w':=λh=>by
     have k:=J5.z.calls (lo:=p) (hi:=q) (by unfold zG;omega) E;rw[<-G,Nat.max_eq_left h];exact k
    have KQ:=zb kq;have KL:=zb kl;clear z G kq kl Z;go_wp2_with (go_at_call 38;first|(have K:=KQ.z I;with_reducible refine K.mono ?_;clear K;rintro e w5 ⟨rfl,j5⟩;have J6:=zb j5)|(have K:=KL.z I;with_reducible refine K.mono ?_;clear K;rintro e w5 ⟨rfl,j5⟩;have J6:=zb j5));all_goals
     go_roundw
     case rel =>
      obtain⟨v6,X,h2,h3,h4,h5,h6,h7,h8,h9⟩:=J6.z;have:=(AJ.1 h6).1;exact⟨k+1,v6,L,I,by go_num,zb ⟨X,h2,HD.z⟩,zb ⟨h3,I,λg y=>(h4 g y).1,h5⟩⟩
     simp[intOf];omega
   have d1:¬(hi:Int)<=q:=I;have G:O=L:=by
    have:=Z.z;rw[AH z]at this;exact this
   subst G;have J6:=J5;clear z Z;go_wp2;go_roundw
   case rel =>
    obtain⟨v6,X,h2,h3,h4,h5,h6,h7,h8,h9⟩:=J6.z;have:=(AJ.1 h6).1;exact⟨k+1,v6,O,I,by go_num,zb ⟨X,h2,HD.z⟩,zb ⟨h3,I,λg y=>(h4 g y).1,h5⟩⟩
   simp[intOf];omega
  have a:s.rs.length<=k:=by rw[HN.z];omega
  have ak:t=R:=by
   have X:=D.z.2.2;rw[BX a]at X;exact X
  subst ak;obtain⟨a,e,h⟩:wr tb=some v/\wr (U tb 1)=some (.int .u64 t.fl)/\wr (U tb 2)=some (.int .i64 t.most):=⟨za D.z.1.1 rfl,za D.z.1.1 rfl,za D.z.1.1 rfl⟩;obtain⟨f0,a,e⟩:wr u=some (.slice none 0 0)/\wr (U u 1)=some (.int .u64 0)/\wr (U u 2)=some (.int .i64 0):=⟨za m.z.2.2.2 rfl,za m.z.2.2.2 rfl,za m.z.2.2.2 rfl⟩;have fz:∀p,wr.frozen? ⟨u,p,none⟩=false:=λp=>zd m.z.2.2.2
  obtain⟨e,h,a,_⟩:=zi D.z.1.2;have n:AA (RG w t (.returned<|.agg #[.slice e t.rs.length h,.int .u64 t.fl,.int .i64 t.most])<|((wr.setCell u<|.slice e t.rs.length h).setCell (u,1)<|.int .u64 t.fl).setCell (u,2)<|.int .i64 t.most):=by
   have q:C9 (λg=>g=u) wr (((wr.setCell u<|.slice e t.rs.length h).setCell (U u 1)<|.int .u64 t.fl).setCell (U u 2)<|.int .i64 t.most):=(((C9.refl (λg=>g=u) wr).setCell (p:=u) rO _).setCell (p:=U u 1) rO _).setCell (p:=U u 2) rO _;refine zb ⟨_,rfl,?_,λg y=>?_,m.z.1.then q<|λg y=>.inr<|by rw[ac.z,show g=u from y];exact AI _⟩
   .have z:=q.owns D.z.1.2 (λg y x=>by
     have:=m.z.2.2.1 g y;have x:=x;omega)
    rw[a]at z;exact z
   rw[<-a]at y;have:=m.z.2.2.1 g y;have:=ac.z;omega
  have a:AA ((((wr.setCell u<|.slice e t.rs.length h).setCell (u,1)<|.int .u64 t.fl).setCell (u,2)<|.int .i64 t.most).heap[u]?=some (.cells #[.slice e t.rs.length h,t.fl,[t.most]] 138 (0,0))):=by
   refine zb ?_;rw[zc (zc<|zc m.z.2.2.2)];rfl
  go_wp2_with fail
  (try simp only[Exit.inBlock,Exit.then])
  refine bodyPost_ret (iB _ _ u (.slice e t.rs.length h) (.int .u64 t.fl) (.int .i64 t.most) rfl (za a.z rfl) (za a.z rfl) (za a.z rfl)) rfl n.z
variable{k:Nat}
def zn.l7{y:WS}(h:zn tag i b { c with ws:=zh c.ws k y } V W)(a:k<8)(j:Nat)(e:j<15)(v:rU)(x:WS)(g:Fl x (V.wb k) (V k) (V.wc k)=(Fl y (V.wb k) (V k) (V.wc k)).set j v)(m:x.b=y.b)(n:x.kH.rs=y.kH.rs)(q:x.kG.rs=y.kG.rs):zn tag i b { c with ws:=zh c.ws k x } V (W.setCell (b,9+15*k+j) v):=by
 have:=h.mN a j e v x (by simp only[zf];exact g) (by simp only[zf];exact m) (by simp only[zf];exact n) (by simp only[zf];exact q);simp only[Lq]at this;exact this
def zn.nO{y:RS}(h:zn tag i b { c with rs:=zh c.rs k y } V W)(a:k<8)(j:Nat)(e:j<13)(v:rU)(x:RS)(g:GH x (V.rb k) (V.rc k)=(GH y (V.rb k) (V.rc k)).set j v)(m:x.b=y.b)(n:x.kG.rs=y.kG.rs):zn tag i b { c with rs:=zh c.rs k x } V (W.setCell (b,129+13*k+j) v):=by
 have:=h.lZ a j e v x (by simp only[zf];exact g) (by simp only[zf];exact m) (by simp only[zf];exact n);simp only[Lq]at this;exact this
def Kz(x:WS)(n:Nat)(h:x.cut=false):x.mT n={ x with final:=max x.high n,kD:=n,kQ:=false,cut:=true }:=by
 simp[WS.mT,h]
def Ky(x:WS)(n:Nat)(h:x.cut=true)(a:n<x.kD):x.mT n={ x with kD:=n,kQ:=false,cut:=true }:=by
 simp[WS.mT,h,a]
def Kx(x:WS)(n:Nat)(h:x.cut=true)(a:¬n<x.kD):x.mT n={ x with cut:=true }:=by
 simp[WS.mT,h,a]
def fC(h:zn tag i b c V W)(Y:zL tag W)(k kD:Int)(D:∀k,k<8->(c k).b.length<=1099511627776/\(c k).high<=zG):rH 95 #[(b,0),.int .i64 k,[kD]] W (EN tag i b W (Dw (c.reset k kD).1) (c.reset k kD).2):=by
 have Z:=Ob h k;unfold CS.reset;by_cases z:c.stream k=0
 .obtain⟨m,A,-⟩:=Mr z;obtain⟨q,rfl⟩:∃q:Nat,k=(q:Int):=⟨k.toNat,I⟩;have a:q<8:=I;rw[z]at Z;simp only[z,Am,ne_eq,Av,BE];have m:=zb h;have m:=zb Y;have m:W (b,9+q*15+6)=some (.int .i64 ((c q).kG.most:Int)):=by rw[AN];exact h.w (j:=6) a rfl
  clear m;obtain⟨x,R⟩:=nm<|c q;have A:=zb R;obtain⟨b1,b2⟩:=D q a;rw[R]at b1 b2 ⊢;obtain⟨N,hN⟩:=nm x.b.length;have w0:W (b,9+q*15)=some (V.wb q):=by rw[AN];exact h.w (j:=0) a rfl
  obtain⟨A,wc,aa,_⟩:=zi<|h.wb q a;rw[aa,R,hN]at w0;have w7:W (b,9+q*15+7)=some (.int .u64 ((c q).high:Int)):=by rw[AN];exact h.w (j:=7) a rfl
  have m:W (b,9+q*15+10)=some (.bool (c q).cut):=by rw[AN];exact h.w (j:=10) a rfl
  have ab:W (b,9+q*15+11)=some (.int .u64 ((c q).kD:Int)):=by rw[AN];exact h.w (j:=11) a rfl
  have A:W (b,9+q*15+12)=some (.int .u64 ((c q).final:Int)):=by rw[AN];exact h.w (j:=12) a rfl
  have A:W (b,9+q*15+13)=some (.bool (c q).kQ):=by rw[AN];exact h.w (j:=13) a rfl
  have fz:=λp=>h.fz p
  have K:∀A B p,(W.setCell ⟨b,A,none⟩ B).frozen? ⟨b,p,none⟩=false:=λA B p=>zd<|zc h.obj
  have af:∀A B K L p,((W.setCell ⟨b,A,none⟩ B).setCell ⟨b,K,none⟩ L).frozen? ⟨b,p,none⟩=false:=λA B K L p=>zd<|zc<|zc h.obj
  have ag:∀A B K L p3 v3 p,(((W.setCell ⟨b,A,none⟩ B).setCell ⟨b,K,none⟩ L).setCell ⟨b,p3,none⟩ v3).frozen? ⟨b,p,none⟩=false:=λA B K L p3 v3 p=>zd<|zc<|zc<|zc h.obj
  rw[R]at w7 m ab;obtain⟨n,E⟩:=nm<|min kD.toNat N;rw[hN,E];have h0:zn tag i b { c with ws:=zh c.ws q x } V W:=by
   rw[<-R,Fx];exact h
  have A:∀W',zn tag i b { c with ws:=zh c.ws q (x.mT n) } V W'->C9 (λg=>g=b) W W'->Dv tag i b W { c with ws:=zh c.ws q (x.mT n) } W':=λW' B K=>B.left Y<|h.ni K
  have HF:=zb A;have H0:=zb h0;have B:n<=N:=I;have ae:=zb E;have B:IntKind.u64.wrap (n:Int)=(n:Int):=by rw[IntKind.wrap_u64];omega
  have y2:IntKind.u64.wrap (N:Int)=(N:Int):=by rw[IntKind.wrap_u64];omega
  have y3:IntKind.u64.wrap 0=0:=by rw[IntKind.wrap_u64];rfl
  have y4:kD<0\/(N:Int)<kD\/IntKind.u64.wrap kD=kD:=by rw[IntKind.wrap_u64];omega
  have B:(q:Int)<8:=I;have B:(0:Int)<=q:=I;obtain⟨G,B⟩:=nm x.high;obtain⟨kp,K⟩:=nm x.kD;obtain⟨cu,L⟩:=nm x.cut;rw[B]at w7 b2;rw[K]at ab;rw[L]at m;have HI:=zb B;have HK:=zb K;have HC:=zb L;unfold zG at b2;clear h Y h0 z aa R hN E A B K L D;go_enter func95,ntmps95;go_upto_region 5 with(go_at_call 131;refine Z.mono ?_;rintro _ _ ⟨rfl,rfl⟩;unfold Dw;simp only[Aq])
  go_cut [9] (λm A=>m=.int .u64 n/\A=W)
  case first =>
   go_wp2_with fail;all_goals
    go_meet;have X:=ae.z;exact⟨by congr 1;omega,rfl⟩
  case rest =>
  obtain⟨rfl,hw⟩:=hcut;have hw:=hw.symm;subst hw;clear y2 y3 y4;have e7:AA (9+q*15+12=9+15*q+12):=zb I;have e8:AA (9+q*15+11=9+15*q+11):=zb I;have e9:AA (9+q*15+13=9+15*q+13):=zb I;have M:AA (9+q*15+10=9+15*q+10):=zb I;have u:∀{m WB:rT} (p:Nat) (v:rU),C9 (λg=>g=b) m WB->C9 (λg=>g=b) m (WB.setCell (b,p) v):=λp v m=>m.setCell (p:=⟨b,p,none⟩) rO v
  cases cu
  .have C:=Kz x n HC.z;obtain⟨F,g⟩:=nm<|max G n;have ac:=zb g;have m:=H0.z.l7 a 12 lc (.int .u64 F) { x with final:=max x.high n } (by rw[<-g,<-HI.z];rfl) rfl rfl rfl;have X:=m.l7 a 11 lc (.int .u64 n) { x with final:=max x.high n,kD:=n } rfl rfl rfl rfl;have h3:=X.l7 a 13 lc (.bool false) { x with final:=max x.high n,kD:=n,kQ:=false } rfl rfl rfl rfl;have y:=h3.l7 a 10 lc (.bool true) { x with final:=max x.high n,kD:=n,kQ:=false,cut:=true } rfl rfl rfl rfl;rw[<-C]at y;have H:=zb<|HF.z _ y<|u _ _<|u _ _<|u _ _<|u _ _ rS;rw[<-e7.z,<-e8.z,<-e9.z,<-M.z]at H;clear m X h3 y C g;by_cases ad:G<=n
   .have O:F=n:=qm ac.z;subst O;have d3:(G:Int)<=F:=I;have d4:¬(F:Int)<G:=I;clear ad;go_wp2_with fail;all_goals first|(exfalso;omega)|skip
    all_goals go_ret
    all_goals refine⟨rfl,?_⟩
    all_goals first|exact H.z|(have e:(G:Int)=F:=I;rw[e];exact H.z)|(have e:(n:Int)=F:=I;rw[<-e]at H;exact H.z)
   have O:F=G:=qm ac.z;subst O;have d3:¬(F:Int)<=n:=I;have d4:(n:Int)<F:=I;clear ad;go_wp2_with fail;all_goals first|(exfalso;omega)|skip
   all_goals go_ret
   all_goals refine⟨rfl,?_⟩
   all_goals first|exact H.z|(have e:(G:Int)=F:=I;rw[e];exact H.z)|(have e:(n:Int)=F:=I;rw[<-e]at H;exact H.z)
  by_cases e:n<kp
  .have C:=Ky x n HC.z (by rw[HK.z];exact e);have X:=H0.z.l7 a 11 lc (.int .u64 n) { x with kD:=n } rfl rfl rfl rfl;have h3:=X.l7 a 13 lc (.bool false) { x with kD:=n,kQ:=false } rfl rfl rfl rfl;have y:=h3.l7 a 10 lc (.bool true) { x with kD:=n,kQ:=false,cut:=true } rfl rfl rfl rfl;rw[<-C]at y;have H:=zb<|HF.z _ y<|u _ _<|u _ _<|u _ _ rS;rw[<-e8.z,<-e9.z,<-M.z]at H;have g:(n:Int)<kp:=I;clear e;clear X h3 y C;go_wp2;go_ret;exact⟨rfl,H.z⟩
  have C:=Kx x n HC.z (by rw[HK.z];exact e);have y:=H0.z.l7 a 10 lc (.bool true) { x with cut:=true } rfl rfl rfl rfl;rw[<-C]at y;have H:=zb<|HF.z _ y<|u _ _ rS;rw[<-M.z]at H;have g:¬(n:Int)<kp:=I;clear e;clear y C;go_wp2;go_ret;exact⟨rfl,H.z⟩
 obtain⟨n,E⟩:=nm<|c.stream k;have H0:=zb<|h.left Y rS;rw[E]at Z z;simp only[E,z,ne_eq,Ae,Aq];rw[Ic z]at Z ⊢;clear h Y E z D;go_enter func95,ntmps95;go_wp2_with (go_at_call 131;refine Z.mono ?_;rintro _ _ ⟨rfl,rfl⟩);go_ret;exact⟨rfl,H0.z⟩
def fB(h:zn tag i b c V W)(E:Dn i tag W)(k kD:Int)(a:∀k,k<8->(c k).b.length<=1099511627776/\(c k).high<=zG):rH 56 #[(b,0),.int .i64 k,[kD]] W (EN tag i b W (.int .i64 ((c.reset k kD).1:Int)) (c.reset k kD).2):=by
 have g:=fC h E.ok k kD a;have n:=zb E;clear h E a;go_enter func56,ntmps56;go_wp2_with fail;refine g.mono ?_;rintro _ W1 ⟨rfl,e⟩;obtain⟨tag',V',q,a,h⟩:=id e;have u:=Ie (c.reset k kD).1 W1 (n.z.left a h).err;have y:=zb e;clear e q a h g;go_wp2_with fail;refine u.mono ?_;rintro _ W2 ⟨rfl,m⟩;have H:=zb<|y.z.lR m;clear m;go_wp2;go_ret;exact⟨rfl,H.z⟩
end
section
open Go.RowKit Go.Proofs.Tryz Go.Shelf
attribute [local go_sem] Oper.semAt_some
def Ni(Q:Exit->Act->rT->Prop):Exit->Act->rT->Prop:=λe a w=>e=.normal/\Q .normal a w
variable{P:Program}{Q:Exit->Act->rT->Prop}{w:rT}
def zN{c:Code}{a:Act}(h:c.wp P (Ni Q) a w):c.wp P Q a w :=
 wp_mono h (λe a w k=>by rw[k.1];exact k.2)
def MV(s:DO)(b o:Nat)(v:rU)(w w':rT)(v':rU):Prop :=
 w'.ownsRow 0 110 2 v' s.rs.length (zw s.rs)/\w'.heap[b]?=((w.setCell (b,o) v').setCell (b,o+1)<|.int .u64 s.fl).heap[b]?/\C9 (λk=>k=b\/v.ownBlock=some k) w w'/\Dh w v v'
structure LR(s:DO)(b o e0:Nat)(cs0:Array rU)(v:rU)(w:rT)(db rb:Nat)(rec:Loop)(pre:zE)(v':rU)(X:rT):Prop where
 own:X.ownsRow 0 110 2 v' (s.lY pre).rs.length (zw (s.lY pre).rs)
 ob:X.heap[b]?=some (.cells ((cs0.setIfInBounds o v').setIfInBounds (o+1)<|.int .u64 ((s.lY pre).fl:Int)) e0 (0,0))
 m:C9 (λk=>k=b\/v.ownBlock=some k) w X
 nw:Dh w v v'
 ok:(s.lY pre).Ok
 mo:(s.lY pre).most=s.most
 df:X.heap[db]?=some (.deferred<|some [])
 rc:X.heap[rb]?=some (.loop rec)
variable{base e g n sz:Nat}{v:rU}{xs:qt}
def Ii(h:w.ownsRow base e sz v n xs)(m:v.ownBlock=some g):∃a,w.heap[g]?=some (.cells a e (0,0)):=by
 rcases h.2 with⟨rfl,_⟩|⟨e,c,a,rfl,_,q,_⟩
 .simp[Value.ownBlock]at m
 simp[Value.ownBlock]at m;subst m;exact⟨a,q⟩
variable{b db o rb:Nat}
def LR.nA{s:DO}{u:Nat}{a:Array rU}{B:Nat}{e:Loop}(g:w.heap.size<=B)(hb:b<B)(hd:db<B)(D:rb<B):OwnFrom B (λpre X=>∃g,LR s b o u a v w db rb e pre g X):=by
 rintro pre A C row ⟨g,h⟩ n a;have m:∀k,k<B->some k≠row:=λk u e=>qm<|(a k e.symm).1
 have y:=rS.grown n<|λk u=>.inl u;refine⟨g,y.owns h.own<|λg e u=>?_,(n.block _ (AJ.1 h.ob).1<|m _ hb).trans h.ob,h.m.then y<|λi y=>.inr<|qm<|(a i y).1,h.nw,h.ok,h.mo,?_,?_⟩
 .obtain⟨y,z⟩:=Ii h.own e;obtain⟨_,y,e,q⟩:=a g u;rw[e]at z;cases z;cases q
 .exact(n.block _ (AJ.1 h.df).1<|m _ hd).trans h.df
 exact(n.block _ (AJ.1 h.rc).1<|m _ D).trans h.rc
def dO(cs:Array rU)(o:Nat)(a x b y:rU):(((cs.setIfInBounds o a).setIfInBounds (o+1) x).setIfInBounds o b).setIfInBounds (o+1) y=(cs.setIfInBounds o b).setIfInBounds (o+1) y:=by
 apply CP;intro i;simp only[BN,Co];by_cases a:o+1=i
 .simp[a]
 by_cases e:o=i
 .simp[a,e]
 simp[a,e]
variable{X:rT}{v':rU}
def LR.set{s:DO}{g:Nat}{a:Array rU}{e:Loop}{pre:zE}(h:LR s b o g a v w db rb e pre v' X)(n:o+2<a.size)(m:a[o+2]?=some (.int .i64 s.most)):Ed X b o v' (s.lY pre).rs (s.lY pre).fl (s.lY pre).most:=by
 refine⟨za h.ob ?_,za h.ob ?_,za h.ob ?_,h.own,qn h.ok.rl h.ok.most.2,λj=>zd h.ob⟩
 .simp[BN];omega
 .simp[BN];omega
 simp[BN,h.mo];have:=m;simpa using this
theorem U2:∀(l:zE) (a e:Nat) (t:DO),(IZ l a e t).most=t.most
 | [],_,_,_=>rfl
 | r::l,a,e,t=>by
  unfold IZ;rw[U2 l a e];split
  .split
   .rw[Hl,Hl]
   rw[Hl]
  split
  .rw[Hl]
  rfl
theorem QH:∀(l:zE) (t:DO),(t.lY l).most=t.most
 | [],_=>rfl
 | r::l,t=>by
  have:t.lY (r::l)=(t.add r.1 r.2).lY l:=rfl;rw[this,QH l,Hl]
def QG(t:DO)(l:zE)(r:Nat×Nat):t.lY (l++[r])=(t.lY l).add r.1 r.2:=by
 simp[DO.lY]
structure zJ(tag:qr)(i b:Nat)(W0:rT)(V0:CV)(c:CS)(tag':qr)(V':CV)(W':rT):Prop where
 c:zn tag' i b c V' W'
 e:DK i tag tag' W0 W'
 m:C9 (Da i tag) W0 W'
 p:0<i
 ft:V'.ft=V0.ft/\V'.lh=V0.lh
variable{V' V0:CV}{W' W'' W0:rT}{c:CS}{i k:Nat}{tag tag':qr}
def zJ.kH{s:DO}(h:zJ tag i b W0 V0 c tag' V' W')(z:k<8)(y:MV s b (9+15*k+1) (V' k) W' W'' v')(E:s.most=(c k).kH.most):∃e u,zJ tag i b W0 V0 { c with ws:=zh c.ws k { c.ws k with kH:=s } } e u W''/\∀g,g<W'.heap.size->e g=tag' g:=by
 obtain⟨n,u,e,B⟩:=y;have C:=h.p;have A:∀{g r:Nat},tag' g=(i,r)->g<W'.heap.size:=λm=>Ds h.e.z m C
 have y:∀g,(tag' g).1=i->zT tag' W' W'' (i,20+k) g=tag' g:=λg m=>zx<|A (r:=(tag' g).2)<|by rw[<-m]
 have D:∀g,(g=b\/(V' k).ownBlock=some g)->∃r,(r=1\/r=20+k)/\tag' g=(i,r):=λg m=>by
  rcases m with m|m
  .exact⟨1,.inl rfl,by rw[m,h.c.tb]⟩
  exact⟨20+k,.inr rfl,h.c.nC k z g m⟩
 refine⟨zT tag' W' W'' (i,20+k),{ V' with ws:=zh V'.ws k v' },⟨?_,h.e.trans (Gf e.size) h.m.size,Ek h.e h.m<|e.mono<|λg m=>.inl ?_,C,h.ft⟩,λg m=>zx m⟩
 .refine h.c.build (R:=λr=>r=1\/r=20+k) e D y ?_ rL (λq e=>.inl ⟨?_,rfl,I⟩) (λq e=>?_) (λq e=>.inl ⟨?_,rfl,I⟩) (λq e=>.inl rK) (λq e=>.inl rK) rL rJ rJ rJ
  .rw[u,zc (zc h.c.obj)];simp only[Ab];have G:=Gn c c V' { V' with ws:=zh V'.ws k v' } (k:=k) (j:=1) v' z lc (λq _=>by
    by_cases a:q=k
    .subst a;simp only[zf,Aq];rfl
    simp only[zl _ _ a,AH a]) rfl rfl rfl
   rw[G];have K:=Gn c { c with ws:=zh c.ws k { c.ws k with kH:=s } } { V' with ws:=zh V'.ws k v' } { V' with ws:=zh V'.ws k v' } (k:=k) (j:=2) (.int .u64 s.fl) z lc (λq _=>by
    by_cases a:q=k
    .subst a;simp only[zf,Aq,Fl,E];rfl
    simp only[zl _ _ a,AH a]) rfl rfl rfl
   rw[show 9+15*k+1+1=9+15*k+2 from rfl,K]
  .by_cases a:q=k
   .subst a;simp only[zf]
   simp only[zl _ _ a]
  .by_cases a:q=k
   .subst a;simp only[zf];refine .inr ⟨n,λg m=>?_⟩;rcases B g m with y|y
    .rw[zx (A<|h.c.nC q z g y),h.c.nC q z g y]
    exact FH y<|zI n g m
   exact .inl ⟨by simp only[zl _ _ a],by simp only[zl _ _ a],I⟩
  by_cases a:q=k
  .subst a;simp only[zf]
  simp only[zl _ _ a]
 obtain⟨r,a,e⟩:=D g m;exact EM e I
def zJ.kI(h:zJ tag i b W0 V0 c tag' V' W')(m:C9 DA W' W''):zJ tag i b W0 V0 c tag' V' W'' :=
 ⟨h.c.kI m,⟨h.e.lH,h.e.new,h.e.z.mod m⟩,h.m.trans<|m.mono rQ,h.p,h.ft⟩
variable{S:Nat->Prop}
def zJ.free(h:zJ tag i b W0 V0 c tag' V' W')(m:C9 S W' W'')(e:∀g,S g->tag' g=(0,0)/\W0.heap.size<=g):zJ tag i b W0 V0 c tag' V' W'':=by
 have a:=h.p;exact⟨h.c.mod m (λg a=>by rw[(e g a).1];simp;omega)<|λ_ _=>rfl,⟨h.e.lH,h.e.new,h.e.z.mod m⟩,h.m.then m<|λg a=>.inr (e g a).2,h.p,h.ft⟩
variable{c':CS}
def zJ.store(h:zJ tag i b W0 V0 c tag' V' W')(j:Nat)(v:rU)(e:(zA c V').set j v=zA c' V')(s:Ib c c'):zJ tag i b W0 V0 c' tag' V' (W'.setCell (b,j) v):=by
 have a:C9 (λq=>q=b) W' (W'.setCell (b,j) v):=(C9.refl (λq=>q=b) _).setCell (p:=(b,j)) rO _;exact⟨h.c.store j v e s,⟨h.e.lH,h.e.new,h.e.z.mod a⟩,Ek h.e h.m<|a.mono<|λq a=>.inl<|EM (r:=1) (by rw[show q=b from a];exact h.c.tb) lc,h.p,h.ft⟩
def zJ.mN{y:WS}(h:zJ tag i b W0 V0 { c with ws:=zh c.ws k y } tag' V' W')(e:k<8)(j:Nat)(g:j<15)(v:rU)(x:WS)(m:Fl x (V'.wb k) (V' k) (V'.wc k)=(Fl y (V'.wb k) (V' k) (V'.wc k)).set j v)(n:x.b=y.b)(u:x.kH.rs=y.kH.rs)(z:x.kG.rs=y.kG.rs):zJ tag i b W0 V0 { c with ws:=zh c.ws k x } tag' V' (W'.setCell (b,9+15*k+j) v):=by
 have a:C9 (λq=>q=b) W' (W'.setCell (b,9+15*k+j) v):=(C9.refl (λq=>q=b) _).setCell (p:=⟨b,_,none⟩) rO _;exact⟨h.c.l7 e j g v x m n u z,⟨h.e.lH,h.e.new,h.e.z.mod a⟩,Ek h.e h.m<|a.mono<|λq a=>.inl<|EM (r:=1) (by rw[show q=b from a];exact h.c.tb) lc,h.p,h.ft⟩
variable{j:Nat}
def ju{D:Nat}{o:Obj}(h:b≠D):(w.setCell (b,j) v).putObj D o=(w.putObj D o).setCell (b,j) v:=by
 simp only[World.setCell,World.putObj];congr 1;apply CP;intro q;simp only[B4,BN,Array.size_modify];by_cases a:D=q
 .subst a;simp[h]
 by_cases e:b=q
 .subst e;simp[a]
 simp[a,e]
def IY(tag:qr)(i b:Nat)(W0:rT)(a:CV)(c:CS)(e:Ending)(W':rT):Prop:=e=.returned (.tuple #[])/\∃tag' V',zJ tag i b W0 a c tag' V' W'
structure LQ(c:CS)(f:DF)(k:Nat):Prop where
 lt:k<8
 st:f.stream=(k:Int)
 kH:(c k).kH.Ok
 kG:(c k).kG.Ok
 end_:f.off+f.data.length<=zG
 dl:f.data.length<=1099511627776
variable{V:CV}{W:rT}
def zn.px(h:zn tag i b c V W)(a:k<8)(e:(c k).kG.rs.length<=1099511627776):Ed W b (9+15*k+4) (V.wc k) (c k).kG.rs (c k).kG.fl (c k).kG.most :=
 ⟨h.w (j:=4) a rfl,h.w (j:=5) a rfl,h.w (j:=6) a rfl,h.wc k a,e,λj=>h.fz j⟩
variable{lO:qr}
theorem ey(h:zJ tag i b W0 V0 c lO V W)(f:DF)(rv:rU)(k:Nat)(ok:LQ c f k)(bM:f.kind=4)(u:∃a n bN,rv=.slice a n bN):rH 135 #[(b,0),.agg (ze f rv)] W (IY tag i b W0 V0 { c with ws:=zh c.ws k ((c k).again f) }):=by
 have hk:=ok.lt;have a9:=ok.st;obtain⟨ra,rn,aQ,rfl⟩:=u;obtain⟨x,hx⟩:=nm<|c k;rw[hx];have HX:=zb hx;obtain⟨fr,bO⟩:=nm<|Value.slice ra rn aQ;have bP:=ok;have ag:=zb ok;have HH:=zb h;obtain⟨z,u⟩:=nm f.off;obtain⟨DL,aH⟩:=nm f.data.length;have b1:=ok.end_;have b2:=ok.dl;rw[u,aH]at b1;rw[aH]at b2;unfold zG at b1;have bQ:=zb u;have ba:=zb aH;have d0:(0:Int)<=k:=I;have d8:(k:Int)<8:=I;obtain⟨W1,au⟩:=nm<|W.alloc<|.cells (ze f<|.slice ra rn aQ) 48;have m1:=AB au;have aI:zp W1 W.heap.size f (.slice ra rn aQ):=by rw[<-au];exact heap_alloc_new W _
 have ah:=AC au;obtain⟨m,bb⟩:=nm W.heap.size;rw[bb]at aI ah;have ce:=zb aI;have bR:=zb au;have av:=zb bb;have M1:=zb m1;have bc:=zb ah;obtain⟨y0,y1,y2,y3,y4,y5,y6,y7,y8,y9⟩:=aI.cells;rw[bM]at y0;rw[a9]at y1;rw[u]at y2;clear h ok hx bO u aH m1 aI ah au bP a9;refine(callsIn_wide (n:=8)).1 ?_;refine callsIn_of_wp_marks func135 rfl trivial ?_ rfl;simp only[ntmps135,PM,Nat.reduceAdd,Nat.reduceSub];refine wpIn_wide.2 ?_;go_upto_region 1 with fail;rw[bR.z];have ah:=bc.z;obtain⟨O,aJ⟩:=nm<|(W1.alloc<|.cells #[(b,9+k*15)] 204).drew;have h:=zb aJ;go_upto_region 3 with fail
 go_cut [4]from 12 to 112 (λh wx=>h=.pointer (U (m+1) 0)/\wx=O)
 case first =>
  refine zN ?_;refine zr 7 (λw'=>w' (U m 1)=some (.int .i64 k)) (y1) ?_;refine GI 0 ?_;iterate 6
   refine GV rfl ?_;try simp only[PS]
  refine zD 6 rfl (λK hK=>?_);go_simp;have h:=λo=>((C9.refl DA W1.drew).alloc o).cell (a:=U m 1) id y1
  refine hK.z _ _ (h _) ?_;clear hK K;try simp only[PS]
  refine Dt rfl (λK hK=>?_);have h:∀u,((W1.drew.alloc<|.cells #[.pointer none] 204) (m+1,0)=some (.pointer none))/\(W1.drew.alloc<|.cells #[.pointer none] 204).frozen? ⟨m+1,0,none⟩=u->True:=λ_ _=>trivial
  have h:(W1.drew.alloc<|.cells #[.pointer none] 204).heap[m+1]?=some (.cells #[.pointer none] 204 (0,0)):=by
   rw[<-ah];exact heap_alloc_new W1.drew _
  have u:=za (o:=0) h rfl;have z2:∀p,(W1.drew.alloc<|.cells #[.pointer none] 204).frozen? ⟨m+1,p,none⟩=false:=λp=>zd h
  go_simp;refine hK.z _ _ ?_;clear hK K;try simp only[PS]
  refine zt ?_;refine⟨rfl,?_⟩;go_wp2;go_meet;exact rM
 case rest =>
 obtain⟨rfl,hw⟩:=hcut;have hw:=hw.symm;subst hw;have h:C9 DA W1 O:=by rw[<-aJ];exact(rS.alloc _).drew
 have be:O.heap.size=m+2:=by rw[<-aJ];simp[World.drew,bc.z]
 have bf:O (m+1,0)=some (.pointer (b,9+k*15)):=by
  rw[<-aJ];have:=heap_alloc_new W1<|.cells #[(b,9+k*15)] 204;rw[ah]at this;exact za (o:=0) this rfl
 have z2:=h.cell (a:=U m 2) id y2;have z5:=h.cell (a:=U m 5) id y5;have z8:=h.cell (a:=U m 8) id y8;have ad:=zb<|HH.z.kI<|M1.z.trans h;have u:=zb<|M1.z.trans h;have bS:(zy f.data).size=DL:=by rw[zM];exact ba.z
 have u:=iA x.kH b (9+15*k+1) z (z+DL) (V k) O.drew (by
  rw[<-HX.z];exact(ad.z.kI (C9.refl DA O).drew).c.nP hk (qn ag.z.kH.rl ag.z.kH.most.2)) (by rw[<-HX.z];exact ag.z.kH) (by unfold zG;omega) (by unfold zG;omega)
 rw[AN 15 k]at u;have bg:((z+DL:Nat):Int)=(z:Int)+DL:=I;rw[bg]at u;have bT:=zb u;have w1:O (b,9+k*15+1)=some (V k):=by rw[AN k 15];exact ad.z.c.w (j:=1) hk rfl
 have w2:O (b,9+k*15+2)=some (.int .u64 ((c k).kH.fl:Int)):=by rw[AN k 15];exact ad.z.c.w (j:=2) hk rfl
 have w3:O (b,9+k*15+3)=some (.int .i64 ((c k).kH.most:Int)):=by rw[AN k 15];exact ad.z.c.w (j:=3) hk rfl
 have bU:IntKind.u64.wrap (DL:Int)=(DL:Int):=by rw[IntKind.wrap_u64];omega
 have bV:=wu ((z:Int)+DL) I;have aR:=zb bf;have aS:=zb be;have bh:=zb<|And.intro w1<|And.intro w2 w3;clear h y1 y2 y3 y4 y5 y6 y7 y8 y9 u be ah bg w1 w2 w3;go_upto_region 4 with fail
 go_cut []from 12 to 112 (λwx=>∃(ac:qr) (R:CV),AA (zJ tag i b W0 V0 { c with ws:=zh c.ws k { c.ws k with kH:=x.kH.lp z (z+DL) } } ac R wx)/\AA ((∀g,g<O.heap.size->ac g=lO g)/\C9 (λg=>g=b) O wx/\(x.kH.lp z<|z+DL).Ok/\(x.kH.lp z<|z+DL).most=(c k).kH.most))
 case first =>
  refine zN ?_;refine zr 16 (λw'=>w' (U (m+1) 0)=some (.pointer (b,9+k*15))/\w' (U m 2)=some (.int .u64 z)/\w' (U m 8)=some (.string<|zy f.data)) (⟨bf,z2,z8⟩) ?_;refine GI 0 ?_;iterate 13
   refine GV rfl ?_;try simp only[PS]
  refine zD 13 rfl (λK hK=>?_);go_simp;refine bT.z.mono ?_;rintro e W4 ⟨h,rfl,aT,aU,m4⟩;obtain⟨aV,aW,bW,_⟩:=zi aT;have M4:=zb m4;have mm:=(C9.refl DA O).drew.trans m4;refine hK.z _ _ ⟨mm.cell (a:=U (m+1) 0) id aR.z,mm.cell (a:=U m 2) id z2,mm.cell (a:=U m 8) id z8⟩ ?_;clear hK K;try simp only[PS]
  refine GI 14 ?_;iterate 2
   refine GV rfl ?_;try simp only[PS]
  refine Dt rfl (λK hK=>?_);have mm:=(C9.refl DA O).drew.trans M4.z;obtain⟨w1,w2,w3⟩:=bh.z;have q1:=mm.cell (a:=⟨b,_,none⟩) id w1;have q2:=mm.cell (a:=⟨b,_,none⟩) id w2;have h:=mm.cell (a:=⟨b,_,none⟩) id w3;have h:∀p,W4.frozen? ⟨b,p,none⟩=false:=λp=>zd<|mm.obj rP ad.z.c.obj
  have h:∀p v p',(W4.setCell ⟨b,p,none⟩ v).frozen? ⟨b,p',none⟩=false:=λp v p'=>zd<|zc<|mm.obj rP ad.z.c.obj
  have cf:∀p v h u p',((W4.setCell ⟨b,p,none⟩ v).setCell ⟨b,h,none⟩ u).frozen? ⟨b,p',none⟩=false:=λp v h u p'=>zd<|zc<|zc<|mm.obj rP ad.z.c.obj
  subst bW;clear w1 w2 w3 mm;go_simp;refine hK.z _ _ ?_;clear hK K;try simp only[PS]
  refine zt ?_;have h:=zo bh.z.1;have an:(x.kH.lp z<|z+DL).most=(c k).kH.most:=by rw[HX.z];exact U2 _ _ _ _
  obtain⟨E,B⟩:=nm<|x.kH.lp z<|z+DL;rw[B]at aT aU an ⊢;have aw:=zb B;have aX:E.Ok:=by
   rw[<-B];exact Qj _ _ _ _ (λr hr=>by
    obtain⟨j,G⟩:=Cz hr;have aY:=(AO.1 G).1;have e:=Gz aY;rw[G]at e;cases e;rw[<-HX.z]at aY ⊢;exact ag.z.kH.hi j aY) (Id _<|by rw[<-HX.z];exact ag.z.kH.most)
  obtain⟨Z,ax⟩:=nm<|(((W4.setCell (b,9+k*15+1)<|.slice aV E.rs.length aW).setCell (b,9+k*15+1+1)<|.int .u64 E.fl).setCell (b,9+k*15+1+2)<|.int .i64 E.most);have h:C9 (λg=>g=b) W4 Z:=by
   rw[<-ax];exact(((C9.refl (λg=>g=b) W4).setCell (p:=⟨b,_,none⟩) rO _).setCell (p:=⟨b,_,none⟩) rO _).setCell (p:=⟨b,_,none⟩) rO _
  have u:=M4.z;have ae:MV E b (9+15*k+1) (V k) O.drew Z (.slice aV E.rs.length aW):=by
   refine⟨h.owns aT<|λg hg x=>?_,?_,(u.mono rQ).trans<|h.mono<|λg hg=>.inl<|.inl hg,λg hg=>.inr<|aU g hg⟩
   .have:=aU g hg;have x:=x;have e:O.drew.heap.size=O.heap.size:=rfl;omega
   have o3:O.drew.heap[b]?=some (.cells (zA c V).toArray 147 (0,0)):=ad.z.c.obj;have o4:=u.obj rP o3;have ep:9+k*15+1=9+15*k+1:=I;rw[<-ax,ep];have bX:((W4.setCell (b,9+15*k+1)<|.slice aV E.rs.length aW).setCell (b,9+15*k+1+1)<|.int .u64 E.fl) (b,9+15*k+1+2)=some (.int .i64 E.most):=by
    refine za (zc<|zc o4) ?_;have h3:(zA c V)[9+15*k+3]?=some (.int .i64 ((c k).kH.most:Int)):=Le c V hk rfl;rw[CT I,CT I,BF,h3,an]
   rw[M9 bX,zc<|zc o4,zc (zc o3)]
  obtain⟨ac,R,R5,bY⟩:=(ad.z.kI (C9.refl DA O).drew).kH hk ae an;have e:AA ((∀g,g<O.heap.size->ac g=lO g)/\C9 (λg=>g=b) O Z/\E.Ok/\E.most=(c k).kH.most):=zb ⟨bY,(((C9.refl DA O).drew.trans u).mono rQ).trans h,aX,an⟩;have aj:=zb R5;clear R5;rw[ax];refine⟨rfl,?_⟩;go_wp2;go_meet;rw[aw.z];exact⟨ac,R,aj,e⟩
 case rest =>
 obtain⟨ac,R,aj,ak⟩:=hcut;obtain⟨Z,ax⟩:=nn wc;subst ax;obtain⟨E,B⟩:=nm<|x.kH.lp z<|z+DL;rw[B]at aj ak;have aw:=zb B;have h:=zo<|HH.z.c.hd (j:=0) rfl;have h:Z (m+1,0)=some (.pointer (b,9+k*15))/\Z (m,5)=some (.bool f.fin):=by
  have e:=av.z;exact⟨ak.z.2.1.cell (a:=U (m+1) 0) (λx=>by have x:m+1=b:=x;omega) aR.z,ak.z.2.1.cell (a:=U m 5) (λx=>by have x:m=b:=x;omega) z5⟩
 have u:m+2<=Z.heap.size:=by
  have:=aS.z;have h1:=ak.z.2.1.size;omega
 clear B z2 z5 z8 y0 bU bV bS aR;have u:=zo<|aj.z.c.hd (j:=0) rfl;obtain⟨bi,bZ⟩:=h;go_upto_region 5 with fail;go_wp2_with (go_at_call 81;refine((callsIn_wide (n:=8)).1<|YS Fence.wide 8 trivial rfl b (9+k*15+4) Z).mono ?_;rintro e h ⟨rfl,rfl⟩);obtain⟨sB,h⟩:=nm Z.heap.size;have u:b<sB:=I;obtain⟨W6,ap⟩:=nm<|Z.alloc<|.cells #[(b,9+k*15+4)] 101;have bj:=ap;have m6:=AB ap;have ay:W6.heap.size=sB+1:=by rw[<-ap];simp[h]
 have b0:W6 sB=some (.pointer (b,9+k*15+4)):=by
  rw[<-ap,<-h];exact za (heap_alloc_new Z _) rfl
 try rw[ap]
 try rw[h]
 refine(wpIn_wide (n:=8)).1 ?_;refine Uv rfl lc (gf:=111) (lb:=#[.pointer sB]) rfl trivial (enters_of func111 kw rfl) ?_;intro fn h;generalize hrec:Loop.mk .ready none fn _ _ _ _ _=rec;rw[ay]at hrec ⊢;obtain⟨D,h⟩:=nm<|sB+1;rw[h]at hrec ay ⊢;obtain⟨W7,aq⟩:=nm<|(W6.alloc<|.deferred<|some []).alloc<|.loop rec;have bk:C9 DA W6 W7:=by rw[<-aq];exact(rS.alloc _).alloc _
 have h:W7.heap.size=D+2:=by rw[<-aq];simp[ay]
 have h:W7.heap[D]?=some (.deferred<|some []):=by
  rw[<-aq,<-ay];exact(Below.heap_alloc _ _ _ nl).trans (World.alloc_heap_new W6 _)
 have n:W7.heap[D+1]?=some (.loop rec):=by
  rw[<-aq];have:=World.alloc_heap_new (W6.alloc<|.deferred<|some [])<|.loop rec;rw[World.size_alloc,ay]at this;exact this
 rw[aq];have al:=m6.trans bk;have C5:=aj.z.c;obtain⟨c5,aZ⟩:∃c5:CS,{ c with ws:=zh c.ws k { c.ws k with kH:=E } }=c5:=⟨_,rfl⟩;rw[aZ]at aj C5;have aA:c5.ws k={ x with kH:=E }:=by rw[<-aZ,<-HX.z];simp[zf]
 obtain⟨rs,ar⟩:=nm x.kG.rs;have A:=C5.wc k hk;rw[aA]at A;have A:Z.ownsRow 0 110 2 (R.wc k) rs.length (zw rs):=by rw[<-ar];exact A
 obtain⟨a5,aB,aK,_⟩:=zi A;rw[aK]at A;have aC:∀j,(λr:Nat×Nat=>r.1<=zG/\r.2<=zG) (DE rs j,DB rs j):=λj=>by
  by_cases G:j<rs.length
  .have h1:=ag.z.kG.hi j (by rw[HX.z,ar];exact G);have h2:=ag.z.kG.wf.1 j (by rw[HX.z,ar];exact G);rw[HX.z,ar]at h1 h2;exact⟨by show DE rs j<=zG;omega,h1⟩
  have:DE rs j=0/\DB rs j=0:=by
   unfold DE DB;rw[AQ,BJ I];exact rM
  rw[this.1,this.2];exact⟨AK _,AK _⟩
 have bl:∀j,j<rs.length->DE rs j<18446744073709551616/\DB rs j<18446744073709551616:=λj _=>by
  have:=aC j;unfold zG at this;omega
 have aa:∃aa,aa=(zA c5 R).toArray:=⟨_,rfl⟩;obtain⟨aa,af⟩:=aa;have bm:Z.heap[b]?=some (.cells aa 147 (0,0)):=by rw[af];exact C5.obj
 have g0:aa[9+k*15+1]?=some (R k):=by rw[af,BF,AN k 15];exact Le c5 R (j:=1) hk rfl
 have g1:aa[9+k*15+1+1]?=some (.int .u64 E.fl):=by rw[af,BF,AN k 15];have:=Le c5 R (k:=k) (j:=2) (v:=.int .u64 ((c5 k).kH.fl:Int)) hk rfl;rw[aA]at this;exact this
 have g2:aa[9+k*15+1+2]?=some (.int .i64 E.most):=by rw[af,BF,AN k 15];have:=Le c5 R (k:=k) (j:=3) (v:=.int .i64 ((c5 k).kH.most:Int)) hk rfl;rw[aA]at this;exact this
 have hz:=(AJ.1 g2).1;have owns:Z.ownsRow 0 110 2 (R k) E.rs.length (zw E.rs):=by
  have:=C5.ws k hk;rw[aA]at this;exact this
 have j0:LR E b (9+k*15+1) 147 aa (R k) Z D (D+1) rec [] (R k) W7:=by
  refine⟨al.owns owns<|λ_ _ x=>x,?_,al.mono rQ,λg hg=>.inl hg,ak.z.2.2.1,rfl,h,n⟩;rw[al.obj rP bm];congr 2;apply CP;intro j;simp only[BN,Co];by_cases q1:9+k*15+1+1=j
  .subst q1;rw[AL rfl,AL I,g1];rfl
  rw[AH q1];by_cases q2:9+k*15+1=j
  .subst q2;rw[AL rfl,AL I,g0]
  rw[AH q2]
 have n:=Ax Loop.assign hrec.symm;dsimp only at n;have u:=Ax Loop.body hrec.symm;dsimp only at u;have z:=Ax Loop.tmps hrec.symm;dsimp only at z;have O:rec.params=#[38]:=by rw[<-hrec]
 have h:rec.state=.ready:=by rw[<-hrec]
 have bn:rec.pending=none:=by rw[<-hrec]
 have bo:=zb bn;have b3:=zb n;have b4:=zb u;have b5:=zb z;have bp:=zb O;have a0:=zb h;have b6:=bk.cell (a:=sB) id b0;have b7:W7 (b,9+k*15+4)=some (.slice a5 rs.length aB):=by
  have h1:Z (b,9+k*15+4)=some (R.wc k):=by rw[AN k 15];exact C5.w (j:=4) hk rfl
  rw[aK]at h1;have:=al.cell (a:=⟨b,_,none⟩) id h1;have e:x.kG.rs.length=rs.length:=by rw[ar]
  simpa [e]using this
 have b8:RR W7 (.slice a5 rs.length aB) rs:=by
  have:=Dj.rr (rs:=rs) ⟨A,bl⟩;exact this.mod al<|DN.no _
 have b9:∀g o,a5=some ⟨g,o,none⟩->g<W7.heap.size/\g≠b/\g≠D+1:=λg o e=>by
  have B:(R.wc k).ownBlock=some g:=by rw[aK,e];rfl
  have h1:=C5.nJ k hk g B;have h2:=zI A g (by rw[e];rfl);refine⟨qm al.size,λx=>?_,I⟩;rw[x,C5.tb]at h1;simp at h1;omega
 have bq:∀g o,a5=some ⟨g,o,none⟩->g<Z.heap.size:=λg o e=>zI A g<|by rw[e];rfl
 have bs:∀g o,a5=some ⟨g,o,none⟩->(R k).ownBlock≠some g:=λg o e x=>by
  have B:(R.wc k).ownBlock=some g:=by rw[aK,e];rfl
  have h1:=C5.nJ k hk g B;have h2:=C5.nC k hk g x;rw[h1]at h2;simp at h2
 clear hrec n u z O h bn ap bj aq af;refine(cO Fence.wide 7 (λ_=>trivial) rfl lc (D+1) sB b (9+k*15+4) b aB a5 (λr=>r.1<=zG/\r.2<=zG) rs aC
  (λpre X=>∃h,LR E b (9+k*15+1) 147 aa (R k) Z D (D+1) rec (pre.map (·.1)) h X) (λ_ _=>False) W7 ?hY ?hJ ?hJx b6 b7 b8 I I b9 ⟨_,j0⟩).mono ?post
 case hJ =>
  intro pre A Y row h hg hr;exact LR.nA (B:=W7.heap.size) (qm al.size) I I I (pre.map (·.1)) A Y row h hg hr
 case hJx=>intro _ _ _ _ x;exact x.elim
 case hY =>
  rintro pre y X ⟨v,G⟩ h;have C:=zb G;have h:=(AJ.1 G.rc).1;refine⟨_,_,_,_,run_yield G.rc<|by rw[bp.z];rfl,roundIn_of_wpIn trivial ?_⟩;rw[b3.z,b4.z,b5.z,bp.z];unfold LU;clear G;gi_wp2;have a1:(X.alloc<|.cells #[y.1.1,y.1.2] 110).heap[D+1]?=some (.loop rec):=(Below.heap_alloc _ _ _ h).trans C.z.rc;refine⟨_,run_beginRound a1 a0.z,?_⟩;obtain⟨p0,a2⟩:=nm y.1.1;obtain⟨p1,a3⟩:=nm y.1.2;have aL:=y.2;simp only at aL;rw[a2,a3]at aL;rw[a2,a3]at a1 ⊢;obtain⟨M,ab⟩:∃M,(X.alloc<|.cells #[p0,p1] 110).putObj (D+1) (.loop { rec with state:=.busy })=M:=⟨_,rfl⟩;have aD:C9 (λq=>q=D+1) X M:=by
   rw[<-ab];exact((C9.refl (λq=>q=D+1) X).alloc _).putObj rO _
  have bt:M.heap[D+1]?=some (.loop { rec with state:=.busy }):=by
   rw[<-ab];exact World.putObj_heap_same ol
  have a4:M.heap[X.heap.size]?=some (.cells #[p0,p1] 110 (0,0)):=by
   rw[<-ab];exact(World.putObj_heap_other I).trans (heap_alloc_new X _)
  have bu:M.heap[D]?=some (.deferred<|some []):=by
   rw[<-ab];exact(World.putObj_heap_other I).trans ((Below.heap_alloc _ _ _ I).trans C.z.df)
  have bv:v.ownBlock≠some b:=λe=>by
   obtain⟨am,N⟩:=Ii C.z.own e;rw[C.z.ob]at N;simp at N
  have ao:v.ownBlock≠some (D+1):=λe=>by
   obtain⟨am,N⟩:=Ii C.z.own e;rw[C.z.rc]at N;cases N
  have aE:v.ownBlock≠some D:=λe=>by
   obtain⟨am,N⟩:=Ii C.z.own e;rw[C.z.df]at N;cases N
  have h:=(C.z.set hz g2).mod aD I (λg hg e=>ao (by rw[hg,show g=D+1 from e]));have u:=aD.obj (k:=b) I C.z.ob;rw[ab];have n:=C.z.ok;have z:=n.most;unfold zG at aL;have A:=Jw (E.lY<|pre.map (·.1)) b (9+k*15+1) p0 p1 v M.drew (h.mod (C9.refl DA M).drew rP<|λ_ _ x=>x) n.wf I I (Nat.lt_of_le_of_lt n.fl<|by unfold zG;decide) bv z.1<|AR z.2 lc;have z:=zb A;have B:M X=some (.int .u64 p0):=za a4 rfl;have O:M (X,1)=some (.int .u64 p1):=za a4 rfl;have n:M (m+1,0)=some (.pointer (b,9+k*15)):=by
   have h1:=C.z.m.cell (a:=U (m+1) 0) (λq=>by
    rcases q with q|q
    .have q:m+1=b:=q;have:=av.z;omega
    have h3:=C5.nC k hk (m+1) q;have h4:=ak.z.1 (m+1) (by rw[aS.z];omega);rw[h4,HH.z.e.z (m+1) (by rw[av.z];omega)]at h3;have h5:=Ax Prod.snd h3;simp only at h5;omega) bi
   exact aD.cell (a:=U (m+1) 0) (by show ¬m+1=D+1;omega) h1
  have bw:=zb u;have bx:=zb bt;have ca:=zb bu;have bz:=zb aD;have cg:(prog).follows Departure.mixedOrders=true:=kw;have aF:Fence.wide.fn 38:=trivial;clear h u a1 a4 ab A bt bu aD;gi_wp2;refine Wk 7 (λw'=>w' X=some (.int .u64 p0)/\w' (U X 1)=some (.int .u64 p1)/\w' (U (m+1) 0)=some (.pointer (b,9+k*15))) kw kw kw (⟨B,O,n⟩) ?_;refine GI 0 ?_;iterate 7
   refine GV rfl ?_;try simp only[PS]
  refine Dt rfl (λK hK=>?_);go_simp
  with_reducible refine(z.z).mono ?_
  rintro e X3 ⟨v3,rfl,bA,bB,bC,bD⟩;have bE:=zb bA;have cb:=zb bB;have a6:=zb bC;have cc:=zb bD;clear bA bB bC bD;go_simp;refine hK.z _ _ ?_;clear hK K;try simp only[PS]
  refine zt ?_;refine⟨rfl,?_⟩;gi_wp2;have h:=(AJ.1 bx.z).1;have bF:∀q,q=D\/q=D+1->¬(q=b\/v.ownBlock=some q):=λq L x=>by
   rcases L with rfl|rfl
   .rcases x with x|x
    .omega
    exact aE x
   rcases x with x|x
   .omega
   exact ao x
  have a7:=a6.z.obj (bF _<|.inr rfl) bx.z;have cd:=a6.z.obj (bF _ rO) ca.z;have bG:=(AJ.1 a7).1;have h:C9 (λq=>q=D+1\/q=b\/v.ownBlock=some q) X X3:=by
   refine(bz.z.mono<|λq L=>.inl<|.inl L).trans ((C9.refl _ M).drew.trans<|a6.z.mono<|λq L=>.inl<|.inr L)
  have bH:=λr=>h.putObj (.inl rO) r
  have a8:∀q,v.ownBlock=some q->(R k).ownBlock=some q\/Z.heap.size<=q:=C.z.nw;refine⟨_,_,run_endRound none a7,(bH _).mono<|λq L=>.inl ?_,rfl,v3,?_⟩
  .rcases L with L|L|L
   .exact .inr (.inl L)
   .exact .inl L
   refine .inr<|.inr ⟨λg o e y=>?_,?_⟩
   .subst y;rcases a8 _ L with y|y
    .exact bs _ _ e y
    have:=bq _ _ e;omega
   obtain⟨am,N⟩:=Ii C.z.own L;exact⟨_,_,N⟩
  have aM:pre.map (·.1)++[y.1]=pre.map (·.1)++[(p0,p1)]:=by
   rw[<-a2,<-a3]
  have bI:v3.ownBlock≠some (D+1):=λe=>by
   obtain⟨am,N⟩:=Ii bE.z e;rw[a7]at N;cases N
  have n:=λr=>(C9.refl (λq=>q=D+1) X3).putObj rO r
  have h:=C.z.m.size;refine⟨?_,?_,?_,?_,?_,?_,?_,?_⟩
  .rw[aM,QG];exact(n _).owns bE.z (λg hg e=>bI<|by rw[hg,show g=D+1 from e])
  .rw[aM,QG,World.putObj_heap_other I,cb.z,zc<|zc<|show M.drew.heap[b]?=_ from bw.z,dO]
  .refine C.z.m.then (bH _) (λq L=>?_);rcases L with L|L|L
   .exact .inr I
   .exact .inl (.inl L)
   rcases a8 q L with z|z
   .exact .inl (.inr z)
   exact .inr z
  .intro g hg;rcases cc.z g hg with z|z
   .exact a8 g z
   refine .inr ?_;have h1:=bz.z.size;have h2:M.drew.heap.size=M.heap.size:=rfl;omega
  .rw[aM,QG];exact C.z.ok.add _ aL.2
  .rw[aM,QH]
  .exact(World.putObj_heap_other I).trans cd
  rw[World.putObj_heap_same bG];have bJ:=bo.z;have bK:=a0.z;cases rec;simp only at bJ bK;subst bJ;subst bK;rfl
 case post =>
  rintro e X ⟨⟨h,rfl⟩,⟨v,G⟩|⟨q,L,hx⟩⟩;rotate_left
  .exact hx.elim
  have h:=run_endLoop (P:=prog) G.rc (by rw[a0.z];simp);rw[bo.z]at h;refine⟨none,_,h,?_⟩;clear h;have aG:((FY (λr:Nat×Nat=>r.1<=zG/\r.2<=zG) rs aC rs.length).map Gt.rr).map (·.1)=rs.reverse:=by
   have h1:((FY (λr:Nat×Nat=>r.1<=zG/\r.2<=zG) rs aC rs.length).map Gt.rr).map (·.1)=((FY (λr:Nat×Nat=>r.1<=zG/\r.2<=zG) rs aC rs.length).map (·.1)).map (·.2):=by
    rw[Cu,Cu];rfl
   rw[h1,jC,UW rs rs.length<|AI _,AS nl]
  rw[aG]at G;obtain⟨M,ab⟩:∃M,X.putObj (D+1) (.loop { rec with state:=.exhausted,pending:=none })=M:=⟨_,rfl⟩;have hm:C9 (λq=>q=D+1) X M:=by rw[<-ab];exact(C9.refl (λq=>q=D+1) _).putObj rO _
  have hd:=hm.obj nl G.df;have bv:v.ownBlock≠some b:=λe=>by
   obtain⟨am,N⟩:=Ii G.own e;rw[G.ob]at N;simp at N
  have ao:v.ownBlock≠some (D+1):=λe=>by
   obtain⟨am,N⟩:=Ii G.own e;rw[G.rc]at N;cases N
  have aE:v.ownBlock≠some D:=λe=>by
   obtain⟨am,N⟩:=Ii G.own e;rw[G.df]at N;cases N
  obtain⟨Y,hY⟩:=nm<|M.putObj D<|.deferred none;have u:C9 (λq=>q=D\/q=D+1) X Y:=by
   rw[<-hY];exact(hm.mono<|λq L=>.inl<|.inr L).putObj (.inl rO) _
  have ae:MV (E.lY rs.reverse) b (9+15*k+1) (R k) Z Y v:=by
   have ep:9+k*15+1=9+15*k+1:=I;rw[<-ep];refine⟨u.owns G.own<|λg hg e=>?_,?_,G.m.then u<|λq L=>.inr I,G.nw⟩
   .rcases e with e|e
    .exact aE (by rw[hg,e])
    exact ao<|by rw[hg,e]
   exact(u.block b (AJ.1 G.ob).1 I).trans (G.ob.trans (zc<|zc bm).symm)
  obtain⟨aP,V6,y,e⟩:=aj.z.kH hk ae (by rw[QH,aA]);have n:({ c5 with ws:=zh c5.ws k { c5.ws k with kH:=E.lY rs.reverse } }:CS)={ c with ws:=zh c.ws k { x with kH:=E.lY rs.reverse } }:=by
   rw[<-aZ];simp only[zf];rw[Lq,HX.z]
  rw[n]at y;have e:(x.kH.lp f.off<|f.off+f.data.length).lY x.kG.rs.reverse=E.lY rs.reverse:=by
   rw[ar,bQ.z,ba.z,aw.z]
  have g:M.heap[b]?=some (.cells (zA { c with ws:=zh c.ws k { x with kH:=E.lY rs.reverse } } V6).toArray 147 (0,0)):=by
   rw[<-y.c.obj,<-hY,World.putObj_heap_other I]
  have h:=za (o:=9+k*15+9) g (by
   rw[BF,AN k 15];exact Le { c with ws:=zh c.ws k { x with kH:=E.lY rs.reverse } } V6 (k:=k) (j:=9) (v:=.bool x.ending) hk<|by simp[zf,Fl])
  have fz:∀j,M.frozen? ⟨b,j,none⟩=false:=λj=>zd g
  have h:∀q,q=m\/q=m+1->¬(q=b\/(R k).ownBlock=some q):=λq L x=>by
   have z:=av.z;rcases x with x|x
   .omega
   have h3:=C5.nC k hk q x;have h4:=ak.z.1 q (by rw[aS.z];omega);rw[h4,HH.z.e.z q (by rw[av.z];omega)]at h3;have h5:=Ax Prod.snd h3;simp only at h5;omega
  have z:=hm.cell (a:=U (m+1) 0) (by show ¬m+1=D+1;omega)<|G.m.cell (a:=U (m+1) 0) (h _<|.inr rfl) bi;have x5:=hm.cell (a:=U m 5) (by show ¬m=D+1;omega)<|G.m.cell (a:=U m 5) (h _ rO) bZ;have aN:=zb y;have aO:=zb e;have bL:=zb hY;have a:=(AJ.1 hd).1;rw[ab];clear y e g h hm G ae u hY ab n aG;cases aF:f.fin with
  | false =>
   rw[aF]at x5;have g:x.again f={ x with kH:=E.lY rs.reverse }:=by
    unfold WS.again;rw[aO.z,aF];simp
   have a:=zb g;have e:=aN;clear aN g aO;go_wp2_with fail;refine⟨nl,.inl ⟨_,_,rfl,run_takeDeferred hd,?_⟩⟩;refine⟨_,results_none rfl _ _ _,rfl,aP,V6,?_⟩;rw[bL.z,a.z];exact e.z
  | true =>
   rw[aF]at x5;have g:x.again f={ x with kH:=E.lY rs.reverse,ending:=false }:=by
    unfold WS.again;rw[aO.z,aF];simp
   have a:=zb g;have e:=zb<|aN.z.mN hk 9 lc (.bool false) { x with kH:=E.lY rs.reverse,ending:=false } rfl rfl rfl rfl;clear aN g aO;go_wp2_with fail;have g:(M.setCell (b,9+k*15+9)<|.bool false).heap[D]?=some (.deferred<|some []):=((C9.refl (λq=>q=b) M).setCell (p:=⟨b,_,none⟩) rO _).obj I hd;refine⟨nl,.inl ⟨_,_,rfl,run_takeDeferred g,?_⟩⟩;refine⟨_,results_none rfl _ _ _,rfl,aP,V6,?_⟩;rw[ju I,bL.z,AN k 15,a.z];exact e.z
end
section
open Go.RowKit Go.Proofs.Tryz
variable{V' V0:CV}{W' W0:rT}{b i k:Nat}{c:CS}{tag tag':qr}
def zJ.lZ{y:RS}(h:zJ tag i b W0 V0 { c with rs:=zh c.rs k y } tag' V' W')(e:k<8)(j:Nat)(g:j<13)(v:rU)(x:RS)(m:GH x (V'.rb k) (V'.rc k)=(GH y (V'.rb k) (V'.rc k)).set j v)(n:x.b=y.b)(u:x.kG.rs=y.kG.rs):zJ tag i b W0 V0 { c with rs:=zh c.rs k x } tag' V' (W'.setCell (b,129+13*k+j) v):=by
 have a:C9 (λq=>q=b) W' (W'.setCell (b,129+13*k+j) v):=(C9.refl (λq=>q=b) _).setCell (p:=⟨b,_,none⟩) rO _;exact⟨h.c.nO e j g v x m n u,⟨h.e.lH,h.e.new,h.e.z.mod a⟩,Ek h.e h.m<|a.mono<|λq a=>.inl<|EM (r:=1) (by rw[show q=b from a];exact h.c.tb) lc,h.p,h.ft⟩
def Lo(a b:Nat):((a:Int)==(b:Int))=(a==b):=by
 rw[Cv];simp;try omega
variable{c':CS}
def zJ.same(h:zJ tag i b W0 V0 c tag' V' W')(e:c=c'):zJ tag i b W0 V0 c' tag' V' W':=e ▸ h
variable{V:CV}{W:rT}{lO:qr}
def Ju(h:zJ tag i b W0 V0 c lO V W)(f:DF)(a:rU):∃W1 e,AA (W.alloc (.cells (ze f a) 48)=W1)/\AA (W.heap.size=e)/\zp W1 e f a/\AA (zJ tag i b W0 V0 c lO V W1) :=
 ⟨_,_,zb rfl,zb rfl,heap_alloc_new W _,zb<|h.kI<|rS.alloc _⟩
def hZ(h:zJ tag i b W0 V0 c lO V W)(f:DF)(u:rU)(g:f.kind=5)(A:c.ky=true):rH 135 #[(b,0),.agg (ze f u)] W (IY tag i b W0 V0 { c with ky:=true }):=by
 obtain⟨W1,B,m,q,a,e⟩:=Ju h f u;obtain⟨u,z,C,M,y,D,E,G,K,L⟩:=a.cells;rw[g]at u;obtain⟨M,g⟩:=nm f.lF;obtain⟨z,u⟩:=nm c.kE;rw[g]at y;have g:W1 (b,234)=some (.int .u64 z):=by rw[<-u];exact e.z.c.tl (j:=1) rfl
 have u:W1 (b,235)=some (.bool true):=by rw[<-A];exact e.z.c.tl (j:=2) rfl
 have fz:=λj=>e.z.c.fz j
 clear h a D E G K L C;refine(callsIn_wide (n:=8)).1 ?_;refine callsIn_of_wp_marks func135 rfl trivial ?_ rfl;simp only[ntmps135,PM,Nat.reduceAdd,Nat.reduceSub];refine wpIn_wide.2 ?_;go_upto_region 1 with fail;rw[q.z,m.z];go_upto_region 15 with fail;refine zN ?_;refine zr 16 (λw'=>w' (U B 4)=some (.int .u64 M)/\w' (U b 234)=some (.int .u64 z)/\w' (U b 235)=some (.bool true)) (⟨y,g,u⟩) ?_;refine GI 0 ?_;iterate 6
  refine GV rfl ?_;try simp only[PS]
 refine GI 6 ?_;iterate 7
  refine GU rfl (λ_ _ _ h=>(by cases h.1)) ?_;try simp only[PS]
 refine GI 13 ?_;iterate 3
  refine GV rfl ?_;try simp only[PS]
 refine Dt rfl (λK a=>?_);go_simp;refine a.z _ _ ?_;clear a K;try simp only[PS]
 refine zt ?_;refine⟨rfl,?_⟩;go_wp2_with fail;refine⟨_,results_none rfl _ _ _,rfl,lO,V,?_⟩;exact(e.z.store (233+2) (.bool true) (Fv c { c with ky:=true } V V _ rfl rfl rfl rfl) ⟨rfl,λ_ _=>⟨rfl,rfl,rfl⟩,λ_ _=>⟨rfl,rfl⟩,rfl,rfl,rfl,rfl⟩).kI (C9.refl DA _).drew
def hU(h:zJ tag i b W0 V0 c lO V W)(f:DF)(g:rU)(e:f.kind=5)(B:c.ky=false):rH 135 #[(b,0),.agg (ze f g)] W (IY tag i b W0 V0 { c with ky:=f.lF==c.kE }):=by
 obtain⟨W1,C,u,y,a,m⟩:=Ju h f g;obtain⟨g,q,D,z,A,E,G,K,L,M⟩:=a.cells;rw[e]at g;obtain⟨z,e⟩:=nm f.lF;obtain⟨q,g⟩:=nm c.kE;rw[e]at A;have N:W1 (b,234)=some (.int .u64 q):=by rw[<-g];exact m.z.c.tl (j:=1) rfl
 have O:W1 (b,235)=some (.bool false):=by rw[<-B];exact m.z.c.tl (j:=2) rfl
 have fz:=λj=>m.z.c.fz j
 clear h a E G K L M D;refine(callsIn_wide (n:=8)).1 ?_;refine callsIn_of_wp_marks func135 rfl trivial ?_ rfl;simp only[ntmps135,PM,Nat.reduceAdd,Nat.reduceSub];refine wpIn_wide.2 ?_;go_upto_region 1 with fail;rw[y.z,u.z];go_upto_region 15 with fail;refine zN ?_;refine zr 16 (λw'=>w' (U C 4)=some (.int .u64 z)/\w' (U b 234)=some (.int .u64 q)/\w' (U b 235)=some (.bool false)) (⟨A,N,O⟩) ?_;refine GI 0 ?_;iterate 16
  refine GV rfl ?_;try simp only[PS]
 refine Dt rfl (λK a=>?_);go_simp;refine a.z _ _ ?_;clear a K;try simp only[PS]
 refine zt ?_;refine⟨rfl,?_⟩;go_wp2_with fail;refine⟨_,results_none rfl _ _ _,rfl,lO,V,?_⟩;rw[show(f.lF==c.kE)=((z:Int)==(q:Int))by rw[e,g,Lo]];exact(m.z.store (233+2) (.bool _) (Fv c { c with ky:=((z:Int)==(q:Int)) } V V _ rfl rfl rfl rfl) ⟨rfl,λ_ _=>⟨rfl,rfl,rfl⟩,λ_ _=>⟨rfl,rfl⟩,rfl,rfl,rfl,rfl⟩).kI (C9.refl DA _).drew
def hQ(h:zJ tag i b W0 V0 c lO V W)(f:DF)(e:rU)(k:Nat)(u:k<8)(g:f.stream=(k:Int))(a:f.kind=6)(y:(c.rs k).ky=true):rH 135 #[(b,0),.agg (ze f e)] W (IY tag i b W0 V0 { c with rs:=zh c.rs k { c.rs k with ky:=true } }):=by
 obtain⟨W1,B,z,A,m,q⟩:=Ju h f e;obtain⟨e,C,G,E,D,K,L,M,N,O⟩:=m.cells;rw[a]at e;obtain⟨R,a⟩:=nm f.lF;obtain⟨E,e⟩:=nm<|(c.rs k).kE;rw[a]at D;have X:W1 (b,129+k*13+11)=some (.int .u64 E):=by rw[<-e,AN k 13];exact q.z.c.r (j:=11) u rfl
 have Y:W1 (b,129+k*13+12)=some (.bool true):=by rw[<-y,AN k 13];exact q.z.c.r (j:=12) u rfl
 have fz:=λj=>q.z.c.fz j
 have Z:=zb y;have Z:=zb a;have Z:=zb e;rw[g]at C;have Z:(0:Int)<=k:=I;have Z:(k:Int)<8:=I;clear y a e g;clear h m K L M N O G;refine(callsIn_wide (n:=8)).1 ?_;refine callsIn_of_wp_marks func135 rfl trivial ?_ rfl;simp only[ntmps135,PM,Nat.reduceAdd,Nat.reduceSub];refine wpIn_wide.2 ?_;go_upto_region 1 with fail;rw[A.z,z.z];go_upto_region 17 with fail;refine zN ?_;refine zr 7 (λw'=>w' (U B 1)=some (.int .i64 k)) (C) ?_;refine GI 0 ?_;iterate 7
  refine GV rfl ?_;try simp only[PS]
 refine zt ?_;refine⟨rfl,?_⟩;go_upto_region 18 with fail;refine zN ?_;refine zr 16 (λw'=>w' (U B 4)=some (.int .u64 R)/\w' (b,129+k*13+11)=some (.int .u64 E)/\w' (b,129+k*13+12)=some (.bool true)) (⟨D,X,Y⟩) ?_;refine GI 0 ?_;iterate 6
  refine GV rfl ?_;try simp only[PS]
 refine GI 6 ?_;iterate 7
  refine GU rfl (λ_ _ _ h=>(by cases h.1)) ?_;try simp only[PS]
 refine GI 13 ?_;iterate 3
  refine GV rfl ?_;try simp only[PS]
 refine Dt rfl (λK a=>?_);go_simp;refine a.z _ _ ?_;clear a K;try simp only[PS]
 refine zt ?_;refine⟨rfl,?_⟩;go_wp2_with fail;refine⟨_,results_none rfl _ _ _,rfl,lO,V,?_⟩;have a:zJ tag i b W0 V0 { c with rs:=zh c.rs k (c.rs k) } lO V W1:=q.z.same (by rw[Fx]);have e:=a.lZ u 12 lc (.bool true) { c.rs k with ky:=true } rfl rfl rfl;rw[AN k 13];exact e.kI<|((C9.refl DA _).drew).drew
def hO(h:zJ tag i b W0 V0 c lO V W)(f:DF)(e:rU)(k:Nat)(z:k<8)(g:f.stream=(k:Int))(a:f.kind=6)(A:(c.rs k).ky=false):rH 135 #[(b,0),.agg (ze f e)] W (IY tag i b W0 V0 { c with rs:=zh c.rs k { c.rs k with ky:=f.lF==(c.rs k).kE } }):=by
 obtain⟨W1,G,B,C,m,u⟩:=Ju h f e;obtain⟨e,K,M,q,L,N,O,R,X,Y⟩:=m.cells;rw[a]at e;obtain⟨y,a⟩:=nm f.lF;obtain⟨q,e⟩:=nm<|(c.rs k).kE;rw[a]at L;have Z:W1 (b,129+k*13+11)=some (.int .u64 q):=by rw[<-e,AN k 13];exact u.z.c.r (j:=11) z rfl
 have q2:W1 (b,129+k*13+12)=some (.bool false):=by rw[<-A,AN k 13];exact u.z.c.r (j:=12) z rfl
 have fz:=λj=>u.z.c.fz j
 have D:=zb A;have D:=zb a;have E:=zb e;rw[g]at K;have d0:(0:Int)<=k:=I;have d8:(k:Int)<8:=I;clear A a e g;clear h m N O R X Y M;refine(callsIn_wide (n:=8)).1 ?_;refine callsIn_of_wp_marks func135 rfl trivial ?_ rfl;simp only[ntmps135,PM,Nat.reduceAdd,Nat.reduceSub];refine wpIn_wide.2 ?_;go_upto_region 1 with fail;rw[C.z,B.z];go_upto_region 17 with fail;refine zN ?_;refine zr 7 (λw'=>w' (U G 1)=some (.int .i64 k)) (K) ?_;refine GI 0 ?_;iterate 7
  refine GV rfl ?_;try simp only[PS]
 refine zt ?_;refine⟨rfl,?_⟩;go_upto_region 18 with fail;refine zN ?_;refine zr 16 (λw'=>w' (U G 4)=some (.int .u64 y)/\w' (b,129+k*13+11)=some (.int .u64 q)/\w' (b,129+k*13+12)=some (.bool false)) (⟨L,Z,q2⟩) ?_;refine GI 0 ?_;iterate 16
  refine GV rfl ?_;try simp only[PS]
 refine Dt rfl (λK a=>?_);go_simp;refine a.z _ _ ?_;clear a K;try simp only[PS]
 refine zt ?_;refine⟨rfl,?_⟩;go_wp2_with fail;refine⟨_,results_none rfl _ _ _,rfl,lO,V,?_⟩;rw[show(f.lF==(c.rs k).kE)=((y:Int)==(q:Int))by rw[D.z,E.z,Lo]];have a:zJ tag i b W0 V0 { c with rs:=zh c.rs k (c.rs k) } lO V W1:=u.z.same (by rw[Fx]);have e:=a.lZ z 12 lc (.bool<|(y:Int)==(q:Int)) { c.rs k with ky:=((y:Int)==(q:Int)) } rfl rfl rfl;rw[AN k 13];exact e.kI<|((C9.refl DA _).drew).drew
def gz(h:zJ tag i b W0 V0 c lO V W)(f:DF)(e:rU)(k:Nat)(y:k<8)(g:f.stream=(k:Int))(a:f.kind=3)(q:f.rel=(c k).kD):rH 135 #[(b,0),.agg (ze f e)] W (IY tag i b W0 V0 { c with ws:=zh c.ws k { c.ws k with kQ:=false } }):=by
 obtain⟨W1,C,z,A,m,u⟩:=Ju h f e;obtain⟨e,D,K,E,B,L,M,N,O,R⟩:=m.cells;rw[a]at e;obtain⟨B,a⟩:=nm<|(c k).kD;obtain⟨G,e⟩:=nm f.rel;rw[e]at E;rw[a,e]at q;have X:W1 (b,9+k*15+11)=some (.int .u64 B):=by rw[<-a,AN k 15];exact u.z.c.w (j:=11) y rfl
 have Y:W1 (b,9+k*15+13)=some (.bool (c k).kQ):=by rw[AN k 15];exact u.z.c.w (j:=13) y rfl
 have fz:=λj=>u.z.c.fz j
 have hb:((G:Int)==(B:Int))=true:=by rw[Lo];simp[q]
 have Y:=zb q;rw[g]at D;have Y:(0:Int)<=k:=I;have Y:(k:Int)<8:=I;clear a e g q;clear h m L M N O R K;refine(callsIn_wide (n:=8)).1 ?_;refine callsIn_of_wp_marks func135 rfl trivial ?_ rfl;simp only[ntmps135,PM,Nat.reduceAdd,Nat.reduceSub];refine wpIn_wide.2 ?_;go_upto_region 1 with fail;rw[A.z,z.z];go_upto_region 11 with fail;refine zN ?_;refine zr 7 (λw'=>w' (U C 1)=some (.int .i64 k)) (D) ?_;refine GI 0 ?_;iterate 7
  refine GV rfl ?_;try simp only[PS]
 refine zt ?_;refine⟨rfl,?_⟩;go_upto_region 12 with fail;refine zN ?_;refine zr 7 (λw'=>w' (U C 3)=some (.int .u64 G)/\w' (b,9+k*15+11)=some (.int .u64 B)) (⟨E,X⟩) ?_;refine GI 0 ?_;iterate 7
  refine GV rfl ?_;try simp only[PS]
 refine zt ?_;refine⟨rfl,?_⟩;go_wp2_with fail;refine⟨_,results_none rfl _ _ _,rfl,lO,V,?_⟩;have a:zJ tag i b W0 V0 { c with ws:=zh c.ws k (c k) } lO V W1:=u.z.same (by rw[Fx]);have e:=a.mN y 13 lc (.bool false) { c.ws k with kQ:=false } rfl rfl rfl rfl;rw[AN k 15];exact e.kI<|((C9.refl DA _).drew).drew
def gy(h:zJ tag i b W0 V0 c lO V W)(f:DF)(e:rU)(k:Nat)(C:k<8)(g:f.stream=(k:Int))(a:f.kind=3)(q:¬f.rel=(c k).kD):rH 135 #[(b,0),.agg (ze f e)] W (IY tag i b W0 V0 { c with ws:=zh c.ws k (c k) }):=by
 obtain⟨W1,D,z,A,m,u⟩:=Ju h f e;obtain⟨e,E,K,G,y,L,M,N,O,R⟩:=m.cells;rw[a]at e;obtain⟨y,a⟩:=nm<|(c k).kD;obtain⟨B,e⟩:=nm f.rel;rw[e]at G;rw[a,e]at q;have X:W1 (b,9+k*15+11)=some (.int .u64 y):=by rw[<-a,AN k 15];exact u.z.c.w (j:=11) C rfl
 have Y:W1 (b,9+k*15+13)=some (.bool (c k).kQ):=by rw[AN k 15];exact u.z.c.w (j:=13) C rfl
 have fz:=λj=>u.z.c.fz j
 have hb:((B:Int)==(y:Int))=false:=by rw[Lo];simp[q]
 have C:¬(B:Int)=(y:Int):=I;have C:=zb q;rw[g]at E;have C:(0:Int)<=k:=I;have C:(k:Int)<8:=I;clear a e g q;clear h m L M N O R K;refine(callsIn_wide (n:=8)).1 ?_;refine callsIn_of_wp_marks func135 rfl trivial ?_ rfl;simp only[ntmps135,PM,Nat.reduceAdd,Nat.reduceSub];refine wpIn_wide.2 ?_;go_upto_region 1 with fail;rw[A.z,z.z];go_upto_region 11 with fail;refine zN ?_;refine zr 7 (λw'=>w' (U D 1)=some (.int .i64 k)) (E) ?_;refine GI 0 ?_;iterate 7
  refine GV rfl ?_;try simp only[PS]
 refine zt ?_;refine⟨rfl,?_⟩;go_upto_region 12 with fail;refine zN ?_;refine zr 7 (λw'=>w' (U D 3)=some (.int .u64 B)/\w' (b,9+k*15+11)=some (.int .u64 y)) (⟨G,X⟩) ?_;refine GI 0 ?_;iterate 7
  refine GV rfl ?_;try simp only[PS]
 refine zt ?_;refine⟨rfl,?_⟩;go_wp2_with fail;refine⟨_,results_none rfl _ _ _,rfl,lO,V,?_⟩;have a:zJ tag i b W0 V0 { c with ws:=zh c.ws k (c k) } lO V W1:=u.z.same (by rw[Fx]);exact a.kI<|((C9.refl DA _).drew).drew
def ew(h:zJ tag i b W0 V0 c lO V W)(f:DF)(m:rU)(a:¬f.kind=3)(e:¬f.kind=4)(g:¬f.kind=5)(q:¬f.kind=6):rH 135 #[(b,0),.agg (ze f m)] W (IY tag i b W0 V0 c):=by
 obtain⟨W1,u,e,g,a,q⟩:=Ju h f m;obtain⟨C,D,m,E,G,u,y,z,A,B⟩:=a.cells;have C:¬(f.kind:Int)=3:=I;have C:¬(f.kind:Int)=4:=I;have C:¬(f.kind:Int)=5:=I;have C:¬(f.kind:Int)=6:=I;clear h a u y z A B m;refine(callsIn_wide (n:=8)).1 ?_;refine callsIn_of_wp_marks func135 rfl trivial ?_ rfl;simp only[ntmps135,PM,Nat.reduceAdd,Nat.reduceSub];refine wpIn_wide.2 ?_;go_upto_region 1 with fail;rw[g.z,e.z];go_wp2_with fail;refine⟨_,results_none rfl _ _ _,rfl,lO,V,?_⟩;exact q.z
structure I0(c:CS)(f:DF):Prop where
 k4:f.kind=4->LQ c f f.stream.toNat
 k3:f.kind=3->0<=f.stream/\f.stream<8
 k6:f.kind=6->0<=f.stream/\f.stream<8
theorem Tj(h:zJ tag i b W0 V0 c lO V W)(f:DF)(g:rU)(ok:I0 c f)(e:∃a n B,g=.slice a n B):rH 135 #[(b,0),.agg (ze f g)] W (IY tag i b W0 V0 (c.again f)):=by
 unfold CS.again;by_cases z:f.kind=4
 .rw[AL z];exact ey h f g _ (ok.k4 z) z e
 rw[AH z];by_cases u:f.kind=3
 .rw[AL u];obtain⟨C,D⟩:=ok.k3 u;have m:f.stream.toNat<8:=I;have q:f.stream=(f.stream.toNat:Int):=I;generalize f.stream.toNat=k at m q;by_cases a:f.rel=(c k).kD
  .have e:{ c.ws k with kQ:=(c k).kQ && !(f.rel==(c k).kD) }={ c.ws k with kQ:=false }:=by simp[a]
   rw[e];exact gz h f g k m q u a
  have e:{ c.ws k with kQ:=(c k).kQ && !(f.rel==(c k).kD) }=c.ws k:=by
   have n:(f.rel==(c k).kD)=false:=by simp[a]
   rw[n];simp
  rw[e];exact gy h f g k m q u a
 rw[AH u];by_cases A:f.kind=5
 .rw[AL A];cases ha:c.ky with
  | true =>
   have:=hZ h f g A ha;simpa using this
  | false =>
   have:=hU h f g A ha;simpa using this
 rw[AH A];by_cases y:f.kind=6
 .rw[AL y];obtain⟨C,D⟩:=ok.k6 y;have m:f.stream.toNat<8:=I;have q:f.stream=(f.stream.toNat:Int):=I;generalize f.stream.toNat=k at m q;cases ha:(c.rs k).ky with
  | true =>
   have:=hQ h f g k m q y ha;simpa using this
  | false =>
   have:=hO h f g k m q y ha;simpa using this
 rw[AH y];exact ew h f g u z A y
def jU(c:CS)(f:DF):(c.again f).kB=c.kB:=by
 unfold CS.again;split
 .rfl
 split
 .rfl
 split
 .rfl
 split<;>rfl
theorem Qh:∀(a:List DF) (c:CS),(c.lG a).kB=c.kB
 | [],_=>rfl
 | f::a,c=>by
  show((c.again f).lG a).kB=_;rw[Qh a,jU]
variable{f:DF}{fs:List DF}
def UG(h:fs[k]?=some f):c.lG (fs.take (k+1))=(c.lG (fs.take k)).again f:=by
 unfold CS.lG;rw[Ai,h,Cj];rfl
def Jv(tag:qr)(i b:Nat)(W0:rT)(a:CV)(c:CS)(p:DI)(e:Ending)(W':rT):Prop :=
 e=.returned (.bool<|c.late p)/\∃tag' V',zJ tag i b W0 a (if c.late p then c.lG p.fs else c) tag' V' W'
def eu(h:zJ tag i b W0 V0 c lO V W)(q:Nat)(u:W0 q=some (.pointer b))(D:¬Da i tag q)
  (p:DI) (v:rU) (Z:(p,v)∈c.kB.zip V0.lh) (n:p.n<=zG) (B:p.at_<=zG) (h1:¬p.at_+6<=c.now) (h2:¬p.n+3<=c.kO) :
  rH 134 #[.agg #[.int .u64 p.n,.int .u64 p.at_,v],(q,0)] W (Jv tag i b W0 V0 c p):=by
 have m:c.late p=false:=by
  unfold CS.late;simp[h1,h2]
 unfold Jv;rw[m];simp only[BT,BE];have M:=zb h;have E:=zo u;have O:AA (∀{M:CS} {tag':qr} {V':CV} {W':rT},zJ tag i b W0 V0 M tag' V' W'->W' q=some (.pointer b)):=zb<|λr=>r.m.cell (a:=q) D u;have N:=zb Z;obtain⟨G,e⟩:=nm p.n;obtain⟨K,g⟩:=nm p.at_;obtain⟨X,L⟩:=nm p.fs;obtain⟨nw,y⟩:=nm c.now;obtain⟨lg,z⟩:=nm c.kO;rw[g,y]at h1;rw[e]at n;rw[g]at B;unfold zG at n B;rw[e,z]at h2;rw[e,g];have n:=h.c.fs (p,v) (by rw[h.ft.2];exact Z);obtain⟨l,Y,C,-,-⟩:=n;simp only at Y C;rw[L]at Y;obtain⟨a,A,rfl,q1,q2,-⟩:=C;have B:l.length=X.length:=by rw[<-Y,Az]
 rw[B]at N q1 ⊢;have c3:W (b,3)=some (.int .u64 nw):=by rw[<-y];exact h.c.hd (j:=3) rfl
 have M:W (b,237)=some (.int .u64 lg):=by rw[<-z];exact h.c.tl (j:=4) rfl
 have N:=O.z h;obtain⟨W1,n⟩:=nm<|W.alloc<|.cells #[G,K,.slice a X.length A] 166;have O:=AB n;have R1:=zb<|h.kI O;have R:=AD n;obtain⟨pb,C⟩:=nm W.heap.size;rw[C]at R;have z0:=za (o:=0) R rfl;have z1:=za (o:=1) R rfl;have z2:W1 (pb,2)=some (.slice a X.length A):=za (o:=2) R rfl;have x3:=O.cell (a:=⟨b,_,none⟩) id c3;have A:=O.cell (a:=⟨b,_,none⟩) id M;have X:=O.cell (a:=⟨q,_,none⟩) id N;have a:=zb n;have aa:=zb C;have ab:=zb B;have d1:¬(K:Int)+6<=nw:=I;have y1:=wu ((K:Int)+6) I;have y2:=wu ((G:Int)+3) I;have d2:¬(G:Int)+3<=lg:=I;clear h Z e g L y z h1 m O R c3 M N n C Y B q1 q2 u D E h2;go_enter func134,ntmps134;go_upto_region 1 with fail;rw[a.z,aa.z];refine zN ?_;refine zr 19 (λw'=>w' pb=some (.int .u64 G)/\w' (U pb 1)=some (.int .u64 K)/\w' q=some (.pointer b)/\w' (U b 3)=some (.int .u64 nw)/\w' (U b 237)=some (.int .u64 lg)) (⟨z0,z1,X,x3,A⟩) ?_;refine GI 0 ?_;iterate 19
  refine GV rfl ?_;try simp only[PS]
 refine zt ?_;refine⟨rfl,?_⟩;go_wp2;go_ret;exact⟨rfl,lO,V,R1.z.kI (C9.refl DA _).drew⟩
def et(h:zJ tag i b W0 V0 c lO V W)(A:Nat)(B:W0 A=some (.pointer b))(O:¬Da i tag A)
  (p:DI) (v:rU) (hp:(p,v)∈c.kB.zip V0.lh) (z:p.n<=zG) (E:p.at_<=zG) (C:∀k f,p.fs[k]?=some f->I0 (c.lG<|p.fs.take k) f) (ag:p.fs.length<=1099511627776) (h1:p.at_+6<=c.now) :
  rH 134 #[.agg #[.int .u64 p.n,.int .u64 p.at_,v],(A,0)] W (Jv tag i b W0 V0 c p):=by
 have g:c.late p=true:=by
  unfold CS.late;simp[h1]
 unfold Jv;rw[g];simp only[Aq];have HH:=zb h;have R:=zo B;have X:AA (∀{c':CS} {tag':qr} {V':CV} {W':rT},zJ tag i b W0 V0 c' tag' V' W'->W' A=some (.pointer b)):=zb<|λr=>r.m.cell (a:=A) O B;have HP:=zb hp;obtain⟨pn,n⟩:=nm p.n;obtain⟨Y,e⟩:=nm p.at_;obtain⟨m,q⟩:=nm p.fs;obtain⟨nw,D⟩:=nm c.now;obtain⟨lg,Z⟩:=nm c.kO;rw[e,D]at h1;rw[n]at z;rw[e]at E;unfold zG at z E;rw[q]at C ag;rw[n,e,q];have z:=h.c.fs (p,v) (by rw[h.ft.2];exact hp);obtain⟨l,hl,G,-,-⟩:=z;simp only at hl G;rw[q]at hl;obtain⟨a,y,rfl,q1,q2,-⟩:=G;have E:l.length=m.length:=by rw[<-hl,Az]
 rw[E]at HP q1 ⊢;have c3:W (b,3)=some (.int .u64 nw):=by rw[<-D];exact h.c.hd (j:=3) rfl
 have aa:W (b,237)=some (.int .u64 lg):=by rw[<-Z];exact h.c.tl (j:=4) rfl
 have ab:=X.z h;obtain⟨W1,z⟩:=nm<|W.alloc<|.cells #[pn,Y,.slice a m.length y] 166;have m1:=AB z;have R1:=zb<|h.kI m1;have o1:=AD z;obtain⟨pb,G⟩:=nm W.heap.size;rw[G]at o1;have z0:=za (o:=0) o1 rfl;have z1:=za (o:=1) o1 rfl;have z2:W1 (pb,2)=some (.slice a m.length y):=za (o:=2) o1 rfl;have x3:=m1.cell (a:=⟨b,_,none⟩) id c3;have ac:=m1.cell (a:=⟨b,_,none⟩) id aa;have K:=m1.cell (a:=⟨A,_,none⟩) id ab;have ah:=zb z;have ai:=zb G;have al:=zb E;have aj:=zb C;have ak:=zb q;have d1:(Y:Int)+6<=nw:=I;have y1:=wu ((Y:Int)+6) I;have y2:=wu ((pn:Int)+3) I;clear h hp n e q D Z h1 g m1 o1 c3 aa ab z G hl E q1 q2 B O R C;go_enter func134,ntmps134;go_upto_region 1 with fail;rw[ah.z,ai.z];refine zN ?_;refine zr 19 (λw'=>w' pb=some (.int .u64 pn)/\w' (U pb 1)=some (.int .u64 Y)/\w' A=some (.pointer b)/\w' (U b 3)=some (.int .u64 nw)/\w' (U b 237)=some (.int .u64 lg)) (⟨z0,z1,K,x3,ac⟩) ?_;refine GI 0 ?_;iterate 9
  refine GV rfl ?_;try simp only[PS]
 refine GI 9 ?_;iterate 8
  refine GU rfl (λ_ _ _ h=>(by cases h.1)) ?_;try simp only[PS]
 refine GI 17 ?_;iterate 2
  refine GV rfl ?_;try simp only[PS]
 refine zt ?_;refine⟨rfl,?_⟩;go_wp2_with fail
 go_loopw [29] (λe wr=>∃(k:Nat) (tag':qr) (V':CV),k<=m.length/\e=.int .i64 k/\AA (zJ tag i b W0 V0 (c.lG<|m.take k) tag' V' wr)) (λe _=>m.length-(intOf e).toNat)
 case atStart=>exact⟨0,lO,V,AK _,rfl,zb<|R1.z.kI (C9.refl DA _).drew⟩
 case round =>
  clear z0 z1 z2 x3 ac K R1;obtain⟨k,ad,V1,e,rfl,HR⟩:=hrel;by_cases e:k<m.length
  .obtain⟨l1,u,e,-,-⟩:=HR.z.c.fs (p,.slice a m.length y) (by rw[Qh,HR.z.ft.2];exact HP.z);simp only at u e;rw[ak.z]at u;obtain⟨g,a,ae,_,_,h3⟩:=e;have a:l1.length=m.length:=by rw[<-u,Az]
   rw[a]at ae;cases ae;obtain⟨⟨f,rv⟩,L⟩:∃fr,l1[k]?=some fr:=⟨l1[k],AG I⟩;have M:m[k]?=some f:=by rw[<-u,Ad,L];rfl
   obtain⟨⟨g,o,rfl,hc⟩,N⟩:=h3 k (f,rv) L;simp only at hc N;obtain⟨ra,rc,rfl,_⟩:=id N;obtain⟨a,e,g,h,q,y,z,A,B,n⟩:=GC hc;obtain⟨Y,a⟩:=nm<|wr.alloc<|.cells (ze f<|.slice ra f.kC.length rc) 48;have q:=AB a;have e:zp Y wr.heap.size f (.slice ra f.kC.length rc):=by rw[<-a];exact heap_alloc_new wr _
   obtain⟨g,y1,y2,h,z,A,B,C,D,y⟩:=e.cells;have g:=Tj (HR.z.kI q) f (.slice ra f.kC.length rc) (aj.z k f M) ⟨_,_,_,rfl⟩;have h:=zb<|UG (c:=c) M;rw[<-h.z]at g;have K:=X.z<|HR.z.kI q;obtain⟨z,h⟩:=nm f.kC.length;rw[h]at n a y g;unfold ze at a g;have n:=zb g;clear h3 L hc N q e g M u h;go_upto_region 6 with fail;try rw[a]
   clear a;go_wp2_with fail;refine(n.z).mono ?_;rintro e a ⟨rfl,af,V6,r6⟩;have a:=zb r6;clear r6;go_wp2;go_roundw
   case rel=>exact⟨k+1,af,V6,I,by go_num,a⟩
   simp[intOf];omega
  have a:m.length=k:=I;have a:=zb (by have:=HR.z;rwa [AS I]at this);go_wp2;go_ret;exact⟨rfl,ad,V1,a.z⟩
def eq(h:zJ tag i b W0 V0 c lO V W)(A:Nat)(B:W0 A=some (.pointer b))(R:¬Da i tag A)
  (p:DI) (v:rU) (hp:(p,v)∈c.kB.zip V0.lh) (z:p.n<=zG) (G:p.at_<=zG) (C:∀k f,p.fs[k]?=some f->I0 (c.lG<|p.fs.take k) f) (ag:p.fs.length<=1099511627776) (h1:¬p.at_+6<=c.now) (h2:p.n+3<=c.kO) :
  rH 134 #[.agg #[.int .u64 p.n,.int .u64 p.at_,v],(A,0)] W (Jv tag i b W0 V0 c p):=by
 have n:c.late p=true:=by
  unfold CS.late;simp[h1,h2]
 unfold Jv;rw[n];simp only[Aq];have HH:=zb h;have X:=zo B;have Z:AA (∀{c':CS} {tag':qr} {V':CV} {W':rT},zJ tag i b W0 V0 c' tag' V' W'->W' A=some (.pointer b)):=zb<|λr=>r.m.cell (a:=A) R B;have HP:=zb hp;obtain⟨Y,e⟩:=nm p.n;obtain⟨pa,g⟩:=nm p.at_;obtain⟨m,q⟩:=nm p.fs;obtain⟨nw,D⟩:=nm c.now;obtain⟨lg,E⟩:=nm c.kO;rw[g,D]at h1;rw[e]at z;rw[g]at G;unfold zG at z G;rw[e,E]at h2;rw[q]at C ag;rw[e,g,q];have z:=h.c.fs (p,v) (by rw[h.ft.2];exact hp);obtain⟨l,hl,K,-,-⟩:=z;simp only at hl K;rw[q]at hl;obtain⟨a,y,rfl,q1,q2,-⟩:=K;have G:l.length=m.length:=by rw[<-hl,Az]
 rw[G]at HP q1 ⊢;have c3:W (b,3)=some (.int .u64 nw):=by rw[<-D];exact h.c.hd (j:=3) rfl
 have aa:W (b,237)=some (.int .u64 lg):=by rw[<-E];exact h.c.tl (j:=4) rfl
 have ab:=Z.z h;obtain⟨W1,z⟩:=nm<|W.alloc<|.cells #[Y,pa,.slice a m.length y] 166;have m1:=AB z;have R1:=zb<|h.kI m1;have o1:=AD z;obtain⟨pb,K⟩:=nm W.heap.size;rw[K]at o1;have z0:=za (o:=0) o1 rfl;have z1:=za (o:=1) o1 rfl;have z2:W1 (pb,2)=some (.slice a m.length y):=za (o:=2) o1 rfl;have x3:=m1.cell (a:=⟨b,_,none⟩) id c3;have ac:=m1.cell (a:=⟨b,_,none⟩) id aa;have L:=m1.cell (a:=⟨A,_,none⟩) id ab;have ah:=zb z;have ai:=zb K;have al:=zb G;have aj:=zb C;have ak:=zb q;have d1:¬(pa:Int)+6<=nw:=I;have y1:=wu ((pa:Int)+6) I;have y2:=wu ((Y:Int)+3) I;have d2:(Y:Int)+3<=lg:=I;clear h hp e g q D E h1 n m1 o1 c3 aa ab z K hl G q1 q2 B R X h2 C;go_enter func134,ntmps134;go_upto_region 1 with fail;rw[ah.z,ai.z];refine zN ?_;refine zr 19 (λw'=>w' pb=some (.int .u64 Y)/\w' (U pb 1)=some (.int .u64 pa)/\w' A=some (.pointer b)/\w' (U b 3)=some (.int .u64 nw)/\w' (U b 237)=some (.int .u64 lg)) (⟨z0,z1,L,x3,ac⟩) ?_;refine GI 0 ?_;iterate 19
  refine GV rfl ?_;try simp only[PS]
 refine zt ?_;refine⟨rfl,?_⟩;go_wp2_with fail
 go_loopw [29] (λe wr=>∃(k:Nat) (tag':qr) (V':CV),k<=m.length/\e=.int .i64 k/\AA (zJ tag i b W0 V0 (c.lG<|m.take k) tag' V' wr)) (λe _=>m.length-(intOf e).toNat)
 case atStart=>exact⟨0,lO,V,AK _,rfl,zb<|R1.z.kI (C9.refl DA _).drew⟩
 case round =>
  clear z0 z1 z2 x3 ac L R1;obtain⟨k,ad,V1,e,rfl,HR⟩:=hrel;by_cases e:k<m.length
  .obtain⟨l1,u,e,-,-⟩:=HR.z.c.fs (p,.slice a m.length y) (by rw[Qh,HR.z.ft.2];exact HP.z);simp only at u e;rw[ak.z]at u;obtain⟨g,a,ae,_,_,h3⟩:=e;have a:l1.length=m.length:=by rw[<-u,Az]
   rw[a]at ae;cases ae;obtain⟨⟨f,rv⟩,M⟩:∃fr,l1[k]?=some fr:=⟨l1[k],AG I⟩;have N:m[k]?=some f:=by rw[<-u,Ad,M];rfl
   obtain⟨⟨g,o,rfl,hc⟩,O⟩:=h3 k (f,rv) M;simp only at hc O;obtain⟨ra,rc,rfl,_⟩:=id O;obtain⟨a,e,g,h,q,y,z,A,B,n⟩:=GC hc;obtain⟨Y,a⟩:=nm<|wr.alloc<|.cells (ze f<|.slice ra f.kC.length rc) 48;have q:=AB a;have e:zp Y wr.heap.size f (.slice ra f.kC.length rc):=by rw[<-a];exact heap_alloc_new wr _
   obtain⟨g,y1,y2,h,z,A,B,C,D,y⟩:=e.cells;have g:=Tj (HR.z.kI q) f (.slice ra f.kC.length rc) (aj.z k f N) ⟨_,_,_,rfl⟩;have h:=zb<|UG (c:=c) N;rw[<-h.z]at g;have L:=Z.z<|HR.z.kI q;obtain⟨z,h⟩:=nm f.kC.length;rw[h]at n a y g;unfold ze at a g;have n:=zb g;clear h3 M hc O q e g N u h;go_upto_region 6 with fail;try rw[a]
   clear a;go_wp2_with fail;refine(n.z).mono ?_;rintro e a ⟨rfl,af,V6,r6⟩;have a:=zb r6;clear r6;go_wp2;go_roundw
   case rel=>exact⟨k+1,af,V6,I,by go_num,a⟩
   simp[intOf];omega
  have a:m.length=k:=I;have a:=zb (by have:=HR.z;rwa [AS I]at this);go_wp2;go_ret;exact⟨rfl,ad,V1,a.z⟩
def dN(h:zJ tag i b W0 V0 c lO V W)(n:Nat)(a:W0 n=some (.pointer b))(e:¬Da i tag n)
  (p:DI) (v:rU) (z:(p,v)∈c.kB.zip V0.lh) (g:p.n<=zG) (m:p.at_<=zG) (q:c.late p=true->∀k f,p.fs[k]?=some f->I0 (c.lG<|p.fs.take k) f) (u:p.fs.length<=1099511627776) :
  rH 134 #[.agg #[.int .u64 p.n,.int .u64 p.at_,v],(n,0)] W (Jv tag i b W0 V0 c p):=by
 by_cases y:p.at_+6<=c.now
 .exact et h n a e p v z g m (q<|by simp[CS.late,y]) u y
 by_cases A:p.n+3<=c.kO
 .exact eq h n a e p v z g m (q<|by simp[CS.late,A]) u y A
 exact eu h n a e p v z g m y A
structure LT(J:Nat->List (DI×rU)->rT->Prop)(N g:Nat):Prop where
 box:∀k R w w',J k R w->C9 DA w w'->J k R w'
 len:∀k R w,J k R w->R.length=N
 rd:∀k R w,J k R w->∀(j:Nat) (x:DI×rU),R[j]?=some x->w.cell? (g,j*3)=some (.int .u64 x.1.n)/\w.cell? (g,j*3+1)=some (.int .u64 x.1.at_)/\w.cell? (g,j*3+2)=some x.2
def RF(J:Nat->List (DI×rU)->rT->Prop)(del:DI->Bool)(L:List (DI×rU))(e:Ending)(w':rT):Prop :=
 (∃k:Nat,e=.returned (.int .i64 k)/\k<L.length/\(∀x∈L.take k,del x.1=false)/\(∀x,L[k]?=some x->del x.1=true)/\J (k+1) L w') \/
 (e=.returned (.int .i64 (-1))/\(∀x∈L,del x.1=false)/\J L.length L w')
theorem ek(J:Nat->List (DI×rU)->rT->Prop)(del:DI->Bool)(L:List (DI×rU))(N g cap A:Nat)(a:qs)(C:L.length=N)(G:N<=1099511627776)(D:0<N->a=some ⟨g,0,none⟩)(E:LT J N g)
  (g:∀k w x,J k L w->L[k]?=some x->rH 134 #[.agg #[.int .u64 x.1.n,.int .u64 x.1.at_,x.2],(A,0)] w (λe w'=>e=.returned (.bool<|del x.1)/\J (k+1) L w'))
  (w:rT) (G:J 0 L w) :
  rH 164 #[.slice a N cap,.func (.func 134) #[] #[.pointer A]] w (RF J del L):=by
 have O:=zb E;have R:=zb g;have A:=zb G;have X:=zb D;have q:=zb C;clear E g G D C;go_enter func164,ntmps164;go_wp2_with fail
 go_loopw [8] (λa wr=>∃k:Nat,k<=N/\a=.int .i64 k/\AA (J k L wr/\∀x∈L.take k,del x.1=false)) (λa _=>N-(intOf a).toNat)
 case atStart=>exact⟨0,AK _,rfl,zb ⟨A.z,λx h=>by simp at h⟩⟩
 case round =>
  obtain⟨k,a,rfl,n⟩:=hrel;by_cases m:k<N
  .obtain⟨x,h⟩:∃x,L[k]?=some x:=⟨L[k]'(by rw[q.z];exact m),AG<|by rw[q.z];exact m⟩;obtain⟨Y,Z,x2⟩:=O.z.rd k L wr n.z.1 k x h;have z:=X.z I;subst z;have g:=R.z k wr x n.z.1 h;have K:=zb h;obtain⟨⟨C,z,A⟩,v⟩:=x;simp only at Y Z x2 g;obtain⟨dv,a⟩:=nm<|del ⟨C,z,A⟩;rw[a]at g;have u:=zb a;have M:=zb g;clear g h a;cases dv with
   | true =>
    go_wp2_with (go_at_call 134;with_reducible refine(M.z).mono ?_;rintro e w6 ⟨rfl,y⟩;have B:=zb y;clear y);go_ret;exact .inl ⟨k,rfl,by rw[q.z];exact m,n.z.2,λx h=>by rw[K.z]at h;cases h;exact u.z,B.z⟩
   | false =>
    go_wp2_with (go_at_call 134;with_reducible refine(M.z).mono ?_;rintro e w6 ⟨rfl,y⟩;have B:=zb y;clear y);go_roundw
    case rel =>
     refine⟨k+1,I,by go_num,zb ⟨B.z,λx h=>?_⟩⟩;rw[Ai,K.z]at h;rcases Ap.1 h with h|h
     .exact n.z.2 x h
     simp at h;subst h;exact u.z
    simp[intOf];omega
  have a:k=N:=I;go_wp2;go_ret;exact .inr ⟨rfl,λx h=>n.z.2 x<|by rwa [AS (by rw[q.z];omega)],by rw[q.z,<-a];exact n.z.1⟩
theorem gx(J:Nat->List (DI×rU)->rT->Prop)(del:DI->Bool)(L:List (DI×rU))(N g cap lb A:Nat)(a:qs)(C:L.length=N)(G:N<=1099511627776)(D:0<N->a=some ⟨g,0,none⟩)(E:LT J N g)
  (g:∀k w x,J k L w->L[k]?=some x->rH 190 #[.agg #[.int .u64 x.1.n,.int .u64 x.1.at_,x.2],(lb,0),(A,0)] w (λe w'=>e=.returned (.bool<|del x.1)/\J (k+1) L w'))
  (w:rT) (G:J 0 L w) :
  rH 164 #[.slice a N cap,.func (.func 190) #[] #[.pointer lb,.pointer A]] w (RF J del L):=by
 have O:=zb E;have R:=zb g;have A:=zb G;have X:=zb D;have q:=zb C;clear E g G D C;go_enter func164,ntmps164;go_wp2_with fail
 go_loopw [8] (λa wr=>∃k:Nat,k<=N/\a=.int .i64 k/\AA (J k L wr/\∀x∈L.take k,del x.1=false)) (λa _=>N-(intOf a).toNat)
 case atStart=>exact⟨0,AK _,rfl,zb ⟨A.z,λx h=>by simp at h⟩⟩
 case round =>
  obtain⟨k,a,rfl,n⟩:=hrel;by_cases m:k<N
  .obtain⟨x,h⟩:∃x,L[k]?=some x:=⟨L[k]'(by rw[q.z];exact m),AG<|by rw[q.z];exact m⟩;obtain⟨Y,Z,x2⟩:=O.z.rd k L wr n.z.1 k x h;have z:=X.z I;subst z;have g:=R.z k wr x n.z.1 h;have K:=zb h;obtain⟨⟨C,z,A⟩,v⟩:=x;simp only at Y Z x2 g;obtain⟨dv,a⟩:=nm<|del ⟨C,z,A⟩;rw[a]at g;have u:=zb a;have M:=zb g;clear g h a;cases dv with
   | true =>
    go_wp2_with (go_at_call 190;with_reducible refine(M.z).mono ?_;rintro e w6 ⟨rfl,y⟩;have B:=zb y;clear y);go_ret;exact .inl ⟨k,rfl,by rw[q.z];exact m,n.z.2,λx h=>by rw[K.z]at h;cases h;exact u.z,B.z⟩
   | false =>
    go_wp2_with (go_at_call 190;with_reducible refine(M.z).mono ?_;rintro e w6 ⟨rfl,y⟩;have B:=zb y;clear y);go_roundw
    case rel =>
     refine⟨k+1,I,by go_num,zb ⟨B.z,λx h=>?_⟩⟩;rw[Ai,K.z]at h;rcases Ap.1 h with h|h
     .exact n.z.2 x h
     simp at h;subst h;exact u.z
    simp[intOf];omega
  have a:k=N:=I;go_wp2;go_ret;exact .inr ⟨rfl,λx h=>n.z.2 x<|by rwa [AS (by rw[q.z];omega)],by rw[q.z,<-a];exact n.z.1⟩
structure Ir(J:Nat->List (DI×rU)->rT->Prop)(N g cap:Nat):Prop where
 obj:∀k R w,0<N->J k R w->∃cur,w.heap[g]?=some (.cells cur 166 (0,0))
 sl:∀k R w (x:DI×rU),J k R w->x∈R->∃a n c,x.2=.slice a n c
 st:∀k R w (i:Nat) (x:DI×rU),J k R w->i<N->x∈R->J k (R.set i x) (((w.setCell (g,i*3)<|.int .u64 x.1.n).setCell (g,i*3+1)<|.int .u64 x.1.at_).setCell (g,i*3+2) x.2)
 cl:∀k R w (i:Nat),J k R w->i<N->∃w2 R2,(∀ty,(Builtin.clear_ #[145] ty #[.slice (g,i*3) (N-i) (cap-i)]).run prog w=.ok (.tuple #[]) w2)/\J k R2 w2/\R2.take i=R.take i
def Nr(J:Nat->List (DI×rU)->rT->Prop)(del:DI->Bool)(L:List (DI×rU))(a:qs)(cap:Nat)(e:Ending)(w':rT):Prop :=
 ∃(i:Nat) (R:List (DI×rU)),e=.returned (.slice a i cap)/\i<=L.length/\J L.length R w'/\R.take i=L.filter (λx => !del x.1)
def OZ{del:DI->Bool}{l:List (DI×rU)}(h:∀x∈l,del x.1=false):l.filter (λx => !del x.1)=l :=
 C7.2 (λx a=>by rw[h x a];rfl)
def QU{α : Type}{l:List α}{x : α}(h:i<l.length):(l.set i x).take (i+1)=l.take i++[x]:=by
 rw[Ai,List.take_set_of_le I,List.getElem?_set_self h];rfl
variable{j:Nat}
def QT{α : Type}{l:List α}{x : α}(h:i<j):(l.set i x).drop j=l.drop j:=by
 rw[List.drop_set,AL h]
theorem gu(J:Nat->List (DI×rU)->rT->Prop)(del:DI->Bool)(L:List (DI×rU))(N g cap cb:Nat)(a:qs)(hN:L.length=N)(ad:N<=1099511627776)(h:N<=cap)(ae:cap<=maxLen)(ha:0<N->a=some ⟨g,0,none⟩)(hJ:LT J N g)(hK:Ir J N g cap)
  (m:∀k w x,J k L w->L[k]?=some x->rH 134 #[.agg #[.int .u64 x.1.n,.int .u64 x.1.at_,x.2],(cb,0)] w (λe w'=>e=.returned (.bool<|del x.1)/\J (k+1) L w'))
  (h:∀k R w o x,J k R w->R[k]?=some x->L[k]?=some x->rH 134 #[.agg #[.int .u64 x.1.n,.int .u64 x.1.at_,x.2],(cb,0)] (w.alloc o) (λe w'=>e=.returned (.bool<|del x.1)/\J (k+1) R w'/\w'.heap[w.heap.size]?=(w.alloc o).heap[w.heap.size]?))
  (w:rT) (h0:J 0 L w) :
  rH 133 #[.slice a N cap,.func (.func 134) #[] #[.pointer cb]] w (Nr J del L a cap):=by
 have ki:=ek J del L N g cap cb a hN ad ha hJ m w h0;unfold maxLen at ae;have HJ:=zb hJ;have Z:=zb hK;have HC:=zb h;have HA:=zb ha;have HN:=zb hN;have a:=zb ki;clear hJ hK m h h0 ha hN ki;go_enter func133,ntmps133;go_wp2_with fail;refine(a.z).mono ?_;clear a;rintro e a (⟨k,rfl,E,n,q,Y⟩|⟨rfl,n,q⟩)
 .have af:k<N:=by rw[<-HN.z];exact E
  have ag:=HA.z I;subst ag;have z:=zb Y;have a:AA (L.take k=(L.take<|k+1).filter (λx => !del x.1)):=zb (by
   obtain⟨x,A⟩:∃x,L[k]?=some x:=⟨L[k],AG E⟩;rw[Ai,A,B3,OZ n];simp[q x A])
  have d1:((k:Int) == -1)=false:=by rw[AM];omega
  clear E n q Y;go_wp2_with fail
  go_loopw [5,6] (λm h wr=>∃(i j:Nat) (R:List (DI×rU)),m=.int .i64 i/\h=.int .i64 j/\i<j/\j<=N/\AA (J j R wr/\R.take i=(L.take j).filter (λx => !del x.1)/\R.drop j=L.drop j)) (λ_ h _=>N-(intOf h).toNat)
  case atStart=>exact⟨k,k+1,L,rfl,by go_num,I,I,zb ⟨z.z,a.z,rfl⟩⟩
  case round =>
   clear z a d1 af;obtain⟨i,j,R,rfl,rfl,ah,a,y⟩:=hrel;have aa:=HJ.z.len j R wr y.z.1;by_cases a:j<N
   .obtain⟨x,A⟩:∃x,R[j]?=some x:=⟨R[j]' I,AG I⟩;have G:L[j]?=some x:=by
     have h1:=Ax (λl=>l[0]?) y.z.2.2;simp only[BM,Bb]at h1;rw[<-h1];exact A
    obtain⟨x0,x1,x2⟩:=HJ.z.rd j R wr y.z.1 j x A;obtain⟨Y,hY⟩:=nm<|wr.alloc<|.cells #[x.1.n,x.1.at_,x.2] 166;have M:=HC.z j R wr (.cells #[x.1.n,x.1.at_,x.2] 166) x y.z.1 A G;have O:(wr.alloc<|.cells #[x.1.n,x.1.at_,x.2] 166).heap[wr.heap.size]?=some (.cells #[x.1.n,x.1.at_,x.2] 166 (0,0)):=heap_alloc_new wr _;rw[O]at M;rw[hY]at M O;have y0:Y wr=some (.int .u64 x.1.n):=za O rfl;have y1:Y (wr,1)=some (.int .u64 x.1.at_):=za O rfl;have y2:Y (wr,2)=some x.2:=za O rfl;have HX:=zb<|And.intro A G;obtain⟨va,vn,vc,hv⟩:=Z.z.sl _ _ _ x y.z.1<|AZ A;obtain⟨⟨fn,u,B⟩,v⟩:=x;simp only at hv;subst hv;simp only at x0 x1 x2 M y0 y1 y2 hY;obtain⟨dv,a⟩:=nm<|del ⟨fn,u,B⟩;rw[a]at M;have ai:=zb a;have KC:=zb M;have K:=zb aa;obtain⟨yb,h⟩:=nm wr.heap.size;rw[h]at y0 y1 y2 KC;clear M A G a O aa;go_upto_region 8 with fail;try rw[hY]
    try rw[h]
    clear hY h;go_wp2_with fail;refine(KC.z).mono ?_;rintro e D ⟨rfl,X,o6⟩;have a:D yb=some (.int .u64 fn):=za o6 rfl;have a:D (yb,1)=some (.int .u64 u):=za o6 rfl;have a:D (yb,2)=some (.slice va vn vc):=za o6 rfl;have J6:=zb X;have C:i<N:=I;have ab:AA ((L.take<|j+1).filter (λx => !del x.1)=(L.take j).filter (λx => !del x.1)++(if dv then []else [(⟨fn,u,B⟩,.slice va vn vc)])):=zb (by
     rw[Ai,HX.z.2,B3];congr 1;have:=ai.z;cases dv<;>simp[this])
    have ac:=zb (by
     have h1:=Ax (List.drop 1) y.z.2.2;simpa [CK]using h1)
    clear KC y0 y1 y2 x0 x1 x2 o6;cases dv with
    | true =>
     clear X;go_wp2;go_roundw
     case rel=>exact⟨i,j+1,R,rfl,by go_num,I,I,zb ⟨J6.z,by rw[ab.z,y.z.2.1];simp,ac.z⟩⟩
     simp[intOf];omega
    | false =>
     obtain⟨e,a⟩:=Z.z.obj _ _ _ I X;obtain⟨h,e⟩:∃h,R[i]?=some h:=⟨R[i]'(by rw[K.z];exact C),AG<|by rw[K.z];exact C⟩;obtain⟨w0,m,A⟩:=HJ.z.rd _ R D X i h e;have h:∀p,D.frozen? ⟨g,p,none⟩=false:=λp=>zd a
     have A:∀h m p,(D.setCell ⟨g,h,none⟩ m).frozen? ⟨g,p,none⟩=false:=λh m p=>zd<|zc a
     have G:∀h m A E p,((D.setCell ⟨g,h,none⟩ m).setCell ⟨g,A,none⟩ E).frozen? ⟨g,p,none⟩=false:=λh m A E p=>zd<|zc<|zc a
     have g:=zb<|Z.z.st _ R D i (⟨fn,u,B⟩,.slice va vn vc) X C<|AZ HX.z.1;clear X a e;go_wp2;go_roundw
     case rel =>
      refine⟨i+1,j+1,R.set i (⟨fn,u,B⟩,.slice va vn vc),by go_num,by go_num,I,I,zb ⟨g.z,?_,?_⟩⟩
      .rw[QU (by rw[K.z];exact C),ab.z,y.z.2.1];rfl
      rw[QT I,ac.z]
     simp[intOf];omega
   have aj:j=N:=I;subst aj;obtain⟨g,m,e,a,h⟩:=Z.z.cl j R wr i y.z.1 ah;have g:=zb a;have e:=zb h;have u:¬cap=i:=I;have d1:i<=cap:=I;clear a h;have u:=HN.z;have a:m.take i=L.filter (λx => !del x.1):=by
    rw[e.z,y.z.2.1,AS I]
   have h:=zb a;have e:=zb u;clear u a;go_wp2;go_ret;exact⟨i,m,rfl,by rw[e.z];omega,by rw[e.z];exact g.z,h.z⟩
 clear HC HJ Z;have z:=zb q;have a:=zb<|OZ n;clear n q;go_wp2;go_ret;exact⟨N,L,rfl,by rw[HN.z];exact AI _,z.z,by rw[a.z,<-HN.z,AS (AI _)]⟩
theorem jT(J:Nat->List (DI×rU)->rT->Prop)(del:DI->Bool)(L:List (DI×rU))(N g cap lb cb:Nat)(a:qs)(hN:L.length=N)(ad:N<=1099511627776)(h:N<=cap)(ae:cap<=maxLen)(ha:0<N->a=some ⟨g,0,none⟩)(hJ:LT J N g)(hK:Ir J N g cap)
  (m:∀k w x,J k L w->L[k]?=some x->rH 190 #[.agg #[.int .u64 x.1.n,.int .u64 x.1.at_,x.2],(lb,0),(cb,0)] w (λe w'=>e=.returned (.bool<|del x.1)/\J (k+1) L w'))
  (h:∀k R w o x,J k R w->R[k]?=some x->L[k]?=some x->rH 190 #[.agg #[.int .u64 x.1.n,.int .u64 x.1.at_,x.2],(lb,0),(cb,0)] (w.alloc o) (λe w'=>e=.returned (.bool<|del x.1)/\J (k+1) R w'/\w'.heap[w.heap.size]?=(w.alloc o).heap[w.heap.size]?))
  (w:rT) (h0:J 0 L w) :
  rH 133 #[.slice a N cap,.func (.func 190) #[] #[.pointer lb,.pointer cb]] w (Nr J del L a cap):=by
 have ki:=gx J del L N g cap lb cb a hN ad ha hJ m w h0;unfold maxLen at ae;have HJ:=zb hJ;have Z:=zb hK;have HC:=zb h;have HA:=zb ha;have HN:=zb hN;have a:=zb ki;clear hJ hK m h h0 ha hN ki;go_enter func133,ntmps133;go_wp2_with fail;refine(a.z).mono ?_;clear a;rintro e a (⟨k,rfl,E,n,q,Y⟩|⟨rfl,n,q⟩)
 .have af:k<N:=by rw[<-HN.z];exact E
  have ag:=HA.z I;subst ag;have z:=zb Y;have a:AA (L.take k=(L.take<|k+1).filter (λx => !del x.1)):=zb (by
   obtain⟨x,A⟩:∃x,L[k]?=some x:=⟨L[k],AG E⟩;rw[Ai,A,B3,OZ n];simp[q x A])
  have d1:((k:Int) == -1)=false:=by rw[AM];omega
  clear E n q Y;go_wp2_with fail
  go_loopw [5,6] (λm h wr=>∃(i j:Nat) (R:List (DI×rU)),m=.int .i64 i/\h=.int .i64 j/\i<j/\j<=N/\AA (J j R wr/\R.take i=(L.take j).filter (λx => !del x.1)/\R.drop j=L.drop j)) (λ_ h _=>N-(intOf h).toNat)
  case atStart=>exact⟨k,k+1,L,rfl,by go_num,I,I,zb ⟨z.z,a.z,rfl⟩⟩
  case round =>
   clear z a d1 af;obtain⟨i,j,R,rfl,rfl,ah,a,y⟩:=hrel;have aa:=HJ.z.len j R wr y.z.1;by_cases a:j<N
   .obtain⟨x,A⟩:∃x,R[j]?=some x:=⟨R[j]' I,AG I⟩;have G:L[j]?=some x:=by
     have h1:=Ax (λl=>l[0]?) y.z.2.2;simp only[BM,Bb]at h1;rw[<-h1];exact A
    obtain⟨x0,x1,x2⟩:=HJ.z.rd j R wr y.z.1 j x A;obtain⟨Y,hY⟩:=nm<|wr.alloc<|.cells #[x.1.n,x.1.at_,x.2] 166;have M:=HC.z j R wr (.cells #[x.1.n,x.1.at_,x.2] 166) x y.z.1 A G;have O:(wr.alloc<|.cells #[x.1.n,x.1.at_,x.2] 166).heap[wr.heap.size]?=some (.cells #[x.1.n,x.1.at_,x.2] 166 (0,0)):=heap_alloc_new wr _;rw[O]at M;rw[hY]at M O;have y0:Y wr=some (.int .u64 x.1.n):=za O rfl;have y1:Y (wr,1)=some (.int .u64 x.1.at_):=za O rfl;have y2:Y (wr,2)=some x.2:=za O rfl;have HX:=zb<|And.intro A G;obtain⟨va,vn,vc,hv⟩:=Z.z.sl _ _ _ x y.z.1<|AZ A;obtain⟨⟨fn,u,B⟩,v⟩:=x;simp only at hv;subst hv;simp only at x0 x1 x2 M y0 y1 y2 hY;obtain⟨dv,a⟩:=nm<|del ⟨fn,u,B⟩;rw[a]at M;have ai:=zb a;have KC:=zb M;have K:=zb aa;obtain⟨yb,h⟩:=nm wr.heap.size;rw[h]at y0 y1 y2 KC;clear M A G a O aa;go_upto_region 8 with fail;try rw[hY]
    try rw[h]
    clear hY h;go_wp2_with fail;refine(KC.z).mono ?_;rintro e D ⟨rfl,X,o6⟩;have a:D yb=some (.int .u64 fn):=za o6 rfl;have a:D (yb,1)=some (.int .u64 u):=za o6 rfl;have a:D (yb,2)=some (.slice va vn vc):=za o6 rfl;have J6:=zb X;have C:i<N:=I;have ab:AA ((L.take<|j+1).filter (λx => !del x.1)=(L.take j).filter (λx => !del x.1)++(if dv then []else [(⟨fn,u,B⟩,.slice va vn vc)])):=zb (by
     rw[Ai,HX.z.2,B3];congr 1;have:=ai.z;cases dv<;>simp[this])
    have ac:=zb (by
     have h1:=Ax (List.drop 1) y.z.2.2;simpa [CK]using h1)
    clear KC y0 y1 y2 x0 x1 x2 o6;cases dv with
    | true =>
     clear X;go_wp2;go_roundw
     case rel=>exact⟨i,j+1,R,rfl,by go_num,I,I,zb ⟨J6.z,by rw[ab.z,y.z.2.1];simp,ac.z⟩⟩
     simp[intOf];omega
    | false =>
     obtain⟨e,a⟩:=Z.z.obj _ _ _ I X;obtain⟨h,e⟩:∃h,R[i]?=some h:=⟨R[i]'(by rw[K.z];exact C),AG<|by rw[K.z];exact C⟩;obtain⟨w0,m,A⟩:=HJ.z.rd _ R D X i h e;have h:∀p,D.frozen? ⟨g,p,none⟩=false:=λp=>zd a
     have A:∀h m p,(D.setCell ⟨g,h,none⟩ m).frozen? ⟨g,p,none⟩=false:=λh m p=>zd<|zc a
     have G:∀h m A E p,((D.setCell ⟨g,h,none⟩ m).setCell ⟨g,A,none⟩ E).frozen? ⟨g,p,none⟩=false:=λh m A E p=>zd<|zc<|zc a
     have g:=zb<|Z.z.st _ R D i (⟨fn,u,B⟩,.slice va vn vc) X C<|AZ HX.z.1;clear X a e;go_wp2;go_roundw
     case rel =>
      refine⟨i+1,j+1,R.set i (⟨fn,u,B⟩,.slice va vn vc),by go_num,by go_num,I,I,zb ⟨g.z,?_,?_⟩⟩
      .rw[QU (by rw[K.z];exact C),ab.z,y.z.2.1];rfl
      rw[QT I,ac.z]
     simp[intOf];omega
   have aj:j=N:=I;subst aj;obtain⟨g,m,e,a,h⟩:=Z.z.cl j R wr i y.z.1 ah;have g:=zb a;have e:=zb h;have u:¬cap=i:=I;have d1:i<=cap:=I;clear a h;have u:=HN.z;have a:m.take i=L.filter (λx => !del x.1):=by
    rw[e.z,y.z.2.1,AS I]
   have h:=zb a;have e:=zb u;clear u a;go_wp2;go_ret;exact⟨i,m,rfl,by rw[e.z];omega,by rw[e.z];exact g.z,h.z⟩
 clear HC HJ Z;have z:=zb q;have a:=zb<|OZ n;clear n q;go_wp2;go_ret;exact⟨N,L,rfl,by rw[HN.z];exact AI _,z.z,by rw[a.z,<-HN.z,AS (AI _)]⟩
def zJ.refl(h:zJ tag i b W0 V0 c tag' V' W'):zJ tag' i b W' V' c tag' V' W' :=
 ⟨h.c,DK.same h.e.z<|C9.refl DA W',C9.refl _ _,h.p,⟨rfl,rfl⟩⟩
variable{W2:rT}
def zJ.trans{g:CV}{c2:CS}{a:qr}{e:CV}(h:zJ tag i b W0 V0 c tag' V' W')(k:zJ tag' i b W' g c2 a e W2):zJ tag i b W0 e c2 a e W2 :=
 ⟨k.c,h.e.trans k.e h.m.size,Ek h.e h.m k.m,h.p,⟨rfl,rfl⟩⟩
theorem Fw{α β : Type}:∀(l:List (α × β)),(l.map (·.1)).zip (l.map (·.2))=l
 | []=>rfl
 | x::l=>by simp[Fw l]
def KW(x:DI×rU)(l:List (DI×rU)):zF (x::l)=(.int .u64 x.1.n)::(.int .u64 x.1.at_)::x.2::zF l:=rfl
theorem Rn:∀(R:List (DI×rU)) (i:Nat) (x:DI×rU),i<R.length->zF (R.set i x)=(((zF R).set (i*3) (.int .u64 x.1.n)).set (i*3+1) (.int .u64 x.1.at_)).set (i*3+2) x.2
 | [],_,_,h=>by simp at h
 | y::R,0,x,_=>by simp[KW]
 | y::R,i+1,x,h=>by
  have a:=Rn R i x<|qp h;rw[CE,KW,KW,a,(I:(i+1)*3=i*3+3)];simp[CE]
theorem Rm:∀(R:List (DI×rU)) (j:Nat) (x:DI×rU),R[j]?=some x->(zF R)[j*3]?=some (.int .u64 x.1.n)/\(zF R)[j*3+1]?=some (.int .u64 x.1.at_)/\(zF R)[j*3+2]?=some x.2
 | [],j,x,h=>by simp at h
 | y::R,0,x,h=>by
  simp at h;subst h;simp[KW]
 | y::R,j+1,x,h=>by
  have a:=Rm R j x<|qp h;rw[KW,(I:(j+1)*3=j*3+3)];simpa using a
theorem Ih(R:List (DI×rU)):(zF R).length=R.length*3:=by
 induction R with
 | nil=>rfl
 | cons x R ih =>
  rw[KW];simp only[Aa,ih];omega
def Qo(A B:List (DI×rU)):zF (A++B)=zF A++zF B:=by simp[zF]
variable{N cap g:Nat}{w:rT}{xs:qt}
def IW(h:w.ownsRow 0 166 3 (.slice g N cap) N xs):∃a,w.heap[g]?=some (.cells a 166 (0,0))/\N<=cap/\cap<=maxLen/\a.size=cap*3/\a.toList.take (N*3)=xs:=by
 rcases h.2 with⟨e,_⟩|⟨h,g,a,e,_,m,n,q,u,y⟩
 .cases e
 cases e;exact⟨a,m,n,q,u,y⟩
variable{R:List (DI×rU)}
def SK(x:DI×rU)(h:w.ownsRow 0 166 3 (.slice g N cap) N (zF R))(a:R.length=N)(hi:i<N):(((w.setCell (g,i*3) (.int .u64 x.1.n)).setCell (g,i*3+1) (.int .u64 x.1.at_)).setCell (g,i*3+2) x.2).ownsRow 0 166 3 (.slice g N cap) N (zF (R.set i x)):=by
 obtain⟨e,m,n,q,u,y⟩:=IW h;refine⟨by rw[Ih,BL,a],.inr ⟨g,cap,_,rfl,AK _,zc<|zc<|zc m,n,q,by simp[u],?_⟩⟩;rw[Rn R i x I,<-y];simp[Cn]
def UU(h:w.ownsRow 0 166 3 (.slice g N cap) N (zF R))(a:R.length=N)(j:Nat)(x:DI×rU)(m:R[j]?=some x):w (g,j*3)=some (.int .u64 x.1.n)/\w (g,j*3+1)=some (.int .u64 x.1.at_)/\w (g,j*3+2)=some x.2:=by
 obtain⟨e,g,a,q,u,n⟩:=IW h;have a:j<N:=by
  have:=(AO.1 m).1;omega
 obtain⟨a,b,c⟩:=Rm R j x m;have h:∀q v,q<N*3->(zF R)[q]?=some v->e[q]?=some v:=λq v m e=>by
  rw[<-n,B9 m,Ba]at e;exact e
 exact⟨za g<|h _ _ I a,za g<|h _ _ I b,za g<|h _ _ I c⟩
variable{n:Nat}
def QF(h:w.ownsRow 0 166 3 (.slice g N cap) N (zF R))(e:R.length=N)(m:n<=N):w.ownsRow 0 166 3 (.slice g n cap) n (zF (R.take n)):=by
 obtain⟨a,q,A,u,y,z⟩:=IW h;refine⟨by rw[Ih,AU,e,BU m],.inr ⟨g,cap,a,rfl,AK _,q,I,u,y,?_⟩⟩;have g:zF R=zF (R.take n)++zF (R.drop n):=by rw[<-Qo,BZ]
 have h:(zF<|R.take n).length=n*3:=by rw[Ih,AU,e,BU m]
 have e:a.toList.take (n*3)=(a.toList.take<|N*3).take (n*3):=by rw[BY,BU I]
 rw[e,z,g,BG I,AS I]
def zn.lE{R':List (DI×rU)}(h:zn tag i b c V W)(m:C9 (λq=>q=g) W W')(e:V.ft.ownBlock=some g)(n:W'.ownsRow 0 166 3 V.ft R'.length (zF R'))(y:∀p∈R',GQ tag (i,5) W p.2 p.1.fs):zn tag i b { c with kB:=R'.map (·.1) } { V with lh:=R'.map (·.2) } W':=by
 have a:=h.nF g e;have z:b≠g:=λe=>by
  rw[<-e,h.tb]at a;simp at a
 refine h.build (R:=λr=>r=4) m (λq A=>⟨4,rfl,by rw[show q=g from A];exact a⟩) (λ_ _=>rfl) ?_ rL (λk u=>.inl rK) (λk u=>.inl rK) (λk u=>.inl rK) (λk u=>.inl rK) (λk u=>.inl rK) (.inr ⟨?_,?_,?_,?_⟩) rJ rJ rJ
 .exact(m.obj z h.obj)
 .simp only[Az,Fw];exact n
 .simp
 .simp only[Fw];intro p n;exact(y p n).mod m (λq A e=>by rw[show q=g from A,a]at e;simp at e) (λ_ e=>e)
 exact h.nF
end
end Go.Proofs.YtddfdpbaiedcjabGreatDoor
