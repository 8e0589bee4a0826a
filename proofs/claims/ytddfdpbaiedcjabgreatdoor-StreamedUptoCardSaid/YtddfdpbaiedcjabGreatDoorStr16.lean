/- Streamed. Part 16 of 17. -/
import Derived.Test.YtddfdpbaiedcjabGreatDoorStr15
set_option maxRecDepth 100000
set_option maxHeartbeats 16000000
set_option linter.all false
namespace Go.Proofs.YtddfdpbaiedcjabGreatDoor
section
open Go.RowKit Go.Proofs.Tryz
variable{T:Nat}{c:CS}
def CS.Inv.send(h:c.Inv T)(k:Int)(s:qq):(c.send k s).2.Inv T:=by
 unfold CS.send;split
 .exact h
 split
 .exact h
 split
 .exact h
 rename_i a _ e;obtain⟨a,e,_⟩:=Mr (I:c.stream k=0);refine h.oz _<|λa=>?_;have w:=h.ws _ a;have e:((c k.toNat).b++s).length=(c k.toNat).b.length+s.length:=AF;have a:=w.high;exact⟨w.kH,w.kG,w.cut,by show((c k.toNat).b++s).length<=_;omega,w.kF,by show(c k.toNat).high<=((c k.toNat).b++s).length;omega⟩
def CS.Inv.finish(h:c.Inv T)(k:Int):(c.finish k).2.Inv T:=by
 unfold CS.finish;split
 .exact h
 split
 .exact h
 refine h.oz _<|λa=>?_;have w:=h.ws _ a;exact⟨w.kH,w.kG,w.cut,w.len,w.kF,w.high⟩
theorem CS.Inv.reset(h:c.Inv T)(k kD:Int):(c.reset k kD).2.Inv T:=by
 unfold CS.reset;split
 .exact h
 refine h.oz _<|λa=>?_;have w:=h.ws _ a;have a:=w.len;have a:=w.high;have a:=w.cut;have e:min kD.toNat (c k.toNat).b.length<=(c k.toNat).b.length:=Nat.min_le_right _ _;generalize min kD.toNat (c k.toNat).b.length=n at e;refine⟨w.kH,w.kG,?_,w.len,w.kF,w.high⟩;unfold WS.mT;simp only;unfold zG at *;cases(c k.toNat).cut with
 | true =>
  simp only[Bool.not_true,Bool.false_or,Aq,AW];split<;>omega
 | false =>
  simp only[Bool.not_false,Bool.true_or,Aq,BT,BE];omega
def VF{id a:Nat}{s:qq}(e:id<=zG)(g:a<=zG)(h:s.length<=1048576):(Gg id a s).Fits:=by
 have hb:=KK (Gg id a s) rfl;have hd:(Gg id a s).data.length=s.length:=rfl;refine⟨?_,rfl,by rw[hd];exact h,by rw[hd]at hb;omega⟩;unfold zG at e g;simp[zH,D8,nums,D6,zP,Gg];omega
def CS.Inv.kK(h:c.Inv T)(id a:Nat)(s:qq):(c.kK id a s).2.Inv T:=by
 unfold CS.kK;split
 .exact h
 split
 .exact h
 split
 .exact h
 split
 .exact h
 rename_i _ hb e g;have e:=h.kj;exact
  {kj:=h.kj,ln:=h.ln,lr:=h.lr,kE:=h.kE,kF:=h.kF,ws:=h.ws,rs:=h.rs,now:=h.now,next:=h.next,kN:=h.kN,nd:=h.nd,ids:=h.ids,sl:=h.sl,most:=h.most,cl:=h.cl,fl:=h.fl,lE:=h.lE
   waits:=by
    have e:=h.waits;show(∀f∈(if c.now<=a then c.waits++[Gg id a s]else c.waits),f.Fits)/\(if c.now<=a then c.waits++[Gg id a s]else c.waits).length<=16;split
    .refine⟨λf a=>?_,by rw[AF,Ak];omega⟩;rcases Ap.1 a with x|x
     .exact e.1 f x
     rw[As.1 x];exact VF I I I
    exact e }
def CS.Inv.close(h:c.Inv T):c.close.2.Inv T:=by
 unfold CS.close;split
 .exact h
 exact h.nX 12 c.said c.answer
def CS.Inv.kW(h:c.Inv T):c.kW.2.Inv T :=
 {kj:=h.kj,ln:=h.ln,lr:=h.lr,kE:=h.kE,kF:=h.kF,ws:=h.ws,rs:=h.rs,waits:=h.waits,now:=h.now,next:=h.next,kN:=h.kN,nd:=h.nd,ids:=h.ids,sl:=h.sl,most:=h.most,fl:=h.fl,lE:=h.lE
  cl:=AK _ }
theorem dQ(rs:zE):∀a e,a<=(DP rs a e).1:=by
 induction rs with
 | nil=>intro a e;exact AI _
 | cons r l ih =>
  intro a e;unfold DP;split
  .exact ih a e
  split
  .exact AI _
  have:=ih (r.2+1) e;omega
variable{H:Nat}
theorem SD(rs:zE):∀a e,a<=H->(∀r∈rs,r.2<H)->(DP rs a e).1<=H:=by
 induction rs with
 | nil=>intro a e h _;exact h
 | cons r l ih =>
  intro a e h g;have m:=g r BB;have m:=λx n=>g x<|BA _ n
  unfold DP;split
  .exact ih a e h m
  split
  .exact h
  exact ih _ e I m
variable{G:Nat}{x:RS}
def RS.Inv.lead(h:x.Inv G):x.read<=(DP x.kG.rs x.read x.high).1/\(DP x.kG.rs x.read x.high).1<=x.high :=
 ⟨dQ _ _ _,SD _ _ _ h.rd (λr a=>by obtain⟨j,g,_,e⟩:=Ld a;rw[<-e];exact h.pR j g)⟩
def RS.Inv.nh(h:x.Inv G)(a:G<=1099511627776):Lc x:=by
 obtain⟨a,b⟩:=h.lead;have e:=h.hg;have e:=h.gr;have e:=h.bl;have e:=h.kG.rl;have e:=h.kG.most;exact⟨I,a,I,λk a=>qm<|h.pR k a,I,h.kD,h.fin⟩
def CS.Inv.nh(h:c.Inv T)(a:T<=DW):∀k,k<8->Lc (c.rs k):=λk e=>(h.rs k e).nh (by unfold DW at a;omega)
def RS.Inv.kR(h:x.Inv G)(n:Nat):x.kR n<=x.high:=by
 obtain⟨a,b⟩:=h.lead;have:=h.rd;unfold RS.kR;split<;>omega
def CS.Inv.read(h:c.Inv T)(k a:Int):(c.read k a).2.Inv T:=by
 unfold CS.read;split
 .exact h
 split
 .exact h
 rename_i e _;obtain⟨e,m,_⟩:=Mr (I:c.stream k=0);have x:=h.rs k.toNat I;refine h.pY _ ⟨x.kG,x.pR,x.bl,x.kR _,x.hg,x.gr,x.fin,x.kD,λe=>?_⟩;have g:(c.rs k.toNat).kx ((c.rs k.toNat).kR a.toNat)=2:=e;unfold RS.kx at g;split at g
 .rename_i a;simp only[AV,AW]at a;exact a
 split at g<;>cases g
def CS.Inv.new{kj a g:Nat}(h:64<=kj/\kj<=400)(n:a<=4096)(q:g<=4096):(CS.new kj a g).Inv 0 :=
 {kj:=⟨h.1,by show kj<=_;omega⟩,ln:=n,lr:=q
  kE:=by show g<=_;unfold zG;omega
  kF:=by show g<=_;unfold zG;omega
  ws:=λ_ _=>⟨Id _ I,Id _ I,⟨AI _,AK _,AK _⟩,AK _,by show a<=_;unfold zG;omega,AI _⟩
  rs:=λ_ _=>⟨Id _ I,λj g=>absurd g<|Al j,rfl,AI _,AK _,by show a<=_;omega,AK _,AK _,λe=>by cases e⟩
  waits:=⟨λf u=>(by cases u),AK _⟩
  fl:=AK _
  lE:=λp m=>(by cases m)
  now:=AI _
  next:=AI _
  kN:=⟨Id _ I,AI _⟩
  nd:=List.nodup_nil
  ids:=λp m=>(by cases m)
  sl:=AI _
  most:=AK _
  cl:=AI _ }
def HB(G:Nat)(c:CS):Prop:=∀k,k<8->(c.rs k).lu=true->(c.rs k).used<=G
structure Dr(G:Nat)(c c':CS):Prop where
 hd:c'.kj=c.kj/\c'.kT=c.kT/\c'.total=c.total/\c'.now=c.now/\c'.closed=c.closed/\c'.said=c.said/\c'.kN=c.kN/\c'.answer=c.answer
 tl:c'.kF=c.kF/\c'.kO=c.kO/\c'.lN=c.lN/\c'.lW=c.lW/\c'.seen=c.seen/\c'.most=c.most/\c'.kG=c.kG
 wl:c'.waits.length<=c.waits.length
 rs:∀k,k<8->∃g a,c'.rs k={ c.rs k with kE:=g,ky:=a }/\((g=(c.rs k).kE/\a=(c.rs k).ky)\/((c.rs k).used<=G/\g=max (c.rs k).kE ((c.rs k).used+c.kT)))
def Dr.refl(G:Nat)(c:CS):Dr G c c:=⟨⟨rfl,rfl,rfl,rfl,rfl,rfl,rfl,rfl⟩,⟨rfl,rfl,rfl,rfl,rfl,rfl,rfl⟩,AI _,λk _=>⟨(c.rs k).kE,(c.rs k).ky,rfl,.inl ⟨rfl,rfl⟩⟩⟩
def R9(x:RS)(g:Nat)(a:Bool):({ x with kE:=g,ky:=a }:RS).used=x.used:=rfl
variable{c':CS}
def Dr.trans{a:CS}(h:Dr G c c')(k:Dr G c' a):Dr G c a:=by
 obtain⟨a,n,e,g,q,y,z,A⟩:=h.hd;obtain⟨b1,b2,B,C,D,E,G,K⟩:=k.hd;obtain⟨c1,c2,L,M,N,O,R⟩:=h.tl;obtain⟨X,Y,Z,d4,d5,d6,d7⟩:=k.tl;refine⟨⟨b1.trans a,b2.trans n,B.trans e,C.trans g,D.trans q,E.trans y,G.trans z,K.trans A⟩,⟨X.trans c1,Y.trans c2,Z.trans L,d4.trans M,d5.trans N,d6.trans O,d7.trans R⟩,AR k.wl h.wl,λq y=>?_⟩;obtain⟨g,a,e,hg⟩:=h.rs q y;obtain⟨a,g,h,m⟩:=k.rs q y;refine⟨a,g,by rw[h,e],?_⟩;rw[e,R9,n]at m;simp only at m;rcases hg with⟨rfl,rfl⟩|⟨u,rfl⟩
 .exact m
 rcases m with⟨rfl,rfl⟩|⟨_,rfl⟩
 .exact .inr ⟨u,rfl⟩
 exact .inr ⟨u,I⟩
def HB.but(h:HB G c)(p:Dr G c c'):HB G c':=by
 intro k m n;obtain⟨g,a,e,q⟩:=p.rs k m;rw[e]at n ⊢;rw[R9];rcases q with⟨rfl,rfl⟩|⟨u,_⟩
 .exact h k m n
 exact u
variable{d:DJ}
theorem XJ(h:HB G c):∀n k t,n+k=8->∀x,(FB c d n k t).1=some x->Dr G c x.1:=by
 intro n
 induction n with
 | zero=>intro k t _ x g;cases g
 | succ n ih =>
  intro k t n x g;have n:k<8:=I;have m:=ih (k+1) (min (t+(c.rs k).used) zG) I;unfold FB at g;split at g
  .rename_i a;simp only[AV]at a;split at g
   .cases g;refine⟨⟨rfl,rfl,rfl,rfl,rfl,rfl,rfl,rfl⟩,⟨rfl,rfl,rfl,rfl,rfl,rfl,rfl⟩,AI _,λj q=>?_⟩;by_cases e:j=k
    .subst e;refine⟨_,false,?_,.inr ⟨h j q a.2,rfl⟩⟩;show zh c.rs j _ j=_;rw[zf]
    refine⟨(c.rs j).kE,(c.rs j).ky,?_,.inl ⟨rfl,rfl⟩⟩;show zh c.rs k _ j=_;rw[zl _ _ e]
   exact m x g
  exact m x g
theorem R8:∀n k x,Ew c d n k=some x->Dr G c x.1:=by
 intro n
 induction n with
 | zero=>intro k x a;cases a
 | succ n ih =>
  intro k x a;unfold Ew at a;split at a
  .split at a
   .cases a;exact⟨⟨rfl,rfl,rfl,rfl,rfl,rfl,rfl,rfl⟩,⟨rfl,rfl,rfl,rfl,rfl,rfl,rfl⟩,AI _,(Dr.refl G c).rs⟩
   exact ih _ x a
  exact ih _ x a
def iR(h:HB G c):∀x,c.control d=some x->Dr G c x.1:=by
 intro x a;unfold CS.control at a;split at a
 .rename_i y e;cases a;exact XJ h 8 0 c.total rfl _ e
 unfold LV at a;split at a
 .split at a
  .cases a;exact⟨⟨rfl,rfl,rfl,rfl,rfl,rfl,rfl,rfl⟩,⟨rfl,rfl,rfl,rfl,rfl,rfl,rfl⟩,AI _,(Dr.refl G c).rs⟩
  exact R8 8 0 x a
 exact R8 8 0 x a
variable{hi k lo:Nat}
def Ud{fin:Bool}:Dr G c (c.lA d k lo hi fin).2.1:=by
 unfold CS.lA;split
 .exact Dr.refl G c
 exact⟨⟨rfl,rfl,rfl,rfl,rfl,rfl,rfl,rfl⟩,⟨rfl,rfl,rfl,rfl,rfl,rfl,rfl⟩,AI _,(Dr.refl G c).rs⟩
def T3:Dr G c (c.lI d k lo hi).2.1:=by
 unfold CS.lI;split
 .split
  .exact Dr.refl G c
  exact Ud
 exact Ud
def Yl:Dr G c (c.bytes d k).2.1:=by
 unfold CS.bytes;split
 .exact Dr.refl G c
 split
 .split
  .exact Dr.refl G c
  exact T3
 exact T3
theorem VE(h:HB G c):∀q,Dr G c (c.put d q).2.1
 | 0=>by
  show Dr G c ((c.control d).getD (c,d)).1;cases hc:c.control d with
  | none=>exact Dr.refl G c
  | some x=>exact iR h x hc
 | 1=>by
  show Dr G c ((c.kU d).getD (c,d)).1;unfold CS.kU;cases hw:c.waits with
  | nil=>exact Dr.refl G c
  | cons f l =>
   cases hd:d.add f with
   | none=>simp only[hd,Option.map_none];exact Dr.refl G c
   | some d' =>
    simp only[hd,BP];exact⟨⟨rfl,rfl,rfl,rfl,rfl,rfl,rfl,rfl⟩,⟨rfl,rfl,rfl,rfl,rfl,rfl,rfl⟩,by rw[hw];exact Ar _,(Dr.refl G c).rs⟩
 | k+2=>Yl
variable{q:Nat}
theorem Sr:∀n (c:CS) (d:DJ),HB G c->Dr G c (CS.lP q n c d).1
 | 0,c,_,_=>Dr.refl G c
 | n+1,c,d,h=>by
  have p:=VE (d:=d) h q;unfold CS.lP;split
  .exact p.trans (Sr n _ _<|h.but p)
  exact p
theorem TR:∀n (c:CS) (d:DJ),HB G c->Dr G c (CS.lB n c d).1
 | 0,c,_,_=>Dr.refl G c
 | n+1,c,d,h=>by
  have p:=Sr (q:=9-n) (d.room+1) c d h;unfold CS.lB;exact p.trans<|TR n _ _<|h.but p
structure Ev(d:DJ):Prop where
 fs:∀f∈d.fs,GO f
 fit:d.fs≠[]->d.b.length+4<=d.room
variable{f:DF}
def GO.fits(h:f.Fits):GO f:=by
 have a:=h.sound;have hd:=h.data;unfold zH D6 at a;simp only[AV,AW]at a;refine⟨⟨f.stream.toNat,I,I⟩,λe=>⟨?_,I⟩⟩;have g:=a.2;unfold zP at g;rw[e]at g;simp at g;unfold zG;omega
def GO.qc(l:zE):GO (kP l):=⟨⟨0,lc,rfl⟩,λe=>absurd e (by simp[kP])⟩
variable{d':DJ}
def Ev.add(h:Ev d)(e:GO f)(a:d.add f=some d'):Ev d':=by
 obtain⟨_,m,g,_,_,n⟩:=DJ.lz a;refine⟨λg a=>?_,λ_=>I⟩;rw[m]at a;rcases Ap.1 a with x|x
 .exact h.fs g x
 rw[As.1 x];exact e
theorem Ev.put{r:Bool}(h:Ev d)(p:Gb c d r c' d'):Ev d':=by
 cases r with
 | true =>
  obtain⟨f,a,_,e⟩:=p.yes rfl;exact h.add (GO.fits a) e
 | false =>
  obtain⟨_,e|e⟩:=p.no rfl
  .rw[e];exact h
  rw[e];exact⟨h.fs,h.fit⟩
theorem Ev.lP(a:q<10):∀n (c:CS) (d:DJ),c.Ok->Ev d->Ev (CS.lP q n c d).2
 | 0,_,_,_,h=>h
 | n+1,c,d,hc,h=>by
  have p:=Nt (d:=d) hc a;unfold CS.lP;split
  .exact Ev.lP a n _ _ p.ok (h.put p)
  exact h.put p
theorem Ev.lB:∀n (c:CS) (d:DJ),n<=10->c.Ok->d.Ok->Ev d->Ev (CS.lB n c d).2
 | 0,_,_,_,_,_,h=>h
 | n+1,c,d,hn,hc,hd,h=>by
  have r:=Pd (q:=9-n) I (d.room+1) c d hc hd;unfold CS.lB;exact Ev.lB n _ _ I r.1 r.2.1<|h.lP I (d.room+1) c d hc
theorem Ev.told(h:Ev d)(l:zE):Ev (zB d l).1:=by
 unfold zB;split
 .exact h
 show Ev ((d.add _).getD d);cases ha:d.add (kP<|l.take<|Ep d l l.length)with
 | none=>exact h
 | some d'=>exact h.add (GO.qc _) ha
def MJ(l:List DI):Prop:=∀p∈l,p.n<=zG/\p.at_<=zG/\p.fs.length<=1099511627776/\∀f∈p.fs,GO f
structure Rc(G:Nat)(c:CS)(l:zE)(n:Nat)(r:List qq×CS):Prop where
 but:Dr G c r.2
 ok:r.2.Ok
 fl:r.2.kB.length<=12
 lE:MJ r.2.kB
 next:r.2.next<=c.next+Fp c l
 z:r.1.length<=n/\∀x∈r.1,x.length<=c.kj
def N9(n:Nat):(EP n).length=4:=rfl
theorem TQ:∀n (c:CS) (l:zE),Hy c l->HB G c->MJ c.kB->c.now<=zG->Rc G c l n (CS.mI n c l)
 | 0,c,l,h,_,hf,_=>⟨Dr.refl G c,h.ok,h.fl,hf,by show c.next<=_;omega,AI _,λx e=>by cases e⟩
 | n+1,c,l,h,hb,hf,hn=>by
  obtain⟨g,B,y,m,z,q,C⟩:=h.round;have t:=Nz (I8 h.ok) l;have a:Dr G c (c.kM (zB c.kJ l).1).1:=by
   unfold CS.kM;split
   .exact TR 10 c _ hb
   exact Dr.refl G c
  have u:Ev (c.kM (zB c.kJ l).1).2/\(c.kM (zB c.kJ l).1).2.room=c.kj:=by
   have A:Ev (zB c.kJ l).1:=Ev.told ⟨λf hf=>(by cases hf),λx=>absurd rfl x⟩ l;unfold CS.kM;split
   .exact⟨A.lB 10 c _ (AI _) h.ok g,(P2 10 c _ (AI _) h.ok g).2.2.1.trans t.2.1⟩
   exact⟨A,t.2.1⟩
  unfold CS.mI;split
  .exact⟨a,B,by show(c.kM _).1.kB.length<=12;rw[q];exact h.fl,by show MJ (c.kM _).1.kB;rw[q];exact hf,by show(c.kM _).1.next<=_;rw[m];omega,AK _,λx e=>by cases e⟩
  rename_i g;obtain⟨A,B⟩:=C g;have bd:Dr G c ((c.kM (zB c.kJ l).1).1.lQ (c.kM (zB c.kJ l).1).2):=⟨a.hd,a.tl,a.wl,a.rs⟩;have e:=h.next;have h:MJ ((c.kM (zB c.kJ l).1).1.lQ (c.kM (zB c.kJ l).1).2).kB:=by
   show MJ (if (c.kM (zB c.kJ l).1).2.kX then(c.kM (zB c.kJ l).1).1.kB++[⟨(c.kM (zB c.kJ l).1).1.next,(c.kM (zB c.kJ l).1).1.now,(c.kM (zB c.kJ l).1).2.fs⟩]else(c.kM (zB c.kJ l).1).1.kB);rw[m,z,q];split
   .intro p a;rcases Ap.1 a with x|x
    .exact hf p x
    rw[As.1 x];have:=y.fs;have:=y.b;exact⟨by show c.next<=_;omega,hn,by show(c.kM _).2.fs.length<=_;omega,u.1.fs⟩
   exact hf
  have a:=TQ n _ _ A (hb.but bd) h (by show(c.kM _).1.now<=_;rw[z];exact hn);have h:((c.kM (zB c.kJ l).1).1.lQ (c.kM (zB c.kJ l).1).2).next=c.next+1:=by show(c.kM _).1.next+1=_;rw[m]
  have m:=a.next;rw[h]at m;refine⟨bd.trans a.but,a.ok,a.fl,a.lE,?_,?_,λx e=>?_⟩
  .show(CS.mI n _ _).2.next<=_;omega
  .show(CS.mI n _ _).1.length+1<=_;have:=a.z.1;omega
  rcases Be.1 e with e|e
  .rw[e];have:=u.1.fit g;have:=u.2;unfold Fs;rw[AF,N9];omega
  have:=a.z.2 x e;have a:=bd.hd.1;omega
def RS.Inv.again{e:Nat}(h:x.Inv G)(g:Nat)(a:Bool)(m:x.kE<=g)(n:g<=e):({ x with kE:=g,ky:=a }:RS).Inv e:=⟨h.kG,h.pR,h.bl,h.rd,AR h.hg m,n,h.fin,h.kD,h.st⟩
def CS.Inv.lK(h:c.Inv T):c.lK.2.Inv T/\Gu c.lK.1/\c.lK.1.length<=8:=by
 unfold CS.lK;split
 .refine⟨h.nX c.closed c.said false,h.kN.1.desc,?_⟩;have:=h.kN.1.rl;have:=h.kN.2;show c.kN.rs.reverse.length<=8;rw[List.length_reverse];omega
 exact⟨h,λi a=>absurd a<|Al i,AK _⟩
def CS.Inv.po(h:c.Inv T)(e:T<=DW):Hy c.lK.2 c.lK.1:=by
 obtain⟨a,b,d⟩:=h.lK;have g:=a.next;have g:=a.fl;unfold DW at e;exact⟨a.ok<|by unfold DW;omega,a.kj.1,b,I,g,by unfold Fp zG;omega⟩
def CS.Inv.hb(h:c.Inv T)(a:T<=DW):HB (4096*(T+1)) c:=λk e g=>((h.rs k e).used (by unfold DW at a;omega)).2 g
def CS.Inv.oM(h:c.Inv T)(e:T<=DW):Rc (4096*(T+1)) c.lK.2 c.lK.1 (12-c.kB.length+c.lK.1.length+1) c.lS:=by
 obtain⟨a,b,d⟩:=h.lK;exact TQ _ _ _ (h.po e) (a.hb e) a.lE (by have:=a.now;unfold DW at e;unfold zG;omega)
def CS.Inv.lS(h:c.Inv T)(e:T<=DW):c.lS.2.Inv (T+1):=by
 have p:=h.oM e;obtain⟨a,_,d⟩:=h.lK;obtain⟨e,g,h,q,u,B,y,C⟩:=p.but.hd;obtain⟨c1,c2,g,h,m,z,A⟩:=p.but.tl;have o:=p.ok;exact
  {kj:=by rw[e];exact a.kj
   ln:=o.ln
   lr:=o.lr
   kE:=o.kE
   kF:=o.kF
   ws:=o.ws
   rs:=λk h=>by
    obtain⟨g,x,e,n⟩:=p.but.rs k h;rw[e];have r:=a.rs k h;have e:=a.ln;have e:=r.gr;refine r.again g x ?_ ?_
    .rcases n with⟨rfl,_⟩|⟨_,rfl⟩<;>omega
    rcases n with⟨rfl,_⟩|⟨u,rfl⟩<;>omega
   waits:=⟨o.waits,AR p.but.wl a.waits.2⟩
   fl:=p.fl
   lE:=p.lE
   now:=by rw[q];have:=a.now;omega
   next:=by have:=p.next;have:=a.next;have:=a.fl;unfold Fp at *;omega
   kN:=by rw[y];exact a.kN
   nd:=by rw[m];exact a.nd
   ids:=by rw[m];exact a.ids
   sl:=by rw[m];have:=a.sl;omega
   most:=by rw[z];exact a.most
   cl:=by rw[A];have:=a.cl;omega }
structure RI(w:Nat)(x:RS)(y:SI):Prop where
 high:y.high=x.high
 end_:y.end_=x.fin
 ended:y.ended=x.ended
 reset:y.reset=x.cut
 kD:y.kD=x.kD
 read:y.read=x.read
 state:y.state=x.state
 data:y.data=x.b
 tl:y.there.length=x.high
 there:∀j,y.there.getD j false=true↔Dc x.kG.rs j
 ok:x.kG.Ok
 fl:x.kG.fl=0
 most:x.kG.most=4097
 low:∀j,j<x.read->Dc x.kG.rs j
 top:∀j,Dc x.kG.rs j->j<x.high
 bl:x.b.length=x.high
 rd:x.read<=x.high
 hg:x.high<=x.kE
 gw:x.kE<=x.read+w
 ce:x.cut=true->x.ended=true
 ef:x.ended=true->x.high<=x.fin
 st:x.state=2->x.cut=true/\x.kD<=x.read
def FU(x:WS):SO:=⟨x.b,x.finished,x.cut,x.kD,x.final⟩
structure Nh(cs:List (Nat×Nat))(cm:Nat)(ss:List Nat)(sm:Nat)(some_:Bool):Prop where
 mo:sm=cm
 iff:∀id,(∃p∈cs,p.1=id)↔id∈ss/\D2 cm id=false
 no:some_=false->ss=[]
 qd:some_=false->cm=0
 yes:some_=true->cm∈ss
structure Nm(T:Nat)(g e:DO):Prop where
 ok:e.Ok
 fl:e.fl=0
 most:e.most=1073741824
 len:e.rs.length<=T
 sub:∀n,Dc g.rs n->Dc e.rs n
structure DH(fr:Bool)(T:Nat)(c:CS)(s:SS):Prop where
 cfg:s.kj=c.kj/\s.kT=c.kT/\s.total=c.total
 now:s.now=c.now
 cl:s.closed=c.closed/\s.said=c.said
 kN:s.kN=c.kN
 gf:c.kN.Ok/\∀m,Dc c.kN.rs m->c.kN.fl<=m
 ev:Nm T c.kN s.lx
 outs:∀k,k<8->s.outs k=FU (c k)
 wk:∀k,k<8->(c k).kD<=(c k).b.length/\(c k).high<=(c k).b.length
 ins:∀k,k<8->RI c.kT (c.rs k) (s.ins k)
 gr:∀k,k<8->s.kS k=(c.rs k).kE
 gt:s.kE=c.kE
 gv:∀k,k<8->s.given k=(c k).kF
 al:s.all=c.kF
 sp:zR c.ws 8<=c.kF
 hl:s.high.length<=8
 hi:∀k,k<8->s.high.getD k 0=(c k).high
 wt:s.waits=c.waits
 wf:∀f∈c.waits,EJ f=f/\f.kind=7/\c.now<=f.dl
 ls:s.last=c.lN/\s.any=c.lW
 se:Nh c.seen c.most s.seen s.most s.some_
 sl:s.seen.length<=T
 cm:s.kG=c.kG
 tg:c.kE<=s.lD 8+c.total
 dl:s.due.length<=T
 da:fr=true\/s.due=[]\/c.answer=true
 dg:∀n∈s.due,n<c.kN.fl\/Dc c.kN.rs n
variable{s:SS}
theorem Uc{s':SS}(h:∀k,k<8->(s.ins k).used<=(s'.ins k).used):∀n,n<=8->s.lD n<=s'.lD n
 | 0,_=>AI _
 | n+1,hn=>by
  have a:=Uc h n I;have b:=h n I;show min (s.lD n+_) _<=min (s'.lD n+_) _;omega
variable{fr:Bool}
def DH.of(h:DH fr T c s)(k:Int):s.of k=c.stream k:=by
 unfold SS.of CS.stream;rw[h.cl.1]
def OS{k:Int}(h:c.stream k=0):k.toNat<8:=by
 unfold CS.stream at h;split at h
 .cases h
 split at h
 .cases h
 omega
theorem DH.oz(h:DH fr T c s)(k:Nat)(x:WS)(y:k<8)(g:x.high=(c k).high)(m:x.kF=(c k).kF)(q:x.kD<=x.b.length/\x.high<=x.b.length):DH fr T { c with ws:=zh c.ws k x } { s with outs:=zh s.outs k (FU x) }:=by
 have u:∀n,zR (zh c.ws k x) n=zR c.ws n:=by
  intro n
  induction n with
  | zero=>rfl
  | succ n ih =>
   show zR (zh c.ws k x) n+_=zR c.ws n+_;rw[ih];by_cases e:n=k
   .subst e;rw[zf,g]
   rw[zl _ _ e]
 exact{ h with
  outs:=λj a=>by
   show zh s.outs k (FU x) j=FU (zh c.ws k x j);by_cases e:j=k
   .subst e;rw[zf,zf]
   rw[zl _ _ e,zl _ _ e];exact h.outs j a
  wk:=λj a=>by
   show(zh c.ws k x j).kD<=_/\_;by_cases e:j=k
   .subst e;simp only[zf];exact q
   simp only[zl _ _ e];exact h.wk j a
  gv:=λj a=>by
   show s.given j=(zh c.ws k x j).kF;by_cases e:j=k
   .subst e;rw[zf,m];exact h.gv j a
   rw[zl _ _ e];exact h.gv j a
  sp:=by show zR (zh c.ws k x) 8<=_;rw[u];exact h.sp
  hi:=λj a=>by
   show s.high.getD j 0=(zh c.ws k x j).high;by_cases e:j=k
   .subst e;rw[zf,g];exact h.hi j a
   rw[zl _ _ e];exact h.hi j a }
def PH(h:DH fr T c s){k:Int}(a:c.stream k=0):k.toNat<8/\s.outs k.toNat=FU (c k.toNat):=⟨OS a,h.outs _ (OS a)⟩
def DH.send(h:DH fr T c s)(k:Int)(l:qq):(s.send k l).1=(c.send k l).1/\DH fr T (c.send k l).2 (s.send k l).2/\(s.send k l).2.kH=s.kH/\(c.send k l).2.next=c.next:=by
 unfold SS.send CS.send;rw[h.of];by_cases a:c.stream k=0
 .obtain⟨g,e⟩:=PH h a;have w:=h.wk _ g;simp only[a,ne_eq,Av,BE,e,FU];by_cases e:((c k.toNat).finished||(c k.toNat).cut)=true
  .simp only[AL e];exact⟨trivial,h,trivial,trivial⟩
  simp only[AH e];by_cases e:2048<(c k.toNat).b.length+l.length
  .simp only[AL e];exact⟨trivial,h,trivial,trivial⟩
  simp only[AH e];exact⟨trivial,h.oz _ { c.ws k.toNat with b:=(c k.toNat).b++l } g rfl rfl ⟨by show(c k.toNat).kD<=((c k.toNat).b++l).length;rw[AF];omega,by show(c k.toNat).high<=((c k.toNat).b++l).length;rw[AF];omega⟩,trivial,trivial⟩
 simp only[a,ne_eq,Ae,Aq];exact⟨trivial,h,trivial,trivial⟩
def DH.finish(h:DH fr T c s)(k:Int):(s.finish k).1=(c.finish k).1/\DH fr T (c.finish k).2 (s.finish k).2/\(s.finish k).2.kH=s.kH/\(c.finish k).2.next=c.next:=by
 unfold SS.finish CS.finish;rw[h.of];by_cases a:c.stream k=0
 .obtain⟨g,e⟩:=PH h a;have w:=h.wk _ g;simp only[a,ne_eq,Av,BE,e,FU];by_cases e:((c k.toNat).finished||(c k.toNat).cut)=true
  .simp only[AL e];exact⟨trivial,h,trivial,trivial⟩
  simp only[AH e];exact⟨trivial,h.oz _ { c.ws k.toNat with finished:=true } g rfl rfl w,trivial,trivial⟩
 simp only[a,ne_eq,Ae,Aq];exact⟨trivial,h,trivial,trivial⟩
def DH.reset(h:DH fr T c s)(k kD:Int):(s.reset k kD).1=(c.reset k kD).1/\DH fr T (c.reset k kD).2 (s.reset k kD).2/\(s.reset k kD).2.kH=s.kH/\(c.reset k kD).2.next=c.next:=by
 unfold SS.reset CS.reset;rw[h.of];by_cases a:c.stream k=0
 .obtain⟨g,m⟩:=PH h a;have w:=h.wk _ g;have e:(FU<|c k.toNat).mT (min kD.toNat (c k.toNat).b.length) (c k.toNat).high=FU ((c k.toNat).mT<|min kD.toNat (c k.toNat).b.length):=by
   unfold SO.mT WS.mT FU;rw[Nat.max_comm]
  simp only[a,ne_eq,Av,BE,m,h.hi _ g];rw[show(FU<|c k.toNat).data=(c k.toNat).b from rfl,e];refine⟨trivial,h.oz _ _ g rfl rfl ⟨?_,w.2⟩,trivial,trivial⟩;show(if _ then _ else _)<=_;split
  .exact Nat.min_le_right _ _
  exact w.1
 simp only[a,ne_eq,Ae,Aq];exact⟨trivial,h,trivial,trivial⟩
def DH.kK(h:DH fr T c s)(id a:Nat)(l:qq):(s.kK id a l).1=(c.kK id a l).1/\DH fr T (c.kK id a l).2 (s.kK id a l).2/\(s.kK id a l).2.kH=s.kH/\(c.kK id a l).2.next=c.next:=by
 have e:s.kK id a l=if c.closed≠0 then(12,s)else if 4611686018427387903<id\/4611686018427387903<a\/(c.lW=true/\id<=c.lN)then(5,s)else if c.kj<l.length+40 then(6,s)else if c.waits.length=16 then(3,s)else
   (0,{ s with any:=true,last:=id,waits:=if c.now<=a then s.waits++[Jk id a l]else s.waits }):=by
  unfold SS.kK;simp only[h.cl.1,h.ls.1,h.ls.2,h.cfg.1,h.now,h.wt]
 rw[e];unfold CS.kK zG;by_cases g:c.closed=0
 .simp only[AH (show ¬c.closed≠0 from λx=>x g)];by_cases e:4611686018427387903<id\/4611686018427387903<a\/c.lW=true/\id<=c.lN
  .simp only[AL e];exact⟨trivial,h,trivial,trivial⟩
  simp only[AH e];by_cases e:c.kj<l.length+40
  .simp only[AL e];exact⟨trivial,h,trivial,trivial⟩
  simp only[AH e];by_cases e:c.waits.length=16
  .simp only[AL e];exact⟨trivial,h,trivial,trivial⟩
  simp only[AH e];refine⟨trivial,{ h with wt:=(by show(if c.now<=a then s.waits++[Jk id a l]else s.waits)=_;rw[h.wt];first|done|rfl),ls:=⟨rfl,rfl⟩,wf:=λf e=>?_ },trivial,trivial⟩;have e:f∈(if c.now<=a then c.waits++[Gg id a l]else c.waits):=e;split at e
  .rename_i a;rcases Ap.1 e with x|x
   .exact h.wf f x
   rw[As.1 x];exact⟨rfl,rfl,a⟩
  exact h.wf f e
 simp only[AL (show c.closed≠0 from g)];exact⟨trivial,h,trivial,trivial⟩
def DH.close(h:DH fr T c s):s.close.1=c.close.1/\DH fr T c.close.2 s.close.2/\s.close.2.kH=s.kH/\c.close.2.next=c.next:=by
 unfold SS.close CS.close;rw[h.cl.1];by_cases a:c.closed=0
 .simp only[a,ne_eq,Av,BE];exact⟨trivial,{ h with cl:=⟨rfl,h.cl.2⟩ },trivial,trivial⟩
 simp only[a,ne_eq,Ae,Aq];exact⟨trivial,h,trivial,trivial⟩
def DH.oh(h:DH fr T c s):s.kG=c.kW.1/\DH fr T c.kW.2 { s with kG:=[] }:=⟨h.cm,{ h with cm:=rfl }⟩
structure Gy(x y:WS):Prop where
 b:y.b=x.b
 high:y.high=x.high
 fin:y.finished=x.finished
 cut:y.cut=x.cut
 kD:y.kD=x.kD
 final:y.final=x.final
 kF:y.kF=x.kF
theorem DH.but(h:DH fr T c s)(b:Ej c c')(w:∀k,Gy (c k) (c' k)):DH fr T c' s:=by
 obtain⟨a,u,y,z,e,g,L,m,B⟩:=b.hd;obtain⟨c1,c2,L,M,A,C,D,E,G,q⟩:=b.tl;have K:∀n,zR c'.ws n=zR c.ws n:=by
  intro n
  induction n with
  | zero=>rfl
  | succ n ih =>
   show zR c'.ws n+_=zR c.ws n+_;rw[ih,(w n).high]
 exact
  {cfg:=by rw[a,u,y];exact h.cfg
   now:=by rw[z];exact h.now
   cl:=by rw[e,g];exact h.cl
   kN:=by rw[m];exact h.kN
   gf:=by rw[m];exact h.gf
   ev:=by rw[m];exact h.ev
   outs:=λk g=>by rw[h.outs k g];unfold FU;rw[(w k).b,(w k).fin,(w k).cut,(w k).kD,(w k).final]
   wk:=λk g=>by rw[(w k).b,(w k).kD,(w k).high];exact h.wk k g
   ins:=λk g=>by
    obtain⟨a,e⟩:=b.rs k g;rw[e,u];have r:=h.ins k g;exact{ r with }
   gr:=λk g=>by
    obtain⟨a,e⟩:=b.rs k g;rw[e];exact h.gr k g
   gt:=by rw[c2];exact h.gt
   gv:=λk g=>by rw[(w k).kF];exact h.gv k g
   al:=by rw[c1];exact h.al
   sp:=by rw[K,c1];exact h.sp
   hl:=h.hl
   hi:=λk g=>by rw[(w k).high];exact h.hi k g
   wt:=by rw[A];exact h.wt
   wf:=by rw[A,z];exact h.wf
   ls:=by rw[C,D];exact h.ls
   se:=by rw[E,G];exact h.se
   sl:=h.sl
   cm:=by rw[q];exact h.cm
   tg:=by rw[c2,y];exact h.tg
   dl:=h.dl
   da:=by rw[B];exact h.da
   dg:=by rw[m];exact h.dg }
def DH.lE(h:DH fr T c s)(l:List DI):DH fr T (c.lE l) s:={ h with }
def Gy.refl(x:WS):Gy x x:=⟨rfl,rfl,rfl,rfl,rfl,rfl,rfl⟩
def Gy.trans{x y z:WS}(h:Gy x y)(k:Gy y z):Gy x z:=⟨k.b.trans h.b,k.high.trans h.high,k.fin.trans h.fin,k.cut.trans h.cut,k.kD.trans h.kD,k.final.trans h.final,k.kF.trans h.kF⟩
def WB(c c':CS):Prop:=∀k,Gy (c k) (c' k)
def WB.refl(c:CS):WB c c:=λk=>Gy.refl _
def WB.trans{a b:CS}(h:WB a b)(k:WB b c):WB a c:=λj=>(h j).trans (k j)
def WB.qR(k:Nat){x:WS}(h:Gy (c k) x):WB c { c with ws:=zh c.ws k x }:=λj=>by
 show Gy (c j) (zh c.ws k x j);by_cases e:j=k
 .subst e;rw[zf];exact h
 rw[zl _ _ e];exact Gy.refl _
def XI(c:CS)(f:DF):WB c (c.again f):=by
 unfold CS.again;split
 .exact WB.qR _ ⟨rfl,rfl,rfl,rfl,rfl,rfl,rfl⟩
 split
 .exact WB.qR _ ⟨rfl,rfl,rfl,rfl,rfl,rfl,rfl⟩
 split
 .exact WB.refl c
 split<;>exact WB.refl c
theorem TP:∀(a:List DF) (c:CS),WB c (c.lG a)
 | [],c=>WB.refl c
 | f::a,c=>(XI c f).trans<|TP a<|c.again f
theorem Sq:∀(l:List DI) (c:CS),WB c (c.ld l)
 | [],c=>WB.refl c
 | p::l,c=>by
  have a:WB c (c.ll p):=by
   unfold CS.ll;split
   .exact TP _ _
   exact WB.refl c
  exact a.trans<|Sq l<|c.ll p
theorem Sp:∀(a:List DF) (c:CS),WB c (a.foldl CS.kP c)
 | [],c=>WB.refl c
 | f::a,c=>by
  have e:WB c (c.kP f):=by
   unfold CS.kP;split
   .exact WB.qR _ ⟨rfl,rfl,rfl,rfl,rfl,rfl,rfl⟩
   exact WB.refl c
  exact e.trans<|Sp a<|c.kP f
theorem So(rs:zE):∀(l:List DI) (c:CS),WB c (c.mW rs l)
 | [],c=>WB.refl c
 | p::l,c=>by
  have a:WB c (c.mM rs p):=by
   unfold CS.mM;split
   .exact Sp _ _
   exact WB.refl c
  exact a.trans<|So rs l<|c.mM rs p
section
variable {fr:Bool} {T:Nat} {c:CS} {s:SS}
def DH.mF(h:DH fr T c s):DH fr T c.mF s:=by
 rw[Lm];exact(h.but (KJ c.kB c)<|Sq c.kB c).lE _
def Yk(c:CS):c.mF.next=c.next:=by
 rw[Lm];exact(KJ c.kB c).hd.2.2.2.2.2.2.1
def DH.tick(h:DH fr T c s):DH fr T c.tick s.tick:=by
 have e:s.waits.filter (λf=>decide<|s.now+1<=f.dl)=c.waits.filter (λf => !decide (f.dl<c.now+1)):=by
  rw[h.wt,h.now];congr 1;funext f;by_cases q:f.dl<c.now+1
  .rw[Ah q,A8 I];rfl
  rw[A8 q,Ah I];rfl
 have g:DH fr T c.mH s.tick:={ h with
  now:=Ax (· + 1) h.now
  wt:=e
  wf:=λf e=>by
   have e:f∈c.waits.filter (λf => !decide (f.dl<c.now+1)):=e;obtain⟨a,b⟩:=Bh.1 e;obtain⟨x,y,_⟩:=h.wf f a;refine⟨x,y,?_⟩;show c.now+1<=f.dl;simpa using b }
 exact g.mF
def DH.lC(h:DH fr T c s){l:zE}(a:¬c.next<=DB l 0):(c.lC l).1=0/\DH fr T (c.lC l).2 s/\(c.lC l).2.next=c.next:=by
 rw[Pz c l a];have a:DH fr T ({ c with kO:=max c.kO (DB l 0) }:CS) s:={ h with };have e:=(a.but (Ly l c.kB _)<|So l c.kB _).lE<|c.kB.filter<|λp => !FW l p;refine⟨rfl,e.mF,?_⟩;show(c.lV l).mF.next=_;rw[Yk];exact(Ly l c.kB { c with kO:=max c.kO (DB l 0) }).hd.2.2.2.2.2.2.1
variable{y:SI}
def DH.pY(h:DH fr T c s)(q:k<8)(g:RI c.kT x y)(m:x.kE=(c.rs k).kE)(n:(s.ins k).used<=y.used):DH fr T { c with rs:=zh c.rs k x } { s with ins:=zh s.ins k y } :=
 {h with
  ins:=λj a=>by
   show RI c.kT (zh c.rs k x j) (zh s.ins k y j);by_cases e:j=k
   .subst e;rw[zf,zf];exact g
   rw[zl _ _ e,zl _ _ e];exact h.ins j a
  gr:=λj a=>by
   show s.kS j=(zh c.rs k x j).kE;by_cases e:j=k
   .subst e;rw[zf,m];exact h.gr j a
   rw[zl _ _ e];exact h.gr j a
  tg:=AR h.tg (Nat.add_le_add_right (Uc (s:=s) (s':={ s with ins:=zh s.ins k y }) (λj a=>by
   show(s.ins j).used<=(zh s.ins k y j).used;by_cases e:j=k
   .subst e;rw[zf];exact n
   rw[zl _ _ e];exact AI _) 8 (AI _)) _) }
def RI.ps{w:Nat}(h:RI w x y)(f:DF)(hb:¬(((x.ended&&x.fin != f.off)||decide (f.off<x.high))=true)):RI w (x.kZ f) (y.lL f)/\y.used<=(y.lL f).used:=by
 simp only[Br,AV,AW,not_or]at hb;obtain⟨b1,b2⟩:=hb;have a:=λe=>by
  have:=λq=>b1 ⟨e,q⟩
  simpa using this
 have g:(y.lL f).kD=(x.kZ f).kD:=by
  show(if _ then _ else _)=(if _ then _ else _);rw[h.reset,h.kD]
 refine⟨{ h with
  end_:=rfl,ended:=rfl,reset:=rfl,kD:=g
  ce:=λ_=>rfl
  ef:=λ_=>Bl b2
  st:=λe=>⟨rfl,by
   obtain⟨p,q⟩:=h.st e;show(if _ then _ else _)<=x.read;rw[p];split
   .rename_i z;simp at z;omega
   exact q⟩ },?_⟩
 unfold SI.used;show(if y.state=2 then _ else _)<=(if y.state=2 then f.off else y.read);split
 .rename_i e;rw[h.state]at e;rw[h.end_,a (h.ce (h.st e).1)];exact AI _
 exact AI _
def DH.kZ(h:DH fr T c s)(e:k<8)(a:f.stream=(k:Int)):(s.lL f).1=(c.kZ f).1/\DH fr T (c.kZ f).2 (s.lL f).2:=by
 have r:=h.ins k e;unfold SS.lL CS.kZ;rw[a,Am];have a:(s.ins k).bad f=(((c.rs k).ended&&(c.rs k).fin != f.off)||decide (f.off<(c.rs k).high)):=by
  unfold SI.bad;rw[r.ended,r.end_,r.high]
 rw[a];by_cases hb:(((c.rs k).ended&&(c.rs k).fin != f.off)||decide (f.off<(c.rs k).high))=true
 .simp only[AL hb];exact⟨trivial,h⟩
 simp only[AH hb];obtain⟨a,b⟩:=r.ps f hb;exact⟨trivial,h.pY e a rfl b⟩
def DH.kF(h:DH fr T c s)(n:Nat):DH fr T { c with kF:=max c.kF n } { s with all:=max s.all n } :=
 {h with
  al:=by show max s.all n=_;rw[h.al]
  sp:=AR h.sp (Ce _ _) }
theorem DH.given(h:DH fr T c s)(u:k<8)(n:Nat):DH fr T { c with ws:=zh c.ws k { c.ws k with kF:=max (c k).kF n } } { s with given:=zh s.given k (max (s.given k) n) }:=by
 have q:∀m,zR (zh c.ws k { c.ws k with kF:=max (c k).kF n }) m=zR c.ws m:=by
  intro m
  induction m with
  | zero=>rfl
  | succ m ih =>
   show zR (zh c.ws k _) m+_=zR c.ws m+_;rw[ih];by_cases e:m=k
   .subst e;rw[zf]
   rw[zl _ _ e]
 have g:∀j,FU (zh c.ws k { c.ws k with kF:=max (c k).kF n } j)=FU (c j)/\(zh c.ws k { c.ws k with kF:=max (c k).kF n } j).high=(c j).high:=λj=>by
  by_cases e:j=k
  .subst e;rw[zf];exact rM
  rw[zl _ _ e];exact rM
 exact{ h with
  outs:=λj a=>(h.outs j a).trans (g j).1.symm
  wk:=λj a=>by
   have m:=h.wk j a;have u:=Ax SO.kD (g j).1;have y:=Ax SO.data (g j).1;have z:=(g j).2;show(zh c.ws k _ j).kD<=(zh c.ws k _ j).b.length/\(zh c.ws k _ j).high<=_;rw[z,show(zh c.ws k { c.ws k with kF:=max (c k).kF n } j).kD=(c j).kD from u,show(zh c.ws k { c.ws k with kF:=max (c k).kF n } j).b=(c j).b from y];exact m
  gv:=λj a=>by
   show zh s.given k _ j=(zh c.ws k _ j).kF;by_cases e:j=k
   .subst e;rw[zf,zf,h.gv j a]
   rw[zl _ _ e,zl _ _ e];exact h.gv j a
  sp:=by show zR (zh c.ws k _) 8<=_;rw[q];exact h.sp
  hi:=λj a=>(h.hi j a).trans (g j).2.symm }
variable{m:Nat}
def XH{a id:Nat}(h:m<=a)(e:D2 m id=true):D2 a id=true:=by
 unfold D2 at *;simp only[AV,AW]at *;omega
theorem DH.message(h:DH fr T c s)(f:DF):DH fr (T+1) (c.message f) (s.message f)/\(c.message f).next=c.next/\(s.message f).kH=s.kH:=by
 have q:=h.se;have n:D2 c.most c.most=false:=by unfold D2;by_cases e:32<=c.most<;>simp<;>omega
 have u:s.some_=true->0<c.seen.length:=λe=>by
  obtain⟨p,g,_⟩:=(q.iff c.most).2 ⟨q.yes e,n⟩;exact List.length_pos_of_mem g
 have C:(c.seen.any λp=>p.1==f.id)=true↔f.id∈s.seen/\D2 c.most f.id=false:=by
  rw[<-q.iff,Bi];constructor
  .rintro⟨p,a,b⟩;exact⟨p,a,qp b⟩
  rintro⟨p,a,b⟩;exact⟨p,a,qp b⟩
 have B:DH fr (T+1) c s:={ h with
  ev:=⟨h.ev.ok,h.ev.fl,h.ev.most,Nat.le_succ_of_le h.ev.len,h.ev.sub⟩
  sl:=Nat.le_succ_of_le h.sl
  dl:=Nat.le_succ_of_le h.dl }
 unfold SS.message CS.message;by_cases c1:s.some_=true/\32<=s.most/\f.id<=s.most-32
 .rw[AL c1,AL (by
   have:=u c1.1;have n:D2 c.most f.id=true:=by
    unfold D2;rw[<-q.mo];simp only[AV,AW];omega
   simp[this,n])]
  exact⟨B,rfl,rfl⟩
 rw[AH c1];have y:s.some_=true->D2 c.most f.id=false:=λe=>by
  unfold D2;rw[<-q.mo];by_cases a:32<=s.most
  .by_cases b:f.id<=s.most-32
   .exact absurd ⟨e,a,b⟩ c1
   simp[b]
  simp[a]
 by_cases c2:f.id∈s.seen
 .have z:s.some_=true:=by
   cases e:s.some_ with
   | true=>rfl
   | false=>rw[q.no e]at c2;cases c2
  rw[AL c2,AL (by rw[C.2 ⟨c2,y z⟩];rfl)];exact⟨B,rfl,rfl⟩
 rw[AH c2];have E:(c.seen.any λp=>p.1==f.id)=false:=by
  cases e:(c.seen.any λp=>p.1==f.id)with
  | false=>rfl
  | true=>exact absurd (C.1 e).1 c2
 by_cases m:f.dl<s.now
 .rw[AL m,AL (by rw[h.now]at m;simp[m])];exact⟨B,rfl,rfl⟩
 rw[AH m];have A:0<c.seen.length->s.some_=true:=λg=>by
  cases e:s.some_ with
  | true=>rfl
  | false =>
   obtain⟨p,g⟩:=List.exists_mem_of_length_pos g;have:=((q.iff p.1).1 ⟨p,g,rfl⟩).1;rw[q.no e]at this;cases this
 have n:(decide (0<c.seen.length)&&D2 c.most f.id)=false:=by
  by_cases g:0<c.seen.length
  .rw[y (A g)];simp
  simp[g]
 rw[AH (by rw[h.now]at m;rw[E,n];simp[m])];refine⟨{ B with
  se:=?_
  sl:=by show(s.seen++[f.id]).length<=_;rw[AF,Ak];have:=h.sl;omega
  cm:=by show s.kG++_=c.kG++_;rw[h.cm] },rfl,rfl⟩
 have D:(if s.some_=false\/s.most<f.id then f.id else s.most)=max c.most f.id:=by
  by_cases z:s.some_=false
  .rw[AL (.inl z)];have:=q.qd z;omega
  rw[q.mo];by_cases h:c.most<f.id
  .rw[AL (.inr h)];omega
  rw[AH (by rintro(x|x);exact z x;exact h x)];omega
 refine{ mo:=D,iff:=λid=>?_,no:=λe=>absurd e nl,qd:=λe=>absurd e nl,yes:=λ_=>?_ }
 .constructor
  .rintro⟨p,g,rfl⟩;obtain⟨a,b⟩:=Bh.1 g;refine⟨?_,qp b⟩;rcases Ap.1 a with x|x
   .exact Ap.2 (.inl ((q.iff p.1).1 ⟨p,x,rfl⟩).1)
   rw[As.1 x];exact Ap.2<|.inr<|As.2 rfl
  rintro⟨a,b⟩;rcases Ap.1 a with x|x
  .have hb:D2 c.most id=false:=by
    cases e:D2 c.most id with
    | false=>rfl
    | true=>rw[XH (Ce _ _) e]at b;cases b
   obtain⟨p,g,rfl⟩:=(q.iff id).2 ⟨x,hb⟩;exact⟨p,Bh.2 ⟨Ap.2<|.inl g,qp b⟩,rfl⟩
  have x:=As.1 x;subst x;exact⟨(f.id,f.dl),Bh.2 ⟨Ap.2<|.inr<|As.2 rfl,qp b⟩,rfl⟩
 rw[<-D];split
 .exact Ap.2 (.inr<|As.2 rfl)
 rename_i e;refine Ap.2<|.inl ?_;rw[q.mo];exact q.yes (by cases a:s.some_ with|true=>rfl|false=>exact absurd (.inl a) e)
end
variable{n:Nat}{rs:zE}
def Mo:Dc rs n ↔ ∃r∈rs,r.1<=n/\n<=r.2:=by
 constructor
 .rintro⟨i,h,a,g⟩;have e:=AZ<|Gz h;exact⟨_,e,a,g⟩
 rintro⟨r,e,a,g⟩;obtain⟨j,a,g,h⟩:=Ld e;exact⟨j,a,I,I⟩
theorem Nv:∀(g:zE) (a e p:Nat),a<=p->p<(DP g a e).1->∃r∈g,r.1<=p/\p<=r.2
 | [],a,e,p,h1,h2=>by
  have h2:p<a:=h2;omega
 | r::l,a,e,p,h1,h2=>by
  unfold DP at h2;split at h2
  .obtain⟨q,g,h⟩:=Nv l a e p h1 h2;exact⟨q,BA _ g,h⟩
  split at h2
  .have h2:p<a:=h2;omega
  by_cases a:p<=r.2
  .exact⟨r,BB,I,a⟩
  obtain⟨q,g,h⟩:=Nv l (r.2+1) e p I h2;exact⟨q,BA _ g,h⟩
theorem MR:∀(g:zE) (a e:Nat),a<=(DP g a e).1
 | [],a,e=>AI _
 | r::l,a,e=>by
  unfold DP;split
  .exact MR l a e
  split
  .exact AI _
  have:=MR l (r.2+1) e;omega
def VD{r:Nat×Nat}{l:zE}(h:WF (r::l)):WF l/\∀q∈l,r.2+1<q.1:=by
 refine⟨Rh h 1,λq a=>?_⟩;obtain⟨j,g,e,_⟩:=Ld a;have:=h.2 0 (j+1) I<|qp g;rw[<-e];exact this
theorem Pu:∀(a:zE) (n g p:Nat),WF a->(DP a n g).1<=p->p<(DP a n g).2->¬ ∃r∈a,r.1<=p/\p<=r.2
 | [],n,g,p,_,_,_,⟨_,h,_⟩=>by cases h
 | r::l,n,g,p,h,h1,h2,⟨q,hq,h3,h4⟩=>by
  obtain⟨w,s⟩:=VD h;unfold DP at h1 h2;have no:∀m,(DP l m g).1<=p->p<(DP l m g).2->q∈l->False:=λm a b c=>Pu l m g p w a b ⟨q,c,h3,h4⟩
  split at h1
  .rename_i c;rw[AL c]at h2;rcases Be.1 hq with e|e
   .subst e;have:=MR l n g;omega
   exact no _ h1 h2 e
  rename_i c;rw[AH c]at h2;split at h1
  .rename_i c2;rw[AL c2]at h2;have h2:p<min g r.1:=h2;rcases Be.1 hq with e|e
   .subst e;omega
   have:=s q e;have:=(h.1 0 nl).1;have:r.1<=r.2:=this;omega
  rename_i c2;rw[AH c2]at h2;rcases Be.1 hq with e|e
  .subst e;have:=MR l (q.2+1) g;omega
  exact no _ h1 h2 e
variable{i:Nat}
def Yj{b s:qq}(h:i+s.length<=b.length)(p:Nat):(Ha b i s)[p]?=if i<=p/\p<i+s.length then s[p-i]? else b[p]?:=by
 unfold Ha;have a:(b.take i).length=i:=by rw[AU];omega
 by_cases e:p<i
 .rw[AH I,Ag I,B9 e]
 rw[Ac I,a];by_cases a:p<i+s.length
 .rw[AL ⟨I,a⟩,Ag I]
 rw[AH I,Ac I,BM];congr 1;omega
structure Lw(s:DO)(R H:Nat):Prop where
 ok:s.Ok
 fl:s.fl=0
 most:s.most=4097
 low:∀j,j<R->Dc s.rs j
 top:∀j,Dc s.rs j->j<H
 hb:H<=R+4096
def Ox(h:WF rs)(hi:i<rs.length):Dc rs (DE rs i)/\Dc rs (DB rs i):=by
 have:=(h.1 i hi).1;exact⟨⟨i,hi,AI _,this⟩,⟨i,hi,this,AI _⟩⟩
theorem RD(h:WF rs):∀i,i<rs.length->0<i->DB rs 0+2*i<=DE rs i
 | 0,_,h0=>absurd h0<|Nat.lt_irrefl 0
 | 1,hi,_=>by
  have:=h.2 0 1 I hi;omega
 | i+2,hi,_=>by
  have a:=RD h (i+1) I I;have b:=(h.1 (i+1) I).1;have c:=h.2 (i+1) (i+2) I hi;omega
def Kt(h:WF rs){R:Nat}(g:∀j,j<R->Dc rs j)(m:∀j,Dc rs j->j<H)(hb:H<=R+4096):rs.length<=4097:=by
 by_cases a:rs.length<=1
 .omega
 have a:=RD h (rs.length-1) I I;have b:=m _ (Ox h (i:=rs.length-1) I).1;have c:R<=DB rs 0+1:=by
  apply Bl;intro q;obtain⟨i,n,x,y⟩:=g (DB rs 0+1) q;by_cases e:i=0
  .subst e;omega
  have:=h.2 0 i I n;omega
 omega
def Lw.add{s:DO}{R:Nat}(h:Lw s R H)(e:lo<=hi)(g:hi<H)(a:H<=zG):Lw (s.add lo hi) R H/\∀n,Dc (s.add lo hi).rs n↔Dc s.rs n\/(lo<=n/\n<=hi):=by
 have g:=h.ok.add lo (I:hi<=zG);have m:=IL (Dk s.rs<|max lo s.fl) s.rs.length;have n:=IL (Dl s.rs hi) s.rs.length;have e:max lo s.fl<=hi:=by rw[h.fl];omega
 have q:=Mm h.ok.wf e (by unfold zG at a;omega) m n;have a:=SZ h.ok.wf e m n;rw[h.fl,Nat.max_zero]at a q;have m:=λj e=>(a j).2<|.inl<|h.low j e
 have n:∀j,Dc (Dd s.rs lo hi (EY (Dk s.rs lo) s.rs.length)<|EY (Dl s.rs hi) s.rs.length) j->j<H:=λj e=>by
  rcases(a j).1 e with x|x
  .exact h.top j x
  omega
 have e:=Kt q m n h.hb;have e:s.add lo hi=⟨Dd s.rs lo hi (EY (Dk s.rs lo) s.rs.length)<|EY (Dl s.rs hi) s.rs.length,s.fl,s.most⟩:=by
  unfold DO.add;rw[h.fl,Nat.max_zero,AH I,AH (by rw[h.most];omega)]
 rw[e]at g ⊢;exact⟨⟨g,h.fl,h.most,m,n,h.hb⟩,a⟩
variable{e:Nat}
theorem Rb{off:Nat}{data:qq}{R:Nat}(A:e=off+data.length)(m:e<=H)(q:H<=zG):∀(n lo:Nat) (b:qq) (s:DO),off<=lo->b.length=H->Lw s R H->e<lo+n ->
  (EB off data e n lo b s).1.length=H/\Lw (EB off data e n lo b s).2 R H/\(∀p,Dc (EB off data e n lo b s).2.rs p↔Dc s.rs p\/(lo<=p/\p<e)) /\
   ∀p,((lo<=p/\p<e)/\¬Dc s.rs p->(EB off data e n lo b s).1[p]?=data[p-off]?)/\(¬((lo<=p/\p<e)/\¬Dc s.rs p)->(EB off data e n lo b s).1[p]?=b[p]?)
 | 0,lo,b,s,_,h2,h3,h4=>⟨h2,h3,λp=>⟨.inl,λx=>x.elim id<|λy=>I⟩,λp=>⟨λx=>I,λ_=>rfl⟩⟩
 | n+1,lo,b,s,h1,h2,h3,h4=>by
  have h:=λp x y=>Mo.2<|Nv s.rs lo e p y x
  have free:∀p,(DP s.rs lo e).1<=p->p<(DP s.rs lo e).2->¬Dc s.rs p:=λp x y z=>Pu s.rs lo e p h3.ok.wf x y<|Mo.1 z
  unfold EB;split
  .rename_i a;split
   .rename_i u;exact⟨h2,h3,λp=>⟨.inl,λx=>x.elim id<|λy=>h p I y.1⟩,λp=>⟨λx=>absurd (h p I x.1.1) x.2,λ_=>rfl⟩⟩
   rename_i u;obtain⟨u,B⟩:=OV s.rs lo e a I;have a:=Lp s.rs lo e;generalize DP s.rs lo e=g at *;have a:((data.drop<|g.1-off).take<|g.2-g.1).length=g.2-g.1:=by
    rw[AU,Af];omega
   obtain⟨B,u⟩:=h3.add (lo:=g.1) (hi:=g.2-1) I I q;obtain⟨C,D,E,G⟩:=Rb A m q n g.2 (Ha b g.1<|(data.drop<|g.1-off).take<|g.2-g.1) (s.add g.1<|g.2-1) I (by rw[Mz _ _ _ (by rw[a];omega)];exact h2) B I;refine⟨C,D,λp=>?_,λp=>?_⟩
   .rw[E p,u p];constructor
    .rintro((x|x)|x)
     .exact .inl x
     .exact .inr I
     exact .inr I
    rintro(x|x)
    .exact .inl (.inl x)
    by_cases y:p<g.1
    .exact .inl (.inl<|h p y x.1)
    by_cases z:p<g.2
    .exact .inl (.inr I)
    exact .inr I
   have m:=G p;rw[u p]at m;have n:=Yj (b:=b) (s:=(data.drop<|g.1-off).take<|g.2-g.1) (i:=g.1) (by rw[a];omega) p;rw[a]at n;by_cases c1:g.1<=p/\p<g.2
   .have a:=m.2<|λx=>x.2<|.inr I;rw[n,AL I,B9 I,BM]at a;refine⟨λ_=>by rw[a];congr 1;omega,λx=>absurd ⟨I,free p c1.1 c1.2⟩ x⟩
   rw[AH I]at n;by_cases c2:(g.2<=p/\p<e)/\¬Dc s.rs p
   .refine⟨λ_=>m.1 ⟨c2.1,λx=>x.elim c2.2<|λy=>I⟩,λx=>absurd ⟨I,c2.2⟩ x⟩
   have a:=m.2<|λx=>c2 ⟨x.1,λy=>x.2<|.inl y⟩;rw[n]at a;refine⟨λx=>?_,λ_=>a⟩;by_cases y:p<g.1
   .exact absurd (h p y x.1.1) x.2
   exact absurd ⟨I,x.2⟩ c2
  exact⟨h2,h3,λp=>⟨.inl,λx=>x.elim id<|λy=>I⟩,λp=>⟨λx=>I,λ_=>rfl⟩⟩
theorem Ra{off:Nat}{data d:qq}{t:List Bool}(hd:d.length=H)(h:t.length=H):∀(n:Nat),n<=data.length->off+n<=H ->
  (Du off data d t n).1.length=H/\(Du off data d t n).2.length=H/\(∀p,(Du off data d t n).2.getD p false=true↔t.getD p false=true\/(off<=p/\p<off+n)) /\
   ∀p,((off<=p/\p<off+n)/\t.getD p false=false->(Du off data d t n).1[p]?=data[p-off]?)/\(¬((off<=p/\p<off+n)/\t.getD p false=false)->(Du off data d t n).1[p]?=d[p]?)
 | 0,_,_=>⟨hd,h,λp=>⟨.inl,λx=>x.elim id<|λy=>I⟩,λp=>⟨λx=>I,λ_=>rfl⟩⟩
 | n+1,h1,h2=>by
  obtain⟨m,q,g,a⟩:=Ra (off:=off) (data:=data) hd h n I I;unfold Du;generalize Du off data d t n=L at *;have u:L.2.getD (off+n) false=t.getD (off+n) false:=by
   have:=g<|off+n;cases e:L.2.getD (off+n) false with
   | true =>
    rcases this.1 e with x|x
    .exact x.symm
    omega
   | false =>
    cases e2:t.getD (off+n) false with
    | false=>rfl
    | true=>rw[this.2 (.inl e2)]at e;cases e
  by_cases c:L.2.getD (off+n) false=true
  .rw[AL c];rw[u]at c;refine⟨m,q,λp=>?_,λp=>?_⟩
   .rw[g p];constructor
    .rintro(x|x)
     .exact .inl x
     exact .inr I
    rintro(x|x)
    .exact .inl x
    by_cases e:p=off+n
    .subst e;exact .inl c
    exact .inr I
   refine⟨λx=>(a p).1 ⟨?_,x.2⟩,λx=>(a p).2<|λy=>x ⟨I,y.2⟩⟩;by_cases e:p=off+n
   .subst e;rw[c]at x;cases x.2
   omega
  rw[AH c];rw[u]at c;have z:t.getD (off+n) false=false:=qp c;refine⟨by rw[BL];exact m,by rw[BL];exact q,λp=>?_,λp=>?_⟩
  .rw[AQ,List.getElem?_set];by_cases e:off+n=p
   .subst e;rw[AL rfl,AL I];exact⟨λ_=>.inr I,λ_=>rfl⟩
   rw[AH e,<-List.getD_eq_getElem?_getD,g p];constructor
   .rintro(x|x)
    .exact .inl x
    exact .inr I
   rintro(x|x)
   .exact .inl x
   exact .inr I
  rw[List.getElem?_set];by_cases e:off+n=p
  .subst e;rw[AL rfl,AL I];refine⟨λ_=>?_,λx=>absurd ⟨I,z⟩ x⟩;rw[CB,AQ,AG I]
   first|done|rfl
  rw[AH e];exact⟨λx=>(a p).1 ⟨I,x.2⟩,λx=>(a p).2<|λy=>x ⟨I,y.2⟩⟩
def Q4(tag:qr)(i:Nat)(h a g:Int)(w:rT)(e:Ending)(W':rT):Prop :=
 (GD h a g=false/\e=.returned (.tuple #[.pointer none,.int .i64 1])/\C9 DA w W') \/
 ∃b tag' V,GD h a g=true/\e=.returned (.tuple #[.pointer (some ⟨b,0,none⟩),.int .i64 0])/\zj tag' i b (SS.new h.toNat a.toNat g.toNat) V W'/\DK i tag tag' w W'/\C9 DA w W'/\w.heap.size<=b
def Se(m a g:Int)(w:rT)(h:GD m a g=false):rH 14 #[.agg #[.int .i64 m,.int .i64 a,.int .i64 g]] w λe w'=>e=.returned (.tuple #[.pointer none,.int .i64 1])/\C9 DA w w':=by
 obtain⟨W0,e⟩:=nm<|w.alloc<|.cells #[[m],[a],[g]] 56;have y:=AB e;have q:=AD e;have c0:=za (o:=0) (v:=.int .i64 m) q rfl;have c1:=za (o:=1) (v:=.int .i64 a) q rfl;have c2:=za (o:=2) (v:=.int .i64 g) q rfl;have n:=zb y;have u:=zb e;unfold GD at h;clear y q e;go_enter func14,ntmps14;go_upto_region 1 with fail;rw[u.z];by_cases e:m<64
 .have q:=Ah e;clear h;go_wp2;go_ret2;exact⟨rfl,n.z⟩
 by_cases q:400<m
 .have e:=Ah q;clear h;go_wp2;go_ret2;exact⟨rfl,n.z⟩
 by_cases m:a<16
 .have e:=Ah m;clear h;go_wp2;go_ret2;exact⟨rfl,n.z⟩
 by_cases m:4096<a
 .have e:=Ah m;clear h;go_wp2;go_ret2;exact⟨rfl,n.z⟩
 by_cases a:g<16
 .have e:=Ah a;clear h;go_wp2;go_ret2;exact⟨rfl,n.z⟩
 have a:4096<g:=by
  rw[Ah I,Ah I,Ah I,Ah I,Ah (I:16<=g)]at h;simp at h;exact h
 have e:=Ah a;clear h;go_wp2;go_ret2;exact⟨rfl,n.z⟩
def YW(tag:qr)(i z h n:Nat)(w:rT)(ht:zL tag w)(aI:∀g,(tag g).1≠i)(hi:0<i)(h1:64<=z/\z<=400)(h2:16<=h/\h<=4096)(m:16<=n/\n<=4096):rH 14 #[.agg #[.int .i64 z,.int .i64 h,.int .i64 n]] w (λe W'=>∃b tag' V,e=.returned (.tuple #[.pointer (some ⟨b,0,none⟩),.int .i64 0])/\zj tag' i b (SS.new z h n) V W'/\DK i tag tag' w W'/\C9 DA w W'/\w.heap.size<=b):=by
 obtain⟨W0,ag⟩:=nm<|w.alloc<|.cells #[[z],[h],[n]] 56;have m0:=AB ag;obtain⟨D,al⟩:=nm w.heap.size;have oC:W0.heap[D]?=some (.cells #[[z],[h],[n]] 56 (0,0)):=by rw[<-ag,<-al];exact heap_alloc_new w _
 have c0:=za (o:=0) (v:=.int .i64 z) oC rfl;have c1:=za (o:=1) (v:=.int .i64 h) oC rfl;have c2:=za (o:=2) (v:=.int .i64 n) oC rfl;have av:=ht.mod m0;have cells:∀w',C9 DA W0 w'->w'.cell? D=some (.int .i64 z)/\w'.cell? (D,1)=some (.int .i64 h)/\w'.cell? (D,2)=some (.int .i64 n):=λw' m=>⟨m.cell (a:=D) id c0,m.cell (a:=U D 1) id c1,m.cell (a:=U D 2) id c2⟩
 have HC:=zb cells;have md:=(C9.refl DA W0).drew;obtain⟨s,hs⟩:=nm<|SS.new z h n;obtain⟨N,O⟩:=nm<|W0.drew.alloc<|.cells #[rV,.int .u64 0,.int .i64 8] 106;have mG:=AB O;obtain⟨WE,R⟩:=nm<|N.alloc<|.cells #[rV,.int .u64 0,.int .i64 1073741824] 106;have mE:=AB R;have zg:W0.drew.heap.size=W0.heap.size:=rfl;obtain⟨V,hV⟩:∃V:SV,V=⟨W0.heap.size,.slice none 0 0,N.heap.size,.slice none 0 0,.slice none 0 0,.slice none 0 0,.slice none 0 0,.slice none 0 0,.slice none 0 0,.slice none 0 0,.slice none 0 0,.slice none 0 0,.slice none 0 0,λ_=>0,λ_=>0,λ_=>.slice none 0 0,λ_=>.slice none 0 0⟩:=⟨_,rfl⟩;obtain⟨b,hb⟩:=nm WE.heap.size;obtain⟨WB,ah⟩:=nm<|WE.alloc<|.cells (zz s V).toArray 91;have mB:=AB ah;have oA:DM tag i (λ_=>.no) W0.drew:=λ_=>trivial
 obtain⟨m,og,eg⟩:=oA.alloc (p':=λr=>if r=2 then .kr W0.heap.size #[.slice none 0 0,.int .u64 0,.int .i64 8] 106 else .no) (q:=2) (cs:=#[.slice none 0 0,.int .u64 0,.int .i64 8]) (t:=106) (av.mod md) hi rfl (AL rfl) (λr m=>AH m);rw[O]at og eg;obtain⟨te,oe,ee⟩:=og.alloc (p':=λr=>if r=4 then .kr N.heap.size #[.slice none 0 0,.int .u64 0,.int .i64 1073741824] 106 else if r=2 then .kr W0.heap.size #[.slice none 0 0,.int .u64 0,.int .i64 8] 106 else .no) (q:=4) (cs:=#[.slice none 0 0,.int .u64 0,.int .i64 1073741824]) (t:=106) eg.z hi rfl (AL rfl) (λr m=>AH m);rw[R]at oe ee;obtain⟨tb,ob,eb⟩:=oe.alloc (p':=λr=>if r=1 then .kr b (zz s V).toArray 91 else if r=4 then .kr N.heap.size #[.slice none 0 0,.int .u64 0,.int .i64 1073741824] 106 else if r=2 then .kr W0.heap.size #[.slice none 0 0,.int .u64 0,.int .i64 8] 106 else .no) (q:=1) (cs:=(zz s V).toArray) (t:=91) ee.z hi rfl (by rw[hb];exact AL rfl) (λr m=>AH m);rw[ah]at ob eb;have u:∀{W:rT} {t:qr} {e m r:Nat},(Pc.row e m rV 0 []).At (i,r) t W:=fun{W t e m r}=>⟨World.ownsRow_nil _ 0 _ _,λg L=>by cases L⟩
 have X:∀{W:rT} {t:qr} {r:Nat},(Pc.rr rV []).At (i,r) t W:=fun{W t r}=>⟨⟨none,0,rfl,AI _,AK _,λi hi=>absurd hi<|Al i⟩,λg L=>by cases L⟩
 have oN:DM tb i (Dp b s V 0 0 0 0) WB:=λr=>by
  have h1:=ob 1;have h2:=ob 2;have h4:=ob 4;subst hV;subst hs;unfold Dp;by_cases r7:r=7
  .subst r7;exact u
  by_cases r8:r=8
  .subst r8;exact u
  by_cases r9:r=9
  .subst r9;exact u
  by_cases am:r=10
  .subst am;exact u
  rw[AH r7,AH r8,AH r9,AH am];by_cases m:16<=r/\r<24
  .rw[AL m,AH I];trivial
  rw[AH m];by_cases m:24<=r/\r<32
  .rw[AL m,AH I];trivial
  rw[AH m];by_cases m:r<16
  .rw[AL m];unfold DV;split
   .exact h1
   .exact h2
   .exact X
   .exact h4
   .exact X
   .exact u
   .exact absurd rfl r7
   .exact absurd rfl r8
   .exact absurd rfl r9
   .exact absurd rfl am
   .exact u
   .exact u
   .exact u
   .exact u
   trivial
  rw[AH m];trivial
 have e3:=(eg.trans ee mG.size).trans eb (mG.trans mE).size;have m:=(mG.trans mE).trans mB;have bg:=zb O;have bh:=zb R;have wt:IntKind.u64.wrap (n:Int)=(n:Int):=by rw[IntKind.wrap_u64];omega
 have ww:IntKind.u64.wrap (h:Int)=(h:Int):=by rw[IntKind.wrap_u64];omega
 have aw:rH 32 #[.int .i64 8] W0.drew λe w'=>e=.returned (.pointer W0)/\w'=N:=(UE 8 W0.drew lc lc).mono<|λe w' x=>⟨x.1,by rw[x.2,<-O];rfl⟩
 have ax:rH 32 #[.int .i64 1073741824] N λe w'=>e=.returned (.pointer N)/\w'=WE:=(UE 1073741824 N lc lc).mono<|λe w' x=>⟨x.1,by rw[x.2,<-R];rfl⟩
 have aJ:=zb aw;have aK:=zb ax;have aL:AA (WE.alloc (.cells #[[z],[h],[n],.int .u64 0,.int .i64 0,false,.int .u64 0,(W0.heap.size,0),(N.heap.size,0),.slice none 0 0,.slice none 0 0,.slice none 0 0,.slice none 0 0,n,.slice none 0 0,n,.slice none 0 0,.int .u64 0,false,.slice none 0 0,.int .u64 0,false,.slice none 0 0,.slice none 0 0] 91)=WB):=by
  show _=_;rw[<-ah,<-hs,hV];rfl
 have aM:=zb<|cells W0.drew md;have C1:=zb<|cells N<|md.trans mG;have C2:=zb<|cells WE<|md.trans<|mG.trans mE;have C3:=zb<|cells WB<|md.trans m;have aN:=zb oN;have aO:=zb e3;have MB:=zb<|md.trans m;have aP:=zb oC;have M0:=zb m0;have HT:=zb ht;have N:=zb ag;have aQ:=zb al;have HB:=zb hb;have HS:=zb hs;have aR:w.heap.size<=b:=by rw[<-hb];exact(m0.trans<|md.trans<|mG.trans mE).size
 have a1:¬(z:Int)<64:=I;have a2:¬(400:Int)<z:=I;have a3:¬(h:Int)<16:=I;have a4:¬(4096:Int)<h:=I;have a5:¬(n:Int)<16:=I;have a6:¬(4096:Int)<n:=I;clear ht m0 oC av cells md aw ax O mG R mE zg hV ah mB oA og eg oe ee ob eb u X oN e3 m ag al hb hs;go_enter func14,ntmps14;go_upto_region 1 with fail;rw[N.z,aQ.z];go_upto_region 3 with fail;refine zr 12 (λw'=>w' D=some (.int .i64 z)/\w' (U D 1)=some (.int .i64 h)/\w' (U D 2)=some (.int .i64 n)) (aM.z) ?_;refine GI 0 ?_;refine GV rfl ?_;try simp only[PS]
 refine GI 3 ?_;iterate 6
  refine GV rfl ?_;try simp only[PS]
 refine zD 1 rfl (λK A=>?_);go_simp;go_simp
 with_reducible refine(aJ.z).mono ?_
 rintro e w' ⟨rfl,hw⟩;replace hw:=hw.symm;subst hw;go_simp;refine A.z _ _ ⟨C1.z.1,C1.z.2.1,C1.z.2.2⟩ ?_;clear A K;try simp only[PS]
 refine zD 2 rfl (λK A=>?_);go_simp;go_simp
 with_reducible refine(aK.z).mono ?_
 rintro e w' ⟨rfl,hw⟩;replace hw:=hw.symm;subst hw;go_simp;refine A.z _ _ ⟨C2.z.1,C2.z.2.1,C2.z.2.2⟩ ?_;clear A K;try simp only[PS]
 refine GI 9 ?_;refine GV rfl ?_;try simp only[PS]
 refine zD 10 rfl (λK A=>?_);go_simp;rw[aL.z];refine A.z _ _ ⟨C3.z.1,C3.z.2.1,C3.z.2.2⟩ ?_;clear A K;try simp only[PS]
 refine GI 11 ?_;refine GV rfl ?_;try simp only[PS]
 refine zt ?_;rw[HB.z];go_wp2_with fail
 go_loopw [5] (λm wr=>∃(k:Nat) (M:qr) (V1:SV),k<=8/\m=.int .i64 k/\AA (DM M i (Dp b s V1 k k k k) wr/\DK i tag M W0.drew wr/\C9 DA W0 wr)) (λm _=>8-(intOf m).toNat)
 case atStart=>exact⟨0,tb,V,I,rfl,zb ⟨aN.z,aO.z,MB.z⟩⟩
 case round =>
  obtain⟨k,M,V1,m,rfl,HQ⟩:=hrel;obtain⟨B,e1,m1⟩:=HQ.z;by_cases ai:k<8
  .have C:∀{t:qr} {Y:rT},DK i tag t W0.drew Y->∀g,(t g).1=i->W0.heap.size<=g:=λe g L=>by
    by_cases q:g<W0.drew.heap.size
    .rw[e.lH g q]at L;exact absurd L<|aI g
    exact Bl q
   obtain⟨m,oc,ay,_,_,_⟩:=zi (B.row (r:=7) rfl).1;have aS:wr (b,10)=some V1.outs:=DM.cell (r:=1) (cs:=(zz s V1).toArray) B rfl rfl;obtain⟨_,W3,m,V3,r3,o3,x3,n3,q,⟨u,N⟩,aT,aU,rfl⟩:=XS B e1.z hi ai;rw[ay]at aS r3;obtain⟨m,an⟩:=nm<|(wr.alloc<|.cells (E5 Ik) 94).alloc<|.cells #[zq wr.heap.size] 92;rw[an]at r3;have aV:AA ((wr.alloc<|.cells #[.string ⟨#[]⟩,false,false,.int .i64 0,.int .u64 0] 94).alloc (.cells #[(wr.heap.size,0)] 92)=m):=an;obtain⟨W4,ao⟩:=nm<|W3.setCell (U b 10)<|.slice aT (k+1) aU;rw[ao]at o3 x3 n3;have e4:=e1.trans x3 m1.size;have m4:=m1.then n3<|λg L=>.inr<|C e1 g L;have aW:=zb ao;obtain⟨m,ic,aA,_,_,_⟩:=zi (o3.row (r:=8) rfl).1;have aX:W4 (b,11)=some V3.ins:=DM.cell (r:=1) (cs:=(zz s V3).toArray) o3 rfl rfl;obtain⟨_,W5,t5,V5,r5,o5,x5,n5,m,⟨q,u⟩,aY,aZ,rfl⟩:=VT o3 e4.z hi ai;rw[aA]at aX r5;obtain⟨m,ap⟩:=nm<|(W4.alloc<|.cells (Ee Il rV<|.slice none 0 0) 98).alloc<|.cells #[zq W4.heap.size] 95;rw[ap]at r5;have a0:AA ((W4.alloc<|.cells #[rV,.slice none 0 0,.int .u64 0,.int .u64 0,false,false,.int .u64 0,.int .u64 0,.int .i64 0] 98).alloc (.cells #[(W4.heap.size,0)] 95)=m):=ap;obtain⟨W6,aq⟩:=nm<|W5.setCell (U b 11)<|.slice aY (k+1) aZ;rw[aq]at o5 x5 n5;have e6:=e4.trans x5 m4.size;have m6:=m4.then n5<|λg L=>.inr<|C e4 g L;have a7:=zb aq;have E:=(C9.refl DA W6).drew;have o6:=o5.kI E;have Z:DK i tag t5 W0.drew W6.drew:=⟨e6.lH,e6.new,e6.z.mod E⟩;obtain⟨ga,gc,aB,_,_,_⟩:=zi (o6.row (r:=9) rfl).1;have aa:W6.drew (b,12)=some V5.kS:=DM.cell (r:=1) (cs:=(zz s V5).toArray) o6 rfl rfl;obtain⟨a8,ar⟩:=o6.row (r:=9) rfl;obtain⟨_,W7,t7,V7,r7,o7,x7,n7,f7,⟨m,u7⟩,⟨a9,ba,rfl⟩,q7⟩:=gI o6 Z.z hi ai;have aj:s.kS k=h:=by rw[<-HS.z];rfl
   rw[aB]at aa r7;rw[aj]at r7;obtain⟨W8,au⟩:=nm<|W7.setCell (U b 12)<|.slice a9 (k+1) ba;rw[au]at o7 x7 n7;have e8:=Z.trans x7 (m6.trans E).size;have m8:=(m6.trans E).then n7<|λg L=>.inr<|C Z g L;have bb:=zb au;have ab:∀{t:qr} {Y:rT} {v:rU} {r:Nat},DK i tag t W0.drew Y->(∀g,v.ownBlock=some g->t g=(i,r))->¬v.ownBlock=some D:=λe m x=>by
    have h5:=C e D (by rw[m D x]);have e:=(AJ.1 aP.z).1;omega
   have aC:¬V5.kS.ownBlock=some b:=λx=>by
    have h5:=ar b x;rw[(DM.kr (r:=1) (cs:=(zz s V5).toArray) o6 rfl).2]at h5;simp at h5
   have aD:=zb<|And.intro aa (HC.z W6.drew<|m6.trans E).2.1;have aE:=zb<|And.intro (((C9.refl DA W6.drew).alloc<|.cells #[h] 34).cell (a:=U b 12) id aa)<|((C9.refl DA W6.drew).alloc<|.cells #[h] 34).cell (a:=U D 1) id (HC.z W6.drew<|m6.trans E).2.1;have ak:=zb<|And.intro (q7.cell (a:=U b 12) aC aa)<|q7.cell (a:=U D 1) (ab Z ar) (HC.z W6.drew<|m6.trans E).2.1;have aF:=zb<|And.intro u7 f7;have bc:=zb r7;have G:=(C9.refl DA W8).drew;have o8:=o7.kI G;have ac:DK i tag t7 W0.drew W8.drew:=⟨e8.lH,e8.new,e8.z.mod G⟩;obtain⟨ha,hc,aG,_,_,_⟩:=zi (o8.row (r:=10) rfl).1;have ad:W8.drew (b,14)=some V7.given:=DM.cell (r:=1) (cs:=(zz s V7).toArray) o8 rfl rfl;obtain⟨aH,ae⟩:=o8.row (r:=10) rfl;obtain⟨_,W9,t9,V9,r9,o9,x9,n9,f9,⟨e,u9⟩,⟨be,bf,rfl⟩,q9⟩:=gH o8 ac.z hi ai;have aj:s.given k=h:=by rw[<-HS.z];rfl
   rw[aG]at ad r9;rw[aj]at r9;obtain⟨e,u⟩:=nm<|W9.setCell (U b 14)<|.slice be (k+1) bf;rw[u]at o9 x9 n9;have N:=ac.trans x9 (m8.trans G).size;have O:=(m8.trans G).then n9<|λg L=>.inr<|C ac g L;have X:=zb u;have m:¬V7.given.ownBlock=some b:=λx=>by
    have h5:=ae b x;rw[(DM.kr (r:=1) (cs:=(zz s V7).toArray) o8 rfl).2]at h5;simp at h5
   have L:=zb<|And.intro ad (HC.z W8.drew<|m8.trans G).2.1;have q:=zb<|And.intro (((C9.refl DA W8.drew).alloc<|.cells #[h] 34).cell (a:=U b 14) id ad)<|((C9.refl DA W8.drew).alloc<|.cells #[h] 34).cell (a:=U D 1) id (HC.z W8.drew<|m8.trans G).2.1;have e:=zb<|And.intro (q9.cell (a:=U b 14) m ad)<|q9.cell (a:=U D 1) (ab ac ae) (HC.z W8.drew<|m8.trans G).2.1;have a:=zb<|And.intro u9 f9;have R:=zb r9;have af:=zb<|And.intro o9<|And.intro N O;clear B e1 m1 C ay o3 x3 n3 an ao e4 m4 aA o5 x5 n5 ap aq e6 m6 E o6 Z aB aa a8 ar r7 o7 x7 n7 f7 u7 q7 aj au e8 m8 ab aC G o8 ac aG ad aH ae r9 o9 x9 n9 f9 u9 q9 u N O m;go_upto_region 8 with(rw[aV.z];at_builtin;refine zm rfl _ _ _ _ rfl _ _ _ rfl rfl r3 ?_;clear r3);rw[aW.z];go_upto_region 9 with(rw[a0.z];at_builtin;refine zm rfl _ _ _ _ rfl _ _ _ rfl rfl r5 ?_;clear r5);rw[a7.z];refine zr 12 (λw'=>w' (U b 12)=some (.slice ga k gc)/\w' (U D 1)=some (.int .i64 h)) (aD.z) ?_;refine GI 0 ?_;iterate 8
    refine GV rfl ?_;try simp only[PS]
   refine zD 8 rfl (λK A=>?_);go_simp;refine A.z _ _ ⟨aE.z.1,aE.z.2⟩ ?_;clear A K;try simp only[PS]
   refine zD 9 rfl (λK A=>?_);refine zO rfl _ _ _ _ rfl _ _ _ rfl rfl bc.z ?_;refine A.z _ _ ⟨ak.z.1,ak.z.2⟩ ?_;clear A K;try simp only[PS]
   refine GI 10 ?_;iterate 2
    refine GV rfl ?_;try simp only[PS]
   refine Dt rfl (λK A=>?_);obtain⟨u,g⟩:=aF.z;go_simp;refine A.z _ _ ?_;clear A K;try simp only[PS]
   refine zt ?_;go_upto_region 10 with fail;rw[bb.z];refine zr 12 (λw'=>w' (U b 14)=some (.slice ha k hc)/\w' (U D 1)=some (.int .i64 h)) (L.z) ?_;refine GI 0 ?_;iterate 8
    refine GV rfl ?_;try simp only[PS]
   refine zD 8 rfl (λK A=>?_);go_simp;refine A.z _ _ ⟨q.z.1,q.z.2⟩ ?_;clear A K;try simp only[PS]
   refine zD 9 rfl (λK A=>?_);refine zO rfl _ _ _ _ rfl _ _ _ rfl rfl R.z ?_;refine A.z _ _ ⟨e.z.1,e.z.2⟩ ?_;clear A K;try simp only[PS]
   refine GI 10 ?_;iterate 2
    refine GV rfl ?_;try simp only[PS]
   refine Dt rfl (λK A=>?_);obtain⟨u,g⟩:=a.z;go_simp;refine A.z _ _ ?_;clear A K;try simp only[PS]
   refine zt ?_;go_wp2_with (rw[X.z]);go_roundw
   case rel=>exact⟨k+1,t9,V9,I,by go_num,af⟩
   simp[intOf];omega
  have e8:k=8:=I;subst e8;have a:=YX B (λj=>by rw[<-HS.z];rfl) (λj=>by rw[<-HS.z];rfl);have af:=zb (show ∃e tag' V',Value.tuple #[(b,0),.int .i64 0]=.tuple #[.pointer (some ⟨e,0,none⟩),.int .i64 0]/\zj tag' i e (SS.new z h n) V' wr/\DK i tag tag' w wr/\C9 DA w wr/\w.heap.size<=e from
   ⟨b,M,_,rfl,by rw[HS.z];exact a,DK.lJ HT.z (M0.z.drew) e1,M0.z.trans m1,aR⟩)
  clear B e1 m1 a;go_wp2;go_ret2;obtain⟨e,tag',V',a,g,h,m,n⟩:=af.z;exact⟨e,tag',V',Ax Ending.returned a,g,h,m,n⟩
def XR(tag:qr)(i:Nat)(u a h:Int)(w:rT)(z:zL tag w)(y:∀g,(tag g).1≠i)(hi:0<i):rH 14 #[.agg #[.int .i64 u,.int .i64 a,.int .i64 h]] w (Q4 tag i u a h w):=by
 cases hc:GD u a h
 .refine(Se u a h w hc).mono ?_;rintro e w' ⟨rfl,m⟩;exact .inl ⟨hc,rfl,m⟩
 have g:=hc;unfold GD at g;simp only[AV,AW]at g;obtain⟨m,rfl⟩:∃m:Nat,u=m:=⟨u.toNat,I⟩;obtain⟨n,rfl⟩:∃m:Nat,a=m:=⟨a.toNat,I⟩;obtain⟨q,rfl⟩:∃m:Nat,h=m:=⟨h.toNat,I⟩;refine(YW tag i m n q w z y hi I I I).mono ?_;rintro e w' ⟨b,t,V,a,e,g,h,m⟩;exact .inr ⟨b,t,V,hc,a,e,g,h,m⟩
end
end Go.Proofs.YtddfdpbaiedcjabGreatDoor
