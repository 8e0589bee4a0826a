/- A part of Live's proof. Conditions: none. Part 14 of 15. -/
import Derived.Test.YtddfdpbaiedcjaaGreatDoorLiv13
import Derived.Test.YtddfdpbaiedcjaaGreatDoorLiv12
set_option maxRecDepth 100000
set_option maxHeartbeats 16000000
set_option linter.all false
namespace Go.Proofs.YtddfdpbaiedcjaaGreatDoor
section
open Go.RowKit
def Dq(f:Nat->Nat):Nat->Nat
 | 0=>0
 | n+1=>Dq f n+f n
theorem GO{f g:Nat->Nat}:∀n,(∀j,j<n->f j<=g j)->Dq f n<=Dq g n
 | 0,_=>AF _
 | n+1,h=>Nat.add_le_add (GO n λj hj=>h j I) (h n I)
def NH{f g:Nat->Nat}(n:Nat)(h:∀j,j<n->f j=g j):Dq f n=Dq g n :=
 Nat.le_antisymm (GO n λj a=>Ay (h j a)) (GO n λj a=>Ay (h j a).symm)
variable{k:Nat}
theorem Mb{f g:Nat->Nat}(h:∀j,j≠k->g j=f j):∀n,k<n->Dq g n+f k=Dq f n+g k
 | 0,hk=>absurd hk (A5 _)
 | n+1,hk=>by
  show Dq g n+g n+f k=Dq f n+f n+g k;by_cases e:k=n
  .subst e;have:=NH (f:=g) (g:=f) k (λj hj=>h j I);omega
  have:=Mb h n I;have:=h n (Ne.symm e);omega
def WS.pro(x:WS):Nat:=cnt x.sent.rs+(if x.ending then 1 else 0)+(if x.telling then 3 else 0)
def CS.pro(c:CS):Nat:=Dq (λk=>(c.ws k).pro) 8
def RS.due(x:RS)(w:Nat):Bool:=(decide (x.grant<max x.grant (x.used+w))||x.anew)&&x.hopes
def Fq(c:CS):Nat->Nat->Nat->Nat
 | 0,_,t=>t
 | n+1,k,t=>Fq c n (k+1) (min (t+(c.rs k).used) zF)
def CS.tot(c:CS):Nat:=Fq c 8 0 c.total
def CS.dueT(c:CS):Bool:=decide (c.grant<max c.tot c.grant)||c.anew
def CS.dues(c:CS):Nat:=Dq (λk=>if (c.rs k).due c.window then 6 else 0) 8
def CS.due(c:CS):Nat:=c.dues+if c.dueT then 9 else 0
def EQ(d:Dd):Prop:=d.room<=d.b.length+12
variable{d:Dd}{f:Da}
def PB(h:d.add f=none):d.room<d.b.length+(zA f).length+4:=by
 unfold Dd.add at h;split at h
 .rename_i q;rw[AG]at q;exact q
 cases h
def Fo(n:Nat):(zH n).length=if n<64 then 1 else if n<16384 then 2 else if n<1073741824 then 4 else 8:=by
 unfold zH;repeat' split
 all_goals rfl
variable{c c':CS}
theorem PT(h:∀k,(c'.rs k).used=(c.rs k).used):∀n k t,Fq c' n k t=Fq c n k t
 | 0,_,_=>rfl
 | n+1,k,t=>by
  unfold Fq;rw[h k];exact PT h n _ _
theorem Qf:∀n k t,(ER c d n k t).1=none->(ER c d n k t).2=Fq c n k t/\∀j,k<=j->j<k+n->(c.rs j).due c.window=true->∃g,g=max (c.rs j).grant ((c.rs j).used+c.window)/\d.add (GD j g)=none
 | 0,k,t,_=>⟨rfl,λj h1 h2=>I⟩
 | n+1,k,t,h=>by
  have fin:(ER c d n (k+1) (min (t+(c.rs k).used) zF)).1=none->((c.rs k).due c.window=true->∃g,g=max (c.rs k).grant ((c.rs k).used+c.window)/\d.add (GD k g)=none)->(ER c d n (k+1) (min (t+(c.rs k).used) zF)).2=Fq c (n+1) k t/\∀j,k<=j->j<k+(n+1)->(c.rs j).due c.window=true->∃g,g=max (c.rs j).grant ((c.rs j).used+c.window)/\d.add (GD j g)=none:=λh1 h2=>by
   obtain⟨a,b⟩:=Qf n _ _ h1;refine⟨a,λj j1 j2 f=>?_⟩;by_cases e:j=k
   .subst e;exact h2 f
   exact b j I I f
  unfold ER at h ⊢;by_cases q:((decide ((c.rs k).grant<max (c.rs k).grant ((c.rs k).used+c.window))||(c.rs k).anew)&&(c.rs k).hopes)=true
  .rw[AQ q]at h ⊢;cases hd:d.add (GD k (max (c.rs k).grant ((c.rs k).used+c.window)))with
   | some d'=>rw[hd]at h;cases h
   | none =>
    simp only[hd]at h ⊢;exact fin h (λ_=>⟨_,rfl,hd⟩)
  rw[AI q]at h ⊢;exact fin h (λx=>absurd x q)
structure Bd(c:CS):Prop where
 low:∀k,k<8->EV (c.ws k)
 kf:∀k,k<8->(c.ws k).keep<=(c.ws k).final
 gr:∀k,k<8->(c.rs k).grant<=6144
 us:∀k,k<8->(c.rs k).hopes=true->(c.rs k).used<=2048
 win:c.window<=4096
def Et(c:CS)(d:Dd)(c':CS)(d':Dd):Prop:=d'.b.length+c'.due+6*c.pro<=d.b.length+c.due+6*c'.pro/\c.pro<=c'.pro
def Et.refl(c:CS)(d:Dd):Et c d c d:=⟨AF _,AF _⟩
variable{c2:CS}
def Et.trans{c1 c3:CS}{d1 d2 a:Dd}(h:Et c1 d1 c2 d2)(k:Et c2 d2 c3 a):Et c1 d1 c3 a:=by
 unfold Et at *;omega
variable{d':Dd}
def Kq(h:d.add f=some d'):d'.b.length=d.b.length+(zA f).length:=by
 rw[(Dd.add_some h).1,AG]
def Su(h:Bd c)(hk:k<8)(hh:(c.rs k).hopes=true):(zA (GD k (max (c.rs k).grant ((c.rs k).used+c.window)))).length<=6:=by
 have:=h.gr k hk;have:=h.us k hk hh;have:=h.win;have e:(zA (GD k (max (c.rs k).grant ((c.rs k).used+c.window)))).length=1+(zH k).length+(zH (max (c.rs k).grant ((c.rs k).used+c.window))).length:=by
  show(([17]++zH ((k:Int).toNat))++zH _).length=_;rw[Ae,AG,AG];rfl
 rw[e,Fo,Fo,AQ I];repeat' split
 all_goals omega
def LJ(h:Bd c)(hk:k<8):(zA (Hj k (c.ws k).final (c.ws k).keep)).length<=6:=by
 have:=(h.low k hk).fn;have:=(h.low k hk).bl;have:=h.kf k hk;have e:(zA (Hj k (c.ws k).final (c.ws k).keep)).length=1+(zH k).length+(zH (c.ws k).final).length+(zH (c.ws k).keep).length:=by
  show((([36]++zH ((k:Int).toNat))++zH _)++zH _).length=_;rw[Ae,AG,AG,AG];rfl
 rw[e,Fo,Fo,Fo,AQ I];repeat' split
 all_goals omega
def LQ(n:Nat):(zA (Gv n)).length<=9:=by
 have:=PE n;show([16]++zH n).length<=9;rw[AG];show 1+_<=9;omega
theorem RH(h:Bd c):∀n k t,n+k=8->∀x,(ER c d n k t).1=some x->Et c d x.1 x.2
 | 0,_,_,_,x,hx=>by cases hx
 | n+1,k,t,hk,x,hx=>by
  unfold ER at hx;split at hx
  .rename_i q;split at hx
   .rename_i d' hd;cases hx;have q':(c.rs k).due c.window=true:=q;simp only[AZ]at q;have l:=Su h (I:k<8) q.2;have e:=Kq hd;obtain⟨y,a⟩:∃y,y=({ c.rs k with grant:=max (c.rs k).grant ((c.rs k).used+c.window),anew:=false }:RS):=⟨_,rfl⟩;have y1:y.due c.window=false:=by
     rw[a];show((decide (max (c.rs k).grant ((c.rs k).used+c.window)<max (max (c.rs k).grant ((c.rs k).used+c.window)) ((c.rs k).used+c.window))||false)&&_)=false;rw[show decide (max (c.rs k).grant ((c.rs k).used+c.window)<max (max (c.rs k).grant ((c.rs k).used+c.window)) ((c.rs k).used+c.window))=false from Aw I];rfl
    have u:∀j,(zf c.rs k y j).used=(c.rs j).used:=λj=>by
     by_cases x:j=k
     .subst x;rw[ze,a];rfl
     rw[zd _ _ x]
    have s:=Mb (f:=λj=>if (c.rs j).due c.window then 6 else 0) (g:=λj=>if (zf c.rs k y j).due c.window then 6 else 0) (k:=k) (λj hj=>by simp only[zd _ _ hj]) 8 I;simp only[ze,y1,q']at s;rw[<-a];have t1:({ c with rs:=zf c.rs k y }:CS).dueT=c.dueT:=by
     unfold CS.dueT CS.tot;rw[PT (c:=c) (c':={ c with rs:=zf c.rs k y }) u]
    refine⟨?_,AF _⟩;show d'.b.length+(Dq (λj=>if (zf c.rs k y j).due c.window then 6 else 0) 8+(if ({ c with rs:=zf c.rs k y }:CS).dueT then 9 else 0))+6*c.pro<=d.b.length+(Dq (λj=>if (c.rs j).due c.window then 6 else 0) 8+(if c.dueT then 9 else 0))+6*c.pro;rw[t1];simp at s;omega
   exact RH h n _ _ I x hx
  exact RH h n _ _ I x hx
theorem Ur(h:Bd c):∀n k,n+k=8->(∀x,ET c d n k=some x->Et c d x.1 x.2)/\(ET c d n k=none->∀j,k<=j->j<8->EQ d\/((c.ws j).cut=true->(c.ws j).telling=true))
 | 0,_,_=>⟨λx hx=>(by cases hx),λ_ j h1 h2=>I⟩
 | n+1,k,hk=>by
  obtain⟨i,m⟩:=Ur h n (k+1) I;have l:=LJ h (I:k<8);unfold ET;split
  .rename_i q;simp only[AZ,Bm]at q;cases hd:d.add (Hj k (c.ws k).final (c.ws k).keep)with
   | some d' =>
    refine⟨λx hx=>?_,λhx=>(by cases hx)⟩;cases hx;have e:=Kq hd;obtain⟨y,o⟩:∃y,y=({ c.ws k with telling:=true }:WS):=⟨_,rfl⟩;have p:y.pro=(c.ws k).pro+3:=by
     rw[o];unfold WS.pro;simp[q.2]
    have s:=Mb (f:=λj=>(c.ws j).pro) (g:=λj=>(zf c.ws k y j).pro) (k:=k) (λj hj=>by simp only[zd _ _ hj]) 8 I;simp only[ze,p]at s;rw[<-o];refine⟨?_,by show Dq (λj=>(c.ws j).pro) 8<=Dq (λj=>(zf c.ws k y j).pro) 8;omega⟩;show d'.b.length+c.due+6*Dq (λj=>(c.ws j).pro) 8<=d.b.length+c.due+6*Dq (λj=>(zf c.ws k y j).pro) 8;omega
   | none =>
    have a:=PB hd;refine⟨i,λhx j h1 h2=>?_⟩;by_cases e:j=k
    .exact .inl (by unfold EQ;omega)
    exact m hx j I h2
  rename_i q;refine⟨i,λhx j h1 h2=>?_⟩;by_cases e:j=k
  .subst e;refine .inr λz=>?_
   rw[z]at q;simpa using q
  exact m hx j I h2
structure JR(c:CS):Prop where
 r:∀k,k<8->(c.rs k).due c.window=false
 t:c.dueT=false
 w:∀k,k<8->(c.ws k).cut=true->(c.ws k).telling=true
theorem lL(h:Bd c):(∀x,c.control d=some x->Et c d x.1 x.2)/\(c.control d=none->EQ d\/JR c):=by
 unfold CS.control;cases hr:(ER c d 8 0 c.total).1 with
 | some y=>exact⟨λx hx=>by cases hx;exact RH h 8 0 c.total rfl y hr,λhx=>(by cases hx)⟩
 | none =>
  obtain⟨t1,t2⟩:=Qf 8 0 c.total hr;obtain⟨f,w2⟩:=Ur h (d:=d) 8 0 rfl;simp only[t1];have a:EQ d\/∀k,k<8->(c.rs k).due c.window=false:=by
   by_cases b:EQ d
   .exact .inl b
   refine .inr λk hk=>?_
   cases hq:(c.rs k).due c.window with
   | false=>rfl
   | true =>
    obtain⟨g,rfl,hg⟩:=t2 k I I hq;have:=PB hg;unfold RS.due at hq;simp only[AZ]at hq;have:=Su h hk hq.2;exact absurd (by unfold EQ;omega) b
  have w3:ET c d 8 0=none->EQ d\/∀k,k<8->(c.ws k).cut=true->(c.ws k).telling=true:=λhx=>by
   by_cases b:EQ d
   .exact .inl b
   exact .inr λk hk=>(w2 hx k I hk).resolve_left b
  unfold I1;by_cases q:(decide (c.grant<max (Fq c 8 0 c.total) c.grant)||c.anew)=true
  .rw[AQ q];have l:=LQ (max (Fq c 8 0 c.total) c.grant);cases hd:d.add (Gv (max (Fq c 8 0 c.total) c.grant))with
   | some d' =>
    refine⟨λx hx=>?_,λhx=>(by cases hx)⟩;cases hx;have e:=Kq hd;have t4:({ c with grant:=max (Fq c 8 0 c.total) c.grant,anew:=false }:CS).dueT=false:=by
     unfold CS.dueT CS.tot;rw[PT (c:=c) (c':={ c with grant:=max (Fq c 8 0 c.total) c.grant,anew:=false }) (λ_=>rfl)];show(decide (max (Fq c 8 0 c.total) c.grant<max (Fq c 8 0 c.total) (max (Fq c 8 0 c.total) c.grant))||false)=false;rw[Aw I];rfl
    have q':c.dueT=true:=q;refine⟨?_,AF _⟩;show d'.b.length+(c.dues+(if ({ c with grant:=max (Fq c 8 0 c.total) c.grant,anew:=false }:CS).dueT then 9 else 0))+6*c.pro<=d.b.length+(c.dues+(if c.dueT then 9 else 0))+6*c.pro;rw[t4,q'];simp;omega
   | none =>
    have:=PB hd;exact⟨f,λhx=>.inl (by unfold EQ;omega)⟩
  rw[AI q];refine⟨f,λhx=>?_⟩;rcases a with a|a
  .exact .inl a
  exact(w3 hx).imp id (λw=>⟨a,Bool.eq_false_iff.2 q,w⟩)
def H6(c:CS)(k:Nat):Prop:=(∀p,p<c.endOf k->Dk (c.ws k).sent.rs p)/\((c.ws k).fin=true->(c.ws k).b.length<=c.endOf k->(c.ws k).ending=true)
def PA(k lo:Nat)(fin:Bool)(s:nG):(zA (Ec k lo fin s)).length=1+(zH k).length+(zH lo).length+(zH s.length).length+s.length:=by
 cases fin
 .show((([8]++zH ((k:Int).toNat))++zH lo)++(zH s.length++s)).length=_;rw[Ae];simp only[AG,Af];omega
 show((([9]++zH ((k:Int).toNat))++zH lo)++(zH s.length++s)).length=_;rw[Ae];simp only[AG,Af];omega
variable{b:Nat}
def fF{a:Nat}(h:a<=b):(zH a).length<=(zH b).length:=by
 rw[Fo,Fo];repeat' split
 all_goals omega
structure Fp(k:Nat)(c c':CS):Prop where
 rs:c'.rs=c.rs
 g:c'.anew=c.anew/\c'.grant=c.grant/\c'.window=c.window/\c'.total=c.total/\c'.credit=c.credit/\c'.waits=c.waits
 ws:∀j,j≠k->c'.ws j=c.ws j
 wk:(c'.ws k).cut=(c.ws k).cut/\(c'.ws k).telling=(c.ws k).telling
 sp:c.spent<=c'.spent
def Fp.refl(k:Nat)(c:CS):Fp k c c:=⟨rfl,⟨rfl,rfl,rfl,rfl,rfl,rfl⟩,λ_ _=>rfl,⟨rfl,rfl⟩,AF _⟩
def Fp.trans{a b:CS}(h:Fp k a b)(q:Fp k b c):Fp k a c:=by
 obtain⟨a1,a2,a3,a4,a5,a6⟩:=h.g;obtain⟨b1,b2,b3,b4,b5,b6⟩:=q.g;exact⟨q.rs.trans h.rs,⟨b1.trans a1,b2.trans a2,b3.trans a3,b4.trans a4,b5.trans a5,b6.trans a6⟩,λj d=>(q.ws j d).trans (h.ws j d),⟨q.wk.1.trans h.wk.1,q.wk.2.trans h.wk.2⟩,AJ h.sp q.sp⟩
def Fp.idleC(q:Fp k c c')(h:JR c):JR c':=by
 obtain⟨b1,b2,b3,b4,b5,b6⟩:=q.g;refine⟨λj a=>by rw[q.rs,b3];exact h.r j a,?_,λj a=>?_⟩
 .have:=h.t;unfold CS.dueT CS.tot at this ⊢;rw[PT (c:=c) (λj=>by rw[q.rs]),b1,b2,b4];exact this
 by_cases e:j=k
 .subst e;rw[q.wk.1,q.wk.2];exact h.w j a
 rw[q.ws j e];exact h.w j a
variable{j:Nat}
def Fp.idleW(q:Fp k c c')(d:j≠k)(h:H6 c j):H6 c' j:=by
 have e:c'.endOf j<=c.endOf j:=by
  have:=q.sp;unfold CS.endOf CS.end0;rw[q.ws j d,q.g.2.2.2.2.1];split<;>omega
 unfold H6;rw[q.ws j d];exact⟨λp hp=>h.1 p I,λa b=>h.2 a I⟩
variable{hi lo:Nat}
theorem We(h:Bd c){fin:Bool}(hk:k<8)(m:lo<=hi)(hh:hi<=(c.ws k).b.length)(free:∀p,lo<=p->p<hi->¬Dk (c.ws k).sent.rs p)(hf:lo=hi->fin=true/\(c.ws k).ending=false)(room:d.b.length+(zA (Ec k lo fin (((c.ws k).b.drop lo).take (hi-lo)))).length+4<=d.room):∃c' d',c.bytesAdd d k lo hi fin=(true,c',d')/\Et c d c' d'/\Fp k c c'/\d'.full=d.full:=by
 have i:(((c.ws k).b.drop lo).take (hi-lo)).length=hi-lo:=by
  rw[AU,Ac];omega
 obtain⟨l1,l2,l3,l4,l5⟩:=h.low k hk;unfold CS.bytesAdd;cases hd:d.add (Ec k lo fin (((c.ws k).b.drop lo).take (hi-lo)))with
 | none=>have:=PB hd;omega
 | some d' =>
  obtain⟨y,l⟩:∃y,y=({ c.ws k with sent:=if lo<hi then(c.ws k).sent.add lo (hi-1)else(c.ws k).sent,ending:=(c.ws k).ending||fin,high:=max (c.ws k).high hi }:WS):=⟨_,rfl⟩;have e:=Kq hd;rw[PA,i]at e;have p:(c.ws k).pro+(hi-lo)+(if lo=hi then 1 else 0)<=y.pro:=by
   have n:y.ending=((c.ws k).ending||fin)/\y.telling=(c.ws k).telling/\y.sent=if lo<hi then(c.ws k).sent.add lo (hi-1)else(c.ws k).sent:=by rw[l];exact⟨rfl,rfl,rfl⟩
   unfold WS.pro;rw[n.1,n.2.1,n.2.2];by_cases x:lo<hi
   .obtain⟨a1,a2⟩:=(l1.mono (BO _ hi)).ins I (lo:=lo) (hi:=hi-1) I;have ct:=Xa (a:=(c.ws k).sent.rs) (b:=((c.ws k).sent.add lo (hi-1)).rs) (lo:=lo) (hi:=hi) m I (λp=>(a2 p).trans (or_congr_right I)) free;rw[AQ x,ct,AI (I:¬lo=hi)];have:(if (c.ws k).ending then 1 else 0)<=(if ((c.ws k).ending||fin)=true then 1 else 0):=by
     cases(c.ws k).ending<;>simp
    omega
   obtain⟨f1,f2⟩:=hf I;rw[AI x,f1,f2,AQ (I:lo=hi)];simp;omega
  have s:=Mb (f:=λj=>(c.ws j).pro) (g:=λj=>(zf c.ws k y j).pro) (k:=k) (λj o=>by simp only[zd _ _ o]) 8 I;simp only[ze]at s;simp only;rw[<-l];refine⟨_,_,rfl,⟨?_,by show Dq (λj=>(c.ws j).pro) 8<=Dq (λj=>(zf c.ws k y j).pro) 8;omega⟩,⟨rfl,⟨rfl,rfl,rfl,rfl,rfl,rfl⟩,λj o=>zd _ _ o,?_,?_⟩,(Dd.add_some hd).2.2.2.1⟩
  .show d'.b.length+c.due+6*Dq (λj=>(c.ws j).pro) 8<=d.b.length+c.due+6*Dq (λj=>(zf c.ws k y j).pro) 8;rw[Fo k,Fo lo,Fo (hi-lo),AQ (I:k<64)]at e;by_cases x:lo=hi
   .rw[AQ x]at p;repeat' split at e
    all_goals omega
   rw[AI x]at p;repeat' split at e
   all_goals omega
  .show(zf c.ws k y k).cut=_/\(zf c.ws k y k).telling=_;rw[ze,l];exact⟨rfl,rfl⟩
  have:=PV c.ws k y 8 hk;have:y.high=max (c.ws k).high hi:=by rw[l]
  show zI c.ws 8<=zI (zf c.ws k y) 8;omega
def iD(h:Bd c)(hk:k<8)(hw:c.waits=[])(hf:d.full=true->EQ d):(∃c' d',c.bytes d k=(true,c',d')/\Et c d c' d'/\Fp k c c'/\d'.full=d.full)\/(∃d',c.bytes d k=(false,c,d')/\d'.b=d.b/\d'.room=d.room/\(EQ d\/d'=d/\H6 c k)):=by
 have he:c.endOf k<=(c.ws k).b.length:=by
  have:=NQ c k;unfold CS.end0 at this;omega
 have l:=h.low k hk;have R:∀lo hi,lo<=hi->hi<=(c.ws k).b.length->(∀p,lo<=p->p<hi->¬Dk (c.ws k).sent.rs p)->(lo=hi->((c.ws k).fin&&hi==(c.ws k).b.length)=true/\(c.ws k).ending=false) ->
   (∃c' d',c.bytesR d k lo hi=(true,c',d')/\Et c d c' d'/\Fp k c c'/\d'.full=d.full)\/(∃d',c.bytesR d k lo hi=(false,c,d')/\d'.b=d.b/\d'.room=d.room/\(EQ d\/d'=d/\H6 c k)):=λlo hi h1 h2 h3 h4=>by
  have f:∀m,m<=hi->(((c.ws k).b.drop lo).take (m-lo)).length=m-lo:=λm hm=>by
   rw[AU,Ac];omega
  have bl:=l.bl;have hr:IB c d k lo hi=(d.room:Int)-4-d.b.length-((1+(zH k).length+(zH lo).length+(zH (hi-lo)).length:Nat):Int):=by
   unfold IB;rw[PA,f hi (AF _)];omega
  have v1:=Fo k;have v2:=Fo lo;have v3:=Fo (hi-lo);rw[AQ I]at v1;have v4:(zH lo).length<=2/\(zH (hi-lo)).length<=2:=by
   rw[v2,v3];repeat' split
   all_goals omega
  unfold CS.bytesR;split
  .rename_i q1;split
   .rename_i q2;exact .inr ⟨_,rfl,rfl,rfl,.inl (by unfold EQ;omega)⟩
   rename_i q2;have m:=fF (I:(IB c d k lo hi).toNat<=hi-lo);refine .inl (We h hk I I (λp a b=>h3 p a I) (λe=>I) ?_);rw[PA,f _ I,(I:lo+(IB c d k lo hi).toNat-lo=(IB c d k lo hi).toNat)];omega
  rename_i q1;refine .inl (We h hk h1 h2 h3 h4 ?_);rw[PA,f hi (AF _)];omega
 unfold CS.bytes;split
 .rename_i q;rcases q with q|q
  .exact absurd hw q
  exact .inr ⟨d,rfl,rfl,rfl,.inl (hf q)⟩
 split
 .rename_i q0 q;have g:∀p,p<c.endOf k->Dk (c.ws k).sent.rs p:=λp hp=>GW.2 (Mx _ 0 (c.endOf k) p I (nC (QW _ _ _ q)))
  split
  .rename_i q2;refine .inr ⟨d,rfl,rfl,rfl,.inr ⟨rfl,g,λa b=>?_⟩⟩;simp only[a,Bool.not_true,DA,Bb,Ah]at q2;rcases q2 with q2|q2
   .exact q2
   omega
  rename_i q2;simp only[Bb,Bm,Ah,not_or,Bool.not_eq_false,CR]at q2;exact R _ _ (AF _) (AF _) (λp a b=>I) (λ_=>⟨by rw[q2.1.1];simp,q2.1.2⟩)
 rename_i q;refine R _ _ I (AJ (Il _ _ _) he) (λp a b x=>?_) (λe=>I);exact PC _ 0 (c.endOf k) p l.sent.ok.wf a b (GW.1 x)
structure GB(b:CS)(G:List SN)(R:Cl->Prop)(c:CS)(d:Dd):Prop where
 ok:c.Ok
 so:Dw c G
 bel:Di c b (Df R d)
 hb:HB 2048 c
 gr:∀k,k<8->(c.rs k).grant<=6144
 wt:c.waits=[]
 fu:d.full=true->EQ d
variable{G:List SN}{R:Cl->Prop}
def GB.bd{b:CS}(h:GB b G R c d):Bd c:=⟨h.bel.low,h.so.kf,h.gr,h.hb,h.ok.win⟩
def LT(h:∀k,k<8->(c.rs k).grant<=6144)(hw:c.window<=4096)(p:D9 2048 c c'):∀k,k<8->(c'.rs k).grant<=6144:=λk hk=>by
 obtain⟨g,a,e,q⟩:=p.rs k hk;rw[e];show g<=6144;have:=h k hk;rcases q with⟨q,_⟩|⟨q1,q2⟩<;>omega
def KW(c:CS):Nat->Prop
 | 0=>JR c
 | 1=>True
 | k+2=>H6 c k
def JK(c c':CS):Nat->Prop
 | 0=>True
 | 1=>c'=c
 | k+2=>Fp k c c'
theorem JK.refl(c:CS):∀q,JK c c q
 | 0=>trivial
 | 1=>rfl
 | k+2=>Fp.refl k c
theorem JK.trans{a b:CS}:∀q,JK a b q->JK b c q->JK a c q
 | 0,_,_=>trivial
 | 1,h,k=>Eq.trans k h
 | _+2,h,k=>Fp.trans h k
def EQ.mono(h:EQ d)(hr:d'.room=d.room)(hb:d.b.length<=d'.b.length):EQ d':=by
 unfold EQ at *;omega
variable{q:Nat}
theorem GB.put{b:CS}(h:GB b G R c d)(i:q<10):GB b G R (c.put d q).2.1 (c.put d q).2.2/\JK c (c.put d q).2.1 q/\(c.put d q).2.2.room=d.room/\d.b.length<=(c.put d q).2.2.b.length/\Et c d (c.put d q).2.1 (c.put d q).2.2 /\
  ((c.put d q).1=true->d.b.length<(c.put d q).2.2.b.length)/\((c.put d q).1=false->EQ (c.put d q).2.2\/KW (c.put d q).2.1 q):=by
 have p:=JZ (d:=d) h.ok i;have s:=Jy (d:=d) (nx:=0) h.so i;have n:=TB (d:=d) h.hb q;have t:=Pz h.bel i;have ww:(c.put d q).2.1.waits=[]:=Aj (by have:=n.wl;rw[h.wt]at this;simpa using this);have mk:∀(r:Bool) c' d',(c.put d q)=(r,c',d')->(d'.full=true->EQ d')->GB b G R c' d':=λr c' d' e f=>by
  rw[e]at p s n t ww;exact⟨p.ok,s.ok,t,h.hb.but n,LT h.gr h.ok.win n,ww,f⟩
 match q,i with
 | 0,_ =>
  obtain⟨k1,k2⟩:=lL h.bd (d:=d);cases hc:c.control d with
  | none =>
   have e:c.put d 0=(false,c,d):=by show((c.control d).isSome,_,_)=_;rw[hc];rfl
   rw[e];exact⟨h,trivial,rfl,AF _,Et.refl c d,λx=>(by cases x),λ_=>k2 hc⟩
  | some x =>
   have e:c.put d 0=(true,x.1,x.2):=by show((c.control d).isSome,_,_)=_;rw[hc];rfl
   have p1:=p.yes (by rw[e]);obtain⟨f,_,_,a⟩:=p1;have a:d.add f=some x.2:=by rw[e]at a;exact a
   obtain⟨_,_,j,o,_,_⟩:=Dd.add_some a;have al:=Kq a;have:=PZ f;have m:=mk true x.1 x.2 e (λz=>(h.fu (by rw[<-o];exact z)).mono j I);rw[e];exact⟨m,trivial,j,by show d.b.length<=x.2.b.length;omega,k1 x hc,λ_=>by show d.b.length<x.2.b.length;omega,λz=>(by cases z)⟩
 | 1,_ =>
  have e:c.put d 1=(false,c,d):=by
   show((c.datagrams d).isSome,_,_)=_;have:c.datagrams d=none:=by unfold CS.datagrams;rw[h.wt]
   rw[this];rfl
  rw[e];exact⟨h,rfl,rfl,AF _,Et.refl c d,λx=>(by cases x),λ_=>.inr trivial⟩
 | k+2,i =>
  have mk:∀(r:Bool) c' d',c.bytes d k=(r,c',d')->(d'.full=true->EQ d')->GB b G R c' d':=mk;have p:Ge c d (c.bytes d k).1 (c.bytes d k).2.1 (c.bytes d k).2.2:=p;show GB b G R (c.bytes d k).2.1 (c.bytes d k).2.2/\Fp k c (c.bytes d k).2.1/\(c.bytes d k).2.2.room=d.room/\d.b.length<=(c.bytes d k).2.2.b.length/\Et c d (c.bytes d k).2.1 (c.bytes d k).2.2/\((c.bytes d k).1=true->d.b.length<(c.bytes d k).2.2.b.length)/\((c.bytes d k).1=false->EQ (c.bytes d k).2.2\/H6 (c.bytes d k).2.1 k);rcases iD h.bd (d:=d) (I:k<8) h.wt h.fu with⟨c',d',e,g,l,u⟩|⟨d',e,g,l,u⟩
  .rw[e]at p ⊢;obtain⟨f,_,_,a⟩:=p.yes rfl;have a:d.add f=some d':=a;obtain⟨_,_,j,o,_,_⟩:=Dd.add_some a;have al:=Kq a;have:=PZ f;have m:=mk true c' d' e (λz=>(h.fu (by rw[<-o];exact z)).mono j I);exact⟨m,l,j,by show d.b.length<=d'.b.length;omega,g,λ_=>by show d.b.length<d'.b.length;omega,λz=>(by cases z)⟩
  have hb:EQ d\/d'=d/\H6 c k:=u;have m:=mk false c d' e (λz=>by
   rcases hb with x|⟨x,_⟩
   .exact x.mono l (by rw[g];exact AF _)
   rw[x]at z ⊢;exact h.fu z)
  rw[e];exact⟨m,Fp.refl k c,l,by show d.b.length<=d'.b.length;rw[g];exact AF _,⟨by show d'.b.length+_+_<=_;rw[g];exact AF _,AF _⟩,λz=>(by cases z),λ_=>hb.imp (λx=>x.mono l (by rw[g];exact AF _)) (·.2)⟩
theorem GB.reps{b:CS}(a:q<10):∀n {c:CS} {d:Dd},GB b G R c d->d.room<d.b.length+n->GB b G R (CS.reps q n c d).1 (CS.reps q n c d).2/\JK c (CS.reps q n c d).1 q/\(CS.reps q n c d).2.room=d.room/\d.b.length<=(CS.reps q n c d).2.b.length/\Et c d (CS.reps q n c d).1 (CS.reps q n c d).2/\(EQ (CS.reps q n c d).2\/KW (CS.reps q n c d).1 q)
 | 0,c,d,h,hn=>⟨h,JK.refl c q,rfl,AF _,Et.refl c d,.inl (by show d.room<=d.b.length+12;omega)⟩
 | n+1,c,d,h,hn=>by
  obtain⟨p1,p2,p3,p4,e,p6,p7⟩:=h.put a;unfold CS.reps;split
  .rename_i hr;have:=p6 hr;obtain⟨i1,i2,i3,i4,i5,i6⟩:=GB.reps a n p1 I;exact⟨i1,p2.trans q i2,i3.trans p3,AJ p4 i4,e.trans i5,i6⟩
  rename_i hr;exact⟨p1,p2,p3,p4,e,p7 (nF hr)⟩
structure D7(c:CS):Prop where
 ct:JR c
 w:∀k,k<8->H6 c k
 dg:c.waits=[]
theorem GB.fillN{b:CS}:∀n {c:CS} {d:Dd},n<=10->GB b G R c d->(EQ d\/((n<10->JR c)/\∀k,k<8->k+2+n<10->H6 c k))->GB b G R (CS.fillN n c d).1 (CS.fillN n c d).2/\(CS.fillN n c d).2.room=d.room/\d.b.length<=(CS.fillN n c d).2.b.length/\Et c d (CS.fillN n c d).1 (CS.fillN n c d).2/\(EQ (CS.fillN n c d).2\/D7 (CS.fillN n c d).1)
 | 0,c,d,_,h,z=>⟨h,rfl,AF _,Et.refl c d,z.imp id (λx=>⟨x.1 I,λk hk=>x.2 k hk I,h.wt⟩)⟩
 | n+1,c,d,hn,h,z=>by
  obtain⟨r1,f,m,o,r5,g⟩:=GB.reps (q:=9-n) I (d.room+1) h I;unfold CS.fillN;have l:EQ (CS.reps (9-n) (d.room+1) c d).2\/((n<10->JR (CS.reps (9-n) (d.room+1) c d).1)/\∀k,k<8->k+2+n<10->H6 (CS.reps (9-n) (d.room+1) c d).1 k):=by
   generalize CS.reps (9-n) (d.room+1) c d=X at *;rcases z with z|⟨p,l⟩
   .exact .inl (z.mono m o)
   refine g.imp id λg=>?_
   obtain⟨q,i⟩:∃q,q=9-n:=⟨_,rfl⟩;rw[<-i]at f g
   match q,i with
   | 0,i=>exact⟨λ_=>g,λk _ _=>I⟩
   | 1,i =>
    have f:X.1=c:=f;rw[f];exact⟨λ_=>p I,λk hk a=>I⟩
   | j+2,i =>
    have f:Fp j c X.1:=f;refine⟨λ_=>f.idleC (p I),λk hk a=>?_⟩;by_cases e:k=j
    .subst e;exact g
    exact f.idleW e (l k hk I)
  obtain⟨i1,i2,i3,i4,i5⟩:=GB.fillN n I r1 l;exact⟨i1,i2.trans m,AJ o i3,r5.trans i4,i5⟩
theorem lK(h:JR c)(d:Dd):c.control d=none:=by
 have r:∀n k t,n+k=8->(ER c d n k t).1=none:=λn=>by
  induction n with
  | zero=>intro k t _;rfl
  | succ n ih =>
   intro k t hk;unfold ER;have q:((decide ((c.rs k).grant<max (c.rs k).grant ((c.rs k).used+c.window))||(c.rs k).anew)&&(c.rs k).hopes)=false:=h.r k I;rw[q,AI mv];exact ih _ _ I
 have w:∀n k,n+k=8->ET c d n k=none:=λn=>by
  induction n with
  | zero=>intro k _;rfl
  | succ n ih =>
   intro k hk;unfold ET;rw[AI (by have:=h.w k I;cases hc:(c.ws k).cut<;>simp_all)];exact ih _ I
 have e:=r 8 0 c.total rfl;have t:(decide (c.grant<max (ER c d 8 0 c.total).2 c.grant)||c.anew)=false:=by rw[(Qf 8 0 c.total e).1];exact h.t
 unfold CS.control I1;rw[e,t,AI mv];exact w 8 0 rfl
theorem iC(l:EV (c.ws k))(h:H6 c k)(d:Dd):c.bytes d k=(false,c,d):=by
 unfold CS.bytes;split
 .rfl
 rw[AQ (by
  have hh:=Il (c.ws k).sent.rs 0 (c.endOf k);by_cases q:(Dj (c.ws k).sent.rs 0 (c.endOf k)).2<=(Dj (c.ws k).sent.rs 0 (c.endOf k)).1
  .exact q
  .exact absurd (GW.1 (h.1 _ (I:(Dj (c.ws k).sent.rs 0 (c.endOf k)).1<_))) (PC _ 0 (c.endOf k) _ l.sent.ok.wf (AF _) I)),AQ (by
  have:=h.2;cases hf:(c.ws k).fin with
  | false=>rfl
  | true =>
   by_cases q:(c.ws k).b.length<=c.endOf k
   .rw[this hf q];rfl
   rw[Ax I,Bool.or_true])]
theorem Y9(h:D7 c)(l:∀k,k<8->EV (c.ws k))(a:q<10)(d:Dd):c.put d q=(false,c,d):=by
 match q,a with
 | 0,_=>show((c.control d).isSome,_,_)=_;rw[lK h.ct];rfl
 | 1,_ =>
  show((c.datagrams d).isSome,_,_)=_;have:c.datagrams d=none:=by unfold CS.datagrams;rw[h.dg]
  rw[this];rfl
 | k+2,a=>exact iC (l k I) (h.w k I) d
theorem Uq(h:D7 c)(l:∀k,k<8->EV (c.ws k)):∀n (d:Dd),n<=10->CS.fillN n c d=(c,d)
 | 0,d,_=>rfl
 | n+1,d,hn=>by
  have e:CS.reps (9-n) (d.room+1) c d=(c,d):=by
   unfold CS.reps;rw[Y9 h l I d];rfl
  unfold CS.fillN;rw[e];exact Uq h l n d I
def D7.next(h:D7 c)(j:Nat):D7 { c with next:=j }:=⟨⟨h.ct.r,h.ct.t,h.ct.w⟩,h.w,h.dg⟩
theorem RG:∀(m:Nat) (c:CS) (l:zC),D7 c->(∀k,k<8->EV (c.ws k))->64<=c.mtu->(∃j,(CS.pkts m c l).2={ c with next:=j })/\(l=[]->(CS.pkts m c l).1=[])
 | 0,c,l,_,_,_=>⟨⟨c.next,rfl⟩,λ_=>rfl⟩
 | m+1,c,l,h,hl,hm=>by
  have e:c.pkFill (zp c.pkDraft l).1=(c,(zp c.pkDraft l).1):=by
   unfold CS.pkFill CS.fill;rw[Uq h hl 10 _ (AF _)];split<;>rfl
  unfold CS.pkts;rw[e];have w:=(VL hm l).1;have d:c.pkDone (zp c.pkDraft l).1={ c with next:=c.next+1 }:=by
   unfold CS.pkDone;rw[w];rfl
  simp only;rw[d];split
  .exact⟨⟨c.next,rfl⟩,λ_=>rfl⟩
  rename_i q;refine⟨?_,λx=>absurd (by rw[x];rfl) q⟩;obtain⟨⟨j,ej⟩,_⟩:=RG m { c with next:=c.next+1 } (zp c.pkDraft l).2 (h.next _) hl hm;exact⟨j,by rw[ej]⟩
variable{rs:zC}
theorem Uo(h:∀r∈rs,r.1<1073741824/\r.2<1073741824):∀k,k<rs.length->(D8 rs k).length<=8*k
 | 0,_=>AF _
 | k+1,hk=>by
  have i:=Uo h k I;have a:=h _ (AV (Gn (I:k<rs.length)));have b:=h _ (AV (Gn hk));simp only at a b;unfold D8;rw[AG,AG,Fo,Fo];repeat' split
  all_goals omega
theorem Y7{l:zC}(h:∀r∈l,r.1<1073741824/\r.2<1073741824)(hl:l.length<=64):(zp d l).1.b.length+10*(zp d l).2.length<=d.b.length+10*l.length/\d.b.length<=(zp d l).1.b.length:=by
 unfold zp;split
 .exact⟨AF _,AF _⟩
 rename_i h0;have hp:=BM.2 h0;have t1:=Na d l l.length hp;have t2:=Qh d l l.length;generalize hn:Ee d l l.length=n at t1 t2;have e:GL d l=((d.add (ackF (l.take n))).getD d,l.drop n):=by unfold GL;rw[hn]
 rw[e];simp only[Ac];cases ha:d.add (ackF (l.take n))with
 | none=>simp only[Option.getD_none];omega
 | some d' =>
  have al:=Kq ha;have tl:(l.take n).length=n:=by rw[AU];omega
  have b:=Uo (rs:=l.take n) (λr hr=>h r (BP hr)) (n-1) I;have g:=h _ (BP (AV (Gn (I:0<(l.take n).length))));simp only at g;have a:(zA (ackF (l.take n))).length=1+(zH (DX (l.take n) 0)).length+(zH ((l.take n).length-1)).length+(zH (DX (l.take n) 0-DZ (l.take n) 0)).length+(D8 (l.take n) ((l.take n).length-1)).length:=by
   show((((([2]++zH (DX (l.take n) 0))++zH ((l.take n).length-1))++zH (DX (l.take n) 0-DZ (l.take n) 0))++D8 (l.take n) ((l.take n).length-1))).length=_;simp only[AG,Af]
  rw[tl,Fo (n-1),Fo,Fo,AQ (I:n-1<64)]at a;simp only[Option.getD_some];repeat' split at a
  all_goals omega
variable{nx:Nat}
theorem Tg{b:CS}:∀(m:Nat) (c:CS) (l:zC),Gu c l->Dw c G->(∀r∈l,r.2<nx)->Di c b c.Under->HB 2048 c->(∀k,k<8->(c.rs k).grant<=6144)->c.waits=[]->Fs c l<m->c.next+Fs c l<1073741824->(∀r∈l,r.1<1073741824/\r.2<1073741824)->l.length<=64 ->
  ∃ δ,48*(CS.pkts m c l).2.flight.length+(CS.pkts m c l).2.due+6*c.pro<=48*c.flight.length+10*l.length+c.due+6*(CS.pkts m c l).2.pro+48 * δ /\ (δ = 0 \/ δ = 1/\D7 (CS.pkts m c l).2)/\(12<=(CS.pkts m c l).2.flight.length\/D7 (CS.pkts m c l).2)/\c.pro<=(CS.pkts m c l).2.pro
 | 0,_,_,_,_,_,_,_,_,_,hm,_,_,_=>absurd hm (A5 _)
 | m+1,c,l,hk,s,hx,h,hb,hg,hw,hm,hn,hr,hl=>by
  have R:=TE hk s hx h;obtain⟨r1,r2,r3,r4,r5,u,r7⟩:=hk.round;obtain⟨a1,a2⟩:=Y7 (d:=c.pkDraft) hr hl;have t:=NN (JG hk.ok) l;have v:c.pkDraft.b.length<=4:=by
   show(zH c.next).length<=4;rw[Fo];repeat' split
   all_goals omega
  have y:=hk.mtu;have tf:(zp c.pkDraft l).1.full=false:=by
   unfold zp;split
   .rfl
   show((c.pkDraft.add _).getD c.pkDraft).full=false;cases ha:c.pkDraft.add (ackF (l.take (Ee c.pkDraft l l.length)))with
   | none=>rfl
   | some d'=>exact(Dd.add_some ha).2.2.2.1
  have F1:∀F,F=c.pkFill (zp c.pkDraft l).1->Et c (zp c.pkDraft l).1 F.1 F.2/\(zp c.pkDraft l).1.b.length<=F.2.b.length/\F.2.room=c.mtu/\HB 2048 F.1/\(∀k,k<8->(F.1.rs k).grant<=6144)/\F.1.waits=[]/\(12<=c.flight.length/\F.2.wants=false\/EQ F.2\/D7 F.1):=by
   rintro F rfl;unfold CS.pkFill;split
   .have B:GB b G c.Under c (zp c.pkDraft l).1:=⟨hk.ok,s,h.mono (λ_ _=>id) (λ_ _ r=>.inr (.inl r)),hb,hg,hw,λx=>by rw[tf]at x;cases x⟩;obtain⟨o,b2,b3,b4,b5⟩:=B.fillN 10 (AF _) (.inr ⟨λx=>absurd x I,λk _ x=>absurd x I⟩);exact⟨b4,b3,b2.trans t.2.1,o.hb,o.gr,o.wt,.inr b5⟩
   exact⟨Et.refl c _,AF _,t.2.1,hb,hg,hw,.inl ⟨I,t.2.2.2.2.2.2⟩⟩
  obtain⟨f1,f2,f3,f4,f5,f6,p⟩:=F1 _ rfl;unfold Et at f1;unfold CS.pkts;by_cases a:(c.pkFill (zp c.pkDraft l).1).2.fs=[]
  .rw[AQ a];have g:¬EQ (c.pkFill (zp c.pkDraft l).1).2:=by
    have:=R.ds.b;rw[a]at this;unfold EQ;rw[this,f3];have e:I3 c.next []=c.pkDraft.b:=by show I3 c.next []=zH c.next;simp[I3]
    rw[e];omega
   refine⟨0,?_,.inl rfl,?_,f1.2⟩
   .simp only;rw[u];omega
   simp only;rw[u];rcases p with⟨x,_⟩|x|x
   .exact .inl x
   .exact absurd x g
   exact .inr x
  rw[AI a];obtain⟨z,k2⟩:=r7 a;have hd:=t.2.2.2.2.2.1;generalize c.pkFill (zp c.pkDraft l).1=F at *;generalize (zp c.pkDraft l).2=l2 at *;have enx:(F.1.pkDone F.2).next=c.next+1:=by show F.1.next+1=_;rw[r4]
  have i:(F.1.pkDone F.2).flight.length=c.flight.length+if F.2.wants then 1 else 0:=by
   rw[R.fl,R.want,AG];cases Ey F.2.fs<;>rfl
  obtain⟨δ,n,A,C,i4⟩:=Tg m (F.1.pkDone F.2) l2 z ⟨R.so.w,R.so.kf,R.so.sp,R.so.wt⟩ R.hx R.bel f4 f5 f6 I I (λr q=>hr r (R.sub r q)) I;have D:(F.1.pkDone F.2).pro=F.1.pro:=rfl;have ed:(F.1.pkDone F.2).due=F.1.due:=rfl;rw[i,D,ed]at n;rw[D]at i4;simp only;cases hq:F.2.wants with
  | false =>
   rw[hq]at n;simp only[BX,Be]at n;exact⟨δ,I,A,C,I⟩
  | true =>
   rw[hq]at n p;simp only[BC]at n;rcases p with⟨_,x⟩|x|x
   .cases x
   .unfold EQ at x;exact⟨δ,I,A,C,I⟩
   have f:D7 (F.1.pkDone F.2):=⟨⟨x.ct.r,x.ct.t,x.ct.w⟩,x.w,x.dg⟩;obtain⟨⟨j,ej⟩,_⟩:=RG m (F.1.pkDone F.2) l2 f R.bel.low z.mtu;rw[ej];refine⟨1,?_,.inr ⟨rfl,f.next j⟩,.inr (f.next j),by show c.pro<=F.1.pro;omega⟩;have e3:({ F.1.pkDone F.2 with next:=j }:CS).flight.length=c.flight.length+1:=by
    show(F.1.pkDone F.2).flight.length=_;rw[i,hq];rfl
   have e4:({ F.1.pkDone F.2 with next:=j }:CS).pro=F.1.pro:=rfl;have e5:({ F.1.pkDone F.2 with next:=j }:CS).due=F.1.due:=rfl;rw[e3,e4,e5];omega
structure Fd(a b:CS):Prop where
 bel:Di a b a.Under
 got:∀q∈a.flight,Dk b.got.rs q.n->∀f∈q.fs,Fe b f
 num:∀q∈a.flight,q.n<a.next/\q.at_<=a.now
 lg:a.largest<=a.next
structure LX(a b:CS)(x:nG):Prop where
 bag:∀num fs,dec x=.ok num fs->∀q∈a.flight,q.n=num->∀f∈q.fs,∀cl,G4 f cl->∃g∈fs,G4 g cl
 ack:∀num fs,dec x=.ok num fs->∀f∈fs,f.kind=2->∀q∈b.flight,D2 f.rngs q=true->∀g∈q.fs,Fe a g
structure NS.Links(n:NS):Prop where
 l:∀i,i<2->Fd (n.c i) (n.c (1-i))
 bg:∀p∈n.bag,LX (n.c (1-p.1)) (n.c p.1) p.2
 dl:∀i,i<2->∀s∈n.g i,s.dl<=n.now+8
 gb:∀i,i<2->∀k,k<8->((n.c i).rs k).grant<=6144
 cf:∀i,i<2->(n.c i).window=n.window/\(n.c i).total=n.total
 fl:∀i,i<2->(n.c i).got.fl<=(n.c (1-i)).next
structure NS.Nums(n:NS):Prop where
 got:∀i,i<2->∀r∈(n.c i).got.rs,r.2<(n.c (1-i)).next
 num:∀p∈n.bag,p.1<2/\∀num fs,dec p.2=.ok num fs->num<(n.c (1-p.1)).next/\∀f∈fs,f.kind=2->∀r∈f.rngs,r.2<(n.c p.1).next
def LL{b:nG}(h:G5 c nx G b):∀num fs,dec b=.ok num fs->num<c.next/\∀f∈fs,f.kind=2->∀r∈f.rngs,r.2<nx:=λnum fs e=>by
 obtain⟨a,fs',d,e3,e4⟩:=h.dec;rw[e]at d;cases d;exact⟨e3,λf hf=>(e4 f hf).k2⟩
variable{n:NS}
def NS.Safe.nums(h:n.Safe):n.Nums:=⟨h.got,λp a=>⟨(h.bag p a).1,LL (h.bag p a).2⟩⟩
variable{B m:Nat}
def Py(h:∀r∈rs,r.2<B)(hm:Dk rs m):m<B:=by
 obtain⟨r,hr,_,e⟩:=GW.1 hm;have:=h r hr;omega
structure D4(c c' o:CS):Prop where
 bel:Di c' o c'.Under
 fl:∀q∈c'.flight,q∈c.flight\/(c.next<=q.n/\q.n<c'.next/\q.at_<=c'.now)
 nx:c.next<=c'.next/\c.now<=c'.now
 gr:Dt c c'
 got:∀m,Dk c'.got.rs m->Dk c.got.rs m\/∀q∈o.flight,q.n=m->∀f∈q.fs,Fe c' f
 gt:∀k,k<8->(c.rs k).grant<=6144->(c'.rs k).grant<=6144
 cf:c'.window=c.window/\c'.total=c.total
 gf:c.got.fl<=o.next->c'.got.fl<=o.next
 lg:c.largest<=c.next->c'.largest<=c'.next
def Qe{l:zC}{q:Dc}(h:D2 l q=true):Dk l q.n:=by
 obtain⟨r,hr,e⟩:=Bh.1 h;simp only[AZ,Ah]at e;exact GW.2 ⟨r,hr,e⟩
def LX.turn{a b c i:CS}{x:nG}(h:LX a b x)(j:∀num fs,dec x=.ok num fs->num<a.next/\∀f∈fs,f.kind=2->∀r∈f.rngs,r.2<b.next)(fa:∀q∈c.flight,q∈a.flight\/a.next<=q.n)(fb:∀q∈i.flight,q∈b.flight\/b.next<=q.n)(gr:Dt a c):LX c i x:=by
 refine⟨λnum fs e q d eq f hf cl s=>?_,λnum fs e f hf k q d l g hg cl o s=>?_⟩
 .have:=(j num fs e).1;rcases fa q d with y|y
  .exact h.bag num fs e q y eq f hf cl s
  omega
 have:=Py ((j num fs e).2 f hf k) (Qe l);rcases fb q d with y|y
 .exact gr cl o (h.ack num fs e f hf k q y l g hg cl o s)
 omega
def Fd.turnA{a d b:CS}(h:Fd a b)(t:D4 a d b)(hg:∀r∈b.got.rs,r.2<a.next):Fd d b :=
 ⟨t.bel,λq c e=>by
  rcases t.fl q c with x|x
  .exact h.got q x e
  .have:=Py hg e;omega,λq c=>by
  rcases t.fl q c with x|x
  .have:=h.num q x;have:=t.nx;omega
  exact x.2,t.lg h.lg⟩
def Fd.turnB{a b c:CS}(h:Fd a b)(t:D4 b c a):Fd a c :=
 ⟨h.bel.mono t.gr (λ_ _=>.inr),λq d hm f hf=>by
  rcases t.got _ hm with x|x
  .exact λcl o s=>t.gr cl o (h.got q d x f hf cl o s)
  exact x q d rfl f hf,h.num,h.lg⟩
variable{i:Nat}{n':NS}
def NS.Links.turn(h:n.Links)(m:n.Nums)(hi:i<2)(d:n'.c (1-i)=n.c (1-i))(t:D4 (n.c i) (n'.c i) (n.c (1-i)))(hb:∀p∈n'.bag,p∈n.bag\/LX (n'.c (1-p.1)) (n'.c p.1) p.2)(hd:∀i,i<2->∀s∈n'.g i,s.dl<=n'.now+8)(o:n'.window=n.window/\n'.total=n.total):n'.Links:=by
 have b:1-(1-i)=i:=I;have r:1-i<2:=I;have u:=h.l (1-i) r;rw[b]at u;refine⟨λj a=>?_,λp hp=>?_,hd,λj a k hk=>?_,λj a=>?_,λj a=>?_⟩
 .rcases Gg hi a with e|e
  .rw[e,d];exact(h.l i hi).turnA t (by have:=m.got (1-i) r;rw[b]at this;exact this)
  rw[e,b,d];exact u.turnB t
 .rcases hb p hp with x|x
  .obtain⟨p1,p2⟩:=m.num p x;have hx:=h.bg p x;rcases Gg hi p1 with e|e
   .rw[e]at hx p2 ⊢;rw[d];exact hx.turn p2 (λq=>.inl) (λq f=>(t.fl q f).imp id (·.1)) (Dt.refl _)
   rw[e,b]at hx p2 ⊢;rw[d];exact hx.turn p2 (λq f=>(t.fl q f).imp id (·.1)) (λq=>.inl) t.gr
  exact x
 .have:=h.gb j a k hk;rcases Gg hi a with e|e
  .rw[e]at this ⊢;exact t.gt k hk this
  rw[e]at this ⊢;rw[d];exact this
 .have:=h.cf j a;rw[o.1,o.2];rcases Gg hi a with e|e
  .rw[e]at this ⊢;rw[t.cf.1,t.cf.2];exact this
  rw[e]at this ⊢;rw[d];exact this
 have:=h.fl j a;rcases Gg hi a with e|e
 .rw[e]at this ⊢;rw[d];exact t.gf this
 rw[e,b]at this ⊢;rw[d];exact AJ this t.nx.1
def D4.quiet{o:CS}(h:Fd c o)(a:Eg c c')(fl:c'.flight=c.flight)(nx:c'.next=c.next/\c'.now=c.now)(gr:Dt c c')(got:c'.got=c.got)(gt:∀k,k<8->(c'.rs k).grant=(c.rs k).grant)(cf:c'.window=c.window/\c'.total=c.total/\c'.largest=c.largest):D4 c c' o :=
 ⟨by have:=h.bel.ask a;unfold CS.Under at this ⊢;rw[fl];exact this,λq hq=>.inl (by rw[<-fl];exact hq),⟨Ay nx.1.symm,Ay nx.2.symm⟩,gr,λm hm=>.inl (by rw[<-got];exact hm),λk hk x=>by rw[gt k hk];exact x,⟨cf.1,cf.2.1⟩,λx=>by rw[got];exact x,λx=>by rw[cf.2.2,nx.1];exact x⟩
def Fd.under{o:CS}(h:Fd c o):D4 c c o:=D4.quiet h (Eg.refl c) rfl ⟨rfl,rfl⟩ (Dt.refl c) rfl (λ_ _=>rfl) ⟨rfl,rfl,rfl⟩
variable{y:WS}
def D4.w{o:CS}(h:Fd c o)(s:Nat)(hl:EV (c.ws s)->EV y)(hc:y.came=(c.ws s).came)(hs:y.sent=(c.ws s).sent)(he:y.ending=(c.ws s).ending)(ht:y.cut=true->y.telling=true->(c.ws s).cut=true/\(c.ws s).telling=true/\(c.ws s).keep=y.keep)(hk:y.credit=(c.ws s).credit):D4 c { c with ws:=zf c.ws s y } o :=
 D4.quiet h (Eg.w s hl hc hs he ht) rfl ⟨rfl,rfl⟩ (Dt.w s (Ay hk.symm)) rfl (λ_ _=>rfl) ⟨rfl,rfl,rfl⟩
def D4.send{o:CS}(h:Fd c o)(k:Int)(s:nG):D4 c (c.send k s).2 o:=by
 unfold CS.send;split
 .exact h.under
 split
 .exact h.under
 split
 .exact h.under
 exact D4.w h _ (λl=>⟨l.sent,l.came,by have:=l.hl;show(c.ws k.toNat).high<=((c.ws k.toNat).b++s).length;rw[AG];omega,by show((c.ws k.toNat).b++s).length<=_;rw[AG];omega,by have:=l.fn;show(c.ws k.toNat).final<=((c.ws k.toNat).b++s).length;rw[AG];omega⟩) rfl rfl rfl (λx y=>⟨x,y,rfl⟩) rfl
def D4.finish{o:CS}(h:Fd c o)(k:Int):D4 c (c.finish k).2 o:=by
 unfold CS.finish;split
 .exact h.under
 split
 .exact h.under
 exact D4.w h _ (λl=>⟨l.sent,l.came,l.hl,l.bl,l.fn⟩) rfl rfl rfl (λx y=>⟨x,y,rfl⟩) rfl
def D4.reset{o:CS}(h:Fd c o)(k n:Int):D4 c (c.reset k n).2 o:=by
 unfold CS.reset;split
 .exact h.under
 refine D4.w h _ (λl=>⟨l.sent,l.came,l.hl,l.bl,?_⟩) rfl rfl rfl (λ_ y=>?_) rfl
 .have:=l.fn;have:=l.hl;have:=l.bl;show(if (c.ws k.toNat).cut then(c.ws k.toNat).final else max (c.ws k.toNat).high (min n.toNat (c.ws k.toNat).b.length))<=(c.ws k.toNat).b.length;split<;>omega
 generalize (c.ws k.toNat)=x at *;generalize min n.toNat x.b.length=m at *;unfold WS.give at y ⊢;simp only at y ⊢;split at y
 .cases y
 rename_i w;rw[AI w];simp only[Bb,Bm,Ah,not_or,Bool.not_eq_false]at w;exact⟨w.1,y,rfl⟩
def D4.datagram{o:CS}(h:Fd c o)(id dl:Nat)(s:nG):D4 c (c.datagram id dl s).2 o:=by
 unfold CS.datagram;repeat' split
 all_goals first|exact h.under|exact D4.quiet h (Eg.of rfl rfl rfl rfl) rfl ⟨rfl,rfl⟩ (Dt.of (λk _=>⟨rfl,rfl,rfl,rfl⟩) (λ_ _=>AF _) (AF _)) rfl (λ_ _=>rfl) ⟨rfl,rfl,rfl⟩
def D4.read{o:CS}(h:Fd c o)(k n:Int):D4 c (c.read k n).2 o:=by
 unfold CS.read;split
 .exact h.under
 split
 .exact h.under
 exact D4.quiet h (Eg.r _ rfl rfl) rfl ⟨rfl,rfl⟩ (Dt.r _ (λp=>id) id (λn=>id)) rfl (λj _=>by
 show(zf c.rs k.toNat _ j).grant=_;by_cases x:j=k.toNat
 .subst x;rw[ze]
 rw[zd _ _ x]) ⟨rfl,rfl,rfl⟩
def D4.tick{o:CS}(h:Fd c o)(hs:∀p∈c.flight,∀f∈p.fs,FS f):D4 c c.tick o:=by
 have f:=Jd c;have hb:Di c.ticked o c.ticked.Under:=h.bel.ask (Eg.of rfl rfl rfl rfl);have e:c.tick=c.ticked.lose:=rfl;have g:Dt c c.ticked:=Dt.of (λk _=>⟨rfl,rfl,rfl,rfl⟩) (λ_ _=>AF _) (AF _);refine⟨hb.lose hs,λq a=>.inl ?_,⟨Ay f.next.symm,by rw[show c.tick.now=c.now+1 from f.now];omega⟩,g.trans f.grows,λm d=>.inl ?_,λk hk x=>?_,?_,λx=>by rw[f.got];exact x,λx=>?_⟩
 .rw[e,Hs]at a;exact(BI.1 a).1
 .rw[f.got]at d;exact d
 .obtain⟨q,e⟩:=f.rs k hk;rw[e];exact x
 .rw[e,Hs];have b:=JE c.ticked.flight c.ticked;exact⟨b.hd.2.1,b.hd.2.2.1⟩
 rw[f.next,e,Hs];have b:=JE c.ticked.flight c.ticked;show(c.ticked.loses c.ticked.flight).largest<=_;rw[b.tl.2.2.2.1];exact x
def NS.Links.user(h:n.Links)(hN:n.Nums)(hi:i<2)(hc:n'.c=zf n.c i c')(hb:n'.bag=n.bag)(a:n'.now=n.now/\n'.window=n.window/\n'.total=n.total)(t:D4 (n.c i) c' (n.c (1-i)))(hd:∀j,j<2->∀s∈n'.g j,s∈n.g j\/s.dl<=n.now+8):n'.Links:=by
 have e1:n'.c i=c':=by rw[hc,ze]
 refine h.turn hN hi (by rw[hc,zd _ _ I]) (by rw[e1];exact t) (λp hp=>.inl (by rw[<-hb];exact hp)) (λj b s hs=>?_) a.2;rw[a.1];exact(hd j b s hs).elim (h.dl j b s) id
def NS.Links.send(h:n.Links)(hN:n.Nums)(hi:i<2)(s:nG):(n.send i k s).2.Links:=by
 have e:(n.send i k s).2.c=zf n.c i ((n.c i).send k s).2/\(n.send i k s).2.bag=n.bag/\((n.send i k s).2.now=n.now/\(n.send i k s).2.window=n.window/\(n.send i k s).2.total=n.total)/\(n.send i k s).2.g=n.g:=by
  unfold NS.send;repeat' split
  all_goals exact⟨rfl,rfl,⟨rfl,rfl,rfl⟩,rfl⟩
 exact h.user hN hi e.1 e.2.1 e.2.2.1 (D4.send (h.l i hi) _ s) (λj _ s hs=>.inl (by rw[<-e.2.2.2];exact hs))
def NS.Links.finish(h:n.Links)(hN:n.Nums)(hi:i<2):(n.finish i k).2.Links:=by
 have e:(n.finish i k).2.c=zf n.c i ((n.c i).finish k).2/\(n.finish i k).2.bag=n.bag/\((n.finish i k).2.now=n.now/\(n.finish i k).2.window=n.window/\(n.finish i k).2.total=n.total)/\(n.finish i k).2.g=n.g:=by
  unfold NS.finish;repeat' split
  all_goals exact⟨rfl,rfl,⟨rfl,rfl,rfl⟩,rfl⟩
 exact h.user hN hi e.1 e.2.1 e.2.2.1 (D4.finish (h.l i hi) _) (λj _ s hs=>.inl (by rw[<-e.2.2.2];exact hs))
def NS.Links.reset(h:n.Links)(hN:n.Nums)(hi:i<2)(b:Int):(n.reset i k b).2.Links :=
 h.user hN hi (c':=((n.c i).reset k (Db b ((n.e i k).wrote.length+1))).2) rfl rfl ⟨rfl,rfl,rfl⟩ (D4.reset (h.l i hi) _ _) (λ_ _ _=>.inl)
def NS.Links.datagram(h:n.Links)(hN:n.Nums)(hi:i<2)(s:Do):(n.datagram i s).2.Links:=by
 have p9:=En s.a 9 I;have e:∃dl,(n.datagram i s).2.c=zf n.c i ((n.c i).datagram (n.next i) dl s.s).2/\(n.datagram i s).2.bag=n.bag/\((n.datagram i s).2.now=n.now/\(n.datagram i s).2.window=n.window/\(n.datagram i s).2.total=n.total)/\∀j,j<2->∀q∈(n.datagram i s).2.g j,q∈n.g j\/q.dl<=n.now+8:=by
  unfold NS.datagram;split
  .exact⟨n.now,rfl,rfl,⟨rfl,rfl,rfl⟩,λ_ _ _=>.inl⟩
  refine⟨n.now+Db s.a 9,?_⟩;split
  .exact⟨rfl,rfl,⟨rfl,rfl,rfl⟩,λ_ _ _=>.inl⟩
  split
  .exact⟨rfl,rfl,⟨rfl,rfl,rfl⟩,λ_ _ _=>.inl⟩
  refine⟨rfl,rfl,⟨rfl,rfl,rfl⟩,λj _ q b=>?_⟩;have b:q∈zf n.g i (n.g i++[⟨n.next i,n.now+Db s.a 9,s.s,false⟩]) j:=b;by_cases x:j=i
  .subst x;rw[ze]at b;rcases Al.1 b with y|y
   .exact .inl y
   rw[Ag.1 y];exact .inr (by show n.now+Db s.a 9<=_;omega)
  rw[zd _ _ x]at b;exact .inl b
 obtain⟨dl,e1,e2,e3,e4⟩:=e;exact h.user hN hi e1 e2 e3 (D4.datagram (h.l i hi) (n.next i) dl s.s) e4
def NS.Links.read(h:n.Links)(hN:n.Nums)(hi:i<2)(most:Nat):(n.read i k most).2.Links:=by
 have e:(n.read i k most).2.c=zf n.c i ((n.c i).read k most).2/\(n.read i k most).2.bag=n.bag/\((n.read i k most).2.now=n.now/\(n.read i k most).2.window=n.window/\(n.read i k most).2.total=n.total)/\(n.read i k most).2.g=n.g:=by
  unfold NS.read;split;all_goals exact⟨rfl,rfl,⟨rfl,rfl,rfl⟩,rfl⟩
 exact h.user hN hi e.1 e.2.1 e.2.2.1 (D4.read (h.l i hi) k most) (λj _ s hs=>.inl (by rw[<-e.2.2.2];exact hs))
def NS.Links.drop(h:n.Links)(k:Nat):(n.drop k).Links :=
 ⟨h.l,λp hp=>h.bg p (by
  rcases Al.1 hp with x|x
  .exact BP x
  exact Bo x),h.dl,h.gb,h.cf,h.fl⟩
variable{T:Nat}
def NS.Links.tick(h:n.Links)(m:n.Nums)(hI:n.Inv T):n.tick.Links:=by
 have fs:∀i,i<2->∀p∈(n.c i).flight,∀f∈p.fs,FS f:=λi hi p b=>((hI.c i hi).fly p b).2.2.2
 obtain⟨a,d⟩:∃a,a={ n with c:=zf n.c 0 (n.c 0).tick }:=⟨_,rfl⟩;have o:a.c 0=(n.c 0).tick:=by rw[d];exact ze n.c 0 _
 have e:a.c 1=n.c 1:=by rw[d];exact zd n.c (k:=0) (j:=1) (n.c 0).tick mu
 have f0:=Jd (n.c 0);have q:a.Links:=h.turn m (i:=0) I e (by rw[o];exact D4.tick (h.l 0 I) (fs 0 I)) (λp b=>.inl (by rw[d]at b;exact b)) (by rw[d];exact h.dl) (by rw[d];exact⟨rfl,rfl⟩);have N1:a.Nums:=by
  have g:∀i,i<2->(a.c i).got=(n.c i).got/\(a.c i).next=(n.c i).next:=λi hi=>by
   rcases(I:i=0\/i=1)with rfl|rfl
   .rw[o];exact⟨f0.got,f0.next⟩
   rw[e];exact⟨rfl,rfl⟩
  refine⟨λi hi r t=>?_,λp b=>?_⟩
  .rw[(g i hi).1]at t;rw[(g (1-i) I).2];exact m.got i hi r t
  rw[d]at b;obtain⟨p1,p2⟩:=m.num p b;rw[(g p.1 p1).2,(g (1-p.1) I).2];exact⟨p1,p2⟩
 have b1:n.tick.c 1=(a.c 1).tick:=by rw[e];exact Mw n I
 have b0:n.tick.c 0=a.c 0:=by rw[o];exact Mw n I
 refine q.turn N1 (i:=1) I b0 (by rw[b1];exact D4.tick (q.l 1 I) (by rw[e];exact fs 1 I)) (λp b=>.inl (by rw[d];exact b)) (λi hi s hs=>?_) (by rw[d];exact⟨rfl,rfl⟩);have:=h.dl i hi s hs;show s.dl<=n.now+1+8;omega
theorem Un(i:Nat):∀(l:List nG) (n:NS),(NS.flushL i l n).1=true->∃k,(NS.flushL i l n).2={ n with count:=zf n.count i k,bag:=n.bag++l.map λx=>(1-i,x) }
 | [],n,_=>⟨n.count i,by show n=_;rw[Fy,C4,Bw]⟩
 | b::l,n,h=>by
  unfold NS.flushL at h ⊢;cases hd:dec b with
  | sum=>rw[hd]at h;cases h
  | bad p=>rw[hd]at h;cases h
  | ok num fs =>
   rw[hd]at h;simp only at h ⊢;split at h
   .cases h
   rename_i c1;rw[AI c1];split at h
   .cases h
   rename_i c2;rw[AI c2];obtain⟨k,e⟩:=Un i l _ h;refine⟨k,?_⟩;rw[e];have:zf (zf n.count i (n.count i+1)) i k=zf n.count i k:=by
    funext j;unfold zf;split<;>rfl
   simp only[this,Ap,List.singleton_append,Bq]
structure Mo(c c2 o:CS)(L:List (List Da))(now:Nat):Prop where
 pk:OR o c.acks.2 c2 c.acks.1 (12-c.flight.length+c.acks.1.length+1) c.packets.1 L
 fl:c2.flight=c.flight++Hh now c.next L
 nx:c2.next=c.next+L.length
 gr:Dt c c2
 rs:∀k,k<8->∃g a,c2.rs k={ c.rs k with grant:=g,anew:=a }/\g<=max (c.rs k).grant 6144
 ws:∀k,k<8->Fg (c.ws k) (c2.ws k)
 got:c2.got=c.got
 now:c2.now=c.now
 ans:c2.answer=false
 lg:c2.largest=c.largest
 cf:c2.window=c.window/\c2.total=c.total
 len:L.length<=20
 crd:c2.credit=c.credit
 acc:c.waits=[]->c.next+20<1073741824->o.next<=1073741824->∃ δ,48*c2.flight.length+c2.due+6*c.pro<=48*c.flight.length+80+c.due+6*c2.pro+48 * δ /\ (δ = 0 \/ δ = 1/\D7 c2)/\(12<=c2.flight.length\/D7 c2)/\c.pro<=c2.pro
 idle:D7 c->D7 c2/\c2.flight=c.flight/\(c.answer=false->c.packets.1=[])
def NS.Links.flu(h:n.Links)(A:n.Safe)(hI:n.Inv T)(M:T<=Dg)(hi:i<2):∃L,Mo (n.c i) (n.c i).packets.2 (n.c (1-i)) L n.now:=by
 have so:=A.so i hi;have s:=A.got i hi;have hk:=(hI.c i hi).pkOk M;have a0:Dw (n.c i).acks.2 (n.g i)/\(∀r∈(n.c i).acks.1,r.2<(n.c (1-i)).next)/\(n.c i).acks.2={ n.c i with answer:=false }:=by
  unfold CS.acks;split
  .exact⟨⟨so.w,so.kf,so.sp,so.wt⟩,λr f=>s r (List.mem_reverse.1 f),rfl⟩
  rename_i q;refine⟨so,λr f=>(nomatch f),?_⟩;have q:(n.c i).answer=false:=nF q;show n.c i={ n.c i with answer:=false };rw[<-q]
 obtain⟨C,B,m⟩:=a0;have hb:Di (n.c i).acks.2 (n.c (1-i)) (n.c i).acks.2.Under:=by
  rw[m];exact(h.l i hi).bel.ask (Eg.of rfl rfl rfl rfl)
 have N:=(QB (nx:=(n.c (1-i)).next) (G:=n.g i) (12-(n.c i).flight.length+(n.c i).acks.1.length+1) (n.c i).acks.2 (n.c i).acks.1 { n with mtu:=(n.c i).acks.2.mtu,count:=λ_=>(n.c i).acks.2.next,now:=(n.c i).acks.2.now } i hk C B rfl rfl rfl).2.2.2.1;obtain⟨L,P⟩:=Sa (nx:=(n.c (1-i)).next) (12-(n.c i).flight.length+(n.c i).acks.1.length+1) _ _ hk C B hb;have u:=(hI.c i hi).acks.1;have O:HB 2048 (n.c i).acks.2:=λk hk o=>by
  rw[m]at o ⊢;have d:=(A.d (1-i) I).k k hk;rw[(I:1-(1-i)=i)]at d;have r:=(hI.c i hi).rs k hk;have s2:((n.c i).rs k).state≠2:=λe=>by
   obtain⟨x,y⟩:=r.st e;have o:((n.c i).rs k).hopes=true:=o;unfold RS.hopes at o;rw[AQ x]at o;have:=r.rd;have:=r.hg;simp[e]at o;omega
  show((n.c i).rs k).used<=2048;unfold RS.used;rw[AI s2];have:=r.rd;have:=d.rh;have:=d.hl;have:=d.bl;omega
 have D:=Q5 (G:=2048) (12-(n.c i).flight.length+(n.c i).acks.1.length+1) _ _ hk O (λp hp=>u.fly p hp) (by have:=u.now;unfold Dg at M;unfold zF;omega);have E:CS.pkts (12-(n.c i).flight.length+(n.c i).acks.1.length+1) (n.c i).acks.2 (n.c i).acks.1=(n.c i).packets:=rfl;have Q:=RG (12-(n.c i).flight.length+(n.c i).acks.1.length+1) (n.c i).acks.2 (n.c i).acks.1;have F:=Tg (b:=n.c (1-i)) (nx:=(n.c (1-i)).next) (G:=n.g i) (12-(n.c i).flight.length+(n.c i).acks.1.length+1) _ _ hk C B hb O (by rw[m];exact h.gb i hi);have hl8:=(hI.c i hi).acks.2.2;have v:Fs (n.c i).acks.2 (n.c i).acks.1=12-(n.c i).flight.length+(n.c i).acks.1.length:=by rw[m];rfl
 have wf:∀r∈(n.c i).acks.1,r.1<=r.2:=λr f=>by
  have f:r∈(n.c i).got.rs:=by
   unfold CS.acks at f;split at f
   .exact List.mem_reverse.1 f
   cases f
  obtain⟨j,hj,x,y⟩:=I5 f;have:=((hI.c i hi).got.1.wf.1 j hj).1;omega
 have len:L.length<=20:=by
  have q1:=D.next;have q2:=P.next;rw[v]at q1;omega
 rw[E]at P N D Q F;have H:=D.but;obtain⟨b1,R,S,V,b5,b6,W,X⟩:=H.hd;obtain⟨t1,Y,t3,t4,t5,t6,t7⟩:=H.tl;have br:=H.rs;have f1:=P.fl;have Z:=P.next;have J:=N.ws;rw[m]at f1 Z J V W t1 br X Y R S;have hn:(n.c i).now=n.now:=A.now i hi;refine⟨L,P,by rw[<-hn];exact f1,Z,?_,λk hk=>?_,J,W,V,X,Y,⟨R,S⟩,len,t1,λw x y=>?_,λx=>?_⟩
 .exact Dt.of (λk hk=>by obtain⟨g,a,e,_⟩:=br k hk;rw[e];exact⟨rfl,rfl,rfl,rfl⟩) (λk hk=>Ay (J k hk).credit.symm) (Ay t1.symm)
 .obtain⟨g,a,e,y⟩:=br k hk;refine⟨g,a,e,?_⟩;have:=(hI.c i hi).win;rcases y with⟨y,_⟩|⟨y1,y2⟩
  .rw[y];exact BO _ _
  have y1:((n.c i).rs k).used<=2048:=y1;have y2:g=max ((n.c i).rs k).grant (((n.c i).rs k).used+(n.c i).window):=y2;omega
 .rw[v]at F;obtain⟨δ,K,z2,z3,z4⟩:=F (by rw[m];exact w) I (by rw[m];show(n.c i).next+_<_;omega) (λr f=>by
   have:=B r f;have:=wf r f;omega) I
  rw[m]at K z4;have K:48*(n.c i).packets.2.flight.length+(n.c i).packets.2.due+6*(n.c i).pro<=48*(n.c i).flight.length+10*(n.c i).acks.1.length+(n.c i).due+6*(n.c i).packets.2.pro+48 * δ := K;exact⟨δ,I,z2,z3,z4⟩
 have x2:D7 (n.c i).acks.2:=by rw[m];exact⟨⟨x.ct.r,x.ct.t,x.ct.w⟩,x.w,x.dg⟩
 obtain⟨⟨j,e⟩,z⟩:=Q x2 hb.low (by rw[m];exact(hI.c i hi).mtu.1);refine⟨by rw[e];exact x2.next j,by rw[e,m],λq=>z (by unfold CS.acks;rw[q];rfl)⟩
variable{now:Nat}
def XX{o:CS}{L:List (List Da)}(f:Mo c c2 o L now)(l1:Fd c o)(l2:Fd o c)(hw:∀r∈c.acks.1,r∈c.got.rs):∀x∈c.packets.1,LX c2 o x:=by
 intro x hx;have e0:c.acks.2.next=c.next:=by unfold CS.acks;split<;>rfl
 have d:=f.pk.outs;rw[e0]at d;obtain⟨j,fs,h,hd⟩:=Th L c.next d hx;have hm:=AV h;refine⟨λnum gs e q a eq g hg cl s=>?_,λnum gs e g hg k q a i v hv cl l s=>?_⟩
 .rw[hd]at e;cases e;rw[f.fl]at a;rcases Al.1 a with y|y
  .have:=(l1.num q y).1;omega
  obtain⟨_,_,_,m⟩:=Mh L c.next y;rw[(I:q.n-c.next=j),h]at m;cases m;exact⟨zs g,BQ.2 ⟨g,hg,rfl⟩,VN s⟩
 rw[hd]at e;cases e;obtain⟨g0,b,rfl⟩:=BQ.1 hg;rw[Gq]at k;have er:(zs g0).rngs=g0.rngs:=by simp[zs,k]
 rw[er]at i;obtain⟨r,hr,y⟩:=GW.1 (Qe i);exact f.gr cl l (l2.got q a (GW.2 ⟨r,hw r (f.pk.acks fs hm g0 b k r hr),y⟩) v hv cl l s)
def QO(c:CS):∀r∈c.acks.1,r∈c.got.rs:=λr a=>by
 unfold CS.acks at a;split at a
 .exact List.mem_reverse.1 a
 cases a
def NT(hs:n.Safe)(hI:n.Inv T)(hT:T<=Dg)(hi:i<2):∃k,(n.flush i).2={ n.setC i (n.c i).packets.2 with count:=zf n.count i k,bag:=n.bag++(n.c i).packets.1.map λx=>(1-i,x) } :=
 Un i _ _ (hs.flush hI hT hi).1
def Mo.trn{o:CS}{L:List (List Da)}(f:Mo c c2 o L now)(hn:c.now=now):D4 c c2 o :=
 ⟨f.pk.bel,λq d=>by
  rw[f.fl]at d;rcases Al.1 d with y|y
  .exact .inl y
  obtain⟨a,b,e,_⟩:=Mh L c.next y;exact .inr ⟨a,by rw[f.nx];exact b,by rw[e,f.now,hn];exact AF _⟩,⟨by rw[f.nx];omega,Ay f.now.symm⟩,f.gr,λm hm=>.inl (by rw[<-f.got];exact hm),λk hk x=>by obtain⟨g,a,e,y⟩:=f.rs k hk;rw[e];show g<=_;omega,f.cf,λx=>by rw[f.got];exact x,λx=>by rw[f.lg,f.nx];omega⟩
def NS.Links.flush(h:n.Links)(b:n.Safe)(hI:n.Inv T)(d:T<=Dg)(hi:i<2):(n.flush i).2.Links:=by
 have a:1-(1-i)=i:=I;obtain⟨L,f⟩:=h.flu b hI d hi;obtain⟨k,e⟩:=NT b hI d hi;have g:=h.l (1-i) I;rw[a]at g;have ox:=XX f (h.l i hi) g (QO _);rw[e];have j:({ n.setC i (n.c i).packets.2 with count:=zf n.count i k,bag:=n.bag++(n.c i).packets.1.map λx=>(1-i,x) }:NS).c i=(n.c i).packets.2:=NS.setC_c n i _;have m:({ n.setC i (n.c i).packets.2 with count:=zf n.count i k,bag:=n.bag++(n.c i).packets.1.map λx=>(1-i,x) }:NS).c (1-i)=n.c (1-i):=NS.setC_o n hi _;refine h.turn b.nums hi m (by rw[j];exact f.trn (b.now i hi)) (λp hp=>?_) h.dl ⟨rfl,rfl⟩;rcases Al.1 hp with x|x
 .exact .inl x
 obtain⟨y,hy,rfl⟩:=BQ.1 x;refine .inr ?_;show LX (NS.c _ (1-(1-i))) (NS.c _ (1-i)) y;rw[a,j,m];exact ox y hy
variable{s:Dl}
def Ln(h:s.Ok)(hB:∀r∈s.rs,r.2<B)(hm:m<B)(hv:m<=zF)(hf:s.fl<=B):(s.add m m).fl<=B:=by
 unfold Dl.add;split
 .exact hf
 split
 .have t:=PJ (m:=max m s.fl) (hi:=m) (B:=B-1) (Jo h.wf I (zT (D0 s.rs (max m s.fl)) s.rs.length) (zT (EF s.rs m) s.rs.length)) (zT (EF s.rs m) s.rs.length).1 (λj hj=>by have:=hB _ (AV (Gn hj));simp only at this;omega) I 0 I;show _+1<=B;omega
 exact hf
def D4.came{o:CS}(t:D4 c c' o):D4 c c'.datagramsOut.2 o:=by
 have g:Dt c' c'.datagramsOut.2:=Dt.of (λk _=>⟨rfl,rfl,rfl,rfl⟩) (λ_ _=>AF _) (AF _);exact⟨t.bel.ask (Eg.of rfl rfl rfl rfl),t.fl,t.nx,t.gr.trans g,λm hm=>(t.got m hm).imp id (λx q hq e f hf cl o s=>g cl o (x q hq e f hf cl o s)),t.gt,t.cf,t.gf,t.lg⟩
structure mq(c c' o:CS)(num:Nat)(fs:List Da):Prop where
 trn:D4 c c' o
 ok:Hi c.got.rs c.got.fl num=true/\c'=c\/Hi c.got.rs c.got.fl num=false/\c'=(CS.takes fs { c with got:=c.got.add num num }).2/\(∀f∈fs,Fe c' f)/\c'.got=c.got.add num num/\c'.next=c.next/\c'.now=c.now
variable{fs:List Da}{num:Nat}
def NS.Links.rcv(h:n.Links)(d:n.Safe)(hI:n.Inv T)(hi:i<2){b:nG}(hb:b.length<1099511627776)(hd:dec b=.ok num fs)(p:G5 (n.c (1-i)) (n.c i).next (n.g (1-i)) b)(x:LX (n.c (1-i)) (n.c i) b):mq (n.c i) ((n.c i).receive b).2 (n.c (1-i)) num fs:=by
 have r:1-i<2:=I;have A:1-(1-i)=i:=I;have rc:=On d hi;have t:=d.up i hi;obtain⟨C,fs',D,e2,E⟩:=p.dec;rw[hd]at D;cases D;obtain⟨f1,_,F⟩:=Ki hb hd;by_cases v:Hi (n.c i).got.rs (n.c i).got.fl num=true
 .have hc:(n.c i).receive b=((0,-1),n.c i):=by
   unfold CS.receive;rw[AI (by rw[t];simp),hd];simp only;rw[AQ v]
  rw[hc];exact⟨(h.l i hi).under,.inl ⟨v,rfl⟩⟩
 have hc:(n.c i).receive b=(((CS.takes fs { n.c i with got:=(n.c i).got.add num num }).1,-1),(CS.takes fs { n.c i with got:=(n.c i).got.add num num }).2):=by
  unfold CS.receive;rw[AI (by rw[t];simp),hd];simp only;rw[AI v]
 rw[hc];have u:Rc (n.c (1-i)) { n.c i with got:=(n.c i).got.add num num } (n.e (1-i)) (n.e i) (n.g (1-i)) (n.g i):=⟨⟨rc.d1.k,rc.d1.cr⟩,⟨rc.d2.k,rc.d2.cr⟩,⟨rc.so.w,rc.so.kf,rc.so.sp,rc.so.wt⟩,rc.ms.same ⟨rfl,rfl,rfl⟩ rfl,rc.sm⟩;obtain⟨t1,t2,a⟩:=Rc.takes (d.so (1-i) r) fs _ u F E;have l:=h.l i hi;have l2:=h.l (1-i) r;rw[A]at l2;have k:=QP (d.so (1-i) r) fs u F E (λp hp=>((hI.c i hi).fly p hp).2.2.2) (l.bel.ask (Eg.of rfl rfl rfl rfl)) (x.ack num fs hd);have g0:Dt (n.c i) ({ n.c i with got:=(n.c i).got.add num num }:CS):=Dt.of (λk _=>⟨rfl,rfl,rfl,rfl⟩) (λ_ _=>AF _) (AF _);refine⟨⟨k.bel,λq B=>.inl (k.sub q B),⟨Ay a.next.symm,Ay a.now.symm⟩,g0.trans k.grows,λm z=>?_,λj r x=>by show((CS.takes fs _).2.rs j).grant<=_;rw[k.gt j r];exact x,k.cf,λx=>by show(CS.takes fs _).2.got.fl<=_;rw[a.got];exact Ln (hI.c i hi).got.1 (d.got i hi) e2 f1 x,k.lg⟩,.inr ⟨nF v,rfl,k.has,a.got,a.next,a.now⟩⟩;have z:Dk (CS.takes fs { n.c i with got:=(n.c i).got.add num num }).2.got.rs m:=z;rw[a.got]at z;rcases Xc (hI.c i hi).got.1 z with y|y
 .exact .inl y
 refine .inr λq B e f hf cl o s=>?_
 obtain⟨g,hg,s2⟩:=x.bag num fs hd q B I f hf cl s;exact k.has g hg cl o s2
def NS.Links.recvT(h:n.Links)(d:n.Safe)(hi:i<2){b:nG}(t:D4 (n.c i) ((n.c i).receive b).2 (n.c (1-i))):(n.recv i b).2.2.Links:=by
 have e:(n.recv i b).2.2.c=zf (zf n.c i ((n.c i).receive b).2) i (((n.setC i ((n.c i).receive b).2).c i).datagramsOut.2):=rfl;refine h.user d.nums hi (c':=((n.c i).receive b).2.datagramsOut.2) ?_ rfl ⟨rfl,rfl,rfl⟩ t.came (λj hj s d=>?_)
 .rw[e];funext j;by_cases x:j=i
  .subst x;rw[ze,ze,NS.setC_c]
  rw[zd _ _ x,zd _ _ x,zd _ _ x]
 have d:s∈zf (n.setC i ((n.c i).receive b).2).g (1-i) (FX n.now ((n.setC i ((n.c i).receive b).2).c i).datagramsOut.1 (n.g (1-i))).2 j:=d;by_cases x:j=1-i
 .subst x;rw[ze]at d;obtain⟨s',a,_,b,_⟩:=(Pe _ _ _).2 s d;have:=h.dl _ hj s' a;exact .inr I
 rw[zd _ _ x]at d;exact .inl d
def NS.Links.recv(h:n.Links)(a:n.Safe)(hI:n.Inv T)(hi:i<2){b:nG}(hb:b.length<1099511627776)(p:G5 (n.c (1-i)) (n.c i).next (n.g (1-i)) b)(x:LX (n.c (1-i)) (n.c i) b):(n.recv i b).2.2.Links:=by
 obtain⟨num,fs,hd,_⟩:=p.dec;exact h.recvT a hi (h.rcv a hI hi hb hd p x).trn
def NS.Links.carry(h:n.Links)(d:n.Safe)(hI:n.Inv T)(s:Do):(n.carry s).2.Links:=by
 unfold NS.carry;split
 .exact h
 rename_i hb;have hk:Db s.a n.bag.length<n.bag.length:=En _ _ (BM.2 hb);have g:n.bag.getD (Db s.a n.bag.length) (0,[])∈n.bag:=by simp[List.getD,hk]
 obtain⟨e,i⟩:=d.bag _ g;have lx:=h.bg _ g;obtain⟨_,q3,q4⟩:=hI.bag _ g;generalize Db s.a n.bag.length=k at *;generalize n.bag.getD k (0,[])=f at *;unfold NS.carryK;split
 .split
  .exact(h.drop k).recv (d.drop k) (hI.drop k) e I i lx
  exact h.recv d hI e I i lx
 split
 .exact h.drop k
 split
 .have hd:=Ut i.sealed (En s.b _ q3) (TG s.s);have hc:(n.c f.1).receive (IA f.2 (Db s.b f.2.length) (IY s.s))=((7,-1),n.c f.1):=by
   unfold CS.receive;rw[AI (by rw[d.up f.1 e];simp),hd]
  exact h.recvT d e (by rw[hc];exact(h.l f.1 e).under)
 exact h
def NS.Links.step(h:n.Links)(b:n.Safe)(hI:n.Inv T)(hT:T+401<=Dg)(s:Do):(n.step s).2.Links:=by
 have a:=b.nums;unfold NS.step;split
 .exact h.send a (Gw _) _
 split
 .exact h.finish a (Gw _)
 split
 .exact h.reset a (Gw _) _
 split
 .exact h.datagram a (Gw _) s
 split
 .exact(h.tick a hI).carry b.tick hI.tick s
 split
 .exact h.flush b hI I (Gw _)
 split
 .exact h.read a (Gw _) _
 exact h.carry b hI s
theorem NS.Links.new{mtu window total:Nat}(hw:window<=4096):(NS.new mtu window total).Links:=by
 have l:EL ⟨[],0,2048⟩ 0:=⟨It _ I,rfl,λj hj=>absurd hj (A5 j),by show 1025<=2048;omega⟩;have w:EV (WS.new window):=⟨l,l,AM _,AM _,AM _⟩;have no:∀{m H p:Nat},¬Dk (⟨[],H,m⟩:Dl).rs p:=λ⟨i,hi,_⟩=>absurd hi (A5 i)
 have b:Di (CS.new mtu window total) (CS.new mtu window total) (CS.new mtu window total).Under:=by
  refine⟨λk _=>w,λk _ p c=>absurd c (no (m:=2048) (H:=0)),λcl o a=>.inl ?_⟩;cases cl with
  | byte k p=>exact absurd a (no (m:=2048) (H:=0))
  | fin k=>cases a
  | tell k n=>cases a.1
  | lim k n =>
   obtain⟨_,a⟩:=a;exact Ay (Eq.symm a)
  | all n =>
   obtain⟨_,a⟩:=a;exact Ay (Eq.symm a)
 exact⟨λi _=>⟨b,λq d=>(nomatch d),λq d=>(nomatch d),AF _⟩,λp c=>(nomatch c),λi _ s hs=>(nomatch hs),λi _ k _=>AJ hw mu,λ_ _=>⟨rfl,rfl⟩,λ_ _=>AF _⟩
theorem Vo(e:List Int):∀(l:List Do) {T B:Nat} {n:NS},Us e l->n.Safe->n.Inv T->n.Links->T+401*l.length<=B->B<=Dg->∃n',NS.plays e l n=some n'/\n'.Safe/\n'.Inv B/\n'.Links
 | [],T,B,n,_,h,hI,k,hT,_=>⟨n,rfl,h,hI.mono (by rw[Ad]at hT;omega),k⟩
 | s::l,T,B,n,HS,h,hI,k,hT,hB=>by
  rw[AR,Nat.mul_succ 401 l.length]at hT;have f:=fun{i:Nat} {n':NS} (a:n'.Safe) (b:n'.Inv i) (c:n'.Links)=>Vo e l (T:=i) (B:=B) (n:=n') (λq hq=>HS q (AW _ hq)) a b c
  generalize 401*l.length=q at *;have g:T+401<=B/\T+q<=B/\T+401+q<=B:=by clear f hB h hI HS;omega
  have d:=AJ g.1 hB;unfold NS.plays;split
  .exact f h hI k g.2.1 hB
  rename_i hw;obtain⟨s1,s2⟩:=HS s AO (nF hw) T n h hI d;rw[AQ s1];exact f s2 (hI.step s d) (k.step h hI d s) g.2.2 hB
def St(s:Nat){y:RS}(h1:y.anew=(c.rs s).anew)(h2:y.grant=(c.rs s).grant):∀k,k<8->(zf c.rs s y k).anew=(c.rs k).anew/\(zf c.rs s y k).grant=(c.rs k).grant:=λk _=>by
 by_cases e:k=s
 .subst e;rw[ze];exact⟨h1,h2⟩
 rw[zd _ _ e];exact⟨rfl,rfl⟩
def Um(h:f.kind≠2):(c.take f).2.flight=c.flight/\(c.take f).2.largest=c.largest/\(c.take f).2.answer=c.answer/\(c.take f).2.now=c.now/\(c.take f).2.next=c.next/\D6 c (c.take f).2:=by
 unfold CS.take;rw[AI h];split
 .unfold CS.resetAt;split
  .exact⟨rfl,rfl,rfl,rfl,rfl,D6.of rfl⟩
  exact⟨rfl,rfl,rfl,rfl,rfl,D6.of rfl (St _ rfl rfl)⟩
 split
 .unfold CS.data;split
  .exact⟨rfl,rfl,rfl,rfl,rfl,D6.of rfl⟩
  split
  .exact⟨rfl,rfl,rfl,rfl,rfl,D6.of rfl⟩
  exact⟨rfl,rfl,rfl,rfl,rfl,D6.of rfl (St _ rfl rfl)⟩
 split
 .exact⟨rfl,rfl,rfl,rfl,rfl,D6.of rfl⟩
 split
 .refine⟨rfl,rfl,rfl,rfl,rfl,λk _=>?_,λ_ _=>⟨rfl,rfl⟩,rfl,rfl⟩;show(∀p,Dk (c.ws k).sent.rs p->Dk (zf c.ws f.stream.toNat _ k).sent.rs p)/\(zf c.ws f.stream.toNat _ k).ending=_/\(zf c.ws f.stream.toNat _ k).telling=_;by_cases e:k=f.stream.toNat
  .subst e;rw[ze];exact⟨λ_=>id,rfl,rfl⟩
  rw[zd _ _ e];exact⟨λ_=>id,rfl,rfl⟩
 split
 .unfold CS.message;split<;>exact⟨rfl,rfl,rfl,rfl,rfl,D6.of rfl⟩
 split<;>exact⟨rfl,rfl,rfl,rfl,rfl,D6.of rfl⟩
structure Fl(m0:Nat)(B:List Dc)(A:List Dc)(c:CS):Prop where
 fl:c.flight=A++B
 b:∀q∈B,m0<=q.n/\q.at_=c.now
 lg:c.largest<=m0
 nx:m0<=c.next
structure ml(m0:Nat)(B A:List Dc)(b b':CS)(fs:List Da):Prop where
 f:∃A',Fl m0 B A' b'/\∀q∈A',q∈A/\∀f∈fs,f.kind=2->D2 f.rngs q=false
 ans:b'.answer=(b.answer||Ey fs)
 now:b'.now=b.now
theorem Ss{m0:Nat}{B A:List Dc}{b:CS}(h:Fl m0 B A b)(hf:f.kind=2->0<f.rngs.length/\∀r∈f.rngs,r.2<m0)(ok:(b.take f).1=0):∃A',Fl m0 B A' (b.take f).2/\(∀q∈A',q∈A/\(f.kind=2->D2 f.rngs q=false))/\(b.take f).2.answer=b.answer/\(b.take f).2.now=b.now:=by
 by_cases e:f.kind=2
 .obtain⟨h1,h2⟩:=hf e;have hi:=h2 _ (AV (Gn h1));simp only at hi;have hx:¬b.next<=DX f.rngs 0:=nC h.nx;have et:b.take f=b.acked f.rngs:=by unfold CS.take;rw[AQ e]
  rw[et];obtain⟨a1,a2,i,a4,_⟩:=Ng hx;obtain⟨l,e1,e2⟩:=Vv hx;have lg:=h.lg;have hB:(B.filter λp => !D2 f.rngs p).filter l=B:=by
   have q1:B.filter (λp => !D2 f.rngs p)=B:=CQ.2 λq g=>by
    cases hm:D2 f.rngs q with
    | false=>rfl
    | true =>
     have:=Py h2 (Qe hm);have:=(h.b q g).1;omega
   rw[q1];exact CQ.2 λq g=>by
    obtain⟨x,y⟩:=h.b q g;rw[e2,Aw I,Aw I];rfl
  refine⟨(A.filter λp => !D2 f.rngs p).filter l,⟨by rw[e1,h.fl,Bz,Bz,hB],λq g=>by rw[i];exact h.b q g,by rw[a1];omega,by rw[a4];exact h.nx⟩,λq g=>?_,a2,i⟩;obtain⟨x,y⟩:=BI.1 (BI.1 g).1;exact⟨x,λ_=>nF y⟩
 obtain⟨a,b1,c,d,d2,_⟩:=Um (c:=b) e;exact⟨A,⟨a.trans h.fl,λq g=>by rw[d];exact h.b q g,by rw[b1];exact h.lg,by rw[d2];exact h.nx⟩,λq g=>⟨g,λx=>absurd x e⟩,c,d⟩
theorem TC{m0:Nat}{B:List Dc}:∀(fs:List Da) {b:CS} {A:List Dc},Fl m0 B A b->(∀f∈fs,f.kind=2->0<f.rngs.length/\∀r∈f.rngs,r.2<m0)->(CS.takes fs b).1=0->ml m0 B A b (CS.takes fs b).2 fs
 | [],b,A,h,_,_=>⟨⟨A,h,λq a=>⟨a,λf hf=>(nomatch hf)⟩⟩,by show b.answer=(b.answer||false);rw[Bool.or_false],rfl⟩
 | f::fs,b,A,h,hf,ok=>by
  unfold CS.takes at ok ⊢;by_cases e:(b.take f).1=0
  .rw[AI (by rw[e];simp)]at ok ⊢;obtain⟨A1,h1,s1,a1,n1⟩:=Ss h (hf f AO) e;have h2:Fl m0 B A1 { (b.take f).2 with answer:=(b.take f).2.answer||f.kind != 2 }:=⟨h1.fl,h1.b,h1.lg,h1.nx⟩;obtain⟨⟨A2,h3,c⟩,a3,n3⟩:=TC fs h2 (λg hg=>hf g (AW _ hg)) ok;refine⟨⟨A2,h3,λq a=>⟨(s1 q (c q a).1).1,λg hg k=>?_⟩⟩,?_,n3.trans n1⟩
   .rcases Av.1 hg with x|x
    .subst x;exact(s1 q (c q a).1).2 k
    exact(c q a).2 g x k
   rw[a3];show((b.take f).2.answer||f.kind != 2||Ey fs)=(b.answer||Ey (f::fs));rw[a1,Bool.or_assoc];rfl
  rw[AQ e]at ok;exact absurd ok e
variable{Ea Eb:Nat->EN}{Ga Gb:List SN}
theorem VK{a:CS}(j:Dw a Ga){m0:Nat}{B:List Dc}:∀(fs:List Da) {b:CS} {A:List Dc},Rc a b Ea Eb Ga Gb->(∀f∈fs,Ez f)->(∀f∈fs,FU a b.next Ga f)->(∀p∈b.flight,∀g∈p.fs,FS g)->Di b a b.Under ->
  (∀f∈fs,f.kind=2->∀p∈b.flight,D2 f.rngs p=true->∀g∈p.fs,Fe a g)->Fl m0 B A b->(∀f∈fs,f.kind=2->0<f.rngs.length/\∀r∈f.rngs,r.2<m0)->(∀q∈A,∃f fs',fs=f::fs'/\f.kind=2/\D2 f.rngs q=true)->D6 b (CS.takes fs b).2
 | [],b,A,_,_,_,_,_,_,_,_,_=>D6.of rfl
 | f::fs,b,A,h,hr,ho,hs,hb,hn,hF,hk,hA=>by
  obtain⟨m,e2,e3⟩:=h.take j (hr f AO) (ho f AO);have t:=SW h j (hr f AO) (ho f AO) hs hb (hn f AO);obtain⟨A1,h1,s1,a1,n1⟩:=Ss hF (hk f AO) m;have m1:D6 b (b.take f).2:=by
   by_cases e:f.kind=2
   .obtain⟨k1,k2⟩:=hk f AO e;have hi:=k2 _ (AV (Gn k1));simp only at hi;have hx:¬b.next<=DX f.rngs 0:=nC hF.nx;have et:b.take f=b.acked f.rngs:=by unfold CS.take;rw[AQ e]
    rw[et];refine(hb.acked h.d2.top hx hs (hn f AO e)).2 λp d no=>?_
    rw[hF.fl]at d;have:=hF.lg;rcases Al.1 d with x|x
    .obtain⟨g,gs,k,_,y⟩:=hA p x;cases k;rw[no]at y;cases y
    have:=hF.b p x;omega
   exact(Um e).2.2.2.2.2
  obtain⟨c,hc⟩:∃c,({ (b.take f).2 with answer:=(b.take f).2.answer||f.kind != 2 }:CS)=c:=⟨_,rfl⟩;have l:Di c a c.Under/\c.flight=(b.take f).2.flight/\c.next=(b.take f).2.next/\D6 (b.take f).2 c/\Fl m0 B A1 c:=by
   rw[<-hc];exact⟨t.bel.ask (Eg.of rfl rfl rfl rfl),rfl,rfl,D6.of rfl,⟨h1.fl,h1.b,h1.lg,h1.nx⟩⟩
  obtain⟨l,n,b5,b6,b7⟩:=l;have h2:=e2.answer ((b.take f).2.answer||f.kind != 2);rw[hc]at h2;have i:=VK j fs h2 (λg hg=>hr g (AW _ hg)) (λg hg=>by rw[b5,e3.next];exact ho g (AW _ hg)) (λp d=>hs p (t.sub p (by rw[<-n];exact d))) l
   (λg hg e p d=>hn g (AW _ hg) e p (t.sub p (by rw[<-n];exact d))) b7 (λg hg=>hk g (AW _ hg)) (λq hq=>by
    obtain⟨x,y⟩:=s1 q hq;obtain⟨g,gs,k,k2,z⟩:=hA q x;cases k;rw[y k2]at z;cases z)
  unfold CS.takes;rw[AI (by rw[m];simp),hc];exact m1.trans (b6.trans i)
theorem XW(h:s.Ok){n:Nat}(hn:n<=zF)(d:∀r∈s.rs,r.2<n)(hf:s.fl<=n):∃pre lo,(s.add n n).rs=pre++[(lo,n)]/\lo<=n/\(∀pre0 lo0,s.rs=pre0++[(lo0,n-1)]->lo<=lo0)/\(s.add n n).fl<=n+1:=by
 have hb:n<18446744073709551616:=by unfold zF at hn;omega
 have s1:=zT (D0 s.rs n) s.rs.length;have s2:=zT (EF s.rs n) s.rs.length;have hm:max n s.fl=n:=I;have at_:∀i,i<s.rs.length->DZ s.rs i<=DX s.rs i/\DX s.rs i<n:=λi hi=>⟨(h.wf.1 i hi).1,d _ (AV (Gn hi))⟩
 have f:zW (EF s.rs n) s.rs.length=s.rs.length:=by
  refine Rb ⟨AF _,λq=>?_,λq=>absurd q (Nat.lt_irrefl _)⟩ (WN h.wf);have:=at_ (s.rs.length-1) I;unfold EF;exact Aw I
 rw[f]at s2;have hft:=Jo h.wf (AF n) s1 s2;obtain⟨X,g⟩:∃X,X=EI s.rs n n (zW (D0 s.rs n) s.rs.length) s.rs.length:=⟨_,rfl⟩;have eX:X=s.rs.take (zW (D0 s.rs n) s.rs.length)++[EM s.rs n n (zW (D0 s.rs n) s.rs.length) s.rs.length]:=by
  rw[g];unfold EI;rw[CE]
 have hA:(EM s.rs n n (zW (D0 s.rs n) s.rs.length) s.rs.length).2=n/\(EM s.rs n n (zW (D0 s.rs n) s.rs.length) s.rs.length).1<=n/\∀pre0 lo0,s.rs=pre0++[(lo0,n-1)]->(EM s.rs n n (zW (D0 s.rs n) s.rs.length) s.rs.length).1<=lo0:=by
  unfold EM;split
  .rename_i q;have a1:=at_ (s.rs.length-1) I;refine⟨by show max n _=n;omega,Bu _ _,λpre0 lo0 e=>?_⟩;have hl:s.rs.length=pre0.length+1:=by rw[e];simp
   have lo:DZ s.rs pre0.length=lo0:=by rw[e];unfold DZ;simp
   have mono:=(Ko h.wf (I:zW (D0 s.rs n) s.rs.length<=pre0.length) I).1;show min n _<=lo0;omega
  rename_i q;refine⟨rfl,AF _,λpre0 lo0 e=>?_⟩;have hl:s.rs.length=pre0.length+1:=by rw[e];simp
  have hi:DX s.rs pre0.length=n-1:=by rw[e];unfold DX;simp
  have a1:=at_ pre0.length I;have x:=s1.2.1 I;rw[(I:zW (D0 s.rs n) s.rs.length-1=pre0.length)]at x;have:=of_decide_eq_false (show decide (n<=DX s.rs pre0.length+1)=false from x);omega
 generalize EM s.rs n n (zW (D0 s.rs n) s.rs.length) s.rs.length=r at *;obtain⟨lo,hi⟩:=r;obtain⟨rfl,a,b⟩:=hA;unfold Dl.add;rw[hm,AI (Nat.lt_irrefl _),f,<-g,eX];have c:=h.most;have hrl:=h.rl;split
 .rename_i q;rw[AG,Af]at q;obtain⟨x,l,hl⟩:∃x l,s.rs.take (zW (D0 s.rs hi) s.rs.length)=x::l:=by
   cases hl:s.rs.take (zW (D0 s.rs hi) s.rs.length)with
   | nil=>rw[hl]at q;simp only[Ad]at q;omega
   | cons x l=>exact⟨x,l,rfl⟩
  rw[hl];have hx:x∈s.rs:=BP (i:=zW (D0 s.rs hi) s.rs.length) (by rw[hl];exact AO);have:=d x hx;exact⟨l,lo,rfl,a,b,by show x.2+1<=_;omega⟩
 exact⟨_,lo,rfl,a,b,by show s.fl<=_;omega⟩
def Pt(rs:zC)(m e:Nat):Prop:=∃pre lo,rs=pre++[(lo,e)]/\lo<=m
structure Pk(n:NS)(p:Nat×nG):Prop where
 lt:p.1<2
 len:p.2.length<=400
 pos:0<p.2.length
 safe:G5 (n.c (1-p.1)) (n.c p.1).next (n.g (1-p.1)) p.2
 lx:LX (n.c (1-p.1)) (n.c p.1) p.2
def NS.Safe.withBag(h:n.Safe){l:List (Nat×nG)}(hl:∀p∈l,Pk n p):NS.Safe { n with bag:=l }:=⟨h.d,h.so,h.gr,h.dg,h.now,h.mtu,h.ct,h.got,λp a=>⟨(hl p a).lt,(hl p a).safe⟩,h.up⟩
def NS.Links.withBag(h:n.Links){l:List (Nat×nG)}(hl:∀p∈l,Pk n p):NS.Links { n with bag:=l }:=⟨h.l,λp hp=>(hl p hp).lx,h.dl,h.gb,h.cf,h.fl⟩
def NS.Inv.withBag(h:n.Inv T){l:List (Nat×nG)}(hl:∀p∈l,Pk n p)(a:l.length<=32*T):NS.Inv T { n with bag:=l }:=⟨h.mtu,h.win,h.c,h.e,h.now,h.next,h.count,h.gl,h.g,a,λp b=>⟨(hl p b).lt,(hl p b).pos,(hl p b).len⟩⟩
def IW(n n':NS):Prop:=∀j,∀s∈n'.g j,∃s0∈n.g j,s0.dl=s.dl
def IW.refl(n:NS):IW n n:=λ_ s hs=>⟨s,hs,rfl⟩
def IW.trans{a b c:NS}(h:IW a b)(k:IW b c):IW a c:=λj s hs=>by
 obtain⟨s1,h1,e1⟩:=k j s hs;obtain⟨s0,h0,e0⟩:=h j s1 h1;exact⟨s0,h0,e0.trans e1⟩
structure Lq(m0 m1 m:Nat)(B A:List Dc)(L:List (List Da))(c c':CS):Prop where
 has:∀fs∈L,∀f∈fs,Fe c' f
 grows:Dt c c'
 fl:∃A',Fl m0 B A' c'/\∀q∈A',q∈A/\∀fs∈L,∀f∈fs,f.kind=2->D2 f.rngs q=false
 ans:c'.answer=(c.answer||L.any Ey)
 top:m1=m+L.length\/(m1<m+L.length/\Pt c'.got.rs m1 (m+L.length-1))
 rd:∀k,k<8->(c'.rs k).read=(c.rs k).read/\(c'.rs k).state=(c.rs k).state
 more:(∀q∈A,∃f fs' L',L=(f::fs')::L'/\f.kind=2/\D2 f.rngs q=true)->D6 c c'
 nx:c'.next=c.next
 wf:∀k,k<8->Ed (c.ws k) (c'.ws k)
variable{m1:Nat}
def Lq.trans{m0:Nat}{B A n:List Dc}{L:List (List Da)}{c1:CS}(h:Lq m0 m1 m B A [fs] c c1)(i:∀q∈n,q∈A/\∀gs ∈ [fs],∀f∈gs,f.kind=2->D2 f.rngs q=false)(k:Lq m0 m1 (m+1) B n L c1 c'):Lq m0 m1 m B A (fs::L) c c':=by
 refine⟨λgs hg f hf cl o s=>?_,h.grows.trans k.grows,?_,?_,?_,λj b=>⟨(k.rd j b).1.trans (h.rd j b).1,(k.rd j b).2.trans (h.rd j b).2⟩,λa=>?_,k.nx.trans h.nx,λj b=>(h.wf j b).trans (k.wf j b)⟩
 .rcases Av.1 hg with e|e
  .exact k.grows cl o (h.has gs (Ag.2 e) f hf cl o s)
  exact k.has gs e f hf cl o s
 .obtain⟨A',f1,l⟩:=k.fl;refine⟨A',f1,λq d=>⟨(i q (l q d).1).1,λgs hg f hf e=>?_⟩⟩;rcases Av.1 hg with x|x
  .exact(i q (l q d).1).2 gs (Ag.2 x) f hf e
  exact(l q d).2 gs x f hf e
 .rw[k.ans,h.ans];simp[Bool.or_assoc]
 .have:=k.top;rw[AR,(I:m+(L.length+1)=m+1+L.length)];exact this
 refine(h.more λq d=>?_).trans (k.more λq d=>?_)
 .obtain⟨f,g,L',e,x⟩:=a q d;cases e;exact⟨f,g,[],rfl,x⟩
 obtain⟨x,y⟩:=i q d;obtain⟨f,g,L',e,k2,z⟩:=a q x;cases e;rw[y _ (Ag.2 rfl) f AO k2]at z;cases z
def iB{b:CS}(h:Fe b (zs f)):Fe b f:=λcl o s=>h cl o (VN s)
def jr(fs:List Da):Ey (fs.map zs)=Ey fs:=by
 unfold Ey;rw[List.any_map];congr 1;funext f;show((zs f).kind != 2)=_;rw[Gq]
def Rk(h:f.kind=2):(zs f).rngs=f.rngs:=by simp[zs,h]
def Y6(d:n.Safe)(hI:n.Inv T)(hl:n.Links)(hT:T+400<=Dg){m0:Nat}{x:nG}{A B:List Dc}(h:Pk n (i,x))(hd:dec x=.ok m (fs.map zs))(hg:(∀r∈(n.c i).got.rs,r.2<m)/\(n.c i).got.fl<=m)(ht:m1=m\/(m1<m/\Pt (n.c i).got.rs m1 (m-1)))(K:Fl m0 B A (n.c i))(hk:∀f∈fs,f.kind=2->∀r∈f.rngs,r.2<m0):∃n',n.recv i x=(0,true,n')/\n'.Safe/\n'.Inv (T+400)/\n'.Links/\n'.c (1-i)=n.c (1-i)/\n'.now=n.now/\n'.bag=n.bag/\(n'.window=n.window/\n'.total=n.total/\IW n n')/\(∀p,Pk n p->Pk n' p)/\Lq m0 m1 m B A [fs] (n.c i) (n'.c i)/\((∀r∈(n'.c i).got.rs,r.2<m+1)/\(n'.c i).got.fl<=m+1):=by
 have hi:=h.lt;have y:1-i<2:=I;have e11:1-(1-i)=i:=I;have t:=h.len;have t:x.length<=400:=t;obtain⟨r1,r2,r3⟩:=d.recv hI hi (b:=x) I h.safe;have r4:=hl.recv d hI hi (b:=x) I h.safe h.lx;have r5:=(hI.recv i x I).mono (I:T+x.length<=T+400);have R:=hl.rcv d hI hi (b:=x) I hd h.safe h.lx;obtain⟨W,fs',X,P,fr⟩:=h.safe.dec;rw[hd]at X;cases X;obtain⟨f1,_,L⟩:=Ki (I:x.length<1099511627776) hd;have rc:=On d hi;have hh:Hi (n.c i).got.rs (n.c i).got.fl m=false:=by
  unfold Hi;rw[Aw I,DA];exact CZ.2 λr M=>by
   have:=hg.1 r M;simp;omega
 obtain⟨Y,_⟩|⟨_,Z,q2,Q,q4,q5⟩:=R.ok
 .rw[hh]at Y;cases Y
 have C:Rc (n.c (1-i)) { n.c i with got:=(n.c i).got.add m m } (n.e (1-i)) (n.e i) (n.g (1-i)) (n.g i):=⟨⟨rc.d1.k,rc.d1.cr⟩,⟨rc.d2.k,rc.d2.cr⟩,⟨rc.so.w,rc.so.kf,rc.so.sp,rc.so.wt⟩,rc.ms.same ⟨rfl,rfl,rfl⟩ rfl,rc.sm⟩;have t1:=(Rc.takes (d.so (1-i) y) _ _ C L fr).1;have E:∀f∈fs.map zs,f.kind=2->0<f.rngs.length/\∀r∈f.rngs,r.2<m0:=λf hf e=>by
  refine⟨(L f hf).rngs2 e,?_⟩;obtain⟨g,hg,rfl⟩:=BQ.1 hf;rw[Gq]at e;rw[Rk e];exact hk g hg e
 have F:Fl m0 B A ({ n.c i with got:=(n.c i).got.add m m }:CS):=⟨K.fl,K.b,K.lg,K.nx⟩;obtain⟨⟨A',g1,g2⟩,S,g4⟩:=TC (fs.map zs) F E t1;have l:=hl.l i hi;have fly:∀p∈(n.c i).flight,∀g∈p.fs,FS g:=λp h=>((hI.c i hi).fly p h).2.2.2
 have k:=QP (d.so (1-i) y) _ C L fr fly (l.bel.ask (Eg.of rfl rfl rfl rfl)) (h.lx.ack m _ hd);have mo:=λa=>VK (d.so (1-i) y) _ C L fr fly (l.bel.ask (Eg.of rfl rfl rfl rfl)) (h.lx.ack m _ hd) F E a
 have tp:=XW (hI.c i hi).got.1 f1 hg.1 hg.2;rw[<-Z]at g1 S mo k;obtain⟨c',G⟩:∃c',c'=((n.c i).receive x).2:=⟨_,rfl⟩;have en:(n.recv i x).2.2.c i=c'.datagramsOut.2:=by
  rw[G];show zf (zf n.c i _) i _ i=_;rw[ze,NS.setC_c]
 have eo:(n.recv i x).2.2.c (1-i)=n.c (1-i):=by
  show zf (zf n.c i _) i _ (1-i)=_;rw[zd _ _ (I:1-i≠i),zd _ _ (I:1-i≠i)]
 rw[<-G]at R Z q2 Q q4 q5 g1 S mo k;have gd:Dt c' c'.datagramsOut.2:=Dt.of (λk _=>⟨rfl,rfl,rfl,rfl⟩) (λ_ _=>AF _) (AF _);have v:(n.recv i x).2.2.c i=c'.datagramsOut.2->((n.recv i x).2.2.c i).got=(n.c i).got.add m m:=λe=>by rw[e];exact Q
 refine⟨(n.recv i x).2.2,Prod.ext r1 (Prod.ext r2 rfl),r3,r5,r4,eo,rfl,rfl,⟨rfl,rfl,λj s d=>?_⟩,λp q=>?_,?_,λr M=>?_,?_⟩
 .have d:s∈zf (n.setC i ((n.c i).receive x).2).g (1-i) (FX n.now ((n.setC i ((n.c i).receive x).2).c i).datagramsOut.1 (n.g (1-i))).2 j:=d;by_cases z:j=1-i
  .subst z;rw[ze]at d;obtain⟨s',a,_,b,_⟩:=(Pe _ _ _).2 s d;exact⟨s',a,b.symm⟩
  rw[zd _ _ z]at d;exact⟨s,d,rfl⟩
 .have N:=d.withBag (l:=[p]) (λz H=>by rw[Ag.1 H];exact q);have NL:=hl.withBag (l:=[p]) (λz H=>by rw[Ag.1 H];exact q);have NI:=(hI.mono (Bv T)).withBag (l:=[p]) (λz H=>by rw[Ag.1 H];exact q) my;have a:=(N.recv NI hi (b:=x) I h.safe).2.2.bag p (Ag.2 rfl);have b:=(NL.recv N NI hi (b:=x) I h.safe h.lx).bg p (Ag.2 rfl);exact⟨q.lt,q.len,q.pos,a.2,b⟩
 .rw[en];refine⟨λgs D f hf=>?_,R.trn.gr.trans gd,⟨A',⟨g1.fl,g1.b,g1.lg,g1.nx⟩,λq O=>⟨(g2 q O).1,λgs D f hf e=>?_⟩⟩,?_,?_,k.rd,λa=>?_,q4,k.wf⟩
  .rw[Ag.1 D]at hf;exact iB λcl o s=>gd cl o (q2 _ (BQ.2 ⟨f,hf,rfl⟩) cl o s)
  .rw[Ag.1 D]at hf;have:=(g2 q O).2 _ (BQ.2 ⟨f,hf,rfl⟩) (by rw[Gq];exact e);rw[Rk e]at this;exact this
  .show c'.answer=_;rw[S,jr];simp
  .refine .inr ?_;show m1<m+1/\Pt c'.got.rs m1 (m+1-1);rw[Q];obtain⟨pre,lo,u1,u2,u3,_⟩:=tp;rcases ht with e|⟨e,J,V,v1,v2⟩
   .exact⟨I,pre,lo,by rw[u1];rfl,I⟩
   have:=u3 J V v1;exact⟨I,pre,lo,by rw[u1];rfl,I⟩
  have:=mo λq O=>by
   obtain⟨f,gs,L',e,P,e3⟩:=a q O;cases e;exact⟨zs f,gs.map zs,rfl,by rw[Gq];exact P,by rw[Rk P];exact e3⟩
  exact D6.trans ⟨this.w,this.r,this.g⟩ (D6.of rfl)
 .rw[v en]at M;have:=Qr (hI.c i hi).got.1 (B:=m) (lo:=m) (hi:=m) (λj y=>by have:=hg.1 _ (AV (Gn y));simp only at this;omega) (AF _) f1;obtain⟨j,y,_,e⟩:=I5 M;have:=this j y;omega
 rw[v en];obtain⟨_,_,_,_,_,u⟩:=tp;exact u
theorem Rj{m0:Nat}{B:List Dc}:∀(L:List (List Da)) {m:Nat} {xs:List nG} {n:NS} {ok:Bool} {T:Nat} {A:List Dc},Oa m L xs->n.Safe->n.Inv T->n.Links->T+400*L.length<=Dg->(∀x∈xs,Pk n (i,x))->(∀r∈(n.c i).got.rs,r.2<m)/\(n.c i).got.fl<=m->(m1=m\/(m1<m/\Pt (n.c i).got.rs m1 (m-1)))->Fl m0 B A (n.c i)->(∀fs∈L,∀f∈fs,f.kind=2->∀r∈f.rngs,r.2<m0) ->
  ∃n',NS.recvs (xs.map λx=>(i,x)) n ok=(ok,n')/\n'.Safe/\n'.Inv (T+400*L.length)/\n'.Links/\n'.c (1-i)=n.c (1-i)/\n'.now=n.now/\n'.bag=n.bag/\(n'.window=n.window/\n'.total=n.total/\IW n n')/\(∀p,Pk n p->Pk n' p)/\Lq m0 m1 m B A L (n.c i) (n'.c i)
 | [],m,xs,n,ok,T,A,ho,hs,hI,hl,hT,hx,hg,ht,hF,hk=>by
  rw[show xs=[]from ho];exact⟨n,rfl,hs,hI,hl,rfl,rfl,rfl,⟨rfl,rfl,IW.refl n⟩,λ_=>id,⟨λfs hf=>(nomatch hf),Dt.refl _,⟨A,hF,λq hq=>⟨hq,λfs hf=>(nomatch hf)⟩⟩,mv,ht,λ_ _=>⟨rfl,rfl⟩,λ_=>D6.of rfl,rfl,λ_ _=>Ed.refl _⟩⟩
 | fs::L,m,xs,n,ok,T,A,ho,hs,hI,hl,hT,hx,hg,ht,hF,hk=>by
  obtain⟨x,ys,rfl,hd,a⟩:=ho;rw[AR,Nat.mul_succ]at hT;obtain⟨n1,e1,s1,i1,l1,c1,w1,b1,b,h,d,g1⟩:=Y6 hs hI hl (AJ (show T+400<=T+(400*L.length+400)by clear hT;omega) hT) (hx x AO) hd hg ht hF (hk fs AO);obtain⟨A1,F1,S1⟩:=d.fl;have t1:=d.top;simp only[Af,CF]at t1;obtain⟨n2,e2,s2,i2,l2,c2,w2,b2,e,k2,v2⟩:=Rj L (ok:=ok) a s1 i1 l1 (AJ (show T+400+400*L.length<=T+(400*L.length+400)by clear hT;omega) hT) (λz hz=>h _ (hx z (AW _ hz))) g1 t1 F1 (λgs g=>hk gs (AW _ g));refine⟨n2,?_,s2,i2.mono (by rw[AR,Nat.mul_succ];clear hT;omega),l2,c2.trans c1,w2.trans w1,b2.trans b1,⟨e.1.trans b.1,e.2.1.trans b.2.1,b.2.2.trans e.2.2⟩,λp q=>k2 p (h p q),d.trans S1 v2⟩;rw[Bq];show NS.recvs _ (n.recv i x).2.2 (ok&&(n.recv i x).2.1&&(n.recv i x).1==0)=_;rw[e1];have:(ok&&true&&((0:Nat)==0))=ok:=mv;simp only[this];exact e2
def Du(x:RS):RS:=if x.state≠0 then x else{ x with read:=x.readTo 4096,state:=x.stateAt (x.readTo 4096) }
def Y5(h:c.closed=0)(hk:k<8):(c.read (k:Int) (4096:Nat)).2={ c with rs:=zf c.rs k (Du (c.rs k)) }:=by
 have hs:c.stream (k:Int)=0:=by
  unfold CS.stream;rw[AI (by rw[h];simp),AI I]
 unfold CS.read Du;rw[AI (by rw[hs];simp),Ae,Ae];split
 .show c={ c with rs:=zf c.rs k (c.rs k) };rw[Fy]
 rfl
theorem Ul:∀(l:List (Nat×Nat)) {n:NS} {ok:Bool} {T:Nat},l.Nodup->(∀p∈l,p.1<2/\p.2<8)->n.Safe->n.Inv T->n.Links->∃n',NS.reads l n ok=(ok,n')/\n'.Safe/\n'.Inv T/\n'.Links/\(∀i,i<2->n'.c i={ n.c i with rs:=(n'.c i).rs }/\∀k,k<8->(n'.c i).rs k=if (i,k)∈l then Du ((n.c i).rs k)else(n.c i).rs k)/\n'.now=n.now/\n'.bag=n.bag/\n'.window=n.window/\n'.total=n.total/\n'.g=n.g
 | [],n,ok,T,_,_,hs,hI,hl=>⟨n,rfl,hs,hI,hl,λi _=>⟨rfl,λk _=>mv⟩,rfl,rfl,rfl,rfl,rfl⟩
 | p::l,n,ok,T,hd,hp,hs,hI,hl=>by
  obtain⟨p1,p2⟩:=hp p AO;obtain⟨d1,d2⟩:=List.nodup_cons.1 hd;obtain⟨r1,r2⟩:=hs.read p1 p2 4096;have e:(n.read p.1 p.2 4096).2.c=zf n.c p.1 ((n.c p.1).read p.2 (4096:Nat)).2/\(n.read p.1 p.2 4096).2.bag=n.bag/\((n.read p.1 p.2 4096).2.now=n.now/\(n.read p.1 p.2 4096).2.window=n.window/\(n.read p.1 p.2 4096).2.total=n.total)/\(n.read p.1 p.2 4096).2.g=n.g:=by
   unfold NS.read;split;all_goals exact⟨rfl,rfl,⟨rfl,rfl,rfl⟩,rfl⟩
  obtain⟨n',h1,h2,h3,h4,h5,h6,h7,h8,h9,d⟩:=Ul l (ok:=ok&&(n.read p.1 p.2 4096).1) d2 (λq hq=>hp q (AW _ hq)) r2 (hI.read p.1 p.2 4096) (hl.read hs.nums p1 4096);rw[Y5 (hs.up p.1 p1) p2]at e;refine⟨n',?_,h2,h3,h4,λi hi=>?_,h6.trans e.2.2.1.1,h7.trans e.2.1,h8.trans e.2.2.1.2.1,h9.trans e.2.2.1.2.2,d.trans e.2.2.2⟩
  .show NS.reads l _ (ok&&(n.read p.1 p.2 4096).1)=(ok,n');rw[h1,r1,Bool.and_true]
  obtain⟨a,b⟩:=h5 i hi;rw[e.1]at a b;by_cases x:i=p.1
  .subst x;rw[ze]at a b;refine⟨a,λk hk=>?_⟩;rw[b k hk];show(if (p.1,k)∈l then Du (zf (n.c p.1).rs p.2 (Du ((n.c p.1).rs p.2)) k)else zf (n.c p.1).rs p.2 (Du ((n.c p.1).rs p.2)) k)=_;by_cases y:k=p.2
   .subst y;rw[AI (by exact d1),ze,AQ (show(p.1,p.2)∈p::l from AO)]
   rw[zd _ _ y];simp only[Av,show ¬(p.1,k)=p from λq=>y (by rw[<-q]),false_or]
  rw[zd _ _ x]at a b;refine⟨a,λk hk=>?_⟩;rw[b k hk];simp only[Av,show ¬(i,k)=p from λq=>x (by rw[<-q]),false_or]
theorem fE(l a:List (Nat×nG)):∀(n:NS) (ok:Bool),NS.recvs (l++a) n ok=NS.recvs a (NS.recvs l n ok).2 (NS.recvs l n ok).1:=by
 induction l with
 | nil=>intro n ok;rfl
 | cons f l ih=>intro n ok;exact ih _ _
def Jq(c:CS):c.tick.largest=c.largest/\c.tick.answer=c.answer/\c.tick.next=c.next/\c.tick.got=c.got/\c.tick.now=c.now+1/\c.tick.window=c.window/\c.tick.total=c.total/\(∀q∈c.tick.flight,q∈c.flight/\c.now+1<q.at_+6):=by
 have e:c.tick=c.ticked.lose:=rfl;rw[e,Hs];have b:=JE c.ticked.flight c.ticked;refine⟨b.tl.2.2.2.1,b.hd.2.2.2.2.2.2.2.2,b.hd.2.2.2.2.2.2.1,b.hd.2.2.2.2.2.2.2.1,b.hd.2.2.2.1,b.hd.2.1,b.hd.2.2.1,λq hq=>?_⟩;obtain⟨x,y⟩:=BI.1 hq;refine⟨x,?_⟩;have y:(!(decide (q.at_+6<=c.now+1)||decide (q.n+3<=c.largest)))=true:=y;simp only[Bm,BU,Ai]at y;omega
structure IH(n n':NS)(L:Nat->List (List Da))(r:Nat->CS):Prop where
 flu:∀i,i<2->∃o,o.next<=(n.c (1-i)).next+20/\Dt o (n'.c (1-i))/\Mo (n.c i).tick (n.c i).tick.packets.2 o (L i) (n.now+1)
 rv:∀i,i<2->Lq (n.c i).next (n.c (1-i)).next (n.c (1-i)).next (Hh (n.now+1) (n.c i).next (L i)) (n.c i).tick.flight (L (1-i)) (n.c i).tick.packets.2 (r i)
 rd:∀i,i<2->n'.c i={ r i with rs:=(n'.c i).rs }/\∀k,k<8->(n'.c i).rs k=Du ((r i).rs k)
 sr:∃E:Nat->Nat->EN,∀i,i<2->Fc (r i) (r (1-i)) (E i)
 now:n'.now=n.now+1
 cfg:n'.window=n.window/\n'.total=n.total
 gd:IW n n'
 so:∀i,i<2->Dw (n.c i).tick.packets.2 (n.g i)
def fD(v:n.Safe)(hI:n.Inv T)(hl:n.Links)(Z:T+fairC<=Dg)(hb:n.bag=[]):∃n' L r,n.fair1=(true,n')/\n'.Safe/\n'.Inv (T+fairC)/\n'.Links/\n'.bag=[]/\IH n n' L r:=by
 have u:=(VR Z hI v.up hb).1;unfold NS.fair1 at u ⊢;rw[RW hb]at u ⊢;simp only at u ⊢;have Z:T+16803<=Dg:=Z;have aa:T+3+8000<=Dg/\T+3+8000+8000<=Dg/\T+1<=Dg/\T+1+1<=Dg:=by unfold Dg at Z ⊢;omega
 obtain⟨B1,B2,M,N⟩:=aa;have s1:=v.tick;have O:=hI.tick;have l1:=hl.tick v.nums hI;have t0:n.tick.c 0=(n.c 0).tick:=Mw n I;have t1:n.tick.c 1=(n.c 1).tick:=Mw n I;have b1:n.tick.bag=[]:=hb;have w1:n.tick.now=n.now+1:=rfl;obtain⟨a2,s2⟩:=s1.flush O M (I:0<2);have P:=O.flush M (I:0<2);have l2:=l1.flush s1 O M (I:0<2);obtain⟨L0,f0⟩:=l1.flu s1 O M (I:0<2);obtain⟨k0,e0⟩:=NT s1 O M (I:0<2);have y:(n.tick.flush 0).2.c 0=(n.c 0).tick.packets.2:=by rw[e0,<-t0];exact NS.setC_c n.tick 0 (n.tick.c 0).packets.2
 have z:(n.tick.flush 0).2.c 1=(n.c 1).tick:=by rw[e0,<-t1];exact NS.setC_o n.tick (i:=0) I (n.tick.c 0).packets.2
 have b2:(n.tick.flush 0).2.bag=(n.c 0).tick.packets.1.map λx=>(1,x):=by rw[e0,t0];show n.tick.bag++_=_;rw[b1];rfl
 have w2:(n.tick.flush 0).2.now=n.now+1/\(n.tick.flush 0).2.window=n.window/\(n.tick.flush 0).2.total=n.total/\(n.tick.flush 0).2.g=n.g:=by rw[e0];exact⟨rfl,rfl,rfl,rfl⟩
 obtain⟨a3,s3⟩:=s2.flush P N (I:1<2);have i3:=P.flush N (I:1<2);have l3:=l2.flush s2 P N (I:1<2);obtain⟨L1,f1⟩:=l2.flu s2 P N (I:1<2);obtain⟨k1,C⟩:=NT s2 P N (I:1<2);unfold NS.fairA NS.fairB NS.fairC at u ⊢;rw[a2,a3]at u ⊢;have Q:=s2.so 0 I;rw[w2.2.2.2]at Q;have ab:=y;generalize (n.tick.flush 0).2=n2 at *;have w:(n2.flush 1).2.c 1=(n.c 1).tick.packets.2:=by rw[C,<-z];exact NS.setC_c n2 1 (n2.c 1).packets.2
 have ac:(n2.flush 1).2.c 0=(n.c 0).tick.packets.2:=by rw[C,<-y];exact NS.setC_o n2 (i:=1) I (n2.c 1).packets.2
 have b3:(n2.flush 1).2.bag=((n.c 0).tick.packets.1.map λx=>(1,x))++(n.c 1).tick.packets.1.map λx=>(0,x):=by rw[C,z];show n2.bag++_=_;rw[b2]
 have R:(n2.flush 1).2.now=n.now+1/\(n2.flush 1).2.window=n.window/\(n2.flush 1).2.total=n.total/\(n2.flush 1).2.g=n.g:=by rw[C];exact w2
 generalize (n2.flush 1).2=n3 at *;rw[t0,t1,w1]at f0;rw[show 1-1=0 from rfl,y,z,w2.1]at f1;have pk:∀p∈n3.bag,Pk n3 p:=λp h=>⟨(s3.bag p h).1,(i3.bag p h).2.2,(i3.bag p h).2.1,(s3.bag p h).2,l3.bg p h⟩
 obtain⟨t,D⟩:∃t,t=({ n3 with bag:=[] }:NS):=⟨_,rfl⟩;have s4:t.Safe:=by rw[D];exact s3.withBag (λp h=>nomatch h)
 have l4:t.Links:=by rw[D];exact l3.withBag (λp h=>nomatch h)
 have i4:t.Inv (T+3):=by rw[D];exact i3.withBag (λp h=>nomatch h) (AM _)
 have c4:t.c=n3.c:=by rw[D]
 have S:∀p∈n3.bag,Pk t p:=λp h=>by rw[D];exact⟨(pk p h).lt,(pk p h).len,(pk p h).pos,(pk p h).safe,(pk p h).lx⟩
 have V:t.now=n.now+1/\t.window=n.window/\t.total=n.total/\t.bag=[]/\t.g=n.g:=by rw[D];exact⟨R.1,R.2.1,R.2.2.1,rfl,R.2.2.2⟩
 obtain⟨x1,x2,x3,x4,x5,x6,x7,x8⟩:=Jq (n.c 0);obtain⟨y1,y2,y3,y4,y5,y6,y7,y8⟩:=Jq (n.c 1);have o0:=f0.pk.outs;have o1:=f1.pk.outs;have an:∀c:CS,c.acks.2.next=c.next:=λc=>by unfold CS.acks;split<;>rfl
 rw[an]at o0 o1;rw[x3]at o0;rw[y3]at o1;have W:∀{c c2 o:CS} {L:List (List Da)} {m:Nat},Mo c c2 o L (n.now+1)->c.next=m->c.largest<=m->c.now=n.now+1->Fl m (Hh (n.now+1) m L) c.flight c2:=λf C e2 e3=>⟨by rw[f.fl,C],λq hq=>by
  obtain⟨u1,_,u3,_⟩:=Mh _ _ hq;exact⟨u1,by rw[u3,f.now,e3]⟩,by rw[f.lg];exact e2,by rw[f.nx,C];omega⟩
 have g0:=v.got 0 I;have g1:=v.got 1 I;have l0:=f0.len;have l1':=f1.len;obtain⟨n5,e5,s5,i5,l5,c5,w5,ad,E,k5,v5⟩:=Rj (m0:=(n.c 1).next) (m1:=(n.c 0).next) (i:=1) (B:=Hh (n.now+1) (n.c 1).next L1) L0 (n:=t) (ok:=true&&true&&true) (A:=(n.c 1).tick.flight) o0 s4 i4 l4 (AJ I B1) (λx hx=>S _ (by rw[b3];exact CN _ (BQ.2 ⟨x,hx,rfl⟩)))
  (by rw[c4,w,f1.got,y4];exact⟨g1,hl.fl 1 I⟩) (.inl rfl) (by rw[c4,w];exact W f1 y3 (by rw[y1];exact(hl.l 1 I).lg) (by rw[y5,v.now 1 I]))
  (λfs F f hf e r hr=>g0 r (by have:=QO _ r (f0.pk.acks fs F f hf e r hr);rw[x4]at this;exact this))
 have G:n5.c 0=(n.c 0).tick.packets.2:=by rw[show n5.c 0=t.c 0 from c5,c4,ac]
 obtain⟨H,e6,s6,i6,l6,c6,w6,ae,J,k6,v6⟩:=Rj (m0:=(n.c 0).next) (m1:=(n.c 1).next) (i:=0) (B:=Hh (n.now+1) (n.c 0).next L0) L1 (n:=n5) (ok:=true&&true&&true) (A:=(n.c 0).tick.flight) o1 s5 i5 l5 (AJ I B2) (λx hx=>k5 _ (S _ (by rw[b3];exact List.mem_append_right _ (BQ.2 ⟨x,hx,rfl⟩))))
  (by rw[G,f0.got,x4];exact⟨g0,hl.fl 0 I⟩) (.inl rfl) (by rw[G];exact W f0 x3 (by rw[x1];exact(hl.l 0 I).lg) (by rw[x5,v.now 0 I]))
  (λfs F f hf e r hr=>g1 r (by have:=QO _ r (f1.pk.acks fs F f hf e r hr);rw[y4]at this;exact this))
 obtain⟨X,e7,s7,i7,l7,c7,w7,af,K⟩:=Ul Gj (ok:=true&&true&&true) mu mu s6 i6 l6;have er:NS.recvs n3.bag t (true&&true&&true)=(true&&true&&true,H):=by rw[b3,fE,e5];exact e6
 have eF:NS.reads Gj (NS.recvs n3.bag { n3 with bag:=[] } (true&&true&&true)).2 (NS.recvs n3.bag { n3 with bag:=[] } (true&&true&&true)).1=(true,X):=by
  rw[<-D,er];exact e7
 rw[eF]at u ⊢;have Y:H.c 1=n5.c 1:=c6;rw[c4,w]at v5;rw[G]at v6;have rg:∀x:RS,(Du x).came=x.came/\(Du x).ended=x.ended/\(Du x).cut=x.cut/\(Du x).keep=x.keep:=λx=>by unfold Du;split<;>exact⟨rfl,rfl,rfl,rfl⟩
 have g7:∀i,i<2->Dt (H.c i) (X.c i):=λi hi=>by
  obtain⟨a,b⟩:=c7 i hi;have hw:(X.c i).ws=(H.c i).ws/\(X.c i).credit=(H.c i).credit:=by rw[a];exact⟨rfl,rfl⟩
  refine Dt.of (λk hk=>?_) (λk _=>by rw[hw.1];exact AF _) (by rw[hw.2];exact AF _);rw[b k hk];split
  .exact rg _
  exact⟨rfl,rfl,rfl,rfl⟩
 refine⟨X,λi=>if i=0 then L0 else L1,H.c,rfl,s7,u,l7,by rw[af,ae,ad,V.2.2.2.1],?_,?_,λi hi=>?_,⟨H.e,s6.d⟩,by rw[w7,w6,w5,V.1],by rw[K.1,K.2.1,J.1,J.2.1,E.1,E.2.1];exact⟨V.2.1,V.2.2.1⟩,?_,λi hi=>?_⟩
 .intro i hi;rcases(I:i=0\/i=1)with rfl|rfl
  .exact⟨_,by rw[y3];exact DU _ _,f1.gr.trans (v5.grows.trans (by rw[<-Y];exact g7 1 I)),f0⟩
  exact⟨_,by show(n.c 0).tick.packets.2.next<=(n.c 0).next+20;rw[f0.nx,x3];omega,v6.grows.trans (g7 0 I),f1⟩
 rotate_right 2
 .have g5:=E.2.2;have g6:=J.2.2;have a:IW n t:=λj s v=>⟨s,by rw[V.2.2.2.2]at v;exact v,rfl⟩
  exact(a.trans (g5.trans g6)).trans λj s v=>⟨s,by rw[K.2.2]at v;exact v,rfl⟩
 .rcases(I:i=0\/i=1)with rfl|rfl
  .rw[<-ab];exact Q
  rw[<-w,<-R.2.2.2];exact s3.so 1 I
 .intro i hi;rcases(I:i=0\/i=1)with rfl|rfl
  .exact v6
  rw[Y];exact v5
 obtain⟨a,b⟩:=c7 i hi;refine⟨a,λk hk=>?_⟩;rw[b k hk,AQ];unfold Gj;refine BQ.2 ⟨8*i+k,Bn.2 I,?_⟩;rw[(I:(8*i+k) / 8=i),(I:(8*i+k) % 8=k)]
theorem VJ:∀(L:List (List Da)) (n:Nat) {q:Dc},q∈Hh now n L->Ey q.fs=true
 | [],_,_,h=>by cases h
 | fs::L,n,q,h=>by
  rcases Al.1 h with x|x
  .split at x
   .rw[Ag.1 x];assumption
   cases x
  exact VJ L (n+1) x
structure OY(n:NS)(i:Nat)(q:Dc):Prop where
 at_:q.at_=n.now
 lg:(n.c i).largest<=q.n
 has:∀f∈q.fs,Fe (n.c (1-i)) f
 ans:(n.c (1-i)).answer=true
 top:∃pre lo hi,(n.c (1-i)).got.rs=pre++[(lo,hi)]/\lo<=q.n/\q.n<=hi
def Iu(P:Dc->Prop)(n:NS):Prop:=∀i,i<2->∀q∈(n.c i).flight,OY n i q\/P q
def IH.grows{L:Nat->List (List Da)}{r:Nat->CS}(t:IH n n' L r)(hi:i<2):Dt (r i) (n'.c i):=by
 obtain⟨a,b⟩:=t.rd i hi;have rg:∀x:RS,(Du x).came=x.came/\(Du x).ended=x.ended/\(Du x).cut=x.cut/\(Du x).keep=x.keep:=λx=>by unfold Du;split<;>exact⟨rfl,rfl,rfl,rfl⟩
 have d:(n'.c i).ws=(r i).ws/\(n'.c i).credit=(r i).credit:=by rw[a];exact⟨rfl,rfl⟩
 exact Dt.of (λk hk=>by rw[b k hk];exact rg _) (λk _=>by rw[d.1];exact AF _) (by rw[d.2];exact AF _)
def IH.same{L:Nat->List (List Da)}{r:Nat->CS}(t:IH n n' L r)(hi:i<2):(n'.c i).flight=(r i).flight/\(n'.c i).largest=(r i).largest/\(n'.c i).answer=(r i).answer/\(n'.c i).got=(r i).got/\(n'.c i).ws=(r i).ws/\(n'.c i).next=(r i).next/\(n'.c i).waits=(r i).waits/\(n'.c i).credit=(r i).credit:=by
 obtain⟨a,_⟩:=t.rd i hi;rw[a];exact⟨rfl,rfl,rfl,rfl,rfl,rfl,rfl,rfl⟩
def OY.first{L:Nat->List (List Da)}{r:Nat->CS}(t:IH n n' L r)(hi:i<2){q:Dc}(y:OY n i q):∃f fs' L',L (1-i)=(f::fs')::L'/\f.kind=2/\D2 f.rngs q=true:=by
 obtain⟨o,_,_,f⟩:=t.flu (1-i) I;obtain⟨x1,x2,x3,x4,_⟩:=Jq (n.c (1-i));obtain⟨pre,lo,h,e,h1,h2⟩:=y.top;have j:(n.c (1-i)).tick.acks.1=(lo,h)::pre.reverse:=by
  unfold CS.acks;rw[x2,y.ans,x4,e];simp
 obtain⟨a,b,c,d,g,k,e2⟩:=f.pk.first I (by rw[j];simp);rw[j]at k;cases k;exact⟨_,d,g,e2,rfl,Bh.2 ⟨(lo,h),AO,by simp[h1,h2]⟩⟩
def Iu.tick{P P':Dc->Prop}{L:Nat->List (List Da)}{r:Nat->CS}(t:IH n n' L r)(h:Iu P n)(hP:∀i,i<2->∀q∈(n.c i).tick.flight,P q->P' q):Iu P' n':=by
 intro i hi q d;have a:1-(1-i)=i:=I;have b:1-i<2:=I;obtain⟨s1,s2,s3,s4,_⟩:=t.same hi;obtain⟨o1,o2,o3,o4,_⟩:=t.same b;have R:=t.rv i hi;have O:=t.rv (1-i) b;rw[a]at O;obtain⟨A',F,FA⟩:=R.fl;rw[s1,F.fl]at d;rcases Al.1 d with x|x
 .obtain⟨g,x2⟩:=FA q x;rcases h i hi q ((Jq (n.c i)).2.2.2.2.2.2.2 q g).1 with y|y
  .obtain⟨f,fs',L',e,k,z⟩:=y.first t hi;rw[x2 _ (by rw[e];exact AO) f AO k]at z;cases z
  exact .inr (hP i hi q g y)
 obtain⟨f1,f2,f3,f4⟩:=Mh _ _ x;have j:=AV f4;have hw:=VJ _ _ x;have top:=O.top;refine .inl ⟨by rw[f3,t.now],?_,λf hf cl m s=>t.grows b cl m (O.has q.fs j f hf cl m s),?_,?_⟩
 .rw[s2];exact AJ F.lg f1
 .rw[o3,O.ans,Bh.2 ⟨_,j,hw⟩,Bool.or_true]
 rw[o4];rcases top with e|⟨_,pre,lo,e,l⟩
 .omega
 exact⟨pre,lo,_,e,I,I⟩
def D6.pro(h:D6 c c'):c.pro<=c'.pro:=GO 8 λk hk=>by
 obtain⟨a,b,d⟩:=h.w k hk;have:=Yc a;show WS.pro _<=WS.pro _;unfold WS.pro;rw[b,d];omega
def Lu(n:NS):Prop:=Iu (λ_=>False) n
end
section
open Go.RowKit
variable{i:Nat}{n:NS}
def Lu.y(h:Lu n)(hi:i<2){q:Dc}(hq:q∈(n.c i).flight):OY n i q:=(h i hi q hq).resolve_right id
variable{c:CS}
def PR(h:∀q∈c.flight,q.at_=c.now/\c.largest<=q.n):c.tick=c.ticked:=by
 have l:∀q∈c.ticked.flight,c.ticked.late q=false:=λq d=>by
  obtain⟨a,b⟩:=h q d;unfold CS.late;show(decide (q.at_+6<=c.now+1)||decide (q.n+3<=c.largest))=false;rw[Aw I,Aw I];rfl
 show c.ticked.lose=_;rw[Hs,Rl _ l,CQ.2 (λq d=>by rw[l q d];rfl)];rfl
structure Fa(n n':NS)(L:Nat->List (List Da))(r:Nat->CS)(i:Nat):Prop where
 told:∀cl,cl.Ok->(n.c i).tick.packets.2.Asks cl->(n'.c (1-i)).Has cl
 more:D6 (n.c i).tick.packets.2 (n'.c i)
 wf1:∀k,k<8->Ed ((n.c i).ws k) ((n.c i).tick.packets.2.ws k)
 wf2:∀k,k<8->Ed ((n.c i).tick.packets.2.ws k) ((n'.c i).ws k)
 pr:∀k,k<8->∃g a,(n.c i).tick.packets.2.rs k={ (n.c i).rs k with grant:=g,anew:=a }
 rr:∀k,k<8->((r i).rs k).read=((n.c i).rs k).read/\((r i).rs k).state=((n.c i).rs k).state
 nr:∀k,k<8->(n'.c i).rs k=Du ((r i).rs k)
 gr:Dt (n.c i) (n'.c i)
 cr:(n.c i).credit=(n.c i).tick.packets.2.credit/\(n.c i).tick.packets.2.credit<=(n'.c i).credit
 cf:(n.c i).tick.packets.2.window=n.window/\(n.c i).tick.packets.2.total=n.total
 low:∀k,k<8->EV ((n.c i).tick.packets.2.ws k)
 so:Dw (n.c i).tick.packets.2 (n.g i)
 nx:(n'.c i).next<=(n.c i).next+20
 acc:(n.c i).tick.waits=[]->(∀j,j<2->(n.c j).next+50<1073741824)->∃ δ,48*(n'.c i).flight.length+6*(n.c i).pro<=137+6*(n'.c i).pro+48 * δ /\ (δ = 0 \/ δ = 1/\D7 (n.c i).tick.packets.2)/\(12<=(n.c i).flight.length+(n'.c i).flight.length\/D7 (n.c i).tick.packets.2)/\(n.c i).pro<=(n'.c i).pro
 idle:D7 (n.c i).tick->D7 (n.c i).tick.packets.2/\(L i).any Ey=false
 ans:(n'.c i).answer=(L (1-i)).any Ey
variable{now:Nat}
theorem Tf:∀(L:List (List Da)) (n:Nat),Hh now n L=[]->L.any Ey=false
 | [],_,_=>rfl
 | fs::L,n,h=>by
  obtain⟨a,b⟩:=List.append_eq_nil_iff.1 h;rw[List.any_cons,Tf L (n+1) b,Bool.or_false];cases hw:Ey fs with
  | false=>rfl
  | true=>rw[hw]at a;cases a
def Lb(c:CS):c.due<=57:=by
 have:=GO (f:=λk=>if (c.rs k).due c.window then 6 else 0) (g:=λ_=>6) 8 (λj _=>by show(if _ then 6 else 0)<=6;split<;>omega);unfold CS.due CS.dues;have e:Dq (λ_=>6) 8=48:=rfl;split<;>omega
variable{n':NS}
theorem Y4{L:Nat->List (List Da)}{r:Nat->CS}(K:n.Safe)(hl:n.Links)(t:IH n n' L r)(h:Lu n)(hi:i<2):Fa n n' L r i:=by
 have C:1-(1-i)=i:=I;have m:1-i<2:=I;obtain⟨o,ox,og,f⟩:=t.flu i hi;have R:=t.rv i hi;have O:=t.rv (1-i) m;rw[C]at O;obtain⟨s1,s2,s3,s4,M,s6,s7,s8⟩:=t.same hi;have D:(n.c i).tick=(n.c i).ticked:=PR λq j=>by
  have y:=h.y hi j;exact⟨y.at_.trans (K.now i hi).symm,y.lg⟩
 have d:(n.c i).tick.flight=(n.c i).flight:=by rw[D];rfl
 have E:(n.c i).tick.ws=(n.c i).ws/\(n.c i).tick.rs=(n.c i).rs/\(n.c i).tick.credit=(n.c i).credit/\(n.c i).tick.window=(n.c i).window/\(n.c i).tick.total=(n.c i).total:=by rw[D];exact⟨rfl,rfl,rfl,rfl,rfl⟩
 obtain⟨N,e2,e3,e4,e5⟩:=E;obtain⟨_,x2,u,_⟩:=Jq (n.c i);have gt:Dt (n.c i) (n.c i).tick:=by rw[D];exact Dt.of (λk _=>⟨rfl,rfl,rfl,rfl⟩) (λ_ _=>AF _) (AF _)
 have G:Dt (n.c (1-i)) (n'.c (1-i)):=by
  have H:(n.c (1-i)).tick=(n.c (1-i)).ticked:=PR λq j=>by
   have y:=h.y m j;exact⟨y.at_.trans (K.now (1-i) m).symm,y.lg⟩
  obtain⟨o2,_,_,f2⟩:=t.flu (1-i) m;have g:Dt (n.c (1-i)) (n.c (1-i)).tick:=by rw[H];exact Dt.of (λk _=>⟨rfl,rfl,rfl,rfl⟩) (λ_ _=>AF _) (AF _)
  exact g.trans (f2.gr.trans (O.grows.trans (t.grows m)))
 have P:=f.ws;rw[N]at P;have fr:=f.rs;rw[e2]at fr;have Q:∀q∈(n.c i).tick.flight,∃g fs' L',L (1-i)=(g::fs')::L'/\g.kind=2/\D2 g.rngs q=true:=λq j=>(h.y hi (by rw[<-d];exact j)).first t hi
 have A0:∃F:Fl (n.c i).next (Hh (n.now+1) (n.c i).next (L i)) [] (r i),True:=by
  obtain⟨S,F,FA⟩:=R.fl;have:S=[]:=by
   cases S with
   | nil=>rfl
   | cons q l =>
    obtain⟨a,b⟩:=FA q AO;obtain⟨g,fs',L',e,k,z⟩:=Q q a;rw[b _ (by rw[e];exact AO) g AO k]at z;cases z
  subst this;exact⟨F,trivial⟩
 obtain⟨F,_⟩:=A0;have v:=F.fl;rw[An]at v;have m1:D6 (n.c i).tick.packets.2 (n'.c i):=(R.more Q).trans (D6.of M (λk hk=>by rw[(t.rd i hi).2 k hk];unfold Du;split<;>exact⟨rfl,rfl⟩) (by rw[(t.rd i hi).1];exact⟨rfl,rfl⟩));have J:∀k,k<8->Ed ((n.c i).tick.packets.2.ws k) ((n'.c i).ws k):=λk hk=>by rw[M];exact R.wf k hk
 have T:(n.c i).tick.packets.2.flight.length=(n.c i).flight.length+(n'.c i).flight.length:=by
  rw[f.fl,d,u,s1,v,AG]
 have A:=hl.cf i hi;have B:(n.c i).tick.packets.2.credit=(n.c i).credit/\(n.c i).tick.packets.2.credit<=(r i).credit:=by
  refine⟨?_,R.grows (.all _) trivial (AF _)⟩;have:=f.crd;rw[this,e3]
 refine⟨λcl p ask=>?_,m1,λk hk=>?_,J,λk hk=>?_,λk hk=>?_,λk hk=>(t.rd i hi).2 k hk,gt.trans (f.gr.trans (R.grows.trans (t.grows hi))),⟨B.1.symm,by rw[s8];exact B.2⟩,⟨by rw[f.cf.1,e4];exact A.1,by rw[f.cf.2,e5];exact A.2⟩,f.pk.bel.low,t.so i hi,?_,λw hx=>?_,λx=>?_,?_⟩
 .rcases f.pk.bel.asks cl p ask with x|⟨q,j,g,hg,s⟩
  .exact og cl p x
  rw[f.fl,d,u]at j;rcases Al.1 j with y|y
  .exact G cl p ((h.y hi y).has g hg cl p s)
  obtain⟨_,_,_,f4⟩:=Mh _ _ y;exact t.grows m cl p (O.has q.fs (AV f4) g hg cl p s)
 .have w:=P k hk;exact⟨w.b,w.fin,w.cut,w.keep,w.final,w.high,Ay w.credit.symm⟩
 .obtain⟨g,a,e,_⟩:=fr k hk;exact⟨g,a,e⟩
 .obtain⟨g,a,e,_⟩:=fr k hk;rw[(R.rd k hk).1,(R.rd k hk).2,e];exact⟨rfl,rfl⟩
 .rw[s6,R.nx,f.nx,u];have:=f.len;omega
 .obtain⟨δ,V,z2,W,X⟩:=f.acc w (by rw[u];have:=hx i hi;omega) (nC (hx (1-i) m));have d1:=Lb (n.c i).tick;have ep:(n.c i).tick.pro=(n.c i).pro:=by unfold CS.pro;rw[N]
  have mp:=m1.pro;rw[ep]at V X;rw[T,d]at V;rw[T]at W;exact⟨δ,I,z2,W,AJ X mp⟩
 .obtain⟨i1,i2,i3⟩:=f.idle x;have eL:Hh (n.now+1) (n.c i).next (L i)=[]:=by
   have:(n.c i).tick.flight++Hh (n.now+1) (n.c i).tick.next (L i)=(n.c i).tick.flight:=by rw[<-f.fl];exact i2
   rw[u]at this;exact List.self_eq_append_right.1 this.symm
  exact⟨i1,Tf _ _ eL⟩
 rw[s3,R.ans,f.ans,DA]
def E3(x:WS)(r:RS):Prop:=if x.cut then r.state≠0 else r.read=x.b.length/\(x.finished=true->r.state=1)
def I2(x:WS)(r:RS):Prop:=x.cut=true->r.cut=true/\r.ended=true/\r.keep<=x.keep
def WS.bound(x:WS):Nat:=if x.cut then x.keep else x.b.length
variable{r:RS}{x:WS}
def Dr.final{e:EN}(h:Dr x r e)(hc:x.cut=true)(he:r.ended=true):r.fin=x.final:=(h.re he).uniq (.inr ⟨hc,rfl⟩)
def Dr.used{e:EN}(h:Dr x r e)(t:I2 x r):(r.state=2/\x.cut=true/\r.used=x.final)\/(r.state≠2/\r.used=r.read):=by
 unfold RS.used;by_cases q:r.state=2
 .obtain⟨a,_⟩:=h.s2 q;rw[AQ q];exact .inl ⟨q,a,h.final a (t a).2.1⟩
 rw[AI q];exact .inr ⟨q,rfl⟩
def Dr.used_le{e:EN}(h:Dr x r e)(t:I2 x r)(l:EV x):r.used<=2048:=by
 have:=l.fn;have:=h.bl;have:=h.hl;have:=h.rh;have:=h.rd;rcases h.used t with⟨_,_,e⟩|⟨_,e⟩<;>omega
def Te(x:RS):(Du x).came=x.came/\(Du x).ended=x.ended/\(Du x).cut=x.cut/\(Du x).keep=x.keep/\(Du x).fin=x.fin/\(Du x).high=x.high:=by
 unfold Du;split<;>exact⟨rfl,rfl,rfl,rfl,rfl,rfl⟩
def O9{e:EN}(h:Dr x r e):r.read<=(Du r).read/\(r.state≠0->(Du r).read=r.read/\(Du r).state=r.state):=by
 have f:=Rn h 4096;unfold Du;split
 .exact⟨AF _,λ_=>⟨rfl,rfl⟩⟩
 rename_i q;exact⟨f.1,λz=>absurd z q⟩
structure GZ(x x':WS)(r ρ : RS)(e e':EN)(y:WS)(f:EN):Prop where
 d:Dr x r e
 d':Dr x' (Du ρ) e'
 dm:Dr y ρ f
 fx:Ed x x'
 fy:Ed y x'
 rr : ρ.read=r.read /\ ρ.state=r.state
 l:EV x'
variable{y:WS}
def GZ.done{g:WS}{ρ : RS}{e e':EN}{f:EN}(s:GZ x g r ρ e e' y f)(h:E3 x r):E3 g (Du ρ):=by
 obtain⟨a,b⟩:=O9 s.dm;unfold E3 at *;rw[s.fx.cut,s.fx.b,s.fx.fin];have h1:=s.d'.rd;have h2:=s.d'.rh;have h3:=s.d'.hl;rw[s.fx.b]at h3;split
 .rename_i c;rw[AQ c]at h;obtain⟨_,d⟩:=b (by rw[s.rr.2];exact h);rw[d,s.rr.2];exact h
 rename_i c;rw[AI c]at h;refine⟨nD h.1 s.rr.1,λq=>?_⟩;have:=h.2 q;obtain⟨_,d⟩:=b (by rw[s.rr.2];omega);rw[d,s.rr.2];exact this
def GZ.used{i:WS}{ρ : RS}{e e':EN}{f:EN}(s:GZ x i r ρ e e' y f)(t:I2 x r)(j:I2 i (Du ρ)):r.used<=(Du ρ).used:=by
 obtain⟨a,b⟩:=O9 s.dm;rw[s.rr.1]at a;rcases s.d.used t with⟨k,u2,h⟩|⟨k,h⟩
 .obtain⟨_,b2⟩:=b (by rw[s.rr.2];omega);rcases s.d'.used j with⟨g,l,c⟩|⟨g,c⟩
  .rw[h,c,s.fx.final];exact AF _
  rw[b2,s.rr.2]at g;exact absurd k g
 rcases s.d'.used j with⟨g,l,c⟩|⟨g,c⟩
 .rw[h,c];have:=s.d'.hf l;have:=s.d'.rh;have:=s.d'.rd;omega
 rw[h,c];exact a
def XV{ρ : RS}{f:EN}(h:Dr y ρ f)(h0 : ρ.state=0){E:Nat}(a:∀p,p<E->Dk ρ.came.rs p)(hk : ρ.cut=true->E <= ρ.keep):E<=(Du ρ).read:=by
 have e:(Du ρ).read = ρ.readTo 4096:=by unfold Du;rw[AI (by rw[h0];simp)]
 rw[e];have hb:=h.bl;have hl:=h.hl;have rh:=h.rh;have f1:=(Rn h 4096).1;have top:E <= ρ.high:=by
  by_cases z:E=0
  .omega
  have:=ML h.low (a (E-1) I);omega
 have g : ρ.read<E->E<=(Dj ρ.came.rs ρ.read ρ.high).1:=λq=>by
  by_cases z:E<=(Dj ρ.came.rs ρ.read ρ.high).1
  .exact z
  obtain⟨g1,g2⟩:=NZ ρ.came.rs ρ.read ρ.high I I;exact absurd (GW.1 (a _ I)) (PC ρ.came.rs ρ.read ρ.high _ h.low.ok.wf (AF _) g2)
 by_cases q : ρ.read<E
 .have:=g q;unfold RS.readTo;split
  .rename_i c;have:=hk c;omega
  omega
 omega
theorem GZ.sent{g:WS}{ρ : RS}{e e':EN}{f:EN}(s:GZ x g r ρ e e' y f)(t:I2 x r)(B:I2 g (Du ρ)){i:Nat}{z:WS}(fz:Ed x z)(k:Ed z g)(kf:z.keep<=z.final)(lz:EV z)(hE:∀p,p<min i z.bound->Dk ρ.came.rs p)(hl:i<=z.b.length)(hh:z.high<=i)(hf:z.fin=true->z.b.length<=i -> ρ.ended=true):z.high<=(Du ρ).used/\(E3 g (Du ρ)\/(i<z.bound/\i<=(Du ρ).used)):=by
 have cz:g.cut=z.cut/\g.keep=z.keep/\g.b=z.b/\g.finished=z.finished/\g.final=z.final:=⟨k.cut,k.keep,k.b,k.fin,k.final⟩;obtain⟨c1,c2,c3,c4,c5⟩:=cz;have l:=s.d'.hl;have hrh:=s.d'.rh;have hrd:=s.d'.rd;rw[c3]at l;have zh:=lz.hl;obtain⟨_,k2,k3,k4,k5,_⟩:=Te ρ;have h:=s.d'.used B;have dn:E3 g (Du ρ)->z.high<=(Du ρ).used:=λq=>by
  unfold E3 at q;rw[c1,c3,c4]at q;rcases h with⟨o,w,u⟩|⟨o,u⟩
  .have:=s.d'.hf w;have:=k.high;omega
  rw[u];split at q
  .have st:=s.d'.st;have:(Du ρ).state=1:=I;obtain⟨_,b⟩:=s.d'.s1 this;rw[c3]at b;omega
  omega
 have j:E3 g (Du ρ)\/(i<z.bound/\i<=(Du ρ).used):=by
  have A:y.cut=z.cut:=by rw[<-c1,s.fy.cut]
  have C:y.b=z.b:=by rw[<-c3,s.fy.b]
  have D:y.keep=z.keep:=by rw[<-c2,s.fy.keep]
  have tk:z.cut=true -> ρ.cut=true /\ ρ.keep<=z.keep/\z.keep <= ρ.keep:=λq=>by
   obtain⟨a,b,d⟩:=B (by rw[c1];exact q);rw[k3]at a;rw[k4,c2]at d;have:=(s.dm.rc a).2;rw[D]at this;exact⟨a,d,this⟩
  have E:z.cut=false -> ρ.cut=false:=λq=>by
   cases hc : ρ.cut with
   | false=>rfl
   | true=>have:=(s.dm.rc hc).1;rw[A,q]at this;cases this
  by_cases v : ρ.state=0
  .have rd:=XV s.dm v hE (λc=>by
    have:=(s.dm.rc c);rw[D,A]at this;have b:z.bound=z.keep:=by unfold WS.bound;rw[AQ this.1]
    rw[b];omega)
   have es:(Du ρ).state = ρ.stateAt (Du ρ).read:=by unfold Du;rw[AI (by rw[v];simp)]
   by_cases q:z.bound<=i
   .left;have rd:z.bound<=(Du ρ).read:=I;unfold E3;rw[c1,c3,c4];unfold WS.bound at rd;cases hc:z.cut with
    | true =>
     rw[hc]at rd;obtain⟨a,b,_⟩:=tk hc;simp only[BC]at rd ⊢;rw[es];unfold RS.stateAt;rw[a,Bi,AQ (Ax I)];simp
    | false =>
     rw[hc]at rd;simp only[BX,Be]at rd ⊢;refine⟨I,λm=>?_⟩;have n : ρ.ended=true:=hf (by unfold WS.fin;rw[m,hc];rfl) (by unfold WS.bound at q;rw[hc]at q;simpa using q);obtain⟨_,F⟩:=s.dm.rf n (E hc);rw[C]at F;rw[es];unfold RS.stateAt;rw[E hc,n,F];have:(Du ρ).read=z.b.length:=I;simp[this]
   have rd:i<=(Du ρ).read:=I;by_cases d:E3 g (Du ρ)
   .exact .inl d
   refine .inr ⟨I,?_⟩;rcases h with⟨o,w,u⟩|⟨o,u⟩
   .exact absurd (by unfold E3;rw[AQ w,o];simp) d
   omega
  left;obtain⟨_,b⟩:=O9 s.dm;obtain⟨b1,b2⟩:=b v;unfold E3;rw[c1,c3,c4,b1,b2];split
  .exact v
  rename_i c;have st:=s.dm.st;have : ρ.state≠2:=λq=>by have:=(s.dm.s2 q).1;rw[A]at this;exact c this
  have s1 : ρ.state=1:=I;have:=(s.dm.s1 s1).2;rw[C]at this;exact⟨this,λ_=>s1⟩
 refine⟨?_,j⟩;rcases j with q|⟨_,q⟩
 .exact dn q
 omega
def Ix(a b:CS):Prop:=∀k,k<8->E3 (a.ws k) (b.rs k)
def Hg(a b:CS):Prop:=∀k,k<8->I2 (a.ws k) (b.rs k)
def CS.useds(b:CS):Nat:=Dq (λk=>(b.rs k).used) 8
def Lv(M:Nat)(a b:CS):Prop:=Ix a b\/M<=b.useds
def Cr(M W S:Nat)(a b:CS):Prop:=Ix a b\/∃v:Nat->Nat,M<=Dq v 8/\(∀k,k<8->v k<=(b.rs k).used)/\Dq v 8+S<=a.credit/\∀k,k<8->v k+W<=(a.ws k).credit\/(a.ws k).bound<=(a.ws k).credit\/E3 (a.ws k) (b.rs k)
theorem VI(ws:Nat->WS):∀n,zI ws n=Dq (λk=>(ws k).high) n
 | 0=>rfl
 | n+1=>by show zI ws n+_=Dq _ n+_;rw[VI ws n]
def NU(h:Ed x y):y.bound=x.bound:=by unfold WS.bound;rw[h.cut,h.keep,h.b]
section
variable {n n':NS} {L:Nat->List (List Da)} {r:Nat->CS} {i:Nat}
def Wo(hs:n.Safe)(g:n'.Safe)(h:n'.Links)(t:IH n n' L r)(hi:i<2)(a:Fa n n' L r i)(b:Fa n n' L r (1-i)):∀k,k<8->∃e e' f,GZ ((n.c i).ws k) ((n'.c i).ws k) ((n.c (1-i)).rs k) ((r (1-i)).rs k) e e' ((r i).ws k) f:=λk hk=>by
 obtain⟨E,hE⟩:=t.sr;have d':=(g.d i hi).k k hk;rw[b.nr k hk]at d';exact⟨_,_,_,(hs.d i hi).k k hk,d',(hE i hi).k k hk,(a.wf1 k hk).trans (a.wf2 k hk),by rw[(t.same hi).2.2.2.2.1];exact Ed.refl _,b.rr k hk,(h.l i hi).bel.low k hk⟩
def PQ(a:Fa n n' L r i)(b:Fa n n' L r (1-i))(h:Hg (n.c i) (n.c (1-i))):Hg (n'.c i) (n'.c (1-i)):=λk hk c=>by
 have f:=(a.wf1 k hk).trans (a.wf2 k hk);rw[f.cut]at c;rw[f.keep];exact b.gr (.tell k ((n.c i).ws k).keep) hk (h k hk c)
def fC(a:Fa n n' L r i)(h:D7 (n.c i).tick.packets.2):Hg (n'.c i) (n'.c (1-i)):=λk hk c=>by
 have f:=a.wf2 k hk;rw[f.cut]at c;rw[f.keep];exact a.told (.tell k _) hk ⟨c,h.ct.w k hk c,rfl⟩
def PP(st:∀k,k<8->∃e e' f,GZ ((n.c i).ws k) ((n'.c i).ws k) ((n.c (1-i)).rs k) ((r (1-i)).rs k) e e' ((r i).ws k) f)(b:Fa n n' L r (1-i))(h:Ix (n.c i) (n.c (1-i))):Ix (n'.c i) (n'.c (1-i)):=λk hk=>by
 obtain⟨_,_,_,s⟩:=st k hk;rw[b.nr k hk];exact s.done (h k hk)
def PO(st:∀k,k<8->∃e e' f,GZ ((n.c i).ws k) ((n'.c i).ws k) ((n.c (1-i)).rs k) ((r (1-i)).rs k) e e' ((r i).ws k) f)(a:Fa n n' L r i)(b:Fa n n' L r (1-i))(h:Hg (n.c i) (n.c (1-i))):∀k,k<8->((n.c (1-i)).rs k).used<=((n'.c (1-i)).rs k).used:=λk hk=>by
 obtain⟨_,_,_,s⟩:=st k hk;have d:=PQ a b h k hk;rw[b.nr k hk]at d ⊢;exact s.used (h k hk) d
def Lv.keep(st:∀k,k<8->∃e e' f,GZ ((n.c i).ws k) ((n'.c i).ws k) ((n.c (1-i)).rs k) ((r (1-i)).rs k) e e' ((r i).ws k) f)(a:Fa n n' L r i)(b:Fa n n' L r (1-i))(h:Hg (n.c i) (n.c (1-i))){M:Nat}(l:Lv M (n.c i) (n.c (1-i))):Lv M (n'.c i) (n'.c (1-i)) :=
 l.imp (PP st b) (λx=>AJ x (GO 8 (PO st a b h)))
def Cr.keep(st:∀k,k<8->∃e e' f,GZ ((n.c i).ws k) ((n'.c i).ws k) ((n.c (1-i)).rs k) ((r (1-i)).rs k) e e' ((r i).ws k) f)(a:Fa n n' L r i)(b:Fa n n' L r (1-i))(h:Hg (n.c i) (n.c (1-i))){M W S:Nat}(l:Cr M W S (n.c i) (n.c (1-i))):Cr M W S (n'.c i) (n'.c (1-i)):=by
 refine l.imp (PP st b) ?_;rintro⟨v,h1,h2,h3,h4⟩;refine⟨v,h1,λk hk=>AJ (h2 k hk) (PO st a b h k hk),?_,λk hk=>?_⟩
 .have:=a.cr.1;have:=a.cr.2;omega
 have f:=(a.wf1 k hk).trans (a.wf2 k hk);have c:=f.credit;rw[NU f];rcases h4 k hk with x|x|x
 .exact .inl I
 .exact .inr (.inl I)
 obtain⟨_,_,_,s⟩:=st k hk;rw[b.nr k hk];exact .inr (.inr (s.done x))
theorem O8(h:∀k,k<8->(c.rs k).used<=2048):∀m k t,m+k=8->t<=4096+2048*k->Fq c m k t+Dq (λj=>(c.rs j).used) k=t+Dq (λj=>(c.rs j).used) 8
 | 0,k,t,hk,_=>by
  have:k=8:=I;subst this;rfl
 | m+1,k,t,hk,ht=>by
  have u:=h k I;have i:=O8 h m (k+1) (t+(c.rs k).used) I I;have e:min (t+(c.rs k).used) zF=t+(c.rs k).used:=by unfold zF;omega
  unfold Fq;rw[e];have:Dq (λj=>(c.rs j).used) (k+1)=Dq (λj=>(c.rs j).used) k+(c.rs k).used:=rfl;omega
theorem Lv.grant(hs:n.Safe)(st:∀k,k<8->∃e e' f,GZ ((n.c i).ws k) ((n'.c i).ws k) ((n.c (1-i)).rs k) ((r (1-i)).rs k) e e' ((r i).ws k) f)(hi:i<2)(hl:n.Links)(a:Fa n n' L r i)(b:Fa n n' L r (1-i))(h:Hg (n.c i) (n.c (1-i)))(hW:n.total<=4096)(id:D7 (n.c (1-i)).tick.packets.2){M:Nat}(l:Lv M (n.c i) (n.c (1-i))):Cr M n.window n.total (n'.c i) (n'.c (1-i)):=by
 have v:1-(1-i)=i:=I;have told:=b.told;rw[v]at told;have pr:=b.pr;have m:=b.cf;generalize (n.c (1-i)).tick.packets.2=q at *;have y:∀k,k<8->(q.rs k).used=((n.c (1-i)).rs k).used:=λk hk=>by
  obtain⟨g,z,e⟩:=pr k hk;rw[e];rfl
 have ul:∀k,k<8->((n.c (1-i)).rs k).used<=2048:=λk hk=>((hs.d i hi).k k hk).used_le (h k hk) ((hl.l i hi).bel.low k hk)
 have A:=id.ct.t;unfold CS.dueT at A;simp only[BU,Ai]at A;have cr:=told (.all q.grant) trivial ⟨A.2,rfl⟩;have cr:q.grant<=(n'.c i).credit:=cr;have tot:q.tot=n.total+(n.c (1-i)).useds:=by
  have:=O8 (c:=q) (λk hk=>by rw[y k hk];exact ul k hk) 8 0 q.total rfl (by rw[m.2];omega);have e0:Dq (λj=>(q.rs j).used) 0=0:=rfl;have e8:Dq (λj=>(q.rs j).used) 8=(n.c (1-i)).useds:=NH 8 y;unfold CS.tot;rw[<-m.2];omega
 rcases l with l|l
 .exact .inl (PP st b l)
 refine .inr ⟨λk=>((n.c (1-i)).rs k).used,l,PO st a b h,?_,λk hk=>?_⟩
 .have:Dq (λk=>((n.c (1-i)).rs k).used) 8=(n.c (1-i)).useds:=rfl;omega
 have f:=(a.wf1 k hk).trans (a.wf2 k hk);show((n.c (1-i)).rs k).used+n.window<=((n'.c i).ws k).credit\/((n'.c i).ws k).bound<=((n'.c i).ws k).credit\/E3 ((n'.c i).ws k) ((n'.c (1-i)).rs k);obtain⟨_,_,_,s⟩:=st k hk;have u:=s.d;have tk:=h k hk;have due:=id.ct.r k hk;have lim:(q.rs k).anew=false->(q.rs k).grant<=((n'.c i).ws k).credit:=λz=>told (.lim k _) hk ⟨z,rfl⟩
 obtain⟨g,z,e⟩:=pr k hk;have uk:=y k hk;unfold RS.due at due;rw[m.1,uk]at due;rw[e]at due lim;generalize hR:(n.c (1-i)).rs k=R at *;have due:((decide (g<max g (R.used+n.window))||z)&&({ R with grant:=g,anew:=z }:RS).hopes)=false:=due;have lim:z=false->g<=((n'.c i).ws k).credit:=lim;have B:({ R with grant:=g,anew:=z }:RS).hopes=if R.cut then decide (g<R.keep)||(z&&R.state==0)else !R.ended:=rfl;rw[B]at due;rw[NU f];have o:E3 ((n.c i).ws k) R->R.used+n.window<=((n'.c i).ws k).credit\/((n.c i).ws k).bound<=((n'.c i).ws k).credit\/E3 ((n'.c i).ws k) ((n'.c (1-i)).rs k):=λw=>.inr (.inr (by rw[b.nr k hk];exact s.done w))
 cases hc:R.cut with
 | true =>
  rw[hc]at due;obtain⟨p,rc2⟩:=u.rc hc;by_cases C:R.state=0
  .simp only[BC,C,CI,BU,Ai]at due;rcases due with⟨d1,d2⟩|⟨d1,d2⟩
   .have:=lim d2;exact .inl I
   have d2:z=false:=nF d2;have:=lim d2;refine .inr (.inl ?_);unfold WS.bound;rw[AQ p];omega
  exact o (by unfold E3;rw[AQ p];exact C)
 | false =>
  rw[hc]at due;simp only[BX,Be,CI,BU,Ai,Bool.not_eq_false']at due;rcases due with⟨d1,d2⟩|d1
  .have:=lim d2;exact .inl I
  refine .inr (.inl ?_);obtain⟨_,rf⟩:=u.rf d1 hc;have D:((n.c i).ws k).cut=false:=by
   cases hx:((n.c i).ws k).cut with
   | false=>rfl
   | true=>rw[(tk hx).1]at hc;cases hc
  have:=u.hc;have:=f.credit;rcases u.re d1 with⟨fs,_⟩|⟨x,_⟩
  .have:=fs.2.1;unfold WS.bound;rw[D];show((n.c i).ws k).b.length<=_;omega
  rw[D]at x;cases x
def Cr.send(st:∀k,k<8->∃e e' f,GZ ((n.c i).ws k) ((n'.c i).ws k) ((n.c (1-i)).rs k) ((r (1-i)).rs k) e e' ((r i).ws k) f)(a:Fa n n' L r i)(b:Fa n n' L r (1-i))(h:Hg (n.c i) (n.c (1-i)))(id:D7 (n.c i).tick.packets.2){M W S w:Nat}(hW:w<=W)(hS:w<=S)(l:Cr M W S (n.c i) (n.c (1-i))):Lv (M+w) (n'.c i) (n'.c (1-i)):=by
 have t':=PQ a b h;rcases l with l|⟨v,v1,o,v3,v4⟩
 .exact .inl (PP st b l)
 have t:=PO st a b h;have wf1:=a.wf1;have wf2:=a.wf2;have low:=a.low;have so:=a.so;have told:=a.told;have cr:=a.cr;generalize (n.c i).tick.packets.2=p at *;have u:∀k,k<8->(p.ws k).high<=p.end0 k/\p.end0 k<=(p.ws k).b.length/\p.endOf k=min (p.end0 k) (p.ws k).bound:=λk hk=>by
  have w:=so.w k hk;have:=w.hl;have:=w.hc;have hE:p.end0 k=min (min (p.ws k).b.length (p.ws k).credit) ((p.ws k).high+p.credit-min p.credit p.spent):=rfl;refine⟨I,I,?_⟩;unfold CS.endOf WS.bound;split
  .rfl
  omega
 have H:∀k,k<8->(p.ws k).high<=((n'.c (1-i)).rs k).used/\(E3 ((n'.c i).ws k) ((n'.c (1-i)).rs k)\/(p.end0 k<(p.ws k).bound/\p.end0 k<=((n'.c (1-i)).rs k).used)):=λk hk=>by
  obtain⟨_,_,_,s⟩:=st k hk;obtain⟨f1,A,B⟩:=u k hk;have tk:=t' k hk;have nr:=b.nr k hk;rw[nr]at tk ⊢;obtain⟨k1,k2,_⟩:=Te ((r (1-i)).rs k);obtain⟨i1,i2⟩:=id.w k hk;refine s.sent (h k hk) tk (wf1 k hk) (wf2 k hk) (so.kf k hk) (low k hk) (λq hq=>?_) A f1 (λx y=>?_)
  .have:=told (.byte k q) hk (i1 q I);have:Dk ((n'.c (1-i)).rs k).came.rs q:=this;rw[nr,k1]at this;exact this
  have hb:(p.ws k).bound=(p.ws k).b.length:=by
   unfold WS.fin at x;simp only[AZ,Bm]at x;unfold WS.bound;rw[x.2];rfl
  have:=told (.fin k) hk (i2 x (by rw[B,hb];omega));have:((n'.c (1-i)).rs k).ended=true:=this;rw[nr,k2]at this;exact this
 by_cases d:Ix (n'.c i) (n'.c (1-i))
 .exact .inl d
 right;obtain⟨k,hk,nd⟩:∃k,k<8/\¬E3 ((n'.c i).ws k) ((n'.c (1-i)).rs k):=by
  false_or_by_contra
  rename_i no;exact d λk hk=>Classical.byContradiction λx=>no ⟨k,hk,x⟩
 obtain⟨q1,q2⟩:=(H k hk).2.resolve_left nd;have su:Dq v 8<=(n'.c (1-i)).useds:=GO 8 λj m=>AJ (o j m) (t j m)
 obtain⟨f1,A,B⟩:=u k hk;have hE:p.end0 k=min (min (p.ws k).b.length (p.ws k).credit) ((p.ws k).high+p.credit-min p.credit p.spent):=rfl;have bl:(p.ws k).bound<=(p.ws k).b.length:=by
  have:=so.kf k hk;have:=(low k hk).fn;unfold WS.bound;split<;>omega
 by_cases c1:(p.ws k).credit<=p.end0 k
 .
  have fx:=(wf1 k hk);have:=fx.credit;have:v k+W<=((n'.c (1-i)).rs k).used:=by
   rcases v4 k hk with x|x|x
   .omega
   .rw[<-NU fx]at x;omega
   obtain⟨_,_,_,s⟩:=st k hk;exact absurd (by rw[b.nr k hk];exact s.done x) nd
  have s2:=Mb (f:=λj=>((n'.c (1-i)).rs j).used) (g:=λj=>if j=k then v k+W else((n'.c (1-i)).rs j).used) (k:=k) (λj m=>AI m) 8 hk;have s3:=Mb (f:=v) (g:=λj=>if j=k then v k+W else v j) (k:=k) (λj m=>AI m) 8 hk;have s4:Dq (λj=>if j=k then v k+W else v j) 8<=(n'.c (1-i)).useds:=GO 8 λj m=>by
   by_cases z:j=k
   .subst z;simp only[AQ];omega
   simp only[AI z];exact AJ (o j m) (t j m)
  simp only[AQ]at s3;omega
 .
  have top:p.end0 k<=(p.ws k).high:=by
   by_cases z:p.end0 k=0
   .omega
   have:=ML (low k hk).sent ((id.w k hk).1 (p.end0 k-1) I);omega
  have sp:p.credit<=p.spent:=I;have C:p.spent<=(n'.c (1-i)).useds:=by
   unfold CS.spent;rw[VI];exact GO 8 λj m=>(H j m).1
  have:=cr.1;omega
end
theorem GZ.same{m:WS}{ρ : RS}{e e':EN}{f:EN}(s:GZ x m r ρ e e' y f)(k:E3 x r)(t:I2 x r)(n:I2 m (Du ρ)):(Du ρ).used=r.used/\(x.cut=true->(Du ρ).state=r.state):=by
 have h:=s.used t n;obtain⟨a,b⟩:=O9 s.dm;unfold E3 at k;cases hc:x.cut with
 | true =>
  rw[AQ hc]at k;obtain⟨b1,l⟩:=b (by rw[s.rr.2];exact k);rw[s.rr.2]at l;refine⟨?_,λ_=>l⟩;rcases s.d.used t with⟨g,o,i⟩|⟨g,i⟩<;>rcases s.d'.used n with⟨c,p,j⟩|⟨c,j⟩
  .rw[i,j,s.fx.final]
  .rw[l]at c;exact absurd g c
  .rw[l]at c;exact absurd c g
  rw[i,j,b1,s.rr.1]
 | false =>
  rw[AI (by rw[hc];simp)]at k;refine⟨?_,λz=>by cases z⟩;have c':m.cut=false:=by rw[s.fx.cut];exact hc
  have:=s.d'.rd;have:=s.d'.rh;have:=s.d'.hl;have eb:=s.fx.b;rcases s.d.used t with⟨g,o,i⟩|⟨g,i⟩
  .rw[hc]at o;cases o
  rcases s.d'.used n with⟨c,p,j⟩|⟨c,j⟩
  .rw[c']at p;cases p
  rw[eb]at this;omega
section
variable {n n':NS} {L:Nat->List (List Da)} {r:Nat->CS} {i:Nat}
theorem fB(H:n.Safe)(B:n'.Safe)(hl:n.Links)(C:n'.Links)(t:IH n n' L r)(hi:i<2)(a:Fa n n' L r i)(b:Fa n n' L r (1-i))(h1:Hg (n.c i) (n.c (1-i)))(h2:Hg (n.c (1-i)) (n.c i))(d1:Ix (n.c i) (n.c (1-i)))(d2:Ix (n.c (1-i)) (n.c i))(id:D7 (n.c i).tick.packets.2)(hF:Lu n')(O:(n'.c i).tick.waits=[])(hT:n.total<=4096):D7 (n'.c i).tick:=by
 have h:1-(1-i)=i:=I;have J:1-i<2:=I;have u:=Wo H B C t J b (by rw[h];exact a);have k2:=PQ b (by rw[h];exact a) (by rw[h];exact h2);rw[h]at u k2;have et:(n'.c i).tick=(n'.c i).ticked:=PR λq P=>by
  have y:=hF.y hi P;exact⟨y.at_.trans (B.now i hi).symm,y.lg⟩
 rw[et]at O ⊢;have mo:=a.more;have pr:=a.pr;have v:=a.cf;have wf1:=a.wf1;have wf2:=a.wf2;have nr:=a.nr;have so:=a.so;have low:=a.low;generalize (n.c i).tick.packets.2=p at *;have same:∀k,k<8->((n'.c i).rs k).used=((n.c i).rs k).used/\(((n.c (1-i)).ws k).cut=true->((n'.c i).rs k).state=((n.c i).rs k).state):=λk hk=>by
  obtain⟨_,_,_,s⟩:=u k hk;have:=k2 k hk;rw[nr k hk]at this ⊢;exact s.same (d2 k hk) (h2 k hk) this
 have Q:∀k,k<8->((n.c i).rs k).used<=2048:=λk hk=>by
  have:=(H.d (1-i) J).k k hk;rw[h]at this;exact this.used_le (h2 k hk) ((hl.l (1-i) J).bel.low k hk)
 have up:∀k,k<8->(p.rs k).used=((n.c i).rs k).used:=λk hk=>by
  obtain⟨g,z,e⟩:=pr k hk;rw[e];rfl
 have m:=C.cf i hi;rw[t.cfg.1,t.cfg.2]at m;refine⟨⟨λk hk=>?_,?_,λk hk c=>?_⟩,λk hk=>?_,O⟩
 .have due:=id.ct.r k hk;obtain⟨g,z,e⟩:=pr k hk;obtain⟨m1,D⟩:=mo.r k hk;obtain⟨s1,s2⟩:=same k hk;have uk:=up k hk;obtain⟨_,_,_,s⟩:=u k hk;have tk:=h2 k hk;have K:=k2 k hk;have o:=s.d;have A:=s.d';rw[<-nr k hk]at A;show((n'.c i).rs k).due (n'.c i).window=false;unfold RS.due at due ⊢;rw[m.1,m1,D,s1,<-uk,<-v.1];cases hb:(decide ((p.rs k).grant<max (p.rs k).grant ((p.rs k).used+p.window))||(p.rs k).anew)with
  | false=>rfl
  | true =>
   rw[hb,Bi]at due;rw[Bi];unfold RS.hopes at due ⊢;rw[m1,D];have E:(p.rs k).cut=((n.c i).rs k).cut/\(p.rs k).keep=((n.c i).rs k).keep/\(p.rs k).state=((n.c i).rs k).state/\(p.rs k).ended=((n.c i).rs k).ended:=by rw[e];exact⟨rfl,rfl,rfl,rfl⟩
   rw[E.1,E.2.1,E.2.2.1,E.2.2.2]at due;cases hx:((n.c (1-i)).ws k).cut with
   | true =>
    have f:=s.fx;obtain⟨t1,t2,t3⟩:=tk hx;obtain⟨R,t5,t6⟩:=K (by rw[f.cut];exact hx);have r1:=(o.rc t1).2;have r2:=(A.rc R).2;rw[f.keep]at t6 r2;rw[t1,AQ rfl]at due;rw[R,AQ rfl,s2 hx,(I:((n'.c i).rs k).keep=((n.c i).rs k).keep)];exact due
   | false =>
    have f:=s.fx;have c1:((n.c i).rs k).cut=false:=by
     cases hc:((n.c i).rs k).cut with
     | false=>rfl
     | true=>have:=(o.rc hc).1;rw[hx]at this;cases this
    have c2:((n'.c i).rs k).cut=false:=by
     cases hc:((n'.c i).rs k).cut with
     | false=>rfl
     | true=>have:=(A.rc hc).1;rw[f.cut,hx]at this;cases this
    rw[c1,AI mv]at due;rw[c2,AI mv];have en:((n.c i).rs k).ended=true:=nF due;have:((n'.c i).rs k).ended=true:=a.gr (.fin k) hk en;rw[this];rfl
 .have S:=id.ct.t;unfold CS.dueT at S ⊢;have tp:=O8 (c:=p) (λk hk=>by rw[up k hk];exact Q k hk) 8 0 p.total rfl (by rw[v.2];omega);have tn:=O8 (c:=(n'.c i).ticked) (λk hk=>by show((n'.c i).rs k).used<=2048;rw[(same k hk).1];exact Q k hk) 8 0 (n'.c i).ticked.total rfl (by show(n'.c i).total<=_;rw[m.2];omega);have es:Dq (λj=>(((n'.c i).ticked).rs j).used) 8=Dq (λj=>(p.rs j).used) 8:=NH 8 λk hk=>by show((n'.c i).rs k).used=_;rw[(same k hk).1,up k hk]
  have z1:Dq (λj=>(((n'.c i).ticked).rs j).used) 0=0:=rfl;have z2:Dq (λj=>(p.rs j).used) 0=0:=rfl;have M:(n'.c i).ticked.tot=p.tot:=by
   unfold CS.tot;have N:(n'.c i).ticked.total=p.total:=by show(n'.c i).total=_;rw[m.2,v.2]
   omega
  have N:(n'.c i).ticked.grant=p.grant/\(n'.c i).ticked.anew=p.anew:=⟨mo.g.2,mo.g.1⟩;rw[M,N.1,N.2];exact S
 .have c:((n'.c i).ws k).cut=true:=c;show((n'.c i).ws k).telling=true;rw[(mo.w k hk).2.2];rw[(wf2 k hk).cut]at c;exact id.ct.w k hk c
 obtain⟨i1,i2⟩:=id.w k hk;obtain⟨m1,D,_⟩:=mo.w k hk;have f1:=wf1 k hk;have F:=wf2 k hk;have w:=so.w k hk;have o:=(H.d i hi).k k hk;have hb:((n.c i).ws k).bound<=((n.c i).ws k).high:=by
  have q1:=o.rd;have q2:=o.rh;have G:=d1 k hk;unfold E3 at G;unfold WS.bound;split
  .rename_i c;rw[AQ c]at G;by_cases s2:((n.c (1-i)).rs k).state=2
   .have:=(o.s2 s2).2;omega
   have st:=o.st;have:=(o.s1 I).2;have kf:=so.kf k hk;have fn:=(low k hk).fn;rw[f1.keep,f1.final]at kf;rw[f1.final,f1.b]at fn;omega
  rename_i c;rw[AI c]at G;have:=G.1;omega
 have eE:p.endOf k=(p.ws k).bound:=by
  have:=w.hl;have:=w.hc;have:=f1.high;rw[<-NU f1]at hb;have hE:p.end0 k=min (min (p.ws k).b.length (p.ws k).credit) ((p.ws k).high+p.credit-min p.credit p.spent):=rfl;unfold CS.endOf;unfold WS.bound at hb ⊢;split at hb
  .rename_i c;rw[AQ c,AQ c];omega
  rename_i c;rw[AI c,AI c];omega
 have eN:(n'.c i).ticked.endOf k<=((n'.c i).ws k).bound:=by
  have:=NQ (n'.c i).ticked k;have h0:(n'.c i).ticked.end0 k<=((n'.c i).ws k).b.length:=by
   show min (min ((n'.c i).ws k).b.length ((n'.c i).ws k).credit) _<=_;omega
  unfold WS.bound;split
  .rename_i c;unfold CS.endOf;rw[AQ (show((n'.c i).ticked.ws k).cut=true from c)];exact Nat.min_le_right _ _
  omega
 have e3:=NU F;refine⟨λq P=>m1 q (i1 q I),λx y=>?_⟩;have x:((n'.c i).ws k).fin=true:=x;have y:((n'.c i).ws k).b.length<=(n'.c i).ticked.endOf k:=y;show((n'.c i).ws k).ending=true;rw[D];unfold WS.fin at x;rw[F.fin,F.cut]at x;refine i2 x ?_;rw[F.b]at y;omega
end
def CS.lens(c:CS):Nat:=Dq (λk=>(c.ws k).b.length) 8
structure Lz(E X:Nat)(K:Nat->Nat)(w:Nat)(n:NS)(T:Nat):Prop where
 safe:n.Safe
 inv:n.Inv T
 links:n.Links
 bag:n.bag=[]
 gd:∀j,j<2->∀s∈n.g j,s.dl<=E
 nx:∀j,j<2->(n.c j).next<=X
 len:∀i,i<2->(n.c i).lens=K i
 ww:w<=n.window/\w<=n.total
variable{T:Nat}
def Lz.step{E X w:Nat}{K:Nat->Nat}(h:Lz E X K w n T)(hT:T+fairC<=Dg):∃n' L r,n.fair1=(true,n')/\Lz E (X+20) K w n' (T+fairC)/\IH n n' L r:=by
 obtain⟨n',L,r,e,hs,hI,hl,hb,t⟩:=fD h.safe h.inv h.links hT h.bag;refine⟨n',L,r,e,⟨hs,hI,hl,hb,λj h2 s d=>?_,λj d=>?_,λi hi=>?_,by rw[t.cfg.1,t.cfg.2];exact h.ww⟩,t⟩
 .obtain⟨s0,a,b⟩:=t.gd j s d;rw[<-b];exact h.gd j h2 s0 a
 .obtain⟨o,_,_,f⟩:=t.flu j d;have:=(t.same d).2.2.2.2.2.1;rw[this,(t.rv j d).nx,f.nx,(Jq (n.c j)).2.2.1];have:=f.len;have:=h.nx j d;omega
 obtain⟨o,_,_,f⟩:=t.flu i hi;have:(n'.c i).lens=(n.c i).lens:=NH 8 λk hk=>by
  rw[(t.same hi).2.2.2.2.1,((t.rv i hi).wf k hk).b,(f.ws k hk).b,((Jd (n.c i)).ws k).b];rfl
 rw[this];exact h.len i hi
theorem Uk(d:n.Safe){E:Nat}(gd:∀j,j<2->∀s∈n.g j,s.dl<=E)(he:E<n.now)(hi:i<2):(n.c i).tick.waits=[]:=by
 have w:=(Ti (d.so i hi)).wt;have e:=(Jq (n.c i)).2.2.2.2.1;have:=d.now i hi;cases hl:(n.c i).tick.waits with
 | nil=>rfl
 | cons f l =>
  obtain⟨_,a,s,b,_,c,_⟩:=w f (by rw[hl];exact AO);have:=gd i hi s b;omega
structure KJ(E X M w t g:Nat)(K b:Nat->Nat)(n:NS)(T:Nat):Prop where
 bas:Lz E X K w n T
 km:∀i,i<2->K i<M*w
 frs:Lu n
 ed:E<n.now
 told:1<=g->∀i,i<2->Hg (n.c i) (n.c (1-i))
 lv:∀i,i<2->∀m,(2*m+1<=g->Lv (m*w) (n.c i) (n.c (1-i)))/\(2*m+2<=g->Cr (m*w) n.window n.total (n.c i) (n.c (1-i)))
 rst:2*M+2<=g->∀i,i<2->D7 (n.c i).tick
 cnt:t<=g+b 0+b 1+1
 pro:∀i,i<2->∃N,43*b i<=(n.c i).pro+N/\N<=(n.c i).pro/\(1<=t->48*(n.c i).flight.length+6*N<=185+6*(n.c i).pro)
def Lv.done(hs:n.Safe)(hi:i<2)(hl:n.Links)(h:Hg (n.c i) (n.c (1-i))){M:Nat}(hM:(n.c i).lens<M)(l:Lv M (n.c i) (n.c (1-i))):Ix (n.c i) (n.c (1-i)):=by
 rcases l with l|l
 .exact l
 have:(n.c (1-i)).useds<=(n.c i).lens:=GO 8 λk hk=>by
  have d:=(hs.d i hi).k k hk;have:=((hl.l i hi).bel.low k hk).fn;have:=d.rd;have:=d.rh;have:=d.hl;rcases d.used (h k hk)with⟨_,_,e⟩|⟨_,e⟩<;>omega
 omega
variable{g t:Nat}
def KJ.step{E X M w:Nat}{K b:Nat->Nat}(h:KJ E X M w t g K b n T)(hT:T+fairC<=Dg)(hX:X+100<1073741824):∃n' g' b',n.fair1=(true,n')/\KJ E (X+20) M w (t+1) g' K b' n' (T+fairC)/\g<=g'/\(2*M+2<=g->∀i,i<2->(n'.c i).answer=false):=by
 obtain⟨n',L,r,e,B,tk⟩:=h.bas.step hT;have o:=h.bas.safe;have l:=B.safe;have hl:=h.bas.links;have p:=B.links;have y:Lu n':=Iu.tick tk h.frs (λ_ _ _ _ x=>x);have a:∀i,i<2->Fa n n' L r i:=λi hi=>Y4 o hl tk h.frs hi
 have u:∀i,i<2->1-(1-i)=i:=λi hi=>I
 have d:∀i,i<2->1-i<2:=λi hi=>I
 have s:∀i (hi:i<2),∀k,k<8->∃e e' f,GZ ((n.c i).ws k) ((n'.c i).ws k) ((n.c (1-i)).rs k) ((r (1-i)).rs k) e e' ((r i).ws k) f:=λi hi=>Wo o l p tk hi (a i hi) (a (1-i) (d i hi))
 have tot:=h.bas.inv.win.2.2;have wn:=λi (hi:i<2)=>Uk o h.bas.gd h.ed hi
 have ac:∀i (hi:i<2),∃ δ,48*(n'.c i).flight.length+6*(n.c i).pro<=137+6*(n'.c i).pro+48 * δ /\ (δ = 0 \/ δ = 1/\D7 (n.c i).tick.packets.2)/\(12<=(n.c i).flight.length+(n'.c i).flight.length\/D7 (n.c i).tick.packets.2)/\(n.c i).pro<=(n'.c i).pro:=λi hi=>(a i hi).acc (wn i hi) (λj d=>nC (h.bas.nx j d))
 have bd:∀i,i<2->∃bi,(D7 (n.c i).tick.packets.2/\bi=b i\/t=0/\bi=b i\/bi=b i+1)/\∃N,43*bi<=(n'.c i).pro+N/\N<=(n'.c i).pro/\(1<=t+1->48*(n'.c i).flight.length+6*N<=185+6*(n'.c i).pro):=λi hi=>by
  obtain⟨N,p1,p2,p3⟩:=h.pro i hi;obtain⟨δ,a1,a2,a3,v⟩:=ac i hi;have dl : δ <= 1:=I;by_cases id:D7 (n.c i).tick.packets.2
  .exact⟨b i,.inl ⟨id,rfl⟩,(n.c i).pro,I,v,λ_=>I⟩
  by_cases t0:t=0
  .exact⟨b i,.inr (.inl ⟨t0,rfl⟩),(n.c i).pro,I,v,λ_=>I⟩
  have:=p3 I;have:=a3.resolve_right id;have d0 : δ = 0:=a2.resolve_right (λx=>id x.2);exact⟨b i+1,.inr (.inr rfl),(n.c i).pro,I,v,λ_=>I⟩
 obtain⟨A,c0,p0⟩:=bd 0 I;obtain⟨C,c1,p1⟩:=bd 1 I;have cnt:=h.cnt;obtain⟨g',hg,hc⟩:∃g',(g'=g\/g'=g+1/\∀i,i<2->D7 (n.c i).tick.packets.2)/\t+1<=g'+A+C+1:=by
  by_cases D:D7 (n.c 0).tick.packets.2
  .by_cases F:D7 (n.c 1).tick.packets.2
   .refine⟨g+1,.inr ⟨rfl,λi hi=>?_⟩,?_⟩
    .rcases(I:i=0\/i=1)with rfl|rfl
     .exact D
     exact F
    rcases c0 with⟨_,c0⟩|⟨_,c0⟩|c0<;>rcases c1 with⟨_,c1⟩|⟨_,c1⟩|c1<;>omega
   refine⟨g,.inl rfl,?_⟩;rcases c0 with⟨_,c0⟩|⟨z,c0⟩|c0<;>rcases c1 with⟨x,c1⟩|⟨z,c1⟩|c1;all_goals first|exact absurd x F|omega
  refine⟨g,.inl rfl,?_⟩;rcases c0 with⟨x,c0⟩|⟨z,c0⟩|c0<;>rcases c1 with⟨_,c1⟩|⟨z,c1⟩|c1;all_goals first|exact absurd x D|omega
 have tl:1<=g'->∀i,i<2->Hg (n'.c i) (n'.c (1-i)):=λz i hi=>by
  by_cases q:1<=g
  .exact PQ (a i hi) (a (1-i) (d i hi)) (h.told q i hi)
  rcases hg with hg|⟨_,hg⟩
  .omega
  exact fC (a i hi) (hg i hi)
 have G:2*M+1<=g->∀i,i<2->Ix (n.c i) (n.c (1-i)):=λq i hi=>((h.lv i hi M).1 q).done o hi hl (h.told I i hi) (by rw[h.bas.len i hi];exact h.km i hi)
 refine⟨n',g',λi=>if i=0 then A else C,e,⟨B,h.km,y,by rw[tk.now];have:=h.ed;omega,tl,λi hi m=>⟨λq=>?_,λq=>?_⟩,λq i hi=>?_,hc,λi hi=>?_⟩,by rcases hg with x|⟨x,_⟩<;>omega,λq i hi=>?_⟩
 .by_cases z:2*m+1<=g
  .exact((h.lv i hi m).1 z).keep (s i hi) (a i hi) (a (1-i) (d i hi)) (h.told I i hi)
  rcases hg with hg|⟨hg,id⟩
  .omega
  by_cases m0:m=0
  .subst m0;rw[Cd];exact .inr (AM _)
  have:=((h.lv i hi (m-1)).2 I).send (s i hi) (a i hi) (a (1-i) (d i hi)) (h.told I i hi) (id i hi) h.bas.ww.1 h.bas.ww.2;have em:(m-1)*w+w=m*w:=by
   rw[<-Nat.succ_mul,(I:(m-1).succ=m)]
  rw[em]at this;exact this
 .by_cases z:2*m+2<=g
  .rw[tk.cfg.1,tk.cfg.2];exact((h.lv i hi m).2 z).keep (s i hi) (a i hi) (a (1-i) (d i hi)) (h.told I i hi)
  rcases hg with hg|⟨hg,id⟩
  .omega
  rw[tk.cfg.1,tk.cfg.2];exact((h.lv i hi m).1 I).grant o (s i hi) hi hl (a i hi) (a (1-i) (d i hi)) (h.told I i hi) tot (id (1-i) (d i hi))
 .have H:2*M+1<=g:=I;have id:D7 (n.c i).tick.packets.2:=by
   by_cases z:2*M+2<=g
   .exact((a i hi).idle (h.rst z i hi)).1
   rcases hg with hg|⟨hg,id⟩
   .omega
   exact id i hi
  have J:=h.told I (1-i) (d i hi);have d2:=G H (1-i) (d i hi);rw[u i hi]at J d2;exact fB o l hl p tk hi (a i hi) (a (1-i) (d i hi)) (h.told I i hi) J (G H i hi) d2 id y (Uk l B.gd (by rw[tk.now];have:=h.ed;omega) hi) tot
 .rcases(I:i=0\/i=1)with rfl|rfl
  .exact p0
  exact p1
 rw[(a i hi).ans];exact((a (1-i) (d i hi)).idle (h.rst q (1-i) (d i hi))).2
def NS.bytes(n:NS):Nat:=Dq (λi=>Dq (λk=>(n.e i k).wrote.length) 8) 2
def NS.least(n:NS):Nat:=if n.total<n.window then n.total else n.window
def NS.enough(n:NS):Nat:=60+2*(n.bytes / n.least+1)+n.bytes / 16
def EN.thr(o:EN):Bool := !((o.cut&&o.state==0)||(o.fin && !o.cut&&o.state != 1)) && !(!o.cut&&o.read != o.wrote.length)
theorem Uj:∀(a b:Nat) {n c:NS},NS.fairs a n=(true,c)->NS.fairs (a+b) n=NS.fairs b c
 | 0,b,n,c,h=>by cases h;rw[A6]
 | a+1,b,n,c,h=>by
  have h:(if n.fair1.1 then NS.fairs a n.fair1.2 else(false,n.fair1.2))=(true,c):=h;rw[(I:a+1+b=a+b+1)];show(if n.fair1.1 then NS.fairs (a+b) n.fair1.2 else(false,n.fair1.2))=_;split at h
  .rename_i q;rw[AQ q];exact Uj a b h
  cases h
def RE(h:n.fair1=(true,n'))(s:Nat):NS.fairs (s+1) n=NS.fairs s n':=by
 show(if n.fair1.1 then _ else _)=_;rw[h];rfl
theorem TL{E w D:Nat}{K:Nat->Nat}:∀s {X T:Nat} {n:NS},Lz E X K w n T->Iu (λq=>q.at_<=D) n->T+s*fairC<=Dg->∃n',NS.fairs s n=(true,n')/\Lz E (X+20*s) K w n' (T+s*fairC)/\Iu (λq=>q.at_<=D) n'/\n'.now=n.now+s
 | 0,X,T,n,h,y,_=>⟨n,rfl,by rw[Nat.mul_zero,Cd];exact h,y,rfl⟩
 | s+1,X,T,n,h,y,hT=>by
  have e1:(s+1)*fairC=s*fairC+fairC:=Nat.succ_mul s fairC;rw[e1]at hT ⊢;generalize hc:s*fairC=q at *;have f:T+fairC<=T+(q+fairC)/\T+fairC+q<=T+(q+fairC):=by clear hT;omega
  obtain⟨n1,L,r,e,B,t⟩:=h.step (AJ f.1 hT);have y1:=Iu.tick t y (P':=λq=>q.at_<=D) (λ_ _ _ _ x=>x);obtain⟨n',a,b,c,d⟩:=TL s B y1 (by rw[hc];exact AJ f.2 hT);rw[hc]at b;refine⟨n',(RE e s).trans a,?_,c,by rw[d,t.now];omega⟩;rw[(I:X+20*(s+1)=X+20+20*s),(I:T+(q+fairC)=T+fairC+q)];exact b
theorem KJ.run{E M w:Nat}{K:Nat->Nat}:∀s {X t g T:Nat} {b:Nat->Nat} {n:NS},KJ E X M w t g K b n T->T+s*fairC<=Dg->X+20*s+100<1073741824->∃n' g' b',NS.fairs s n=(true,n')/\KJ E (X+20*s) M w (t+s) g' K b' n' (T+s*fairC)/\g<=g'/\(2*M+2<=g->1<=s->∀i,i<2->(n'.c i).answer=false)
 | 0,X,t,g,T,b,n,h,_,_=>⟨n,g,b,rfl,by rw[Nat.mul_zero,Cd];exact h,AF _,λ_ z=>absurd z I⟩
 | s+1,X,t,g,T,b,n,h,hT,hX=>by
  have e1:(s+1)*fairC=s*fairC+fairC:=Nat.succ_mul s fairC;rw[e1]at hT ⊢;generalize hc:s*fairC=q at *;have j:T+fairC<=T+(q+fairC)/\T+fairC+q<=T+(q+fairC):=by clear hT;omega
  obtain⟨n1,g1,b1,e,B,hg,an⟩:=h.step (AJ j.1 hT) I;obtain⟨n',g',b',a,c,d,f⟩:=KJ.run s B (by rw[hc];exact AJ j.2 hT) I;rw[hc]at c;refine⟨n',g',b',(RE e s).trans a,?_,AJ hg d,λz _=>?_⟩
  .rw[(I:X+20*(s+1)=X+20+20*s),(I:T+(q+fairC)=T+fairC+q),(I:t+(s+1)=t+1+s)];exact c
  by_cases s0:s=0
  .subst s0;cases a;exact an z
  exact f I I
def LK(h:∀k,k<8->EV (c.ws k)):c.pro<=c.lens+32:=by
 have:=GO (f:=λk=>(c.ws k).pro) (g:=λk=>(c.ws k).b.length+4) 8 (λk hk=>by
  have l:=h k hk;have:=Lh (H:=(c.ws k).b.length) (a:=(c.ws k).sent.rs) (λp hp=>A7 (ML l.sent hp) l.hl);show(c.ws k).pro<=_;unfold WS.pro;split<;>split<;>omega)
 have e:Dq (λk=>(c.ws k).b.length+4) 8=c.lens+32:=by
  unfold CS.lens;simp only[Dq];omega
 unfold CS.pro;omega
structure Om(n n1 n2:NS)(t T:Nat):Prop where
 fair:n.fair t=(true,n1)
 inv1:n1.Inv (T+t*fairC)
 up1:n1.Up
 thr:∀i,i<2->∀k,k<8->(n1.e i k).thr=true
 quiet:n1.fair 12=(true,n2)
 inv2:n2.Inv (T+t*fairC+12*fairC)
 up2:n2.Up
 f0:(n2.flush 0).1=true
 f1:((n2.flush 0).2.flush 1).1=true
 bag:((n2.flush 0).2.flush 1).2.bag=[]
def LN(h:n.bag=[]):({ n with bag:=[] }:NS)=n:=by rw[<-h]
def Q9(h:n.Inv T):n.bytes<=32768/\16<=n.least/\n.enough<=6206:=by
 have b1:n.bytes<=32768:=by
  have:=GO (f:=λi=>Dq (λk=>(n.e i k).wrote.length) 8) (g:=λ_=>16384) 2 (λi hi=>GO (g:=λ_=>2048) 8 (λk hk=>(h.e i hi k hk).wl));exact this
 have a:16<=n.least:=by
  have:=h.win;unfold NS.least;split<;>omega
 refine⟨b1,a,?_⟩;have:n.bytes / n.least<=n.bytes / 16:=Nat.div_le_div_left a I;unfold NS.enough;omega
def D7.untick(h:D7 c.ticked)(hw:c.waits=[]):D7 c:=⟨⟨h.ct.r,h.ct.t,h.ct.w⟩,h.w,hw⟩
theorem jq(C:n.Safe)(hI:n.Inv 3284992)(hl:n.Links):∃n1 n2,Om n n1 n2 n.enough 3284992:=by
 obtain⟨b1,b2,b3⟩:=Q9 hI;have D:∀(p:Nat×nG),p∈([]:List (Nat×nG))->Pk n p:=λp hp=>nomatch hp
 have t:n.bytes=(n.c 0).lens+(n.c 1).lens:=by
  have e:∀i,i<2->Dq (λk=>(n.e i k).wrote.length) 8=(n.c i).lens:=λi hi=>NH 8 λk hk=>by rw[((C.d i hi).k k hk).wr]
  have:n.bytes=0+Dq (λk=>(n.e 0 k).wrote.length) 8+Dq (λk=>(n.e 1 k).wrote.length) 8:=rfl;rw[this,e 0 I,e 1 I];omega
 have B0:Lz (n.now+8) 105119744 (λi=>(n.c i).lens) n.least { n with bag:=[] } 3284992:=by
  refine⟨C.withBag D,hI.withBag D (AM _),hl.withBag D,rfl,λj E s F=>hl.dl j E s F,λj E=>(hI.c j E).next,λi _=>rfl,?_⟩;show n.least<=n.window/\n.least<=n.total;unfold NS.least;split<;>omega
 have Y0:Iu (λq=>q.at_<=n.now) { n with bag:=[] }:=λi hi q t=>.inr (by
  have:=((hl.l i hi).num q t).2;have:=C.now i hi;show q.at_<=n.now;omega)
 have m1:∀s,s<=6300->3284992+s*fairC<=Dg:=λs hh=>by
  have:s*fairC<=6300*fairC:=B8 _ hh;unfold fairC Dg at *;omega
 obtain⟨P,e8,Q,Y8,G⟩:=TL 8 B0 Y0 (m1 8 I);have G:P.now=n.now+8:=G;obtain⟨H,L,r,e9,B9,R⟩:=Q.step (T:=3284992+8*fairC) (by have:=m1 9 I;unfold fairC at *;omega);have F9:Lu H:=Iu.tick R Y8 (λi hi q t x=>by
  have:=((Jq (P.c i)).2.2.2.2.2.2.2 q t).2;have:=Q.safe.now i hi;have x:q.at_<=n.now:=x;omega)
 obtain⟨w,hw⟩:=nn n.least;obtain⟨M,S⟩:∃M,M=n.bytes / n.least+1:=⟨_,rfl⟩;have hMw:n.bytes<M*n.least:=by
  rw[S,Nat.succ_mul];have:=Nat.div_add_mod n.bytes n.least;have:=Nat.mod_lt n.bytes (I:0<n.least);rw[AL];omega
 have S9:KJ (n.now+8) (105119744+20*8+20) M n.least 0 0 (λi=>(n.c i).lens) (λ_=>0) H (3284992+8*fairC+fairC) :=
  ⟨B9,λi hi=>by
   rcases(I:i=0\/i=1)with rfl|rfl
   .show(n.c 0).lens<_;omega
   show(n.c 1).lens<_;omega,F9,by rw[R.now,G];omega,λz=>absurd z I,λi hi m=>⟨λz=>absurd z I,λz=>absurd z I⟩,λz=>absurd z I,I,λi hi=>⟨(H.c i).pro,I,AF _,λz=>absurd z I⟩⟩
 have en:n.enough=60+2*M+n.bytes / 16:=by rw[S];rfl
 obtain⟨n1,g1,bb,e1,g,_,_⟩:=S9.run (n.enough-9) (by have:=m1 n.enough I;unfold fairC at *;omega) I;have V:∀i,i<2->43*bb i<=2*((n.c i).lens+32):=λi hi=>by
  obtain⟨N,p1,p2,_⟩:=g.pro i hi;have p3:=LK (c:=n1.c i) (λk hk=>(g.bas.links.l i hi).bel.low k hk);have:=g.bas.len i hi;have:(n1.c i).lens=(n.c i).lens:=this;omega
 have p0:=V 0 I;have p1:=V 1 I;have cn:=g.cnt;have hg:2*M+2<=g1:=I;obtain⟨n2,g2,b2',e2,h,hg2,A⟩:=g.run 12 (by have:=m1 (n.enough+12) I;unfold fairC at *;omega) I;have A:=A hg I;have W:3284992+8*fairC+fairC+(n.enough-9)*fairC=3284992+n.enough*fairC:=by unfold fairC;omega
 have s2:=h.bas.safe;have o:=h.bas.inv;rw[W]at o;have B:3284992+n.enough*fairC+12*fairC+1<=Dg:=by have:=m1 (n.enough+13) I;unfold fairC at *;omega
 have u:3284992+n.enough*fairC+12*fairC<=Dg:=AJ (Bv _) B;have id:∀i,i<2->D7 (n2.c i):=λi hi=>by
  have et:(n2.c i).tick=(n2.c i).ticked:=PR λq t=>by
   have y:=h.frs.y hi t;exact⟨y.at_.trans (s2.now i hi).symm,y.lg⟩
  have z:=h.rst I i hi;rw[et]at z;refine z.untick ?_;cases hl:(n2.c i).waits with
  | nil=>rfl
  | cons f l =>
   obtain⟨_,a,s,b,_,c,_⟩:=(s2.so i hi).wt f (by rw[hl];exact AO);have:=h.bas.gd i hi s b;have:=h.ed;have:=s2.now i hi;omega
 obtain⟨f0,J⟩:=s2.flush o u (I:0<2);have K:=o.flush u (I:0<2);have l3:=h.bas.links.flush s2 o u (I:0<2);obtain⟨L0,F0⟩:=h.bas.links.flu s2 o u (I:0<2);obtain⟨k0,X⟩:=NT s2 o u (I:0<2);obtain⟨f1,_⟩:=J.flush K B (I:1<2);obtain⟨L1,Y⟩:=l3.flu J K B (I:1<2);obtain⟨k1,Z⟩:=NT J K B (I:1<2);have O:(n2.flush 0).2.c 1=n2.c 1:=by rw[X];exact NS.setC_o n2 (i:=0) I (n2.c 0).packets.2
 rw[O]at Y Z;have z0:=(F0.idle (id 0 I)).2.2 (A 0 I);have z1:=(Y.idle (id 1 I)).2.2 (A 1 I);have bg:((n2.flush 0).2.flush 1).2.bag=[]:=by
  rw[Z];show(n2.flush 0).2.bag++((n2.c 1).packets.1.map λx=>(1-1,x))=[];rw[z1,X];show n2.bag++((n2.c 0).packets.1.map λx=>(1-0,x))++_=[];rw[z0,h.bas.bag];rfl
 have i1:=g.bas.inv;rw[W]at i1;refine⟨n1,n2,?_,i1,g.bas.safe.up,λi hi k hk=>?_,?_,o,s2.up,f0,f1,bg⟩
 .show NS.fairs n.enough { n with bag:=[] }=_;rw[(I:n.enough=8+(1+(n.enough-9))),Uj _ _ e8,(I:1+(n.enough-9)=(n.enough-9)+1),RE e9];exact e1
 .have d:=(g.bas.safe.d i hi).k k hk;have v:=((g.lv i hi M).1 I).done g.bas.safe hi g.bas.links (g.told I i hi) (by rw[g.bas.len i hi];exact g.km i hi) k hk;unfold E3 at v;unfold EN.thr;rw[d.cu,d.es,d.fi,d.er,d.wr];split at v
  .rename_i c;rw[c];simp[v]
  rename_i c;have c:((n1.c i).ws k).cut=false:=nF c;rw[c,v.1];cases hf:((n1.c i).ws k).finished with
  | false=>simp
  | true=>simp[v.2 hf]
 show NS.fairs 12 { n1 with bag:=[] }=_;rw[LN g.bas.bag];exact e2
end
end Go.Proofs.YtddfdpbaiedcjaaGreatDoor
