/- A part of Given's proof. Conditions: none. Part 14 of 15. -/
import Derived.Test.YtddfdpbaiedcjaaGreatDoorGiv13
import Derived.Test.YtddfdpbaiedcjaaGreatDoorGiv12
set_option maxRecDepth 100000
set_option maxHeartbeats 16000000
set_option linter.all false
namespace Go.Proofs.YtddfdpbaiedcjaaGreatDoor
section
open Go.RowKit
def Dl(f:Nat->Nat):Nat->Nat
 | 0=>0
 | n+1=>Dl f n+f n
theorem GJ{f g:Nat->Nat}:∀n,(∀j,j<n->f j<=g j)->Dl f n<=Dl g n
 | 0,_=>AF _
 | n+1,h=>Nat.add_le_add (GJ n λj a=>h j I)<|h n I
def NC{f g:Nat->Nat}(n:Nat)(h:∀j,j<n->f j=g j):Dl f n=Dl g n :=
 Nat.le_antisymm (GJ n λj a=>Az<|h j a) (GJ n λj a=>Az (h j a).symm)
variable{k:Nat}
theorem MR{f g:Nat->Nat}(h:∀j,j≠k->g j=f j):∀n,k<n->Dl g n+f k=Dl f n+g k
 | 0,hk=>absurd hk<|A6 _
 | n+1,hk=>by
  show Dl g n+g n+f k=Dl f n+f n+g k;by_cases e:k=n
  .subst e;have:=NC (f:=g) (g:=f) k<|λj a=>h j I;omega
  have:=MR h n I;have:=h n<|Ne.symm e;omega
def WS.mQ(x:WS):Nat:=oU x.lJ.rs+(if x.ending then 1 else 0)+(if x.lN then 3 else 0)
def CS.mQ(c:CS):Nat:=Dl (λk=>(c k).mQ) 8
def RS.due(x:RS)(w:Nat):Bool:=(decide (x.kz<max x.kz (x.used+w))||x.lU)&&x.mb
def Fm(c:CS):Nat->Nat->Nat->Nat
 | 0,_,t=>t
 | n+1,k,t=>Fm c n (k+1)<|min (t+(c.rs k).used) zF
def CS.nA(c:CS):Nat:=Fm c 8 0 c.total
def CS.nU(c:CS):Bool:=decide (c.kz<max c.nA c.kz)||c.lU
def CS.pP(c:CS):Nat:=Dl (λk=>if (c.rs k).due c.lD then 6 else 0) 8
def CS.due(c:CS):Nat:=c.pP+if c.nU then 9 else 0
def EM(d:DX):Prop:=d.room<=d.b.length+12
variable{d:DX}{f:DV}
def Oo(h:d.add f=none):d.room<d.b.length+(zC f).length+4:=by
 unfold DX.add at h;split at h
 .rename_i q;rw[AG]at q;exact q
 cases h
def Fi(n:Nat):(zI n).length=if n<64 then 1 else if n<16384 then 2 else if n<1073741824 then 4 else 8:=by
 unfold zI;repeat' split
 all_goals rfl
variable{c c':CS}
theorem PF(h:∀k,(c'.rs k).used=(c.rs k).used):∀n k t,Fm c' n k t=Fm c n k t
 | 0,_,_=>rfl
 | n+1,k,t=>by
  unfold Fm;rw[h k];exact PF h n _ _
theorem QU:∀n k t,(EO c d n k t).1=none->(EO c d n k t).2=Fm c n k t/\∀j,k<=j->j<k+n->(c.rs j).due c.lD=true->∃g,g=max (c.rs j).kz ((c.rs j).used+c.lD)/\d.add (Fz j g)=none
 | 0,k,t,_=>⟨rfl,λj h1 h2=>I⟩
 | n+1,k,t,h=>by
  have fin:(EO c d n (k+1)<|min (t+(c.rs k).used) zF).1=none->((c.rs k).due c.lD=true->∃g,g=max (c.rs k).kz ((c.rs k).used+c.lD)/\d.add (Fz k g)=none)->(EO c d n (k+1)<|min (t+(c.rs k).used) zF).2=Fm c (n+1) k t/\∀j,k<=j->j<k+(n+1)->(c.rs j).due c.lD=true->∃g,g=max (c.rs j).kz ((c.rs j).used+c.lD)/\d.add (Fz j g)=none:=λh1 h2=>by
   obtain⟨a,b⟩:=QU n _ _ h1;refine⟨a,λj j1 j2 f=>?_⟩;by_cases e:j=k
   .subst e;exact h2 f
   exact b j I I f
  unfold EO at h ⊢;by_cases q:((decide ((c.rs k).kz<max (c.rs k).kz ((c.rs k).used+c.lD))||(c.rs k).lU)&&(c.rs k).mb)=true
  .rw[AM q]at h ⊢;cases hd:d.add (Fz k<|max (c.rs k).kz<|(c.rs k).used+c.lD)with
   | some d'=>rw[hd]at h;cases h
   | none =>
    simp only[hd]at h ⊢;exact fin h<|λ_=>⟨_,rfl,hd⟩
  rw[AH q]at h ⊢;exact fin h<|λx=>absurd x q
structure Bd(c:CS):Prop where
 low:∀k,k<8->ET (c k)
 kf:∀k,k<8->(c k).lG<=(c k).final
 gr:∀k,k<8->(c.rs k).kz<=6144
 us:∀k,k<8->(c.rs k).mb=true->(c.rs k).used<=2048
 mj:c.lD<=4096
def Ek(c:CS)(d:DX)(c':CS)(a:DX):Prop:=a.b.length+c'.due+6*c.mQ<=d.b.length+c.due+6*c'.mQ/\c.mQ<=c'.mQ
def Ek.refl(c:CS)(d:DX):Ek c d c d:=⟨AF _,AF _⟩
variable{c2:CS}
def Ek.trans{c1 c3:CS}{a c d:DX}(h:Ek c1 a c2 c)(k:Ek c2 c c3 d):Ek c1 a c3 d:=by
 unfold Ek at *;omega
variable{d':DX}
def Ko(h:d.add f=some d'):d'.b.length=d.b.length+(zC f).length:=by
 rw[(DX.mK h).1,AG]
def SM(h:Bd c)(a:k<8)(d:(c.rs k).mb=true):(zC (Fz k (max (c.rs k).kz ((c.rs k).used+c.lD)))).length<=6:=by
 have:=h.gr k a;have:=h.us k a d;have:=h.mj;have e:(zC<|Fz k<|max (c.rs k).kz<|(c.rs k).used+c.lD).length=1+(zI k).length+(zI<|max (c.rs k).kz<|(c.rs k).used+c.lD).length:=by
  show(([17]++zI ((k:Int).toNat))++zI _).length=_;rw[Ad,AG,AG];rfl
 rw[e,Fi,Fi,AM I];repeat' split
 all_goals omega
def LG(h:Bd c)(a:k<8):(zC (He k (c k).final (c k).lG)).length<=6:=by
 have:=(h.low k a).fn;have:=(h.low k a).bl;have:=h.kf k a;have e:(zC<|He k (c k).final (c k).lG).length=1+(zI k).length+(zI (c k).final).length+(zI (c k).lG).length:=by
  show((([36]++zI ((k:Int).toNat))++zI _)++zI _).length=_;rw[Ad,AG,AG,AG];rfl
 rw[e,Fi,Fi,Fi,AM I];repeat' split
 all_goals omega
def LN(n:Nat):(zC (Gt n)).length<=9:=by
 have:=Ot n;show([16]++zI n).length<=9;rw[AG];show 1+_<=9;omega
theorem Q1(h:Bd c):∀n k t,n+k=8->∀x,(EO c d n k t).1=some x->Ek c d x.1 x.2
 | 0,_,_,_,x,hx=>by cases hx
 | n+1,k,t,hk,x,hx=>by
  unfold EO at hx;split at hx
  .rename_i q;split at hx
   .rename_i o hd;cases hx;have p:(c.rs k).due c.lD=true:=q;simp only[AZ]at q;have l:=SM h (I:k<8) q.2;have e:=Ko hd;obtain⟨y,a⟩:∃y,y=({ c.rs k with kz:=max (c.rs k).kz<|(c.rs k).used+c.lD,lU:=false }:RS):=⟨_,rfl⟩;have v:y.due c.lD=false:=by
     rw[a];show((decide (max (c.rs k).kz ((c.rs k).used+c.lD)<max (max (c.rs k).kz<|(c.rs k).used+c.lD) ((c.rs k).used+c.lD))||false)&&_)=false;rw[show decide (max (c.rs k).kz ((c.rs k).used+c.lD)<max (max (c.rs k).kz<|(c.rs k).used+c.lD) ((c.rs k).used+c.lD))=false from As I];rfl
    have u:∀j,(ze c.rs k y j).used=(c.rs j).used:=λj=>by
     by_cases x:j=k
     .subst x;rw[zf,a];rfl
     rw[zd _ _ x]
    have s:=MR (f:=λj=>if (c.rs j).due c.lD then 6 else 0) (g:=λj=>if (ze c.rs k y j).due c.lD then 6 else 0) (k:=k) (λj e=>by simp only[zd _ _ e]) 8 I;simp only[zf,v,p]at s;rw[<-a];have a:({ c with rs:=ze c.rs k y }:CS).nU=c.nU:=by
     unfold CS.nU CS.nA;rw[PF (c:=c) (c':={ c with rs:=ze c.rs k y }) u]
    refine⟨?_,AF _⟩;show o.b.length+(Dl (λj=>if (ze c.rs k y j).due c.lD then 6 else 0) 8+(if ({ c with rs:=ze c.rs k y }:CS).nU then 9 else 0))+6*c.mQ<=d.b.length+(Dl (λj=>if (c.rs j).due c.lD then 6 else 0) 8+(if c.nU then 9 else 0))+6*c.mQ;rw[a];simp at s;omega
   exact Q1 h n _ _ I x hx
  exact Q1 h n _ _ I x hx
theorem UN(h:Bd c):∀n k,n+k=8->(∀x,ER c d n k=some x->Ek c d x.1 x.2)/\(ER c d n k=none->∀j,k<=j->j<8->EM d\/((c j).cut=true->(c j).lN=true))
 | 0,_,_=>⟨λx o=>(by cases o),λ_ j u t=>I⟩
 | n+1,k,hk=>by
  obtain⟨v,A⟩:=UN h n (k+1) I;have l:=LG h (I:k<8);unfold ER;split
  .rename_i q;simp only[AZ,Bl]at q;cases hd:d.add (He k (c k).final (c k).lG)with
   | some d' =>
    refine⟨λx o=>?_,λo=>(by cases o)⟩;cases o;have e:=Ko hd;obtain⟨y,a⟩:∃y,y=({ c.ws k with lN:=true }:WS):=⟨_,rfl⟩;have p:y.mQ=(c k).mQ+3:=by
     rw[a];unfold WS.mQ;simp[q.2]
    have s:=MR (f:=λj=>(c j).mQ) (g:=λj=>(ze c.ws k y j).mQ) (k:=k) (λj f=>by simp only[zd _ _ f]) 8 I;simp only[zf,p]at s;rw[<-a];refine⟨?_,by show Dl (λj=>(c j).mQ) 8<=Dl (λj=>(ze c.ws k y j).mQ) 8;omega⟩;show d'.b.length+c.due+6*Dl (λj=>(c j).mQ) 8<=d.b.length+c.due+6*Dl (λj=>(ze c.ws k y j).mQ) 8;omega
   | none =>
    have a:=Oo hd;refine⟨v,λo j u t=>?_⟩;by_cases e:j=k
    .exact .inl (by unfold EM;omega)
    exact A o j I t
  rename_i q;refine⟨v,λo j u t=>?_⟩;by_cases e:j=k
  .subst e;refine .inr λz=>?_
   rw[z]at q;simpa using q
  exact A o j I t
structure JT(c:CS):Prop where
 r:∀k,k<8->(c.rs k).due c.lD=false
 t:c.nU=false
 w:∀k,k<8->(c k).cut=true->(c k).lN=true
theorem jl(h:Bd c):(∀x,c.control d=some x->Ek c d x.1 x.2)/\(c.control d=none->EM d\/JT c):=by
 unfold CS.control;cases hr:(EO c d 8 0 c.total).1 with
 | some y=>exact⟨λx a=>by cases a;exact Q1 h 8 0 c.total rfl y hr,λa=>(by cases a)⟩
 | none =>
  obtain⟨l,p⟩:=QU 8 0 c.total hr;obtain⟨o,s⟩:=UN h (d:=d) 8 0 rfl;simp only[l];have f:EM d\/∀k,k<8->(c.rs k).due c.lD=false:=by
   by_cases b:EM d
   .exact .inl b
   refine .inr λk e=>?_
   cases hq:(c.rs k).due c.lD with
   | false=>rfl
   | true =>
    obtain⟨g,rfl,t⟩:=p k I I hq;have:=Oo t;unfold RS.due at hq;simp only[AZ]at hq;have:=SM h e hq.2;exact absurd (by unfold EM;omega) b
  have u:ER c d 8 0=none->EM d\/∀k,k<8->(c k).cut=true->(c k).lN=true:=λa=>by
   by_cases b:EM d
   .exact .inl b
   exact .inr λk e=>(s a k I e).resolve_left b
  unfold Iu;by_cases q:(decide (c.kz<max (Fm c 8 0 c.total) c.kz)||c.lU)=true
  .rw[AM q];have l:=LN<|max (Fm c 8 0 c.total) c.kz;cases hd:d.add (Gt<|max (Fm c 8 0 c.total) c.kz)with
   | some d' =>
    refine⟨λx a=>?_,λa=>(by cases a)⟩;cases a;have e:=Ko hd;have e:({ c with kz:=max (Fm c 8 0 c.total) c.kz,lU:=false }:CS).nU=false:=by
     unfold CS.nU CS.nA;rw[PF (c:=c) (c':={ c with kz:=max (Fm c 8 0 c.total) c.kz,lU:=false }) (λ_=>rfl)];show(decide (max (Fm c 8 0 c.total) c.kz<max (Fm c 8 0 c.total) (max (Fm c 8 0 c.total) c.kz))||false)=false;rw[As I];rfl
    have h:c.nU=true:=q;refine⟨?_,AF _⟩;show d'.b.length+(c.pP+(if ({ c with kz:=max (Fm c 8 0 c.total) c.kz,lU:=false }:CS).nU then 9 else 0))+6*c.mQ<=d.b.length+(c.pP+(if c.nU then 9 else 0))+6*c.mQ;rw[e,h];simp;omega
   | none =>
    have:=Oo hd;exact⟨o,λa=>.inl<|by unfold EM;omega⟩
  rw[AH q];refine⟨o,λa=>?_⟩;rcases f with f|f
  .exact .inl f
  exact(u a).imp id (λw=>⟨f,Bool.eq_false_iff.2 q,w⟩)
def Hu(c:CS)(k:Nat):Prop:=(∀p,p<c.lr k->De (c k).lJ.rs p)/\((c k).fin=true->(c k).b.length<=c.lr k->(c k).ending=true)
def On(k lo:Nat)(fin:Bool)(s:rC):(zC (EV k lo fin s)).length=1+(zI k).length+(zI lo).length+(zI s.length).length+s.length:=by
 cases fin
 .show((([8]++zI ((k:Int).toNat))++zI lo)++(zI s.length++s)).length=_;rw[Ad];simp only[AG,Ac];omega
 show((([9]++zI ((k:Int).toNat))++zI lo)++(zI s.length++s)).length=_;rw[Ad];simp only[AG,Ac];omega
variable{b:Nat}
def eI{a:Nat}(h:a<=b):(zI a).length<=(zI b).length:=by
 rw[Fi,Fi];repeat' split
 all_goals omega
structure Fk(k:Nat)(c c':CS):Prop where
 rs:c'.rs=c.rs
 g:c'.lU=c.lU/\c'.kz=c.kz/\c'.lD=c.lD/\c'.total=c.total/\c'.lA=c.lA/\c'.waits=c.waits
 ws:∀j,j≠k->c'.ws j=c.ws j
 wk:(c' k).cut=(c k).cut/\(c' k).lN=(c k).lN
 sp:c.mi<=c'.mi
def Fk.refl(k:Nat)(c:CS):Fk k c c:=⟨rfl,⟨rfl,rfl,rfl,rfl,rfl,rfl⟩,λ_ _=>rfl,⟨rfl,rfl⟩,AF _⟩
def Fk.trans{a b:CS}(h:Fk k a b)(q:Fk k b c):Fk k a c:=by
 obtain⟨a,c,d,e,f,l⟩:=h.g;obtain⟨o,p,s,t,u,v⟩:=q.g;exact⟨q.rs.trans h.rs,⟨o.trans a,p.trans c,s.trans d,t.trans e,u.trans f,v.trans l⟩,λj a=>(q.ws j a).trans<|h.ws j a,⟨q.wk.1.trans h.wk.1,q.wk.2.trans h.wk.2⟩,AK h.sp q.sp⟩
def Fk.qS(q:Fk k c c')(h:JT c):JT c':=by
 obtain⟨d,f,l,o,p,s⟩:=q.g;refine⟨λj a=>by rw[q.rs,l];exact h.r j a,?_,λj a=>?_⟩
 .have:=h.t;unfold CS.nU CS.nA at this ⊢;rw[PF (c:=c) (λj=>by rw[q.rs]),d,f,o];exact this
 by_cases e:j=k
 .subst e;rw[q.wk.1,q.wk.2];exact h.w j a
 rw[q.ws j e];exact h.w j a
variable{j:Nat}
def Fk.qR(q:Fk k c c')(a:j≠k)(h:Hu c j):Hu c' j:=by
 have e:c'.lr j<=c.lr j:=by
  have:=q.sp;unfold CS.lr CS.nI;rw[q.ws j a,q.g.2.2.2.2.1];split<;>omega
 unfold Hu;rw[q.ws j a];exact⟨λp a=>h.1 p I,λa b=>h.2 a I⟩
variable{hi lo:Nat}
theorem WJ(h:Bd c){fin:Bool}(u:k<8)(s:lo<=hi)(A:hi<=(c k).b.length)(free:∀p,lo<=p->p<hi->¬De (c k).lJ.rs p)(v:lo=hi->fin=true/\(c k).ending=false)(t:d.b.length+(zC (EV k lo fin (((c k).b.drop lo).take (hi-lo)))).length+4<=d.room):∃t l,c.ll d k lo hi fin=(true,t,l)/\Ek c d t l/\Fk k c t/\l.full=d.full:=by
 have o:(((c k).b.drop lo).take<|hi-lo).length=hi-lo:=by
  rw[AU,Ag];omega
 obtain⟨z,t,A,B,E⟩:=h.low k u;unfold CS.ll;cases hd:d.add (EV k lo fin<|((c k).b.drop lo).take<|hi-lo)with
 | none=>have:=Oo hd;omega
 | some l =>
  obtain⟨y,q⟩:∃y,y=({ c.ws k with lJ:=if lo<hi then(c k).lJ.add lo (hi-1)else(c k).lJ,ending:=(c k).ending||fin,high:=max (c k).high hi }:WS):=⟨_,rfl⟩;have e:=Ko hd;rw[On,o]at e;have p:(c k).mQ+(hi-lo)+(if lo=hi then 1 else 0)<=y.mQ:=by
   have h:y.ending=((c k).ending||fin)/\y.lN=(c k).lN/\y.lJ=if lo<hi then(c k).lJ.add lo (hi-1)else(c k).lJ:=by rw[q];exact ri
   unfold WS.mQ;rw[h.1,h.2.1,h.2.2];by_cases x:lo<hi
   .obtain⟨o,h⟩:=(z.mono<|BO _ hi).ins I (lo:=lo) (hi:=hi-1) I;have ct:=Ww (a:=(c k).lJ.rs) (b:=((c k).lJ.add lo<|hi-1).rs) (lo:=lo) (hi:=hi) s I (λp=>(h p).trans<|or_congr_right I) free;rw[AM x,ct,AH (I:¬lo=hi)];have:(if (c k).ending then 1 else 0)<=(if ((c k).ending||fin)=true then 1 else 0):=by
     cases(c k).ending<;>simp
    omega
   obtain⟨a,h⟩:=v I;rw[AH x,a,h,AM (I:lo=hi)];simp;omega
  have s:=MR (f:=λj=>(c j).mQ) (g:=λj=>(ze c.ws k y j).mQ) (k:=k) (λj a=>by simp only[zd _ _ a]) 8 I;simp only[zf]at s;simp only;rw[<-q];refine⟨_,_,rfl,⟨?_,by show Dl (λj=>(c j).mQ) 8<=Dl (λj=>(ze c.ws k y j).mQ) 8;omega⟩,⟨rfl,⟨rfl,rfl,rfl,rfl,rfl,rfl⟩,λj a=>zd _ _ a,?_,?_⟩,(DX.mK hd).2.2.2.1⟩
  .show l.b.length+c.due+6*Dl (λj=>(c j).mQ) 8<=d.b.length+c.due+6*Dl (λj=>(ze c.ws k y j).mQ) 8;rw[Fi k,Fi lo,Fi<|hi-lo,AM (I:k<64)]at e;by_cases x:lo=hi
   .rw[AM x]at p;repeat' split at e
    all_goals omega
   rw[AH x]at p;repeat' split at e
   all_goals omega
  .show(ze c.ws k y k).cut=_/\(ze c.ws k y k).lN=_;rw[zf,q];exact rZ
  have:=PO c.ws k y 8 u;have:y.high=max (c k).high hi:=by rw[q]
  show zJ c.ws 8<=zJ (ze c.ws k y) 8;omega
def gQ(h:Bd c)(t:k<8)(v:c.waits=[])(z:d.full=true->EM d):(∃e a,c.bytes d k=(true,e,a)/\Ek c d e a/\Fk k c e/\a.full=d.full)\/(∃a,c.bytes d k=(false,c,a)/\a.b=d.b/\a.room=d.room/\(EM d\/a=d/\Hu c k)):=by
 have A:c.lr k<=(c k).b.length:=by
  have:=NJ c k;unfold CS.nI at this;omega
 have l:=h.low k t;have R:∀f o,f<=o->o<=(c k).b.length->(∀p,f<=p->p<o->¬De (c k).lJ.rs p)->(f=o->((c k).fin&&o==(c k).b.length)=true/\(c k).ending=false) ->
   (∃e a,c.mE d k f o=(true,e,a)/\Ek c d e a/\Fk k c e/\a.full=d.full)\/(∃a,c.mE d k f o=(false,c,a)/\a.b=d.b/\a.room=d.room/\(EM d\/a=d/\Hu c k)):=λf o B E u K=>by
  have q:∀m,m<=o->(((c k).b.drop f).take<|m-f).length=m-f:=λm a=>by
   rw[AU,Ag];omega
  have a:=l.bl;have a:Hz c d k f o=(d.room:Int)-4-d.b.length-((1+(zI k).length+(zI f).length+(zI<|o-f).length:Nat):Int):=by
   unfold Hz;rw[On,q o ro];omega
  have a:=Fi k;have e:=Fi f;have s:=Fi<|o-f;rw[AM I]at a;have a:(zI f).length<=2/\(zI<|o-f).length<=2:=by
   rw[e,s];repeat' split
   all_goals omega
  unfold CS.mE;split
  .rename_i N;split
   .rename_i s;exact .inr ⟨_,rfl,rfl,rfl,.inl<|by unfold EM;omega⟩
   rename_i s;have m:=eI (I:(Hz c d k f o).toNat<=o-f);refine .inl<|WJ h t I I (λp a b=>u p a I) (λe=>I) ?_;rw[On,q _ I,(I:f+(Hz c d k f o).toNat-f=(Hz c d k f o).toNat)];omega
  rename_i N;refine .inl<|WJ h t B E u K ?_;rw[On,q o ro];omega
 unfold CS.bytes;split
 .rename_i q;rcases q with q|q
  .exact absurd v q
  exact .inr ⟨d,rfl,rfl,rfl,.inl<|z q⟩
 split
 .rename_i f q;have g:∀p,p<c.lr k->De (c k).lJ.rs p:=λp f=>GP.2<|Mt _ 0 (c.lr k) p I<|pp<|QD _ _ _ q
  split
  .rename_i s;refine .inr ⟨d,rfl,rfl,rfl,.inr ⟨rfl,g,λa b=>?_⟩⟩;simp only[a,Bool.not_true,Cc,Bb,Ah]at s;rcases s with s|s
   .exact s
   omega
  rename_i s;simp only[Bb,Bl,Ah,not_or,Bool.not_eq_false,CO]at s;exact R _ _ ro ro (λp a b=>I)<|λ_=>⟨by rw[s.1.1];simp,s.1.2⟩
 rename_i q;refine R _ _ I (AK (If _ _ _) A) (λp a b x=>?_)<|λe=>I;exact Oq _ 0 (c.lr k) p l.lJ.ok.wf a b<|GP.1 x
structure Fx(b:CS)(G:List SN)(R:Cl->Prop)(c:CS)(d:DX):Prop where
 ok:c.Ok
 so:Dq c G
 nV:Dc c b (Da R d)
 hb:HB 2048 c
 gr:∀k,k<8->(c.rs k).kz<=6144
 wt:c.waits=[]
 fu:d.full=true->EM d
variable{G:List SN}{R:Cl->Prop}
def Fx.bd{b:CS}(h:Fx b G R c d):Bd c:=⟨h.nV.low,h.so.kf,h.gr,h.hb,h.ok.mj⟩
def LQ(h:∀k,k<8->(c.rs k).kz<=6144)(a:c.lD<=4096)(p:D6 2048 c c'):∀k,k<8->(c'.rs k).kz<=6144:=λk c=>by
 obtain⟨g,a,e,q⟩:=p.rs k c;rw[e];show g<=6144;have:=h k c;rcases q with⟨q,_⟩|⟨a,c⟩<;>omega
def KK(c:CS):Nat->Prop
 | 0=>JT c
 | 1=>True
 | k+2=>Hu c k
def JI(c c':CS):Nat->Prop
 | 0=>True
 | 1=>c'=c
 | k+2=>Fk k c c'
theorem JI.refl(c:CS):∀q,JI c c q
 | 0=>trivial
 | 1=>rfl
 | k+2=>Fk.refl k c
theorem JI.trans{a b:CS}:∀q,JI a b q->JI b c q->JI a c q
 | 0,_,_=>trivial
 | 1,h,k=>Eq.trans k h
 | _+2,h,k=>Fk.trans h k
def EM.mono(h:EM d)(a:d'.room=d.room)(hb:d.b.length<=d'.b.length):EM d':=by
 unfold EM at *;omega
variable{q:Nat}
theorem Fx.put{b:CS}(h:Fx b G R c d)(o:q<10):Fx b G R (c.put d q).2.1 (c.put d q).2.2/\JI c (c.put d q).2.1 q/\(c.put d q).2.2.room=d.room/\d.b.length<=(c.put d q).2.2.b.length/\Ek c d (c.put d q).2.1 (c.put d q).2.2 /\
  ((c.put d q).1=true->d.b.length<(c.put d q).2.2.b.length)/\((c.put d q).1=false->EM (c.put d q).2.2\/KK (c.put d q).2.1 q):=by
 have p:=JZ (d:=d) h.ok o;have s:=Ju (d:=d) (nx:=0) h.so o;have A:=St (d:=d) h.hb q;have E:=Po h.nV o;have K:(c.put d q).2.1.waits=[]:=Ai (by have:=A.wl;rw[h.wt]at this;simpa using this);have t:∀(r:Bool) c' d',(c.put d q)=(r,c',d')->(d'.full=true->EM d')->Fx b G R c' d':=λr c' d' e f=>by
  rw[e]at p s A E K;exact⟨p.ok,s.ok,E,h.hb.but A,LQ h.gr h.ok.mj A,K,f⟩
 match q,o with
 | 0,_ =>
  obtain⟨O,T⟩:=jl h.bd (d:=d);cases hc:c.control d with
  | none =>
   have e:c.put d 0=(false,c,d):=by show((c.control d).isSome,_,_)=_;rw[hc];rfl
   rw[e];exact⟨h,trivial,rfl,AF _,Ek.refl c d,λx=>(by cases x),λ_=>T hc⟩
  | some x =>
   have e:c.put d 0=(true,x.1,x.2):=by show((c.control d).isSome,_,_)=_;rw[hc];rfl
   have p1:=p.yes (by rw[e]);obtain⟨f,_,_,a⟩:=p1;have a:d.add f=some x.2:=by rw[e]at a;exact a
   obtain⟨_,_,u,B,_,_⟩:=DX.mK a;have X:=Ko a;have:=PM f;have m:=t true x.1 x.2 e (λz=>(h.fu<|by rw[<-B];exact z).mono u I);rw[e];exact⟨m,trivial,u,by show d.b.length<=x.2.b.length;omega,O x hc,λ_=>by show d.b.length<x.2.b.length;omega,λz=>(by cases z)⟩
 | 1,_ =>
  have e:c.put d 1=(false,c,d):=by
   show((c.lT d).isSome,_,_)=_;have:c.lT d=none:=by unfold CS.lT;rw[h.wt]
   rw[this];rfl
  rw[e];exact⟨h,rfl,rfl,AF _,Ek.refl c d,λx=>(by cases x),λ_=>.inr trivial⟩
 | k+2,o =>
  have t:∀(r:Bool) c' d',c.bytes d k=(r,c',d')->(d'.full=true->EM d')->Fx b G R c' d':=t;have p:GZ c d (c.bytes d k).1 (c.bytes d k).2.1 (c.bytes d k).2.2:=p;show Fx b G R (c.bytes d k).2.1 (c.bytes d k).2.2/\Fk k c (c.bytes d k).2.1/\(c.bytes d k).2.2.room=d.room/\d.b.length<=(c.bytes d k).2.2.b.length/\Ek c d (c.bytes d k).2.1 (c.bytes d k).2.2/\((c.bytes d k).1=true->d.b.length<(c.bytes d k).2.2.b.length)/\((c.bytes d k).1=false->EM (c.bytes d k).2.2\/Hu (c.bytes d k).2.1 k);rcases gQ h.bd (d:=d) (I:k<8) h.wt h.fu with⟨c',d',e,l,v,N⟩|⟨d',e,l,v,N⟩
  .rw[e]at p ⊢;obtain⟨f,_,_,a⟩:=p.yes rfl;have a:d.add f=some d':=a;obtain⟨_,_,u,B,_,_⟩:=DX.mK a;have X:=Ko a;have:=PM f;have m:=t true c' d' e (λz=>(h.fu<|by rw[<-B];exact z).mono u I);exact⟨m,v,u,by show d.b.length<=d'.b.length;omega,l,λ_=>by show d.b.length<d'.b.length;omega,λz=>(by cases z)⟩
  have hb:EM d\/d'=d/\Hu c k:=N;have m:=t false c d' e (λz=>by
   rcases hb with x|⟨x,_⟩
   .exact x.mono v (by rw[l];exact AF _)
   rw[x]at z ⊢;exact h.fu z)
  rw[e];exact⟨m,Fk.refl k c,v,by show d.b.length<=d'.b.length;rw[l];exact AF _,⟨by show d'.b.length+_+_<=_;rw[l];exact AF _,AF _⟩,λz=>(by cases z),λ_=>hb.imp (λx=>x.mono v<|by rw[l];exact AF _) (·.2)⟩
theorem Fx.lu{b:CS}(e:q<10):∀n {c:CS} {d:DX},Fx b G R c d->d.room<d.b.length+n->Fx b G R (CS.lu q n c d).1 (CS.lu q n c d).2/\JI c (CS.lu q n c d).1 q/\(CS.lu q n c d).2.room=d.room/\d.b.length<=(CS.lu q n c d).2.b.length/\Ek c d (CS.lu q n c d).1 (CS.lu q n c d).2/\(EM (CS.lu q n c d).2\/KK (CS.lu q n c d).1 q)
 | 0,c,d,h,hn=>⟨h,JI.refl c q,rfl,AF _,Ek.refl c d,.inl<|by show d.room<=d.b.length+12;omega⟩
 | n+1,c,d,h,hn=>by
  obtain⟨p1,p2,p3,p4,c,d,f⟩:=h.put e;unfold CS.lu;split
  .rename_i a;have:=d a;obtain⟨d,h,l,o,p,s⟩:=Fx.lu e n p1 I;exact⟨d,p2.trans q h,l.trans p3,AK p4 o,c.trans p,s⟩
  rename_i a;exact⟨p1,p2,p3,p4,c,f<|rB a⟩
structure D2(c:CS):Prop where
 ct:JT c
 w:∀k,k<8->Hu c k
 dg:c.waits=[]
theorem Fx.ld{b:CS}:∀n {c:CS} {d:DX},n<=10->Fx b G R c d->(EM d\/((n<10->JT c)/\∀k,k<8->k+2+n<10->Hu c k))->Fx b G R (CS.ld n c d).1 (CS.ld n c d).2/\(CS.ld n c d).2.room=d.room/\d.b.length<=(CS.ld n c d).2.b.length/\Ek c d (CS.ld n c d).1 (CS.ld n c d).2/\(EM (CS.ld n c d).2\/D2 (CS.ld n c d).1)
 | 0,c,d,_,h,z=>⟨h,rfl,AF _,Ek.refl c d,z.imp id<|λx=>⟨x.1 I,λk o=>x.2 k o I,h.wt⟩⟩
 | n+1,c,d,hn,h,z=>by
  obtain⟨u,f,s,t,v,l⟩:=Fx.lu (q:=9-n) I (d.room+1) h I;unfold CS.ld;have p:EM (CS.lu (9-n) (d.room+1) c d).2\/((n<10->JT (CS.lu (9-n) (d.room+1) c d).1)/\∀k,k<8->k+2+n<10->Hu (CS.lu (9-n) (d.room+1) c d).1 k):=by
   generalize CS.lu (9-n) (d.room+1) c d=X at *;rcases z with z|⟨h,p⟩
   .exact .inl (z.mono s t)
   refine l.imp id λl=>?_
   obtain⟨q,d⟩:∃q,q=9-n:=⟨_,rfl⟩;rw[<-d]at f l
   match q,d with
   | 0,d=>exact⟨λ_=>l,λk _ _=>I⟩
   | 1,d =>
    have f:X.1=c:=f;rw[f];exact⟨λ_=>h I,λk o a=>I⟩
   | j+2,d =>
    have f:Fk j c X.1:=f;refine⟨λ_=>f.qS<|h I,λk o a=>?_⟩;by_cases e:k=j
    .subst e;exact l
    exact f.qR e<|p k o I
  obtain⟨a,c,d,e,f⟩:=Fx.ld n I u p;exact⟨a,c.trans s,AK t d,v.trans e,f⟩
theorem js(h:JT c)(d:DX):c.control d=none:=by
 have r:∀n k t,n+k=8->(EO c d n k t).1=none:=λn=>by
  induction n with
  | zero=>intro k t _;rfl
  | succ n ih =>
   intro k t a;unfold EO;have q:((decide ((c.rs k).kz<max (c.rs k).kz ((c.rs k).used+c.lD))||(c.rs k).lU)&&(c.rs k).mb)=false:=h.r k I;rw[q,AH lm];exact ih _ _ I
 have w:∀n k,n+k=8->ER c d n k=none:=λn=>by
  induction n with
  | zero=>intro k _;rfl
  | succ n ih =>
   intro k a;unfold ER;rw[AH (by have:=h.w k I;cases hc:(c k).cut<;>simp_all)];exact ih _ I
 have e:=r 8 0 c.total rfl;have t:(decide (c.kz<max (EO c d 8 0 c.total).2 c.kz)||c.lU)=false:=by rw[(QU 8 0 c.total e).1];exact h.t
 unfold CS.control Iu;rw[e,t,AH lm];exact w 8 0 rfl
theorem gP(l:ET (c k))(h:Hu c k)(d:DX):c.bytes d k=(false,c,d):=by
 unfold CS.bytes;split
 .rfl
 rw[AM (by
  have a:=If (c k).lJ.rs 0<|c.lr k;by_cases q:(Dd (c k).lJ.rs 0<|c.lr k).2<=(Dd (c k).lJ.rs 0<|c.lr k).1
  .exact q
  .exact absurd (GP.1<|h.1 _ (I:(Dd (c k).lJ.rs 0<|c.lr k).1<_)) (Oq _ 0 (c.lr k) _ l.lJ.ok.wf ro I)),AM (by
  have:=h.2;cases hf:(c k).fin with
  | false=>rfl
  | true =>
   by_cases q:(c k).b.length<=c.lr k
   .rw[this hf q];rfl
   rw[Au I,Bool.or_true])]
theorem Xk(h:D2 c)(l:∀k,k<8->ET (c k))(a:q<10)(d:DX):c.put d q=(false,c,d):=by
 match q,a with
 | 0,_=>show((c.control d).isSome,_,_)=_;rw[js h.ct];rfl
 | 1,_ =>
  show((c.lT d).isSome,_,_)=_;have:c.lT d=none:=by unfold CS.lT;rw[h.dg]
  rw[this];rfl
 | k+2,a=>exact gP (l k I) (h.w k I) d
theorem Uk(h:D2 c)(l:∀k,k<8->ET (c k)):∀n (d:DX),n<=10->CS.ld n c d=(c,d)
 | 0,d,_=>rfl
 | n+1,d,hn=>by
  have e:CS.lu (9-n) (d.room+1) c d=(c,d):=by
   unfold CS.lu;rw[Xk h l I d];rfl
  unfold CS.ld;rw[e];exact Uk h l n d I
def D2.next(h:D2 c)(j:Nat):D2 { c with next:=j }:=⟨⟨h.ct.r,h.ct.t,h.ct.w⟩,h.w,h.dg⟩
theorem Q0:∀(m:Nat) (c:CS) (l:zE),D2 c->(∀k,k<8->ET (c k))->64<=c.lZ->(∃j,(CS.mH m c l).2={ c with next:=j })/\(l=[]->(CS.mH m c l).1=[])
 | 0,c,l,_,_,_=>⟨⟨c.next,rfl⟩,λ_=>rfl⟩
 | m+1,c,l,h,hl,hm=>by
  have e:c.lL (zp c.lB l).1=(c,(zp c.lB l).1):=by
   unfold CS.lL CS.fill;rw[Uk h hl 10 _ ro];split<;>rfl
  unfold CS.mH;rw[e];have w:=(VP hm l).1;have d:c.lV (zp c.lB l).1={ c with next:=c.next+1 }:=by
   unfold CS.lV;rw[w];rfl
  simp only;rw[d];split
  .exact⟨⟨c.next,rfl⟩,λ_=>rfl⟩
  rename_i q;refine⟨?_,λx=>absurd (by rw[x];rfl) q⟩;obtain⟨⟨j,a⟩,_⟩:=Q0 m { c with next:=c.next+1 } (zp c.lB l).2 (h.next _) hl hm;exact⟨j,by rw[a]⟩
variable{rs:zE}
theorem Uj(h:∀r∈rs,r.1<1073741824/\r.2<1073741824):∀k,k<rs.length->(D5 rs k).length<=8*k
 | 0,_=>AF _
 | k+1,hk=>by
  have i:=Uj h k I;have a:=h _<|AW<|Gh (I:k<rs.length);have b:=h _<|AW<|Gh hk;simp only at a b;unfold D5;rw[AG,AG,Fi,Fi];repeat' split
  all_goals omega
theorem Xj{l:zE}(h:∀r∈l,r.1<1073741824/\r.2<1073741824)(a:l.length<=64):(zp d l).1.b.length+10*(zp d l).2.length<=d.b.length+10*l.length/\d.b.length<=(zp d l).1.b.length:=by
 unfold zp;split
 .exact⟨AF _,AF _⟩
 rename_i a;have c:=BM.2 a;have e:=NO d l l.length c;have f:=Ql d l l.length;generalize hn:EY d l l.length=n at e f;have e:GG d l=((d.add<|lY<|l.take n).getD d,l.drop n):=by unfold GG;rw[hn]
 rw[e];simp only[Ag];cases ha:d.add (lY<|l.take n)with
 | none=>simp only[Option.getD_none];omega
 | some d' =>
  have a:=Ko ha;have tl:(l.take n).length=n:=by rw[AU];omega
  have b:=Uj (rs:=l.take n) (λr a=>h r<|BP a) (n-1) I;have g:=h _<|BP<|AW<|Gh (I:0<(l.take n).length);simp only at g;have a:(zC<|lY<|l.take n).length=1+(zI<|DP (l.take n) 0).length+(zI<|(l.take n).length-1).length+(zI<|DP (l.take n) 0-DU (l.take n) 0).length+(D5 (l.take n)<|(l.take n).length-1).length:=by
   show((((([2]++zI (DP (l.take n) 0))++zI ((l.take n).length-1))++zI (DP (l.take n) 0-DU (l.take n) 0))++D5 (l.take n) ((l.take n).length-1))).length=_;simp only[AG,Ac]
  rw[tl,Fi<|n-1,Fi,Fi,AM (I:n-1<64)]at a;simp only[Option.getD_some];repeat' split at a
  all_goals omega
variable{nx:Nat}
theorem Tl{b:CS}:∀(m:Nat) (c:CS) (l:zE),Gv c l->Dq c G->(∀r∈l,r.2<nx)->Dc c b c.mJ->HB 2048 c->(∀k,k<8->(c.rs k).kz<=6144)->c.waits=[]->Fo c l<m->c.next+Fo c l<1073741824->(∀r∈l,r.1<1073741824/\r.2<1073741824)->l.length<=64 ->
  ∃ δ,48*(CS.mH m c l).2.kx.length+(CS.mH m c l).2.due+6*c.mQ<=48*c.kx.length+10*l.length+c.due+6*(CS.mH m c l).2.mQ+48 * δ /\ (δ = 0 \/ δ = 1/\D2 (CS.mH m c l).2)/\(12<=(CS.mH m c l).2.kx.length\/D2 (CS.mH m c l).2)/\c.mQ<=(CS.mH m c l).2.mQ
 | 0,_,_,_,_,_,_,_,_,_,hm,_,_,_=>absurd hm<|A6 _
 | m+1,c,l,hk,s,hx,h,hb,hg,hw,hm,hn,hr,hl=>by
  have R:=Sw hk s hx h;obtain⟨a,v,Y,E,Z,q,K⟩:=hk.round;obtain⟨a,v⟩:=Xj (d:=c.lB) hr hl;have t:=NB (JB hk.ok) l;have v:c.lB.b.length<=4:=by
   show(zI c.next).length<=4;rw[Fi];repeat' split
   all_goals omega
  have a:=hk.lZ;have e:(zp c.lB l).1.full=false:=by
   unfold zp;split
   .rfl
   show((c.lB.add _).getD c.lB).full=false;cases ha:c.lB.add (lY<|l.take<|EY c.lB l l.length)with
   | none=>rfl
   | some d'=>exact(DX.mK ha).2.2.2.1
  have N:∀F,F=c.lL (zp c.lB l).1->Ek c (zp c.lB l).1 F.1 F.2/\(zp c.lB l).1.b.length<=F.2.b.length/\F.2.room=c.lZ/\HB 2048 F.1/\(∀k,k<8->(F.1.rs k).kz<=6144)/\F.1.waits=[]/\(12<=c.kx.length/\F.2.lh=false\/EM F.2\/D2 F.1):=by
   rintro F rfl;unfold CS.lL;split
   .have B:Fx b G c.mJ c (zp c.lB l).1:=⟨hk.ok,s,h.mono (λ_ _=>id)<|λ_ _ r=>.inr<|.inl r,hb,hg,hw,λx=>by rw[e]at x;cases x⟩;obtain⟨a,d,e,h,s⟩:=B.ld 10 ro<|.inr ⟨λx=>absurd x I,λk _ x=>absurd x I⟩;exact⟨h,e,d.trans t.2.1,a.hb,a.gr,a.wt,.inr s⟩
   exact⟨Ek.refl c _,AF _,t.2.1,hb,hg,hw,.inl ⟨I,t.2.2.2.2.2.2⟩⟩
  obtain⟨h,a,e,O,T,X,p⟩:=N _ rfl;unfold Ek at h;unfold CS.mH;by_cases a:(c.lL (zp c.lB l).1).2.fs=[]
  .rw[AM a];have d:¬EM (c.lL (zp c.lB l).1).2:=by
    have:=R.ds.b;rw[a]at this;unfold EM;rw[this,e];have e:Iz c.next []=c.lB.b:=by show Iz c.next []=zI c.next;simp[Iz]
    rw[e];omega
   refine⟨0,?_,.inl rfl,?_,h.2⟩
   .simp only;rw[q];omega
   simp only;rw[q];rcases p with⟨x,_⟩|x|x
   .exact .inl x
   .exact absurd x d
   exact .inr x
  rw[AH a];obtain⟨u,d⟩:=K a;have hd:=t.2.2.2.2.2.1;generalize c.lL (zp c.lB l).1=F at *;generalize (zp c.lB l).2=l2 at *;have a:(F.1.lV F.2).next=c.next+1:=by show F.1.next+1=_;rw[E]
  have f:(F.1.lV F.2).kx.length=c.kx.length+if F.2.lh then 1 else 0:=by
   rw[R.fl,R.want,AG];cases Et F.2.fs<;>rfl
  obtain⟨δ,o,z,A,d⟩:=Tl m (F.1.lV F.2) l2 u ⟨R.so.w,R.so.kf,R.so.sp,R.so.wt⟩ R.hx R.nV O T X I I (λr q=>hr r<|R.sub r q) I;have a:(F.1.lV F.2).mQ=F.1.mQ:=rfl;have e:(F.1.lV F.2).due=F.1.due:=rfl;rw[f,a,e]at o;rw[a]at d;simp only;cases hq:F.2.lh with
  | false =>
   rw[hq]at o;simp only[BT,BZ]at o;exact⟨δ,I,z,A,I⟩
  | true =>
   rw[hq]at o p;simp only[A9]at o;rcases p with⟨_,x⟩|x|x
   .cases x
   .unfold EM at x;exact⟨δ,I,z,A,I⟩
   have a:D2 (F.1.lV F.2):=⟨⟨x.ct.r,x.ct.t,x.ct.w⟩,x.w,x.dg⟩;obtain⟨⟨j,d⟩,_⟩:=Q0 m (F.1.lV F.2) l2 a R.nV.low u.lZ;rw[d];refine⟨1,?_,.inr ⟨rfl,a.next j⟩,.inr<|a.next j,by show c.mQ<=F.1.mQ;omega⟩;have a:({ F.1.lV F.2 with next:=j }:CS).kx.length=c.kx.length+1:=by
    show(F.1.lV F.2).kx.length=_;rw[f,hq];rfl
   have c:({ F.1.lV F.2 with next:=j }:CS).mQ=F.1.mQ:=rfl;have d:({ F.1.lV F.2 with next:=j }:CS).due=F.1.due:=rfl;rw[a,c,d];omega
structure FW(a b:CS):Prop where
 nV:Dc a b a.mJ
 lQ:∀q∈a.kx,De b.lQ.rs q.n->∀f∈q.fs,FY b f
 num:∀q∈a.kx,q.n<a.next/\q.at_<=a.now
 lg:a.lI<=a.next
structure LX(a b:CS)(x:rC):Prop where
 lP:∀num fs,dec x=.ok num fs->∀q∈a.kx,q.n=num->∀f∈q.fs,∀cl,Gz f cl->∃g∈fs,Gz g cl
 pK:∀num fs,dec x=.ok num fs->∀f∈fs,f.kind=2->∀q∈b.kx,Dw f.lF q=true->∀g∈q.fs,FY a g
structure NS.Links(n:NS):Prop where
 l:∀i,i<2->FW (n i) (n<|1-i)
 bg:∀p∈n.lP,LX (n<|1-p.1) (n p.1) p.2
 dl:∀i,i<2->∀s∈n.g i,s.dl<=n.now+8
 gb:∀i,i<2->∀k,k<8->((n i).rs k).kz<=6144
 cf:∀i,i<2->(n i).lD=n.lD/\(n i).total=n.total
 fl:∀i,i<2->(n i).lQ.fl<=(n<|1-i).next
structure NS.nz(n:NS):Prop where
 lQ:∀i,i<2->∀r∈(n i).lQ.rs,r.2<(n<|1-i).next
 num:∀p∈n.lP,p.1<2/\∀num fs,dec p.2=.ok num fs->num<(n<|1-p.1).next/\∀f∈fs,f.kind=2->∀r∈f.lF,r.2<(n p.1).next
def LI{b:rC}(h:G6 c nx G b):∀a d,dec b=.ok a d->a<c.next/\∀f∈d,f.kind=2->∀r∈f.lF,r.2<nx:=λa d e=>by
 obtain⟨a,c,l,o,p⟩:=h.dec;rw[e]at l;cases l;exact⟨o,λf a=>(p f a).k2⟩
variable{n:NS}
def NS.Safe.nums(h:n.Safe):n.nz:=⟨h.lQ,λp a=>⟨(h.lP p a).1,LI (h.lP p a).2⟩⟩
variable{B m:Nat}
def Pq(h:∀r∈rs,r.2<B)(a:De rs m):m<B:=by
 obtain⟨r,c,_,e⟩:=GP.1 a;have:=h r c;omega
structure Dz(c c' o:CS):Prop where
 nV:Dc c' o c'.mJ
 fl:∀q∈c'.kx,q∈c.kx\/(c.next<=q.n/\q.n<c'.next/\q.at_<=c'.now)
 nx:c.next<=c'.next/\c.now<=c'.now
 gr:Do c c'
 lQ:∀m,De c'.lQ.rs m->De c.lQ.rs m\/∀q∈o.kx,q.n=m->∀f∈q.fs,FY c' f
 gt:∀k,k<8->(c.rs k).kz<=6144->(c'.rs k).kz<=6144
 cf:c'.lD=c.lD/\c'.total=c.total
 gf:c.lQ.fl<=o.next->c'.lQ.fl<=o.next
 lg:c.lI<=c.next->c'.lI<=c'.next
def QT{l:zE}{q:DW}(h:Dw l q=true):De l q.n:=by
 obtain⟨r,a,e⟩:=Bg.1 h;simp only[AZ,Ah]at e;exact GP.2 ⟨r,a,e⟩
def LX.mz{a b e l:CS}{x:rC}(h:LX a b x)(t:∀c d,dec x=.ok c d->c<a.next/\∀f∈d,f.kind=2->∀r∈f.lF,r.2<b.next)(v:∀q∈e.kx,q∈a.kx\/a.next<=q.n)(fb:∀q∈l.kx,q∈b.kx\/b.next<=q.n)(z:Do a e):LX e l x:=by
 refine⟨λc d e q p A f a l s=>?_,λc d e f a k q p u g B l o s=>?_⟩
 .have:=(t c d e).1;rcases v q p with y|y
  .exact h.lP c d e q y A f a l s
  omega
 have:=Pq ((t c d e).2 f a k)<|QT u;rcases fb q p with y|y
 .exact z l o (h.pK c d e f a k q y u g B l o s)
 omega
def FW.qF{a c b:CS}(h:FW a b)(t:Dz a c b)(d:∀r∈b.lQ.rs,r.2<a.next):FW c b :=
 ⟨t.nV,λq a c=>by
  rcases t.fl q a with x|x
  .exact h.lQ q x c
  .have:=Pq d c;omega,λq a=>by
  rcases t.fl q a with x|x
  .have:=h.num q x;have:=t.nx;omega
  exact x.2,t.lg h.lg⟩
def FW.qE{a b c:CS}(h:FW a b)(t:Dz b c a):FW a c :=
 ⟨h.nV.mono t.gr<|λ_ _=>.inr,λq a d f c=>by
  rcases t.lQ _ d with x|x
  .exact λd o s=>t.gr d o<|h.lQ q a x f c d o s
  exact x q a rfl f c,h.num,h.lg⟩
variable{i:Nat}{n':NS}
def NS.Links.mz(h:n.Links)(f:n.nz)(hi:i<2)(d:n'.c (1-i)=n.c (1-i))(t:Dz (n i) (n' i) (n (1-i)))(hb:∀p∈n'.lP,p∈n.lP\/LX (n' (1-p.1)) (n' p.1) p.2)(hd:∀i,i<2->∀s∈n'.g i,s.dl<=n'.now+8)(o:n'.lD=n.lD/\n'.total=n.total):n'.Links:=by
 have c:1-(1-i)=i:=I;have l:1-i<2:=I;have q:=h.l (1-i) l;rw[c]at q;refine⟨λj a=>?_,λp u=>?_,hd,λj a k s=>?_,λj a=>?_,λj a=>?_⟩
 .rcases Gd hi a with e|e
  .rw[e,d];exact(h.l i hi).qF t (by have:=f.lQ (1-i) l;rw[c]at this;exact this)
  rw[e,c,d];exact q.qE t
 .rcases hb p u with x|x
  .obtain⟨p1,p2⟩:=f.num p x;have f:=h.bg p x;rcases Gd hi p1 with e|e
   .rw[e]at f p2 ⊢;rw[d];exact f.mz p2 (λq=>.inl) (λq l=>(t.fl q l).imp id (·.1))<|Do.refl _
   rw[e,c]at f p2 ⊢;rw[d];exact f.mz p2 (λq l=>(t.fl q l).imp id (·.1)) (λq=>.inl) t.gr
  exact x
 .have:=h.gb j a k s;rcases Gd hi a with e|e
  .rw[e]at this ⊢;exact t.gt k s this
  rw[e]at this ⊢;rw[d];exact this
 .have:=h.cf j a;rw[o.1,o.2];rcases Gd hi a with e|e
  .rw[e]at this ⊢;rw[t.cf.1,t.cf.2];exact this
  rw[e]at this ⊢;rw[d];exact this
 have:=h.fl j a;rcases Gd hi a with e|e
 .rw[e]at this ⊢;rw[d];exact t.gf this
 rw[e,c]at this ⊢;rw[d];exact AK this t.nx.1
def Dz.quiet{o:CS}(h:FW c o)(a:Ed c c')(fl:c'.kx=c.kx)(nx:c'.next=c.next/\c'.now=c.now)(f:Do c c')(d:c'.lQ=c.lQ)(l:∀k,k<8->(c'.rs k).kz=(c.rs k).kz)(e:c'.lD=c.lD/\c'.total=c.total/\c'.lI=c.lI):Dz c c' o :=
 ⟨by have:=h.nV.ask a;unfold CS.mJ at this ⊢;rw[fl];exact this,λq a=>.inl<|by rw[<-fl];exact a,⟨Az nx.1.symm,Az nx.2.symm⟩,f,λm a=>.inl<|by rw[<-d];exact a,λk a x=>by rw[l k a];exact x,⟨e.1,e.2.1⟩,λx=>by rw[d];exact x,λx=>by rw[e.2.2,nx.1];exact x⟩
def FW.under{o:CS}(h:FW c o):Dz c c o:=Dz.quiet h (Ed.refl c) rfl ⟨rfl,rfl⟩ (Do.refl c) rfl (λ_ _=>rfl) ⟨rfl,rfl,rfl⟩
variable{y:WS}
def Dz.w{o:CS}(h:FW c o)(s:Nat)(a:ET (c s)->ET y)(d:y.lC=(c s).lC)(e:y.lJ=(c s).lJ)(f:y.ending=(c s).ending)(l:y.cut=true->y.lN=true->(c s).cut=true/\(c s).lN=true/\(c s).lG=y.lG)(p:y.lA=(c s).lA):Dz c { c with ws:=ze c.ws s y } o :=
 Dz.quiet h (Ed.w s a d e f l) rfl ⟨rfl,rfl⟩ (Do.w s<|Az p.symm) rfl (λ_ _=>rfl) ⟨rfl,rfl,rfl⟩
def Dz.send{o:CS}(h:FW c o)(k:Int)(s:rC):Dz c (c.send k s).2 o:=by
 unfold CS.send;split
 .exact h.under
 split
 .exact h.under
 split
 .exact h.under
 exact Dz.w h _ (λl=>⟨l.lJ,l.lC,by have:=l.hl;show(c k.toNat).high<=((c k.toNat).b++s).length;rw[AG];omega,by show((c k.toNat).b++s).length<=_;rw[AG];omega,by have:=l.fn;show(c k.toNat).final<=((c k.toNat).b++s).length;rw[AG];omega⟩) rfl rfl rfl (λx y=>⟨x,y,rfl⟩) rfl
def Dz.finish{o:CS}(h:FW c o)(k:Int):Dz c (c.finish k).2 o:=by
 unfold CS.finish;split
 .exact h.under
 split
 .exact h.under
 exact Dz.w h _ (λl=>⟨l.lJ,l.lC,l.hl,l.bl,l.fn⟩) rfl rfl rfl (λx y=>⟨x,y,rfl⟩) rfl
def Dz.reset{o:CS}(h:FW c o)(k n:Int):Dz c (c.reset k n).2 o:=by
 unfold CS.reset;split
 .exact h.under
 refine Dz.w h _ (λl=>⟨l.lJ,l.lC,l.hl,l.bl,?_⟩) rfl rfl rfl (λ_ y=>?_) rfl
 .have:=l.fn;have:=l.hl;have:=l.bl;show(if (c k.toNat).cut then(c k.toNat).final else max (c k.toNat).high (min n.toNat (c k.toNat).b.length))<=(c k.toNat).b.length;split<;>omega
 generalize (c k.toNat)=x at *;generalize min n.toNat x.b.length=m at *;unfold WS.nM at y ⊢;simp only at y ⊢;split at y
 .cases y
 rename_i w;rw[AH w];simp only[Bb,Bl,Ah,not_or,Bool.not_eq_false]at w;exact⟨w.1,y,rfl⟩
def Dz.lH{o:CS}(h:FW c o)(id a:Nat)(s:rC):Dz c (c.lH id a s).2 o:=by
 unfold CS.lH;repeat' split
 all_goals first|exact h.under|exact Dz.quiet h (Ed.of rfl rfl rfl rfl) rfl ⟨rfl,rfl⟩ (Do.of (λk _=>⟨rfl,rfl,rfl,rfl⟩) (λ_ _=>AF _) ro) rfl (λ_ _=>rfl) ⟨rfl,rfl,rfl⟩
def Dz.read{o:CS}(h:FW c o)(k n:Int):Dz c (c.read k n).2 o:=by
 unfold CS.read;split
 .exact h.under
 split
 .exact h.under
 exact Dz.quiet h (Ed.r _ rfl rfl) rfl ⟨rfl,rfl⟩ (Do.r _ (λp=>id) id<|λn=>id) rfl (λj _=>by
 show(ze c.rs k.toNat _ j).kz=_;by_cases x:j=k.toNat
 .subst x;rw[zf]
 rw[zd _ _ x]) ⟨rfl,rfl,rfl⟩
def Dz.tick{o:CS}(h:FW c o)(a:∀p∈c.kx,∀f∈p.fs,Za f):Dz c c.tick o:=by
 have f:=Jf c;have hb:Dc c.lX o c.lX.mJ:=h.nV.ask<|Ed.of rfl rfl rfl rfl;have e:c.tick=c.lX.nF:=rfl;have g:Do c c.lX:=Do.of (λk _=>⟨rfl,rfl,rfl,rfl⟩) (λ_ _=>AF _) ro;refine⟨hb.nF a,λq a=>.inl ?_,⟨Az f.next.symm,by rw[show c.tick.now=c.now+1 from f.now];omega⟩,g.trans f.my,λm d=>.inl ?_,λk h x=>?_,?_,λx=>by rw[f.lQ];exact x,λx=>?_⟩
 .rw[e,Hj]at a;exact(BI.1 a).1
 .rw[f.lQ]at d;exact d
 .obtain⟨q,e⟩:=f.rs k h;rw[e];exact x
 .rw[e,Hj];have b:=I9 c.lX.kx c.lX;exact⟨b.hd.2.1,b.hd.2.2.1⟩
 rw[f.next,e,Hj];have b:=I9 c.lX.kx c.lX;show(c.lX.mO c.lX.kx).lI<=_;rw[b.tl.2.2.2.1];exact x
def NS.Links.user(h:n.Links)(d:n.nz)(hi:i<2)(a:n'.c=ze n.c i c')(hb:n'.lP=n.lP)(c:n'.now=n.now/\n'.lD=n.lD/\n'.total=n.total)(t:Dz (n i) c' (n (1-i)))(hd:∀j,j<2->∀s∈n'.g j,s∈n.g j\/s.dl<=n.now+8):n'.Links:=by
 have e:n'.c i=c':=by rw[a,zf]
 refine h.mz d hi (by rw[a,zd _ _ I]) (by rw[e];exact t) (λp a=>.inl<|by rw[<-hb];exact a) (λj a s d=>?_) c.2;rw[c.1];exact(hd j a s d).elim (h.dl j a s) id
def NS.Links.send(h:n.Links)(a:n.nz)(hi:i<2)(s:rC):(n.send i k s).2.Links:=by
 have e:(n.send i k s).2.c=ze n.c i ((n i).send k s).2/\(n.send i k s).2.lP=n.lP/\((n.send i k s).2.now=n.now/\(n.send i k s).2.lD=n.lD/\(n.send i k s).2.total=n.total)/\(n.send i k s).2.g=n.g:=by
  unfold NS.send;repeat' split
  all_goals exact⟨rfl,rfl,⟨rfl,rfl,rfl⟩,rfl⟩
 exact h.user a hi e.1 e.2.1 e.2.2.1 (Dz.send (h.l i hi) _ s)<|λj _ s a=>.inl<|by rw[<-e.2.2.2];exact a
def NS.Links.finish(h:n.Links)(a:n.nz)(hi:i<2):(n.finish i k).2.Links:=by
 have e:(n.finish i k).2.c=ze n.c i ((n i).finish k).2/\(n.finish i k).2.lP=n.lP/\((n.finish i k).2.now=n.now/\(n.finish i k).2.lD=n.lD/\(n.finish i k).2.total=n.total)/\(n.finish i k).2.g=n.g:=by
  unfold NS.finish;repeat' split
  all_goals exact⟨rfl,rfl,⟨rfl,rfl,rfl⟩,rfl⟩
 exact h.user a hi e.1 e.2.1 e.2.2.1 (Dz.finish (h.l i hi) _)<|λj _ s a=>.inl<|by rw[<-e.2.2.2];exact a
def NS.Links.reset(h:n.Links)(a:n.nz)(hi:i<2)(b:Int):(n.reset i k b).2.Links :=
 h.user a hi (c':=((n i).reset k<|DR b<|(n.e i k).wrote.length+1).2) rfl rfl ⟨rfl,rfl,rfl⟩ (Dz.reset (h.l i hi) _ _) (λ_ _ _=>.inl)
def NS.Links.lH(h:n.Links)(d:n.nz)(hi:i<2)(s:Dh):(n.lH i s).2.Links:=by
 have f:=zU s.a 9 I;have e:∃c,(n.lH i s).2.c=ze n.c i ((n i).lH (n.next i) c s.s).2/\(n.lH i s).2.lP=n.lP/\((n.lH i s).2.now=n.now/\(n.lH i s).2.lD=n.lD/\(n.lH i s).2.total=n.total)/\∀j,j<2->∀q∈(n.lH i s).2.g j,q∈n.g j\/q.dl<=n.now+8:=by
  unfold NS.lH;split
  .exact⟨n.now,rfl,rfl,⟨rfl,rfl,rfl⟩,λ_ _ _=>.inl⟩
  refine⟨n.now+DR s.a 9,?_⟩;split
  .exact⟨rfl,rfl,⟨rfl,rfl,rfl⟩,λ_ _ _=>.inl⟩
  split
  .exact⟨rfl,rfl,⟨rfl,rfl,rfl⟩,λ_ _ _=>.inl⟩
  refine⟨rfl,rfl,⟨rfl,rfl,rfl⟩,λj _ q a=>?_⟩;have a:q∈ze n.g i (n.g i++[⟨n.next i,n.now+DR s.a 9,s.s,false⟩]) j:=a;by_cases x:j=i
  .subst x;rw[zf]at a;rcases Ak.1 a with y|y
   .exact .inl y
   rw[Af.1 y];exact .inr<|by show n.now+DR s.a 9<=_;omega
  rw[zd _ _ x]at a;exact .inl a
 obtain⟨c,a,f,l,o⟩:=e;exact h.user d hi a f l (Dz.lH (h.l i hi) (n.next i) c s.s) o
def NS.Links.read(h:n.Links)(c:n.nz)(hi:i<2)(a:Nat):(n.read i k a).2.Links:=by
 have e:(n.read i k a).2.c=ze n.c i ((n i).read k a).2/\(n.read i k a).2.lP=n.lP/\((n.read i k a).2.now=n.now/\(n.read i k a).2.lD=n.lD/\(n.read i k a).2.total=n.total)/\(n.read i k a).2.g=n.g:=by
  unfold NS.read;split;all_goals exact⟨rfl,rfl,⟨rfl,rfl,rfl⟩,rfl⟩
 exact h.user c hi e.1 e.2.1 e.2.2.1 (Dz.read (h.l i hi) k a)<|λj _ s a=>.inl<|by rw[<-e.2.2.2];exact a
def NS.Links.drop(h:n.Links)(k:Nat):(n.drop k).Links :=
 ⟨h.l,λp a=>h.bg p (by
  rcases Ak.1 a with x|x
  .exact BP x
  exact Bo x),h.dl,h.gb,h.cf,h.fl⟩
variable{T:Nat}
def NS.Links.tick(h:n.Links)(q:n.nz)(hI:n.Inv T):n.tick.Links:=by
 have t:∀i,i<2->∀p∈(n i).kx,∀f∈p.fs,Za f:=λi l p d=>((hI.c i l).mC p d).2.2.2
 obtain⟨a,e⟩:∃a,a={ n with c:=ze n.c 0 (n.c 0).tick }:=⟨_,rfl⟩;have s:a.c 0=(n.c 0).tick:=by rw[e];exact zf n.c 0 _
 have o:a.c 1=n.c 1:=by rw[e];exact zd n.c (k:=0) (j:=1) (n.c 0).tick lc
 have f0:=Jf<|n.c 0;have u:a.Links:=h.mz q (i:=0) I o (by rw[s];exact Dz.tick (h.l 0 I)<|t 0 I) (λp d=>.inl<|by rw[e]at d;exact d) (by rw[e];exact h.dl) (by rw[e];exact rZ);have v:a.nz:=by
  have g:∀i,i<2->(a i).lQ=(n i).lQ/\(a i).next=(n i).next:=λi l=>by
   rcases(I:i=0\/i=1)with rfl|rfl
   .rw[s];exact⟨f0.lQ,f0.next⟩
   rw[o];exact rZ
  refine⟨λi l r c=>?_,λp d=>?_⟩
  .rw[(g i l).1]at c;rw[(g (1-i) I).2];exact q.lQ i l r c
  rw[e]at d;obtain⟨p1,p2⟩:=q.num p d;rw[(g p.1 p1).2,(g (1-p.1) I).2];exact⟨p1,p2⟩
 have c:n.tick.c 1=(a.c 1).tick:=by rw[o];exact Ms n I
 have f:n.tick.c 0=a.c 0:=by rw[s];exact Ms n I
 refine u.mz v (i:=1) I f (by rw[c];exact Dz.tick (u.l 1 I)<|by rw[o];exact t 1 I) (λp d=>.inl<|by rw[e];exact d) (λi l s a=>?_) (by rw[e];exact rZ);have:=h.dl i l s a;show s.dl<=n.now+1+8;omega
theorem Ui(i:Nat):∀(l:List rC) (n:NS),(NS.mM i l n).1=true->∃k,(NS.mM i l n).2={ n with count:=ze n.count i k,lP:=n.lP++l.map λx=>(1-i,x) }
 | [],n,_=>⟨n.count i,by show n=_;rw[Fd,C1,Bw]⟩
 | b::l,n,h=>by
  unfold NS.mM at h ⊢;cases hd:dec b with
  | sum=>rw[hd]at h;cases h
  | bad p=>rw[hd]at h;cases h
  | ok num fs =>
   rw[hd]at h;simp only at h ⊢;split at h
   .cases h
   rename_i c1;rw[AH c1];split at h
   .cases h
   rename_i c2;rw[AH c2];obtain⟨k,e⟩:=Ui i l _ h;refine⟨k,?_⟩;rw[e];have:ze (ze n.count i<|n.count i+1) i k=ze n.count i k:=by
    funext j;unfold ze;split<;>rfl
   simp only[this,Ap,List.singleton_append,Bq]
structure Mh(c c2 o:CS)(L:List (List DV))(now:Nat):Prop where
 pk:OD o c.lW.2 c2 c.lW.1 (12-c.kx.length+c.lW.1.length+1) c.lE.1 L
 fl:c2.kx=c.kx++Hd now c.next L
 nx:c2.next=c.next+L.length
 gr:Do c c2
 rs:∀k,k<8->∃g a,c2.rs k={ c.rs k with kz:=g,lU:=a }/\g<=max (c.rs k).kz 6144
 ws:∀k,k<8->Fa (c k) (c2 k)
 lQ:c2.lQ=c.lQ
 now:c2.now=c.now
 pH:c2.answer=false
 lg:c2.lI=c.lI
 cf:c2.lD=c.lD/\c2.total=c.total
 len:L.length<=20
 rA:c2.lA=c.lA
 acc:c.waits=[]->c.next+20<1073741824->o.next<=1073741824->∃ δ,48*c2.kx.length+c2.due+6*c.mQ<=48*c.kx.length+80+c.due+6*c2.mQ+48 * δ /\ (δ = 0 \/ δ = 1/\D2 c2)/\(12<=c2.kx.length\/D2 c2)/\c.mQ<=c2.mQ
 idle:D2 c->D2 c2/\c2.kx=c.kx/\(c.answer=false->c.lE.1=[])
def NS.Links.pE(h:n.Links)(t:n.Safe)(hI:n.Inv T)(E:T<=Db)(hi:i<2):∃L,Mh (n i) (n i).lE.2 (n (1-i)) L n.now:=by
 have a:=t.so i hi;have d:=t.lQ i hi;have c:=(hI.c i hi).pN E;have o:Dq (n i).lW.2 (n.g i)/\(∀r∈(n i).lW.1,r.2<(n<|1-i).next)/\(n i).lW.2={ n.c i with answer:=false }:=by
  unfold CS.lW;split
  .exact⟨⟨a.w,a.kf,a.sp,a.wt⟩,λr f=>d r<|List.mem_reverse.1 f,rfl⟩
  rename_i q;refine⟨a,λr f=>(nomatch f),?_⟩;have q:(n i).answer=false:=rB q;show n.c i={ n.c i with answer:=false };rw[<-q]
 obtain⟨v,u,l⟩:=o;have hb:Dc (n i).lW.2 (n<|1-i) (n i).lW.2.mJ:=by
  rw[l];exact(h.l i hi).nV.ask (Ed.of rfl rfl rfl rfl)
 have K:=(P2 (nx:=(n<|1-i).next) (G:=n.g i) (12-(n i).kx.length+(n i).lW.1.length+1) (n i).lW.2 (n i).lW.1 { n with lZ:=(n i).lW.2.lZ,count:=λ_=>(n i).lW.2.next,now:=(n i).lW.2.now } i c v u rfl rfl rfl).2.2.2.1;obtain⟨L,P⟩:=SR (nx:=(n<|1-i).next) (12-(n i).kx.length+(n i).lW.1.length+1) _ _ c v u hb;have o:=(hI.c i hi).lW.1;have N:HB 2048 (n i).lW.2:=λk c a=>by
  rw[l]at a ⊢;have d:=(t.d (1-i) I).k k c;rw[(I:1-(1-i)=i)]at d;have r:=(hI.c i hi).rs k c;have p:((n i).rs k).state≠2:=λe=>by
   obtain⟨x,y⟩:=r.st e;have a:((n i).rs k).mb=true:=a;unfold RS.mb at a;rw[AM x]at a;have:=r.rd;have:=r.hg;simp[e]at a;omega
  show((n i).rs k).used<=2048;unfold RS.used;rw[AH p];have:=r.rd;have:=d.rh;have:=d.hl;have:=d.bl;omega
 have z:=Qr (G:=2048) (12-(n i).kx.length+(n i).lW.1.length+1) _ _ c N (λp a=>o.mC p a) (by have:=o.now;unfold Db at E;unfold zF;omega);have A:CS.mH (12-(n i).kx.length+(n i).lW.1.length+1) (n i).lW.2 (n i).lW.1=(n i).lE:=rfl;have O:=Q0 (12-(n i).kx.length+(n i).lW.1.length+1) (n i).lW.2 (n i).lW.1;have B:=Tl (b:=n.c<|1-i) (nx:=(n<|1-i).next) (G:=n.g i) (12-(n i).kx.length+(n i).lW.1.length+1) _ _ c v u hb N (by rw[l];exact h.gb i hi);have a:=(hI.c i hi).lW.2.2;have s:Fo (n i).lW.2 (n i).lW.1=12-(n i).kx.length+(n i).lW.1.length:=by rw[l];rfl
 have X:∀r∈(n i).lW.1,r.1<=r.2:=λr f=>by
  have f:r∈(n i).lQ.rs:=by
   unfold CS.lW at f;split at f
   .exact List.mem_reverse.1 f
   cases f
  obtain⟨j,a,x,y⟩:=I1 f;have:=((hI.c i hi).lQ.1.wf.1 j a).1;omega
 have len:L.length<=20:=by
  have a:=z.next;have d:=P.next;rw[s]at a;omega
 rw[A]at P K z O B;have a:=z.but;obtain⟨d,o,p,v,h,E,z,A⟩:=a.hd;obtain⟨d,E,h,N,T,Y,Z⟩:=a.tl;have br:=a.rs;have a:=P.fl;have N:=P.next;have h:=K.ws;rw[l]at a N h v z d br A E o p;have K:(n i).now=n.now:=t.now i hi;refine⟨L,P,by rw[<-K];exact a,N,?_,λk c=>?_,h,z,v,A,E,⟨o,p⟩,len,d,λw x y=>?_,λx=>?_⟩
 .exact Do.of (λk c=>by obtain⟨g,a,e,_⟩:=br k c;rw[e];exact⟨rfl,rfl,rfl,rfl⟩) (λk c=>Az (h k c).lA.symm) (Az d.symm)
 .obtain⟨g,a,e,y⟩:=br k c;refine⟨g,a,e,?_⟩;have:=(hI.c i hi).mj;rcases y with⟨y,_⟩|⟨a,c⟩
  .rw[y];exact BO _ _
  have a:((n i).rs k).used<=2048:=a;have c:g=max ((n i).rs k).kz (((n i).rs k).used+(n i).lD):=c;omega
 .rw[s]at B;obtain⟨δ,a,d,h,c⟩:=B (by rw[l];exact w) I (by rw[l];show(n i).next+_<_;omega) (λr f=>by
   have:=u r f;have:=X r f;omega) I
  rw[l]at a c;have a:48*(n i).lE.2.kx.length+(n i).lE.2.due+6*(n i).mQ<=48*(n i).kx.length+10*(n i).lW.1.length+(n i).due+6*(n i).lE.2.mQ+48 * δ := a;exact⟨δ,I,d,h,c⟩
 have a:D2 (n i).lW.2:=by rw[l];exact⟨⟨x.ct.r,x.ct.t,x.ct.w⟩,x.w,x.dg⟩
 obtain⟨⟨j,e⟩,z⟩:=O a hb.low (by rw[l];exact(hI.c i hi).lZ.1);refine⟨by rw[e];exact a.next j,by rw[e,l],λq=>z<|by unfold CS.lW;rw[q];rfl⟩
variable{now:Nat}
def Xa{o:CS}{L:List (List DV)}(f:Mh c c2 o L now)(E:FW c o)(K:FW o c)(N:∀r∈c.lW.1,r∈c.lQ.rs):∀x∈c.lE.1,LX c2 o x:=by
 intro x o;have O:c.lW.2.next=c.next:=by unfold CS.lW;split<;>rfl
 have d:=f.pk.outs;rw[O]at d;obtain⟨j,T,u,hd⟩:=TL L c.next d o;have X:=AW u;refine⟨λd o e q a O g h l s=>?_,λd o e g h k q a z v Y l A s=>?_⟩
 .rw[hd]at e;cases e;rw[f.fl]at a;rcases Ak.1 a with y|y
  .have:=(E.num q y).1;omega
  obtain⟨_,_,_,B⟩:=Ma L c.next y;rw[(I:q.n-c.next=j),u]at B;cases B;exact⟨zt g,BL.2 ⟨g,h,rfl⟩,U1 s⟩
 rw[hd]at e;cases e;obtain⟨p,t,rfl⟩:=BL.1 h;rw[Gp]at k;have er:(zt p).lF=p.lF:=by simp[zt,k]
 rw[er]at z;obtain⟨r,c,y⟩:=GP.1<|QT z;exact f.gr l A<|K.lQ q a (GP.2 ⟨r,N r<|f.pk.lW T X p t k r c,y⟩) v Y l A s
def QB(c:CS):∀r∈c.lW.1,r∈c.lQ.rs:=λr a=>by
 unfold CS.lW at a;split at a
 .exact List.mem_reverse.1 a
 cases a
def NK(a:n.Safe)(hI:n.Inv T)(c:T<=Db)(hi:i<2):∃k,(n.flush i).2={ n.lS i (n i).lE.2 with count:=ze n.count i k,lP:=n.lP++(n i).lE.1.map λx=>(1-i,x) } :=
 Ui i _ _ (a.flush hI c hi).1
def Mh.qa{o:CS}{L:List (List DV)}(f:Mh c c2 o L now)(d:c.now=now):Dz c c2 o :=
 ⟨f.pk.nV,λq a=>by
  rw[f.fl]at a;rcases Ak.1 a with y|y
  .exact .inl y
  obtain⟨a,b,e,_⟩:=Ma L c.next y;exact .inr ⟨a,by rw[f.nx];exact b,by rw[e,f.now,d];exact AF _⟩,⟨by rw[f.nx];omega,Az f.now.symm⟩,f.gr,λm c=>.inl<|by rw[<-f.lQ];exact c,λk c x=>by obtain⟨g,a,e,y⟩:=f.rs k c;rw[e];show g<=_;omega,f.cf,λx=>by rw[f.lQ];exact x,λx=>by rw[f.lg,f.nx];omega⟩
def NS.Links.flush(h:n.Links)(c:n.Safe)(hI:n.Inv T)(d:T<=Db)(hi:i<2):(n.flush i).2.Links:=by
 have a:1-(1-i)=i:=I;obtain⟨L,f⟩:=h.pE c hI d hi;obtain⟨k,e⟩:=NK c hI d hi;have d:=h.l (1-i) I;rw[a]at d;have q:=Xa f (h.l i hi) d<|QB _;rw[e];have l:({ n.lS i (n i).lE.2 with count:=ze n.count i k,lP:=n.lP++(n i).lE.1.map λx=>(1-i,x) }:NS).c i=(n i).lE.2:=NS.nH n i _;have o:({ n.lS i (n i).lE.2 with count:=ze n.count i k,lP:=n.lP++(n i).lE.1.map λx=>(1-i,x) }:NS).c (1-i)=n.c (1-i):=NS.nQ n hi _;refine h.mz c.nums hi o (by rw[l];exact f.qa<|c.now i hi) (λp c=>?_) h.dl ⟨rfl,rfl⟩;rcases Ak.1 c with x|x
 .exact .inl x
 obtain⟨y,s,rfl⟩:=BL.1 x;refine .inr ?_;show LX (NS.c _<|1-(1-i)) (NS.c _<|1-i) y;rw[a,l,o];exact q y s
variable{s:Df}
def Lm(h:s.Ok)(c:∀r∈s.rs,r.2<B)(d:m<B)(e:m<=zF)(a:s.fl<=B):(s.add m m).fl<=B:=by
 unfold Df.add;split
 .exact a
 split
 .have t:=O5 (m:=max m s.fl) (hi:=m) (B:=B-1) (Jm h.wf I (zV (Dv s.rs<|max m s.fl) s.rs.length)<|zV (D8 s.rs m) s.rs.length) (zV (D8 s.rs m) s.rs.length).1 (λj d=>by have:=c _<|AW<|Gh d;simp only at this;omega) I 0 I;show _+1<=B;omega
 exact a
def Dz.lC{o:CS}(t:Dz c c' o):Dz c c'.lO.2 o:=by
 have g:Do c' c'.lO.2:=Do.of (λk _=>⟨rfl,rfl,rfl,rfl⟩) (λ_ _=>AF _) ro;exact⟨t.nV.ask<|Ed.of rfl rfl rfl rfl,t.fl,t.nx,t.gr.trans g,λm a=>(t.lQ m a).imp id<|λx q c e f d a o s=>g a o<|x q c e f d a o s,t.gt,t.cf,t.gf,t.lg⟩
structure ko(c c' o:CS)(num:Nat)(fs:List DV):Prop where
 qa:Dz c c' o
 ok:Hg c.lQ.rs c.lQ.fl num=true/\c'=c\/Hg c.lQ.rs c.lQ.fl num=false/\c'=(CS.lk fs { c with lQ:=c.lQ.add num num }).2/\(∀f∈fs,FY c' f)/\c'.lQ=c.lQ.add num num/\c'.next=c.next/\c'.now=c.now
variable{fs:List DV}{num:Nat}
def NS.Links.qq(h:n.Links)(c:n.Safe)(hI:n.Inv T)(hi:i<2){b:rC}(hb:b.length<1099511627776)(hd:dec b=.ok num fs)(p:G6 (n (1-i)) (n i).next (n.g (1-i)) b)(x:LX (n (1-i)) (n i) b):ko (n i) ((n i).lM b).2 (n (1-i)) num fs:=by
 have d:1-i<2:=I;have o:1-(1-i)=i:=I;have a:=Oa c hi;have e:=c.up i hi;obtain⟨f,s,l,t,q⟩:=p.dec;rw[hd]at l;cases l;obtain⟨u,_,s⟩:=Kf hb hd;by_cases f:Hg (n i).lQ.rs (n i).lQ.fl num=true
 .have l:(n i).lM b=((0,-1),n.c i):=by
   unfold CS.lM;rw[AH (by rw[e];simp),hd];simp only;rw[AM f]
  rw[l];exact⟨(h.l i hi).under,.inl ⟨f,rfl⟩⟩
 have l:(n i).lM b=(((CS.lk fs { n.c i with lQ:=(n i).lQ.add num num }).1,-1),(CS.lk fs { n.c i with lQ:=(n i).lQ.add num num }).2):=by
  unfold CS.lM;rw[AH (by rw[e];simp),hd];simp only;rw[AH f]
 rw[l];have e:Rc (n<|1-i) { n.c i with lQ:=(n i).lQ.add num num } (n.e<|1-i) (n.e i) (n.g<|1-i) (n.g i):=⟨⟨a.d1.k,a.d1.cr⟩,⟨a.d2.k,a.d2.cr⟩,⟨a.so.w,a.so.kf,a.so.sp,a.so.wt⟩,a.ms.same ⟨rfl,rfl,rfl⟩ rfl,a.sm⟩;obtain⟨l,v,a⟩:=Rc.lk (c.so (1-i) d) fs _ e s q;have l:=h.l i hi;have v:=h.l (1-i) d;rw[o]at v;have k:=QC (c.so (1-i) d) fs e s q (λp e=>((hI.c i hi).mC p e).2.2.2) (l.nV.ask<|Ed.of rfl rfl rfl rfl)<|x.pK num fs hd;have e:Do (n i) ({ n.c i with lQ:=(n i).lQ.add num num }:CS):=Do.of (λk _=>⟨rfl,rfl,rfl,rfl⟩) (λ_ _=>AF _) ro;refine⟨⟨k.nV,λq h=>.inl<|k.sub q h,⟨Az a.next.symm,Az a.now.symm⟩,e.trans k.my,λm e=>?_,λj d x=>by show((CS.lk fs _).2.rs j).kz<=_;rw[k.gt j d];exact x,k.cf,λx=>by show(CS.lk fs _).2.lQ.fl<=_;rw[a.lQ];exact Lm (hI.c i hi).lQ.1 (c.lQ i hi) t u x,k.lg⟩,.inr ⟨rB f,rfl,k.has,a.lQ,a.next,a.now⟩⟩;have e:De (CS.lk fs { n.c i with lQ:=(n i).lQ.add num num }).2.lQ.rs m:=e;rw[a.lQ]at e;rcases Wz (hI.c i hi).lQ.1 e with y|y
 .exact .inl y
 refine .inr λq h e f c a o s=>?_
 obtain⟨g,d,e⟩:=x.lP num fs hd q h I f c a s;exact k.has g d a o e
def NS.Links.pV(h:n.Links)(c:n.Safe)(hi:i<2){b:rC}(t:Dz (n i) ((n i).lM b).2 (n (1-i))):(n.recv i b).2.2.Links:=by
 have e:(n.recv i b).2.2.c=ze (ze n.c i ((n i).lM b).2) i (((n.lS i ((n i).lM b).2).c i).lO.2):=rfl;refine h.user c.nums hi (c':=((n i).lM b).2.lO.2) ?_ rfl ⟨rfl,rfl,rfl⟩ t.lC (λj d s c=>?_)
 .rw[e];funext j;by_cases x:j=i
  .subst x;rw[zf,zf,NS.nH]
  rw[zd _ _ x,zd _ _ x,zd _ _ x]
 have c:s∈ze (n.lS i ((n i).lM b).2).g (1-i) (FK n.now ((n.lS i ((n i).lM b).2).c i).lO.1<|n.g<|1-i).2 j:=c;by_cases x:j=1-i
 .subst x;rw[zf]at c;obtain⟨e,a,_,b,_⟩:=(Pc _ _ _).2 s c;have:=h.dl _ d e a;exact .inr I
 rw[zd _ _ x]at c;exact .inl c
def NS.Links.recv(h:n.Links)(a:n.Safe)(hI:n.Inv T)(hi:i<2){b:rC}(hb:b.length<1099511627776)(p:G6 (n (1-i)) (n i).next (n.g (1-i)) b)(x:LX (n (1-i)) (n i) b):(n.recv i b).2.2.Links:=by
 obtain⟨c,d,hd,_⟩:=p.dec;exact h.pV a hi (h.qq a hI hi hb hd p x).qa
def NS.Links.carry(h:n.Links)(a:n.Safe)(hI:n.Inv T)(s:Dh):(n.carry s).2.Links:=by
 unfold NS.carry;split
 .exact h
 rename_i hb;have o:DR s.a n.lP.length<n.lP.length:=zU _ _<|BM.2 hb;have d:n.lP.getD (DR s.a n.lP.length) (0,[])∈n.lP:=by simp[List.getD,o]
 obtain⟨c,e⟩:=a.lP _ d;have l:=h.bg _ d;obtain⟨_,p,o⟩:=hI.lP _ d;generalize DR s.a n.lP.length=k at *;generalize n.lP.getD k (0,[])=f at *;unfold NS.nR;split
 .split
  .exact(h.drop k).recv (a.drop k) (hI.drop k) c I e l
  exact h.recv a hI c I e l
 split
 .exact h.drop k
 split
 .have hd:=UO e.nW (zU s.b _ p)<|Sy s.s;have d:(n f.1).lM (Hy f.2 (DR s.b f.2.length)<|IS s.s)=((7,-1),n.c f.1):=by
   unfold CS.lM;rw[AH (by rw[a.up f.1 c];simp),hd]
  exact h.pV a c<|by rw[d];exact(h.l f.1 c).under
 exact h
def NS.Links.step(h:n.Links)(c:n.Safe)(hI:n.Inv T)(a:T+401<=Db)(s:Dh):(n.step s).2.Links:=by
 have a:=c.nums;unfold NS.step;split
 .exact h.send a (GF _) _
 split
 .exact h.finish a (GF _)
 split
 .exact h.reset a (GF _) _
 split
 .exact h.lH a (GF _) s
 split
 .exact(h.tick a hI).carry c.tick hI.tick s
 split
 .exact h.flush c hI I (GF _)
 split
 .exact h.read a (GF _) _
 exact h.carry c hI s
theorem NS.Links.new{e c d:Nat}(h:c<=4096):(NS.new e c d).Links:=by
 have l:EF ⟨[],0,2048⟩ 0:=⟨In _ I,rfl,λj o=>absurd o<|A6 j,by show 1025<=2048;omega⟩;have w:ET (WS.new c):=⟨l,l,AN _,AN _,AN _⟩;have no:∀{m H p:Nat},¬De (⟨[],H,m⟩:Df).rs p:=λ⟨i,hi,_⟩=>absurd hi<|A6 i
 have b:Dc (CS.new e c d) (CS.new e c d) (CS.new e c d).mJ:=by
  refine⟨λk _=>w,λk _ p f=>absurd f<|no (m:=2048) (H:=0),λq o a=>.inl ?_⟩;cases q with
  | byte k p=>exact absurd a<|no (m:=2048) (H:=0)
  | fin k=>cases a
  | tell k n=>cases a.1
  | mF k n =>
   obtain⟨_,a⟩:=a;exact Az<|Eq.symm a
  | all n =>
   obtain⟨_,a⟩:=a;exact Az<|Eq.symm a
 exact⟨λi _=>⟨b,λq a=>(nomatch a),λq a=>(nomatch a),AF _⟩,λp f=>(nomatch f),λi _ s a=>(nomatch a),λi _ k _=>AK h lc,λ_ _=>⟨rfl,rfl⟩,λ_ _=>AF _⟩
theorem Va(d:List Int):∀(l:List Dh) {T B:Nat} {n:NS},Q2 d l->n.Safe->n.Inv T->n.Links->T+401*l.length<=B->B<=Db->∃n',NS.mv d l n=some n'/\n'.Safe/\n'.Inv B/\n'.Links
 | [],T,B,n,_,h,hI,k,hT,_=>⟨n,rfl,h,hI.mono<|by rw[Ae]at hT;omega,k⟩
 | s::l,T,B,n,HS,h,hI,k,hT,hB=>by
  rw[AS,Nat.mul_succ 401 l.length]at hT;have e:=fun{f:Nat} {n':NS} (a:n'.Safe) (b:n'.Inv f) (c:n'.Links)=>Va d l (T:=f) (B:=B) (n:=n') (λq d=>HS q<|AV _ d) a b c
  generalize 401*l.length=q at *;have c:T+401<=B/\T+q<=B/\T+401+q<=B:=by clear e hB h hI HS;omega
  have a:=AK c.1 hB;unfold NS.mv;split
  .exact e h hI k c.2.1 hB
  rename_i d;obtain⟨f,l⟩:=HS s AQ (rB d) T n h hI a;rw[AM f];exact e l (hI.step s a) (k.step h hI a s) c.2.2 hB
def SK(s:Nat){y:RS}(a:y.lU=(c.rs s).lU)(d:y.kz=(c.rs s).kz):∀k,k<8->(ze c.rs s y k).lU=(c.rs k).lU/\(ze c.rs s y k).kz=(c.rs k).kz:=λk _=>by
 by_cases e:k=s
 .subst e;rw[zf];exact⟨a,d⟩
 rw[zd _ _ e];exact rZ
def Uh(h:f.kind≠2):(c.take f).2.kx=c.kx/\(c.take f).2.lI=c.lI/\(c.take f).2.answer=c.answer/\(c.take f).2.now=c.now/\(c.take f).2.next=c.next/\D3 c (c.take f).2:=by
 unfold CS.take;rw[AH h];split
 .unfold CS.lq;split
  .exact⟨rfl,rfl,rfl,rfl,rfl,D3.of rfl⟩
  exact⟨rfl,rfl,rfl,rfl,rfl,D3.of rfl (SK _ rfl rfl)⟩
 split
 .unfold CS.data;split
  .exact⟨rfl,rfl,rfl,rfl,rfl,D3.of rfl⟩
  split
  .exact⟨rfl,rfl,rfl,rfl,rfl,D3.of rfl⟩
  exact⟨rfl,rfl,rfl,rfl,rfl,D3.of rfl (SK _ rfl rfl)⟩
 split
 .exact⟨rfl,rfl,rfl,rfl,rfl,D3.of rfl⟩
 split
 .refine⟨rfl,rfl,rfl,rfl,rfl,λk _=>?_,λ_ _=>⟨rfl,rfl⟩,rfl,rfl⟩;show(∀p,De (c k).lJ.rs p->De (ze c.ws f.stream.toNat _ k).lJ.rs p)/\(ze c.ws f.stream.toNat _ k).ending=_/\(ze c.ws f.stream.toNat _ k).lN=_;by_cases e:k=f.stream.toNat
  .subst e;rw[zf];exact⟨λ_=>id,rfl,rfl⟩
  rw[zd _ _ e];exact⟨λ_=>id,rfl,rfl⟩
 split
 .unfold CS.message;split<;>exact⟨rfl,rfl,rfl,rfl,rfl,D3.of rfl⟩
 split<;>exact⟨rfl,rfl,rfl,rfl,rfl,D3.of rfl⟩
structure Fl(m0:Nat)(B:List DW)(A:List DW)(c:CS):Prop where
 fl:c.kx=A++B
 b:∀q∈B,m0<=q.n/\q.at_=c.now
 lg:c.lI<=m0
 nx:m0<=c.next
structure kk(m0:Nat)(B A:List DW)(b b':CS)(fs:List DV):Prop where
 f:∃A',Fl m0 B A' b'/\∀q∈A',q∈A/\∀f∈fs,f.kind=2->Dw f.lF q=false
 pH:b'.answer=(b.answer||Et fs)
 now:b'.now=b.now
theorem SJ{m0:Nat}{B A:List DW}{b:CS}(h:Fl m0 B A b)(s:f.kind=2->0<f.lF.length/\∀r∈f.lF,r.2<m0)(ok:(b.take f).1=0):∃a,Fl m0 B a (b.take f).2/\(∀q∈a,q∈A/\(f.kind=2->Dw f.lF q=false))/\(b.take f).2.answer=b.answer/\(b.take f).2.now=b.now:=by
 by_cases e:f.kind=2
 .obtain⟨a,c⟩:=s e;have s:=c _<|AW<|Gh a;simp only at s;have a:¬b.next<=DP f.lF 0:=pp h.nx;have s:b.take f=b.ln f.lF:=by unfold CS.take;rw[AM e]
  rw[s];obtain⟨t,u,d,v,_⟩:=NR a;obtain⟨l,z,E⟩:=Vf a;have a:=h.lg;have K:(B.filter λp => !Dw f.lF p).filter l=B:=by
   have N:B.filter (λp => !Dw f.lF p)=B:=CN.2 λq o=>by
    cases hm:Dw f.lF q with
    | false=>rfl
    | true =>
     have:=Pq c<|QT hm;have:=(h.b q o).1;omega
   rw[N];exact CN.2 λq o=>by
    obtain⟨x,y⟩:=h.b q o;rw[E,As I,As I];rfl
  refine⟨(A.filter λp => !Dw f.lF p).filter l,⟨by rw[z,h.fl,B3,B3,K],λq o=>by rw[d];exact h.b q o,by rw[t];omega,by rw[v];exact h.nx⟩,λq o=>?_,u,d⟩;obtain⟨x,y⟩:=BI.1 (BI.1 o).1;exact⟨x,λ_=>rB y⟩
 obtain⟨a,f,c,d,l,_⟩:=Uh (c:=b) e;exact⟨A,⟨a.trans h.fl,λq o=>by rw[d];exact h.b q o,by rw[f];exact h.lg,by rw[l];exact h.nx⟩,λq o=>⟨o,λx=>absurd x e⟩,c,d⟩
theorem Su{m0:Nat}{B:List DW}:∀(a:List DV) {b:CS} {A:List DW},Fl m0 B A b->(∀f∈a,f.kind=2->0<f.lF.length/\∀r∈f.lF,r.2<m0)->(CS.lk a b).1=0->kk m0 B A b (CS.lk a b).2 a
 | [],b,A,h,_,_=>⟨⟨A,h,λq c=>⟨c,λf d=>(nomatch d)⟩⟩,by show b.answer=(b.answer||false);rw[Bool.or_false],rfl⟩
 | f::a,b,A,h,d,ok=>by
  unfold CS.lk at ok ⊢;by_cases e:(b.take f).1=0
  .rw[AH (by rw[e];simp)]at ok ⊢;obtain⟨s,l,p,t,u⟩:=SJ h (d f AQ) e;have h:Fl m0 B s { (b.take f).2 with answer:=(b.take f).2.answer||f.kind != 2 }:=⟨l.fl,l.b,l.lg,l.nx⟩;obtain⟨⟨l,s,o⟩,v,z⟩:=Su a h (λg h=>d g<|AV _ h) ok;refine⟨⟨l,s,λq c=>⟨(p q (o q c).1).1,λg h k=>?_⟩⟩,?_,z.trans u⟩
   .rcases Ay.1 h with x|x
    .subst x;exact(p q (o q c).1).2 k
    exact(o q c).2 g x k
   rw[v];show((b.take f).2.answer||f.kind != 2||Et a)=(b.answer||Et (f::a));rw[t,Bool.or_assoc];rfl
  rw[AM e]at ok;exact absurd ok e
variable{Ea Eb:Nat->EN}{Ga Gb:List SN}
theorem VO{a:CS}(s:Dq a Ga){m0:Nat}{B:List DW}:∀(d:List DV) {b:CS} {A:List DW},Rc a b Ea Eb Ga Gb->(∀f∈d,Ev f)->(∀f∈d,FJ a b.next Ga f)->(∀p∈b.kx,∀g∈p.fs,Za g)->Dc b a b.mJ ->
  (∀f∈d,f.kind=2->∀p∈b.kx,Dw f.lF p=true->∀g∈p.fs,FY a g)->Fl m0 B A b->(∀f∈d,f.kind=2->0<f.lF.length/\∀r∈f.lF,r.2<m0)->(∀q∈A,∃f c,d=f::c/\f.kind=2/\Dw f.lF q=true)->D3 b (CS.lk d b).2
 | [],b,A,_,_,_,_,_,_,_,_,_=>D3.of rfl
 | f::d,b,A,h,hr,ho,hs,hb,hn,hF,hk,hA=>by
  obtain⟨K,N,O⟩:=h.take s (hr f AQ)<|ho f AQ;have t:=SO h s (hr f AQ) (ho f AQ) hs hb<|hn f AQ;obtain⟨T,o,X,c,A⟩:=SJ hF (hk f AQ) K;have Y:D3 b (b.take f).2:=by
   by_cases e:f.kind=2
   .obtain⟨c,u⟩:=hk f AQ e;have A:=u _<|AW<|Gh c;simp only at A;have c:¬b.next<=DP f.lF 0:=pp hF.nx;have A:b.take f=b.ln f.lF:=by unfold CS.take;rw[AM e]
    rw[A];refine(hb.ln h.d2.top c hs<|hn f AQ e).2 λp l no=>?_
    rw[hF.fl]at l;have:=hF.lg;rcases Ak.1 l with x|x
    .obtain⟨g,Z,v,_,y⟩:=hA p x;cases v;rw[no]at y;cases y
    have:=hF.b p x;omega
   exact(Uh e).2.2.2.2.2
  obtain⟨c,E⟩:∃c,({ (b.take f).2 with answer:=(b.take f).2.answer||f.kind != 2 }:CS)=c:=⟨_,rfl⟩;have h:Dc c a c.mJ/\c.kx=(b.take f).2.kx/\c.next=(b.take f).2.next/\D3 (b.take f).2 c/\Fl m0 B T c:=by
   rw[<-E];exact⟨t.nV.ask<|Ed.of rfl rfl rfl rfl,rfl,rfl,D3.of rfl,⟨o.fl,o.b,o.lg,o.nx⟩⟩
  obtain⟨h,c,o,b6,A⟩:=h;have a:=N.answer<|(b.take f).2.answer||f.kind != 2;rw[E]at a;have i:=VO s d a (λg a=>hr g<|AV _ a) (λg a=>by rw[o,O.next];exact ho g<|AV _ a) (λp l=>hs p<|t.sub p<|by rw[<-c];exact l) h
   (λg a e p l=>hn g (AV _ a) e p<|t.sub p<|by rw[<-c];exact l) A (λg a=>hk g<|AV _ a) (λq a=>by
    obtain⟨x,y⟩:=X q a;obtain⟨g,Z,v,u,z⟩:=hA q x;cases v;rw[y u]at z;cases z)
  unfold CS.lk;rw[AH (by rw[K];simp),E];exact Y.trans<|b6.trans i
theorem XZ(h:s.Ok){n:Nat}(e:n<=zF)(u:∀r∈s.rs,r.2<n)(v:s.fl<=n):∃pre d,(s.add n n).rs=pre++[(d,n)]/\d<=n/\(∀a c,s.rs=a++[(c,n-1)]->d<=c)/\(s.add n n).fl<=n+1:=by
 have hb:n<18446744073709551616:=by unfold zF at e;omega
 have v:=zV (Dv s.rs n) s.rs.length;have e:=zV (D8 s.rs n) s.rs.length;have B:max n s.fl=n:=I;have at_:∀i,i<s.rs.length->DU s.rs i<=DP s.rs i/\DP s.rs i<n:=λi f=>⟨(h.wf.1 i f).1,u _<|AW<|Gh f⟩
 have z:zZ (D8 s.rs n) s.rs.length=s.rs.length:=by
  refine RE ⟨AF _,λq=>?_,λq=>absurd q<|Nat.lt_irrefl _⟩<|V8 h.wf;have:=at_ (s.rs.length-1) I;unfold D8;exact As I
 rw[z]at e;have E:=Jm h.wf (AF n) v e;obtain⟨X,A⟩:∃X,X=EB s.rs n n (zZ (Dv s.rs n) s.rs.length) s.rs.length:=⟨_,rfl⟩;have K:X=s.rs.take (zZ (Dv s.rs n) s.rs.length)++[EG s.rs n n (zZ (Dv s.rs n) s.rs.length) s.rs.length]:=by
  rw[A];unfold EB;rw[CB]
 have N:(EG s.rs n n (zZ (Dv s.rs n) s.rs.length) s.rs.length).2=n/\(EG s.rs n n (zZ (Dv s.rs n) s.rs.length) s.rs.length).1<=n/\∀a c,s.rs=a++[(c,n-1)]->(EG s.rs n n (zZ (Dv s.rs n) s.rs.length) s.rs.length).1<=c:=by
  unfold EG;split
  .rename_i q;have E:=at_ (s.rs.length-1) I;refine⟨by show max n _=n;omega,Bu _ _,λa c e=>?_⟩;have o:s.rs.length=a.length+1:=by rw[e];simp
   have d:DU s.rs a.length=c:=by rw[e];unfold DU;simp
   have mono:=(Km h.wf (I:zZ (Dv s.rs n) s.rs.length<=a.length) I).1;show min n _<=c;omega
  rename_i q;refine⟨rfl,AF _,λa c e=>?_⟩;have o:s.rs.length=a.length+1:=by rw[e];simp
  have f:DP s.rs a.length=n-1:=by rw[e];unfold DP;simp
  have E:=at_ a.length I;have x:=v.2.1 I;rw[(I:zZ (Dv s.rs n) s.rs.length-1=a.length)]at x;have:=of_decide_eq_false<|show decide (n<=DP s.rs a.length+1)=false from x;omega
 generalize EG s.rs n n (zZ (Dv s.rs n) s.rs.length) s.rs.length=r at *;obtain⟨d,f⟩:=r;obtain⟨rfl,p,t⟩:=N;unfold Df.add;rw[B,AH<|Nat.lt_irrefl _,z,<-A,K];have a:=h.most;have a:=h.rl;split
 .rename_i q;rw[AG,Ac]at q;obtain⟨x,l,o⟩:∃x l,s.rs.take (zZ (Dv s.rs f) s.rs.length)=x::l:=by
   cases o:s.rs.take (zZ (Dv s.rs f) s.rs.length)with
   | nil=>rw[o]at q;simp only[Ae]at q;omega
   | cons x l=>exact⟨x,l,rfl⟩
  rw[o];have a:x∈s.rs:=BP (i:=zZ (Dv s.rs f) s.rs.length) (by rw[o];exact AQ);have:=u x a;exact⟨l,d,rfl,p,t,by show x.2+1<=_;omega⟩
 exact⟨_,d,rfl,p,t,by show s.fl<=_;omega⟩
def Ph(rs:zE)(m e:Nat):Prop:=∃pre a,rs=pre++[(a,e)]/\a<=m
structure Pk(n:NS)(p:Nat×rC):Prop where
 lt:p.1<2
 len:p.2.length<=400
 pos:0<p.2.length
 safe:G6 (n<|1-p.1) (n p.1).next (n.g<|1-p.1) p.2
 lx:LX (n<|1-p.1) (n p.1) p.2
def NS.Safe.ml(h:n.Safe){l:List (Nat×rC)}(a:∀p∈l,Pk n p):NS.Safe { n with lP:=l }:=⟨h.d,h.so,h.gr,h.dg,h.now,h.lZ,h.ct,h.lQ,λp c=>⟨(a p c).lt,(a p c).safe⟩,h.up⟩
def NS.Links.ml(h:n.Links){l:List (Nat×rC)}(a:∀p∈l,Pk n p):NS.Links { n with lP:=l }:=⟨h.l,λp c=>(a p c).lx,h.dl,h.gb,h.cf,h.fl⟩
def NS.Inv.ml(h:n.Inv T){l:List (Nat×rC)}(a:∀p∈l,Pk n p)(c:l.length<=32*T):NS.Inv T { n with lP:=l }:=⟨h.lZ,h.mj,h.c,h.e,h.now,h.next,h.count,h.gl,h.g,c,λp c=>⟨(a p c).lt,(a p c).pos,(a p c).len⟩⟩
def IQ(n n':NS):Prop:=∀j,∀s∈n'.g j,∃s0∈n.g j,s0.dl=s.dl
def IQ.refl(n:NS):IQ n n:=λ_ s a=>⟨s,a,rfl⟩
def IQ.trans{a b c:NS}(h:IQ a b)(k:IQ b c):IQ a c:=λj s a=>by
 obtain⟨c,d,e⟩:=k j s a;obtain⟨a,f,l⟩:=h j c d;exact⟨a,f,l.trans e⟩
structure Lp(m0 m1 m:Nat)(B A:List DW)(L:List (List DV))(c c':CS):Prop where
 has:∀fs∈L,∀f∈fs,FY c' f
 my:Do c c'
 fl:∃A',Fl m0 B A' c'/\∀q∈A',q∈A/\∀fs∈L,∀f∈fs,f.kind=2->Dw f.lF q=false
 pH:c'.answer=(c.answer||L.any Et)
 top:m1=m+L.length\/(m1<m+L.length/\Ph c'.lQ.rs m1 (m+L.length-1))
 rd:∀k,k<8->(c'.rs k).read=(c.rs k).read/\(c'.rs k).state=(c.rs k).state
 more:(∀q∈A,∃f fs' L',L=(f::fs')::L'/\f.kind=2/\Dw f.lF q=true)->D3 c c'
 nx:c'.next=c.next
 wf:∀k,k<8->EW (c k) (c' k)
variable{m1:Nat}
def Lp.trans{m0:Nat}{B A l:List DW}{L:List (List DV)}{c1:CS}(h:Lp m0 m1 m B A [fs] c c1)(t:∀q∈l,q∈A/\∀gs ∈ [fs],∀f∈gs,f.kind=2->Dw f.lF q=false)(k:Lp m0 m1 (m+1) B l L c1 c'):Lp m0 m1 m B A (fs::L) c c':=by
 refine⟨λgs u f l v o s=>?_,h.my.trans k.my,?_,?_,?_,λj c=>⟨(k.rd j c).1.trans (h.rd j c).1,(k.rd j c).2.trans (h.rd j c).2⟩,λa=>?_,k.nx.trans h.nx,λj c=>(h.wf j c).trans<|k.wf j c⟩
 .rcases Ay.1 u with e|e
  .exact k.my v o (h.has gs (Af.2 e) f l v o s)
  exact k.has gs e f l v o s
 .obtain⟨o,s,c⟩:=k.fl;refine⟨o,s,λq d=>⟨(t q (c q d).1).1,λgs u f l e=>?_⟩⟩;rcases Ay.1 u with x|x
  .exact(t q (c q d).1).2 gs (Af.2 x) f l e
  exact(c q d).2 gs x f l e
 .rw[k.pH,h.pH];simp[Bool.or_assoc]
 .have:=k.top;rw[AS,(I:m+(L.length+1)=m+1+L.length)];exact this
 refine(h.more λq d=>?_).trans (k.more λq d=>?_)
 .obtain⟨f,p,E,e,x⟩:=a q d;cases e;exact⟨f,p,[],rfl,x⟩
 obtain⟨x,y⟩:=t q d;obtain⟨f,p,E,e,K,z⟩:=a q x;cases e;rw[y _ (Af.2 rfl) f AQ K]at z;cases z
def gO{b:CS}(h:FY b (zt f)):FY b f:=λa o s=>h a o (U1 s)
def iP(a:List DV):Et (a.map zt)=Et a:=by
 unfold Et;rw[List.any_map];congr 1;funext f;show((zt f).kind != 2)=_;rw[Gp]
def RU(h:f.kind=2):(zt f).lF=f.lF:=by simp[zt,h]
def Xi(c:n.Safe)(hI:n.Inv T)(Y:n.Links)(o:T+400<=Db){m0:Nat}{x:rC}{A B:List DW}(d:Pk n (i,x))(hd:dec x=.ok m (fs.map zt))(O:(∀r∈(n i).lQ.rs,r.2<m)/\(n i).lQ.fl<=m)(ht:m1=m\/(m1<m/\Ph (n i).lQ.rs m1 (m-1)))(Z:Fl m0 B A (n i))(hk:∀f∈fs,f.kind=2->∀r∈f.lF,r.2<m0):∃n',n.recv i x=(0,true,n')/\n'.Safe/\n'.Inv (T+400)/\n'.Links/\n'.c (1-i)=n.c (1-i)/\n'.now=n.now/\n'.lP=n.lP/\(n'.lD=n.lD/\n'.total=n.total/\IQ n n')/\(∀p,Pk n p->Pk n' p)/\Lp m0 m1 m B A [fs] (n i) (n' i)/\((∀r∈(n' i).lQ.rs,r.2<m+1)/\(n' i).lQ.fl<=m+1):=by
 have hi:=d.lt;have E:1-i<2:=I;have o:1-(1-i)=i:=I;have o:=d.len;have o:x.length<=400:=o;obtain⟨r1,r2,r3⟩:=c.recv hI hi (b:=x) I d.safe;have r4:=Y.recv c hI hi (b:=x) I d.safe d.lx;have r5:=(hI.recv i x I).mono (I:T+x.length<=T+400);have R:=Y.qq c hI hi (b:=x) I hd d.safe d.lx;obtain⟨o,aa,e1,e2,fr⟩:=d.safe.dec;rw[hd]at e1;cases e1;obtain⟨f1,_,f3⟩:=Kf (I:x.length<1099511627776) hd;have h:=Oa c hi;have o:Hg (n i).lQ.rs (n i).lQ.fl m=false:=by
  unfold Hg;rw[As I,Cc];exact CT.2 λr hr=>by
   have:=O.1 r hr;simp;omega
 obtain⟨x1,_⟩|⟨_,q1,q2,q3,q4,q5⟩:=R.ok
 .rw[o]at x1;cases x1
 have K:Rc (n<|1-i) { n.c i with lQ:=(n i).lQ.add m m } (n.e<|1-i) (n.e i) (n.g<|1-i) (n.g i):=⟨⟨h.d1.k,h.d1.cr⟩,⟨h.d2.k,h.d2.cr⟩,⟨h.so.w,h.so.kf,h.so.sp,h.so.wt⟩,h.ms.same ⟨rfl,rfl,rfl⟩ rfl,h.sm⟩;have t1:=(Rc.lk (c.so (1-i) E) _ _ K f3 fr).1;have N:∀f∈fs.map zt,f.kind=2->0<f.lF.length/\∀r∈f.lF,r.2<m0:=λf t e=>by
  refine⟨(f3 f t).oZ e,?_⟩;obtain⟨g,O,rfl⟩:=BL.1 t;rw[Gp]at e;rw[RU e];exact hk g O e
 have h:Fl m0 B A ({ n.c i with lQ:=(n i).lQ.add m m }:CS):=⟨Z.fl,Z.b,Z.lg,Z.nx⟩;obtain⟨⟨A',X,g2⟩,g3,o⟩:=Su (fs.map zt) h N t1;have l:=Y.l i hi;have mC:∀p∈(n i).kx,∀g∈p.fs,Za g:=λp d=>((hI.c i hi).mC p d).2.2.2
 have k:=QC (c.so (1-i) E) _ K f3 fr mC (l.nV.ask<|Ed.of rfl rfl rfl rfl)<|d.lx.pK m _ hd;have mo:=λa=>VO (c.so (1-i) E) _ K f3 fr mC (l.nV.ask<|Ed.of rfl rfl rfl rfl) (d.lx.pK m _ hd) h N a
 have tp:=XZ (hI.c i hi).lQ.1 f1 O.1 O.2;rw[<-q1]at X g3 mo k;obtain⟨u,h⟩:∃u,u=((n i).lM x).2:=⟨_,rfl⟩;have en:(n.recv i x).2.2.c i=u.lO.2:=by
  rw[h];show ze (ze n.c i _) i _ i=_;rw[zf,NS.nH]
 have o:(n.recv i x).2.2.c (1-i)=n.c (1-i):=by
  show ze (ze n.c i _) i _ (1-i)=_;rw[zd _ _ (I:1-i≠i),zd _ _ (I:1-i≠i)]
 rw[<-h]at R q1 q2 q3 q4 q5 X g3 mo k;have gd:Do u u.lO.2:=Do.of (λk _=>⟨rfl,rfl,rfl,rfl⟩) (λ_ _=>AF _) ro;have v:(n.recv i x).2.2.c i=u.lO.2->((n.recv i x).2.2.c i).lQ=(n i).lQ.add m m:=λe=>by rw[e];exact q3
 refine⟨(n.recv i x).2.2,Prod.ext r1<|Prod.ext r2 rfl,r3,r5,r4,o,rfl,rfl,⟨rfl,rfl,λj s c=>?_⟩,λp q=>?_,?_,λr hr=>?_,?_⟩
 .have c:s∈ze (n.lS i ((n i).lM x).2).g (1-i) (FK n.now ((n.lS i ((n i).lM x).2).c i).lO.1<|n.g<|1-i).2 j:=c;by_cases z:j=1-i
  .subst z;rw[zf]at c;obtain⟨h,a,_,b,_⟩:=(Pc _ _ _).2 s c;exact⟨h,a,b.symm⟩
  rw[zd _ _ z]at c;exact⟨s,c,rfl⟩
 .have N:=c.ml (l:=[p]) (λz c=>by rw[Af.1 c];exact q);have o:=Y.ml (l:=[p]) (λz c=>by rw[Af.1 c];exact q);have h:=(hI.mono<|Bv T).ml (l:=[p]) (λz c=>by rw[Af.1 c];exact q) ls;have a:=(N.recv h hi (b:=x) I d.safe).2.2.lP p<|Af.2 rfl;have b:=(o.recv N h hi (b:=x) I d.safe d.lx).bg p<|Af.2 rfl;exact⟨q.lt,q.len,q.pos,a.2,b⟩
 .rw[en];refine⟨λgs c f t=>?_,R.qa.gr.trans gd,⟨A',⟨X.fl,X.b,X.lg,X.nx⟩,λq d=>⟨(g2 q d).1,λgs c f t e=>?_⟩⟩,?_,?_,k.rd,λa=>?_,q4,k.wf⟩
  .rw[Af.1 c]at t;exact gO λh o s=>gd h o<|q2 _ (BL.2 ⟨f,t,rfl⟩) h o s
  .rw[Af.1 c]at t;have:=(g2 q d).2 _ (BL.2 ⟨f,t,rfl⟩) (by rw[Gp];exact e);rw[RU e]at this;exact this
  .show u.answer=_;rw[g3,iP];simp
  .refine .inr ?_;show m1<m+1/\Ph u.lQ.rs m1 (m+1-1);rw[q3];obtain⟨pre,lo,l,c,o,_⟩:=tp;rcases ht with e|⟨e,c,h,p,s⟩
   .exact⟨I,pre,lo,by rw[l];rfl,I⟩
   have:=o c h p;exact⟨I,pre,lo,by rw[l];rfl,I⟩
  have:=mo λq d=>by
   obtain⟨f,gs,c,e,e2,e3⟩:=a q d;cases e;exact⟨zt f,gs.map zt,rfl,by rw[Gp];exact e2,by rw[RU e2];exact e3⟩
  exact D3.trans ⟨this.w,this.r,this.g⟩<|D3.of rfl
 .rw[v en]at hr;have:=QX (hI.c i hi).lQ.1 (B:=m) (lo:=m) (hi:=m) (λj E=>by have:=O.1 _<|AW<|Gh E;simp only at this;omega) ro f1;obtain⟨j,E,_,e⟩:=I1 hr;have:=this j E;omega
 rw[v en];obtain⟨_,_,_,_,_,u⟩:=tp;exact u
theorem RT{m0:Nat}{B:List DW}:∀(L:List (List DV)) {m:Nat} {a:List rC} {n:NS} {ok:Bool} {T:Nat} {A:List DW},OO m L a->n.Safe->n.Inv T->n.Links->T+400*L.length<=Db->(∀x∈a,Pk n (i,x))->(∀r∈(n i).lQ.rs,r.2<m)/\(n i).lQ.fl<=m->(m1=m\/(m1<m/\Ph (n i).lQ.rs m1 (m-1)))->Fl m0 B A (n i)->(∀fs∈L,∀f∈fs,f.kind=2->∀r∈f.lF,r.2<m0) ->
  ∃n',NS.mW (a.map λx=>(i,x)) n ok=(ok,n')/\n'.Safe/\n'.Inv (T+400*L.length)/\n'.Links/\n'.c (1-i)=n.c (1-i)/\n'.now=n.now/\n'.lP=n.lP/\(n'.lD=n.lD/\n'.total=n.total/\IQ n n')/\(∀p,Pk n p->Pk n' p)/\Lp m0 m1 m B A L (n i) (n' i)
 | [],m,a,n,ok,T,A,ho,hs,hI,hl,hT,hx,hg,ht,hF,hk=>by
  rw[show a=[]from ho];exact⟨n,rfl,hs,hI,hl,rfl,rfl,rfl,⟨rfl,rfl,IQ.refl n⟩,λ_=>id,⟨λfs c=>(nomatch c),Do.refl _,⟨A,hF,λq e=>⟨e,λfs c=>(nomatch c)⟩⟩,lm,ht,λ_ _=>⟨rfl,rfl⟩,λ_=>D3.of rfl,rfl,λ_ _=>EW.refl _⟩⟩
 | fs::L,m,a,n,ok,T,A,ho,hs,hI,hl,hT,hx,hg,ht,hF,hk=>by
  obtain⟨x,a,rfl,hd,d⟩:=ho;rw[AS,Nat.mul_succ]at hT;obtain⟨e,l,o,s,t,c1,u,v,a,f,c,A⟩:=Xi hs hI hl (AK (show T+400<=T+(400*L.length+400)by clear hT;omega) hT) (hx x AQ) hd hg ht hF<|hk fs AQ;obtain⟨e,B,E⟩:=c.fl;have h:=c.top;simp only[Ac,CC]at h;obtain⟨K,N,O,X,Y,c2,Z,b2,e,k2,v2⟩:=RT L (ok:=ok) d o s t (AK (show T+400+400*L.length<=T+(400*L.length+400)by clear hT;omega) hT) (λz d=>f _<|hx z<|AV _ d) A h B<|λh d=>hk h<|AV _ d;refine⟨K,?_,O,X.mono<|by rw[AS,Nat.mul_succ];clear hT;omega,Y,c2.trans c1,Z.trans u,b2.trans v,⟨e.1.trans a.1,e.2.1.trans a.2.1,a.2.2.trans e.2.2⟩,λp q=>k2 p<|f p q,c.trans E v2⟩;rw[Bq];show NS.mW _ (n.recv i x).2.2 (ok&&(n.recv i x).2.1&&(n.recv i x).1==0)=_;rw[l];have:(ok&&true&&((0:Nat)==0))=ok:=lm;simp only[this];exact N
def Dp(x:RS):RS:=if x.state≠0 then x else{ x with read:=x.lp 4096,state:=x.l7 (x.lp 4096) }
def Xh(h:c.closed=0)(a:k<8):(c.read (k:Int) (4096:Nat)).2={ c with rs:=ze c.rs k (Dp (c.rs k)) }:=by
 have a:c.stream (k:Int)=0:=by
  unfold CS.stream;rw[AH (by rw[h];simp),AH I]
 unfold CS.read Dp;rw[AH (by rw[a];simp),Ad,Ad];split
 .show c={ c with rs:=ze c.rs k (c.rs k) };rw[Fd]
 rfl
theorem Ug:∀(l:List (Nat×Nat)) {n:NS} {ok:Bool} {T:Nat},l.Nodup->(∀p∈l,p.1<2/\p.2<8)->n.Safe->n.Inv T->n.Links->∃n',NS.reads l n ok=(ok,n')/\n'.Safe/\n'.Inv T/\n'.Links/\(∀i,i<2->n'.c i={ n.c i with rs:=(n' i).rs }/\∀k,k<8->(n' i).rs k=if (i,k)∈l then Dp ((n i).rs k)else(n i).rs k)/\n'.now=n.now/\n'.lP=n.lP/\n'.lD=n.lD/\n'.total=n.total/\n'.g=n.g
 | [],n,ok,T,_,_,hs,hI,hl=>⟨n,rfl,hs,hI,hl,λi _=>⟨rfl,λk _=>lm⟩,rfl,rfl,rfl,rfl,rfl⟩
 | p::l,n,ok,T,hd,hp,hs,hI,hl=>by
  obtain⟨p1,p2⟩:=hp p AQ;obtain⟨f,h⟩:=List.nodup_cons.1 hd;obtain⟨o,s⟩:=hs.read p1 p2 4096;have e:(n.read p.1 p.2 4096).2.c=ze n.c p.1 ((n p.1).read p.2 (4096:Nat)).2/\(n.read p.1 p.2 4096).2.lP=n.lP/\((n.read p.1 p.2 4096).2.now=n.now/\(n.read p.1 p.2 4096).2.lD=n.lD/\(n.read p.1 p.2 4096).2.total=n.total)/\(n.read p.1 p.2 4096).2.g=n.g:=by
   unfold NS.read;split;all_goals exact⟨rfl,rfl,⟨rfl,rfl,rfl⟩,rfl⟩
  obtain⟨n',t,u,v,z,A,B,E,K,N,c⟩:=Ug l (ok:=ok&&(n.read p.1 p.2 4096).1) h (λq h=>hp q<|AV _ h) s (hI.read p.1 p.2 4096)<|hl.read hs.nums p1 4096;rw[Xh (hs.up p.1 p1) p2]at e;refine⟨n',?_,u,v,z,λi h=>?_,B.trans e.2.2.1.1,E.trans e.2.1,K.trans e.2.2.1.2.1,N.trans e.2.2.1.2.2,c.trans e.2.2.2⟩
  .show NS.reads l _ (ok&&(n.read p.1 p.2 4096).1)=(ok,n');rw[t,o,Bool.and_true]
  obtain⟨a,b⟩:=A i h;rw[e.1]at a b;by_cases x:i=p.1
  .subst x;rw[zf]at a b;refine⟨a,λk d=>?_⟩;rw[b k d];show(if (p.1,k)∈l then Dp (ze (n p.1).rs p.2 (Dp<|(n p.1).rs p.2) k)else ze (n p.1).rs p.2 (Dp<|(n p.1).rs p.2) k)=_;by_cases y:k=p.2
   .subst y;rw[AH (by exact f),zf,AM (show(p.1,p.2)∈p::l from AQ)]
   rw[zd _ _ y];simp only[Ay,show ¬(p.1,k)=p from λq=>y<|by rw[<-q],false_or]
  rw[zd _ _ x]at a b;refine⟨a,λk d=>?_⟩;rw[b k d];simp only[Ay,show ¬(i,k)=p from λq=>x<|by rw[<-q],false_or]
theorem eH(l a:List (Nat×rC)):∀(n:NS) (ok:Bool),NS.mW (l++a) n ok=NS.mW a (NS.mW l n ok).2 (NS.mW l n ok).1:=by
 induction l with
 | nil=>intro n ok;rfl
 | cons f l ih=>intro n ok;exact ih _ _
def Jo(c:CS):c.tick.lI=c.lI/\c.tick.answer=c.answer/\c.tick.next=c.next/\c.tick.lQ=c.lQ/\c.tick.now=c.now+1/\c.tick.lD=c.lD/\c.tick.total=c.total/\(∀q∈c.tick.kx,q∈c.kx/\c.now+1<q.at_+6):=by
 have e:c.tick=c.lX.nF:=rfl;rw[e,Hj];have b:=I9 c.lX.kx c.lX;refine⟨b.tl.2.2.2.1,b.hd.2.2.2.2.2.2.2.2,b.hd.2.2.2.2.2.2.1,b.hd.2.2.2.2.2.2.2.1,b.hd.2.2.2.1,b.hd.2.1,b.hd.2.2.1,λq a=>?_⟩;obtain⟨x,y⟩:=BI.1 a;refine⟨x,?_⟩;have y:(!(decide (q.at_+6<=c.now+1)||decide (q.n+3<=c.lI)))=true:=y;simp only[Bl,BW,Aj]at y;omega
structure ID(n n':NS)(L:Nat->List (List DV))(r:Nat->CS):Prop where
 pE:∀i,i<2->∃o,o.next<=(n<|1-i).next+20/\Do o (n'<|1-i)/\Mh (n i).tick (n i).tick.lE.2 o (L i) (n.now+1)
 rv:∀i,i<2->Lp (n i).next (n<|1-i).next (n<|1-i).next (Hd (n.now+1) (n i).next<|L i) (n i).tick.kx (L<|1-i) (n i).tick.lE.2 (r i)
 rd:∀i,i<2->n'.c i={ r i with rs:=(n' i).rs }/\∀k,k<8->(n' i).rs k=Dp ((r i).rs k)
 sr:∃E:Nat->Nat->EN,∀i,i<2->FV (r i) (r<|1-i) (E i)
 now:n'.now=n.now+1
 cfg:n'.lD=n.lD/\n'.total=n.total
 gd:IQ n n'
 so:∀i,i<2->Dq (n i).tick.lE.2 (n.g i)
def cJ(t:n.Safe)(hI:n.Inv T)(X:n.Links)(f:T+lR<=Db)(hb:n.lP=[]):∃n' L r,n.mR=(true,n')/\n'.Safe/\n'.Inv (T+lR)/\n'.Links/\n'.lP=[]/\ID n n' L r:=by
 have l:=(U5 f hI t.up hb).1;unfold NS.mR at l ⊢;rw[RZ hb]at l ⊢;simp only at l ⊢;have f:T+16803<=Db:=f;have q:T+3+8000<=Db/\T+3+8000+8000<=Db/\T+1<=Db/\T+1+1<=Db:=by unfold Db at f ⊢;omega
 obtain⟨B1,B2,f,o⟩:=q;have s1:=t.tick;have q:=hI.tick;have l1:=X.tick t.nums hI;have t0:n.tick.c 0=(n.c 0).tick:=Ms n I;have t1:n.tick.c 1=(n.c 1).tick:=Ms n I;have b1:n.tick.lP=[]:=hb;have w1:n.tick.now=n.now+1:=rfl;obtain⟨a2,z⟩:=s1.flush q f (I:0<2);have A:=q.flush f (I:0<2);have l2:=l1.flush s1 q f (I:0<2);obtain⟨L0,f0⟩:=l1.pE s1 q f (I:0<2);obtain⟨k0,e0⟩:=NK s1 q f (I:0<2);have d:(n.tick.flush 0).2.c 0=(n.c 0).tick.lE.2:=by rw[e0,<-t0];exact NS.nH n.tick 0 (n.tick.c 0).lE.2
 have e:(n.tick.flush 0).2.c 1=(n.c 1).tick:=by rw[e0,<-t1];exact NS.nQ n.tick (i:=0) I (n.tick.c 0).lE.2
 have b2:(n.tick.flush 0).2.lP=(n.c 0).tick.lE.1.map λx=>(1,x):=by rw[e0,t0];show n.tick.lP++_=_;rw[b1];rfl
 have w2:(n.tick.flush 0).2.now=n.now+1/\(n.tick.flush 0).2.lD=n.lD/\(n.tick.flush 0).2.total=n.total/\(n.tick.flush 0).2.g=n.g:=by rw[e0];exact⟨rfl,rfl,rfl,rfl⟩
 obtain⟨f,s3⟩:=z.flush A o (I:1<2);have i3:=A.flush o (I:1<2);have l3:=l2.flush z A o (I:1<2);obtain⟨L1,s⟩:=l2.pE z A o (I:1<2);obtain⟨q,v⟩:=NK z A o (I:1<2);unfold NS.oh NS.oe NS.lR at l ⊢;rw[a2,f]at l ⊢;have Y:=z.so 0 I;rw[w2.2.2.2]at Y;have ab:=d;generalize (n.tick.flush 0).2=n2 at *;have u:(n2.flush 1).2.c 1=(n.c 1).tick.lE.2:=by rw[v,<-e];exact NS.nH n2 1 (n2.c 1).lE.2
 have ac:(n2.flush 1).2.c 0=(n.c 0).tick.lE.2:=by rw[v,<-d];exact NS.nQ n2 (i:=1) I (n2.c 1).lE.2
 have b3:(n2.flush 1).2.lP=((n.c 0).tick.lE.1.map λx=>(1,x))++(n.c 1).tick.lE.1.map λx=>(0,x):=by rw[v,e];show n2.lP++_=_;rw[b2]
 have Z:(n2.flush 1).2.now=n.now+1/\(n2.flush 1).2.lD=n.lD/\(n2.flush 1).2.total=n.total/\(n2.flush 1).2.g=n.g:=by rw[v];exact w2
 generalize (n2.flush 1).2=n3 at *;rw[t0,t1,w1]at f0;rw[show 1-1=0 from rfl,d,e,w2.1]at s;have e:∀p∈n3.lP,Pk n3 p:=λp d=>⟨(s3.lP p d).1,(i3.lP p d).2.2,(i3.lP p d).2.1,(s3.lP p d).2,l3.bg p d⟩
 obtain⟨h,z⟩:∃h,h=({ n3 with lP:=[] }:NS):=⟨_,rfl⟩;have s4:h.Safe:=by rw[z];exact s3.ml<|λp d=>nomatch d
 have l4:h.Links:=by rw[z];exact l3.ml<|λp d=>nomatch d
 have i4:h.Inv (T+3):=by rw[z];exact i3.ml (λp d=>nomatch d)<|AN _
 have c4:h.c=n3.c:=by rw[z]
 have T:∀p∈n3.lP,Pk h p:=λp d=>by rw[z];exact⟨(e p d).lt,(e p d).len,(e p d).pos,(e p d).safe,(e p d).lx⟩
 have w4:h.now=n.now+1/\h.lD=n.lD/\h.total=n.total/\h.lP=[]/\h.g=n.g:=by rw[z];exact⟨Z.1,Z.2.1,Z.2.2.1,rfl,Z.2.2.2⟩
 obtain⟨x1,d,x3,x4,x5,e,f,o⟩:=Jo<|n.c 0;obtain⟨e,d,y3,y4,y5,f,o,p⟩:=Jo<|n.c 1;have d:=f0.pk.outs;have o1:=s.pk.outs;have f:∀c:CS,c.lW.2.next=c.next:=λc=>by unfold CS.lW;split<;>rfl
 rw[f]at d o1;rw[x3]at d;rw[y3]at o1;have p:∀{c c2 o:CS} {L:List (List DV)} {m:Nat},Mh c c2 o L (n.now+1)->c.next=m->c.lI<=m->c.now=n.now+1->Fl m (Hd (n.now+1) m L) c.kx c2:=λf v c o=>⟨by rw[f.fl,v],λq A=>by
  obtain⟨q,_,u3,_⟩:=Ma _ _ A;exact⟨q,by rw[u3,f.now,o]⟩,by rw[f.lg];exact c,by rw[f.nx,v];omega⟩
 have g0:=t.lQ 0 I;have g1:=t.lQ 1 I;have c:=f0.len;have c:=s.len;obtain⟨q,e5,s5,i5,l5,o,w5,v,E,k5,v5⟩:=RT (m0:=(n.c 1).next) (m1:=(n.c 0).next) (i:=1) (B:=Hd (n.now+1) (n.c 1).next L1) L0 (n:=h) (ok:=true&&true&&true) (A:=(n.c 1).tick.kx) d s4 i4 l4 (AK I B1) (λx hx=>T _<|by rw[b3];exact Br _<|BL.2 ⟨x,hx,rfl⟩)
  (by rw[c4,u,s.lQ,y4];exact⟨g1,X.fl 1 I⟩) rj (by rw[c4,u];exact p s y3 (by rw[e];exact(X.l 1 I).lg)<|by rw[y5,t.now 1 I])
  (λfs c f hf e r hr=>g0 r (by have:=QB _ r<|f0.pk.lW fs c f hf e r hr;rw[x4]at this;exact this))
 have d:q.c 0=(n.c 0).tick.lE.2:=by rw[show q.c 0=h.c 0 from o,c4,ac]
 obtain⟨o,e6,s6,i6,l6,c6,w6,ad,K,k6,v6⟩:=RT (m0:=(n.c 0).next) (m1:=(n.c 1).next) (i:=0) (B:=Hd (n.now+1) (n.c 0).next L0) L1 (n:=q) (ok:=true&&true&&true) (A:=(n.c 0).tick.kx) o1 s5 i5 l5 (AK I B2) (λx hx=>k5 _<|T _<|by rw[b3];exact List.mem_append_right _<|BL.2 ⟨x,hx,rfl⟩)
  (by rw[d,f0.lQ,x4];exact⟨g0,X.fl 0 I⟩) rj (by rw[d];exact p f0 x3 (by rw[x1];exact(X.l 0 I).lg)<|by rw[x5,t.now 0 I])
  (λfs c f hf e r hr=>g1 r (by have:=QB _ r<|s.pk.lW fs c f hf e r hr;rw[y4]at this;exact this))
 obtain⟨c,f,p,T,A,c7,B,e,N⟩:=Ug Gk (ok:=true&&true&&true) lc lc s6 i6 l6;have er:NS.mW n3.lP h (true&&true&&true)=(true&&true&&true,o):=by rw[b3,eH,e5];exact e6
 have T:NS.reads Gk (NS.mW n3.lP { n3 with lP:=[] }<|true&&true&&true).2 (NS.mW n3.lP { n3 with lP:=[] }<|true&&true&&true).1=(true,c):=by
  rw[<-z,er];exact f
 rw[T]at l ⊢;have aa:o.c 1=q.c 1:=c6;rw[c4,u]at v5;rw[d]at v6;have f:∀x:RS,(Dp x).lC=x.lC/\(Dp x).ended=x.ended/\(Dp x).cut=x.cut/\(Dp x).lG=x.lG:=λx=>by unfold Dp;split<;>exact⟨rfl,rfl,rfl,rfl⟩
 have g7:∀i,i<2->Do (o.c i) (c.c i):=λi O=>by
  obtain⟨a,b⟩:=c7 i O;have d:(c.c i).ws=(o.c i).ws/\(c.c i).lA=(o.c i).lA:=by rw[a];exact rZ
  refine Do.of (λk hk=>?_) (λk _=>by rw[d.1];exact AF _) (by rw[d.2];exact AF _);rw[b k hk];split
  .exact f _
  exact⟨rfl,rfl,rfl,rfl⟩
 refine⟨c,λi=>if i=0 then L0 else L1,o.c,rfl,p,l,A,by rw[e,ad,v,w4.2.2.2.1],?_,?_,λi O=>?_,⟨o.e,s6.d⟩,by rw[B,w6,w5,w4.1],by rw[N.1,N.2.1,K.1,K.2.1,E.1,E.2.1];exact⟨w4.2.1,w4.2.2.1⟩,?_,λi O=>?_⟩
 .intro i O;rcases(I:i=0\/i=1)with rfl|rfl
  .exact⟨_,by rw[y3];exact DN _ _,s.gr.trans<|v5.my.trans<|by rw[<-aa];exact g7 1 I,f0⟩
  exact⟨_,by show(n.c 0).tick.lE.2.next<=(n.c 0).next+20;rw[f0.nx,x3];omega,v6.my.trans<|g7 0 I,s⟩
 rotate_right 2
 .have c:=E.2.2;have d:=K.2.2;have a:IQ n h:=λj s t=>⟨s,by rw[w4.2.2.2.2]at t;exact t,rfl⟩
  exact(a.trans<|c.trans d).trans λj s t=>⟨s,by rw[N.2.2]at t;exact t,rfl⟩
 .rcases(I:i=0\/i=1)with rfl|rfl
  .rw[<-ab];exact Y
  rw[<-u,<-Z.2.2.2];exact s3.so 1 I
 .intro i O;rcases(I:i=0\/i=1)with rfl|rfl
  .exact v6
  rw[aa];exact v5
 obtain⟨a,b⟩:=c7 i O;refine⟨a,λk hk=>?_⟩;rw[b k hk,AM];unfold Gk;refine BL.2 ⟨8*i+k,Bn.2 I,?_⟩;rw[(I:(8*i+k) / 8=i),(I:(8*i+k) % 8=k)]
theorem VN:∀(L:List (List DV)) (n:Nat) {q:DW},q∈Hd now n L->Et q.fs=true
 | [],_,_,h=>by cases h
 | fs::L,n,q,h=>by
  rcases Ak.1 h with x|x
  .split at x
   .rw[Af.1 x];assumption
   cases x
  exact VN L (n+1) x
structure OL(n:NS)(i:Nat)(q:DW):Prop where
 at_:q.at_=n.now
 lg:(n i).lI<=q.n
 has:∀f∈q.fs,FY (n<|1-i) f
 pH:(n<|1-i).answer=true
 top:∃pre lo hi,(n<|1-i).lQ.rs=pre++[(lo,hi)]/\lo<=q.n/\q.n<=hi
def Iq(P:DW->Prop)(n:NS):Prop:=∀i,i<2->∀q∈(n i).kx,OL n i q\/P q
def ID.my{L:Nat->List (List DV)}{r:Nat->CS}(t:ID n n' L r)(hi:i<2):Do (r i) (n' i):=by
 obtain⟨a,b⟩:=t.rd i hi;have d:∀x:RS,(Dp x).lC=x.lC/\(Dp x).ended=x.ended/\(Dp x).cut=x.cut/\(Dp x).lG=x.lG:=λx=>by unfold Dp;split<;>exact⟨rfl,rfl,rfl,rfl⟩
 have c:(n' i).ws=(r i).ws/\(n' i).lA=(r i).lA:=by rw[a];exact rZ
 exact Do.of (λk a=>by rw[b k a];exact d _) (λk _=>by rw[c.1];exact AF _)<|by rw[c.2];exact AF _
def ID.same{L:Nat->List (List DV)}{r:Nat->CS}(t:ID n n' L r)(hi:i<2):(n' i).kx=(r i).kx/\(n' i).lI=(r i).lI/\(n' i).answer=(r i).answer/\(n' i).lQ=(r i).lQ/\(n' i).ws=(r i).ws/\(n' i).next=(r i).next/\(n' i).waits=(r i).waits/\(n' i).lA=(r i).lA:=by
 obtain⟨a,_⟩:=t.rd i hi;rw[a];exact⟨rfl,rfl,rfl,rfl,rfl,rfl,rfl,rfl⟩
def OL.first{L:Nat->List (List DV)}{r:Nat->CS}(t:ID n n' L r)(hi:i<2){q:DW}(y:OL n i q):∃f a c,L (1-i)=(f::a)::c/\f.kind=2/\Dw f.lF q=true:=by
 obtain⟨o,_,_,f⟩:=t.pE (1-i) I;obtain⟨e,a,o,c,_⟩:=Jo<|n<|1-i;obtain⟨pre,l,h,e,s,u⟩:=y.top;have o:(n<|1-i).tick.lW.1=(l,h)::pre.reverse:=by
  unfold CS.lW;rw[a,y.pH,c,e];simp
 obtain⟨a,b,c,d,g,p,v⟩:=f.pk.first I (by rw[o];simp);rw[o]at p;cases p;exact⟨_,d,g,v,rfl,Bg.2 ⟨(l,h),AQ,by simp[s,u]⟩⟩
def Iq.tick{P P':DW->Prop}{L:Nat->List (List DV)}{r:Nat->CS}(t:ID n n' L r)(h:Iq P n)(p:∀i,i<2->∀q∈(n i).tick.kx,P q->P' q):Iq P' n':=by
 intro i a q l;have c:1-(1-i)=i:=I;have d:1-i<2:=I;obtain⟨s,u,B,E,_⟩:=t.same a;obtain⟨B,E,v,A,_⟩:=t.same d;have R:=t.rv i a;have O:=t.rv (1-i) d;rw[c]at O;obtain⟨B,F,c⟩:=R.fl;rw[s,F.fl]at l;rcases Ak.1 l with x|x
 .obtain⟨o,l⟩:=c q x;rcases h i a q ((Jo<|n i).2.2.2.2.2.2.2 q o).1 with y|y
  .obtain⟨f,c,h,e,k,z⟩:=y.first t a;rw[l _ (by rw[e];exact AQ) f AQ k]at z;cases z
  exact .inr<|p i a q o y
 obtain⟨l,a,c,h⟩:=Ma _ _ x;have a:=AW h;have o:=VN _ _ x;have top:=O.top;refine .inl ⟨by rw[c,t.now],?_,λf p c h s=>t.my d c h<|O.has q.fs a f p c h s,?_,?_⟩
 .rw[u];exact AK F.lg l
 .rw[v,O.pH,Bg.2 ⟨_,a,o⟩,Bool.or_true]
 rw[A];rcases top with e|⟨_,pre,a,e,l⟩
 .omega
 exact⟨pre,a,_,e,I,I⟩
def D3.mQ(h:D3 c c'):c.mQ<=c'.mQ:=GJ 8 λk c=>by
 obtain⟨a,b,d⟩:=h.w k c;have:=Xl a;show WS.mQ _<=WS.mQ _;unfold WS.mQ;rw[b,d];omega
def Ls(n:NS):Prop:=Iq (λ_=>False) n
end
section
open Go.RowKit
variable{i:Nat}{n:NS}
def Ls.y(h:Ls n)(hi:i<2){q:DW}(a:q∈(n i).kx):OL n i q:=(h i hi q a).resolve_right id
variable{c:CS}
def PE(h:∀q∈c.kx,q.at_=c.now/\c.lI<=q.n):c.tick=c.lX:=by
 have l:∀q∈c.lX.kx,c.lX.late q=false:=λq d=>by
  obtain⟨a,b⟩:=h q d;unfold CS.late;show(decide (q.at_+6<=c.now+1)||decide (q.n+3<=c.lI))=false;rw[As I,As I];rfl
 show c.lX.nF=_;rw[Hj,RW _ l,CN.2 (λq d=>by rw[l q d];rfl)];rfl
structure FQ(n n':NS)(L:Nat->List (List DV))(r:Nat->CS)(i:Nat):Prop where
 told:∀cl,cl.Ok->(n i).tick.lE.2.pJ cl->(n'<|1-i).Has cl
 more:D3 (n i).tick.lE.2 (n' i)
 pz:∀k,k<8->EW (n i k) ((n i).tick.lE.2.ws k)
 pf:∀k,k<8->EW ((n i).tick.lE.2.ws k) (n' i k)
 pr:∀k,k<8->∃g a,(n i).tick.lE.2.rs k={ (n i).rs k with kz:=g,lU:=a }
 rr:∀k,k<8->((r i).rs k).read=((n i).rs k).read/\((r i).rs k).state=((n i).rs k).state
 nr:∀k,k<8->(n' i).rs k=Dp ((r i).rs k)
 gr:Do (n i) (n' i)
 cr:(n i).lA=(n i).tick.lE.2.lA/\(n i).tick.lE.2.lA<=(n' i).lA
 cf:(n i).tick.lE.2.lD=n.lD/\(n i).tick.lE.2.total=n.total
 low:∀k,k<8->ET ((n i).tick.lE.2.ws k)
 so:Dq (n i).tick.lE.2 (n.g i)
 nx:(n' i).next<=(n i).next+20
 acc:(n i).tick.waits=[]->(∀j,j<2->(n j).next+50<1073741824)->∃ δ,48*(n' i).kx.length+6*(n i).mQ<=137+6*(n' i).mQ+48 * δ /\ (δ = 0 \/ δ = 1/\D2 (n i).tick.lE.2)/\(12<=(n i).kx.length+(n' i).kx.length\/D2 (n i).tick.lE.2)/\(n i).mQ<=(n' i).mQ
 idle:D2 (n i).tick->D2 (n i).tick.lE.2/\(L i).any Et=false
 pH:(n' i).answer=(L<|1-i).any Et
variable{now:Nat}
theorem Tk:∀(L:List (List DV)) (n:Nat),Hd now n L=[]->L.any Et=false
 | [],_,_=>rfl
 | fs::L,n,h=>by
  obtain⟨a,b⟩:=List.append_eq_nil_iff.1 h;rw[List.any_cons,Tk L (n+1) b,Bool.or_false];cases hw:Et fs with
  | false=>rfl
  | true=>rw[hw]at a;cases a
def Lb(c:CS):c.due<=57:=by
 have:=GJ (f:=λk=>if (c.rs k).due c.lD then 6 else 0) (g:=λ_=>6) 8 (λj _=>by show(if _ then 6 else 0)<=6;split<;>omega);unfold CS.due CS.pP;have e:Dl (λ_=>6) 8=48:=rfl;split<;>omega
variable{n':NS}
theorem Xg{L:Nat->List (List DV)}{r:Nat->CS}(E:n.Safe)(hl:n.Links)(t:ID n n' L r)(h:Ls n)(hi:i<2):FQ n n' L r i:=by
 have s:1-(1-i)=i:=I;have u:1-i<2:=I;obtain⟨o,ox,og,f⟩:=t.pE i hi;have R:=t.rv i hi;have O:=t.rv (1-i) u;rw[s]at O;obtain⟨s1,o,s3,s,K,s6,s7,s8⟩:=t.same hi;have o:(n i).tick=(n i).lX:=PE λq p=>by
  have y:=h.y hi p;exact⟨y.at_.trans (E.now i hi).symm,y.lg⟩
 have d:(n i).tick.kx=(n i).kx:=by rw[o];rfl
 have s:(n i).tick.ws=(n i).ws/\(n i).tick.rs=(n i).rs/\(n i).tick.lA=(n i).lA/\(n i).tick.lD=(n i).lD/\(n i).tick.total=(n i).total:=by rw[o];exact⟨rfl,rfl,rfl,rfl,rfl⟩
 obtain⟨N,e2,e3,e4,e5⟩:=s;obtain⟨_,s,v,_⟩:=Jo<|n i;have gt:Do (n i) (n i).tick:=by rw[o];exact Do.of (λk _=>⟨rfl,rfl,rfl,rfl⟩) (λ_ _=>AF _) ro
 have A:Do (n<|1-i) (n'<|1-i):=by
  have o:(n<|1-i).tick=(n<|1-i).lX:=PE λq p=>by
   have y:=h.y u p;exact⟨y.at_.trans (E.now (1-i) u).symm,y.lg⟩
  obtain⟨E,_,_,s⟩:=t.pE (1-i) u;have g:Do (n<|1-i) (n<|1-i).tick:=by rw[o];exact Do.of (λk _=>⟨rfl,rfl,rfl,rfl⟩) (λ_ _=>AF _) ro
  exact g.trans<|s.gr.trans<|O.my.trans<|t.my u
 have T:=f.ws;rw[N]at T;have B:=f.rs;rw[e2]at B;have X:∀q∈(n i).tick.kx,∃g c Y,L (1-i)=(g::c)::Y/\g.kind=2/\Dw g.lF q=true:=λq p=>(h.y hi<|by rw[<-d];exact p).first t hi
 have A0:∃F:Fl (n i).next (Hd (n.now+1) (n i).next<|L i) [] (r i),True:=by
  obtain⟨Z,F,FA⟩:=R.fl;have:Z=[]:=by
   cases Z with
   | nil=>rfl
   | cons q l =>
    obtain⟨a,b⟩:=FA q AQ;obtain⟨g,c,Y,e,k,z⟩:=X q a;rw[b _ (by rw[e];exact AQ) g AQ k]at z;cases z
  subst this;exact⟨F,trivial⟩
 obtain⟨F,_⟩:=A0;have l:=F.fl;rw[Aq]at l;have Y:D3 (n i).tick.lE.2 (n' i):=(R.more X).trans (D3.of K (λk c=>by rw[(t.rd i hi).2 k c];unfold Dp;split<;>exact rZ) (by rw[(t.rd i hi).1];exact rZ));have E:∀k,k<8->EW ((n i).tick.lE.2.ws k) (n' i k):=λk c=>by rw[K];exact R.wf k c
 have K:(n i).tick.lE.2.kx.length=(n i).kx.length+(n' i).kx.length:=by
  rw[f.fl,d,v,s1,l,AG]
 have s:=hl.cf i hi;have z:(n i).tick.lE.2.lA=(n i).lA/\(n i).tick.lE.2.lA<=(r i).lA:=by
  refine⟨?_,R.my (.all _) trivial ro⟩;have:=f.rA;rw[this,e3]
 refine⟨λl o ask=>?_,Y,λk c=>?_,E,λk c=>?_,λk c=>?_,λk c=>(t.rd i hi).2 k c,gt.trans<|f.gr.trans<|R.my.trans<|t.my hi,⟨z.1.symm,by rw[s8];exact z.2⟩,⟨by rw[f.cf.1,e4];exact s.1,by rw[f.cf.2,e5];exact s.2⟩,f.pk.nV.low,t.so i hi,?_,λw z=>?_,λx=>?_,?_⟩
 .rcases f.pk.nV.asks l o ask with x|⟨q,p,g,E,s⟩
  .exact og l o x
  rw[f.fl,d,v]at p;rcases Ak.1 p with y|y
  .exact A l o ((h.y hi y).has g E l o s)
  obtain⟨_,_,_,h⟩:=Ma _ _ y;exact t.my u l o<|O.has q.fs (AW h) g E l o s
 .have w:=T k c;exact⟨w.b,w.fin,w.cut,w.lG,w.final,w.high,Az w.lA.symm⟩
 .obtain⟨g,a,e,_⟩:=B k c;exact⟨g,a,e⟩
 .obtain⟨g,a,e,_⟩:=B k c;rw[(R.rd k c).1,(R.rd k c).2,e];exact rZ
 .rw[s6,R.nx,f.nx,v];have:=f.len;omega
 .obtain⟨δ,a,h,c,e⟩:=f.acc w (by rw[v];have:=z i hi;omega)<|pp<|z (1-i) u;have l:=Lb (n i).tick;have l:(n i).tick.mQ=(n i).mQ:=by unfold CS.mQ;rw[N]
  have o:=Y.mQ;rw[l]at a e;rw[K,d]at a;rw[K]at c;exact⟨δ,I,h,c,AK e o⟩
 .obtain⟨a,c,d⟩:=f.idle x;have d:Hd (n.now+1) (n i).next (L i)=[]:=by
   have:(n i).tick.kx++Hd (n.now+1) (n i).tick.next (L i)=(n i).tick.kx:=by rw[<-f.fl];exact c
   rw[v]at this;exact List.self_eq_append_right.1 this.symm
  exact⟨a,Tk _ _ d⟩
 rw[s3,R.pH,f.pH,Cc]
def Ex(x:WS)(r:RS):Prop:=if x.cut then r.state≠0 else r.read=x.b.length/\(x.finished=true->r.state=1)
def Iy(x:WS)(r:RS):Prop:=x.cut=true->r.cut=true/\r.ended=true/\r.lG<=x.lG
def WS.bound(x:WS):Nat:=if x.cut then x.lG else x.b.length
variable{r:RS}{x:WS}
def Dn.final{e:EN}(h:Dn x r e)(a:x.cut=true)(c:r.ended=true):r.fin=x.final:=(h.re c).uniq (.inr ⟨a,rfl⟩)
def Dn.used{e:EN}(h:Dn x r e)(t:Iy x r):(r.state=2/\x.cut=true/\r.used=x.final)\/(r.state≠2/\r.used=r.read):=by
 unfold RS.used;by_cases q:r.state=2
 .obtain⟨a,_⟩:=h.s2 q;rw[AM q];exact .inl ⟨q,a,h.final a (t a).2.1⟩
 rw[AH q];exact .inr ⟨q,rfl⟩
def Dn.oV{e:EN}(h:Dn x r e)(t:Iy x r)(l:ET x):r.used<=2048:=by
 have:=l.fn;have:=h.bl;have:=h.hl;have:=h.rh;have:=h.rd;rcases h.used t with⟨_,_,e⟩|⟨_,e⟩<;>omega
def Tj(x:RS):(Dp x).lC=x.lC/\(Dp x).ended=x.ended/\(Dp x).cut=x.cut/\(Dp x).lG=x.lG/\(Dp x).fin=x.fin/\(Dp x).high=x.high:=by
 unfold Dp;split<;>exact⟨rfl,rfl,rfl,rfl,rfl,rfl⟩
def Om{e:EN}(h:Dn x r e):r.read<=(Dp r).read/\(r.state≠0->(Dp r).read=r.read/\(Dp r).state=r.state):=by
 have f:=Rd h 4096;unfold Dp;split
 .exact⟨AF _,λ_=>⟨rfl,rfl⟩⟩
 rename_i q;exact⟨f.1,λz=>absurd z q⟩
structure GX(x x':WS)(r ρ : RS)(e e':EN)(y:WS)(f:EN):Prop where
 d:Dn x r e
 d':Dn x' (Dp ρ) e'
 dm:Dn y ρ f
 fx:EW x x'
 fy:EW y x'
 rr : ρ.read=r.read /\ ρ.state=r.state
 l:ET x'
variable{y:WS}
def GX.done{a:WS}{ρ : RS}{e c:EN}{f:EN}(s:GX x a r ρ e c y f)(h:Ex x r):Ex a (Dp ρ):=by
 obtain⟨a,b⟩:=Om s.dm;unfold Ex at *;rw[s.fx.cut,s.fx.b,s.fx.fin];have a:=s.d'.rd;have a:=s.d'.rh;have a:=s.d'.hl;rw[s.fx.b]at a;split
 .rename_i c;rw[AM c]at h;obtain⟨_,a⟩:=b (by rw[s.rr.2];exact h);rw[a,s.rr.2];exact h
 rename_i c;rw[AH c]at h;refine⟨pu h.1 s.rr.1,λq=>?_⟩;have:=h.2 q;obtain⟨_,a⟩:=b (by rw[s.rr.2];omega);rw[a,s.rr.2];exact this
def GX.used{a:WS}{ρ : RS}{e c:EN}{f:EN}(s:GX x a r ρ e c y f)(t:Iy x r)(h:Iy a (Dp ρ)):r.used<=(Dp ρ).used:=by
 obtain⟨a,b⟩:=Om s.dm;rw[s.rr.1]at a;rcases s.d.used t with⟨f,c,e⟩|⟨f,e⟩
 .obtain⟨_,o⟩:=b (by rw[s.rr.2];omega);rcases s.d'.used h with⟨d,l,c⟩|⟨d,c⟩
  .rw[e,c,s.fx.final];exact AF _
  rw[o,s.rr.2]at d;exact absurd f d
 rcases s.d'.used h with⟨d,l,c⟩|⟨d,c⟩
 .rw[e,c];have:=s.d'.hf l;have:=s.d'.rh;have:=s.d'.rd;omega
 rw[e,c];exact a
def XY{ρ : RS}{f:EN}(h:Dn y ρ f)(c : ρ.state=0){E:Nat}(a:∀p,p<E->De ρ.lC.rs p)(d : ρ.cut=true->E <= ρ.lG):E<=(Dp ρ).read:=by
 have e:(Dp ρ).read = ρ.lp 4096:=by unfold Dp;rw[AH (by rw[c];simp)]
 rw[e];have hb:=h.bl;have c:=h.hl;have c:=h.rh;have c:=(Rd h 4096).1;have top:E <= ρ.high:=by
  by_cases z:E=0
  .omega
  have:=MF h.low<|a (E-1) I;omega
 have g : ρ.read<E->E<=(Dd ρ.lC.rs ρ.read ρ.high).1:=λq=>by
  by_cases z:E<=(Dd ρ.lC.rs ρ.read ρ.high).1
  .exact z
  obtain⟨e,c⟩:=NN ρ.lC.rs ρ.read ρ.high I I;exact absurd (GP.1<|a _ I)<|Oq ρ.lC.rs ρ.read ρ.high _ h.low.ok.wf ro c
 by_cases q : ρ.read<E
 .have:=g q;unfold RS.lp;split
  .rename_i c;have:=d c;omega
  omega
 omega
theorem GX.lJ{h:WS}{ρ : RS}{e e':EN}{f:EN}(s:GX x h r ρ e e' y f)(t:Iy x r)(T:Iy h (Dp ρ)){o:Nat}{z:WS}(fz:EW x z)(A:EW z h)(kf:z.lG<=z.final)(lz:ET z)(hE:∀p,p<min o z.bound->De ρ.lC.rs p)(hl:o<=z.b.length)(hh:z.high<=o)(hf:z.fin=true->z.b.length<=o -> ρ.ended=true):z.high<=(Dp ρ).used/\(Ex h (Dp ρ)\/(o<z.bound/\o<=(Dp ρ).used)):=by
 have e:h.cut=z.cut/\h.lG=z.lG/\h.b=z.b/\h.finished=z.finished/\h.final=z.final:=⟨A.cut,A.lG,A.b,A.fin,A.final⟩;obtain⟨c1,c2,c3,c4,f⟩:=e;have e:=s.d'.hl;have f:=s.d'.rh;have f:=s.d'.rd;rw[c3]at e;have e:=lz.hl;obtain⟨_,p,e,f,t,_⟩:=Tj ρ;have l:=s.d'.used T;have dn:Ex h (Dp ρ)->z.high<=(Dp ρ).used:=λq=>by
  unfold Ex at q;rw[c1,c3,c4]at q;rcases l with⟨B,N,E⟩|⟨B,E⟩
  .have:=s.d'.hf N;have:=A.high;omega
  rw[E];split at q
  .have st:=s.d'.st;have:(Dp ρ).state=1:=I;obtain⟨_,b⟩:=s.d'.s1 this;rw[c3]at b;omega
  omega
 have u:Ex h (Dp ρ)\/(o<z.bound/\o<=(Dp ρ).used):=by
  have O:y.cut=z.cut:=by rw[<-c1,s.fy.cut]
  have X:y.b=z.b:=by rw[<-c3,s.fy.b]
  have Y:y.lG=z.lG:=by rw[<-c2,s.fy.lG]
  have tk:z.cut=true -> ρ.cut=true /\ ρ.lG<=z.lG/\z.lG <= ρ.lG:=λq=>by
   obtain⟨a,b,d⟩:=T (by rw[c1];exact q);rw[e]at a;rw[f,c2]at d;have:=(s.dm.rc a).2;rw[Y]at this;exact⟨a,d,this⟩
  have Z:z.cut=false -> ρ.cut=false:=λq=>by
   cases hc : ρ.cut with
   | false=>rfl
   | true=>have:=(s.dm.rc hc).1;rw[O,q]at this;cases this
  by_cases K : ρ.state=0
  .have v:=XY s.dm K hE (λc=>by
    have:=(s.dm.rc c);rw[Y,O]at this;have b:z.bound=z.lG:=by unfold WS.bound;rw[AM this.1]
    rw[b];omega)
   have es:(Dp ρ).state = ρ.l7 (Dp ρ).read:=by unfold Dp;rw[AH (by rw[K];simp)]
   by_cases q:z.bound<=o
   .left;have v:z.bound<=(Dp ρ).read:=I;unfold Ex;rw[c1,c3,c4];unfold WS.bound at v;cases hc:z.cut with
    | true =>
     rw[hc]at v;obtain⟨a,b,_⟩:=tk hc;simp only[A9]at v ⊢;rw[es];unfold RS.l7;rw[a,Bh,AM (Au I)];simp
    | false =>
     rw[hc]at v;simp only[BT,BZ]at v ⊢;refine⟨I,λa=>?_⟩;have e : ρ.ended=true:=hf (by unfold WS.fin;rw[a,hc];rfl) (by unfold WS.bound at q;rw[hc]at q;simpa using q);obtain⟨_,a⟩:=s.dm.rf e<|Z hc;rw[X]at a;rw[es];unfold RS.l7;rw[Z hc,e,a];have:(Dp ρ).read=z.b.length:=I;simp[this]
   have v:o<=(Dp ρ).read:=I;by_cases d:Ex h (Dp ρ)
   .exact .inl d
   refine .inr ⟨I,?_⟩;rcases l with⟨B,N,E⟩|⟨B,E⟩
   .exact absurd (by unfold Ex;rw[AM N,B];simp) d
   omega
  left;obtain⟨_,b⟩:=Om s.dm;obtain⟨a,d⟩:=b K;unfold Ex;rw[c1,c3,c4,a,d];split
  .exact K
  rename_i c;have st:=s.dm.st;have : ρ.state≠2:=λq=>by have:=(s.dm.s2 q).1;rw[O]at this;exact c this
  have a : ρ.state=1:=I;have:=(s.dm.s1 a).2;rw[X]at this;exact⟨this,λ_=>a⟩
 refine⟨?_,u⟩;rcases u with q|⟨_,q⟩
 .exact dn q
 omega
def Is(a b:CS):Prop:=∀k,k<8->Ex (a k) (b.rs k)
def Ha(a b:CS):Prop:=∀k,k<8->Iy (a k) (b.rs k)
def CS.nZ(b:CS):Nat:=Dl (λk=>(b.rs k).used) 8
def Lv(M:Nat)(a b:CS):Prop:=Is a b\/M<=b.nZ
def Cr(M W S:Nat)(a b:CS):Prop:=Is a b\/∃v:Nat->Nat,M<=Dl v 8/\(∀k,k<8->v k<=(b.rs k).used)/\Dl v 8+S<=a.lA/\∀k,k<8->v k+W<=(a k).lA\/(a k).bound<=(a k).lA\/Ex (a k) (b.rs k)
theorem VM(ws:Nat->WS):∀n,zJ ws n=Dl (λk=>(ws k).high) n
 | 0=>rfl
 | n+1=>by show zJ ws n+_=Dl _ n+_;rw[VM ws n]
def NL(h:EW x y):y.bound=x.bound:=by unfold WS.bound;rw[h.cut,h.lG,h.b]
section
variable {n n':NS} {L:Nat->List (List DV)} {r:Nat->CS} {i:Nat}
def WQ(l:n.Safe)(d:n'.Safe)(h:n'.Links)(t:ID n n' L r)(hi:i<2)(a:FQ n n' L r i)(b:FQ n n' L r (1-i)):∀k,k<8->∃e c f,GX (n i k) (n' i k) ((n (1-i)).rs k) ((r (1-i)).rs k) e c (r i k) f:=λk c=>by
 obtain⟨E,f⟩:=t.sr;have e:=(d.d i hi).k k c;rw[b.nr k c]at e;exact⟨_,_,_,(l.d i hi).k k c,e,(f i hi).k k c,(a.pz k c).trans<|a.pf k c,by rw[(t.same hi).2.2.2.2.1];exact EW.refl _,b.rr k c,(h.l i hi).nV.low k c⟩
def PC(a:FQ n n' L r i)(b:FQ n n' L r (1-i))(h:Ha (n i) (n (1-i))):Ha (n' i) (n' (1-i)):=λk d c=>by
 have f:=(a.pz k d).trans<|a.pf k d;rw[f.cut]at c;rw[f.lG];exact b.gr (.tell k (n i k).lG) d<|h k d c
def cI(a:FQ n n' L r i)(h:D2 (n i).tick.lE.2):Ha (n' i) (n' (1-i)):=λk d c=>by
 have f:=a.pf k d;rw[f.cut]at c;rw[f.lG];exact a.told (.tell k _) d ⟨c,h.ct.w k d c,rfl⟩
def PB(st:∀k,k<8->∃e a f,GX (n i k) (n' i k) ((n (1-i)).rs k) ((r (1-i)).rs k) e a (r i k) f)(b:FQ n n' L r (1-i))(h:Is (n i) (n (1-i))):Is (n' i) (n' (1-i)):=λk a=>by
 obtain⟨_,_,_,s⟩:=st k a;rw[b.nr k a];exact s.done<|h k a
def PA(st:∀k,k<8->∃e c f,GX (n i k) (n' i k) ((n (1-i)).rs k) ((r (1-i)).rs k) e c (r i k) f)(a:FQ n n' L r i)(b:FQ n n' L r (1-i))(h:Ha (n i) (n (1-i))):∀k,k<8->((n (1-i)).rs k).used<=((n' (1-i)).rs k).used:=λk c=>by
 obtain⟨_,_,_,s⟩:=st k c;have d:=PC a b h k c;rw[b.nr k c]at d ⊢;exact s.used (h k c) d
def Lv.lG(st:∀k,k<8->∃e c f,GX (n i k) (n' i k) ((n (1-i)).rs k) ((r (1-i)).rs k) e c (r i k) f)(a:FQ n n' L r i)(b:FQ n n' L r (1-i))(h:Ha (n i) (n (1-i))){M:Nat}(l:Lv M (n i) (n (1-i))):Lv M (n' i) (n' (1-i)) :=
 l.imp (PB st b) (λx=>AK x<|GJ 8<|PA st a b h)
def Cr.lG(st:∀k,k<8->∃e c f,GX (n i k) (n' i k) ((n (1-i)).rs k) ((r (1-i)).rs k) e c (r i k) f)(a:FQ n n' L r i)(b:FQ n n' L r (1-i))(h:Ha (n i) (n (1-i))){M W S:Nat}(l:Cr M W S (n i) (n (1-i))):Cr M W S (n' i) (n' (1-i)):=by
 refine l.imp (PB st b) ?_;rintro⟨v,c,e,d,l⟩;refine⟨v,c,λk d=>AK (e k d)<|PA st a b h k d,?_,λk d=>?_⟩
 .have:=a.cr.1;have:=a.cr.2;omega
 have f:=(a.pz k d).trans<|a.pf k d;have c:=f.lA;rw[NL f];rcases l k d with x|x|x
 .exact .inl I
 .exact .inr (.inl I)
 obtain⟨_,_,_,s⟩:=st k d;rw[b.nr k d];exact .inr<|.inr<|s.done x
theorem Ol(h:∀k,k<8->(c.rs k).used<=2048):∀m k t,m+k=8->t<=4096+2048*k->Fm c m k t+Dl (λj=>(c.rs j).used) k=t+Dl (λj=>(c.rs j).used) 8
 | 0,k,t,hk,_=>by
  have:k=8:=I;subst this;rfl
 | m+1,k,t,hk,ht=>by
  have u:=h k I;have i:=Ol h m (k+1) (t+(c.rs k).used) I I;have e:min (t+(c.rs k).used) zF=t+(c.rs k).used:=by unfold zF;omega
  unfold Fm;rw[e];have:Dl (λj=>(c.rs j).used) (k+1)=Dl (λj=>(c.rs j).used) k+(c.rs k).used:=rfl;omega
theorem Lv.kz(B:n.Safe)(st:∀k,k<8->∃e A f,GX (n i k) (n' i k) ((n (1-i)).rs k) ((r (1-i)).rs k) e A (r i k) f)(hi:i<2)(K:n.Links)(a:FQ n n' L r i)(b:FQ n n' L r (1-i))(h:Ha (n i) (n (1-i)))(O:n.total<=4096)(id:D2 (n (1-i)).tick.lE.2){M:Nat}(l:Lv M (n i) (n (1-i))):Cr M n.lD n.total (n' i) (n' (1-i)):=by
 have A:1-(1-i)=i:=I;have told:=b.told;rw[A]at told;have E:=b.pr;have p:=b.cf;generalize (n<|1-i).tick.lE.2=q at *;have A:∀k,k<8->(q.rs k).used=((n<|1-i).rs k).used:=λk d=>by
  obtain⟨g,z,e⟩:=E k d;rw[e];rfl
 have O:∀k,k<8->((n<|1-i).rs k).used<=2048:=λk d=>((B.d i hi).k k d).oV (h k d)<|(K.l i hi).nV.low k d
 have B:=id.ct.t;unfold CS.nU at B;simp only[BW,Aj]at B;have K:=told (.all q.kz) trivial ⟨B.2,rfl⟩;have K:q.kz<=(n' i).lA:=K;have nA:q.nA=n.total+(n<|1-i).nZ:=by
  have:=Ol (c:=q) (λk d=>by rw[A k d];exact O k d) 8 0 q.total rfl (by rw[p.2];omega);have c:Dl (λj=>(q.rs j).used) 0=0:=rfl;have c:Dl (λj=>(q.rs j).used) 8=(n<|1-i).nZ:=NC 8 A;unfold CS.nA;rw[<-p.2];omega
 rcases l with l|l
 .exact .inl (PB st b l)
 refine .inr ⟨λk=>((n<|1-i).rs k).used,l,PA st a b h,?_,λk d=>?_⟩
 .have:Dl (λk=>((n<|1-i).rs k).used) 8=(n<|1-i).nZ:=rfl;omega
 have f:=(a.pz k d).trans<|a.pf k d;show((n<|1-i).rs k).used+n.lD<=(n' i k).lA\/(n' i k).bound<=(n' i k).lA\/Ex (n' i k) ((n'<|1-i).rs k);obtain⟨_,_,_,s⟩:=st k d;have v:=s.d;have tk:=h k d;have due:=id.ct.r k d;have o:(q.rs k).lU=false->(q.rs k).kz<=(n' i k).lA:=λz=>told (.mF k _) d ⟨z,rfl⟩
 obtain⟨g,z,e⟩:=E k d;have a:=A k d;unfold RS.due at due;rw[p.1,a]at due;rw[e]at due o;generalize hR:(n<|1-i).rs k=R at *;have due:((decide (g<max g (R.used+n.lD))||z)&&({ R with kz:=g,lU:=z }:RS).mb)=false:=due;have o:z=false->g<=(n' i k).lA:=o;have a:({ R with kz:=g,lU:=z }:RS).mb=if R.cut then decide (g<R.lG)||(z&&R.state==0)else !R.ended:=rfl;rw[a]at due;rw[NL f];have t:Ex (n i k) R->R.used+n.lD<=(n' i k).lA\/(n i k).bound<=(n' i k).lA\/Ex (n' i k) ((n'<|1-i).rs k):=λw=>.inr<|.inr<|by rw[b.nr k d];exact s.done w
 cases hc:R.cut with
 | true =>
  rw[hc]at due;obtain⟨c,a⟩:=v.rc hc;by_cases d:R.state=0
  .simp only[A9,d,CE,BW,Aj]at due;rcases due with⟨u,a⟩|⟨u,a⟩
   .have:=o a;exact .inl I
   have a:z=false:=rB a;have:=o a;refine .inr<|.inl ?_;unfold WS.bound;rw[AM c];omega
  exact t<|by unfold Ex;rw[AM c];exact d
 | false =>
  rw[hc]at due;simp only[BT,BZ,CE,BW,Aj,Bool.not_eq_false']at due;rcases due with⟨u,a⟩|u
  .have:=o a;exact .inl I
  refine .inr<|.inl ?_;obtain⟨_,a⟩:=v.rf u hc;have N:(n i k).cut=false:=by
   cases hx:(n i k).cut with
   | false=>rfl
   | true=>rw[(tk hx).1]at hc;cases hc
  have:=v.hc;have:=f.lA;rcases v.re u with⟨a,_⟩|⟨x,_⟩
  .have:=a.2.1;unfold WS.bound;rw[N];show(n i k).b.length<=_;omega
  rw[N]at x;cases x
def Cr.send(st:∀k,k<8->∃e q f,GX (n i k) (n' i k) ((n (1-i)).rs k) ((r (1-i)).rs k) e q (r i k) f)(a:FQ n n' L r i)(b:FQ n n' L r (1-i))(h:Ha (n i) (n (1-i)))(id:D2 (n i).tick.lE.2){M W S w:Nat}(s:w<=W)(K:w<=S)(l:Cr M W S (n i) (n (1-i))):Lv (M+w) (n' i) (n' (1-i)):=by
 have O:=PC a b h;rcases l with l|⟨v,e,B,q,T⟩
 .exact .inl (PB st b l)
 have E:=PA st a b h;have u:=a.pz;have d:=a.pf;have t:=a.low;have A:=a.so;have told:=a.told;have X:=a.cr;generalize (n i).tick.lE.2=p at *;have e:∀k,k<8->(p k).high<=p.nI k/\p.nI k<=(p k).b.length/\p.lr k=min (p.nI k) (p k).bound:=λk c=>by
  have w:=A.w k c;have:=w.hl;have:=w.hc;have Y:p.nI k=min (min (p k).b.length (p k).lA) ((p k).high+p.lA-min p.lA p.mi):=rfl;refine⟨I,I,?_⟩;unfold CS.lr WS.bound;split
  .rfl
  omega
 have H:∀k,k<8->(p k).high<=((n'<|1-i).rs k).used/\(Ex (n' i k) ((n'<|1-i).rs k)\/(p.nI k<(p k).bound/\p.nI k<=((n'<|1-i).rs k).used)):=λk c=>by
  obtain⟨_,_,_,s⟩:=st k c;obtain⟨l,K,N⟩:=e k c;have tk:=O k c;have a:=b.nr k c;rw[a]at tk ⊢;obtain⟨O,Z,_⟩:=Tj<|(r<|1-i).rs k;obtain⟨i1,i2⟩:=id.w k c;refine s.lJ (h k c) tk (u k c) (d k c) (A.kf k c) (t k c) (λq d=>?_) K l<|λx y=>?_
  .have:=told (.byte k q) c<|i1 q I;have:De ((n'<|1-i).rs k).lC.rs q:=this;rw[a,O]at this;exact this
  have hb:(p k).bound=(p k).b.length:=by
   unfold WS.fin at x;simp only[AZ,Bl]at x;unfold WS.bound;rw[x.2];rfl
  have:=told (.fin k) c (i2 x (by rw[N,hb];omega));have:((n'<|1-i).rs k).ended=true:=this;rw[a,Z]at this;exact this
 by_cases d:Is (n' i) (n'<|1-i)
 .exact .inl d
 right;obtain⟨k,c,a⟩:∃k,k<8/\¬Ex (n' i k) ((n'<|1-i).rs k):=by
  false_or_by_contra
  rename_i no;exact d λk c=>Classical.byContradiction λx=>no ⟨k,c,x⟩
 obtain⟨d,h⟩:=(H k c).2.resolve_left a;have d:Dl v 8<=(n'<|1-i).nZ:=GJ 8 λj o=>AK (B j o)<|E j o
 obtain⟨l,K,N⟩:=e k c;have Y:p.nI k=min (min (p k).b.length (p k).lA) ((p k).high+p.lA-min p.lA p.mi):=rfl;have d:(p k).bound<=(p k).b.length:=by
  have:=A.kf k c;have:=(t k c).fn;unfold WS.bound;split<;>omega
 by_cases c1:(p k).lA<=p.nI k
 .
  have d:=(u k c);have:=d.lA;have:v k+W<=((n'<|1-i).rs k).used:=by
   rcases T k c with x|x|x
   .omega
   .rw[<-NL d]at x;omega
   obtain⟨_,_,_,s⟩:=st k c;exact absurd (by rw[b.nr k c];exact s.done x) a
  have a:=MR (f:=λj=>((n'<|1-i).rs j).used) (g:=λj=>if j=k then v k+W else((n'<|1-i).rs j).used) (k:=k) (λj o=>AH o) 8 c;have s3:=MR (f:=v) (g:=λj=>if j=k then v k+W else v j) (k:=k) (λj o=>AH o) 8 c;have a:Dl (λj=>if j=k then v k+W else v j) 8<=(n'<|1-i).nZ:=GJ 8 λj o=>by
   by_cases z:j=k
   .subst z;simp only[AM];omega
   simp only[AH z];exact AK (B j o)<|E j o
  simp only[AM]at s3;omega
 .
  have top:p.nI k<=(p k).high:=by
   by_cases z:p.nI k=0
   .omega
   have:=MF (t k c).lJ<|(id.w k c).1 (p.nI k-1) I;omega
  have a:p.lA<=p.mi:=I;have a:p.mi<=(n'<|1-i).nZ:=by
   unfold CS.mi;rw[VM];exact GJ 8 λj o=>(H j o).1
  have:=X.1;omega
end
theorem GX.same{q:WS}{ρ : RS}{e a:EN}{f:EN}(s:GX x q r ρ e a y f)(p:Ex x r)(t:Iy x r)(u:Iy q (Dp ρ)):(Dp ρ).used=r.used/\(x.cut=true->(Dp ρ).state=r.state):=by
 have h:=s.used t u;obtain⟨a,b⟩:=Om s.dm;unfold Ex at p;cases hc:x.cut with
 | true =>
  rw[AM hc]at p;obtain⟨e,a⟩:=b (by rw[s.rr.2];exact p);rw[s.rr.2]at a;refine⟨?_,λ_=>a⟩;rcases s.d.used t with⟨d,v,l⟩|⟨d,l⟩<;>rcases s.d'.used u with⟨c,A,o⟩|⟨c,o⟩
  .rw[l,o,s.fx.final]
  .rw[a]at c;exact absurd d c
  .rw[a]at c;exact absurd c d
  rw[l,o,e,s.rr.1]
 | false =>
  rw[AH (by rw[hc];simp)]at p;refine⟨?_,λz=>by cases z⟩;have B:q.cut=false:=by rw[s.fx.cut];exact hc
  have:=s.d'.rd;have:=s.d'.rh;have:=s.d'.hl;have eb:=s.fx.b;rcases s.d.used t with⟨d,v,l⟩|⟨d,l⟩
  .rw[hc]at v;cases v
  rcases s.d'.used u with⟨c,A,o⟩|⟨c,o⟩
  .rw[B]at A;cases A
  rw[eb]at this;omega
section
variable {n n':NS} {L:Nat->List (List DV)} {r:Nat->CS} {i:Nat}
theorem cH(X:n.Safe)(z:n'.Safe)(hl:n.Links)(B:n'.Links)(t:ID n n' L r)(hi:i<2)(a:FQ n n' L r i)(b:FQ n n' L r (1-i))(h1:Ha (n i) (n (1-i)))(N:Ha (n (1-i)) (n i))(d1:Is (n i) (n (1-i)))(d2:Is (n (1-i)) (n i))(id:D2 (n i).tick.lE.2)(hF:Ls n')(hw:(n' i).tick.waits=[])(hT:n.total<=4096):D2 (n' i).tick:=by
 have h:1-(1-i)=i:=I;have Y:1-i<2:=I;have u:=WQ X z B t Y b (by rw[h];exact a);have Z:=PC b (by rw[h];exact a) (by rw[h];exact N);rw[h]at u Z;have et:(n' i).tick=(n' i).lX:=PE λq hq=>by
  have y:=hF.y hi hq;exact⟨y.at_.trans (z.now i hi).symm,y.lg⟩
 rw[et]at hw ⊢;have E:=a.more;have pr:=a.pr;have v:=a.cf;have aa:=a.pz;have K:=a.pf;have nr:=a.nr;have so:=a.so;have ab:=a.low;generalize (n i).tick.lE.2=p at *;have same:∀k,k<8->((n' i).rs k).used=((n i).rs k).used/\((n (1-i) k).cut=true->((n' i).rs k).state=((n i).rs k).state):=λk d=>by
  obtain⟨_,_,_,s⟩:=u k d;have:=Z k d;rw[nr k d]at this ⊢;exact s.same (d2 k d) (N k d) this
 have ul:∀k,k<8->((n i).rs k).used<=2048:=λk d=>by
  have:=(X.d (1-i) Y).k k d;rw[h]at this;exact this.oV (N k d)<|(hl.l (1-i) Y).nV.low k d
 have up:∀k,k<8->(p.rs k).used=((n i).rs k).used:=λk d=>by
  obtain⟨g,z,e⟩:=pr k d;rw[e];rfl
 have l:=B.cf i hi;rw[t.cfg.1,t.cfg.2]at l;refine⟨⟨λk d=>?_,?_,λk d c=>?_⟩,λk d=>?_,hw⟩
 .have due:=id.ct.r k d;obtain⟨g,z,e⟩:=pr k d;obtain⟨O,T⟩:=E.r k d;obtain⟨h,s2⟩:=same k d;have t:=up k d;obtain⟨_,_,_,s⟩:=u k d;have tk:=N k d;have ac:=Z k d;have o:=s.d;have A:=s.d';rw[<-nr k d]at A;show((n' i).rs k).due (n' i).lD=false;unfold RS.due at due ⊢;rw[l.1,O,T,h,<-t,<-v.1];cases hb:(decide ((p.rs k).kz<max (p.rs k).kz ((p.rs k).used+p.lD))||(p.rs k).lU)with
  | false=>rfl
  | true =>
   rw[hb,Bh]at due;rw[Bh];unfold RS.mb at due ⊢;rw[O,T];have h:(p.rs k).cut=((n i).rs k).cut/\(p.rs k).lG=((n i).rs k).lG/\(p.rs k).state=((n i).rs k).state/\(p.rs k).ended=((n i).rs k).ended:=by rw[e];exact⟨rfl,rfl,rfl,rfl⟩
   rw[h.1,h.2.1,h.2.2.1,h.2.2.2]at due;cases hx:(n (1-i) k).cut with
   | true =>
    have f:=s.fx;obtain⟨e,h,t⟩:=tk hx;obtain⟨h,u,t⟩:=ac (by rw[f.cut];exact hx);have u:=(o.rc e).2;have u:=(A.rc h).2;rw[f.lG]at t u;rw[e,AM rfl]at due;rw[h,AM rfl,s2 hx,(I:((n' i).rs k).lG=((n i).rs k).lG)];exact due
   | false =>
    have f:=s.fx;have c1:((n i).rs k).cut=false:=by
     cases hc:((n i).rs k).cut with
     | false=>rfl
     | true=>have:=(o.rc hc).1;rw[hx]at this;cases this
    have c2:((n' i).rs k).cut=false:=by
     cases hc:((n' i).rs k).cut with
     | false=>rfl
     | true=>have:=(A.rc hc).1;rw[f.cut,hx]at this;cases this
    rw[c1,AH lm]at due;rw[c2,AH lm];have e:((n i).rs k).ended=true:=rB due;have:((n' i).rs k).ended=true:=a.gr (.fin k) d e;rw[this];rfl
 .have f:=id.ct.t;unfold CS.nU at f ⊢;have a:=Ol (c:=p) (λk d=>by rw[up k d];exact ul k d) 8 0 p.total rfl (by rw[v.2];omega);have a:=Ol (c:=(n' i).lX) (λk d=>by show((n' i).rs k).used<=2048;rw[(same k d).1];exact ul k d) 8 0 (n' i).lX.total rfl (by show(n' i).total<=_;rw[l.2];omega);have a:Dl (λj=>(((n' i).lX).rs j).used) 8=Dl (λj=>(p.rs j).used) 8:=NC 8 λk d=>by show((n' i).rs k).used=_;rw[(same k d).1,up k d]
  have a:Dl (λj=>(((n' i).lX).rs j).used) 0=0:=rfl;have a:Dl (λj=>(p.rs j).used) 0=0:=rfl;have a:(n' i).lX.nA=p.nA:=by
   unfold CS.nA;have e:(n' i).lX.total=p.total:=by show(n' i).total=_;rw[l.2,v.2]
   omega
  have e:(n' i).lX.kz=p.kz/\(n' i).lX.lU=p.lU:=⟨E.g.2,E.g.1⟩;rw[a,e.1,e.2];exact f
 .have c:(n' i k).cut=true:=c;show(n' i k).lN=true;rw[(E.w k d).2.2];rw[(K k d).cut]at c;exact id.ct.w k d c
 obtain⟨h,l⟩:=id.w k d;obtain⟨O,T,_⟩:=E.w k d;have a:=aa k d;have e:=K k d;have w:=so.w k d;have o:=(X.d i hi).k k d;have hb:(n i k).bound<=(n i k).high:=by
  have f:=o.rd;have f:=o.rh;have f:=d1 k d;unfold Ex at f;unfold WS.bound;split
  .rename_i c;rw[AM c]at f;by_cases s2:((n<|1-i).rs k).state=2
   .have:=(o.s2 s2).2;omega
   have st:=o.st;have:=(o.s1 I).2;have o:=so.kf k d;have s:=(ab k d).fn;rw[a.lG,a.final]at o;rw[a.final,a.b]at s;omega
  rename_i c;rw[AH c]at f;have:=f.1;omega
 have d:p.lr k=(p k).bound:=by
  have:=w.hl;have:=w.hc;have:=a.high;rw[<-NL a]at hb;have a:p.nI k=min (min (p k).b.length (p k).lA) ((p k).high+p.lA-min p.lA p.mi):=rfl;unfold CS.lr;unfold WS.bound at hb ⊢;split at hb
  .rename_i c;rw[AM c,AM c];omega
  rename_i c;rw[AH c,AH c];omega
 have a:(n' i).lX.lr k<=(n' i k).bound:=by
  have:=NJ (n' i).lX k;have a:(n' i).lX.nI k<=(n' i k).b.length:=by
   show min (min (n' i k).b.length (n' i k).lA) _<=_;omega
  unfold WS.bound;split
  .rename_i c;unfold CS.lr;rw[AM (show((n' i).lX.ws k).cut=true from c)];exact Nat.min_le_right _ _
  omega
 have a:=NL e;refine⟨λq hq=>O q<|h q I,λx y=>?_⟩;have x:(n' i k).fin=true:=x;have y:(n' i k).b.length<=(n' i).lX.lr k:=y;show(n' i k).ending=true;rw[T];unfold WS.fin at x;rw[e.fin,e.cut]at x;refine l x ?_;rw[e.b]at y;omega
end
def CS.lens(c:CS):Nat:=Dl (λk=>(c k).b.length) 8
structure Lw(E X:Nat)(K:Nat->Nat)(w:Nat)(n:NS)(T:Nat):Prop where
 safe:n.Safe
 inv:n.Inv T
 nu:n.Links
 lP:n.lP=[]
 gd:∀j,j<2->∀s∈n.g j,s.dl<=E
 nx:∀j,j<2->(n j).next<=X
 len:∀i,i<2->(n i).lens=K i
 ww:w<=n.lD/\w<=n.total
variable{T:Nat}
def Lw.step{E X w:Nat}{K:Nat->Nat}(h:Lw E X K w n T)(a:T+lR<=Db):∃n' L r,n.mR=(true,n')/\Lw E (X+20) K w n' (T+lR)/\ID n n' L r:=by
 obtain⟨n',L,r,e,c,hI,d,hb,t⟩:=cJ h.safe h.inv h.nu a h.lP;refine⟨n',L,r,e,⟨c,hI,d,hb,λj e s c=>?_,λj c=>?_,λi d=>?_,by rw[t.cfg.1,t.cfg.2];exact h.ww⟩,t⟩
 .obtain⟨f,a,b⟩:=t.gd j s c;rw[<-b];exact h.gd j e f a
 .obtain⟨o,_,_,f⟩:=t.pE j c;have:=(t.same c).2.2.2.2.2.1;rw[this,(t.rv j c).nx,f.nx,(Jo<|n j).2.2.1];have:=f.len;have:=h.nx j c;omega
 obtain⟨o,_,_,f⟩:=t.pE i d;have:(n' i).lens=(n i).lens:=NC 8 λk a=>by
  rw[(t.same d).2.2.2.2.1,((t.rv i d).wf k a).b,(f.ws k a).b,((Jf<|n i).ws k).b];rfl
 rw[this];exact h.len i d
theorem Uf(a:n.Safe){E:Nat}(d:∀j,j<2->∀s∈n.g j,s.dl<=E)(c:E<n.now)(hi:i<2):(n i).tick.waits=[]:=by
 have w:=(TM<|a.so i hi).wt;have e:=(Jo<|n i).2.2.2.2.1;have:=a.now i hi;cases hl:(n i).tick.waits with
 | nil=>rfl
 | cons f l =>
  obtain⟨_,a,s,b,_,c,_⟩:=w f (by rw[hl];exact AQ);have:=d i hi s b;omega
structure J7(E X M w t g:Nat)(K b:Nat->Nat)(n:NS)(T:Nat):Prop where
 nh:Lw E X K w n T
 km:∀i,i<2->K i<M*w
 qA:Ls n
 ed:E<n.now
 told:1<=g->∀i,i<2->Ha (n i) (n<|1-i)
 lv:∀i,i<2->∀m,(2*m+1<=g->Lv (m*w) (n i) (n<|1-i))/\(2*m+2<=g->Cr (m*w) n.lD n.total (n i) (n<|1-i))
 qg:2*M+2<=g->∀i,i<2->D2 (n i).tick
 oU:t<=g+b 0+b 1+1
 mQ:∀i,i<2->∃N,43*b i<=(n i).mQ+N/\N<=(n i).mQ/\(1<=t->48*(n i).kx.length+6*N<=185+6*(n i).mQ)
def Lv.done(c:n.Safe)(hi:i<2)(e:n.Links)(h:Ha (n i) (n (1-i))){M:Nat}(a:(n i).lens<M)(l:Lv M (n i) (n (1-i))):Is (n i) (n (1-i)):=by
 rcases l with l|l
 .exact l
 have:(n<|1-i).nZ<=(n i).lens:=GJ 8 λk a=>by
  have d:=(c.d i hi).k k a;have:=((e.l i hi).nV.low k a).fn;have:=d.rd;have:=d.rh;have:=d.hl;rcases d.used (h k a)with⟨_,_,e⟩|⟨_,e⟩<;>omega
 omega
variable{g t:Nat}
def J7.step{E X M w:Nat}{K b:Nat->Nat}(h:J7 E X M w t g K b n T)(f:T+lR<=Db)(hX:X+100<1073741824):∃n' o N,n.mR=(true,n')/\J7 E (X+20) M w (t+1) o K N n' (T+lR)/\g<=o/\(2*M+2<=g->∀i,i<2->(n' i).answer=false):=by
 obtain⟨n',L,r,e,B,tk⟩:=h.nh.step f;have s:=h.nh.safe;have p:=B.safe;have v:=h.nh.nu;have u:=B.nu;have Y:Ls n':=Iq.tick tk h.qA<|λ_ _ _ _ x=>x;have c:∀i,i<2->FQ n n' L r i:=λi a=>Xg s v tk h.qA a
 have O:∀i,i<2->1-(1-i)=i:=λi a=>I
 have d:∀i,i<2->1-i<2:=λi a=>I
 have A:∀i (a:i<2),∀k,k<8->∃e E f,GX (n i k) (n' i k) ((n<|1-i).rs k) ((r<|1-i).rs k) e E (r i k) f:=λi a=>WQ s p u tk a (c i a)<|c (1-i)<|d i a
 have nA:=h.nh.inv.mj.2.2;have wn:=λi (a:i<2)=>Uf s h.nh.gd h.ed a
 have E:∀i (a:i<2),∃ δ,48*(n' i).kx.length+6*(n i).mQ<=137+6*(n' i).mQ+48 * δ /\ (δ = 0 \/ δ = 1/\D2 (n i).tick.lE.2)/\(12<=(n i).kx.length+(n' i).kx.length\/D2 (n i).tick.lE.2)/\(n i).mQ<=(n' i).mQ:=λi a=>(c i a).acc (wn i a)<|λj d=>pp<|h.nh.nx j d
 have bd:∀i,i<2->∃f,(D2 (n i).tick.lE.2/\f=b i\/t=0/\f=b i\/f=b i+1)/\∃N,43*f<=(n' i).mQ+N/\N<=(n' i).mQ/\(1<=t+1->48*(n' i).kx.length+6*N<=185+6*(n' i).mQ):=λi a=>by
  obtain⟨N,p1,p2,p3⟩:=h.mQ i a;obtain⟨δ,T,K,N,f⟩:=E i a;have E : δ <= 1:=I;by_cases id:D2 (n i).tick.lE.2
  .exact⟨b i,.inl ⟨id,rfl⟩,(n i).mQ,I,f,λ_=>I⟩
  by_cases E:t=0
  .exact⟨b i,.inr<|.inl ⟨E,rfl⟩,(n i).mQ,I,f,λ_=>I⟩
  have:=p3 I;have:=N.resolve_right id;have E : δ = 0:=K.resolve_right<|λx=>id x.2;exact⟨b i+1,.inr<|.inr rfl,(n i).mQ,I,f,λ_=>I⟩
 obtain⟨Z,c0,p0⟩:=bd 0 I;obtain⟨b1,c1,p1⟩:=bd 1 I;have oU:=h.oU;obtain⟨o,l,hc⟩:∃o,(o=g\/o=g+1/\∀i,i<2->D2 (n i).tick.lE.2)/\t+1<=o+Z+b1+1:=by
  by_cases i0:D2 (n.c 0).tick.lE.2
  .by_cases i1:D2 (n.c 1).tick.lE.2
   .refine⟨g+1,.inr ⟨rfl,λi a=>?_⟩,?_⟩
    .rcases(I:i=0\/i=1)with rfl|rfl
     .exact i0
     exact i1
    rcases c0 with⟨_,c0⟩|⟨_,c0⟩|c0<;>rcases c1 with⟨_,c1⟩|⟨_,c1⟩|c1<;>omega
   refine⟨g,.inl rfl,?_⟩;rcases c0 with⟨_,c0⟩|⟨z,c0⟩|c0<;>rcases c1 with⟨x,c1⟩|⟨z,c1⟩|c1;all_goals first|exact absurd x i1|omega
  refine⟨g,.inl rfl,?_⟩;rcases c0 with⟨x,c0⟩|⟨z,c0⟩|c0<;>rcases c1 with⟨_,c1⟩|⟨z,c1⟩|c1;all_goals first|exact absurd x i0|omega
 have tl:1<=o->∀i,i<2->Ha (n' i) (n'<|1-i):=λz i a=>by
  by_cases q:1<=g
  .exact PC (c i a) (c (1-i)<|d i a) (h.told q i a)
  rcases l with l|⟨_,l⟩
  .omega
  exact cI (c i a)<|l i a
 have dn:2*M+1<=g->∀i,i<2->Is (n i) (n<|1-i):=λq i a=>((h.lv i a M).1 q).done s a v (h.told I i a)<|by rw[h.nh.len i a];exact h.km i a
 refine⟨n',o,λi=>if i=0 then Z else b1,e,⟨B,h.km,Y,by rw[tk.now];have:=h.ed;omega,tl,λi a m=>⟨λq=>?_,λq=>?_⟩,λq i a=>?_,hc,λi a=>?_⟩,by rcases l with x|⟨x,_⟩<;>omega,λq i a=>?_⟩
 .by_cases z:2*m+1<=g
  .exact((h.lv i a m).1 z).lG (A i a) (c i a) (c (1-i)<|d i a) (h.told I i a)
  rcases l with l|⟨l,id⟩
  .omega
  by_cases m0:m=0
  .subst m0;rw[CP];exact .inr<|AN _
  have:=((h.lv i a<|m-1).2 I).send (A i a) (c i a) (c (1-i)<|d i a) (h.told I i a) (id i a) h.nh.ww.1 h.nh.ww.2;have e:(m-1)*w+w=m*w:=by
   rw[<-Nat.succ_mul,(I:(m-1).succ=m)]
  rw[e]at this;exact this
 .by_cases z:2*m+2<=g
  .rw[tk.cfg.1,tk.cfg.2];exact((h.lv i a m).2 z).lG (A i a) (c i a) (c (1-i)<|d i a) (h.told I i a)
  rcases l with l|⟨l,id⟩
  .omega
  rw[tk.cfg.1,tk.cfg.2];exact((h.lv i a m).1 I).kz s (A i a) a v (c i a) (c (1-i)<|d i a) (h.told I i a) nA (id (1-i)<|d i a)
 .have e:2*M+1<=g:=I;have id:D2 (n i).tick.lE.2:=by
   by_cases z:2*M+2<=g
   .exact((c i a).idle<|h.qg z i a).1
   rcases l with l|⟨l,id⟩
   .omega
   exact id i a
  have f:=h.told I (1-i)<|d i a;have l:=dn e (1-i)<|d i a;rw[O i a]at f l;exact cH s p v u tk a (c i a) (c (1-i)<|d i a) (h.told I i a) f (dn e i a) l id Y (Uf p B.gd (by rw[tk.now];have:=h.ed;omega) a) nA
 .rcases(I:i=0\/i=1)with rfl|rfl
  .exact p0
  exact p1
 rw[(c i a).pH];exact((c (1-i)<|d i a).idle<|h.qg q (1-i)<|d i a).2
def NS.bytes(n:NS):Nat:=Dl (λi=>Dl (λk=>(n.e i k).wrote.length) 8) 2
def NS.least(n:NS):Nat:=if n.total<n.lD then n.total else n.lD
def NS.mD(n:NS):Nat:=60+2*(n.bytes / n.least+1)+n.bytes / 16
def EN.po(o:EN):Bool := !((o.cut&&o.state==0)||(o.fin && !o.cut&&o.state != 1)) && !(!o.cut&&o.read != o.wrote.length)
theorem Ue:∀(a b:Nat) {n c:NS},NS.nB a n=(true,c)->NS.nB (a+b) n=NS.nB b c
 | 0,b,n,c,h=>by cases h;rw[Aw]
 | a+1,b,n,c,h=>by
  have h:(if n.mR.1 then NS.nB a n.mR.2 else(false,n.mR.2))=(true,c):=h;rw[(I:a+1+b=a+b+1)];show(if n.mR.1 then NS.nB (a+b) n.mR.2 else(false,n.mR.2))=_;split at h
  .rename_i q;rw[AM q];exact Ue a b h
  cases h
def Qz(h:n.mR=(true,n'))(s:Nat):NS.nB (s+1) n=NS.nB s n':=by
 show(if n.mR.1 then _ else _)=_;rw[h];rfl
theorem Sh{E w D:Nat}{K:Nat->Nat}:∀s {X T:Nat} {n:NS},Lw E X K w n T->Iq (λq=>q.at_<=D) n->T+s*lR<=Db->∃n',NS.nB s n=(true,n')/\Lw E (X+20*s) K w n' (T+s*lR)/\Iq (λq=>q.at_<=D) n'/\n'.now=n.now+s
 | 0,X,T,n,h,y,_=>⟨n,rfl,by rw[Nat.mul_zero,CP];exact h,y,rfl⟩
 | s+1,X,T,n,h,y,hT=>by
  have a:(s+1)*lR=s*lR+lR:=Nat.succ_mul s lR;rw[a]at hT ⊢;generalize hc:s*lR=q at *;have f:T+lR<=T+(q+lR)/\T+lR+q<=T+(q+lR):=by clear hT;omega
  obtain⟨a,L,r,e,B,t⟩:=h.step<|AK f.1 hT;have h:=Iq.tick t y (P':=λq=>q.at_<=D)<|λ_ _ _ _ x=>x;obtain⟨n',a,b,c,d⟩:=Sh s B h (by rw[hc];exact AK f.2 hT);rw[hc]at b;refine⟨n',(Qz e s).trans a,?_,c,by rw[d,t.now];omega⟩;rw[(I:X+20*(s+1)=X+20+20*s),(I:T+(q+lR)=T+lR+q)];exact b
theorem J7.run{E M w:Nat}{K:Nat->Nat}:∀s {X t g T:Nat} {b:Nat->Nat} {n:NS},J7 E X M w t g K b n T->T+s*lR<=Db->X+20*s+100<1073741824->∃n' f l,NS.nB s n=(true,n')/\J7 E (X+20*s) M w (t+s) f K l n' (T+s*lR)/\g<=f/\(2*M+2<=g->1<=s->∀i,i<2->(n' i).answer=false)
 | 0,X,t,g,T,b,n,h,_,_=>⟨n,g,b,rfl,by rw[Nat.mul_zero,CP];exact h,AF _,λ_ z=>absurd z I⟩
 | s+1,X,t,g,T,b,n,h,hT,hX=>by
  have c:(s+1)*lR=s*lR+lR:=Nat.succ_mul s lR;rw[c]at hT ⊢;generalize hc:s*lR=q at *;have p:T+lR<=T+(q+lR)/\T+lR+q<=T+(q+lR):=by clear hT;omega
  obtain⟨c,d,E,e,B,u,v⟩:=h.step (AK p.1 hT) I;obtain⟨n',f,l,a,c,d,o⟩:=J7.run s B (by rw[hc];exact AK p.2 hT) I;rw[hc]at c;refine⟨n',f,l,(Qz e s).trans a,?_,AK u d,λz _=>?_⟩
  .rw[(I:X+20*(s+1)=X+20+20*s),(I:T+(q+lR)=T+lR+q),(I:t+(s+1)=t+1+s)];exact c
  by_cases A:s=0
  .subst A;cases a;exact v z
  exact o I I
def LH(h:∀k,k<8->ET (c k)):c.mQ<=c.lens+32:=by
 have:=GJ (f:=λk=>(c k).mQ) (g:=λk=>(c k).b.length+4) 8 (λk d=>by
  have l:=h k d;have:=Lg (H:=(c k).b.length) (a:=(c k).lJ.rs)<|λp a=>A7 (MF l.lJ a) l.hl;show(c k).mQ<=_;unfold WS.mQ;split<;>split<;>omega)
 have e:Dl (λk=>(c k).b.length+4) 8=c.lens+32:=by
  unfold CS.lens;simp only[Dl];omega
 unfold CS.mQ;omega
structure OZ(n n1 n2:NS)(t T:Nat):Prop where
 fair:n.fair t=(true,n1)
 inv1:n1.Inv (T+t*lR)
 qw:n1.Up
 po:∀i,i<2->∀k,k<8->(n1.e i k).po=true
 quiet:n1.fair 12=(true,n2)
 inv2:n2.Inv (T+t*lR+12*lR)
 qv:n2.Up
 f0:(n2.flush 0).1=true
 f1:((n2.flush 0).2.flush 1).1=true
 lP:((n2.flush 0).2.flush 1).2.lP=[]
def LK(h:n.lP=[]):({ n with lP:=[] }:NS)=n:=by rw[<-h]
def Qy(h:n.Inv T):n.bytes<=32768/\16<=n.least/\n.mD<=6206:=by
 have c:n.bytes<=32768:=by
  have:=GJ (f:=λi=>Dl (λk=>(n.e i k).wrote.length) 8) (g:=λ_=>16384) 2<|λi a=>GJ (g:=λ_=>2048) 8<|λk d=>(h.e i a k d).wl;exact this
 have a:16<=n.least:=by
  have:=h.mj;unfold NS.least;split<;>omega
 refine⟨c,a,?_⟩;have:n.bytes / n.least<=n.bytes / 16:=Nat.div_le_div_left a I;unfold NS.mD;omega
def D2.pg(h:D2 c.lX)(a:c.waits=[]):D2 c:=⟨⟨h.ct.r,h.ct.t,h.ct.w⟩,h.w,a⟩
theorem iO(z:n.Safe)(hI:n.Inv 3284992)(E:n.Links):∃u d,OZ n u d n.mD 3284992:=by
 obtain⟨e,p,N⟩:=Qy hI;have N:∀(p:Nat×rC),p∈([]:List (Nat×rC))->Pk n p:=λp e=>nomatch e
 have a:n.bytes=(n.c 0).lens+(n.c 1).lens:=by
  have e:∀i,i<2->Dl (λk=>(n.e i k).wrote.length) 8=(n i).lens:=λi h=>NC 8 λk B=>by rw[((z.d i h).k k B).wr]
  have:n.bytes=0+Dl (λk=>(n.e 0 k).wrote.length) 8+Dl (λk=>(n.e 1 k).wrote.length) 8:=rfl;rw[this,e 0 I,e 1 I];omega
 have B0:Lw (n.now+8) 105119744 (λi=>(n i).lens) n.least { n with lP:=[] } 3284992:=by
  refine⟨z.ml N,hI.ml N<|AN _,E.ml N,rfl,λj e s p=>E.dl j e s p,λj e=>(hI.c j e).next,λi _=>rfl,?_⟩;show n.least<=n.lD/\n.least<=n.total;unfold NS.least;split<;>omega
 have N:Iq (λq=>q.at_<=n.now) { n with lP:=[] }:=λi h q a=>.inr (by
  have:=((E.l i h).num q a).2;have:=z.now i h;show q.at_<=n.now;omega)
 have K:∀s,s<=6300->3284992+s*lR<=Db:=λs e=>by
  have:s*lR<=6300*lR:=Bm _ e;unfold lR Db at *;omega
 obtain⟨e,e8,p,z,w8⟩:=Sh 8 B0 N<|K 8 I;have w8:e.now=n.now+8:=w8;obtain⟨n9,L,r,e9,N,t9⟩:=p.step (T:=3284992+8*lR) (by have:=K 9 I;unfold lR at *;omega);have F9:Ls n9:=Iq.tick t9 z (λi h q a x=>by
  have:=((Jo<|e.c i).2.2.2.2.2.2.2 q a).2;have:=p.safe.now i h;have x:q.at_<=n.now:=x;omega)
 obtain⟨w,e⟩:=nn n.least;obtain⟨M,hM⟩:∃M,M=n.bytes / n.least+1:=⟨_,rfl⟩;have e:n.bytes<M*n.least:=by
  rw[hM,Nat.succ_mul];have:=Nat.div_add_mod n.bytes n.least;have:=Nat.mod_lt n.bytes (I:0<n.least);rw[AL];omega
 have S9:J7 (n.now+8) (105119744+20*8+20) M n.least 0 0 (λi=>(n i).lens) (λ_=>0) n9 (3284992+8*lR+lR) :=
  ⟨N,λi h=>by
   rcases(I:i=0\/i=1)with rfl|rfl
   .show(n.c 0).lens<_;omega
   show(n.c 1).lens<_;omega,F9,by rw[t9.now,w8];omega,λz=>absurd z I,λi h m=>⟨λz=>absurd z I,λz=>absurd z I⟩,λz=>absurd z I,I,λi h=>⟨(n9 i).mQ,I,AF _,λz=>absurd z I⟩⟩
 have e:n.mD=60+2*M+n.bytes / 16:=by rw[hM];rfl
 obtain⟨u,p,N,e1,o,_,_⟩:=S9.run (n.mD-9) (by have:=K n.mD I;unfold lR at *;omega) I;have e:∀i,i<2->43*N i<=2*((n i).lens+32):=λi h=>by
  obtain⟨N,p1,p2,_⟩:=o.mQ i h;have p3:=LH (c:=u.c i)<|λk B=>(o.nh.nu.l i h).nV.low k B;have:=o.nh.len i h;have:(u.c i).lens=(n i).lens:=this;omega
 have p0:=e 0 I;have p1:=e 1 I;have e:=o.oU;have e:2*M+2<=p:=I;obtain⟨d,T,p,e2,t,N,Y⟩:=o.run 12 (by have:=K (n.mD+12) I;unfold lR at *;omega) I;have Y:=Y e I;have T1:3284992+8*lR+lR+(n.mD-9)*lR=3284992+n.mD*lR:=by unfold lR;omega
 have v:=t.nh.safe;have A:=t.nh.inv;rw[T1]at A;have Z:3284992+n.mD*lR+12*lR+1<=Db:=by have:=K (n.mD+13) I;unfold lR at *;omega
 have O:3284992+n.mD*lR+12*lR<=Db:=AK (Bv _) Z;have id:∀i,i<2->D2 (d i):=λi h=>by
  have e:(d i).tick=(d i).lX:=PE λq a=>by
   have y:=t.qA.y h a;exact⟨y.at_.trans (v.now i h).symm,y.lg⟩
  have z:=t.qg I i h;rw[e]at z;refine z.pg ?_;cases E:(d i).waits with
  | nil=>rfl
  | cons f l =>
   obtain⟨_,a,s,b,_,c,_⟩:=(v.so i h).wt f (by rw[E];exact AQ);have:=t.nh.gd i h s b;have:=t.ed;have:=v.now i h;omega
 obtain⟨f0,a⟩:=v.flush A O (I:0<2);have e:=A.flush O (I:0<2);have p:=t.nh.nu.flush v A O (I:0<2);obtain⟨f,q⟩:=t.nh.nu.pE v A O (I:0<2);obtain⟨l,f⟩:=NK v A O (I:0<2);obtain⟨s,_⟩:=a.flush e Z (I:1<2);obtain⟨z,l⟩:=p.pE a e Z (I:1<2);obtain⟨z,p⟩:=NK a e Z (I:1<2);have a:(d.flush 0).2.c 1=d.c 1:=by rw[f];exact NS.nQ d (i:=0) I (d.c 0).lE.2
 rw[a]at l p;have a:=(q.idle<|id 0 I).2.2<|Y 0 I;have e:=(l.idle<|id 1 I).2.2<|Y 1 I;have l:((d.flush 0).2.flush 1).2.lP=[]:=by
  rw[p];show(d.flush 0).2.lP++((d.c 1).lE.1.map λx=>(1-1,x))=[];rw[e,f];show d.lP++((d.c 0).lE.1.map λx=>(1-0,x))++_=[];rw[a,t.nh.lP];rfl
 have a:=o.nh.inv;rw[T1]at a;refine⟨u,d,?_,a,o.nh.safe.up,λi h k B=>?_,?_,A,v.up,f0,s,l⟩
 .show NS.nB n.mD { n with lP:=[] }=_;rw[(I:n.mD=8+(1+(n.mD-9))),Ue _ _ e8,(I:1+(n.mD-9)=(n.mD-9)+1),Qz e9];exact e1
 .have d:=(o.nh.safe.d i h).k k B;have X:=((o.lv i h M).1 I).done o.nh.safe h o.nh.nu (o.told I i h) (by rw[o.nh.len i h];exact o.km i h) k B;unfold Ex at X;unfold EN.po;rw[d.cu,d.es,d.fi,d.er,d.wr];split at X
  .rename_i c;rw[c];simp[X]
  rename_i c;have c:(u.c i k).cut=false:=rB c;rw[c,X.1];cases hf:(u.c i k).finished with
  | false=>simp
  | true=>simp[X.2 hf]
 show NS.nB 12 { u with lP:=[] }=_;rw[LK o.nh.lP];exact e2
end
end Go.Proofs.YtddfdpbaiedcjaaGreatDoor
