/- A part of Given's proof. Conditions: none. Part 7 of 15. -/
import Derived.Test.YtddfdpbaiedcjaaGreatDoorGiv6
set_option maxRecDepth 100000
set_option maxHeartbeats 16000000
set_option linter.all false
namespace Go.Proofs.YtddfdpbaiedcjaaGreatDoor
section
open Go.RowKit Go.Proofs.Tryz
def zV(p:Nat->Bool)(n:Nat):E3 n p (zZ p n):=by
 have a:=List.findIdx_le_length (xs:=List.range n) (p:=p);rw[CK]at a;refine⟨a,λh=>?_,λh=>?_⟩
 .have:=List.not_of_lt_findIdx (p:=p) (xs:=List.range n) (i:=zZ p n-1) (by unfold zZ at h ⊢;omega);simpa using this
 have:=List.findIdx_getElem (xs:=List.range n) (p:=p) (w:=by rw[CK];exact h);simpa [zZ]using this
structure Df.Ok(s:Df):Prop where
 wf:WF s.rs
 hi:∀j,j<s.rs.length->DP s.rs j<=zF
 fl:s.fl<=zF
 most:1<=s.most/\s.most<=1099511627776
 rl:s.rs.length<=s.most
variable{B hi m m1:Nat}{rs:zE}
def O5{a:Nat}(d:m1<=a)(e:a<=rs.length)(f:∀j,j<rs.length->DP rs j<=B)(hb:hi<=B):∀i,i<(EB rs m hi m1 a).length->DP (EB rs m hi m1 a) i<=B:=by
 intro i h;rw[PR rs m hi m1 a d e]at h;rcases CJ i m1 with c|c|c
 .rw[(MV rs m hi m1 a i d e c).2];exact f i I
 .subst c;rw[(Q8 rs m hi i a d e).2];unfold EG;split
  .have:=f (a-1) I;exact Nat.max_le.2 ⟨hb,this⟩
  exact hb
 rw[(Jg rs m hi m1 a i d e c).2];exact f _ I
def TD(h:WF rs)(k:Nat):WF (rs.drop k):=by
 refine⟨λi a=>?_,λi j c d=>?_⟩
 .rw[(IH rs k i).1,(IH rs k i).2];exact h.1 _<|by rw[Ag]at a;omega
 rw[(IH rs k i).2,(IH rs k j).1];exact h.2 _ _ I<|by rw[Ag]at d;omega
variable{s:Df}
def Df.Ok.add(h:s.Ok)(lo:Nat)(d:hi<=zF):(s.add lo hi).Ok:=by
 have hb:hi<18446744073709551616:=by unfold zF at d;omega
 unfold Df.add;split
 .exact h
 rename_i a;have f:=zV (Dv s.rs<|max lo s.fl) s.rs.length;have a:=zV (D8 s.rs hi) s.rs.length;have c:=Jm h.wf I f a;have e:=Qn h.wf I hb f a;have p:=PR s.rs (max lo s.fl) hi _ _ c a.1;have f:=O5 (m:=max lo s.fl) c a.1 h.hi d;have l:=h.rl;have o:=h.most;have c:=a.1;have q:(EB s.rs (max lo s.fl) hi (zZ (Dv s.rs<|max lo s.fl) s.rs.length)<|zZ (D8 s.rs hi) s.rs.length).length<=s.rs.length+1:=by
  rw[p];omega
 split
 .rename_i d;refine⟨TD e 1,λj a=>?_,?_,o,?_⟩
  .rw[(IH _ 1 j).2];exact f _<|by rw[Ag]at a;omega
  .have a:=e.2 0 1 I I;have b:=e.1 1 I;have c:=f 1 I;show _+1<=zF;omega
  rw[Ag];exact AK (Nat.sub_le_of_le_add q) l
 rename_i d;exact⟨e,f,h.fl,o,DB d⟩
structure WS.Ok(x:WS):Prop where
 lJ:x.lJ.Ok
 lC:x.lC.Ok
 cut:x.lG<=x.final/\x.final<=zF/\x.lG<=zF
 len:x.b.length<=1048576
 lA:x.lA<=zF
 high:x.high<=x.b.length
structure CS.Ok(c:CS):Prop where
 lZ:c.lZ<=65536
 mj:c.lD<=4096
 nA:c.total<=4096
 kz:c.kz<=zF
 lA:c.lA<=zF
 ws:∀k,k<8->(c k).Ok
 rs:∀k,k<8->((c.rs k).used<=zF/\(c.rs k).kz<=zF)/\((c.rs k).mb=true->(c.rs k).used<=2305843009213693951)
 waits:∀f∈c.waits,f.Fits
variable{c:CS}
def CS.Ok.qz(h:c.Ok):KN c :=
 ⟨h.mj,h.nA,h.kz,λk a=>(h.rs k a).1,λk a q=>by have:=(h.rs k a).2 q;have:=h.mj;unfold zF;omega,λk a=>⟨(h.ws k a).cut.1,(h.ws k a).cut.2.1⟩⟩
theorem iI{f:Nat->WS}:∀n,(∀k,k<n->(f k).high<=B)->zJ f n<=n*B:=by
 intro n
 induction n with
 | zero=>intro _;simp[zJ]
 | succ n ih =>
  intro h;have a:=ih<|λk a=>h k I;have a:=h n I;have:zJ f (n+1)=zJ f n+(f n).high:=rfl;rw[this,DH];omega
variable{k:Nat}
def CS.Ok.qB(h:c.Ok)(d:k<8):QQ c k:=by
 have w:=h.ws k d;have a:=w.high;have a:=w.len;refine⟨d,w.cut.2.2,a,w.lA,by unfold zF;omega,h.lA,?_,w.lJ.wf,λj a=>by have:=w.lJ.hi j a;unfold zF at this;omega,w.lJ.fl,w.lJ.most,AK w.lJ.rl w.lJ.most.2⟩;have:=iI (f:=c.ws) (B:=1048576) 8 (λk d=>by have a:=(h.ws k d).high;have b:=(h.ws k d).len;omega);show zJ c.ws 8<=zF;unfold zF;omega
def CS.put(c:CS)(d:DX):Nat->Bool×CS×DX
 | 0=>((c.control d).isSome,((c.control d).getD (c,d)).1,((c.control d).getD (c,d)).2)
 | 1=>((c.lT d).isSome,((c.lT d).getD (c,d)).1,((c.lT d).getD (c,d)).2)
 | k+2=>c.bytes d k
structure GZ(c:CS)(d:DX)(r:Bool)(c':CS)(d':DX):Prop where
 ok:c'.Ok
 yes:r=true->∃f,f.Fits/\f.kind≠2/\d.add f=some d'
 no:r=false->c'=c/\(d'=d\/d'={ d with full:=true })
 next:c'.next=c.next/\c'.now=c.now/\c'.closed=c.closed/\c'.kx=c.kx/\c'.lZ=c.lZ/\c'.answer=c.answer/\c'.lQ=c.lQ
variable{d:DX}
theorem We(h:c.Ok):∀n k t,n+k=8->t<=zF->(EO c d n k t).2<=zF/\∀x,(EO c d n k t).1=some x->GZ c d true x.1 x.2:=by
 intro n
 induction n with
 | zero=>intro k t _ p;exact⟨p,λx o=>by cases o⟩
 | succ n ih =>
  intro k t d p;have f:k<8:=I;have d:min (t+(c.rs k).used) zF<=zF:=Nat.min_le_right _ _;have l:=ih (k+1) (min (t+(c.rs k).used) zF) I d;unfold EO;split
  .rename_i a;simp only[AZ]at a;split
   .rename_i p hd;refine⟨d,λx o=>?_⟩;cases o;have s:=(h.rs k f).2 a.2;have u:=(h.rs k f).1.1;have a:=(h.rs k f).1.2;have d:=h.mj;have q:max (c.rs k).kz ((c.rs k).used+c.lD)<=zF:=by unfold zF at a ⊢;omega
    refine⟨⟨h.lZ,h.mj,h.nA,h.kz,h.lA,h.ws,λj v=>?_,h.waits⟩,λ_=>⟨_,QS f q,by simp[Fz],hd⟩,pm,⟨rfl,rfl,rfl,rfl,rfl,rfl,rfl⟩⟩;by_cases e:j=k
    .subst e;show(((ze c.rs j _) j).used<=_/\((ze c.rs j _) j).kz<=_)/\(((ze c.rs j _) j).mb=true->((ze c.rs j _) j).used<=_);rw[zf];exact⟨⟨u,q⟩,λ_=>s⟩
    show(((ze c.rs k _) j).used<=_/\((ze c.rs k _) j).kz<=_)/\(((ze c.rs k _) j).mb=true->((ze c.rs k _) j).used<=_);rw[zd _ _ e];exact h.rs j v
   exact l
  exact l
theorem Wb(h:c.Ok):∀n k,n+k=8->∀x,ER c d n k=some x->GZ c d true x.1 x.2:=by
 intro n
 induction n with
 | zero=>intro k _ x a;cases a
 | succ n ih =>
  intro k d x a;have f:k<8:=I;have l:=ih (k+1) I;unfold ER at a;split at a
  .split at a
   .rename_i d hd;cases a;have w:=h.ws k f;refine⟨⟨h.lZ,h.mj,h.nA,h.kz,h.lA,λj o=>?_,h.rs,h.waits⟩,λ_=>⟨_,TG f w.cut.2.1 w.cut.1,by simp[He],hd⟩,pm,⟨rfl,rfl,rfl,rfl,rfl,rfl,rfl⟩⟩;by_cases e:j=k
    .subst e;show(ze c.ws j _ j).Ok;rw[zf];exact⟨w.lJ,w.lC,w.cut,w.len,w.lA,w.high⟩
    show(ze c.ws k _ j).Ok;rw[zd _ _ e];exact h.ws j o
   exact l x a
  exact l x a
def iH(h:c.Ok):∀x,c.control d=some x->GZ c d true x.1 x.2:=by
 intro x a;have e:=We (d:=d) h 8 0 c.total rfl (by have:=h.nA;unfold zF;omega);unfold CS.control at a;split at a
 .rename_i y l;cases a;exact e.2 _ l
 unfold Iu at a;have f:=Wb (d:=d) h 8 0 rfl;split at a
 .split at a
  .rename_i c hd;cases a;have c:=Nat.max_le.2 ⟨e.1,h.kz⟩;exact⟨⟨h.lZ,h.mj,h.nA,c,h.lA,h.ws,h.rs,h.waits⟩,λ_=>⟨_,TH c,by simp[Gt],hd⟩,pm,⟨rfl,rfl,rfl,rfl,rfl,rfl,rfl⟩⟩
  exact f x a
 exact f x a
variable{lo:Nat}
def V7{fin:Bool}(h:c.Ok)(a:k<8)(f:lo<=(c k).b.length)(l:hi<=(c k).b.length):GZ c d (c.ll d k lo hi fin).1 (c.ll d k lo hi fin).2.1 (c.ll d k lo hi fin).2.2:=by
 have w:=h.ws k a;have d:=w.len;unfold CS.ll;split
 .exact⟨h,pm,λ_=>⟨rfl,.inr rfl⟩,⟨rfl,rfl,rfl,rfl,rfl,rfl,rfl⟩⟩
 rename_i d hd;refine⟨⟨h.lZ,h.mj,h.nA,h.kz,h.lA,λj o=>?_,h.rs,h.waits⟩,λ_=>⟨_,U0 a ?_ ?_,by simp[EV],hd⟩,pm,⟨rfl,rfl,rfl,rfl,rfl,rfl,rfl⟩⟩
 .by_cases e:j=k
  .subst e;show(ze c.ws j _ j).Ok;rw[zf];refine⟨?_,w.lC,w.cut,w.len,w.lA,Nat.max_le.2 ⟨w.high,l⟩⟩;split
   .exact w.lJ.add lo (by unfold zF;omega)
   exact w.lJ
  show(ze c.ws k _ j).Ok;rw[zd _ _ e];exact h.ws j o
 .rw[AU,Ag];omega
 rw[AU,Ag];unfold zF;omega
def Uy(h:c.Ok)(e:k<8)(a:lo<=(c k).b.length)(f:hi<=(c k).b.length):GZ c d (c.mE d k lo hi).1 (c.mE d k lo hi).2.1 (c.mE d k lo hi).2.2:=by
 unfold CS.mE;split
 .rename_i c;split
  .exact⟨h,pm,λ_=>⟨rfl,.inr rfl⟩,⟨rfl,rfl,rfl,rfl,rfl,rfl,rfl⟩⟩
  exact V7 h e a I
 exact V7 h e a f
def YE(h:c.Ok)(a:k<8):GZ c d (c.bytes d k).1 (c.bytes d k).2.1 (c.bytes d k).2.2:=by
 have e:=If (c k).lJ.rs 0<|c.lr k;have e:=AK (NJ c k)<|AK (Bu _ _)<|Bu _ _;have no:GZ c d false c d:=⟨h,pm,λ_=>⟨rfl,.inl rfl⟩,⟨rfl,rfl,rfl,rfl,rfl,rfl,rfl⟩⟩;unfold CS.bytes;split
 .exact no
 split
 .split
  .exact no
  exact Uy h a ro ro
 exact Uy h a I I
variable{f:DV}
def ej(h:f.Fits)(a:f.kind=2):False:=by
 have c:=h.sound;have d:=h.rn
 revert c
 simp[Dx,a,d,zR];intro _ _;rfl
variable{q:Nat}
theorem JZ(h:c.Ok)(a:q<10):GZ c d (c.put d q).1 (c.put d q).2.1 (c.put d q).2.2:=by
 have no:GZ c d false c d:=⟨h,pm,λ_=>⟨rfl,.inl rfl⟩,⟨rfl,rfl,rfl,rfl,rfl,rfl,rfl⟩⟩
 match q,a with
 | 0,_ =>
  show GZ c d (c.control d).isSome ((c.control d).getD (c,d)).1 ((c.control d).getD (c,d)).2;cases hc:c.control d with
  | none=>exact no
  | some x=>exact iH h x hc
 | 1,_ =>
  show GZ c d (c.lT d).isSome ((c.lT d).getD (c,d)).1 ((c.lT d).getD (c,d)).2;unfold CS.lT;cases hw:c.waits with
  | nil=>exact no
  | cons f l =>
   cases hd:d.add f with
   | none=>simp only[hd,Option.map_none];exact no
   | some d' =>
    simp only[hd,A5];have a:=h.waits f (by rw[hw];exact AQ);exact⟨⟨h.lZ,h.mj,h.nA,h.kz,h.lA,h.ws,h.rs,λg c=>h.waits g<|by rw[hw];exact AV _ c⟩,λ_=>⟨f,a,λe=>ej a e,hd⟩,pm,⟨rfl,rfl,rfl,rfl,rfl,rfl,rfl⟩⟩
 | k+2,hk =>
  exact YE h (I:k<8)
structure DX.Ok(d:DX):Prop where
 b:d.b.length<=65536
 fs:d.fs.length<=d.b.length
 room:d.room<=65536
def PM(f:DV):1<=(zC f).length:=by
 unfold zC Jl Je Jc Jj Jd Hs Gn;repeat' split
 all_goals simp
variable{d':DX}
def DX.mK(h:d.add f=some d'):d'.b=d.b++zC f/\d'.fs=d.fs++[f]/\d'.room=d.room/\d'.full=d.full/\d'.lh=(d.lh||f.kind != 2)/\d'.b.length+4<=d.room:=by
 unfold DX.add at h;split at h
 .cases h
 rename_i a;cases h;exact⟨rfl,rfl,rfl,rfl,rfl,by simp only;omega⟩
variable{c':CS}
theorem GZ.qu{r:Bool}(h:GZ c d r c' d')(hd:d.Ok):d'.Ok/\d'.room=d.room/\(r=true->d.b.length<d'.b.length/\d'.b.length+4<=d.room)/\d.b.length<=d'.b.length:=by
 cases r with
 | true =>
  obtain⟨f,c,_,a⟩:=h.yes rfl;obtain⟨c,l,o,_,_,p⟩:=DX.mK a;have hb:=PM f;have a:d'.b.length=d.b.length+(zC f).length:=by rw[c,AG]
  have a:=hd.room;have a:=hd.fs;exact⟨⟨I,by rw[l,AG,Ac];omega,I⟩,o,λ_=>⟨I,p⟩,I⟩
 | false =>
  obtain⟨_,e|e⟩:=h.no rfl
  .rw[e];exact⟨hd,rfl,pm,AF _⟩
  rw[e];exact⟨⟨hd.b,hd.fs,hd.room⟩,rfl,pm,AF _⟩
def CS.lu(q:Nat):Nat->CS->DX->CS×DX
 | 0,c,d=>(c,d)
 | n+1,c,d=>if (c.put d q).1=true then CS.lu q n (c.put d q).2.1 (c.put d q).2.2 else((c.put d q).2.1,(c.put d q).2.2)
def CS.ld:Nat->CS->DX->CS×DX
 | 0,c,d=>(c,d)
 | n+1,c,d=>CS.ld n (CS.lu (9-n) (d.room+1) c d).1 (CS.lu (9-n) (d.room+1) c d).2
def CS.fill(c:CS)(d:DX):CS×DX:=CS.ld 10 c d
def Rx(l:List Nat):List Nat:=(Gy (l.length-1) (Fc l 0 (l.length-1)) 0 (l.length-1)).take (l.length-1)
def Gx:Nat->List Nat
 | 0=>List.range 10
 | n+1=>Rx<|Gx n
def Vp:∀n,n<=10->(Gx n).length=10-n:=lc
def eh:∀n,n<10->Gy ((Gx n).length-1) (Fc (Gx n) 0 ((Gx n).length-1)) 0 ((Gx n).length-1)=Gx (n+1)++[n]:=lc
def FU(tag:rD)(t:Nat×Nat)(W:rq)(v:rt)(l:zE):Prop:=RR W v l/\∀g,Value.mu v=some g->tag g=t
variable{S:Nat->Prop}{W W':rq}{tag ky:rD}{v:rt}
def FU.mod{t:Nat×Nat}{l:zE}(h:FU tag t W v l)(m:DO S W W')(c:∀g,S g->tag g≠t)(d:∀g,tag g=t->ky g=t):FU ky t W' v l :=
 ⟨h.1.mod m<|Gr λg a x=>c g x<|h.2 g a,λg a=>d g<|h.2 g a⟩
def FU.nil(tag:rD)(t:Nat×Nat)(W:rq):FU tag t W ru [] :=
 ⟨⟨none,0,rfl,AF _,AN _,λi a=>absurd a<|A6 i⟩,λg a=>by simp[Value.mu]at a⟩
def CS.lW(c:CS):zE×CS:=if c.answer then(c.lQ.rs.reverse,{ c with answer:=false })else([],c)
def YD(tag:rD)(i b:Nat)(W:rq)(l:zE)(c':CS)(e:Ending)(W':rq):Prop :=
 ∃v ky a,e=.returned v/\FU ky (i,5) W' v l/\zi ky i b c' a W'/\Di i tag ky W W'/\DO (Dr i tag) W W'
variable{e g sz:Nat}{w:rq}{xs:rF}
def QP{n:Nat}(h:w.ownsRow 0 e sz v n xs)(a:Value.mu v=some g):v.ownBlock=some g:=by
 rcases h.2 with⟨rfl,_⟩|⟨e,c,d,rfl,_⟩
 .simp[Value.mu]at a
 simpa [Value.mu,Value.ownBlock]using a
variable{V:CV}{b i:Nat}
theorem YC(h:zi tag i b c V W)(E:D0 i tag W)(a:c.lQ.Ok):rT 82 #[(b,0)] W (YD tag i b W c.lW.1 c.lW.2):=by
 have q:=h.hd (j:=8) rfl;have Y:=h.hd (j:=7) rfl;have f:=zb h;have s:=zb E;have Z:=zb a;cases ha:c.answer with
 | false =>
  rw[ha]at q;have d:c.lW=([],c):=by simp[CS.lW,ha]
  rw[d];clear h E a d ha;go_enter func82,ntmps82;go_wp2_with fail;go_ret;exact⟨_,tag,V,rfl,FU.nil _ _ _,f.z,Di.same s.z.ok<|DO.refl DQ _,DO.refl _ _⟩
 | true =>
  rw[ha]at q;have d:c.lW=(c.lQ.rs.reverse,{ c with answer:=false }):=by simp[CS.lW,ha]
  rw[d];have t:V.g≠b:=λe=>by
   have u:=h.tg;have z:=h.tb;rw[e,z]at u;simp at u
  obtain⟨W1,f⟩:=nm<|W.setCell (U b 8)<|.bool false;have p:zi tag i b { c with answer:=false } V W1:=by
   rw[<-f];exact h.store 8 (.bool false) (Ku c { c with answer:=false } V V (j:=8) (.bool false) lc rfl rfl rfl rfl) ⟨rfl,λ_ _=>⟨rfl,rfl,rfl⟩,λ_ _=>⟨rfl,rfl⟩,rfl,rfl,rfl,rfl⟩
  have A:DO (λg=>g=b) W W1:=by rw[<-f];exact(DO.refl (λg=>g=b) _).setCell rj _
  have l:DO (Dr i tag) W W1:=A.mono (λg a=>.inl (EU (r:=1) (by rw[show g=b from a];exact h.tb) lc));have T:=λW2 (m:DO DQ W1 W2) (X:Nat) (B:W2 X=some (.pointer V.g))=>iu c.lQ.rs c.lQ.fl c.lQ.most V.g X V.gv W2 (p.lK m).lQ (λj K=>pp<|a.wf.1 j K) B
  have B:=ec V.g W1;have X:=p.hd (j:=7) rfl;have fz:=h.fz 8;have H1:=zb p;have M1:=zb A;have N:=zb l;have KC:=zb T;have X:=zb B;clear h E a d ha p A l T B t;go_enter func82,ntmps82;go_upto_region 4 with fail;clear f q Y;go_wp2_with (first|(go_at_call 141;refine X.z.mono ?_;rintro e f ⟨rfl,rfl⟩)|(go_at_call 143;refine(KC.z _ ((DO.refl DQ W1).alloc _) _<|za (heap_alloc_new W1 _) rfl).mono ?_;rintro e o ⟨v,rfl,O,hn,hm⟩));go_ret;have h:=((DO.refl DQ W1).alloc<|.cells #[(V.g,0)] 114).trans hm;have f:=zK O;have e:=M1.z.size;have l:=N.z.trans<|h.mono rm;have e:∀g,(tag g).1=i->zQ tag W o (i,5) g=tag g:=λg a=>zD (by
   by_cases q:g<W.heap.size
   .exact q
   have:=s.z.ok g I;rw[this]at a;have:=s.z.pos;have a:(0:Nat)=i:=a;omega)
  refine⟨v,zQ tag W o (i,5),V,rfl,⟨?_,λg a=>?_⟩,H1.z.mod h rm e,⟨λg a=>zD a,λg a=>?_,λg a=>?_⟩,l⟩
  .have e:c.lQ.rs.reverse.length=c.lQ.rs.length:=lm;have h:o.ownsRow 0 214 2 v c.lQ.rs.reverse.length (zr c.lQ.rs.reverse):=by rw[e];exact O
   exact ef (rs:=c.lQ.rs) h (λj K=>pp<|Z.z.wf.1 j K)<|λx d=>List.mem_reverse.1 d
  .have hb:=QP O a;have u:=hn g hb;have z:=f g hb;have c:(W1.alloc<|.cells #[(V.g,0)] 114).heap.size=W1.heap.size+1:=lm;exact GM I z
  .by_cases q:g<o.heap.size
   .exact .inl (by rw[GM a q])
   exact .inr<|by simp only[zQ,(I:¬g<W.heap.size),q,AH,Av]
  have:=l.size;simp only[zQ,(I:¬g<W.heap.size),(I:¬g<o.heap.size),AH,Av]
def lY(rs:zE):DV:=⟨2,0,0,0,0,false,0,0,[],rs⟩
def EY(d:DX)(l:zE):Nat->Nat
 | 0=>0
 | n+1=>if 1<n+1/\d.room<(d.b++zC (lY<|l.take<|n+1)).length+4 then EY d l n else n+1
def GG(d:DX)(l:zE):DX×zE:=((d.add (lY (l.take (EY d l l.length)))).getD d,l.drop (EY d l l.length))
theorem Ql(d:DX)(l:zE):∀n,EY d l n<=n
 | 0=>AF _
 | n+1=>by
  unfold EY;split
  .exact AK (Ql d l n) (Bv n)
  exact AF _
theorem NO(d:DX)(l:zE):∀n,1<=n->1<=EY d l n
 | 0,h=>h
 | n+1,_=>by
  unfold EY;split
  .rename_i h;exact NO d l n I
  omega
def Se(l:zE):Prop:=∀n,1<=n->n<=l.length->Dx (lY (l.take n))=true
def Qk(l:zE):(zC (lY l)).length<=64+16*l.length:=by
 have e:zC (lY l)=Gn (lY l):=rfl;have a:=zy<|DP l 0;have a:=zy<|l.length-1;have a:=zy<|DP l 0-DU l 0;have a:=Rm l<|l.length-1;have a:(lY l).lF=l:=rfl;rw[e];unfold Gn;rw[a];simp only[AG,AS,Ae];omega
variable{a:rE}{cap:Nat}
def QO{n:Nat}{l:zE}(h:RR w (.slice a l.length cap) l)(c:n<=l.length)(c2:Nat)(o:n<=c2)(d:c2<=maxLen):RR w (.slice a n c2) (l.take n):=by
 obtain⟨o,c,e,_,_,f⟩:=h;cases e;have c:(l.take n).length=n:=by rw[AU];omega
 refine⟨a,c2,by rw[c],I,d,λi a=>?_⟩;obtain⟨g,o,e,c,d,h⟩:=f i I;have a:=NG l n i I;rw[a.1,a.2];exact⟨g,o,e,c,d,h⟩
variable{o:Nat}
def TC{n:Nat}{l:zE}(h:RR w (.slice (g,o) l.length cap) l)(a:n<=l.length):RR w (.slice (g,o+n*2) (l.length-n) (cap-n)) (l.drop n):=by
 obtain⟨q,a,e,s,t,c⟩:=h;cases e;refine⟨_,cap-n,by rw[Ag],by rw[Ag];omega,I,λi a=>?_⟩;rw[Ag]at a;obtain⟨a,h,e,d,f,p⟩:=c (n+i) I;cases e;have a:=IH l n i;rw[a.1,a.2];refine⟨g,o+n*2,rfl,?_,?_,p⟩
 .rw[(I:o+n*2+i*2=o+(n+i)*2)];exact d
 rw[(I:o+n*2+i*2+1=o+(n+i)*2+1)];exact f
def TJ{n:Nat}{l:zE}(c:l.length-n=0):RR w (.slice a (l.length-n) 0) (l.drop n):=by
 refine⟨a,0,by rw[Ag],by rw[Ag];omega,AN _,λi a=>?_⟩;rw[Ag]at a;omega
variable{V':CV}{W1 W2:rq}{nN nO v':rt}{db:Nat}{l':List (DV×rt)}{new:rC}
def zP.qL(h:zP tag i b db W c d ky V' nN nO l' W1)(l:Ds W1 nN d.b new v' W2):zP tag i b db W c d (zQ ky W1 W2 (i,91)) V' nN nO l' W2/\Di i ky (zQ ky W1 W2 (i,91)) W1 W2/\DO (JX i ky) W1 W2:=by
 have o:=h.ok;have c:=h.d;have f:=(DO.refl (λg=>nN.ownBlock=some g) W1).grown l.grown<|λg a=>.inl a;have e:∀{g r:Nat},ky g=(i,r)->g<W1.heap.size:=λa=>EZ o a h.p
 have p:Ee (zQ ky W1 W2 (i,91)) i db d nN nO l' W2 :=
  ⟨f.obj (λx=>zi.apart c.tb (c.nP _ x) lc rfl) c.obj,by rw[zD (e c.tb),c.tb],l.mL,λg a=>by rw[zD (e<|c.nP g a),c.nP g a],f.owns c.own<|λg a x=>zi.apart (c.na g a) (c.nP g x) lc rfl,c.lf,
   λx d=>⟨(c.rr x d).1.mod f<|Gr λg a y=>zi.apart ((c.rr x d).2 g a) (c.nP g y) lc rfl,λg a=>by rw[zD (e<|(c.rr x d).2 g a),(c.rr x d).2 g a]⟩,λg a=>by rw[zD (e<|c.na g a),c.na g a]⟩
 have md:DO (JX i ky) W1 W2:=f.mono<|λg a=>.inl ⟨91,lc,c.nP g a⟩;have c:JM i ky (zQ ky W1 W2 (i,91)) W1 W2:=by
  refine⟨λg a=>zD a,λg a=>?_,λg a=>?_⟩
  .by_cases q:g<W2.heap.size
   .exact .inl ⟨91,lc,GM a q⟩
   exact .inr<|by simp only[zQ,(I:¬g<W1.heap.size),q,AH,Av]
  have:=f.size;simp only[zQ,(I:¬g<W1.heap.size),(I:¬g<W2.heap.size),AH,Av]
 exact⟨⟨h.c.oR o h.p md c.mL,p,h.e.trans c.ext h.m.size,Er h.e h.m<|Mc md,h.p⟩,c.ext,md⟩
def Ow(tag:rD)(i b h:Nat)(W:rq)(c:CS)(l:DX)(o:zE)(e:Ending)(W':rq):Prop :=
 ∃v ky p a d f,e=.returned v/\FU ky (i,5) W' v o/\zP tag i b h W c l ky p a d f W'
def FU.pG{l:zE}(h:FU tag (i,5) W v l)(c:Dm tag W)(hi:0<i)(m:DO (JX i tag) W W')(e:∀g,g<W.heap.size->ky g=tag g):FU ky (i,5) W' v l :=
 h.mod m (λg ⟨r,hr,hx⟩ x=>by rw[hx]at x;simp at x;omega) (λg a=>by rw[e g (EZ c a hi),a])
variable{bv fv:rt}
def YB{lv:rt}{l:List (DV×rt)}{f:zE}(h:zi tag i b c V W)(hD:Ee tag i db d bv fv l W)(E:D0 i tag W)(hl:FU tag (i,5) W lv f)(aj:1<=f.length)(af:Se f)(an:f.length<=1048576)(ao:d.b.length<=1073741824)(ap:d.fs.length<=1073741824)(aq:d.room<=1073741824):rT 84 #[(b,0),(db,0),lv] W (Ow tag i b db W c (GG d f).1 (GG d f).2):=by
 have S0:AA (zP tag i b db W c d tag V bv fv l W):=zb ⟨h,hD,Di.same E.ok (DO.refl DQ _),DO.refl _ _,E.pos⟩;have aa:l.length=d.fs.length:=by rw[<-hD.lf,BD]
 obtain⟨ba,z,ak,_⟩:=zk hD.ob;subst ak;obtain⟨a,v,e,n1,n2,n3⟩:=hl.1;subst e;obtain⟨g,o,ea,_⟩:=n3 0 I;subst ea;obtain⟨N,hN⟩:=nm (EY d f f.length);have hT:GG d f=((d.add (lY (f.take N))).getD d,f.drop N):=by unfold GG;rw[hN]
 rw[hT];have R0:=zb hl;have HN:=zb hN;have ac:=zb af;have ag:=zb aa;have al:=n2;unfold maxLen at al;clear h hD E hl n3 af hT hN aa;go_enter func84,ntmps84;go_wp2_with fail
 go_loopw [7] (λh wr=>∃(n:Nat) (ky:rD),h=.int .i64 n/\1<=n/\n<=f.length/\AA (EY d f n=N)/\AA (zP tag i b db W c d ky V (.slice ba d.b.length z) fv l wr)/\AA (FU ky (i,5) wr (.slice (g,o) f.length v) f)) (λh _=>(intOf h).toNat)
 case atStart=>exact⟨f.length,tag,rfl,aj,AF _,HN,S0,R0⟩
 case round =>
  clear S0 R0 HN;obtain⟨n,ky,rfl,h1,h2,HN,SS,ah⟩:=hrel;have h:(0:Int)<=n:=I
  have h:(n:Int)<=v:=I
  have h:((n:Int)).toNat=n:=I
  by_cases ai:1<n
  .have d3:(1:Int)<n:=I
   have ht:(f.take n).length=n:=by rw[AU];omega
   have am:=Qk (f.take n);have sd:=SS.z.lK ((DO.refl DQ wr).drew);have rd:=ah.z.mod ((DO.refl DQ wr).drew) rm (λ_ x=>x);have od:=sd.d.obj;have ka:=RJ (.slice ba d.b.length z) d.b (lY (f.take n)) (.slice (g,o) n v) wr.drew sd.d.ob (λ_=>Gr λq A x=>zi.apart (rd.2 q A) (sd.d.nP q x) lc rfl) (QO rd.1 h2 v I n2) (by show(f.take n).length<=_;omega) (by show(0:Nat)<=_;omega) I;rw [show zj (lY (f.take n)) (.slice (some ⟨g, o, none⟩) n v) = #[.int .i64 2, .int .i64 0, .int .u64 0, .int .u64 0, .int .u64 0, .bool false, .int .u64 0, .int .u64 0, .string "".toUTF8, .slice (some ⟨g, o, none⟩) n v] from rfl] at ka;have kb:∀e w2,O0 wr.drew (.slice ba d.b.length z) d.b (Dx (lY (f.take n))) (zC (lY (f.take n))) e w2->∃a2 c2 tag2,e=.returned (.slice a2 (d.b++zC (lY (f.take n))).length c2)/\AA (zP tag i b db W c d tag2 V (.slice ba d.b.length z) fv l w2)/\AA (FU tag2 (i,5) w2 (.slice (g,o) f.length v) f):=by
    rintro e w2 (⟨_,h,rfl,hA⟩|⟨hx,_⟩)
    .obtain⟨h,l,E⟩:=sd.qL hA;obtain⟨a2,c2,e3,_⟩:=zk hA.own;exact⟨a2,c2,_,by rw[e3],h,rd.pG sd.ok sd.p E l.mL⟩
    .rw[ac.z n h1 h2]at hx;cases hx
   obtain⟨L,h⟩:=nm ((d.b++zC (lY (f.take n))).length);rw[h]at kb;have l:L<=2147483648:=by rw[<-h,AG];omega
   have l:IntKind.i64.wrap ((L:Int)+4)=(L:Int)+4:=IntWalk.i64_in _ I;have E:=zb (ka.mono kb);have HL:=zb h;have l:=zb od;clear ka kb am h ht sd rd od;go_wp2_with fail;refine zn 20 (λw'=>w'.heap[db]?=some (.cells #[.slice ba d.b.length z,fv,[d.room],d.lh,d.full] 180 (0,0))) (l.z) ?_;refine GI 0 ?_;iterate 11
    refine GS rfl ?_ ?_ ?_;rotate_left
    ·(intro wx s;(try dsimp only at s);have c0:=za (o:=0) s rfl;have c2:=za (o:=2) s rfl;go_simp;try with_reducible rfl)
    try simp only[PS]
   refine GI 14 ?_;iterate 4
    refine GS rfl ?_ ?_ ?_;rotate_left
    ·(intro wx s;(try dsimp only at s);have c0:=za (o:=0) s rfl;have c2:=za (o:=2) s rfl;go_simp;try with_reducible rfl)
    try simp only[PS]
   refine zz 11 rfl (λK hK=>?_);go_simp;refine E.z.mono ?_;rintro e w2 ⟨a2,c2,tag2,rfl,B,Z⟩;refine hK.z _ _ B.z.d.obj ?_;clear hK K;try simp only[PS]
   refine GI 12 ?_;iterate 2
    refine GS rfl ?_ ?_ ?_;rotate_left
    ·(intro wx s;(try dsimp only at s);have c0:=za (o:=0) s rfl;have c2:=za (o:=2) s rfl;go_simp;try with_reducible rfl)
    try simp only[PS]
   refine GI 18 ?_;iterate 2
    refine GS rfl ?_ ?_ ?_;rotate_left
    ·(intro wx s;(try dsimp only at s);have c0:=za (o:=0) s rfl;have c2:=za (o:=2) s rfl;go_simp;try with_reducible rfl)
    try simp only[PS]
   refine zq ?_;by_cases ab:d.room<L+4
   .have d4:(d.room:Int)<(L:Int)+4:=I
    have h:IntKind.i64.wrap ((n:Int)-1)=((n-1:Nat):Int):=by rw[IntWalk.i64_in _ I];omega
    go_wp2_with fail;go_roundw
    case rel =>
     have hl:=HL.z;have hn:=HN.z;refine⟨n-1,tag2,rfl,I,I,zb ?_,B,Z⟩;obtain⟨k,rfl⟩:∃k,n=k+1:=⟨n-1,I⟩;rw[<-hn,CC]
     conv=>rhs;unfold EY
     rw[AM ⟨ai,by rw[hl];exact ab⟩]
    case measure =>
     simp[intOf];omega
   .have d4:¬(d.room:Int)<(L:Int)+4:=I
    have ad:N=n:=by
     have hl:=HL.z;rw[<-HN.z];obtain⟨k,rfl⟩:∃k,n=k+1:=⟨n-1,I⟩;unfold EY;rw[AH (λx=>ab (by have:=x.2;rw[hl]at this;exact this))]
    subst ad;go_upto_region 4 with fail;have kd:=Ox B.z.d B.z.ok B.z.p (lY (f.take N)) (some ⟨g,o,none⟩) N N (ac.z N h1 h2) (QO Z.z.1 h2 N ro I) (λq A=>Z.z.2 q (by simpa [Value.mu]using A)) (by show(f.take N).length<=_;rw[AU];omega) (by show(0:Nat)<=_;omega) I (by have:=Qk (f.take N);rw[AU]at this;omega) (by rw[ag.z];omega);rw [show zj (lY (f.take N)) (.slice (some ⟨g, o, none⟩) N N) = #[.int .i64 2, .int .i64 0, .int .u64 0, .int .u64 0, .int .u64 0, .bool false, .int .u64 0, .int .u64 0, .string "".toUTF8, .slice (some ⟨g, o, none⟩) N N] from rfl] at kd;have KD:=zb (kd.mono (R':=λe T=>∃x p t u X,e=.returned (.bool x)/\AA (zP tag i b db W c ((d.add (lY (f.take N))).getD d) p V t u X T)/\AA (FU p (i,5) T (.slice (g,o) f.length v) f)) (λe T ae=>by
     obtain⟨e1,p,t,u,X,s3,O,m3⟩:=B.z.pT ae;exact⟨_,p,t,u,X,e1,s3,Z.z.pG B.z.ok B.z.p m3 O⟩))
    clear kd;go_upto_region 5 with(go_at_call 142;refine KD.z.mono ?_;rintro e T ⟨x,p,t,u,X,rfl,S3,R3⟩);have HF:AA (∀Y,RR T Y (f.drop N)->(∀q,Value.mu Y=some q->q=g)->Ow tag i b db W c ((d.add (lY (f.take N))).getD d) (f.drop N) (.returned Y) T):=zb λY hv A=>⟨Y,p,V,t,u,X,rfl,⟨hv,λq hb=>by rw[A q hb];exact R3.z.2 g rfl⟩,S3.z⟩
    have d5:(N:Int)<=f.length:=I
    go_wp2_with fail;all_goals go_ret
    .exact HF.z _ (TJ I) (λq A=>by simpa [Value.mu]using A.symm)
    .exact HF.z _ (TC R3.z.1 h2) (λq A=>by simpa [Value.mu]using A.symm)
  .have d3:¬(1:Int)<n:=I
   have ad:N=n:=by
    rw[<-HN.z];obtain⟨k,rfl⟩:∃k,n=k+1:=⟨n-1,I⟩;unfold EY;rw[AH (λx=>ai x.1)]
   subst ad;have hd:decide ((1:Int)<N)=false:=rB d3
   go_wp2_with fail;go_quiet (fail);have B:=λa=>zb (SS.z.lK ((DO.refl DQ wr).drewN a))
   have Z:=λa=>zb (ah.z.mod ((DO.refl DQ wr).drewN a) rm (λ_ x=>x))
   replace B:=B ‹Nat›;replace Z:=Z ‹Nat›;go_upto_region 4 with fail;have kd:=Ox B.z.d B.z.ok B.z.p (lY (f.take N)) (some ⟨g,o,none⟩) N N (ac.z N h1 h2) (QO Z.z.1 h2 N ro I) (λq A=>Z.z.2 q (by simpa [Value.mu]using A)) (by show(f.take N).length<=_;rw[AU];omega) (by show(0:Nat)<=_;omega) I (by have:=Qk (f.take N);rw[AU]at this;omega) (by rw[ag.z];omega);rw [show zj (lY (f.take N)) (.slice (some ⟨g, o, none⟩) N N) = #[.int .i64 2, .int .i64 0, .int .u64 0, .int .u64 0, .int .u64 0, .bool false, .int .u64 0, .int .u64 0, .string "".toUTF8, .slice (some ⟨g, o, none⟩) N N] from rfl] at kd;have KD:=zb (kd.mono (R':=λe T=>∃x p t u X,e=.returned (.bool x)/\AA (zP tag i b db W c ((d.add (lY (f.take N))).getD d) p V t u X T)/\AA (FU p (i,5) T (.slice (g,o) f.length v) f)) (λe T ae=>by
    obtain⟨e1,p,t,u,X,s3,O,m3⟩:=B.z.pT ae;exact⟨_,p,t,u,X,e1,s3,Z.z.pG B.z.ok B.z.p m3 O⟩))
   clear kd;go_upto_region 5 with(go_at_call 142;refine KD.z.mono ?_;rintro e T ⟨x,p,t,u,X,rfl,S3,R3⟩);have HF:AA (∀Y,RR T Y (f.drop N)->(∀q,Value.mu Y=some q->q=g)->Ow tag i b db W c ((d.add (lY (f.take N))).getD d) (f.drop N) (.returned Y) T):=zb λY hv A=>⟨Y,p,V,t,u,X,rfl,⟨hv,λq hb=>by rw[A q hb];exact R3.z.2 g rfl⟩,S3.z⟩
   have d5:(N:Int)<=f.length:=I
   go_wp2_with fail;all_goals go_ret
   .exact HF.z _ (TJ I) (λq A=>by simpa [Value.mu]using A.symm)
   .exact HF.z _ (TC R3.z.1 h2) (λq A=>by simpa [Value.mu]using A.symm)
variable{fn:Nat->rt}
theorem kN{a:Nat->rt}:∀{l:List Nat},(∀x∈l,fn x=a x)->zT fn l=zT a l:=by
 intro l
 induction l with
 | nil=>intro _;rfl
 | cons x l ih =>
  intro h;have e:=ih<|λy c=>h y<|AV _ c;show [Value.int .i64 x,fn x]++zT fn l=[Value.int .i64 x,a x]++zT a l;rw[e,h x AQ]
variable{sb:Nat}
def EC.congr{d:Nat->rt}{l:List Nat}(h:EC sb fn l g cap W)(e:∀x∈l,fn x=d x)(o:∀c,∃f a b,d c=.func f a b):EC sb d l g cap W :=
 {h with own:=by rw[<-kN e];exact h.own,fns:=o }
def Kk(b a:Nat)(c:Nat->Nat):Nat->rt
 | 0=>.func (.func 145) #[.pointer b] #[]
 | 1=>.func (.func 146) #[.pointer b] #[]
 | k+2=>.func (.func 148) #[] #[.pointer a,.pointer (U (c k) 0)]
theorem Ri(b d:Nat)(e:Nat->Nat):∀c,∃f a x,Kk b d e c=.func f a x
 | 0=>⟨_,_,_,rfl⟩
 | 1=>⟨_,_,_,rfl⟩
 | _+2=>⟨_,_,_,rfl⟩
variable{W'':rq}
def zP.then{r:Bool}{e:Ending}(h:zP tag i b db W c d ky V' nN nO l' W')(s:Gl ky i b db W' c' d' r e W''):e=.returned (.bool r)/\∃tag2 l a f o,zP tag i b db W c' d' tag2 l a f o W''/\Di i ky tag2 W' W''/\DO (Dr i ky) W' W'':=by
 obtain⟨rfl,tag2,l,a,f,o,t,u,p,q⟩:=s;exact⟨rfl,tag2,l,a,f,o,⟨t,u,h.e.trans p h.m.size,Er h.e h.m q,h.p⟩,p,q⟩
variable{W0:rq}
def Gl.mG{r:Bool}{e:Ending}(l:Dm tag W)(m0:DO DQ W W0)(h:Gl tag i b db W0 c d r e W'):Gl tag i b db W c d r e W':=by
 obtain⟨rfl,tag2,o,a,f,p,q,s,t,u⟩:=h;refine⟨rfl,tag2,o,a,f,p,q,s,(Di.same l m0).trans t m0.size,(m0.mono rm).trans u⟩
structure Ey(tag:rD)(i b db:Nat)(W0:rq)(cb:Nat)(kb:Nat->Nat)(n:Nat)(l:List Nat)(sb g cap:Nat)(ky:rD)(W:rq):Prop where
 heap:EC sb (Kk b cb kb) l g cap W
 hc:W cb=some (.pointer b)
 hk:∀k,k<n->W ⟨kb k,0,none⟩=some (.int .i64 k)
 fr:∀q,(q=sb\/q=g\/q=cb\/∃k,k<n/\q=kb k)->W0.heap.size<=q/\ky q=(0,0)
 ne:∀q,(q=cb\/∃k,k<n/\q=kb k)->q≠sb/\q≠g
variable{cb:Nat}
def Ey.mod{c:Nat->Nat}{n:Nat}{l:List Nat}{tag2:rD}(h:Ey tag i b db W0 cb c n l sb g cap ky W)(m:DO S W W')(f:∀q,S q->W0.heap.size<=q->ky q≠(0,0))(o:∀q,q<W.heap.size->tag2 q=ky q):Ey tag i b db W0 cb c n l sb g cap tag2 W':=by
 have q:∀{q:Nat},(q=sb\/q=g\/q=cb\/∃k,k<n/\q=c k)->¬S q:=λc x=>f _ x (h.fr _ c).1 (h.fr _ c).2
 have d:=zm h.heap.c0;have p:=zK h.heap.own g rfl;refine⟨h.heap.mod m (q rj)<|q<|.inr rj,m.cell (q<|.inr<|.inr rj) h.hc,λk a=>m.cell (q<|.inr<|.inr<|.inr ⟨k,a,rfl⟩)<|h.hk k a,λx e=>⟨(h.fr x e).1,?_⟩,h.ne⟩;rw[o x ?_]
 .exact(h.fr x e).2
 rcases e with rfl|rfl|rfl|⟨k,a,rfl⟩
 .exact d
 .exact p
 .exact zm h.hc
 exact zm<|h.hk k a
def Ey.src{a:Nat->Nat}{n:Nat}{l:List Nat}{tag2:rD}(h:Ey tag i b db W0 cb a n l sb g cap ky W)(hi:0<i)(e:Di i ky tag2 W W')(m:DO (Dr i ky) W W'):Ey tag i b db W0 cb a n l sb g cap tag2 W' :=
 h.mod m.oL (λq a _ x=>by rw[x]at a;simp at a;omega) (λq a=>e.mL q a)
def Ey.lK{a:Nat->Nat}{n:Nat}{l:List Nat}(h:Ey tag i b db W0 cb a n l sb g cap ky W)(m:DO DQ W W'):Ey tag i b db W0 cb a n l sb g cap ky W' :=
 h.mod m rm (λ_ _=>rfl)
def Ey.o9{d:Nat->Nat}{n:Nat}{l t:List Nat}{o a:Nat}(h:Ey tag i b db W0 cb d n l sb g cap ky W)(u:Dm ky W)(z:W0.heap.size<=W.heap.size)(v:EC sb (Kk b cb d) t o a W')(f:o=g\/W.heap.size<=o)(m:DO (λq=>q=sb\/q=g) W W'):Ey tag i b db W0 cb d n t sb o a ky W':=by
 have q:∀{q:Nat},(q=cb\/∃k,k<n/\q=d k)->¬(q=sb\/q=g):=λs x=>by
  have:=h.ne _ s;rcases x with x|x
  .exact this.1 x
  exact this.2 x
 have lt:∀{q:Nat},(q=cb\/∃k,k<n/\q=d k)->q<W.heap.size:=λs=>by
  rcases s with rfl|⟨k,p,rfl⟩
  .exact zm h.hc
  exact zm<|h.hk k p
 refine⟨v,m.cell (q rj) h.hc,λk p=>m.cell (q<|.inr ⟨k,p,rfl⟩)<|h.hk k p,λx c=>?_,λx c=>⟨(h.ne x c).1,λe=>?_⟩⟩
 .rcases c with rfl|rfl|c
  .exact h.fr _ rj
  .rcases f with rfl|f
   .exact h.fr _ (.inr rj)
   exact⟨I,u _ f⟩
  exact h.fr _<|.inr<|.inr c
 rcases f with rfl|f
 .exact(h.ne x c).2 e
 have:=lt c;omega
def zP.own(h:zP tag i b db W c d ky V' nN nO l' W')(m:DO S W' W'')(a:∀g,S g->W.heap.size<=g/\ky g=(0,0)):zP tag i b db W c d ky V' nN nO l' W'':=h.free m (λg c=>⟨(a g c).2,(a g c).1⟩)
def fM{f:Nat}{l:List (DV×rt)}(h:zi tag i b c V W)(o:Ee tag i db d bv fv l W)(E:D0 i tag W)(k:Nat)(ok:QQ c k)(hd:d.Ok)
  (l:W cb=some (.pointer b)) (p:W f=some (.int .i64 k)) :
  rT 148 #[(db,0),(cb,0),(f,0)] W (Gl tag i b db W (c.bytes d k).2.1 (c.bytes d k).2.2 (c.bytes d k).1):=by
 have f:∀W1,DO DQ W W1->rT 149 #[(b,0),(db,0),[k]] W1 (Gl tag i b db W (c.bytes d k).2.1 (c.bytes d k).2.2 (c.bytes d k).1):=λW1 m =>
  (ex (h.lK m) (o.qQ m rm) (E.lK m) k ok (pp hd.b) (pu hd.fs hd.b)<|pp hd.room).mono λe W' a=>a.mG E.ok m
 have l:=zb f;obtain⟨r,p⟩:=nm<|(c.bytes d k).1;rw[p]at l ⊢;clear h o E ok hd f p;go_enter func148,ntmps148;go_wp2_with (go_at_call 149;refine(l.z _ rp).mono ?_;rintro e c ⟨rfl,a⟩;have c:=zb a;clear a);go_ret;exact⟨rfl,c.z⟩
def Kc(a:Nat)(w:rq):Nat:=match w a with|some (.slice _ n _)=>n|_=>0
def EC.mV{l:List Nat}(h:EC sb fn l g cap W):Kc sb W=l.length:=by
 unfold Kc;rw[h.c0]
def Ee.mV{l:List (DV×rt)}(h:Ee tag i db d bv fv l W):Kc db W=d.b.length:=by
 obtain⟨a,c,e,_⟩:=zk h.ob;have c0:W db=some bv:=za h.obj rfl;unfold Kc;rw[c0,e]
def iG(v:rt)(w:rq):(Instr.typeAssert (.iface 266 v) 20 266 false).run prog w=.ok v w:=kw
variable{w':rq}
def Q7{a:Nat}{x y:rt}{t:TypeId}(h:w.heap[a]?=some (.cells #[x,y] t (0,0)))(e:∃o,w'.heap[a]?=some o/\w.heap[a]?=some o):w' a=some x/\w' (a,1)=some y:=by
 obtain⟨o,c,d⟩:=e;rw[h]at d;cases d;exact⟨za c rfl,za c rfl⟩
def YA(b a c:Nat)(d:Nat->Nat)(q:Nat)(W:rq)(Q:Ending->rq->Prop):Prop :=
 match q with
 | 0=>rT 145 #[(b,0),(a,0)] W Q
 | 1=>rT 146 #[(b,0),(a,0)] W Q
 | k+2=>rT 148 #[(a,0),(c,0),.pointer (U (d k) 0)] W Q
theorem Wa{e:Nat->Nat}{l:List (DV×rt)}(h:zi tag i b c V W)(a:Ee tag i db d bv fv l W)(E:D0 i tag W)(ok:c.Ok)(hd:d.Ok)(f:q<10)
  (o:W cb=some (.pointer b)) (p:∀k,k<8->W ⟨e k,0,none⟩=some (.int .i64 k)) :
  YA b db cb e q W (Gl tag i b db W (c.put d q).2.1 (c.put d q).2.2 (c.put d q).1):=by
 have c:=hd.b;have c:=hd.fs;have c:l.length=d.fs.length:=by rw[<-a.lf,BD]
 match q,f with
 | 0,_=>exact jP h a E ok.qz I I
 | 1,_=>exact kO h a E ok.waits I I
 | k+2,hk=>exact fM h a E k (ok.qB I) hd o<|p k I
def UC(tag:rD)(i b d:Nat)(W:rq)(c':CS)(f:DX)(e:Ending)(W':rq):Prop :=
 e=.returned (.tuple #[])/\∃ky e a c h,zP tag i b d W c' f ky e a c h W'
def iF{l:List (DV×rt)}(s:zP tag i b db W c d tag V bv fv l W)(a:Nat->Nat){t:TypeId}:zP tag i b db W c d tag V bv fv l (((W.alloc (.cells #[(b,0)] t)).alloc (.cells #[.int .i64 0,.func (.func 145) #[.pointer b] #[],.int .i64 1,.func (.func 146) #[.pointer b] #[]] 266)).alloc (.cells #[.slice (W.heap.size+1,0) 2 2] 268)) /\
  Ey tag i b db W W.heap.size a 0 (List.range 2) (W.heap.size+1+1) (W.heap.size+1) 2 tag (((W.alloc<|.cells #[(b,0)] t).alloc<|.cells #[.int .i64 0,.func (.func 145) #[.pointer b] #[],.int .i64 1,.func (.func 146) #[.pointer b] #[]] 266).alloc<|.cells #[.slice (W.heap.size+1,0) 2 2] 268):=by
 obtain⟨a,f⟩:=nm<|Obj.cells #[(b,0)] t;obtain⟨c,d⟩:=nm<|Obj.cells #[.int .i64 0,.func (.func 145) #[.pointer b] #[],.int .i64 1,.func (.func 146) #[.pointer b] #[]] 266;obtain⟨e,h⟩:=nm<|Obj.cells #[.slice (U (W.heap.size+1) 0) 2 2] 268;rw[f,d,h];have q:(W.alloc a).heap.size=W.heap.size+1:=lm;have l:((W.alloc a).alloc c).heap.size=W.heap.size+1+1:=lm;have t:(((W.alloc a).alloc c).alloc e).heap[W.heap.size+1+1]?=some e:=by
  have:=heap_alloc_new ((W.alloc a).alloc c) e;rw[l]at this;exact this
 have l:(((W.alloc a).alloc c).alloc e).heap[W.heap.size+1]?=some c:=by
  have:=heap_alloc_new (W.alloc a) c;rw[q]at this;rw[Below.heap_alloc _ _ _ I];exact this
 have u:(((W.alloc a).alloc c).alloc e).heap[W.heap.size]?=some a:=by
  rw[Below.heap_alloc _ _ _ I,Below.heap_alloc _ _ _ I];exact heap_alloc_new W a
 have m:DO DQ W (((W.alloc a).alloc c).alloc e):=((rp.alloc _).alloc _).alloc _;rw[<-d]at l;refine⟨s.lK m,⟨⟨?_,⟨rfl,.inr ⟨_,_,_,rfl,AN _,by rw[<-d];exact l,AF _,lc,rfl,rfl⟩⟩,I,lc,Ri _ _ _⟩,?_,λk o=>absurd o<|A6 k,λq p=>?_,λq p=>?_⟩⟩
 .rw[t,<-h];rfl
 .exact za (u.trans<|A8 some f.symm) rfl
 .have:W.heap.size<=q:=by
   rcases p with rfl|rfl|rfl|⟨k,o,_⟩
   .omega
   .omega
   .omega
   omega
  exact⟨this,s.ok _ this⟩
 rcases p with rfl|⟨k,o,_⟩
 .omega
 omega
theorem Ey.count{c:Nat->Nat}{n:Nat}(h:Ey tag i b db W0 cb c n (List.range (n+2)) sb g cap ky W)(o:Dm ky W)(p:W0.heap.size<=W.heap.size)(m:DO DQ W W')(s:W' W=some (.int .i64 n)):Ey tag i b db W0 cb (ze c n W.heap.size) (n+1) (List.range (n+2)) sb g cap ky W':=by
 have f:=h.lK m;have e:∀k,k<n->ze c n W.heap.size k=c k:=λk d=>zd _ _ I
 have a:=zm h.heap.c0;have a:=zK h.heap.own g rfl;refine⟨f.heap.congr (λx l=>?_)<|Ri _ _ _,f.hc,λk d=>?_,λq a=>?_,λq a=>?_⟩
 .have l:=Bn.1 l
  match x,l with
  | 0,_=>rfl
  | 1,_=>rfl
  | k+2,d =>
   show Value.func _ #[] #[.pointer cb,.pointer (U (c k) 0)]=Value.func _ #[] #[.pointer cb,.pointer (U (ze c n W.heap.size k) 0)];rw[e k I]
 .by_cases a:k=n
  .rw[a,zf];exact s
  rw[e k I];exact f.hk k I
 .rcases a with a|a|a|⟨k,d,a⟩
  .exact h.fr q (.inl a)
  .exact h.fr q (.inr<|.inl a)
  .exact h.fr q (.inr<|.inr<|.inl a)
  by_cases c:k=n
  .rw[c,zf]at a;rw[a];exact⟨p,o _ ro⟩
  rw[e k I]at a;exact h.fr q<|.inr<|.inr<|.inr ⟨k,I,a⟩
 rcases a with a|⟨k,d,a⟩
 .exact h.ne q (.inl a)
 by_cases c:k=n
 .rw[c,zf]at a;omega
 rw[e k I]at a;exact h.ne q<|.inr ⟨k,I,a⟩
theorem X9{l:List (DV×rt)}(h:zi tag i b c V W)(hD:Ee tag i db d bv fv l W)(E:D0 i tag W)(ok:c.Ok)(hd:d.Ok):rT 85 #[(b,0),(db,0)] W (UC tag i b db W (c.fill d).1 (c.fill d).2):=by
 have S0:AA (zP tag i b db W c d tag V bv fv l W):=zb ⟨h,hD,Di.same E.ok<|DO.refl DQ _,DO.refl _ _,E.pos⟩;obtain⟨R,hR⟩:=nm<|c.fill d;rw[hR];have HR:=zb hR;have OK:=zb ok;have HD:=zb hd;have EE:=zb E;clear h hD E ok hd hR;go_enter func85,ntmps85;go_upto_region 2 with fail;have st:=iF (t:=69) S0.z id;obtain⟨t,h⟩:=nm<|(((W.alloc<|.cells #[(b,0)] 69).alloc<|.cells #[.int .i64 0,.func (.func 145) #[.pointer b] #[],.int .i64 1,.func (.func 146) #[.pointer b] #[]] 266).alloc<|.cells #[.slice (U (W.heap.size+1) 0) 2 2] 268);rw[h]at st ⊢;clear h;obtain⟨cb,h⟩:=nm W.heap.size;have t:=zb h;obtain⟨sb,t⟩:=nm<|W.heap.size+1+1;have F0:=zb st.2;have A:=zb st.1;rw[t]at F0 ⊢;obtain⟨g0,E⟩:=nm<|W.heap.size+1;rw[E]at F0 ⊢;rw[h]at F0 ⊢;clear h t E st;go_wp2_with fail
 go_loopw [15] (λh wr=>∃(k:Nat) (X:Nat->Nat) (g u:Nat),h=.int .i64 k/\k<=8/\AA (zP tag i b db W c d tag V bv fv l wr)/\AA (Ey tag i b db W cb X k (List.range<|k+2) sb g u tag wr)) (λh _=>8-(intOf h).toNat)
 case atStart=>exact⟨0,id,g0,2,rfl,I,A,F0⟩
 case round =>
  obtain⟨k,X,g,u,rfl,hk,HS,HF⟩:=hrel;by_cases am:k<8
  .have h:IntKind.i64.wrap (2+(k:Int))=((k+2:Nat):Int):=by rw[IntWalk.i64_in _ I];omega
   have h:IntKind.i64.wrap ((k:Int)+1)=((k+1:Nat):Int):=by rw[IntWalk.i64_in _ I];omega
   have d1:(k:Int)<8:=I;go_upto_region 5 with fail;obtain⟨E,h⟩:=nm<|wr.alloc<|.cells #[[k]] 3;have t:=AB h;have c4:E wr=some (.int .i64 k):=by rw[<-h];exact za (heap_alloc_new wr _) rfl
   have E:=HF.z.count HS.z.ok HS.z.m.size t c4;have Y:=iJ E.heap (k+2) (by rw[CK];omega) (by rw[CK];omega)<|λx hx=>Nat.le_of_lt<|Bn.1 hx;rw[show Kk b cb (ze X k wr.heap.size) (k+2)=.func (.func 148) #[] #[.pointer cb,.pointer (U (ze X k wr.heap.size k) 0)]from rfl,zf]at Y;have S4:=zb<|HS.z.lK t;have FC:=zb E;have KP:=zb Y;unfold hI at KP;rw[h];have HW:=t.size;have ap:=zb HW;clear E Y t h HW;go_wp2_with (go_at_call 147;refine KP.z.mono ?_;rintro e h ⟨rfl,g',ag,h5,hg,m5⟩;have t:=zb h5;have E:=zb hg;have h:=zb m5;clear h5 hg m5);go_roundw
   case rel =>
    have O:∀q,(q=sb\/q=g)->W.heap.size<=q/\tag q=(0,0):=λq O=>FC.z.fr q (by
     rcases O with O|O
     .exact .inl O
     exact .inr<|.inl O)
    refine⟨k+1,ze X k wr.heap.size,g',ag,rfl,I,zb<|S4.z.own h.z O,zb ?_⟩;have h5:=t.z;rw[<-List.range_succ]at h5;exact FC.z.o9 S4.z.ok S4.z.m.size h5 E.z h.z
   case measure =>
    simp[intOf];omega
  have d1:¬(k:Int)<8:=I;have h:k=8:=I;rw[h]at HF;have t:AA (zP tag i b db W c d tag V bv fv l wr/\Ey tag i b db W cb X 8 (Gx 0) sb g u tag wr):=zb ⟨HS.z,HF.z⟩;clear HS HF hk am A F0 S0 h;go_wp2_with fail;clear d1
  go_loopw [6] (λ_ wr=>∃(n:Nat) (c':CS) (Z:DX) (g u:Nat) (ky:rD) (V':CV) (ad ae:rt) (l':List (DV×rt)),n<=10/\AA (zP tag i b db W c' Z ky V' ad ae l' wr)/\AA (Ey tag i b db W cb X 8 (Gx<|10-n) sb g u ky wr)/\AA (c'.Ok/\Z.Ok/\CS.ld n c' Z=R)) (λ_ wr=>Kc sb wr)
  case atStart=>exact⟨10,c,d,g,u,tag,V,bv,fv,l,AF _,zb t.z.1,zb t.z.2,zb ⟨OK.z,HD.z,HR.z⟩⟩
  case round =>
   clear t;obtain⟨n,c',Z,g,u,ky,V',ad,ae,l',c,HS,HF,aa⟩:=hrel;have c:=Vp (10-n) I;rw[(I:10-(10-n)=n)]at c;have c0:=HF.z.heap.c0;rw[c]at c0;have h:=Qm (some ⟨g,0,none⟩) n u wr;have KL:=zb h;have af:=zb c;clear h c;cases n with
   | zero =>
    go_wp2_with (go_at_call 150;refine KL.z.mono ?_;rintro e w2 ⟨rfl,rfl⟩);refine bodyPost_end (results_none rfl _ _ _) rfl ⟨rfl,ky,V',ad,ae,l',?_⟩;have e:(c',Z)=R:=aa.z.2.2;rw[<-e];exact HS.z
   | succ n =>
    obtain⟨q,O⟩:∃q,q+n=9:=⟨9-n,I⟩;have l:10-(n+1)=q:=I;have t:10-n=q+1:=I;rw[l]at HF af;have h:=el HF.z.heap (by rw[af.z];omega)<|eh q I;have c:CS.ld n (CS.lu q (Z.room+1) c' Z).1 (CS.lu q (Z.room+1) c' Z).2=R:=by
     have:=aa.z.2.2;have E:9-n=q:=I;rw[<-this,CS.ld,E]
    obtain⟨f,fa,fx,hf⟩:=Ri b cb X q;rw[hf]at h;have ah:=zb c;have HP:=zb h;have an:=zb hf;have HQ:=zb O;have E2:=zb t;have E:AA (∃r,r=Z.room):=zb ⟨_,rfl⟩;unfold hI at HP;have d1:(0:Int)<(n:Int)+1:=I;clear h c hf l t O;go_upto_region 8 with(go_at_call 150;refine KL.z.mono ?_;rintro e w2 ⟨rfl,rfl⟩);go_upto_region 9 with(go_at_call 151;refine HP.z.mono ?_;rintro e w2 ⟨rfl,h2,m2⟩;have H2:=zb h2;have M2:=zb m2;have ao:=iG (.agg #[.int .i64 q,.func f fa fx]) w2;clear h2 m2);have l:∀q,(q=sb\/q=g)->W.heap.size<=q/\ky q=(0,0):=λq O=>HF.z.fr q (by
     rcases O with O|O
     .exact .inl O
     exact .inr<|.inl O)
    have E:=HS.z.own M2.z l;have f2:=HF.z.o9 HS.z.ok HS.z.m.size H2.z rj M2.z;obtain⟨O,c⟩:=nm<|w2.alloc<|.cells #[[q],.func f fa fx] 266;have m5:=AB c;have t:=AD c;have S5:=zb<|E.lK m5;have F5:=zb<|f2.lK m5;have h:W.heap.size<=w2.heap.size/\ky w2.heap.size=(0,0):=⟨E.m.size,E.ok _ ro⟩;have X5:AA (O.heap[w2.heap.size]?=some (.cells #[[q],.func f fa fx] 266 (0,0))/\W.heap.size<=w2.heap.size/\ky w2.heap.size=(0,0)):=⟨t,h.1,h.2⟩;rw[c];have HL:AA (Kc sb wr=n+1):=HF.z.heap.mV.trans af.z;have ab:AA ((Gx<|q+1).length=n):=by
     have:=Vp (q+1)<|pp HQ.z;have:=HQ.z;show _=n;omega
    clear l E f2 c m5 t h ao c0 d1
    go_loopw [6] (λh c=>∃(xb m:Nat) (c2:CS) (N:DX) (tag2:rD) (V2:CV) (ai aj:rt) (l2:List (DV×rt)),h=.pointer xb/\AA (zP tag i b db W c2 N tag2 V2 ai aj l2 c)/\AA (Ey tag i b db W cb X 8 (Gx<|q+1) sb g u tag2 c) /\
      AA (c.heap[xb]?=some (.cells #[[q],.func f fa fx] 266 (0,0))/\W.heap.size<=xb/\tag2 xb=(0,0))/\AA (c2.Ok/\N.Ok/\1<=m/\N.room=Z.room/\N.room<N.b.length+m/\CS.ld n (CS.lu q m c2 N).1 (CS.lu q m c2 N).2=R)) (λ_ c=>Z.room+1-Kc db c)
    case atStart=>exact⟨w2,Z.room+1,c',Z,ky,V',ad,ae,l',rfl,S5,F5,X5,zb ⟨aa.z.1,aa.z.2.1,I,rfl,I,ah.z⟩⟩
    case round =>
     clear X5 S5 F5 HS HF aa ah KL HP M2 H2;obtain⟨xb,m,c2,N,tag2,V2,ai,aj,l2,rfl,T,FF,XX,RR⟩:=hrel;have c:q<10:=pp HQ.z;have Y:=Wa T.z.c T.z.d (EE.z.left T.z.e T.z.m.oL) RR.z.1 RR.z.2.1 c FF.z.hc FF.z.hk;have l:=JZ (d:=N) RR.z.1 c;have t:=l.qu RR.z.2.1;have c:wr xb=some (.int .i64 q):=za XX.z.1 rfl;have c:wr (xb,1)=some (.func f fa fx):=za XX.z.1 rfl;obtain⟨m',d⟩:∃m',m=m'+1:=⟨m-1,pp RR.z.2.2.1⟩;have c:CS.lu q m c2 N=if (c2.put N q).1=true then CS.lu q m' (c2.put N q).2.1 (c2.put N q).2.2 else((c2.put N q).2.1,(c2.put N q).2.2):=by rw[d];rfl
     have hf:=an.z;obtain⟨r,hr⟩:=nm<|(c2.put N q).1;obtain⟨c3,h⟩:=nm<|(c2.put N q).2.1;obtain⟨d3,f⟩:=nm<|(c2.put N q).2.2;rw[hr,f]at t;rw[hr,h,f]at Y c l;have PK:=zb l;have PD:=zb t;have HM:=zb d;have K:=zb c;clear l t d c hr h f;obtain hq0|hq1|⟨k,hqk⟩:q=0\/q=1\/∃k,q=k+2:=by
      rcases q with _|_|k
      .exact .inl rfl
      .exact .inr rj
      exact .inr<|.inr ⟨k,rfl⟩
     .rw[hq0]at Y hf;have KP:AA (rT 145 #[(b,0),(db,0)] wr _):=Y;simp only[Kk,Value.func.injEq]at hf;obtain⟨rfl,rfl,rfl⟩:=hf;clear Y hq0;have KQ:AA (rT 145 #[(b,0),(db,0)] wr λe v=>e=.returned (.bool r)/\∃(a:rD) (B:CV) (p s:rt) (z:List (DV×rt)),AA (zP tag i b db W c3 d3 a B p s z v)/\AA (Ey tag i b db W cb X 8 (Gx<|q+1) sb g u a v) /\
        AA (∃o,v.heap[xb]?=some o/\wr.heap[xb]?=some o)):=zb (KP.z.mono (by
       intro e v ac;obtain⟨rfl,a,B,p,s,z,s3,e3,m3⟩:=T.z.then ac;exact⟨rfl,a,B,p,s,z,s3,FF.z.src T.z.p e3 m3,⟨_,m3.obj (λx=>by
        have h1:=XX.z.2.2;have h2:=T.z.p;have x:=x.1;rw[h1]at x;have x:(0:Nat)=i:=x;omega) XX.z.1,XX.z.1⟩⟩))
      clear KP;cases r with
      | true =>
       go_wp2_with (go_at_call 145;refine KQ.z.mono ?_;rintro e v ⟨rfl,a,B,p,s,z,A,F3,X3⟩;obtain⟨ak,al⟩:=Q7 XX.z.1 X3.z);go_roundw
       case rel =>
        have hh:=RR.z;have hd:=PD.z;have hm:=HM.z;have hl:=(hd.2.2.1 ol);refine⟨v.heap.size,m',c3,d3,a,B,p,s,z,rfl,zb<|A.z.lK<|rp.alloc _,zb<|F3.z.lK<|rp.alloc _,zb ⟨heap_alloc_new v _,A.z.m.size,A.z.ok _ ro⟩,zb ⟨PK.z.ok,hd.1,I,I,I,?_⟩⟩;have e:=K.z;rw[AM ol]at e;rw[<-e];exact hh.2.2.2.2.2
       case measure =>
        have l1:=T.z.d.mV;have l2:=λo=>(A.z.lK<|(DO.refl DQ v).alloc o).d.mV
        have hl:=(PD.z.2.2.1 ol);have hr:=RR.z.2.2.2.1;rw[l1,l2];omega
      | false =>
       go_wp2_with (go_at_call 145;refine KQ.z.mono ?_;rintro e v ⟨rfl,a,B,p,s,z,A,F3,X3⟩);go_roundw
       case rel =>
        refine⟨n,c3,d3,g,u,a,B,p,s,z,I,A,by rw[E2.z];exact F3,zb ⟨PK.z.ok,PD.z.1,?_⟩⟩;have e:=K.z;rw[AH lm]at e;have hh:=RR.z.2.2.2.2.2;rw[e]at hh;exact hh
       case measure =>
        have l1:=F3.z.heap.mV;have l2:=HL.z;have z:=ab.z;omega
     .rw[hq1]at Y hf;have KP:AA (rT 146 #[(b,0),(db,0)] wr _):=Y;simp only[Kk,Value.func.injEq]at hf;obtain⟨rfl,rfl,rfl⟩:=hf;clear Y hq1;have KQ:AA (rT 146 #[(b,0),(db,0)] wr λe v=>e=.returned (.bool r)/\∃(a:rD) (B:CV) (p s:rt) (z:List (DV×rt)),AA (zP tag i b db W c3 d3 a B p s z v)/\AA (Ey tag i b db W cb X 8 (Gx<|q+1) sb g u a v) /\
        AA (∃o,v.heap[xb]?=some o/\wr.heap[xb]?=some o)):=zb (KP.z.mono (by
       intro e v ac;obtain⟨rfl,a,B,p,s,z,s3,e3,m3⟩:=T.z.then ac;exact⟨rfl,a,B,p,s,z,s3,FF.z.src T.z.p e3 m3,⟨_,m3.obj (λx=>by
        have h1:=XX.z.2.2;have h2:=T.z.p;have x:=x.1;rw[h1]at x;have x:(0:Nat)=i:=x;omega) XX.z.1,XX.z.1⟩⟩))
      clear KP;cases r with
      | true =>
       go_wp2_with (go_at_call 146;refine KQ.z.mono ?_;rintro e v ⟨rfl,a,B,p,s,z,A,F3,X3⟩;obtain⟨ak,al⟩:=Q7 XX.z.1 X3.z);go_roundw
       case rel =>
        have hh:=RR.z;have hd:=PD.z;have hm:=HM.z;have hl:=(hd.2.2.1 ol);refine⟨v.heap.size,m',c3,d3,a,B,p,s,z,rfl,zb<|A.z.lK<|rp.alloc _,zb<|F3.z.lK<|rp.alloc _,zb ⟨heap_alloc_new v _,A.z.m.size,A.z.ok _ ro⟩,zb ⟨PK.z.ok,hd.1,I,I,I,?_⟩⟩;have e:=K.z;rw[AM ol]at e;rw[<-e];exact hh.2.2.2.2.2
       case measure =>
        have l1:=T.z.d.mV;have l2:=λo=>(A.z.lK<|(DO.refl DQ v).alloc o).d.mV
        have hl:=(PD.z.2.2.1 ol);have hr:=RR.z.2.2.2.1;rw[l1,l2];omega
      | false =>
       go_wp2_with (go_at_call 146;refine KQ.z.mono ?_;rintro e v ⟨rfl,a,B,p,s,z,A,F3,X3⟩);go_roundw
       case rel =>
        refine⟨n,c3,d3,g,u,a,B,p,s,z,I,A,by rw[E2.z];exact F3,zb ⟨PK.z.ok,PD.z.1,?_⟩⟩;have e:=K.z;rw[AH lm]at e;have hh:=RR.z.2.2.2.2.2;rw[e]at hh;exact hh
       case measure =>
        have l1:=F3.z.heap.mV;have l2:=HL.z;have z:=ab.z;omega
     rw[hqk]at Y hf;have KP:AA (rT 148 #[(db,0),(cb,0),(X k,0)] wr _):=Y;simp only[Kk,Value.func.injEq]at hf;obtain⟨rfl,rfl,rfl⟩:=hf;clear Y hqk;have KQ:AA (rT 148 #[(db,0),(cb,0),(X k,0)] wr λe v=>e=.returned (.bool r)/\∃(a:rD) (B:CV) (p s:rt) (z:List (DV×rt)),AA (zP tag i b db W c3 d3 a B p s z v)/\AA (Ey tag i b db W cb X 8 (Gx<|q+1) sb g u a v) /\
       AA (∃o,v.heap[xb]?=some o/\wr.heap[xb]?=some o)):=zb (KP.z.mono (by
      intro e v ac;obtain⟨rfl,a,B,p,s,z,s3,e3,m3⟩:=T.z.then ac;exact⟨rfl,a,B,p,s,z,s3,FF.z.src T.z.p e3 m3,⟨_,m3.obj (λx=>by
       have h1:=XX.z.2.2;have h2:=T.z.p;have x:=x.1;rw[h1]at x;have x:(0:Nat)=i:=x;omega) XX.z.1,XX.z.1⟩⟩))
     clear KP;cases r with
     | true =>
      go_wp2_with (go_at_call 148;refine KQ.z.mono ?_;rintro e v ⟨rfl,a,B,p,s,z,A,F3,X3⟩;obtain⟨ak,al⟩:=Q7 XX.z.1 X3.z);go_roundw
      case rel =>
       have hh:=RR.z;have hd:=PD.z;have hm:=HM.z;have hl:=(hd.2.2.1 ol);refine⟨v.heap.size,m',c3,d3,a,B,p,s,z,rfl,zb<|A.z.lK<|rp.alloc _,zb<|F3.z.lK<|rp.alloc _,zb ⟨heap_alloc_new v _,A.z.m.size,A.z.ok _ ro⟩,zb ⟨PK.z.ok,hd.1,I,I,I,?_⟩⟩;have e:=K.z;rw[AM ol]at e;rw[<-e];exact hh.2.2.2.2.2
      case measure =>
       have l1:=T.z.d.mV;have l2:=λo=>(A.z.lK<|(DO.refl DQ v).alloc o).d.mV
       have hl:=(PD.z.2.2.1 ol);have hr:=RR.z.2.2.2.1;rw[l1,l2];omega
     | false =>
      go_wp2_with (go_at_call 148;refine KQ.z.mono ?_;rintro e v ⟨rfl,a,B,p,s,z,A,F3,X3⟩);go_roundw
      case rel =>
       refine⟨n,c3,d3,g,u,a,B,p,s,z,I,A,by rw[E2.z];exact F3,zb ⟨PK.z.ok,PD.z.1,?_⟩⟩;have e:=K.z;rw[AH lm]at e;have hh:=RR.z.2.2.2.2.2;rw[e]at hh;exact hh
      case measure =>
       have l1:=F3.z.heap.mV;have l2:=HL.z;have z:=ab.z;omega
def jL:(prog.info? 60).map (λi=>(i.zero,i.size,i.bytes))=some (some (.slice none 0 0),1,24):=kw
def jK:(prog.info? 173).map (λi=>(i.zero,i.size,i.bytes))=some (some (.agg #[.int .u64 0,.int .u64 0,.slice none 0 0]),3,40):=kw
def X8(w:rq)(v:rt)(d:rF)(a:rE)(n c:Nat)(h:w.ownsRow 0 60 1 v d.length d)(e:d.length<=1099511627776):∃f w',(∀e,(Builtin.append_ #[130,130] e #[v,.slice w 1 1]).run prog (w.alloc (.cells #[.slice a n c] 60))=.ok f w') /\
   w'.ownsRow 0 60 1 f (d.length+1) (d++[.slice a n c])/\w.grownBy w' v.ownBlock/\D4 w v f:=by
 obtain⟨i,o,t,p,q⟩:=info_parts jL;have e:∀(j:Nat) u,([Value.slice a n c])[j]?=some u->(w.alloc<|.cells #[.slice a n c] 60) ((⟨w.heap.size,0,none⟩:Addr).add j)=some u:=by
  intro j u z;rw[zX];refine za (heap_alloc_new w _) ?_;rw[Aw,<-Array.getElem?_toList];exact z
 obtain⟨f,w',A,B,l,E,z⟩:=Kz (P:=prog) (w.alloc<|.cells #[.slice a n c] 60) 130 60 i _ 1 24 underlying130 o t p q rfl lc v d.length d (World.ownsRow.alloc h _)
  ⟨w.heap.size,0,none⟩ 1 1 [.slice a n c] rfl e (by intro u s;simp at s;rcases s with rfl;rfl) lw I
 refine⟨f,w',A,B,?_,?_⟩
 .exact⟨l.os,l.tape,l.output,AK lm l.size,λk a c=>(l.block k ls c).trans<|Below.heap_alloc w _ k a⟩
 intro k a;rcases E k a with x|x
 .exact .inl x
 exact .inr<|by simp at x;omega
def X7(w:rq)(v:rt)(d:List (DW×rt))(f:DW)(a:rE)(n c:Nat)(h:w.ownsRow 0 173 3 v d.length (zB d))(e:d.length<=1099511627776):∃l w',(∀e,(Builtin.append_ #[123,123] e #[v,.slice w 1 1]).run prog (w.alloc (.cells #[f.n,f.at_,.slice a n c] 173))=.ok l w') /\
   w'.ownsRow 0 173 3 l (d.length+1) (zB<|d++[(f,.slice a n c)])/\w.grownBy w' v.ownBlock/\D4 w v l:=by
 obtain⟨i,p,A,q,s⟩:=info_parts jK;have B:zB [(f,.slice a n c)]=[.int .u64 f.n,.int .u64 f.at_,.slice a n c]:=rfl;have e:∀(j:Nat) u,(zB [(f,.slice a n c)])[j]?=some u->(w.alloc<|.cells #[f.n,f.at_,.slice a n c] 173) ((⟨w.heap.size,0,none⟩:Addr).add j)=some u:=by
  intro j u E;rw[zX];refine za (heap_alloc_new w _) ?_;rw[Aw,<-Array.getElem?_toList];exact E
 obtain⟨l,w',K,t,o,N,E⟩:=Kz (P:=prog) (w.alloc<|.cells #[f.n,f.at_,.slice a n c] 173) 123 173 i _ 3 40 underlying123 p A q s rfl lc v d.length (zB d) (World.ownsRow.alloc h _)
  ⟨w.heap.size,0,none⟩ 1 1 (zB [(f,.slice a n c)]) rfl e (by rw[B];intro u z;simp at z;rcases z with rfl|rfl|rfl<;>rfl) lw I
 have e:zB d++zB [(f,.slice a n c)]=zB (d++[(f,.slice a n c)]):=by simp[zB]
 rw[e]at t;refine⟨l,w',K,t,?_,?_⟩
 .exact⟨o.os,o.tape,o.output,AK lm o.size,λk a c=>(o.block k ls c).trans<|Below.heap_alloc w _ k a⟩
 intro k a;rcases N k a with x|x
 .exact .inl x
 exact .inr<|by simp at x;omega
def zi.n6(h:zi tag i b c V W)(d:∀g r,r<90->tag g=(i,r)->ky g=(i,r)):zi ky i b c V W:=by
 have e:∀{g r:Nat},tag g=(i,r)->r<90->ky g=(i,r):=λa c=>d _ _ c a
 exact
  {obj:=h.obj
   tb:=e h.tb lc
   lQ:=h.lQ
   tg:=e h.tg lc
   oN:=λg a=>e (h.oN g a) lc
   wb:=h.wb
   ws:=h.ws
   wc:=h.wc
   rb:=h.rb
   rc:=h.rc
   oC:=λk c g a=>e (h.oC k c g a) I
   ng:=λk c g a=>e (h.ng k c g a) I
   oB:=λk c g a=>e (h.oB k c g a) I
   oM:=λk c g a=>e (h.oM k c g a) I
   oK:=λk c g a=>e (h.oK k c g a) I
   ft:=h.ft
   fl:=h.fl
   fs:=λp c=>(h.fs p c).mod (DO.refl DQ W) rm<|λg a=>e a lc
   nj:=λg a=>e (h.nj g a) lc
   wt:=h.wt
   ni:=λg a=>e (h.ni g a) lc
   sn:=h.sn
   oJ:=e h.oJ lc
   cm:=h.cm
   oE:=λg a=>e (h.oE g a) lc }
structure Gg(tag:rD)(W0 W:rq)(ov:rt)(vs:rF)(bs:List rC):Prop where
 own:W.ownsRow 0 60 1 ov vs.length vs
 ph:∀g,ov.ownBlock=some g->W0.heap.size<=g/\tag g=(0,0)
 len:vs.length=bs.length
 each:∀(k:Nat) (v:rt) (l:rC),vs[k]?=some v->bs[k]?=some l->OB W v l/\∀g,v.ownBlock=some g->W0.heap.size<=g/\tag g=(0,0)
 apart:∀(j k:Nat) (u v:rt),j<k->vs[j]?=some u->vs[k]?=some v->∀g,u.ownBlock=some g->v.ownBlock≠some g
def Gg.nil(tag:rD)(a W:rq):Gg tag a W ru [] [] :=
 ⟨World.ownsRow_nil _ 0 _ 1,(λg c=>by cases c),rfl,(λk v l a _=>by simp at a),(λj k u v _ a _=>by simp at a)⟩
variable{ov:rt}{vs:rF}
def Gg.mod{bs:List rC}(h:Gg tag W0 W ov vs bs)(m:DO S W W')(a:∀g,S g->tag g≠(0,0))(d:∀g,g<W.heap.size->tag g=(0,0)->ky g=(0,0)):Gg ky W0 W' ov vs bs:=by
 have q:∀g,tag g=(0,0)->¬S g:=λg c x=>a g x c
 refine⟨m.owns h.own<|λg c=>q g (h.ph g c).2,λg c=>⟨(h.ph g c).1,d g (zK h.own g c) (h.ph g c).2⟩,h.len,λk v l e f=>?_,h.apart⟩;obtain⟨a,b⟩:=h.each k v l e f;exact⟨m.owns a<|λg c=>q g (b g c).2,λg c=>⟨(b g c).1,d g (zK a g c) (b g c).2⟩⟩
variable{l:rC}
def Gg.push{a:rt}{bs:List rC}(h:Gg tag W0 W ov vs bs)(m:DO (λg=>ov.ownBlock=some g) W W')(z:W0.heap.size<=W.heap.size)(K:W'.ownsRow 0 60 1 a (vs.length+1) (vs++[v]))(N:D4 W ov a)(O:OB W v l)
  (hb:∀g,v.ownBlock=some g->W0.heap.size<=g/\ky g=(0,0)) (s:∀g,v.ownBlock=some g->ov.ownBlock≠some g) (t:∀(k:Nat) (u:rt),vs[k]?=some u->∀g,u.ownBlock=some g->v.ownBlock≠some g) (E:∀g,g<W.heap.size->tag g=(0,0)->ky g=(0,0)) (z:∀g,W.heap.size<=g->ky g=(0,0)) (A:∀(k:Nat) (u:rt),vs[k]?=some u->∀g,u.ownBlock=some g->ov.ownBlock≠some g):Gg ky W0 W' a (vs++[v]) (bs++[l]):=by
 refine⟨by rw[AG,Ac];exact K,λg f=>?_,by simp[h.len],λk u l d p=>?_,λj k u T B d c=>?_⟩
 .rcases N g f with x|x
  .exact⟨(h.ph g x).1,E g (zK h.own g x) (h.ph g x).2⟩
  exact⟨I,z g x⟩
 .by_cases q:k<vs.length
  .rw[Al q]at d;rw[Al (by rw[<-h.len];exact q)]at p;obtain⟨a,b⟩:=h.each k u l d p;exact⟨m.owns a<|λg f x=>A k u d g f x,λg f=>⟨(b g f).1,E g (zK a g f) (b g f).2⟩⟩
  have e:=(AO.1 d).1;rw[AG,Ac]at e;have o:k=vs.length:=I;subst o;rw[Aa ro]at d;rw[h.len,Aa ro]at p;simp at d p;subst d;subst p;exact⟨m.owns O<|λg f x=>s g f x,hb⟩
 have e:=(AO.1 c).1;rw[AG,Ac]at e;rw[Al I]at d;by_cases q:k<vs.length
 .rw[Al q]at c;exact h.apart j k u T B d c
 have o:k=vs.length:=I;subst o;rw[Aa ro]at c;simp at c;subst c;exact t j u d
def CS.lB(c:CS):DX:=⟨zI c.next,[],c.lZ,false,false⟩
def zp(d:DX)(l:zE):DX×zE:=if l=[]then(d,l)else GG d l
def CS.lL(c:CS)(d:DX):CS×DX:=if c.kx.length<12 then c.fill d else(c,d)
def CS.lV(c:CS)(d:DX):CS:={ c with kx:=if d.lh then c.kx++[⟨c.next,c.now,d.fs⟩]else c.kx,next:=c.next+1 }
def E9(l:rC):rC:=l++EP (Dy l)
def CS.mH:Nat->CS->zE->List rC×CS
 | 0,c,_=>([],c)
 | n+1,c,l =>
  if (c.lL (zp c.lB l).1).2.fs=[]then([],(c.lL (zp c.lB l).1).1)
  else(E9 (c.lL (zp c.lB l).1).2.b::(CS.mH n ((c.lL (zp c.lB l).1).1.lV (c.lL (zp c.lB l).1).2) (zp c.lB l).2).1,
   (CS.mH n ((c.lL (zp c.lB l).1).1.lV (c.lL (zp c.lB l).1).2) (zp c.lB l).2).2)
def CS.lE(c:CS):List rC×CS:=CS.mH (12-c.kx.length+c.lW.1.length+1) c.lW.2 c.lW.1
theorem Oi(f:q<10):∀n (c:CS) (d:DX),c.Ok->d.Ok->(CS.lu q n c d).1.Ok/\(CS.lu q n c d).2.Ok/\(CS.lu q n c d).2.room=d.room/\((CS.lu q n c d).2.lh=true\/(CS.lu q n c d).2.fs=d.fs)/\(d.lh=true->(CS.lu q n c d).2.lh=true)/\(d.fs≠[]->(CS.lu q n c d).2.fs≠[]) /\
  ((CS.lu q n c d).1.next=c.next/\(CS.lu q n c d).1.now=c.now/\(CS.lu q n c d).1.closed=c.closed/\(CS.lu q n c d).1.kx=c.kx/\(CS.lu q n c d).1.lZ=c.lZ/\(CS.lu q n c d).1.answer=c.answer/\(CS.lu q n c d).1.lQ=c.lQ):=by
 intro n
 induction n with
 | zero=>intro c d e hd;exact⟨e,hd,rfl,.inr rfl,id,id,⟨rfl,rfl,rfl,rfl,rfl,rfl,rfl⟩⟩
 | succ n ih =>
  intro c d e hd;have a:=JZ (d:=d) e f;have h:=a.qu hd;unfold CS.lu;split
  .rename_i e;obtain⟨f,_,l,o⟩:=a.yes e;obtain⟨_,p,f,_,s,_⟩:=DX.mK o;have f:(c.put d q).2.2.lh=true:=by
    rw[s];simp[l]
   obtain⟨o,s,t,z,l,u,v⟩:=ih _ _ a.ok h.1;obtain⟨z,A,B,E,K,N,O⟩:=a.next;obtain⟨T,X,Y,Z,y5,y6,y7⟩:=v;exact⟨o,s,t.trans h.2.1,.inl<|l f,λ_=>l f,λ_=>u<|by rw[p];simp,T.trans z,X.trans A,Y.trans B,Z.trans E,y5.trans K,y6.trans N,y7.trans O⟩
  rename_i e;have f:(c.put d q).1=false:=rB e;obtain⟨e,l⟩:=a.no f;have e:(c.put d q).2.2.fs=d.fs/\(c.put d q).2.2.lh=d.lh:=by
   rcases l with e|e
   .rw[e];exact rZ
   rw[e];exact rZ
  exact⟨a.ok,h.1,h.2.1,.inr e.1,λh=>by rw[e.2];exact h,λh=>by rw[e.1];exact h,a.next⟩
theorem Qj:∀n (c:CS) (d:DX),n<=10->c.Ok->d.Ok->(CS.ld n c d).1.Ok/\(CS.ld n c d).2.Ok/\(CS.ld n c d).2.room=d.room/\((CS.ld n c d).2.lh=true\/(CS.ld n c d).2.fs=d.fs)/\(d.lh=true->(CS.ld n c d).2.lh=true)/\(d.fs≠[]->(CS.ld n c d).2.fs≠[]) /\
  ((CS.ld n c d).1.next=c.next/\(CS.ld n c d).1.now=c.now/\(CS.ld n c d).1.closed=c.closed/\(CS.ld n c d).1.kx=c.kx/\(CS.ld n c d).1.lZ=c.lZ/\(CS.ld n c d).1.answer=c.answer/\(CS.ld n c d).1.lQ=c.lQ):=by
 intro n
 induction n with
 | zero=>intro c d _ e hd;exact⟨e,hd,rfl,.inr rfl,id,id,⟨rfl,rfl,rfl,rfl,rfl,rfl,rfl⟩⟩
 | succ n ih =>
  intro c d a e hd;obtain⟨f,h,l,a,o,p,s,t,u,v,z,A,B⟩:=Oi (q:=9-n) I (d.room+1) c d e hd;obtain⟨e,q,E,c,d,K,N,O,T,X,Y,Z,y7⟩:=ih _ _ I f h;unfold CS.ld;refine⟨e,q,E.trans l,?_,λh=>d<|o h,λh=>K<|p h,N.trans s,O.trans t,T.trans u,X.trans v,Y.trans z,Z.trans A,y7.trans B⟩;rcases a with a|a
  .exact .inl (d a)
  rcases c with c|c
  .exact .inl c
  exact .inr<|c.trans a
structure Fp(tag:rD)(i b:Nat)(W0:rq)(c:CS)(told:zE)(outs:List rC)(ky:rD)(V:CV)(vs:rF)(ov tv:rt)(W:rq):Prop where
 c:zi ky i b c V W
 e:Di i tag ky W0 W
 m:DO (Dr i tag) W0 W
 o:Gg ky W0 W ov vs outs
 t:FU ky (i,5) W tv told
 p:0<i
structure FD(tag:rD)(i b db:Nat)(W0:rq)(c:CS)(d:DX)(told:zE)(outs:List rC)(ky:rD)(V:CV)(bv fv:rt)(l:List (DV×rt))(vs:rF)(ov tv:rt)(W:rq):Prop where
 s:zP tag i b db W0 c d ky V bv fv l W
 o:Gg ky W0 W ov vs outs
 t:FU ky (i,5) W tv told
def zP.comp{a tag2:rD}{s p:CV}{l o e f:rt}{t q:List (DV×rt)}(h:zP tag i b db W c d a s l o t W1)(c:zP a i b db W1 c' d' tag2 p e f q W2):zP tag i b db W c' d' tag2 p e f q W2:=⟨c.c,c.d,h.e.trans c.e h.m.size,Er h.e h.m c.m,h.p⟩
def Gg.qM{bs:List rC}(h:Gg tag W0 W ov vs bs)(hi:0<i)(e:Di i tag ky W W')(m:DO (Dr i tag) W W'):Gg ky W0 W' ov vs bs :=
 h.mod m.oL (λg a x=>by rw[x]at a;have a:(0:Nat)=i:=a;omega) (λg a x=>by rw[e.mL g a,x])
variable{outs:List rC}{told:zE}{tv:rt}
def FD.lK{l:List (DV×rt)}(h:FD tag i b db W0 c d told outs ky V bv fv l vs ov tv W)(m:DO DQ W W'):FD tag i b db W0 c d told outs ky V bv fv l vs ov tv W' :=
 ⟨h.s.lK m,h.o.mod m rm<|λ_ _ x=>x,h.t.mod m rm<|λ_ x=>x⟩
def FD.tell{a:zE}{l:List (DV×rt)}{e:Ending}(h:FD tag i b db W0 c d told outs ky V bv fv l vs ov tv W)(t:Ow ky i b db W c d' a e W'):∃v tag2 p f o q,e=.returned v/\FD tag i b db W0 c d' a outs tag2 p f o q vs ov v W':=by
 obtain⟨v,tag2,p,f,o,q,rfl,u,s⟩:=t;exact⟨v,tag2,p,f,o,q,rfl,h.s.comp s,h.o.qM h.s.p s.e s.m,u⟩
def FD.fill{l:List (DV×rt)}{e:Ending}(h:FD tag i b db W0 c d told outs ky V bv fv l vs ov tv W)(s:UC ky i b db W c' d' e W'):e=.returned (.tuple #[])/\∃tag2 p a f q,FD tag i b db W0 c' d' told outs tag2 p a f q vs ov tv W':=by
 obtain⟨rfl,tag2,p,a,f,q,o⟩:=s;exact⟨rfl,tag2,p,a,f,q,h.s.comp o,h.o.qM h.s.p o.e o.m,h.t.mod o.m (λg a x=>a.2<|by rw[x])<|λg a=>by rw[o.e.mL g (EZ h.s.ok a h.s.p),a]⟩
def Fp.qV(h:Fp tag i b W0 c told outs ky V vs ov tv W)(m1:DO DQ W W1)(q:Ds W1 ru [] (zI c.next) bv W2):∃a,FD tag i b W2.heap.size W0 c c.lB told outs a V bv ru [] vs ov tv (W2.alloc (.cells #[bv,.slice none 0 0,[c.lZ],false,false] 180)):=by
 have t:=h.e.z;have v:=h.p;have e:=m1.trans ((DO.refl DQ W1).grown q.grown (λg d=>by simp[Value.ownBlock]at d));obtain⟨o,z⟩:=nm<|Obj.cells #[bv,.slice none 0 0,[c.lZ],false,false] 180;rw[z];have s:DO DQ W (W2.alloc o):=e.alloc _;have c:=m1.size;have c:=e.size;have u:(W2.alloc o).heap.size=W2.heap.size+1:=lm;have l:∀g,bv.ownBlock=some g->W.heap.size<=g/\g<W2.heap.size:=λg d=>by
  refine⟨?_,zK q.own g d⟩;rcases q.at_ g d with x|x
  .simp[Value.ownBlock]at x
  omega
 obtain⟨a,c⟩:∃a:Nat->Nat×Nat,(λg=>if g=W2.heap.size then(i,90)else if bv.ownBlock=some g then(i,91)else ky g)=a:=⟨_,rfl⟩;have e:∀g,g<W.heap.size->a g=ky g:=λg d=>by
  rw[<-c];simp only;rw[AH I,AH (λx=>pp<|(l g x).1)]
 have f:∀g,(ky g).1=i->a g=ky g:=λg d=>e g<|EZ t (i:=i) (r:=(ky g).2) (by rw[<-d]) v
 have p:Di i ky a W (W2.alloc o):=by
  refine⟨e,λg d=>?_,λg d=>?_⟩
  .rw[<-c];simp only;split
   .exact .inl rfl
   split
   .exact .inl rfl
   exact .inr<|t g d
  rw[u]at d;rw[<-c];simp only;rw[AH I,AH (λx=>pp<|(l g x).2)];exact t g I
 refine⟨a,⟨h.c.mod s rm f,⟨?_,?_,World.ownsRow.alloc q.own _,λg d=>?_,World.ownsRow_nil _ 0 _ 10,rfl,λx a=>absurd a CZ,λg d=>by simp[Value.ownBlock]at d⟩,h.e.trans p h.m.size,h.m.trans<|s.mono rm,v⟩,h.o.mod s rm<|λg d x=>by rw[e g d,x],h.t.mod s rm<|λg d=>by rw[f g (by rw[d]),d]⟩
 .rw[heap_alloc_new W2 o,<-z];rfl
 .rw[<-c];simp
 rw[<-c];simp only;rw[AH (pp<|(l g d).2),AM d]
def LU{c:List (DV×rt)}(h:w.ownsRow 0 65 10 v c.length (FE c))(l:∀x∈c,RR w x.2 x.1.lF):IF w v c:=by
 obtain⟨a,d,rfl,o,p,q⟩:=zk h;refine⟨a,d,rfl,o,p,λi f e=>⟨?_,l f<|AW e⟩⟩;have a:=(AO.1 e).1;obtain⟨g,rfl⟩:=q I;refine⟨g,0,rfl,λj x a=>?_⟩;have:=h.cells (g:=g) rfl _ _ (Ur c i f e j x a);rw[zX]at this;rw[Aw]at this
 rwa [Aw]
def Ux{e f o p q s:Nat}{h l:rt}{t u:rF}(v:w.ownsRow 0 e o h q t)(z:w.ownsRow 0 f p l s u)(A:e≠f)(c:h.ownBlock=some g):l.ownBlock≠some g:=λa=>by
 rcases v.2 with⟨rfl,_⟩|⟨e,c1,f,rfl,_,B,_⟩
 .simp[Value.ownBlock]at c
 rcases z.2 with⟨rfl,_⟩|⟨e,c2,f,rfl,_,d,_⟩
 .simp[Value.ownBlock]at a
 simp[Value.ownBlock]at c a;subst c;subst a;rw[B]at d;simp at d;exact A d.2
structure OY(tag:rD)(i b db:Nat)(W0:rq)(c:CS)(d:DX)(told:zE)(outs:List rC)(ky:rD)(V:CV)(bv fv:rt)(vs:rF)(ov tv:rt)(W:rq):Prop where
 h:Fp tag i b W0 c told outs ky V vs ov tv W
 obj:W.heap[db]?=some (.cells #[bv,fv,[d.room],d.lh,d.full] 180 (0,0))
 fr:Gu ky (i,5) W fv d.fs
 fv:∃a cap,fv=.slice a d.fs.length cap
 db:ky db=(i,90)
def FD.nW{l:List (DV×rt)}{a:rt}{o:rq}(h:FD tag i b db W0 c d told outs ky V bv fv l vs ov tv W)(p:∀g r,90<=r->tag g≠(i,r))
  (ha:Ds W bv d.b new v' W1) (ho:o.ownsRow 0 60 1 a (vs.length+1) (vs++[v'])) (e:W1.grownBy o ov.ownBlock) (hn:D4 W1 ov a) :
  ∃f,OY tag i b db W0 c d told (outs++[d.b++new]) f V bv fv (vs++[v']) a tv o:=by
 have E:=h.s.ok;have hp:=h.s.p;have c:=h.s.d;have K:=(DO.refl (λg=>bv.ownBlock=some g) W).grown ha.grown<|λg e=>.inl e;have N:=(DO.refl (λg=>ov.ownBlock=some g) W1).grown e<|λg e=>.inl e;have A:DO (λg=>bv.ownBlock=some g\/ov.ownBlock=some g) W o:=(K.mono<|λg x=>.inl<|.inl x).trans<|N.mono<|λg x=>.inl<|.inr x;have a:=h.s.m.size;have a:=K.size;have a:=N.size;have z:∀r,((0:Nat),(0:Nat))≠(i,r):=λr x=>by simp at x;omega
 obtain⟨f,a⟩:∃f:Nat->Nat×Nat,(λg=>if ky g=(i,91)then(0,0)else if ky g=(i,92)then(i,5)else ky g)=f:=⟨_,rfl⟩;have k1:∀g,ky g=(i,91)->f g=(0,0):=λg e=>by rw[<-a];simp only;rw[AM e]
 have k2:∀g,ky g=(i,92)->f g=(i,5):=λg e=>by rw[<-a];simp only;rw[AH (by rw[e];simp),AM e]
 have O:∀g,ky g≠(i,91)->ky g≠(i,92)->f g=ky g:=λg v T=>by rw[<-a];simp only;rw[AH v,AH T]
 have X:∀g r,r≠91->r≠92->ky g=(i,r)->f g=(i,r):=λg r v T e=>by rw[O g (by rw[e];simpa using v) (by rw[e];simpa using T),e]
 have Y:∀g,ky g=(0,0)->f g=(0,0):=λg e=>by rw[O g (by rw[e];exact z _) (by rw[e];exact z _),e]
 have o:∀g r,90<=r->ky g=(i,r)->W0.heap.size<=g:=λg r Z e=>by
  by_cases q:g<W0.heap.size
  .rw[h.s.e.mL g q]at e;exact absurd e<|p g r Z
  omega
 have B:∀g,v'.ownBlock=some g->(bv.ownBlock=some g/\ky g=(i,91))\/W.heap.size<=g:=λg e=>by
  rcases ha.at_ g e with x|x
  .exact .inl ⟨x,c.nP g x⟩
  exact .inr x
 have p:∀g,ov.ownBlock=some g->g<W.heap.size/\ky g=(0,0):=λg e=>⟨zK h.o.own g e,(h.o.ph g e).2⟩
 have s:∀(k:Nat) (u:rt),vs[k]?=some u->(∃lb,OB W u lb)/\∀g,u.ownBlock=some g->g<W.heap.size/\ky g=(0,0):=λk u t=>by
  have q:k<outs.length:=by rw[<-h.o.len];exact(AO.1 t).1
  obtain⟨a,b⟩:=h.o.each k u outs[k] t<|AJ q;exact⟨⟨_,a⟩,λg e=>⟨zK a g e,(b g e).2⟩⟩
 have q:∀g,ky g=(0,0)->g<W.heap.size->v'.ownBlock≠some g:=λg v T x=>by
  rcases B g x with y|y
  .rw[y.2]at v;exact z _ v.symm
  omega
 have v:=h.s.c.oR E hp (K.mono<|λg e=>.inl ⟨91,lc,c.nP g e⟩)<|λ_ _=>rfl;have T:=v.mod N (λg e=>by rw[(p g e).2];simp;omega)<|λ_ _=>rfl;have v:∀{g r:Nat},ky g=(i,r)->r≠91->¬(bv.ownBlock=some g\/ov.ownBlock=some g):=λe Z x=>by
  rcases x with x|x
  .have:=c.nP _ x;rw[e]at this;simp at this;exact Z this
  have:=(p _ x).2;rw[e]at this;exact z _ this.symm
 refine⟨f,⟨⟨T.n6<|λg r Z e=>X g r I I e,⟨λg e=>?_,λg e=>?_,λg e=>Y g<|E g I⟩,h.s.m.then A<|λg e=>.inr ?_,?_,?_,hp⟩,A.obj (v c.tb lc) c.obj,?_,?_,X _ 90 lc lc c.tb⟩⟩
 .rw[O g (λx=>pp<|o g 91 (by decide) x) (λx=>pp<|o g 92 (by decide) x),h.s.e.mL g e]
 .by_cases f:ky g=(i,91)
  .exact .inr (k1 g f)
  by_cases T:ky g=(i,92)
  .exact .inl (by rw[k2 g T])
  rw[O g f T];exact h.s.e.new g e
 .rcases e with x|x
  .exact o g 91 lc (c.nP g x)
  exact(h.o.ph g x).1
 .have f:=h.o.mod K (λg e x=>by rw[c.nP g e]at x;exact z _ x.symm)<|λ_ _ x=>x;refine f.push N I ho hn ha.own (λg e=>?_) (λg e x=>?_) (λk u t g e=>q g ((s k u t).2 g e).2 ((s k u t).2 g e).1) (λg _ e=>Y g e) (λg e=>Y g<|E g I) (λk u t g e=>?_)
  .rcases B g e with y|y
   .exact⟨o g 91 lc y.2,k1 g y.2⟩
   exact⟨I,Y g<|E g y⟩
  .exact q g (p g x).2 (p g x).1 e
  obtain⟨⟨lb,hb⟩,_⟩:=s k u t;exact Ux hb h.o.own lc e
 .exact h.t.mod A (λg e x=>v x lc e) (λg e=>X g 5 lc lc e)
 .refine⟨l,c.lf,LU (A.owns c.own<|λg e=>v (c.na g e) lc)<|λx f=>(c.rr x f).1.mod A<|Gr λg e=>v ((c.rr x f).2 g e) lc,λg e=>k2 g<|c.na g<|QP c.own e,λx f g e=>X g 5 lc lc<|(c.rr x f).2 g e⟩
 obtain⟨a,f,e,_⟩:=zk c.own;have h:l.length=d.fs.length:=by rw[<-c.lf,BD]
 exact⟨a,f,by rw[e,h]⟩
def OY.mC(h:OY tag i b db W0 c d told outs ky V bv fv vs ov tv W)(m0:DO DQ W W1)
  (O:W2.ownsRow 0 173 3 v' (c.kx.length+1) (zB<|c.kx.zip V.mr++[(⟨c.next,c.now,d.fs⟩,fv)])) (a:W1.grownBy W2 V.ft.ownBlock) (T:D4 W1 V.ft v') :
  ∃s,Fp tag i b W0 { c with kx:=c.kx++[⟨c.next,c.now,d.fs⟩] } told outs s { V with ft:=v',mr:=V.mr++[fv] } vs ov tv (W2.setCell (b,236) v'):=by
 have o:=h.h;have t:=o.e.z;have X:=o.p;have f:=o.c;have s:=(DO.refl (λg=>V.ft.ownBlock=some g) W1).grown a<|λg a=>.inl a;have u:DO (λg=>g=b\/V.ft.ownBlock=some g) W (W2.setCell (U b 236) v'):=((m0.mono rm).trans<|s.mono<|λg x=>.inl<|.inr x).setCell (p:=U b 236) (.inl rj) _;have z:=m0.size;have z:=s.size;have E:(W2.setCell (b,236) v').heap.size=W2.heap.size:=lm;have v:∀g,(g=b\/V.ft.ownBlock=some g)->∃r,(r=1\/r=4)/\ky g=(i,r):=λg a=>by
  rcases a with a|a
  .exact⟨1,.inl rfl,by rw[a,f.tb]⟩
  exact⟨4,.inr rfl,f.nj g a⟩
 have l:∀{g r:Nat},ky g=(i,r)->g<W.heap.size:=λa=>EZ t a X
 have A:∀g,(ky g).1=i->zQ ky W W2 (i,4) g=ky g:=λg a=>zD<|l (r:=(ky g).2)<|by rw[<-a]
 have K:=s.obj (λx=>by
  have:=f.nj b x;rw[f.tb]at this;simp at this) (m0.obj rk f.obj)
 have N:∀g,v'.ownBlock=some g->g≠b:=λg a x=>by
  subst x;rcases T g a with y|y
  .have:=f.nj g y;rw[f.tb]at this;simp at this
  have:=l f.tb;omega
 have z:∀g,ky g=(0,0)->¬(g=b\/V.ft.ownBlock=some g):=λg a x=>by
  obtain⟨r,_,e⟩:=v g x;rw[a]at e;simp at e;omega
 have B:Di i ky (zQ ky W W2 (i,4)) W (W2.setCell (b,236) v'):=by
  refine⟨λg a=>zD a,λg a=>?_,λg a=>?_⟩
  .by_cases q:g<W2.heap.size
   .exact .inl (by rw[GM a q])
   exact .inr<|by simp only[zQ,(I:¬g<W.heap.size),q,AH,Av]
  rw[E]at a;simp only[zQ,(I:¬g<W.heap.size),(I:¬g<W2.heap.size),AH,Av]
 have s:(c.kx++[(⟨c.next,c.now,d.fs⟩:DW)]).zip (V.mr++[fv])=c.kx.zip V.mr++[(⟨c.next,c.now,d.fs⟩,fv)]:=by
  rw[List.zip_append f.fl.symm];rfl
 refine⟨_,?_,o.e.trans B o.m.size,Er o.e o.m<|u.mono<|λg a=>.inl ?_,o.o.mod u (λg a x=>z g x a)<|λg a x=>by rw[zD a,x],o.t.mod u (λg a x=>?_)<|λg a=>by rw[zD (l a),a],X⟩
 .refine f.build (R:=λr=>r=1\/r=4) u v A ?_ rY (λk t=>.inl rW) (λk t=>.inl rW) (λk t=>.inl rW) (λk t=>.inl rW) (λk t=>.inl rW) (.inr ⟨?_,?_,?_,?_⟩) rV rV rV
  .rw[zc K,Ao];rw[show(236:Nat)=233+3 from rfl,GA c { c with kx:=c.kx++[⟨c.next,c.now,d.fs⟩] } V { V with ft:=v',mr:=V.mr++[fv] } _ rfl rfl rfl rfl]
  .rw[s];have:=((DO.refl (λg=>g=b) W2).setCell (p:=U b 236) rj v').owns O<|λg a x=>N g a x;rw[AG,Ac];exact this
  .rw[AG,AG,f.fl];rfl
  .intro p o;have o:p∈(c.kx++[(⟨c.next,c.now,d.fs⟩:DW)]).zip (V.mr++[fv]):=o;rw[s]at o;have Y:∀g,(g=b\/V.ft.ownBlock=some g)->ky g≠(i,5):=λg a x=>by
    obtain⟨r,Z,e⟩:=v g a;rw[x]at e;simp at e;omega
   rcases Ak.1 o with q|q
   .exact(f.fs p q).mod u Y (λg a=>by rw[zD (l a),a])
   simp at q;subst q;exact h.fr.mod u Y<|λg a=>by rw[zD (l a),a]
  intro g a;rcases T g a with y|y
  .rw[zD (l<|f.nj g y),f.nj g y]
  exact GM I<|zK O g a
 .obtain⟨r,Z,e⟩:=v g a;exact EU e I
 obtain⟨r,Z,e⟩:=v g a;rw[x]at e;simp at e;omega
def Fp.next(h:Fp tag i b W0 c told outs ky V vs ov tv W):Fp tag i b W0 { c with next:=c.next+1 } told outs ky V vs ov tv (W.setCell (b,6) (.int .u64 ((c.next+1:Nat):Int))):=by
 have m:DO (λg=>g=b) W (W.setCell (U b 6)<|.int .u64 ((c.next+1:Nat):Int)):=(DO.refl (λg=>g=b) W).setCell (p:=U b 6) rj _;have a:=h.c.tb;have d:=h.p;exact⟨h.c.store 6 _ (Ku c { c with next:=c.next+1 } V V (j:=6) _ lc rfl rfl rfl rfl) ⟨rfl,λ_ _=>⟨rfl,rfl,rfl⟩,λ_ _=>⟨rfl,rfl⟩,rfl,rfl,rfl,rfl⟩,⟨h.e.mL,h.e.new,h.e.z.mod m⟩,
  Er h.e h.m (m.mono<|λq c=>.inl<|EU (r:=1) (by rw[show q=b from c];exact a) lc),h.o.mod m (λg c x=>by rw[show g=b from c,a]at x;simp at x)<|λ_ _ x=>x,h.t.mod m (λg c x=>by rw[show g=b from c,a]at x;simp at x)<|λ_ x=>x,d⟩
def IE(l:zE):Prop:=∀i,i<l.length->IU l i=true
def IE.tell{l:zE}(h:IE l):Se l:=by
 intro n a e;have a:(l.take n).length=n:=by rw[AU];omega
 have c:E4 (l.take n)=true:=by
  unfold E4 IT;rw[a];simp only[AZ,Cp,Bn,Ah];refine⟨λi a=>?_,I⟩;have:=h i I;unfold IU at this ⊢;rw[(NG l n i a).1,(NG l n i a).2];by_cases d:i=0
  .subst d;simpa using this
  rw[(NG l n (i-1) I).1];exact this
 have:Dx (lY<|l.take n)=(Ec (lY<|l.take n)&&Eg (lY<|l.take n)&&E4 (l.take n)):=rfl;rw[this,c];rfl
def IE.drop{l:zE}(h:IE l)(n:Nat):IE (l.drop n):=by
 intro i c;rw[Ag]at c;have:=h (n+i) I;unfold IU at this ⊢;rw[(IH l n i).1,(IH l n i).2];by_cases a:i=0
 .subst a;simp only[AZ]at this;have c:=of_decide_eq_true this.1.1;have d:=of_decide_eq_true this.1.2;rw[B5]at c d;simp[c,d]
 rw[(IH l n<|i-1).1,(I:n+(i-1)=n+i-1)];have c:¬n+i=0:=I;simpa [c,a]using this
def Df.Ok.desc(h:s.Ok):IE s.rs.reverse:=by
 have d:∀i,i<s.rs.length->DU s.rs.reverse i=DU s.rs (s.rs.length-1-i)/\DP s.rs.reverse i=DP s.rs (s.rs.length-1-i):=λi a=>by
  simp[DU,DP,Am,List.getElem?_reverse a]
 intro i a;rw[List.length_reverse]at a;have e:=h.wf.1 (s.rs.length-1-i) I;have c:=h.hi (s.rs.length-1-i) I;unfold IU;rw[(d i a).1,(d i a).2];unfold zF at c;by_cases a:i=0
 .simp[a]at e c ⊢;exact⟨e.1,c⟩
 rw[(d (i-1) I).1];have a:=h.wf.2 (s.rs.length-1-i) (s.rs.length-1-(i-1)) I I;simp only[AZ,Bb,Ah];exact⟨⟨e.1,c⟩,.inr ⟨I,I⟩⟩
def Fo(c:CS)(l:zE):Nat:=(12-c.kx.length)+l.length
structure Gv(c:CS)(l:zE):Prop where
 ok:c.Ok
 lZ:64<=c.lZ
 desc:IE l
 len:l.length<=1048576
 fl:c.kx.length<=12
 next:c.next+Fo c l<zF
def JB(h:c.Ok):c.lB.Ok:=by
 have:=zy c.next;exact⟨by show(zI c.next).length<=_;omega,AN _,h.lZ⟩
theorem NB(hd:d.Ok)(l:zE):(zp d l).1.Ok/\(zp d l).1.room=d.room/\(l=[]->(zp d l)=(d,l))/\(l≠[]->(zp d l).2.length<l.length)/\(IE l->IE (zp d l).2)/\(zp d l).2.length<=l.length/\(zp d l).1.lh=d.lh:=by
 unfold zp;by_cases a:l=[]
 .rw[AM a];exact⟨hd,rfl,λ_=>rfl,λh=>absurd a h,id,AF _,rfl⟩
 rw[AH a];have c:1<=l.length:=BM.2 a;have o:=NO d l l.length c;have e:(GG d l).2.length<l.length:=by
  show(l.drop _).length<_;rw[Ag];omega
 have f:(GG d l).1.Ok/\(GG d l).1.room=d.room/\(GG d l).1.lh=d.lh:=by
  show((d.add _).getD d).Ok/\((d.add _).getD d).room=d.room/\((d.add _).getD d).lh=d.lh;cases h:d.add (lY<|l.take<|EY d l l.length)with
  | none=>exact⟨hd,rfl,rfl⟩
  | some d' =>
   obtain⟨c,o,p,_,q,s⟩:=DX.mK h;have hb:=PM<|lY<|l.take<|EY d l l.length;have s:=hd.room;have s:=hd.fs;have s:d'.b.length=d.b.length+(zC<|lY<|l.take<|EY d l l.length).length:=by rw[c,AG]
   exact⟨⟨by show d'.b.length<=_;omega,by show d'.fs.length<=d'.b.length;rw[o,AG,Ac];omega,by show d'.room<=_;omega⟩,p,q.trans<|by simp[lY]⟩
 exact⟨f.1,f.2.1,λh=>absurd h a,λ_=>e,λh=>h.drop _,Nat.le_of_lt e,f.2.2⟩
def Gv.round{l:zE}(h:Gv c l):(zp c.lB l).1.Ok/\(c.lL (zp c.lB l).1).1.Ok/\(c.lL (zp c.lB l).1).2.Ok/\(c.lL (zp c.lB l).1).1.next=c.next/\(c.lL (zp c.lB l).1).1.now=c.now/\(c.lL (zp c.lB l).1).1.kx=c.kx /\
  ((c.lL (zp c.lB l).1).2.fs≠[]->Gv ((c.lL (zp c.lB l).1).1.lV (c.lL (zp c.lB l).1).2) (zp c.lB l).2/\Fo ((c.lL (zp c.lB l).1).1.lV (c.lL (zp c.lB l).1).2) (zp c.lB l).2<Fo c l):=by
 obtain⟨o,d,q,s,t,e,u⟩:=NB (JB h.ok) l;have v:(c.lL (zp c.lB l).1).1.Ok/\(c.lL (zp c.lB l).1).2.Ok/\((c.lL (zp c.lB l).1).1.next=c.next/\(c.lL (zp c.lB l).1).1.now=c.now/\(c.lL (zp c.lB l).1).1.kx=c.kx/\(c.lL (zp c.lB l).1).1.lZ=c.lZ) /\
   (l=[]->(c.lL (zp c.lB l).1).2.fs≠[]->c.kx.length<12/\(c.lL (zp c.lB l).1).2.lh=true)/\((c.lL (zp c.lB l).1).2.lh=true->c.kx.length<12):=by
  unfold CS.lL;split
  .rename_i d;obtain⟨p,z,N,e,O,T,A,B,X,E,K,Y,Z⟩:=Qj 10 c (zp c.lB l).1 ro h.ok o;refine⟨p,z,⟨A,B,E,K⟩,λp a=>⟨d,?_⟩,λ_=>d⟩;rcases e with e|e
   .exact e
   exact absurd (e.trans<|by rw[q p];rfl) a
  exact⟨h.ok,o,⟨rfl,rfl,rfl,rfl⟩,λp a=>absurd (by rw[q p];rfl) a,λf=>by rw[show(c,(zp c.lB l).1).2=(zp c.lB l).1 from rfl,u]at f;cases f⟩
 obtain⟨d,p,⟨q,u,e,B⟩,z,A⟩:=v;refine⟨o,d,p,q,u,e,λa=>?_⟩;have o:Fo ((c.lL (zp c.lB l).1).1.lV (c.lL (zp c.lB l).1).2) (zp c.lB l).2<Fo c l:=by
  unfold Fo CS.lV;simp only;by_cases p:l=[]
  .obtain⟨q,l⟩:=z p a;rw[AM l,e,AG,Ac];omega
  have:=s p;split
  .rw[e,AG,Ac];omega
  rw[e];omega
 have a:=h.next;have a:=h.fl;have l:=h.lZ;refine⟨⟨⟨d.lZ,d.mj,d.nA,d.kz,d.lA,d.ws,d.rs,d.waits⟩,by show 64<=(c.lL _).1.lZ;omega,t h.desc,pp h.len,?_,?_⟩,o⟩
 .unfold CS.lV;simp only;split
  .rename_i f;rw[e,AG,Ac];have:=A f;omega
  rw[e];exact a
 show(c.lL _).1.next+1+_<zF;omega
def WS.nM(x:WS)(n:Nat):WS :=
 {x with final:=if x.cut then x.final else max x.high n,lG:=if !x.cut||decide (n<x.lG)then n else x.lG,lN:=if !x.cut||decide (n<x.lG)then false else x.lN,cut:=true }
def CS.reset(c:CS)(k lG:Int):Nat×CS :=
 if c.stream k≠0 then(c.stream k,c)else(0,{ c with ws:=ze c.ws k.toNat ((c k.toNat).nM<|min lG.toNat (c k.toNat).b.length) })
def Gs(id a:Nat)(s:rC):DV:=⟨7,0,0,0,0,false,id,a,s,[]⟩
def CS.lH(c:CS)(id a:Nat)(s:rC):Nat×CS :=
 if c.closed≠0 then(12,c)else
 if zF<id\/zF<a\/(c.mI=true/\id<=c.l8)then(5,c)else
 if c.lZ<s.length+40 then(6,c)else
 if c.waits.length=16 then(3,c)else
 (0,{ c with mI:=true,l8:=id,waits:=if c.now<=a then c.waits++[Gs id a s]else c.waits })
def Hi:zE->Nat->Nat->Df->Df
 | [],_,_,t=>t
 | r::l,lo,hi,t =>
  Hi l lo hi (if hi<=r.2 then(if r.1<lo then t.add r.1 (min r.2<|lo-1)else t).add (max r.1 hi) r.2 else(if r.1<lo then t.add r.1 (min r.2<|lo-1)else t))
def Df.mN(s:Df)(lo hi:Nat):Df:=Hi s.rs lo hi ⟨[],0,s.most⟩
def Df.me(t:Df)(l:zE):Df:=l.foldl (λt r=>t.add r.1 r.2) t
def WS.again(x:WS)(f:DV):WS :=
 {x with lJ:=(x.lJ.mN f.off<|f.off+f.data.length).me x.lC.rs.reverse,ending:=x.ending && !f.fin }
def CS.again(c:CS)(f:DV):CS :=
 if f.kind=4 then{ c with ws:=ze c.ws f.stream.toNat ((c f.stream.toNat).again f) }
 else if f.kind=3 then{ c with ws:=ze c.ws f.stream.toNat { c.ws f.stream.toNat with lN:=(c f.stream.toNat).lN && !(f.rel==(c f.stream.toNat).lG) } }
 else if f.kind=5 then{ c with lU:=c.lU||f.mF==c.kz }
 else if f.kind=6 then{ c with rs:=ze c.rs f.stream.toNat { c.rs f.stream.toNat with lU:=(c.rs f.stream.toNat).lU||f.mF==(c.rs f.stream.toNat).kz } }
 else c
def CS.ly(c:CS)(a:List DV):CS:=a.foldl CS.again c
def CS.late(c:CS)(p:DW):Bool:=decide (p.at_+6<=c.now)||decide (p.n+3<=c.lI)
def CS.nF(c:CS):CS:={ (c.kx.foldl (λc p=>if c.late p then c.ly p.fs else c) c)with kx:=c.kx.filter (λp => !c.late p) }
def CS.tick(c:CS):CS:=({ c with now:=c.now+1,waits:=c.waits.filter (λf => !decide (f.dl<c.now+1)) }:CS).nF
def WS.ln(x:WS)(f:DV):WS :=
 {x with lC:=x.lC.add f.off<|f.off+f.data.length-1,lJ:=x.lJ.add f.off (f.off+f.data.length-1) }
def CS.lY(c:CS)(f:DV):CS:=if f.kind=4/\f.data≠[]then{ c with ws:=ze c.ws f.stream.toNat ((c f.stream.toNat).ln f) }else c
def Dw(l:zE)(p:DW):Bool:=l.any λr=>decide (r.1<=p.n)&&decide (p.n<=r.2)
def CS.nE(c:CS)(l:zE)(p:DW):CS:=if Dw l p then p.fs.foldl CS.lY c else c
def CS.ln(c:CS)(l:zE):Nat×CS :=
 if c.next<=DP l 0 then(11,c)
 else(0,({ (c.kx.foldl (λc p=>c.nE l p) { c with lI:=max c.lI (DP l 0) })with kx:=c.kx.filter (λp => !Dw l p) }:CS).nF)
def RS.lq(x:RS)(f:DV):RS:={ x with lG:=if !x.cut||decide (f.rel<x.lG)then f.rel else x.lG,cut:=true,ended:=true,fin:=f.off }
def CS.lq(c:CS)(f:DV):Nat×CS :=
 if ((c.rs f.stream.toNat).ended&&(c.rs f.stream.toNat).fin != f.off)||decide (f.off<(c.rs f.stream.toNat).high)then(10,c)
 else(0,{ c with rs:=ze c.rs f.stream.toNat ((c.rs f.stream.toNat).lq f) })
def IW(b:rC)(i:Nat)(s:rC):rC:=b.take i++(s++b.drop (i+s.length))
def En(a:Nat)(data:rC)(e:Nat):Nat->Nat->rC->Df->rC×Df
 | 0,_,b,s=>(b,s)
 | n+1,lo,b,s =>
  if lo<e then
   if e<=(Dd s.rs lo e).1 then(b,s)
   else En a data e n (Dd s.rs lo e).2 (IW b (Dd s.rs lo e).1<|(data.drop<|(Dd s.rs lo e).1-a).take<|(Dd s.rs lo e).2-(Dd s.rs lo e).1) (s.add (Dd s.rs lo e).1<|(Dd s.rs lo e).2-1)
  else(b,s)
def JW(b:rC)(n:Nat):rC:=b++List.replicate (n-b.length) 0
def DV.end_(f:DV):Nat:=f.off+f.data.length
def RS.nT(x:RS)(f:DV):rC×Df:=En f.off f.data f.end_ (f.data.length+1) f.off (JW x.b (max x.high f.end_)) x.lC
def RS.data(x:RS)(f:DV):RS :=
 {x with high:=max x.high f.end_,ended:=x.ended||f.fin,fin:=if f.fin then f.end_ else x.fin,b:=(x.nT f).1,lC:=(x.nT f).2 }
def Fq(rs:Nat->RS):Nat->Nat
 | 0=>0
 | k+1=>Fq rs k+(rs k).high
def RS.nG(x:RS)(f:DV):Bool:=(x.ended&&(decide (x.fin<f.end_)||(f.fin&&f.end_ != x.fin)))||(f.fin&&decide (f.end_<x.high))
def CS.data(c:CS)(f:DV):Nat×CS :=
 if (c.rs f.stream.toNat).nG f then(10,c)else
 if (c.rs f.stream.toNat).high<f.end_/\((c.rs f.stream.toNat).kz<f.end_\/c.kz<f.end_-(c.rs f.stream.toNat).high+Fq c.rs 8)then(9,c)else
 (0,{ c with rs:=ze c.rs f.stream.toNat ((c.rs f.stream.toNat).data f) })
def D9(m id:Nat):Bool:=decide (32<=m)&&decide (id<=m-32)
def CS.message(c:CS)(f:DV):CS :=
 if (c.seen.any λp=>p.1==f.id)||decide (f.dl<c.now)||(decide (0<c.seen.length)&&D9 c.most f.id)then c else
 {c with most:=max c.most f.id,seen:=(c.seen++[(f.id,f.dl)]).filter<|λp => !D9 (max c.most f.id) p.1,lC:=c.lC++[(f.id,f.data)] }
def CS.take(c:CS)(f:DV):Nat×CS :=
 if f.kind=2 then c.ln f.lF
 else if f.kind=3 then c.lq f
 else if f.kind=4 then c.data f
 else if f.kind=5 then(0,{ c with lA:=max c.lA f.mF })
 else if f.kind=6 then(0,{ c with ws:=ze c.ws f.stream.toNat { c.ws f.stream.toNat with lA:=max (c f.stream.toNat).lA f.mF } })
 else if f.kind=7 then(0,c.message f)
 else if f.kind=8 then(13,c)
 else(0,c)
def CS.lk:List DV->CS->Nat×CS
 | [],c=>(0,c)
 | f::fs,c =>
  if (c.take f).1≠0 then((c.take f).1,{ (c.take f).2 with closed:=(c.take f).1,said:=(c.take f).1==13 })
  else CS.lk fs { (c.take f).2 with answer:=(c.take f).2.answer||f.kind != 2 }
def CS.lM(c:CS)(bs:rC):(Nat×Int)×CS :=
 if c.closed≠0 then((12,-1),c)else
 match dec bs with
 | .sum=>((7,-1),c)
 | .bad p=>((8,(p:Int)),{ c with closed:=8 })
 | .ok n fs=>if Hg c.lQ.rs c.lQ.fl n then((0,-1),c)else
  (((CS.lk fs { c with lQ:=c.lQ.add n n }).1,-1),(CS.lk fs { c with lQ:=c.lQ.add n n }).2)
def CS.lO(c:CS):List (Nat×rC)×CS:=(c.lC,{ c with lC:=[] })
def RS.lp(x:RS)(a:Nat):Nat :=
 if x.cut then max x.read (min (min (Dd x.lC.rs x.read x.high).1<|x.read+a) x.lG)else min (Dd x.lC.rs x.read x.high).1 (x.read+a)
def RS.l7(x:RS)(e:Nat):Nat:=if x.cut&&decide (x.lG<=e)then 2 else if !x.cut&&x.ended&&e==x.fin then 1 else 0
def CS.read(c:CS)(k a:Int):(rC×Nat×Nat)×CS :=
 if c.stream k≠0 then(([],0,c.stream k),c)else
 if (c.rs k.toNat).state≠0 then(([],(c.rs k.toNat).state,0),c)else
 ((((c.rs k.toNat).b.drop (c.rs k.toNat).read).take<|(c.rs k.toNat).lp a.toNat-(c.rs k.toNat).read,(c.rs k.toNat).l7<|(c.rs k.toNat).lp a.toNat,0),
  {c with rs:=ze c.rs k.toNat { c.rs k.toNat with read:=(c.rs k.toNat).lp a.toNat,state:=(c.rs k.toNat).l7 ((c.rs k.toNat).lp a.toNat) } })
def kj(a:Nat):DV:=⟨8,0,0,0,a,false,0,0,[],[]⟩
def CS.pF(c:CS):List rC×CS :=
 if c.said then([],c)else
 ([E9 ((c.lB.add<|kj<|if c.closed=12 then 0 else c.closed).getD c.lB).b],{ c with said:=true,next:=c.next+1 })
def CS.z(c:CS):List rC×CS:=if c.closed≠0 then c.pF else c.lE
structure EN where
 wrote:rC
 fin:Bool
 cut:Bool
 lG:Nat
 read:Nat
 state:Nat
structure SN where
 id:Nat
 dl:Nat
 data:rC
 lC:Bool
structure NS where
 lZ:Nat
 lD:Nat
 total:Nat
 now:Nat
 c:Nat->CS
 e:Nat->Nat->EN
 g:Nat->List SN
 next:Nat->Nat
 count:Nat->Nat
 lP:List (Nat×rC)
instance:CoeFun NS (λ_=>Nat->CS):=⟨NS.c⟩
structure Dh where
 kind:Int
 side:Int
 a:Int
 b:Int
 s:rC
def EN.zero:EN:=⟨[],false,false,0,0,0⟩
end
section
open Go.RowKit Go.Proofs.Tryz
def NS.new(lZ lD total:Nat):NS :=
 {lZ:=lZ,lD:=lD,total:=total,now:=0,c:=λ_=>CS.new lZ lD total,e:=λ_ _=>EN.zero,g:=λ_=>[],next:=λ_=>0,count:=λ_=>0,lP:=[] }
def NS.build(d a c:Int):NS:=NS.new (64+DR d 337) (16+DR a 300) (16+DR c 600)
def NS.lS(n:NS)(i:Nat)(c:CS):NS:={ n with c:=ze n.c i c }
def NS.nC(n:NS)(i k:Nat)(e:EN):NS:={ n with e:=ze n.e i (ze (n.e i) k e) }
def NS.send(n:NS)(i k:Nat)(s:rC):Bool×NS :=
 if (n.e i k).fin||(n.e i k).cut then(((n i).send k s).1==4,n.lS i ((n i).send k s).2)
 else if 2048<(n.e i k).wrote.length+s.length then(((n i).send k s).1==3,n.lS i ((n i).send k s).2)
 else(((n i).send k s).1==0,(n.lS i ((n i).send k s).2).nC i k { n.e i k with wrote:=(n.e i k).wrote++s })
def NS.finish(n:NS)(i k:Nat):Bool×NS :=
 if (n.e i k).fin||(n.e i k).cut then(((n i).finish k).1==4,n.lS i ((n i).finish k).2)
 else(((n i).finish k).1==0,(n.lS i ((n i).finish k).2).nC i k { n.e i k with fin:=true })
def NS.nk(n:NS)(i k lG:Nat):Bool×NS :=
 (((n i).reset k lG).1==0,(n.lS i ((n i).reset k lG).2).nC i k { n.e i k with lG:=if !(n.e i k).cut||decide (lG<(n.e i k).lG)then lG else(n.e i k).lG,cut:=true })
def NS.reset(n:NS)(i k:Nat)(b:Int):Bool×NS:=n.nk i k (DR b ((n.e i k).wrote.length+1))
def NS.lH(n:NS)(i:Nat)(s:Dh):Bool×NS :=
 if n.lZ<s.s.length+40 then(((n i).lH (n.next i) n.now s.s).1==6,n.lS i ((n i).lH (n.next i) n.now s.s).2)
 else if ((n i).lH (n.next i) (n.now+DR s.a 9) s.s).1=3 then(decide<|16<=(n.g i).length,n.lS i ((n i).lH (n.next i) (n.now+DR s.a 9) s.s).2)
 else if ((n i).lH (n.next i) (n.now+DR s.a 9) s.s).1≠0 then(false,n.lS i ((n i).lH (n.next i) (n.now+DR s.a 9) s.s).2)
 else(true,{ n.lS i ((n i).lH (n.next i) (n.now+DR s.a 9) s.s).2 with g:=ze n.g i<|n.g i++[⟨n.next i,n.now+DR s.a 9,s.s,false⟩],next:=ze n.next i (n.next i+1+DR s.b 3) })
def NS.tick(n:NS):NS:={ n with now:=n.now+1,c:=ze (ze n.c 0 (n.c 0).tick) 1 (n.c 1).tick }
def FM(now:Nat)(f:DV):Bool:=f.kind==7&&decide (f.dl<now)
def NS.mM(i:Nat):List rC->NS->Bool×NS
 | [],n=>(true,n)
 | b::l,n =>
  match dec b with
  | .ok num fs =>
   if n.lZ<b.length\/num≠n.count i\/fs=[]then(false,n)
   else if fs.any (FM n.now)then(false,{ n with count:=ze n.count i (n.count i+1) })
   else NS.mM i l { n with count:=ze n.count i<|n.count i+1,lP:=n.lP++[(1-i,b)] }
  | _=>(false,n)
def NS.flush(n:NS)(i:Nat):Bool×NS:=NS.mM i (n i).lE.1 (n.lS i (n i).lE.2)
def EL(now id:Nat)(data:rC):List SN->Bool->Bool×List SN
 | [],r=>(r,[])
 | g::l,r =>
  if g.id=id then((EL now id data l<|g.data==data && !g.lC&&decide (now<=g.dl)).1,{ g with lC:=true }::(EL now id data l<|g.data==data && !g.lC&&decide (now<=g.dl)).2)
  else((EL now id data l r).1,g::(EL now id data l r).2)
def FK(now:Nat):List (Nat×rC)->List SN->Bool×List SN
 | [],G=>(true,G)
 | m::l,G=>if (EL now m.1 m.2 G false).1 then FK now l (EL now m.1 m.2 G false).2 else(false,(EL now m.1 m.2 G false).2)
def NS.lC(n:NS)(i:Nat):Bool×NS :=
 ((FK n.now (n i).lO.1<|n.g<|1-i).1,{ n.lS i (n i).lO.2 with g:=ze n.g (1-i) (FK n.now (n i).lO.1<|n.g<|1-i).2 })
def NS.drop(n:NS)(k:Nat):NS:={ n with lP:=n.lP.take k++n.lP.drop (k+1) }
def NS.recv(n:NS)(i:Nat)(b:rC):Nat×Bool×NS :=
 (((n i).lM b).1.1,(n.lS i ((n i).lM b).2).lC i)
def Hy(b:rC)(k:Nat)(x:UInt8):rC:=b.take k++([b.getD k 0 ^^^ x]++b.drop (k+1))
def IS(s:rC):UInt8:=if s.getD 0 0≠0 then s.getD 0 0 else 1
def NS.nR(n:NS)(s:Dh)(k:Nat)(f:Nat×rC):Bool×NS :=
 if s.kind=7 then(((if DR s.b 2=0 then n.drop k else n).recv f.1 f.2).1==0&&((if DR s.b 2=0 then n.drop k else n).recv f.1 f.2).2.1,((if DR s.b 2=0 then n.drop k else n).recv f.1 f.2).2.2)
 else if s.kind=8 then(true,n.drop k)
 else if s.kind=9 then((n.recv f.1<|Hy f.2 (DR s.b f.2.length)<|IS s.s).1==7&&(n.recv f.1<|Hy f.2 (DR s.b f.2.length)<|IS s.s).2.1,(n.recv f.1<|Hy f.2 (DR s.b f.2.length)<|IS s.s).2.2)
 else(true,n)
def NS.carry(n:NS)(s:Dh):Bool×NS :=
 if n.lP=[]then(true,n)else n.nR s (DR s.a n.lP.length) (n.lP.getD (DR s.a n.lP.length) (0,[]))
def EN.mP(o:EN)(a:Nat)(r:rC×Nat×Nat):Bool :=
 r.2.2 != 0||decide (a<r.1.length)||decide (o.wrote.length<o.read+r.1.length)||(o.wrote.drop o.read).take r.1.length != r.1||(o.state != 0&&(r.1 != []||r.2.1 != o.state))
def EN.more(o:EN)(r:rC×Nat×Nat):EN:={ o with read:=o.read+r.1.length,state:=r.2.1 }
def EN.fits(o:EN):Bool :=
 if o.state=0 then true else if o.state=1 then o.fin&&o.read==o.wrote.length else if o.state=2 then o.cut&&decide (o.lG<=o.read)else false
def NS.read(n:NS)(i k a:Nat):Bool×NS :=
 if (n.e (1-i) k).mP a ((n i).read k a).1 then(false,n.lS i ((n i).read k a).2)
 else(((n.e (1-i) k).more ((n i).read k a).1).fits,(n.lS i ((n i).read k a).2).nC (1-i) k<|(n.e (1-i) k).more ((n i).read k a).1)
def NS.step(n:NS)(s:Dh):Bool×NS :=
 if s.kind=1 then n.send (DR s.side 2) (DR s.a 8) s.s
 else if s.kind=2 then n.finish (DR s.side 2) (DR s.a 8)
 else if s.kind=3 then n.reset (DR s.side 2) (DR s.a 8) s.b
 else if s.kind=4 then n.lH (DR s.side 2) s
 else if s.kind=5 then n.tick.carry s
 else if s.kind=6 then n.flush (DR s.side 2)
 else if s.kind=10 then n.read (DR s.side 2) (DR s.b 8) (DR s.a 200)
 else n.carry s
def NS.mW:List (Nat×rC)->NS->Bool->Bool×NS
 | [],n,ok=>(ok,n)
 | f::l,n,ok=>NS.mW l (n.recv f.1 f.2).2.2<|ok&&(n.recv f.1 f.2).2.1&&(n.recv f.1 f.2).1==0
def NS.reads:List (Nat×Nat)->NS->Bool->Bool×NS
 | [],n,ok=>(ok,n)
 | p::l,n,ok=>NS.reads l (n.read p.1 p.2 4096).2<|ok&&(n.read p.1 p.2 4096).1
def Gk:List (Nat×Nat):=(List.range 16).map λj=>(j / 8,j % 8)
def NS.lR(n:NS)(ok:Bool):Bool×NS:=NS.reads Gk (NS.mW n.lP { n with lP:=[] } ok).2 (NS.mW n.lP { n with lP:=[] } ok).1
def NS.oe(n:NS)(ok:Bool):Bool×NS:=(n.flush 1).2.lR (ok&&(n.flush 1).1)
def NS.oh(n:NS)(ok:Bool):Bool×NS:=(n.flush 0).2.oe (ok&&(n.flush 0).1)
def Kb:Dh:=⟨5,0,0,0,[]⟩
def NS.mR(n:NS):Bool×NS:=(n.step Kb).2.oh (n.step Kb).1
def NS.nB:Nat->NS->Bool×NS
 | 0,n=>(true,n)
 | t+1,n=>if n.mR.1 then NS.nB t n.mR.2 else(false,n.mR.2)
def NS.fair(n:NS)(t:Nat):Bool×NS:=NS.nB t { n with lP:=[] }
def I0 : Dh := ⟨1, 0, 3, 0, "some bytes of a stream".toUTF8.data.toList⟩
def JP:Dh:=⟨2,0,3,0,[]⟩
def Mr:NS:=((NS.build 0 100 100).step I0).2
def Kh:NS:=(Mr.step JP).2
def Sd:Bool :=
 ((NS.build 0 100 100).step I0).1&&(Mr.step JP).1&&(Kh.fair 4).1&&((Kh.fair 4).2.e 0 3).read==22&&((Kh.fair 4).2.e 0 3).state==1
def NS.mv(mN:List Int):List Dh->NS->Option NS
 | [],n=>some n
 | s::l,n=>if mN.contains s.kind then NS.mv mN l n else if (n.step s).1 then NS.mv mN l (n.step s).2 else none
def Ic(w:rq)(b:Nat)(v:rt)(s:Df):Prop:=w.heap[b]?=some (.cells #[v,s.fl,[s.most]] 116 (0,0))/\w.ownsRow 0 214 2 v s.rs.length (zr s.rs)
variable{b:Nat}{s:Df}{v:rt}{w:rq}
def Ic.set(h:Ic w b v s)(a:s.rs.length<=1099511627776):Eh w b 0 v s.rs s.fl s.most :=
 ⟨za h.1 rfl,za h.1 rfl,za h.1 rfl,h.2,a,λj=>zg h.1⟩
variable{S:Nat->Prop}{w':rq}
def Ic.mod(h:Ic w b v s)(m:DO S w w')(a:¬S b)(c:∀g,v.ownBlock=some g->¬S g):Ic w' b v s:=⟨m.obj a h.1,m.owns h.2 c⟩
def Yr(s:Df)(b lo hi:Nat)(v:rt)(w:rq)(h:Ic w b v s)(ok:s.Ok)(d:lo<=zF)(f:hi<=zF):rT 88 #[(b,0),lo,hi] w λe w'=>e=.returned (.tuple #[])/\∃a,Ic w' b a (s.add lo hi)/\DO (λk=>k=b\/v.ownBlock=some k) w w'/\D4 w v a:=by
 have p:=ok.most;have c:=ok.rl;have l:v.ownBlock≠some b:=λe=>by
  rcases h.2.2 with⟨rfl,_⟩|⟨g,c,q,rfl,_,o,_⟩
  .simp[Value.ownBlock]at e
  simp[Value.ownBlock]at e;subst e;rw[h.1]at o;simp at o
 have c:=ok.fl;unfold zF at d f c;refine(Ks s b 0 lo hi v w (h.set I) ok.wf I I I l p.1 I).mono ?_;rintro e w' ⟨a,rfl,t,u,z,A⟩;refine⟨rfl,a,⟨?_,t⟩,z,A⟩;rw[u,zc (zc h.1)];simp only[Ao,List.set_cons_zero,CQ];have:(s.add lo hi).most=s.most:=by
  unfold Df.add;split
  .rfl
  split<;>rfl
 rw[this]
def Sc(w:rq)(t:Df)(e:Ending)(w':rq):Prop :=
 ∃v,e=.returned (.agg #[v,.int .u64 t.fl,.int .i64 t.most])/\w'.ownsRow 0 214 2 v t.rs.length (zr t.rs)/\(∀g,v.ownBlock=some g->w.heap.size<=g)/\DO DQ w w'
theorem Rq:∀(l:zE) (c d:Nat) (t:Df),(∀r∈l,r.2<=zF)->t.Ok->(Hi l c d t).Ok
 | [],_,_,_,_,h=>h
 | r::l,c,d,t,hl,h=>by
  have a:=hl r AQ;have e:min r.2 (c-1)<=zF:=AK (Bu _ _) a;unfold Hi;refine Rq l c d _ (λr a=>hl r<|AV _ a) ?_;split
  .split
   .exact(h.add _ e).add _ a
   exact h.add _ a
  split
  .exact h.add _ e
  exact h
def In(a:Nat)(h:1<=a/\a<=1099511627776):(⟨[],0,a⟩:Df).Ok :=
 ⟨⟨λi a=>absurd a<|A6 i,λi j _ a=>absurd a<|A6 j⟩,λj a=>absurd a<|A6 j,AN _,h,AN _⟩
def jH(a:Array rt)(w:rq)(c:Nat)(x y z:rt)(e:a.getD 6 undef=.pointer c)(c0:w c=some x)(c1:w (c,1)=some y)(c2:w (c,2)=some z):(results f140 a).run prog w=.ok (.agg #[x,y,z]) w:=by
 have d:a[6]?.getD undef=.pointer c:=by rw[<-e];simp
 simp[results,results140,go_sem,d,c0,c1,c2]
def IP(w:rq)(a e d p q:Nat)(t:Df)(c:rq):Prop :=
 ∃v,Ic c e v t/\t.Ok/\DO DQ w c/\(∀g,v.ownBlock=some g->a+2<=g/\g≠d)/\c.heap[a]?=some (.cells #[ru,.int .u64 0,.int .i64 0] 116 (0,0))/\c.heap[d]?=some (.cells #[p,q] 214 (0,0))/\w.heap.size=a/\e=a+1/\a+2<=d
variable{hi lo p q rb:Nat}
def IP.calls{c s:Nat}{t:Df}{f:rq}(h:IP w rb c s p q t f)(l:lo<=zF)(a:hi<=zF):rT 88 #[(c,0),lo,hi] f λe w'=>e=.returned (.tuple #[])/\IP w rb c s p q (t.add lo hi) w':=by
 obtain⟨v,p,u,A,d,B,z,E,K,N⟩:=h;refine(Yr t c lo hi v f p u l a).mono ?_;rintro e w' ⟨rfl,O,T,o,X⟩;have c:=(AI.1 z).1;refine⟨rfl,O,T,u.add lo a,A.then o<|λg a=>.inr ?_,λg a=>?_,o.obj (λx=>?_) B,o.obj (λx=>?_) z,E,K,N⟩
 .rcases a with a|a
  .omega
  have:=d g a;omega
 .rcases X g a with y|y
  .exact d g y
  omega
 .rcases x with x|x
  .omega
  have:=d _ x;omega
 rcases x with x|x
 .omega
 exact(d _ x).2 rfl
def IP.two{d a:Nat}{t:Df}{c:rq}(h:IP w rb d a p q t c):c a=some (.int .u64 p)/\c (a,1)=some (.int .u64 q):=by
 obtain⟨v,c,d,e,f,l,a,o,p,q⟩:=h;exact⟨za a rfl,za a rfl⟩
def jG(s:Df)(b o lo hi:Nat)(v:rt)(w:rq)(h:Eh w b o v s.rs s.fl s.most)(ok:s.Ok)(A:lo<=zF)(aj:hi<=zF):rT 140 #[(b,o),lo,hi] w (Sc w (s.mN lo hi)):=by
 obtain⟨a,cap,rfl,o,q2,q3⟩:=zk h.own;have c0:=h.cl;have c2:=h.cm;obtain⟨N,z⟩:=nm s.rs.length;obtain⟨R,hR⟩:=nm<|s.mN lo hi;rw[hR];have ab:=zb h.own;have HA:AA (∀k,k<N->∃g,a=some ⟨g,0,none⟩):=zb<|λk hk=>q3 I;have o:AA (Hi s.rs lo hi ⟨[],0,s.most⟩=R):=zb hR;have ae:=zb ok;have am:N<=1099511627776:=by rw[<-z];exact h.len
 have hS:=In s.most ok.most;have HS:=zb hS;obtain⟨M,hM⟩:=nm s.most;rw[hM]at c2 HS o;rw[z]at c0 ab;have HN:=zb z;have HM:=zb hM;unfold maxLen at q2;unfold zF at A aj;clear h ok hR hS q3 z hM;go_enter func140,ntmps140;go_upto_region 1 with fail;obtain⟨W1,z⟩:=nm<|w.alloc<|.cells #[ru,.int .u64 0,.int .i64 0] 116;have m1:=AB z;have s1:=AC z;have r1:=AD z;rw[z];have ak:=m1.cell (a:=⟨b,_,none⟩) id c2;have af:=m1.cell (a:=⟨b,_,none⟩) id c0;clear c0 c2 z;go_upto_region 2 with fail;obtain⟨A,z⟩:=nm<|W1.alloc<|.cells #[ru,.int .u64 0,[M]] 116;have m2:=AB z;have s2:A.heap.size=w.heap.size+2:=by rw[<-z];simp;omega
 have T:Ic A W1.heap.size ru ⟨[],0,M⟩:=by rw[<-z];exact⟨heap_alloc_new W1 _,World.ownsRow_nil _ 0 _ 2⟩
 have r2:=m2.obj rk r1;rw[z];have c0:=m2.cell (a:=⟨b,_,none⟩) id af;have M2:=zb<|m1.trans m2;obtain⟨f,ag⟩:=nm<|w.heap.size+1;rw[s1]at T;rw[ag]at T ⊢;have A:f=w.heap.size+1:=I;obtain⟨d,ac⟩:=nm w.heap.size;rw[ac]at r2 A s2 ⊢;have ad:=zb ac;clear ak af z m1 m2 r1 s1 ag ac;go_wp2_with fail;have T2:=zb T;have R2:=zb r2;have C0:=zb c0;have ah:=zb<|And.intro A s2;clear c0 T r2 A s2
 go_loopw [20] (λz wr=>∃(k:Nat) (v:rt) (t:Df),k<=N/\z=.int .i64 k/\AA (Ic wr f v t/\t.Ok/\Hi (s.rs.drop k) lo hi t=R)/\AA (DO DQ w wr/\d+2<=wr.heap.size/\(∀g,v.ownBlock=some g->d+2<=g)/\wr.heap[d]?=some (.cells #[ru,.int .u64 0,.int .i64 0] 116 (0,0)))) (λz _=>N-(intOf z).toNat)
 case atStart=>exact⟨0,.slice none 0 0,⟨[],0,M⟩,AN _,rfl,zb ⟨T2.z,HS.z,o.z⟩,zb ⟨M2.z,by rw[ah.z.2];omega,λg l=>by simp[Value.ownBlock]at l,R2.z⟩⟩
 case round =>
  clear T2 R2 C0 o;obtain⟨k,v,t,hk,rfl,B,c⟩:=hrel;by_cases ai:k<N
  .obtain⟨g,rfl⟩:=HA.z k ai;have o:k<s.rs.length:=by rw[HN.z];exact ai
   obtain⟨x1,x2⟩:=Il (rs:=s.rs) (n:=N) (cap:=cap) (g:=g) (by rw[HN.z];exact ab.z) k o;have x1:=c.z.1.cell (a:=⟨g,_,none⟩) id x1;have x2:=c.z.1.cell (a:=⟨g,_,none⟩) id x2;have E:=ae.z.hi k o;have a:=ae.z.wf.1 k o;have HD:AA (Hi (s.rs.drop<|k+1) lo hi (if hi<=DP s.rs k then(if DU s.rs k<lo then t.add (DU s.rs k) (min (DP s.rs k)<|lo-1)else t).add (max (DU s.rs k) hi) (DP s.rs k)else(if DU s.rs k<lo then t.add (DU s.rs k) (min (DP s.rs k)<|lo-1)else t))=R):=by
    have Y:=B.z.2.2;rw[TF o]at Y;exact Y
   obtain⟨p,u⟩:=nm<|DU s.rs k;obtain⟨q,z⟩:=nm<|DP s.rs k;rw[u]at x1 HD a;rw[z]at x2 HD E a;unfold zF at E;clear u z o;go_upto_region 5 with fail;obtain⟨N,a⟩:=nm<|wr.alloc<|.cells #[p,q] 214;obtain⟨xb,o⟩:=nm wr.heap.size;have J4:AA (IP w d f xb p q t N):=by
    have z:=AB a;refine zb ⟨v,B.z.1.mod z rk<|λ_ _ x=>x,B.z.2.1,c.z.1.trans z,λg l=>⟨c.z.2.2.1 g l,λe=>?_⟩,z.obj rk c.z.2.2.2,?_,ad.z,ah.z.1,?_⟩
    .have:=zK B.z.1.2 g l;omega
    .rw[<-a,<-o];exact heap_alloc_new wr _
    rw[<-o];exact c.z.2.1
   rw[a,o];obtain⟨y0,y1⟩:=J4.z.two;obtain⟨X,z⟩:=nm<|(if p<lo then t.add p (min q<|lo-1)else t);rw[z]at HD;have Z:=zb z;obtain⟨T,A⟩:=nm<|(if hi<=q then X.add (max p hi) q else X);rw[A]at HD;have aa:=zb A;clear B c a o z A x1 x2;go_upto_if 27 with fail
   go_cut [] (λa=>AA<|IP w d f xb p q X a)
   case first =>
    by_cases u:p<lo
    .have d1:(p:Int)<lo:=I;have K:t.add p (min q<|lo-1)=X:=by
      have:=Z.z;rw[AM u]at this;exact this
     have kq:q<=lo-1->rT 88 #[(f,0),p,q] N λe w'=>e=.returned (.tuple #[])/\IP w d f xb p q X w':=λh=>by
      have k:=J4.z.calls (lo:=p) (hi:=q) (by unfold zF;omega) E;rw[<-K,BY h];exact k
     have kl:lo-1<=q->rT 88 #[(f,0),p,.int .u64 ((lo:Int)-1)] N λe w'=>e=.returned (.tuple #[])/\IP w d f xb p q X w':=λh=>by
      have k:=J4.z.calls (lo:=p) (hi:=lo-1) (by unfold zF;omega) (by unfold zF;omega);rw[<-K,Nat.min_eq_right h];rw[(I:((lo-1:Nat):Int)=(lo:Int)-1)]at k;exact k
     have KQ:=zb kq;have KL:=zb kl;have a:=wu ((lo:Int)-1) I;clear u K kq kl Z;go_wp2_with (go_at_call 88;first|(have O:=KQ.z I;with_reducible refine O.mono ?_;clear O;rintro e w5 ⟨rfl,j5⟩;have J5:=zb j5)|(have O:=KL.z I;with_reducible refine O.mono ?_;clear O;rintro e w5 ⟨rfl,j5⟩;have J5:=zb j5));all_goals go_meet
     all_goals exact J5
    have d1:¬(p:Int)<lo:=I;have K:t=X:=by
     have:=Z.z;rw[AH u]at this;exact this
    subst K;clear u Z;go_wp2_with fail;go_meet;exact J4
   case rest =>
   have J5:=hcut;clear J4 y0 y1;obtain⟨y0,y1⟩:=J5.z.two;clear hcut;by_cases u:hi<=q
   .have d1:(hi:Int)<=q:=I;have K:X.add (max p hi) q=T:=by
     have:=aa.z;rw[AM u]at this;exact this
    have kq:p<=hi->rT 88 #[(f,0),hi,q] wc λe w'=>e=.returned (.tuple #[])/\IP w d f xb p q T w':=λh=>by
     have k:=J5.z.calls (lo:=hi) (hi:=q) (by unfold zF;omega) E;rw[<-K,Nat.max_eq_right h];exact k
    have kl:hi<=p->rT 88 #[(f,0),p,q] wc λe w'=>e=.returned (.tuple #[])/\IP w d f xb p q T w':=λh=>by
     have k:=J5.z.calls (lo:=p) (hi:=q) (by unfold zF;omega) E;rw[<-K,Nat.max_eq_left h];exact k
    have KQ:=zb kq;have KL:=zb kl;clear u K kq kl aa;go_wp2_with (go_at_call 88;first|(have O:=KQ.z I;with_reducible refine O.mono ?_;clear O;rintro e w5 ⟨rfl,j5⟩;have J6:=zb j5)|(have O:=KL.z I;with_reducible refine O.mono ?_;clear O;rintro e w5 ⟨rfl,j5⟩;have J6:=zb j5));all_goals
     go_roundw
     case rel =>
      obtain⟨v6,Y,h2,h3,h4,h5,h6,h7,h8,h9⟩:=J6.z;have:=(AI.1 h6).1;exact⟨k+1,v6,T,I,by go_num,zb ⟨Y,h2,HD.z⟩,zb ⟨h3,I,λg l=>(h4 g l).1,h5⟩⟩
     simp[intOf];omega
   have d1:¬(hi:Int)<=q:=I;have K:X=T:=by
    have:=aa.z;rw[AH u]at this;exact this
   subst K;have J6:=J5;clear u aa;go_wp2_with fail;go_roundw
   case rel =>
    obtain⟨v6,Y,h2,h3,h4,h5,h6,h7,h8,h9⟩:=J6.z;have:=(AI.1 h6).1;exact⟨k+1,v6,X,I,by go_num,zb ⟨Y,h2,HD.z⟩,zb ⟨h3,I,λg l=>(h4 g l).1,h5⟩⟩
   simp[intOf];omega
  have a:s.rs.length<=k:=by rw[HN.z];omega
  have al:t=R:=by
   have Y:=B.z.2.2;rw[B9 a]at Y;exact Y
  subst al;obtain⟨a,e,h⟩:wr f=some v/\wr (U f 1)=some (.int .u64 t.fl)/\wr (U f 2)=some (.int .i64 t.most):=⟨za B.z.1.1 rfl,za B.z.1.1 rfl,za B.z.1.1 rfl⟩;obtain⟨f0,a,e⟩:wr d=some (.slice none 0 0)/\wr (U d 1)=some (.int .u64 0)/\wr (U d 2)=some (.int .i64 0):=⟨za c.z.2.2.2 rfl,za c.z.2.2.2 rfl,za c.z.2.2.2 rfl⟩;have fz:∀p,wr.frozen? ⟨d,p,none⟩=false:=λp=>zg c.z.2.2.2
  obtain⟨e,f,a,_⟩:=zk B.z.1.2;have h:AA (Sc w t (.returned<|.agg #[.slice e t.rs.length f,.int .u64 t.fl,.int .i64 t.most])<|((wr.setCell d<|.slice e t.rs.length f).setCell (d,1)<|.int .u64 t.fl).setCell (d,2)<|.int .i64 t.most):=by
   have o:DO (λg=>g=d) wr (((wr.setCell d<|.slice e t.rs.length f).setCell (U d 1)<|.int .u64 t.fl).setCell (U d 2)<|.int .i64 t.most):=(((DO.refl (λg=>g=d) wr).setCell (p:=d) rj _).setCell (p:=U d 1) rj _).setCell (p:=U d 2) rj _;refine zb ⟨_,rfl,?_,λg l=>?_,c.z.1.then o<|λg l=>.inr<|by rw[ad.z,show g=d from l];exact AF _⟩
   .have p:=o.owns B.z.1.2 (λg l x=>by
     have:=c.z.2.2.1 g l;have x:=x;omega)
    rw[a]at p;exact p
   rw[<-a]at l;have:=c.z.2.2.1 g l;have:=ad.z;omega
  have a:AA ((((wr.setCell d<|.slice e t.rs.length f).setCell (d,1)<|.int .u64 t.fl).setCell (d,2)<|.int .i64 t.most).heap[d]?=some (.cells #[.slice e t.rs.length f,t.fl,[t.most]] 116 (0,0))):=by
   refine zb ?_;rw[zc (zc<|zc c.z.2.2.2)];rfl
  go_wp2_with fail
  (try simp only[Exit.inBlock,Exit.then])
  refine bodyPost_ret (jH _ _ d (.slice e t.rs.length f) (.int .u64 t.fl) (.int .i64 t.most) rfl (za a.z rfl) (za a.z rfl) (za a.z rfl)) rfl h.z
variable{V:CV}{W:rq}{c:CS}{i k:Nat}{tag:rD}{y:WS}
def zi.nD(h:zi tag i b { c with ws:=ze c.ws k y } V W)(a:k<8)(j:Nat)(d:j<15)(v:rt)(x:WS)(e:Ft x (V.wb k) (V k) (V.wc k)=(Ft y (V.wb k) (V k) (V.wc k)).set j v)(f:x.b=y.b)(l:x.lJ.rs=y.lJ.rs)(o:x.lC.rs=y.lC.rs):zi tag i b { c with ws:=ze c.ws k x } V (W.setCell (b,9+15*k+j) v):=by
 have:=h.nL a j d v x (by simp only[zf];exact e) (by simp only[zf];exact f) (by simp only[zf];exact l) (by simp only[zf];exact o);simp only[Kn]at this;exact this
def zi.n8{y:RS}(h:zi tag i b { c with rs:=ze c.rs k y } V W)(a:k<8)(j:Nat)(d:j<13)(v:rt)(x:RS)(e:Gi x (V.rb k) (V.rc k)=(Gi y (V.rb k) (V.rc k)).set j v)(f:x.b=y.b)(l:x.lC.rs=y.lC.rs):zi tag i b { c with rs:=ze c.rs k x } V (W.setCell (b,129+13*k+j) v):=by
 have:=h.mq a j d v x (by simp only[zf];exact e) (by simp only[zf];exact f) (by simp only[zf];exact l);simp only[Kn]at this;exact this
def LT(x:WS)(n:Nat)(h:x.cut=false):x.nM n={ x with final:=max x.high n,lG:=n,lN:=false,cut:=true }:=by
 simp[WS.nM,h]
def LS(x:WS)(n:Nat)(h:x.cut=true)(a:n<x.lG):x.nM n={ x with lG:=n,lN:=false,cut:=true }:=by
 simp[WS.nM,h,a]
def LR(x:WS)(n:Nat)(h:x.cut=true)(a:¬n<x.lG):x.nM n={ x with cut:=true }:=by
 simp[WS.nM,h,a]
def iD(h:zi tag i b c V W)(Y:Dm tag W)(k lG:Int)(u:∀k,k<8->(c k).b.length<=1099511627776/\(c k).high<=zF):rT 71 #[(b,0),.int .i64 k,[lG]] W (EI tag i b W (EJ (c.reset k lG).1) (c.reset k lG).2):=by
 have Z:=PW h k;unfold CS.reset;by_cases o:c.stream k=0
 .obtain⟨l,s,-⟩:=Md o;obtain⟨q,rfl⟩:∃q:Nat,k=(q:Int):=⟨k.toNat,I⟩;have a:q<8:=I;rw[o]at Z;simp only[o,Ad,ne_eq,CI,BZ];have l:=zb h;have l:=zb Y;have l:W (b,9+q*15+6)=some (.int .i64 ((c q).lC.most:Int)):=by rw[AL];exact h.w (j:=6) a rfl
  clear l;obtain⟨x,T⟩:=nm<|c q;have s:=zb T;obtain⟨s,b2⟩:=u q a;rw[T]at s b2 ⊢;obtain⟨N,hN⟩:=nm x.b.length;have s:W (b,9+q*15)=some (V.wb q):=by rw[AL];exact h.w (j:=0) a rfl
  obtain⟨v,B,aa,_⟩:=zk<|h.wb q a;rw[aa,T,hN]at s;have w7:W (b,9+q*15+7)=some (.int .u64 ((c q).high:Int)):=by rw[AL];exact h.w (j:=7) a rfl
  have l:W (b,9+q*15+10)=some (.bool (c q).cut):=by rw[AL];exact h.w (j:=10) a rfl
  have ab:W (b,9+q*15+11)=some (.int .u64 ((c q).lG:Int)):=by rw[AL];exact h.w (j:=11) a rfl
  have s:W (b,9+q*15+12)=some (.int .u64 ((c q).final:Int)):=by rw[AL];exact h.w (j:=12) a rfl
  have s:W (b,9+q*15+13)=some (.bool (c q).lN):=by rw[AL];exact h.w (j:=13) a rfl
  have fz:=λp=>h.fz p
  have v:∀p1 s p,(W.setCell ⟨b,p1,none⟩ s).frozen? ⟨b,p,none⟩=false:=λp1 s p=>zg<|zc h.obj
  have B:∀p1 s p2 v p,((W.setCell ⟨b,p1,none⟩ s).setCell ⟨b,p2,none⟩ v).frozen? ⟨b,p,none⟩=false:=λp1 s p2 v p=>zg<|zc<|zc h.obj
  have E:∀p1 s p2 v p3 B p,(((W.setCell ⟨b,p1,none⟩ s).setCell ⟨b,p2,none⟩ v).setCell ⟨b,p3,none⟩ B).frozen? ⟨b,p,none⟩=false:=λp1 s p2 v p3 B p=>zg<|zc<|zc<|zc h.obj
  rw[T]at w7 l ab;obtain⟨n,z⟩:=nm<|min lG.toNat N;rw[hN,z];have h0:zi tag i b { c with ws:=ze c.ws q x } V W:=by
   rw[<-T,Fd];exact h
  have s:∀W',zi tag i b { c with ws:=ze c.ws q (x.nM n) } V W'->DO (λg=>g=b) W W'->Dk tag i b W { c with ws:=ze c.ws q (x.nM n) } W':=λW' v B=>v.left Y<|h.o5 B
  have HF:=zb s;have H0:=zb h0;have v:n<=N:=I;have ae:=zb z;have v:IntKind.u64.wrap (n:Int)=(n:Int):=by rw[IntKind.wrap_u64];omega
  have y2:IntKind.u64.wrap (N:Int)=(N:Int):=by rw[IntKind.wrap_u64];omega
  have y3:IntKind.u64.wrap 0=0:=by rw[IntKind.wrap_u64];rfl
  have y4:lG<0\/(N:Int)<lG\/IntKind.u64.wrap lG=lG:=by rw[IntKind.wrap_u64];omega
  have v:(q:Int)<8:=I;have v:(0:Int)<=q:=I;obtain⟨A,v⟩:=nm x.high;obtain⟨kp,B⟩:=nm x.lG;obtain⟨cu,E⟩:=nm x.cut;rw[v]at w7 b2;rw[B]at ab;rw[E]at l;have HI:=zb v;have HK:=zb B;have HC:=zb E;unfold zF at b2;clear h Y h0 o aa T hN z s v B E u;go_enter func71,ntmps71;go_upto_region 5 with(go_at_call 90;refine Z.mono ?_;rintro _ _ ⟨rfl,rfl⟩;unfold EJ;simp only[A9])
  go_cut [9] (λl s=>l=.int .u64 n/\s=W)
  case first =>
   go_wp2_with fail;all_goals
    go_meet;have X:=ae.z;exact⟨by congr 1;omega,rfl⟩
  case rest =>
  obtain⟨rfl,hw⟩:=hcut;have hw:=hw.symm;subst hw;clear y2 y3 y4;have e7:AA (9+q*15+12=9+15*q+12):=zb I;have e8:AA (9+q*15+11=9+15*q+11):=zb I;have e9:AA (9+q*15+13=9+15*q+13):=zb I;have K:AA (9+q*15+10=9+15*q+10):=zb I;have d:∀{l WB:rq} (p:Nat) (v:rt),DO (λg=>g=b) l WB->DO (λg=>g=b) l (WB.setCell (b,p) v):=λp v m=>m.setCell (p:=⟨b,p,none⟩) rj v
  cases cu
  .have t:=LT x n HC.z;obtain⟨F,l⟩:=nm<|max A n;have ac:=zb l;have p:=H0.z.nD a 12 lc (.int .u64 F) { x with final:=max x.high n } (by rw[<-l,<-HI.z];rfl) rfl rfl rfl;have X:=p.nD a 11 lc (.int .u64 n) { x with final:=max x.high n,lG:=n } rfl rfl rfl rfl;have h3:=X.nD a 13 lc (.bool false) { x with final:=max x.high n,lG:=n,lN:=false } rfl rfl rfl rfl;have f:=h3.nD a 10 lc (.bool true) { x with final:=max x.high n,lG:=n,lN:=false,cut:=true } rfl rfl rfl rfl;rw[<-t]at f;have H:=zb<|HF.z _ f<|d _ _<|d _ _<|d _ _<|d _ _ rp;rw[<-e7.z,<-e8.z,<-e9.z,<-K.z]at H;clear p X h3 f t l;by_cases ad:A<=n
   .have O:F=n:=pp ac.z;subst O;have d3:(A:Int)<=F:=I;have d4:¬(F:Int)<A:=I;clear ad;go_wp2_with fail;all_goals first|(exfalso;omega)|skip
    all_goals go_ret
    all_goals refine⟨rfl,?_⟩
    all_goals first|exact H.z|(have e:(A:Int)=F:=I;rw[e];exact H.z)|(have e:(n:Int)=F:=I;rw[<-e]at H;exact H.z)
   have O:F=A:=pp ac.z;subst O;have d3:¬(F:Int)<=n:=I;have d4:(n:Int)<F:=I;clear ad;go_wp2_with fail;all_goals first|(exfalso;omega)|skip
   all_goals go_ret
   all_goals refine⟨rfl,?_⟩
   all_goals first|exact H.z|(have e:(A:Int)=F:=I;rw[e];exact H.z)|(have e:(n:Int)=F:=I;rw[<-e]at H;exact H.z)
  by_cases e:n<kp
  .have t:=LS x n HC.z (by rw[HK.z];exact e);have X:=H0.z.nD a 11 lc (.int .u64 n) { x with lG:=n } rfl rfl rfl rfl;have h3:=X.nD a 13 lc (.bool false) { x with lG:=n,lN:=false } rfl rfl rfl rfl;have f:=h3.nD a 10 lc (.bool true) { x with lG:=n,lN:=false,cut:=true } rfl rfl rfl rfl;rw[<-t]at f;have H:=zb<|HF.z _ f<|d _ _<|d _ _<|d _ _ rp;rw[<-e8.z,<-e9.z,<-K.z]at H;have l:(n:Int)<kp:=I;clear e;clear X h3 f t;go_wp2_with fail;go_ret;exact⟨rfl,H.z⟩
  have t:=LR x n HC.z (by rw[HK.z];exact e);have f:=H0.z.nD a 10 lc (.bool true) { x with cut:=true } rfl rfl rfl rfl;rw[<-t]at f;have H:=zb<|HF.z _ f<|d _ _ rp;rw[<-K.z]at H;have l:¬(n:Int)<kp:=I;clear e;clear f t;go_wp2_with fail;go_ret;exact⟨rfl,H.z⟩
 obtain⟨n,z⟩:=nm<|c.stream k;have H0:=zb<|h.left Y rp;rw[z]at Z o;simp only[z,o,ne_eq,Av,A9];rw[JD o]at Z ⊢;clear h Y z o u;go_enter func71,ntmps71;go_wp2_with (go_at_call 90;refine Z.mono ?_;rintro _ _ ⟨rfl,rfl⟩);go_ret;exact⟨rfl,H0.z⟩
def iC(h:zi tag i b c V W)(E:D0 i tag W)(k lG:Int)(a:∀k,k<8->(c k).b.length<=1099511627776/\(c k).high<=zF):rT 39 #[(b,0),.int .i64 k,[lG]] W (EI tag i b W (.int .i64 ((c.reset k lG).1:Int)) (c.reset k lG).2):=by
 have e:=iD h E.ok k lG a;have o:=zb E;clear h E a;go_enter func39,ntmps39;go_wp2_with fail;refine e.mono ?_;rintro _ W1 ⟨rfl,d⟩;obtain⟨ky,p,h,a,f⟩:=id d;have p:=Kw (c.reset k lG).1 W1 (o.z.left a f).err;have q:=zb d;clear d h a f e;go_wp2_with fail;refine p.mono ?_;rintro _ a ⟨rfl,l⟩;have H:=zb<|q.z.mf l;clear l;go_wp2_with fail;go_ret;exact⟨rfl,H.z⟩
end
end Go.Proofs.YtddfdpbaiedcjaaGreatDoor
