/- A part of Given's proof. Conditions: none. Part 13 of 15. -/
import Derived.Test.YtddfdpbaiedcjaaGreatDoorGiv11
set_option maxRecDepth 100000
set_option maxHeartbeats 16000000
set_option linter.all false
namespace Go.Proofs.YtddfdpbaiedcjaaGreatDoor
section
open Go.RowKit
structure FB(x y:WS):Prop where
 b:y.b=x.b
 high:y.high=x.high
 fin:y.finished=x.finished
 cut:y.cut=x.cut
 lG:y.lG=x.lG
 final:y.final=x.final
 lA:y.lA=x.lA
def FB.refl(x:WS):FB x x:=⟨rfl,rfl,rfl,rfl,rfl,rfl,rfl⟩
variable{x y:WS}
def FB.trans{z:WS}(h:FB x y)(k:FB y z):FB x z:=⟨k.b.trans h.b,k.high.trans h.high,k.fin.trans h.fin,k.cut.trans h.cut,k.lG.trans h.lG,k.final.trans h.final,k.lA.trans h.lA⟩
structure Fj(x y:WS):Prop where
 b:x.b <+: y.b
 fz:x.finished=true\/x.cut=true->y.b=x.b
 high:x.high<=y.high
 hl:y.high<=y.b.length
 fin:x.finished=true->y.finished=true
 cut:x.cut=true->y.cut=true/\y.final=x.final/\y.lG<=x.lG
 fc:x.finished=true->x.high=x.b.length->x.cut=false->y.cut=true->y.final=x.b.length
def I8(x:WS):Prop:=x.finished=true/\x.high=x.b.length/\(x.cut=true->x.final=x.b.length)
def IZ(x:WS)(n:Nat):Prop:=(I8 x/\n=x.b.length)\/(x.cut=true/\n=x.final)
def Fj.of_same(h:FB x y)(hl:x.high<=x.b.length):Fj x y where
 b:=by rw[h.b];exact Cn _
 fz:=λ_=>h.b
 high:=by rw[h.high];exact AF _
 hl:=by rw[h.high,h.b];exact hl
 fin:=λe=>by rw[h.fin];exact e
 cut:=λe=>⟨by rw[h.cut];exact e,h.final,by rw[h.lG];exact AF _⟩
 fc:=λ_ _ e a=>by rw[h.cut,e]at a;cases a
theorem I8.le(h:I8 x)(l:Fj x y):I8 y/\y.b=x.b:=by
 obtain⟨a,c,d⟩:=h;have eb:=l.fz<|.inl a;have e:=l.hl;have h:=l.high;rw[eb]at e;refine⟨⟨l.fin a,by rw[eb];omega,λf=>?_⟩,eb⟩;cases hx:x.cut with
 | true =>
  rw[(l.cut hx).2.1,eb];exact d hx
 | false =>
  rw[eb];exact l.fc a c hx f
def IZ.le{n:Nat}(h:IZ x n)(l:Fj x y):IZ y n:=by
 rcases h with⟨c,d⟩|⟨c,d⟩
 .obtain⟨a,b⟩:=c.le l;exact .inl ⟨a,by rw[b];exact d⟩
 exact .inr ⟨(l.cut c).1,by rw[(l.cut c).2.1];exact d⟩
variable{m:Nat}
def IZ.uniq{n:Nat}(h:IZ x n)(k:IZ x m):n=m:=by
 rcases h with⟨a,c⟩|⟨a,c⟩<;>rcases k with⟨c,d⟩|⟨c,d⟩
 .omega
 .have:=a.2.2 c;omega
 .have:=c.2.2 a;omega
 omega
def IZ.high{n:Nat}(h:IZ x n)(c:x.cut=true->x.high<=x.final):x.high<=n:=by
 rcases h with⟨a,d⟩|⟨a,d⟩
 .have:=a.2.1;omega
 have:=c a;omega
theorem Fj.trans{z:WS}(h:Fj x y)(k:Fj y z):Fj x z where
 b:=h.b.trans k.b
 fz:=λe=>by
  have d:=h.fz e;rw[<-d];refine k.fz ?_;rcases e with e|e
  .exact .inl (h.fin e)
  exact .inr (h.cut e).1
 high:=AK h.high k.high
 hl:=k.hl
 fin:=λe=>k.fin<|h.fin e
 cut:=λe=>by
  obtain⟨a,b,c⟩:=h.cut e;obtain⟨e,f,l⟩:=k.cut a;exact⟨e,f.trans b,AK l c⟩
 fc:=λd o p q=>by
  have eb:=h.fz<|.inl d;cases hy:y.cut with
  | true=>exact(k.cut hy).2.1.trans<|h.fc d o p hy
  | false =>
   have a:=h.hl;have c:=h.high;rw[eb]at a;rw[<-eb];exact k.fc (h.fin d) (by rw[eb];omega) hy q
structure FJ(c:CS)(nx:Nat)(G:List SN)(f:DV):Prop where
 k2:f.kind=2->∀r∈f.lF,r.2<nx
 k3:f.kind=3->∃k:Nat,k<8/\f.stream=(k:Int)/\(c k).cut=true/\f.off=(c k).final/\(c k).lG<=f.rel
 k4:f.kind=4->∃k:Nat,k<8/\f.stream=(k:Int)/\f.off+f.data.length<=(c k).high/\f.data=((c k).b.drop f.off).take f.data.length/\(f.fin=true->I8 (c k)/\f.off+f.data.length=(c k).b.length)
 k5:f.kind=5->f.mF<=c.kz
 k6:f.kind=6->∃k:Nat,k<8/\f.stream=(k:Int)/\f.mF<=(c.rs k).kz
 k7:f.kind=7->∃s∈G,s.id=f.id/\s.dl=f.dl/\s.data=f.data
 k8:f.kind≠8
structure EQ(c c':CS):Prop where
 ws:∀k,k<8->Fj (c k) (c' k)
 kz:c.kz<=c'.kz
 rg:∀k,k<8->(c.rs k).kz<=(c'.rs k).kz
variable{c:CS}
def EQ.trans{a b:CS}(h:EQ a b)(k:EQ b c):EQ a c:=⟨λj a=>(h.ws j a).trans (k.ws j a),AK h.kz k.kz,λj a=>AK (h.rg j a) (k.rg j a)⟩
variable{i:Nat}
def XC{α : Type}{a b:List α}(h:a <+: b){n:Nat}(c:i+n<=a.length):(b.drop i).take n=(a.drop i).take n:=by
 obtain⟨t,rfl⟩:=h;rw[List.drop_append_of_le_length I,BF (by rw[Ag];omega)]
variable{G:List SN}{c':CS}{f:DV}{nx:Nat}
def FJ.mono{a:Nat}{d:List SN}(h:FJ c nx G f)(l:EQ c c')(q:∀k,k<8->(c k).high<=(c k).b.length)(c:nx<=a)(t:∀s∈G,∃s'∈d,s'.id=s.id/\s'.dl=s.dl/\s'.data=s.data):FJ c' a d f where
 k2:=λe r a=>A7 (h.k2 e r a) c
 k3:=λe=>by
  obtain⟨k,k8,f,c,o,p⟩:=h.k3 e;obtain⟨a,b,d⟩:=(l.ws k k8).cut c;exact⟨k,k8,f,a,by rw[b];exact o,AK d p⟩
 k4:=λe=>by
  obtain⟨k,k8,f,c,o,p⟩:=h.k4 e;have w:=l.ws k k8;refine⟨k,k8,f,AK c w.high,?_,λd=>?_⟩
  .rw[XC w.b (AK c<|q k k8)];exact o
  obtain⟨a,b⟩:=p d;obtain⟨d,p⟩:=a.le w;exact⟨d,by rw[p];exact b⟩
 k5:=λe=>AK (h.k5 e) l.kz
 k6:=λe=>by
  obtain⟨k,k8,f,c⟩:=h.k6 e;exact⟨k,k8,f,AK c<|l.rg k k8⟩
 k7:=λe=>by
  obtain⟨s,d,f,c,o⟩:=h.k7 e;obtain⟨s',a,e,l,p⟩:=t s d;exact⟨s',a,e.trans f,l.trans c,p.trans o⟩
 k8:=h.k8
def FJ.canon(h:FJ c nx G f):FJ c nx G (zt f) where
 k2:=λe=>by
  have a:f.kind=2:=by rw[Gp]at e;exact e
  have:(zt f).lF=f.lF:=by simp[zt,a]
  rw[this];exact h.k2 a
 k3:=λe=>by
  have a:f.kind=3:=by rw[Gp]at e;exact e
  have c:(zt f).stream=f.stream:=by simp[zt,a]
  have d:(zt f).off=f.off:=by simp[zt,a]
  have l:(zt f).rel=f.rel:=by simp[zt,a]
  rw[c,d,l];exact h.k3 a
 k4:=λe=>by
  have a:f.kind=4:=by rw[Gp]at e;exact e
  have c:(zt f).stream=f.stream:=by simp[zt,a]
  have d:(zt f).off=f.off:=by simp[zt,a]
  have l:(zt f).data=f.data:=by simp[zt,a]
  have o:(zt f).fin=f.fin:=by simp[zt,a]
  rw[c,d,l,o];exact h.k4 a
 k5:=λe=>by
  have a:f.kind=5:=by rw[Gp]at e;exact e
  have c:(zt f).mF=f.mF:=by simp[zt,a]
  rw[c];exact h.k5 a
 k6:=λe=>by
  have a:f.kind=6:=by rw[Gp]at e;exact e
  have c:(zt f).stream=f.stream:=by simp[zt,a]
  have d:(zt f).mF=f.mF:=by simp[zt,a]
  rw[c,d];exact h.k6 a
 k7:=λe=>by
  have a:f.kind=7:=by rw[Gp]at e;exact e
  have c:(zt f).id=f.id:=by simp[zt,a]
  have d:(zt f).dl=f.dl:=by simp[zt,a]
  have l:(zt f).data=f.data:=by simp[zt,a]
  rw[c,d,l];exact h.k7 a
 k8:=by rw[Gp];exact h.k8
variable{rs:zE}
def GP{n:Nat}:De rs n ↔ ∃r∈rs,r.1<=n/\n<=r.2:=by
 constructor
 .rintro⟨i,d,a,c⟩;have e:=AW<|Gh d;exact⟨_,e,a,c⟩
 rintro⟨r,d,a,c⟩;obtain⟨j,a,c,e⟩:=I1 d;exact⟨j,a,I,I⟩
theorem Mt:∀(rs:zE) (a c p:Nat),a<=p->p<(Dd rs a c).1->∃r∈rs,r.1<=p/\p<=r.2
 | [],a,c,p,h1,h2=>by
  have h2:p<a:=h2;omega
 | r::l,a,c,p,h1,h2=>by
  unfold Dd at h2;split at h2
  .obtain⟨q,d,e⟩:=Mt l a c p h1 h2;exact⟨q,AV _ d,e⟩
  split at h2
  .have h2:p<a:=h2;omega
  by_cases a:p<=r.2
  .exact⟨r,AQ,I,a⟩
  obtain⟨q,d,e⟩:=Mt l (r.2+1) c p I h2;exact⟨q,AV _ d,e⟩
theorem TV(h:WF rs):∀i,i<rs.length->2*i<=DU rs i
 | 0,_=>I
 | i+1,hi=>by
  have a:=TV h i I;have b:=(h.1 i I).1;have c:=h.2 i (i+1) I hi;omega
variable{H:Nat}
def Yu(h:WF rs)(d:∀j,j<rs.length->DP rs j<H):rs.length<=H / 2+1:=by
 by_cases a:rs.length=0
 .omega
 have a:=TV h (rs.length-1) I;have b:=(h.1 (rs.length-1) I).1;have c:=d (rs.length-1) I;omega
structure EF(s:Df)(H:Nat):Prop where
 ok:s.Ok
 fl:s.fl=0
 hi:∀j,j<s.rs.length->DP s.rs j<H
 most:1025<=s.most
variable{s:Df}
def EF.mono{a:Nat}(h:EF s H)(c:H<=a):EF s a:=⟨h.ok,h.fl,λj a=>A7 (h.hi j a) c,h.most⟩
variable{hi lo:Nat}
def EF.add(h:EF s H)(a:H<=2048)(c:lo<=hi)(d:hi<H):EF (s.add lo hi) H/\∀n,De (s.add lo hi).rs n↔De s.rs n\/(lo<=n/\n<=hi):=by
 have a:hi<=zF:=by unfold zF;omega
 have c:=h.ok.add lo a;have a:=IK s lo hi;have e:=zV (Dv s.rs<|max lo s.fl) s.rs.length;have a:=zV (D8 s.rs hi) s.rs.length;have d:=Jm h.ok.wf (show max lo s.fl<=hi by rw[h.fl];omega) e a;have o:=Qn h.ok.wf (show max lo s.fl<=hi by rw[h.fl];omega) I e a;have l:=O5 (m:=max lo s.fl) (B:=H-1) d a.1 (λj d=>pp<|h.hi j d) (I:hi<=H-1);have f:=Yu o (H:=H)<|λj d=>pp<|l j d;have f:=Tm h.ok.wf (show max lo s.fl<=hi by rw[h.fl];omega) e a;have a:=h.most;have e:s.add lo hi=⟨EB s.rs (max lo s.fl) hi (zZ (Dv s.rs<|max lo s.fl) s.rs.length)<|zZ (D8 s.rs hi) s.rs.length,s.fl,s.most⟩:=by
  unfold Df.add;rw[AH (by rw[h.fl];omega),AH I]
 rw[e]at c ⊢;refine⟨⟨c,h.fl,λj d=>by have:=l j d;show DP (EB _ _ _ _ _) j<H;omega,a⟩,λn=>?_⟩;have:=f n;rw[h.fl,Nat.max_zero]at this;show De (EB _ _ _ _ _) n↔_;rw[h.fl,Nat.max_zero];exact this
structure Dn(x:WS)(r:RS)(e:EN):Prop where
 hl:x.high<=x.b.length
 bl:x.b.length<=2048
 hc:x.high<=x.lA
 cg:x.lA<=r.kz
 hf:x.cut=true->x.high<=x.final
 rh:r.high<=x.high
 rl:r.b.length=r.high
 rd:r.read<=r.high
 low:EF r.lC r.high
 qY:∀p,De r.lC.rs p->r.b[p]?=x.b[p]?
 rc:r.cut=true->x.cut=true/\x.lG<=r.lG
 re:r.ended=true->IZ x r.fin
 rf:r.ended=true->r.cut=false->x.finished=true/\r.fin=x.b.length
 st:r.state<=2
 s1:r.state=1->x.finished=true/\r.read=x.b.length
 s2:r.state=2->x.cut=true/\x.lG<=r.read
 wr:e.wrote=x.b
 fi:e.fin=x.finished
 cu:e.cut=x.cut
 ke:x.cut=true->e.lG=x.lG
 er:e.read=r.read
 es:e.state=r.state
variable{p:Nat}
def MF(h:EF s H)(a:De s.rs p):p<H:=by
 obtain⟨i,c,_,d⟩:=a;have:=h.hi i c;omega
variable{r:RS}
def Dn.qD{e a:EN}(h:Dn x r e)(l:Fj x y)(bl:y.b.length<=2048)(hc:y.high<=y.lA)(cg:y.lA<=r.kz)(hf:y.cut=true->y.high<=y.final)
  (wr:a.wrote=y.b) (fi:a.fin=y.finished) (cu:a.cut=y.cut) (ke:y.cut=true->a.lG=y.lG) (er:a.read=e.read) (es:a.state=e.state):Dn y r a where
 hl:=l.hl
 bl:=bl
 hc:=hc
 cg:=cg
 hf:=hf
 rh:=AK h.rh l.high
 rl:=h.rl
 rd:=h.rd
 low:=h.low
 qY:=λp a=>by
  have c:=MF h.low a;have:=h.rh;have:=h.hl;rw[h.qY p a];obtain⟨t,a⟩:=l.b;rw[<-a,Al I]
 rc:=λe=>by
  obtain⟨a,b⟩:=h.rc e;obtain⟨c,_,d⟩:=l.cut a;exact⟨c,AK d b⟩
 re:=λe=>(h.re e).le l
 rf:=λf o=>by
  obtain⟨a,b⟩:=h.rf f o;exact⟨l.fin a,by rw[l.fz (.inl a)];exact b⟩
 st:=h.st
 s1:=λe=>by
  obtain⟨a,b⟩:=h.s1 e;exact⟨l.fin a,by rw[l.fz (.inl a)];exact b⟩
 s2:=λe=>by
  obtain⟨a,b⟩:=h.s2 e;obtain⟨c,_,d⟩:=l.cut a;exact⟨c,AK d b⟩
 wr:=wr
 fi:=fi
 cu:=cu
 ke:=ke
 er:=er.trans h.er
 es:=es.trans h.es
def Dn.same{e:EN}(h:Dn x r e)(s:FB x y):Dn y r e :=
 h.qD (Fj.of_same s h.hl) (by rw[s.b];exact h.bl) (by rw[s.high,s.lA];exact h.hc) (by rw[s.lA];exact h.cg) (by rw[s.cut,s.high,s.final];exact h.hf) (by rw[s.b];exact h.wr) (by rw[s.fin];exact h.fi) (by rw[s.cut];exact h.cu) (by rw[s.cut,s.lG];exact h.ke) rfl rfl
def Dn.kz{e:EN}(h:Dn x r e)(g:Nat)(a:Bool)(c:r.kz<=g):Dn x { r with kz:=g,lU:=a } e :=
 {h with cg:=AK h.cg c }
def dt{b s:rC}(h:i+s.length<=b.length)(p:Nat):(IW b i s)[p]?=if i<=p/\p<i+s.length then s[p-i]? else b[p]?:=by
 unfold IW;have a:(b.take i).length=i:=by rw[AU];omega
 by_cases c:p<i
 .rw[AH I,Al I,BH c]
 rw[Aa I,a];by_cases a:p<i+s.length
 .rw[AM ⟨I,a⟩,Al I]
 rw[AH I,Aa I,BA];congr 1;omega
variable{e:Nat}
theorem SZ{c:rC}{a:Nat}{data:rC}(hd:data=(c.drop a).take data.length)(h:e=a+data.length)(d:e<=H)(f:H<=2048):∀(n lo:Nat) (b:rC) (s:Df),a<=lo->b.length=H->EF s H->(∀p,De s.rs p->b[p]?=c[p]?) ->
  (En a data e n lo b s).1.length=H/\EF (En a data e n lo b s).2 H/\∀p,De (En a data e n lo b s).2.rs p->(En a data e n lo b s).1[p]?=c[p]?
 | 0,lo,b,s,_,h2,h3,h4=>⟨h2,h3,h4⟩
 | n+1,lo,b,s,h1,h2,h3,h4=>by
  unfold En;split
  .rename_i c;split
   .exact⟨h2,h3,h4⟩
   rename_i l;obtain⟨l,o⟩:=NN s.rs lo e c I;have c:=If s.rs lo e;generalize Dd s.rs lo e=g at *;have c:((data.drop<|g.1-a).take<|g.2-g.1).length=g.2-g.1:=by
    rw[AU,Ag];omega
   obtain⟨a,e⟩:=h3.add f (lo:=g.1) (hi:=g.2-1) I I;refine SZ hd h d f n g.2 _ _ I ?_ a<|λp a=>?_
   .rw[NT _ _ _ (by rw[c];omega)];exact h2
   rw[dt (by rw[c];omega),c];rcases(e p).1 a with a|a
   .split
    .rename_i c;rw[BH I,BA,hd,BH I,BA];congr 1;omega
    exact h4 p a
   rw[AM ⟨I,I⟩,BH I,BA,hd,BH I,BA];congr 1;omega
  exact⟨h2,h3,h4⟩
theorem Dn.nG{e:EN}(h:Dn x r e)(d:f.off+f.data.length<=x.high)(c:f.fin=true->I8 x/\f.off+f.data.length=x.b.length):r.nG f=false:=by
 have d:f.end_<=x.high:=d;have c:f.fin=true->I8 x/\f.end_=x.b.length:=c;have d:=h.rh;have d:=h.hl;have o:(f.fin&&decide (f.end_<r.high))=false:=by
  cases hf:f.fin with
  | false=>rfl
  | true =>
   obtain⟨a,b⟩:=c hf;have:=a.2.1;simp only[Bh,Aj];omega
 unfold RS.nG;rw[o,Bool.or_false];cases he:r.ended with
 | false=>rfl
 | true =>
  have l:=h.re he;have d:=l.high h.hf;rw[Bh,BW];refine⟨by simp only[Aj];omega,?_⟩;cases hf:f.fin with
  | false=>rfl
  | true =>
   obtain⟨a,b⟩:=c hf;have:=l.uniq<|.inl ⟨a,b⟩;rw[Bh,this];simp
def Dn.data{e:EN}(h:Dn x r e)(c:f.off+f.data.length<=x.high)(a:f.data=(x.b.drop f.off).take f.data.length)(d:f.fin=true->I8 x/\f.off+f.data.length=x.b.length):Dn x (r.data f) e:=by
 have c:=h.rh;have c:=h.hl;have hb:=h.bl;have c:=h.rl;have c:f.end_=f.off+f.data.length:=rfl;obtain⟨e,l,o⟩:=SZ a c (Cm r.high f.end_) I (f.data.length+1) f.off (JW r.b<|max r.high f.end_) r.lC ro (by unfold JW;simp;omega) (h.low.mono<|BO _ _) (λp a=>by
  have:=MF h.low a;unfold JW;rw[Al I];exact h.qY p a)
 exact
  {h with
   rh:=by show max r.high f.end_<=_;omega
   rl:=e
   rd:=by have:=h.rd;show r.read<=max r.high f.end_;omega
   low:=l
   qY:=o
   rc:=h.rc
   re:=λq=>by
    have q:(r.ended||f.fin)=true:=q;show IZ x (if f.fin then f.end_ else r.fin);by_cases c:f.fin=true
    .rw[AM c];obtain⟨a,b⟩:=d c;exact .inl ⟨a,b⟩
    rw[AH c];rw[Bb]at q;exact h.re<|q.resolve_right c
   rf:=λq e=>by
    have q:(r.ended||f.fin)=true:=q;show x.finished=true/\(if f.fin then f.end_ else r.fin)=x.b.length;by_cases c:f.fin=true
    .rw[AM c];obtain⟨a,b⟩:=d c;exact⟨a.1,b⟩
    rw[AH c];rw[Bb]at q;exact h.rf (q.resolve_right c) e
   s1:=h.s1 }
theorem Dn.oG{e:EN}(h:Dn x r e)(a:x.cut=true)(c:f.off=x.final):((r.ended&&r.fin != f.off)||decide (f.off<r.high))=false:=by
 have d:=h.rh;have d:=h.hf a;rw[BW];refine⟨?_,by simp only[Aj];omega⟩;cases he:r.ended with
 | false=>rfl
 | true =>
  have:=(h.re he).uniq<|.inr ⟨a,c⟩;rw[Bh,this];simp
def Dn.reset{e:EN}(h:Dn x r e)(a:x.cut=true)(c:f.off=x.final)(d:x.lG<=f.rel):Dn x (r.lq f) e :=
 {h with
  rc:=λ_=>⟨a,by
   show x.lG<=(if !r.cut||decide (f.rel<r.lG)then f.rel else r.lG);split
   .exact d
   rename_i q;simp only[Bb,not_or,CO,Bool.not_eq_false']at q;exact(h.rc q.1).2⟩
  re:=λ_=>.inr ⟨a,c⟩
  rf:=λ_ q=>by cases q }
def Rd{e:EN}(h:Dn x r e)(a:Nat):r.read<=r.lp a/\r.lp a<=r.read+a/\r.lp a<=r.high/\∀p,r.read<=p->p<r.lp a->De r.lC.rs p:=by
 have a:=UF r.lC.rs r.read r.high;have b:=Tf r.lC.rs (H:=r.high) r.read r.high h.rd (λq a=>by obtain⟨j,d,_,e⟩:=I1 a;rw[<-e];exact h.low.hi j d);have c:=λp f l=>GP.2<|Mt r.lC.rs r.read r.high p f l
 have d:=h.rd;unfold RS.lp;generalize Dd r.lC.rs r.read r.high=g at *;split
 .exact⟨I,I,I,λp f l=>c p f I⟩
 exact⟨I,I,I,λp f l=>c p f I⟩
def Dn.bytes{e:EN}(h:Dn x r e)(E:Nat)(a:r.read<=E)(d:E<=r.high)(c:∀p,r.read<=p->p<E->De r.lC.rs p):(r.b.drop r.read).take (E-r.read)=(x.b.drop r.read).take (E-r.read):=by
 apply List.ext_getElem?;intro p;by_cases a:p<E-r.read
 .rw[BH a,BH a,BA,BA];exact h.qY _<|c _ I I
 rw[By (by rw[AU];omega),By (by rw[AU];omega)]
def Dn.qI{e:EN}(h:Dn x r e)(f:Nat)(t:r.state=0):e.mP f ((r.b.drop r.read).take (r.lp f-r.read),r.l7 (r.lp f),0)=false /\
  (e.more ((r.b.drop r.read).take<|r.lp f-r.read,r.l7<|r.lp f,0)).fits=true /\
  Dn x { r with read:=r.lp f,state:=r.l7 (r.lp f) } (e.more ((r.b.drop r.read).take<|r.lp f-r.read,r.l7<|r.lp f,0)):=by
 obtain⟨a,b,c,d⟩:=Rd h f;have hb:=h.bytes _ a c d;have a:=h.rh;have a:=h.hl;have a:=h.rl;generalize hE:r.lp f=E at *;have l:((r.b.drop r.read).take<|E-r.read).length=E-r.read:=by
  rw[AU,Ag];omega
 have p:r.l7 E=1->x.finished=true/\E=x.b.length:=λq=>by
  unfold RS.l7 at q;split at q
  .cases q
  split at q
  .rename_i o;simp only[AZ,Bl,Ce]at o;obtain⟨p1,p2⟩:=h.rf o.1.2 o.1.1;exact⟨p1,I⟩
  cases q
 have s:r.l7 E=2->x.cut=true/\x.lG<=E:=λq=>by
  unfold RS.l7 at q;split at q
  .rename_i o;simp only[AZ,Ah]at o;obtain⟨p1,p2⟩:=h.rc o.1;exact⟨p1,I⟩
  split at q<;>cases q
 have u:r.l7 E<=2:=by
  unfold RS.l7;split
  .omega
  split<;>omega
 generalize r.l7 E=ST at *;have a:=h.er;have d:=h.wr;have o:=h.es;refine⟨?_,?_,?_⟩
 .unfold EN.mP;simp only[l,a,d,o,t];rw[hb];have d:decide (f<E-r.read)=false:=by simp only[Aj];omega
  have f:decide (x.b.length<r.read+(E-r.read))=false:=by simp only[Aj];omega
  rw[d,f];simp
 .unfold EN.fits EN.more;simp only[l,a];have d:r.read+(E-r.read)=E:=I;rw[d];by_cases d:ST=0
  .rw[AM d]
  rw[AH d];by_cases d:ST=1
  .rw[AM d];obtain⟨p1,p2⟩:=p d;rw[h.fi,p1,h.wr,p2];simp
  rw[AH d];have d:ST=2:=I;rw[AM d];obtain⟨p1,p2⟩:=s d;rw[h.cu,p1,h.ke p1];simp;exact p2
 exact
  {h with
   rd:=c
   st:=u
   s1:=p
   s2:=s
   er:=by show e.read+((r.b.drop r.read).take<|E-r.read).length=E;rw[l,a];omega
   es:=rfl }
def Dn.ot{e:EN}(h:Dn x r e)(a:Nat)(f:r.state≠0):e.mP a ([],r.state,0)=false/\(e.more ([],r.state,0)).fits=true/\Dn x r (e.more ([],r.state,0)):=by
 have a:=h.er;have d:=h.wr;have c:=h.es;have l:=h.rh;have l:=h.hl;have hd:=h.rd;have l:e.more ([],r.state,0)=e:=by
  unfold EN.more;rw[<-c];rfl
 rw[l];refine⟨?_,?_,h⟩
 .unfold EN.mP;simp only[Ae,a,d,c];have d:decide (x.b.length<r.read+0)=false:=by simp only[Aj];omega
  rw[d];simp
 unfold EN.fits;rw[c,AH f];by_cases c:r.state=1
 .rw[AM c];obtain⟨p1,p2⟩:=h.s1 c;rw[h.fi,p1,h.wr,a,p2];simp
 rw[AH c];have:=h.st;have c:r.state=2:=I;rw[AM c];obtain⟨p1,p2⟩:=h.s2 c;rw[h.cu,p1,h.ke p1,a];simp;exact p2
structure Fa(x y:WS):Prop where
 b:y.b=x.b
 fin:y.finished=x.finished
 cut:y.cut=x.cut
 lG:y.lG=x.lG
 final:y.final=x.final
 lA:y.lA=x.lA
 high:x.high<=y.high
 hl:y.high<=y.b.length
 hc:y.high<=y.lA
 hf:y.cut=true->y.high<=y.final
def Fa.le(h:Fa x y):Fj x y where
 b:=by rw[h.b];exact Cn _
 fz:=λ_=>h.b
 high:=h.high
 hl:=h.hl
 fin:=λe=>by rw[h.fin];exact e
 cut:=λe=>⟨by rw[h.cut];exact e,h.final,by rw[h.lG];exact AF _⟩
 fc:=λ_ _ e a=>by rw[h.cut,e]at a;cases a
def Fa.trans{z:WS}(h:Fa x y)(k:Fa y z):Fa x z:=⟨k.b.trans h.b,k.fin.trans h.fin,k.cut.trans h.cut,k.lG.trans h.lG,k.final.trans h.final,k.lA.trans h.lA,AK h.high k.high,k.hl,k.hc,k.hf⟩
def Fa.self(h:Fa x y):Fa y y:=⟨rfl,rfl,rfl,rfl,rfl,rfl,AF _,h.hl,h.hc,h.hf⟩
def Dn.put{e:EN}(h:Dn x r e)(p:Fa x y):Dn y r e :=
 h.qD p.le (by rw[p.b];exact h.bl) p.hc (by rw[p.lA];exact h.cg) p.hf (by rw[p.b];exact h.wr) (by rw[p.fin];exact h.fi) (by rw[p.cut];exact h.cu) (by rw[p.cut,p.lG];exact h.ke) rfl rfl
def Dn.qC{e:EN}(h:Dn x r e):Fa x x:=⟨rfl,rfl,rfl,rfl,rfl,rfl,AF _,h.hl,h.hc,h.hf⟩
structure Dq(c:CS)(G:List SN):Prop where
 w:∀k,k<8->Fa (c k) (c k)
 kf:∀k,k<8->(c k).lG<=(c k).final
 sp:c.mi<=c.lA
 wt:∀f∈c.waits,f.kind=7/\c.now<=f.dl/\∃s∈G,s.id=f.id/\s.dl=f.dl/\s.data=f.data
structure FI(c c':CS):Prop where
 ws:∀k,k<8->Fa (c k) (c' k)
 kz:c.kz<=c'.kz
 rg:∀k,k<8->(c.rs k).kz<=(c'.rs k).kz
 now:c'.now=c.now
 lA:c'.lA=c.lA
def FI.sle(h:FI c c'):EQ c c':=⟨λk a=>(h.ws k a).le,h.kz,h.rg⟩
def FI.trans{a b:CS}(h:FI a b)(k:FI b c):FI a c:=⟨λj a=>(h.ws j a).trans (k.ws j a),AK h.kz k.kz,λj a=>AK (h.rg j a) (k.rg j a),k.now.trans h.now,k.lA.trans h.lA⟩
def FI.refl(h:Dq c G):FI c c:=⟨h.w,AF _,λ_ _=>AF _,rfl,rfl⟩
structure Fn(nx:Nat)(G:List SN)(c:CS)(d:DX)(r:Bool)(c':CS)(d':DX):Prop where
 ok:Dq c' G
 le:FI c c'
 yes:r=true->∃f,d.add f=some d'/\FJ c' nx G f/\(f.kind=7->c.now<=f.dl)
variable{d d':DX}
def Fn.none(h:Dq c G):Fn nx G c d false c d':=⟨h,FI.refl h,λe=>(by cases e)⟩
variable{k:Nat}
def LV{n:Nat}(a:k<8)(h:n<=(c.rs k).kz):FJ c nx G (Fz k n) :=
 ⟨λe=>(by cases e),λe=>(by cases e),λe=>(by cases e),λe=>(by cases e),λ_=>⟨k,a,rfl,h⟩,λe=>(by cases e),by simp[Fz]⟩
def LW{n:Nat}(h:n<=c.kz):FJ c nx G (Gt n) :=
 ⟨λe=>(by cases e),λe=>(by cases e),λe=>(by cases e),λ_=>h,λe=>(by cases e),λe=>(by cases e),by simp[Gt]⟩
def LY(a:k<8)(d:(c k).cut=true):FJ c nx G (He k (c k).final (c k).lG) :=
 ⟨λe=>(by cases e),λ_=>⟨k,a,rfl,d,rfl,AF _⟩,λe=>(by cases e),λe=>(by cases e),λe=>(by cases e),λe=>(by cases e),by simp[He]⟩
theorem SW(h:Dq c G):∀n k t,n+k=8->∀x,(EO c d n k t).1=some x->Fn nx G c d true x.1 x.2
 | 0,_,_,_,x,hx=>by cases hx
 | n+1,k,t,hk,x,hx=>by
  have a:=SW h n (k+1) (min (t+(c.rs k).used) zF) I;unfold EO at hx;split at hx
  .split at hx
   .rename_i d hd;cases hx;have f:∀j,j<8->(c.rs j).kz<=((ze c.rs k { c.rs k with kz:=max (c.rs k).kz<|(c.rs k).used+c.lD,lU:=false }) j).kz:=λj _=>by
     by_cases e:j=k
     .subst e;rw[zf];exact BO _ _
     rw[zd _ _ e];exact AF _
    refine⟨⟨h.w,h.kf,h.sp,h.wt⟩,⟨h.w,AF _,f,rfl,rfl⟩,λ_=>⟨_,hd,LV I ?_,λe=>(by cases e)⟩⟩;show _<=(ze c.rs k _ k).kz;rw[zf];exact AF _
   exact a x hx
  exact a x hx
theorem Px(h:Dq c G):∀n k,n+k=8->∀x,ER c d n k=some x->Fn nx G c d true x.1 x.2
 | 0,_,_,x,hx=>by cases hx
 | n+1,k,hk,x,hx=>by
  have o:=Px h n (k+1) I;unfold ER at hx;split at hx
  .rename_i a;simp only[AZ]at a;split at hx
   .rename_i d hd;cases hx;have l:∀j,j<8->Fa (c j) (ze c.ws k { c.ws k with lN:=true } j):=λj f=>by
     by_cases e:j=k
     .subst e;rw[zf];have w:=h.w j f;exact⟨rfl,rfl,rfl,rfl,rfl,rfl,AF _,w.hl,w.hc,w.hf⟩
     rw[zd _ _ e];exact h.w j f
    have q:∀n,zJ (ze c.ws k { c.ws k with lN:=true }) n=zJ c.ws n:=λn=>by
     induction n with
     | zero=>rfl
     | succ n ih2 =>
      show zJ _ n+(ze c.ws k _ n).high=zJ c.ws n+(c n).high;rw[ih2];congr 1;by_cases e:n=k
      .subst e;rw[zf]
      rw[zd _ _ e]
    refine⟨⟨λj f=>(l j f).self,λj f=>?_,?_,h.wt⟩,⟨l,AF _,λ_ _=>AF _,rfl,rfl⟩,λ_=>⟨_,hd,?_,λe=>(by cases e)⟩⟩
    .show(ze c.ws k _ j).lG<=(ze c.ws k _ j).final;have p:=l j f;have:=h.kf j f;rw[p.lG,p.final];exact this
    .show zJ _ 8<=c.lA;rw[q];exact h.sp
    have q:=LY (c:={ c with ws:=ze c.ws k { c.ws k with lN:=true } }) (nx:=nx) (G:=G) (k:=k) I (by show(ze c.ws k _ k).cut=true;rw[zf];exact a.1);have a:(({ c with ws:=ze c.ws k { c.ws k with lN:=true } }:CS) k)={ c.ws k with lN:=true }:=zf _ _ _;rw[a]at q;exact q
   exact o x hx
  exact o x hx
def dp(h:Dq c G){x:CS×DX}(a:c.control d=some x):Fn nx G c d true x.1 x.2:=by
 unfold CS.control at a;split at a
 .rename_i y f;cases a;exact SW h 8 0 c.total rfl _ f
 unfold Iu at a;split at a
 .split at a
  .rename_i c hd;cases a;exact⟨⟨h.w,h.kf,h.sp,h.wt⟩,⟨h.w,Cm _ _,λ_ _=>AF _,rfl,rfl⟩,λ_=>⟨_,hd,LW ro,λe=>(by cases e)⟩⟩
  exact Px h 8 0 rfl x a
 exact Px h 8 0 rfl x a
def XB(h:Dq c G){x:CS×DX}(o:c.lT d=some x):Fn nx G c d true x.1 x.2:=by
 unfold CS.lT at o;split at o
 .cases o
 rename_i f l p;obtain⟨c,q,s⟩:=B8.1 o;subst s;obtain⟨a,b,e⟩:=h.wt f (by rw[p];exact AQ);exact⟨⟨h.w,h.kf,h.sp,λg c=>h.wt g<|by rw[p];exact AV _ c⟩,⟨h.w,AF _,λ_ _=>AF _,rfl,rfl⟩,λ_=>⟨f,q,⟨λe=>(by rw[a]at e;cases e),λe=>(by rw[a]at e;cases e),λe=>(by rw[a]at e;cases e),λe=>(by rw[a]at e;cases e),λe=>(by rw[a]at e;cases e),λ_=>e,by rw[a];decide⟩,λ_=>b⟩⟩
theorem PO(ws:Nat->WS)(k:Nat)(x:WS):∀n,k<n->zJ (ze ws k x) n+(ws k).high=zJ ws n+x.high
 | 0,h=>absurd h<|A6 _
 | n+1,h=>by
  show zJ (ze ws k x) n+(ze ws k x n).high+(ws k).high=zJ ws n+(ws n).high+x.high;by_cases e:n=k
  .subst e;have:∀m,m<=n->zJ (ze ws n x) m=zJ ws m:=λm=>by
    induction m with
    | zero=>intro _;rfl
    | succ m ih =>
     intro a;show zJ (ze ws n x) m+(ze ws n x m).high=zJ ws m+(ws m).high;rw[ih I,zd _ _ I]
   rw[this n (AF n),zf];omega
  rw[zd _ _ e];have:=PO ws k x n I;omega
def U4(h:Dq c G){fin:Bool}(o:k<8)(t:lo<=hi)(p:hi<=c.lr k)(u:fin=true->(c k).fin=true/\hi=(c k).b.length):Fn nx G c d (c.ll d k lo hi fin).1 (c.ll d k lo hi fin).2.1 (c.ll d k lo hi fin).2.2:=by
 unfold CS.ll;split
 .exact Fn.none h
 rename_i d hd;have w:=h.w k o;have d:=w.hl;have d:=AK p<|NJ c k;have t:hi<=(c k).b.length/\hi<=(c k).lA/\hi+c.mi<=(c k).high+c.lA:=by
  have:=h.sp;unfold CS.nI at d;omega
 have d:(c k).cut=true->hi<=(c k).final:=λe=>by
  have:=h.kf k o;unfold CS.lr at p;rw[AM e]at p;omega
 obtain⟨x,p⟩:∃x,x=({ c.ws k with lJ:=if lo<hi then(c k).lJ.add lo (hi-1)else(c k).lJ,ending:=(c k).ending||fin,high:=max (c k).high hi }:WS):=⟨_,rfl⟩;have l:Fa (c k) x:=by
  rw[p];have:=w.hc;exact⟨rfl,rfl,rfl,rfl,rfl,rfl,BO _ _,by show max _ _<=(c k).b.length;omega,by show max _ _<=(c k).lA;omega,λe=>by have:=w.hf e;have:=d e;show max _ _<=(c k).final;omega⟩
 have s:x.high=max (c k).high hi:=by rw[p]
 rw[<-p];have q:∀j,j<8->Fa (c j) (ze c.ws k x j):=λj a=>by
  by_cases e:j=k
  .subst e;rw[zf];exact l
  rw[zd _ _ e];exact h.w j a
 refine⟨⟨λj a=>(q j a).self,λj a=>?_,?_,h.wt⟩,⟨q,AF _,λ_ _=>AF _,rfl,rfl⟩,λ_=>⟨_,hd,?_,λe=>(by cases e)⟩⟩
 .have p:=q j a;have:=h.kf j a;show(ze c.ws k x j).lG<=(ze c.ws k x j).final;rw[p.lG,p.final];exact this
 .have:=PO c.ws k x 8 o;have:=h.sp;unfold CS.mi at *;show zJ (ze c.ws k x) 8<=c.lA;omega
 have f:(((c k).b.drop lo).take<|hi-lo).length=hi-lo:=by
  rw[AU,Ag];omega
 refine⟨λe=>(by cases e),λe=>(by cases e),λ_=>⟨k,o,rfl,?_,?_,λv=>?_⟩,λe=>(by cases e),λe=>(by cases e),λe=>(by cases e),by simp[EV]⟩
 .show lo+(((c k).b.drop lo).take<|hi-lo).length<=(ze c.ws k x k).high;rw[zf,f,s];omega
 .show((c k).b.drop lo).take (hi-lo)=((ze c.ws k x k).b.drop lo).take (((c k).b.drop lo).take<|hi-lo).length;rw[zf,f,l.b]
 obtain⟨a,b⟩:=u v;unfold WS.fin at a;simp only[AZ,Bl]at a;show I8 (ze c.ws k x k)/\lo+(((c k).b.drop lo).take<|hi-lo).length=(ze c.ws k x k).b.length;rw[zf,f];refine⟨⟨by rw[l.fin];exact a.1,by rw[s,l.b];omega,λe=>by rw[l.cut,a.2]at e;cases e⟩,by rw[l.b];omega⟩
def TU(h:Dq c G)(f:k<8)(a:lo<=hi)(l:hi<=c.lr k):Fn nx G c d (c.mE d k lo hi).1 (c.mE d k lo hi).2.1 (c.mE d k lo hi).2.2:=by
 unfold CS.mE;split
 .split
  .exact Fn.none h
  exact U4 h f I I<|λe=>by cases e
 exact U4 h f a l (λe=>by
  simp only[AZ,Ce]at e;exact e)
def XA(h:Dq c G)(a:k<8):Fn nx G c d (c.bytes d k).1 (c.bytes d k).2.1 (c.bytes d k).2.2:=by
 unfold CS.bytes;split
 .exact Fn.none h
 split
 .split
  .exact Fn.none h
  rename_i c;simp only[Bb,Ah,not_or,Nat.not_lt]at c;exact TU h a ro c.2
 exact TU h a I<|If _ _ _
variable{q:Nat}
theorem Ju(h:Dq c G)(a:q<10):Fn nx G c d (c.put d q).1 (c.put d q).2.1 (c.put d q).2.2:=by
 match q,a with
 | 0,_ =>
  show Fn nx G c d (c.control d).isSome ((c.control d).getD (c,d)).1 ((c.control d).getD (c,d)).2;cases hc:c.control d with
  | none=>exact Fn.none h
  | some x=>exact dp h hc
 | 1,_ =>
  show Fn nx G c d (c.lT d).isSome ((c.lT d).getD (c,d)).1 ((c.lT d).getD (c,d)).2;cases hc:c.lT d with
  | none=>exact Fn.none h
  | some x=>exact XB h hc
 | k+2,a=>exact XA h I
structure DS(num nx:Nat)(G:List SN)(c:CS)(d:DX):Prop where
 b:d.b=Iz num d.fs
 fr:∀f∈d.fs,(Dx f=true/\f.data.length<4611686018427387904/\f.lF.length<4611686018427387904)/\FJ c nx G f/\(f.kind=7->c.now<=f.dl)
variable{num:Nat}
def DS.mono(h:DS num nx G c d)(s:Dq c G)(l:FI c c'):DS num nx G c' d :=
 ⟨h.b,λf c=>by
  obtain⟨a,b,e⟩:=h.fr f c;exact⟨a,b.mono l.sle (λk a=>(s.w k a).hl) ro<|λs a=>⟨s,a,rfl,rfl,rfl⟩,by rw[l.now];exact e⟩⟩
def Yt{g:DV}(h:d.add f=some d')(k:d.add g=some d'):f=g:=by
 obtain⟨_,c,_⟩:=DX.mK h;obtain⟨_,a,_⟩:=DX.mK k;have:=c.symm.trans a;simpa using this
def DS.add(h:DS num nx G c d)(e:d.add f=some d')(d:Dx f=true/\f.data.length<4611686018427387904/\f.lF.length<4611686018427387904)(l:FJ c nx G f)(o:f.kind=7->c.now<=f.dl):DS num nx G c d':=by
 obtain⟨c,a,_⟩:=DX.mK e;refine⟨by rw[c,a,h.b];simp[Iz],λg c=>?_⟩;rw[a]at c;rcases Ak.1 c with x|x
 .exact h.fr g x
 rw[Af.1 x];exact⟨d,l,o⟩
theorem DS.put(h:DS num nx G c d)(u:c.Ok)(s:Dq c G)(f:q<10):DS num nx G (c.put d q).2.1 (c.put d q).2.2/\Dq (c.put d q).2.1 G/\FI c (c.put d q).2.1:=by
 have p:=JZ (d:=d) u f;have t:=Ju (d:=d) (nx:=nx) s f;refine⟨?_,t.ok,t.le⟩;have a:=h.mono s t.le;generalize hr:(c.put d q).1=r at p t;cases r with
 | true =>
  obtain⟨f,l,_,c⟩:=p.yes rfl;obtain⟨g,o,v,z⟩:=t.yes rfl;have e:=Yt o c;subst e;exact a.add o ⟨l.sound,pp l.data,by rw[l.rn];simp⟩ v<|λx=>by rw[t.le.now];exact z x
 | false =>
  obtain⟨_,e|e⟩:=p.no rfl
  .rw[e];exact a
  rw[e];exact⟨a.b,a.fr⟩
theorem SV(f:q<10):∀n (c:CS) (d:DX),c.Ok->Dq c G->DS num nx G c d->DS num nx G (CS.lu q n c d).1 (CS.lu q n c d).2/\Dq (CS.lu q n c d).1 G/\FI c (CS.lu q n c d).1
 | 0,c,d,_,s,h=>⟨h,s,FI.refl s⟩
 | n+1,c,d,hc,s,h=>by
  have p:=JZ (d:=d) hc f;obtain⟨a,b,e⟩:=h.put hc s f;unfold CS.lu;split
  .obtain⟨c,d,h⟩:=SV f n _ _ p.ok b a;exact⟨c,d,e.trans h⟩
  exact⟨a,b,e⟩
theorem QE:∀n (c:CS) (d:DX),n<=10->c.Ok->d.Ok->Dq c G->DS num nx G c d->DS num nx G (CS.ld n c d).1 (CS.ld n c d).2/\Dq (CS.ld n c d).1 G/\FI c (CS.ld n c d).1
 | 0,c,d,_,_,_,s,h=>⟨h,s,FI.refl s⟩
 | n+1,c,d,hn,hc,hd,s,h=>by
  have r:=Oi (q:=9-n) I (d.room+1) c d hc hd;obtain⟨a,b,e⟩:=SV (q:=9-n) I (d.room+1) c d hc s h;unfold CS.ld;obtain⟨c,d,f⟩:=QE n _ _ I r.1 r.2.1 b a;exact⟨c,d,e.trans f⟩
def Ys{l:zE}(h:∀r∈l,r.2<nx):FJ c nx G (lY l) :=
 ⟨λ_=>h,λe=>(by cases e),λe=>(by cases e),λe=>(by cases e),λe=>(by cases e),λe=>(by cases e),by simp[lY]⟩
theorem DS.told(h:DS num nx G c d){l:zE}(o:IE l)(p:l.length<=1048576)(a:∀r∈l,r.2<nx):DS num nx G c (zp d l).1/\∀r∈(zp d l).2,r.2<nx:=by
 unfold zp;split
 .exact⟨h,a⟩
 rename_i p;have q:1<=l.length:=BM.2 p;have s:=NO d l l.length q;have t:=Ql d l l.length;refine⟨?_,λr f=>a r<|Bo f⟩;show DS num nx G c ((d.add<|lY<|l.take<|EY d l l.length).getD d);cases ha:d.add (lY<|l.take<|EY d l l.length)with
 | none=>exact h
 | some d' =>
  refine h.add ha ⟨o.tell _ s t,by simp[lY],?_⟩ (Ys λr f=>a r<|BP f) (λe=>by cases e);show(l.take _).length<_;rw[AU];omega
structure G6(c:CS)(nx:Nat)(G:List SN)(b:rC):Prop where
 nW:∃l,b=l++EP (Dy l)
 dec:∃num fs,dec b=.ok num fs/\num<c.next/\∀f∈fs,FJ c nx G f
def G6.mono{a:Nat}{d:List SN}{b:rC}(h:G6 c nx G b)(l:EQ c c')(e:∀k,k<8->(c k).high<=(c k).b.length)(f:c.next<=c'.next)(o:nx<=a)(p:∀s∈G,∃s'∈d,s'.id=s.id/\s'.dl=s.dl/\s'.data=s.data):G6 c' a d b:=by
 obtain⟨c,f,a,b,d⟩:=h.dec;exact⟨h.nW,c,f,a,I,λf a=>(d f a).mono l e o p⟩
variable{fs:List DV}{now:Nat}
def gS(h:∀f∈fs,f.kind=7->now<=f.dl):(fs.map zt).any (FM now)=false:=by
 rw[CT];intro g a;obtain⟨f,c,rfl⟩:=BL.1 a;unfold FM;rw[Gp];by_cases a:f.kind=7
 .have:=h f c a;have c:(zt f).dl=f.dl:=by simp[zt,a]
  rw[c];simp;omega
 simp[a]
theorem P2:∀(m:Nat) (c:CS) (l:zE) (n:NS) (i:Nat),Gv c l->Dq c G->(∀r∈l,r.2<nx)->n.lZ=c.lZ->n.count i=c.next->n.now=c.now ->
  (NS.mM i (CS.mH m c l).1 n).1=true/\(∃u,(NS.mM i (CS.mH m c l).1 n).2={ n with count:=ze n.count i (CS.mH m c l).2.next,lP:=n.lP++u }/\∀p∈u,p.1=1-i/\G6 (CS.mH m c l).2 nx G p.2)/\Dq (CS.mH m c l).2 G/\FI c (CS.mH m c l).2/\c.next<=(CS.mH m c l).2.next
 | 0,c,l,n,i,hk,s,hx,hm,hc,hn=>by
  refine⟨rfl,⟨[],?_,λp A=>(by cases A)⟩,s,FI.refl s,AF _⟩;show n={ n with count:=ze n.count i c.next,lP:=n.lP++[] };rw[<-hc,Fd,Bw]
 | m+1,c,l,n,i,hk,s,hx,hm,hc,hn=>by
  obtain⟨B,q,r3,E,r5,r6,Z⟩:=hk.round;have K:=hk.next;have a:DS c.next nx G c c.lB:=⟨by show zI c.next=Iz c.next [];simp[Iz],λf h=>(by cases h)⟩;obtain⟨T,N⟩:=a.told hk.desc hk.len hx;have t:=NB (JB hk.ok) l;unfold CS.mH;have hF:DS c.next nx G (c.lL (zp c.lB l).1).1 (c.lL (zp c.lB l).1).2/\Dq (c.lL (zp c.lB l).1).1 G/\FI c (c.lL (zp c.lB l).1).1/\((c.lL (zp c.lB l).1).2.fs≠[]->(c.lL (zp c.lB l).1).2.b.length+4<=c.lZ)/\(c.lL (zp c.lB l).1).1.lZ=c.lZ:=by
   have X:Ez (zp c.lB l).1:=Ez.told ⟨λf h=>(by cases h),λx=>absurd rfl x⟩ l;have q:=Qj 10 c (zp c.lB l).1 ro hk.ok B;unfold CS.lL;split
   .obtain⟨v,o,z⟩:=QE 10 c (zp c.lB l).1 ro hk.ok B s T;refine⟨v,o,z,λd=>?_,q.2.2.2.2.2.2.2.2.2.2.1⟩;have a:=(X.ld 10 c (zp c.lB l).1 ro hk.ok B).fit d;have b:(CS.ld 10 c (zp c.lB l).1).2.room=c.lZ:=q.2.2.1.trans t.2.1;show(CS.ld 10 c (zp c.lB l).1).2.b.length+4<=_;omega
   refine⟨T,s,FI.refl s,λd=>?_,rfl⟩;have a:=X.fit d;have b:(zp c.lB l).1.room=c.lZ:=t.2.1;show(zp c.lB l).1.b.length+4<=_;omega
  obtain⟨v,o,z,e,O⟩:=hF;by_cases d:(c.lL (zp c.lB l).1).2.fs=[]
  .rw[AM d];refine⟨rfl,⟨[],?_,λp A=>(by cases A)⟩,o,z,Az E.symm⟩;show n={ n with count:=ze n.count i (c.lL (zp c.lB l).1).1.next,lP:=n.lP++[] };rw[E,<-hc,Fd,Bw]
  rw[AH d];obtain⟨k1,_⟩:=Z d;have a:=e d;generalize c.lL (zp c.lB l).1=F at *;generalize (zp c.lB l).2=l2 at *;have a:dec (E9 F.2.b)=.ok c.next (F.2.fs.map zt):=by
   unfold E9;rw[U9,v.b];exact TZ c.next F.2.fs (by unfold zF at K;omega) (BM.2 d)<|λf h=>(v.fr f h).1
  have l:(E9 F.2.b).length=F.2.b.length+4:=by unfold E9;rw[AG,Tb]
  have q:Dq (F.1.lV F.2) G:=⟨o.w,o.kf,o.sp,o.wt⟩;have p2:FI F.1 (F.1.lV F.2):=⟨o.w,AF _,λ_ _=>AF _,rfl,rfl⟩;have e:(F.1.lV F.2).next=c.next+1:=by show F.1.next+1=_;rw[E]
  obtain⟨t,⟨u,B,i3⟩,E,Y,K⟩:=P2 m (F.1.lV F.2) l2 { n with count:=ze n.count i<|n.count i+1,lP:=n.lP++[(1-i,E9 F.2.b)] } i k1 q N (by show n.lZ=F.1.lZ;rw[hm,O]) (by show ze n.count i (n.count i+1) i=_;rw[zf,hc,e]) (by show n.now=F.1.now;rw[hn,z.now]);have e:NS.mM i (E9 F.2.b::(CS.mH m (F.1.lV F.2) l2).1) n=NS.mM i (CS.mH m (F.1.lV F.2) l2).1 { n with count:=ze n.count i<|n.count i+1,lP:=n.lP++[(1-i,E9 F.2.b)] }:=by
   rw[NS.mM,a];simp only;rw[AH (by
    rw[l,hm,hc];rintro(x|x|x)
    .omega
    .exact x rfl
    exact d<|rB x),gS (λf h d=>by rw[hn,<-z.now];exact(v.fr f h).2.2 d)]
   rfl
  show(NS.mM i (E9 F.2.b::(CS.mH m (F.1.lV F.2) l2).1) n).1=true/\(∃u,(NS.mM i (E9 F.2.b::(CS.mH m (F.1.lV F.2) l2).1) n).2={ n with count:=ze n.count i (CS.mH m (F.1.lV F.2) l2).2.next,lP:=n.lP++u }/\_)/\_;rw[e];refine⟨t,⟨(1-i,E9 F.2.b)::u,?_,λp A=>?_⟩,E,z.trans<|p2.trans Y,by show c.next<=(CS.mH m (F.1.lV F.2) l2).2.next;omega⟩
  .rw[B];have:ze (ze n.count i<|n.count i+1) i (CS.mH m (F.1.lV F.2) l2).2.next=ze n.count i (CS.mH m (F.1.lV F.2) l2).2.next:=by
    funext j;unfold ze;split<;>rfl
   simp only[this,Ap,List.singleton_append]
  rcases Ay.1 A with x|x
  .rw[x];refine⟨rfl,⟨F.2.b,rfl⟩,c.next,_,a,by show c.next<(CS.mH m (F.1.lV F.2) l2).2.next;omega,λg hg=>?_⟩;obtain⟨f,h,rfl⟩:=BL.1 hg;exact((v.fr f h).2.1.mono (p2.trans Y).sle (λk hk=>(o.w k hk).hl) ro<|λs a=>⟨s,a,rfl,rfl,rfl⟩).canon
  exact i3 p x
def WB(c c':CS):Prop:=∀k,FB (c k) (c' k)
def WB.refl(c:CS):WB c c:=λk=>FB.refl _
def WB.trans{a b:CS}(h:WB a b)(k:WB b c):WB a c:=λj=>(h j).trans (k j)
def WB.qc(k:Nat)(h:FB (c k) x):WB c { c with ws:=ze c.ws k x }:=λj=>by
 show FB (c j) (ze c.ws k x j);by_cases e:j=k
 .subst e;rw[zf];exact h
 rw[zd _ _ e];exact FB.refl _
def Xp(c:CS)(f:DV):WB c (c.again f):=by
 unfold CS.again;split
 .exact WB.qc _ ⟨rfl,rfl,rfl,rfl,rfl,rfl,rfl⟩
 split
 .exact WB.qc _ ⟨rfl,rfl,rfl,rfl,rfl,rfl,rfl⟩
 split
 .exact WB.refl c
 split<;>exact WB.refl c
theorem UR:∀(a:List DV) (c:CS),WB c (c.ly a)
 | [],c=>WB.refl c
 | f::a,c=>(Xp c f).trans<|UR a<|c.again f
theorem TS:∀(l:List DW) (c:CS),WB c (c.mO l)
 | [],c=>WB.refl c
 | p::l,c=>by
  have a:WB c (c.ma p):=by
   unfold CS.ma;split
   .exact UR _ _
   exact WB.refl c
  exact a.trans<|TS l<|c.ma p
theorem TR:∀(a:List DV) (c:CS),WB c (a.foldl CS.lY c)
 | [],c=>WB.refl c
 | f::a,c=>by
  have d:WB c (c.lY f):=by
   unfold CS.lY;split
   .exact WB.qc _ ⟨rfl,rfl,rfl,rfl,rfl,rfl,rfl⟩
   exact WB.refl c
  exact d.trans<|TR a<|c.lY f
theorem TQ(rs:zE):∀(l:List DW) (c:CS),WB c (c.mT rs l)
 | [],c=>WB.refl c
 | p::l,c=>by
  have a:WB c (c.nE rs p):=by
   unfold CS.nE;split
   .exact TR _ _
   exact WB.refl c
  exact a.trans<|TQ rs l<|c.nE rs p
structure E5(c c':CS):Prop where
 ws:WB c c'
 rs:∀k,k<8->∃a,c'.rs k={ c.rs k with lU:=a }
 lA:c'.lA=c.lA
 kz:c'.kz=c.kz
 waits:c'.waits=c.waits
 now:c'.now=c.now
 next:c'.next=c.next
 closed:c'.closed=c.closed
 seen:c'.seen=c.seen/\c'.most=c.most/\c'.lC=c.lC
 ids:c'.l8=c.l8/\c'.mI=c.mI
 lQ:c'.lQ=c.lQ
 cfg:c'.lZ=c.lZ/\c'.lD=c.lD
def E5.trans{a b:CS}(h:E5 a b)(k:E5 b c):E5 a c :=
 ⟨h.ws.trans k.ws,λq a=>by
  obtain⟨x,c⟩:=h.rs q a;obtain⟨y,d⟩:=k.rs q a;exact⟨y,by rw[d,c]⟩,k.lA.trans h.lA,k.kz.trans h.kz,k.waits.trans h.waits,k.now.trans h.now,k.next.trans h.next,k.closed.trans h.closed,⟨k.seen.1.trans h.seen.1,k.seen.2.1.trans h.seen.2.1,k.seen.2.2.trans h.seen.2.2⟩,⟨k.ids.1.trans h.ids.1,k.ids.2.trans h.ids.2⟩,k.lQ.trans h.lQ,⟨k.cfg.1.trans h.cfg.1,k.cfg.2.trans h.cfg.2⟩⟩
def E5.of(w:WB c c')(s:Ep c c')(l:List DW):E5 c (c'.mC l) :=
 ⟨w,s.rs,s.tl.1,s.tl.2.1,s.tl.2.2.2.2.1,s.hd.2.2.2.1,s.hd.2.2.2.2.2.2.1,s.hd.2.2.2.2.1,⟨s.tl.2.2.2.2.2.2.2.1,s.tl.2.2.2.2.2.2.2.2.1,s.tl.2.2.2.2.2.2.2.2.2⟩,⟨s.tl.2.2.2.2.2.1,s.tl.2.2.2.2.2.2.1⟩,s.hd.2.2.2.2.2.2.2.1,⟨s.hd.1,s.hd.2.1⟩⟩
def TP(c:CS):E5 c c.nF:=by
 rw[Hj];exact E5.of (TS c.kx c) (I9 c.kx c) _
def NM{l:zE}(h:¬c.next<=DP l 0):(c.ln l).1=0/\E5 c (c.ln l).2:=by
 rw[Ou c l h];refine⟨rfl,?_⟩;have a:E5 c ({ c with lI:=max c.lI (DP l 0) }:CS):=⟨WB.refl c,λk _=>⟨(c.rs k).lU,rfl⟩,rfl,rfl,rfl,rfl,rfl,rfl,⟨rfl,rfl,rfl⟩,⟨rfl,rfl⟩,rfl,⟨rfl,rfl⟩⟩;have d:E5 ({ c with lI:=max c.lI (DP l 0) }:CS) (c.mS l):=E5.of (TQ l c.kx _) (Jq l c.kx _) _;exact a.trans<|d.trans<|TP _
structure FV(a b:CS)(E:Nat->EN):Prop where
 k:∀k,k<8->Dn (a k) (b.rs k) (E k)
 cr:a.lA<=b.kz
def FV.qs{a c b:CS}{E:Nat->EN}(h:FV a b E)(f:E5 a c):FV c b E:=⟨λk a=>(h.k k a).same (f.ws k),by rw[f.lA];exact h.cr⟩
def FV.qt{a b c:CS}{E:Nat->EN}(h:FV a b E)(f:E5 b c):FV a c E :=
 ⟨λk a=>by
  obtain⟨q,e⟩:=f.rs k a;rw[e];exact(h.k k a).kz _ q ro,by rw[f.kz];exact h.cr⟩
theorem Dq.fl(h:Dq c G)(f:E5 c c'):Dq c' G:=by
 have d:∀n,zJ c'.ws n=zJ c.ws n:=λn=>by
  induction n with
  | zero=>rfl
  | succ n ih =>
   show zJ c'.ws n+(c' n).high=_;rw[ih,(f.ws n).high];rfl
 refine⟨λk a=>?_,λk a=>?_,?_,λg c=>?_⟩
 .have w:=h.w k a;have s:=f.ws k;exact⟨rfl,rfl,rfl,rfl,rfl,rfl,AF _,by rw[s.high,s.b];exact w.hl,by rw[s.high,s.lA];exact w.hc,by rw[s.cut,s.high,s.final];exact w.hf⟩
 .rw[(f.ws k).lG,(f.ws k).final];exact h.kf k a
 .unfold CS.mi;rw[d,f.lA];exact h.sp
 rw[f.waits]at c;rw[f.now];exact h.wt g c
def CS.nf(c:CS)(id:Nat):Prop:=(∃p∈c.seen,p.1=id)\/(0<c.seen.length/\D9 c.most id=true)
structure Ho(c:CS)(G:List SN):Prop where
 nd:(G.map (·.id)).Nodup
 se:∀s∈G,s.lC=true->c.nf s.id
 ms:∀p∈c.lC,∃s∈G,s.id=p.1/\s.data=p.2/\s.lC=false/\c.now<=s.dl
 cn:(c.lC.map (·.1)).Nodup
 kn:∀p∈c.lC,c.nf p.1
def Ho.same(h:Ho c G)(e:c'.seen=c.seen/\c'.most=c.most/\c'.lC=c.lC)(f:c'.now=c.now):Ho c' G:=by
 have d:∀id,c.nf id->c'.nf id:=λid x=>by
  unfold CS.nf;rw[e.1,e.2.1];exact x
 refine⟨h.nd,λs a q=>d _<|h.se s a q,λp a=>?_,by rw[e.2.2];exact h.cn,λp a=>?_⟩
 .rw[e.2.2]at a;rw[f];exact h.ms p a
 rw[e.2.2]at a;exact d _<|h.kn p a
def Xo{a id:Nat}(h:m<=a)(c:D9 m id=true):D9 a id=true:=by
 unfold D9 at *;simp only[AZ,Ah]at *;omega
theorem Ho.message(h:Ho c G)(N:∃s∈G,s.id=f.id/\s.dl=f.dl/\s.data=f.data)(O:c.seen=[]->c.most=0):Ho (c.message f) G:=by
 unfold CS.message;split
 .exact h
 rename_i z;simp only[Bb,not_or,CO,Aj,Nat.not_lt]at z;obtain⟨⟨A,T⟩,B⟩:=z;obtain⟨s,u,E,X,Y⟩:=N;have o:∀p∈c.seen,p.1≠f.id:=λp d e=>by
  have:(c.seen.any λp=>p.1==f.id)=true:=Bg.2 ⟨p,d,by simp[e]⟩;rw[this]at A;cases A
 have a:=λq=>by
  rw[Au q,Bh]at B;exact B
 have l:¬c.nf f.id:=by
  rintro(⟨p,d,e⟩|⟨z,v⟩)
  .exact o p d e
  rw[a z]at v;cases v
 have o:D9 (max c.most f.id) f.id=false:=by
  by_cases z:c.seen=[]
  .have:=O z;unfold D9;simp only[CE,Aj];omega
  have:=a<|BM.2 z;unfold D9 at *;simp only[CE,Aj]at *;omega
 have t:(f.id,f.dl)∈(c.seen++[(f.id,f.dl)]).filter (λp => !D9 (max c.most f.id) p.1):=BI.2 ⟨lm,by simp[o]⟩;have K:∀id,c.nf id->CS.nf { c with most:=max c.most f.id,seen:=(c.seen++[(f.id,f.dl)]).filter<|λp => !D9 (max c.most f.id) p.1,lC:=c.lC++[(f.id,f.data)] } id:=by
  intro id o;have a:=List.length_pos_of_mem t;by_cases z:D9 (max c.most f.id) id=true
  .exact .inr ⟨a,z⟩
  rcases o with⟨p,d,e⟩|⟨_,v⟩
  .exact .inl ⟨p,BI.2 ⟨Br _ d,by rw[e];simpa using z⟩,e⟩
  exact absurd (Xo (BO _ _) v) z
 refine⟨h.nd,λs u q=>K _<|h.se s u q,λp d=>?_,?_,λp d=>?_⟩
 .rcases Ak.1 d with x|x
  .exact h.ms p x
  rw[Af.1 x];refine⟨s,u,E,Y,?_,by rw[X];exact T⟩;cases hc:s.lC with
  | false=>rfl
  | true=>exact absurd (by rw[<-E];exact h.se s u hc) l
 .show((c.lC++[(f.id,f.data)]).map (·.1)).Nodup;rw[BX,C7];refine⟨h.cn,lm,λa Z b hb e=>?_⟩;obtain⟨p,d,rfl⟩:=BL.1 Z;have hb:b=f.id:=rB hb;exact l<|by rw[<-hb,<-e];exact h.kn p d
 rcases Ak.1 d with x|x
 .exact K _ (h.kn p x)
 rw[Af.1 x];exact .inl ⟨_,t,rfl⟩
structure Rc(a b:CS)(Ea Eb:Nat->EN)(Ga Gb:List SN):Prop where
 d1:FV a b Ea
 d2:FV b a Eb
 so:Dq b Gb
 ms:Ho b Ga
 sm:b.seen=[]->b.most=0
structure Ir(c c':CS):Prop where
 next:c'.next=c.next
 now:c'.now=c.now
 ids:c'.l8=c.l8/\c'.mI=c.mI
 waits:c'.waits=c.waits
 cfg:c'.lZ=c.lZ/\c'.lD=c.lD
 sle:EQ c c'
 lQ:c'.lQ=c.lQ
def EQ.oO(h:Dq c G)(w:∀k,k<8->FB (c k) (c' k)\/∃n,c'.ws k={ c.ws k with lA:=n })(g:c.kz<=c'.kz)(r:∀k,k<8->(c.rs k).kz<=(c'.rs k).kz):EQ c c' :=
 ⟨λk a=>by
  rcases w k a with x|⟨n,x⟩
  .exact Fj.of_same x (h.w k a).hl
  rw[x];exact⟨Cn _,λ_=>rfl,AF _,(h.w k a).hl,id,λe=>⟨e,rfl,AF _⟩,λ_ _ e d=>by rw[show({ c.ws k with lA:=n }:WS).cut=(c k).cut from rfl,e]at d;cases d⟩,g,r⟩
def E5.tk(h:Dq c G)(f:E5 c c'):Ir c c' :=
 ⟨f.next,f.now,f.ids,f.waits,f.cfg,EQ.oO h (λk _=>.inl<|f.ws k) (Az f.kz.symm) (λk a=>by obtain⟨x,e⟩:=f.rs k a;rw[e];exact AF _),f.lQ⟩
def EQ.refl(h:Dq c G):EQ c c:=EQ.oO h (λ_ _=>.inl (FB.refl _)) ro (λ_ _=>AF _)
variable{Ea Eb:Nat->EN}{Ga Gb:List SN}
def Rc.fl{a b c:CS}(h:Rc a b Ea Eb Ga Gb)(f:E5 b c):Rc a c Ea Eb Ga Gb :=
 ⟨h.d1.qt f,h.d2.qs f,h.so.fl f,h.ms.same f.seen f.now,by rw[f.seen.1,f.seen.2.1];exact h.sm⟩
end
section
open Go.RowKit
variable{Ea Eb:Nat->EN}{Ga Gb:List SN}{k:Nat}
def Rc.rs{a b:CS}(h:Rc a b Ea Eb Ga Gb){x:RS}(d:k<8->Dn (a k) x (Ea k))(f:x.kz=(b.rs k).kz):Rc a { b with rs:=ze b.rs k x } Ea Eb Ga Gb/\Ir b { b with rs:=ze b.rs k x }:=by
 have l:∀j,(b.rs j).kz=(ze b.rs k x j).kz:=λj=>by
  by_cases e:j=k
  .subst e;rw[zf];exact f.symm
  rw[zd _ _ e]
 refine⟨⟨⟨λj c=>?_,h.d1.cr⟩,⟨h.d2.k,h.d2.cr⟩,⟨h.so.w,h.so.kf,h.so.sp,h.so.wt⟩,h.ms.same ⟨rfl,rfl,rfl⟩ rfl,h.sm⟩,⟨rfl,rfl,⟨rfl,rfl⟩,rfl,⟨rfl,rfl⟩,EQ.oO h.so (λ_ _=>.inl<|FB.refl _) ro<|λj _=>Az<|l j,rfl⟩⟩;show Dn (a j) (ze b.rs k x j) (Ea j);by_cases e:j=k
 .subst e;rw[zf];exact d c
 rw[zd _ _ e];exact h.d1.k j c
theorem TO{ws:Nat->WS}{rs:Nat->RS}:∀n,(∀j,j<n->(rs j).high<=(ws j).high)->Fq rs n<=zJ ws n
 | 0,_=>AF _
 | n+1,h=>by
  have a:=TO n<|λj a=>h j I;have b:=h n I;show Fq rs n+(rs n).high<=zJ ws n+(ws n).high;omega
theorem UQ{ws:Nat->WS}{rs:Nat->RS}:∀n,k<n->(∀j,j<n->(rs j).high<=(ws j).high)->Fq rs n+(ws k).high<=zJ ws n+(rs k).high
 | 0,hk,_=>absurd hk<|A6 _
 | n+1,hk,h=>by
  show Fq rs n+(rs n).high+(ws k).high<=zJ ws n+(ws n).high+(rs k).high;have b:=h n I;by_cases e:k=n
  .subst e;have a:=TO (ws:=ws) (rs:=rs) k<|λj c=>h j I;omega
  have a:=UQ (ws:=ws) (rs:=rs) n I<|λj c=>h j I;omega
variable{r:RS}{x:WS}
def Dn.lA{e:EN}(h:Dn x r e){n:Nat}(a:n<=r.kz):Dn { x with lA:=max x.lA n } r e :=
 {h with
  hc:=AK h.hc<|BO _ _
  cg:=Nat.max_le.2 ⟨h.cg,a⟩ }
variable{f:DV}
theorem Rc.take{a b:CS}(h:Rc a b Ea Eb Ga Gb)(K:Dq a Ga)(c:Ev f)(ok:FJ a b.next Ga f):(b.take f).1=0/\Rc a (b.take f).2 Ea Eb Ga Gb/\Ir b (b.take f).2:=by
 have N:Ir b b:=⟨rfl,rfl,⟨rfl,rfl⟩,rfl,⟨rfl,rfl⟩,EQ.refl h.so,rfl⟩;unfold CS.take;split
 .rename_i e;have d:=c.oZ e;have c:¬b.next<=DP f.lF 0:=by
   have:=ok.k2 e _<|AW<|Gh d;simp only at this;omega
  obtain⟨B,u⟩:=NM c;exact⟨B,h.fl u,E5.tk h.so u⟩
 split
 .rename_i _ e;obtain⟨k,q,c,o,v,p⟩:=ok.k3 e;have d:=h.d1.k k q;have hb:=d.oG o v;unfold CS.lq;rw[c,Ad,AH (by rw[hb];simp)];obtain⟨z,A⟩:=h.rs (k:=k) (x:=(b.rs k).lq f) (λ_=>d.reset o v p) rfl;exact⟨rfl,z,A⟩
 split
 .rename_i e;obtain⟨k,q,c,o,v,p⟩:=ok.k4 e;have d:=h.d1.k k q;have hb:=d.nG o p;unfold CS.data;rw[c,Ad,AH<|by rw[hb];simp,AH (by
   rintro⟨O,X⟩;have O:=d.hc;have O:=d.cg;have O:=h.d1.cr;have O:=K.sp;have K:f.end_<=(a k).high:=o;have K:=UQ (ws:=a.ws) (rs:=b.rs) 8 q<|λj l=>(h.d1.k j l).rh;unfold CS.mi at O;omega)]
  obtain⟨z,A⟩:=h.rs (k:=k) (x:=(b.rs k).data f) (λ_=>d.data o v p) rfl;exact⟨rfl,z,A⟩
 split
 .rename_i e;have p:=ok.k5 e;refine⟨rfl,⟨⟨h.d1.k,h.d1.cr⟩,⟨h.d2.k,Nat.max_le.2 ⟨h.d2.cr,p⟩⟩,⟨h.so.w,h.so.kf,AK h.so.sp<|BO _ _,h.so.wt⟩,h.ms.same ⟨rfl,rfl,rfl⟩ rfl,h.sm⟩,⟨rfl,rfl,⟨rfl,rfl⟩,rfl,⟨rfl,rfl⟩,EQ.oO h.so (λ_ _=>.inl<|FB.refl _) ro<|λ_ _=>AF _,rfl⟩⟩
 split
 .rename_i e;obtain⟨k,q,c,T⟩:=ok.k6 e;rw[c,Ad];have B:∀j,ze b.ws k { b.ws k with lA:=max (b k).lA f.mF } j=if j=k then{ b.ws k with lA:=max (b k).lA f.mF }else b.ws j:=λj=>rfl
  have s:∀n,zJ (ze b.ws k { b.ws k with lA:=max (b k).lA f.mF }) n=zJ b.ws n:=λn=>by
   induction n with
   | zero=>rfl
   | succ n ih =>
    show zJ _ n+(ze b.ws k _ n).high=zJ b.ws n+(b n).high;rw[ih];congr 1;by_cases e:n=k
    .subst e;rw[zf]
    rw[zd _ _ e]
  refine⟨rfl,⟨⟨h.d1.k,h.d1.cr⟩,⟨λj l=>?_,h.d2.cr⟩,⟨λj l=>?_,λj l=>?_,?_,h.so.wt⟩,h.ms.same ⟨rfl,rfl,rfl⟩ rfl,h.sm⟩,⟨rfl,rfl,⟨rfl,rfl⟩,rfl,⟨rfl,rfl⟩,EQ.oO h.so (λj _=>?_) ro<|λ_ _=>AF _,rfl⟩⟩
  .show Dn (ze b.ws k _ j) (a.rs j) (Eb j);by_cases e:j=k
   .subst e;rw[zf];exact(h.d2.k j l).lA T
   rw[zd _ _ e];exact h.d2.k j l
  .show Fa (ze b.ws k _ j) (ze b.ws k _ j);by_cases e:j=k
   .subst e;rw[zf];have w:=h.so.w j l;exact⟨rfl,rfl,rfl,rfl,rfl,rfl,AF _,w.hl,AK w.hc<|BO _ _,w.hf⟩
   rw[zd _ _ e];exact h.so.w j l
  .show(ze b.ws k _ j).lG<=(ze b.ws k _ j).final;by_cases e:j=k
   .subst e;rw[zf];exact h.so.kf j l
   rw[zd _ _ e];exact h.so.kf j l
  .show zJ (ze b.ws k _) 8<=b.lA;rw[s];exact h.so.sp
  show FB (b j) (ze b.ws k _ j)\/∃n,ze b.ws k _ j={ b.ws j with lA:=n };by_cases e:j=k
  .subst e;rw[zf];exact .inr ⟨_,rfl⟩
  rw[zd _ _ e];exact .inl<|FB.refl _
 split
 .rename_i e;have m:=h.ms.message (ok.k7 e) h.sm;have E:(b.message f).seen=[]->(b.message f).most=0:=by
   unfold CS.message;split
   .exact h.sm
   rename_i c;simp only[Bb,not_or,CO,Aj,Nat.not_lt]at c;intro q;exfalso;have q:(b.seen++[(f.id,f.dl)]).filter (λp => !D9 (max b.most f.id) p.1)=[]:=q;have a:D9 (max b.most f.id) f.id=false:=by
    by_cases d:b.seen=[]
    .have:=h.sm d;unfold D9;simp only[CE,Aj];omega
    have l:=BM.2 d;have:=c.2;rw[Au l,Bh]at this;unfold D9 at *;simp only[CE,Aj]at *;omega
   have t:(f.id,f.dl)∈(b.seen++[(f.id,f.dl)]).filter (λp => !D9 (max b.most f.id) p.1):=BI.2 ⟨lm,by simp[a]⟩;rw[q]at t;cases t
  have u:∃x y z,b.message f={ b with most:=x,seen:=y,lC:=z }:=by
   unfold CS.message;split
   .exact⟨b.most,b.seen,b.lC,rfl⟩
   exact⟨_,_,_,rfl⟩
  obtain⟨x,y,z,a⟩:=u;rw[a]at m E ⊢;exact⟨rfl,⟨⟨h.d1.k,h.d1.cr⟩,⟨h.d2.k,h.d2.cr⟩,⟨h.so.w,h.so.kf,h.so.sp,h.so.wt⟩,m,E⟩,⟨rfl,rfl,⟨rfl,rfl⟩,rfl,⟨rfl,rfl⟩,EQ.oO h.so (λ_ _=>.inl<|FB.refl _) ro<|λ_ _=>AF _,rfl⟩⟩
 split
 .rename_i e;exact absurd e ok.k8
 exact⟨rfl,h,N⟩
def Rc.answer{a b:CS}(h:Rc a b Ea Eb Ga Gb)(w:Bool):Rc a { b with answer:=w } Ea Eb Ga Gb :=
 ⟨⟨h.d1.k,h.d1.cr⟩,⟨h.d2.k,h.d2.cr⟩,⟨h.so.w,h.so.kf,h.so.sp,h.so.wt⟩,h.ms.same ⟨rfl,rfl,rfl⟩ rfl,h.sm⟩
variable{c:CS}
def Ir.trans{a b:CS}(h:Ir a b)(k:Ir b c):Ir a c:=⟨k.next.trans h.next,k.now.trans h.now,⟨k.ids.1.trans h.ids.1,k.ids.2.trans h.ids.2⟩,k.waits.trans h.waits,⟨k.cfg.1.trans h.cfg.1,k.cfg.2.trans h.cfg.2⟩,h.sle.trans k.sle,k.lQ.trans h.lQ⟩
theorem Rc.lk{a:CS}(d:Dq a Ga):∀(c:List DV) (b:CS),Rc a b Ea Eb Ga Gb->(∀f∈c,Ev f)->(∀f∈c,FJ a b.next Ga f)->(CS.lk c b).1=0/\Rc a (CS.lk c b).2 Ea Eb Ga Gb/\Ir b (CS.lk c b).2
 | [],b,h,_,_=>⟨rfl,h,⟨rfl,rfl,⟨rfl,rfl⟩,rfl,⟨rfl,rfl⟩,EQ.refl h.so,rfl⟩⟩
 | f::c,b,h,hr,ho=>by
  obtain⟨o,e,l⟩:=h.take d (hr f AQ)<|ho f AQ;have h:=e.answer<|(b.take f).2.answer||f.kind != 2;obtain⟨p,q,s⟩:=Rc.lk d c _ h (λg c=>hr g<|AV _ c) (λg c=>by
   show FJ a (b.take f).2.next Ga g;rw[l.next];exact ho g<|AV _ c)
  unfold CS.lk;rw[AH (by rw[o];simp)];have r:=EQ.refl e.so;have a:Ir (b.take f).2 { (b.take f).2 with answer:=(b.take f).2.answer||f.kind != 2 }:=⟨rfl,rfl,⟨rfl,rfl⟩,rfl,⟨rfl,rfl⟩,⟨r.ws,r.kz,r.rg⟩,rfl⟩;exact⟨p,q,l.trans<|a.trans s⟩
structure JJ(c:CS)(G:List SN):Prop where
 ok:Ho c G
 cm:c.lC=[]
 sm:c.seen=[]->c.most=0
structure JK(c:CS)(G:List SN)(nx:Nat):Prop where
 id:c.mI=true->c.l8<nx
 gi:∀s∈G,s.id<nx
 wl:c.waits.length<=G.length
def GC(G a:List SN):Prop:=∀s∈G,∃s'∈a,s'.id=s.id/\s'.dl=s.dl/\s'.data=s.data
def GC.refl(G:List SN):GC G G:=λs a=>⟨s,a,rfl,rfl,rfl⟩
structure NS.Safe(n:NS):Prop where
 d:∀i,i<2->FV (n i) (n<|1-i) (n.e i)
 so:∀i,i<2->Dq (n i) (n.g i)
 gr:∀i,i<2->JJ (n i) (n.g<|1-i)
 dg:∀i,i<2->JK (n i) (n.g i) (n.next i)
 now:∀i,i<2->(n i).now=n.now
 lZ:∀i,i<2->(n i).lZ=n.lZ
 ct:∀i,i<2->n.count i=(n i).next
 lQ:∀i,i<2->∀r∈(n i).lQ.rs,r.2<(n<|1-i).next
 lP:∀p∈n.lP,p.1<2/\G6 (n<|1-p.1) (n p.1).next (n.g<|1-p.1) p.2
 up:n.Up
variable{i j:Nat}
def Gd(hi:i<2)(a:j<2):j=i\/j=1-i:=I
structure KZ(n n':NS)(i:Nat):Prop where
 o:n'.c (1-i)=n.c (1-i)
 l:EQ (n i) (n' i)
 x:(n i).next<=(n' i).next
 d1:FV (n' i) (n<|1-i) (n'.e i)
 d2:FV (n<|1-i) (n' i) (n'.e<|1-i)
 so:Dq (n' i) (n'.g i)
 g1:GC (n.g i) (n'.g i)
 g2:GC (n.g<|1-i) (n'.g<|1-i)
 gl:(n.g<|1-i).length=(n'.g<|1-i).length
 gr:JJ (n' i) (n'.g<|1-i)
 gs:Ho (n<|1-i) (n'.g i)
 dg:JK (n' i) (n'.g i) (n'.next i)
 di:∀s∈n'.g (1-i),s.id<n'.next (1-i)
 nx:n'.next (1-i)=n.next (1-i)
 now:(n' i).now=n.now/\n'.now=n.now
 lZ:(n' i).lZ=n.lZ/\n'.lZ=n.lZ
 ct:n'.count i=(n' i).next/\n'.count (1-i)=n.count (1-i)
 lQ:∀r∈(n' i).lQ.rs,r.2<(n<|1-i).next
 lP:∀p∈n'.lP,p∈n.lP\/(p.1<2/\G6 (n'<|1-p.1) (n' p.1).next (n'.g<|1-p.1) p.2)
 up:(n' i).closed=0
variable{n n':NS}
def NS.Safe.mz(h:n.Safe)(hi:i<2)(t:KZ n n' i):n'.Safe:=by
 have d:1-(1-i)=i:=I;have l:1-i<2:=I;have o:Dq (n<|1-i) (n'.g<|1-i):=by
  have s:=h.so (1-i) l;exact⟨s.w,s.kf,s.sp,λf c=>by
   obtain⟨a,b,e,q,u,v,z⟩:=s.wt f c;obtain⟨f,c,s,A,B⟩:=t.g2 e q;exact⟨a,b,f,c,s.trans u,A.trans v,B.trans z⟩⟩
 have s:∀p:Nat×rC,p.1<2->G6 (n<|1-p.1) (n p.1).next (n.g<|1-p.1) p.2->G6 (n'<|1-p.1) (n' p.1).next (n'.g<|1-p.1) p.2:=λp f q=>by
  rcases Gd hi f with e|e
  .rw[e]at q ⊢;rw[t.o];exact q.mono (EQ.refl<|h.so (1-i) l) (λk c=>((h.so (1-i) l).w k c).hl) ro t.x t.g2
  rw[e,d]at q ⊢;rw[t.o];exact q.mono t.l (λk c=>((h.so i hi).w k c).hl) t.x ro t.g1
 refine⟨λj c=>?_,λj c=>?_,λj c=>?_,λj c=>?_,λj c=>?_,λj c=>?_,λj c=>?_,λj c=>?_,λp f=>?_,λj c=>?_⟩
 .rcases Gd hi c with e|e
  .rw[e,t.o];exact t.d1
  rw[e,d,t.o];exact t.d2
 .rcases Gd hi c with e|e
  .rw[e];exact t.so
  rw[e,t.o];exact o
 .rcases Gd hi c with e|e
  .rw[e];exact t.gr
  rw[e,d,t.o];exact⟨t.gs,(h.gr (1-i) l).cm,(h.gr (1-i) l).sm⟩
 .rcases Gd hi c with e|e
  .rw[e];exact t.dg
  rw[e,t.o];have a:=h.dg (1-i) l;exact⟨by rw[t.nx];exact a.id,t.di,by rw[<-t.gl];exact a.wl⟩
 .rcases Gd hi c with e|e
  .rw[e,t.now.2];exact t.now.1
  rw[e,t.o,t.now.2];exact h.now _ l
 .rcases Gd hi c with e|e
  .rw[e,t.lZ.2];exact t.lZ.1
  rw[e,t.o,t.lZ.2];exact h.lZ _ l
 .rcases Gd hi c with e|e
  .rw[e];exact t.ct.1
  rw[e,t.o,t.ct.2];exact h.ct _ l
 .rcases Gd hi c with e|e
  .rw[e,t.o];exact t.lQ
  rw[e,t.o,d];intro r o;have:=h.lQ _ l r o;rw[d]at this;have:=t.x;omega
 .rcases t.lP p f with q|q
  .obtain⟨a,b⟩:=h.lP p q;exact⟨a,s p a b⟩
  exact q
 rcases Gd hi c with e|e
 .rw[e];exact t.up
 rw[e,t.o];exact h.up _ l
def NS.nK(n:NS)(i:Nat):n.lS i (n i)=n:=by unfold NS.lS;rw[Fd]
def NS.nH(n:NS)(i:Nat)(c:CS):(n.lS i c).c i=c:=by show ze n.c i c i=c;rw[zf]
def NS.nQ(n:NS)(hi:i<2)(c:CS):(n.lS i c).c (1-i)=n.c (1-i):=by show ze n.c i c (1-i)=_;rw[zd _ _ I]
variable{c':CS}
def KZ.user(h:n.Safe)(hi:i<2){E:Nat->Nat->EN}(l:EQ (n i) c')(x:c'.next=(n i).next)(t:FV c' (n (1-i)) (E i))(u:FV (n (1-i)) c' (E (1-i)))(v:Dq c' (n.g i))(c:c'.seen=(n i).seen/\c'.most=(n i).most/\c'.lC=(n i).lC)
  (a:c'.l8=(n i).l8/\c'.mI=(n i).mI) (z:c'.waits=(n i).waits) (now:c'.now=(n i).now) (d:c'.lZ=(n i).lZ) (f:c'.lQ=(n i).lQ) (A:c'.closed=(n i).closed):KZ n { n.lS i c' with e:=E } i:=by
 have B:({ n.lS i c' with e:=E }:NS).c i=c':=NS.nH n i c';have q:1-i<2:=I;have e:=h.gr i hi;have o:=h.dg i hi;have s:=h.gr (1-i) q;have p:1-(1-i)=i:=I;rw[p]at s;refine⟨NS.nQ n hi c',?_,?_,?_,?_,?_,GC.refl _,GC.refl _,rfl,?_,s.ok,?_,(h.dg (1-i) q).gi,rfl,⟨?_,rfl⟩,⟨?_,rfl⟩,⟨?_,rfl⟩,?_,λp q=>.inl q,?_⟩;all_goals rw[B]
 .exact l
 .exact Az x.symm
 .exact t
 .exact u
 .exact v
 .exact⟨e.ok.same c now,c.2.2.trans e.cm,by rw[c.1,c.2.1];exact e.sm⟩
 .exact⟨by rw[a.1,a.2];exact o.id,o.gi,by rw[z];exact o.wl⟩
 .exact now.trans (h.now i hi)
 .exact d.trans (h.lZ i hi)
 .rw[x];exact h.ct i hi
 .rw[f];exact h.lQ i hi
 rw[A];exact h.up i hi
variable{y:WS}
def NS.Safe.writer(h:n.Safe)(hi:i<2)(q:k<8){f:EN}(l:Fj (n i k) y)(p:y.high=(n i k).high)(d:Dn y ((n (1-i)).rs k) f)(s:y.lG<=y.final):((n.lS i { n.c i with ws:=ze (n i).ws k y }).nC i k f).Safe:=by
 have a:1-i<2:=I;have hd:=h.d i hi;have c:=h.d (1-i) a;have o:=h.so i hi;have p:1-(1-i)=i:=I;rw[p]at c;have t:KZ n { n.lS i { n.c i with ws:=ze (n i).ws k y }with e:=ze n.e i (ze (n.e i) k f) } i:=by
  refine KZ.user h hi (c':={ n.c i with ws:=ze (n i).ws k y }) ⟨λj a=>?_,AF _,λ_ _=>AF _⟩ rfl ⟨λj a=>?_,hd.cr⟩ ?_ ⟨λj a=>?_,λj a=>?_,?_,o.wt⟩ ⟨rfl,rfl,rfl⟩ ⟨rfl,rfl⟩ rfl rfl rfl rfl rfl
  .show Fj (n i j) (ze (n i).ws k y j);by_cases e:j=k
   .subst e;rw[zf];exact l
   rw[zd _ _ e];exact(o.w j a).le
  .show Dn (ze (n i).ws k y j) ((n<|1-i).rs j) (ze n.e i (ze (n.e i) k f) i j);rw[zf];by_cases e:j=k
   .subst e;rw[zf,zf];exact d
   rw[zd _ _ e,zd _ _ e];exact hd.k j a
  .show FV (n<|1-i) _ (ze n.e i (ze (n.e i) k f)<|1-i);rw[zd _ _ (I:1-i≠i)];exact⟨c.k,c.cr⟩
  .show Fa (ze (n i).ws k y j) (ze (n i).ws k y j);by_cases e:j=k
   .subst e;rw[zf];exact d.qC
   rw[zd _ _ e];exact o.w j a
  .show(ze (n i).ws k y j).lG<=(ze (n i).ws k y j).final;by_cases e:j=k
   .subst e;rw[zf];exact s
   rw[zd _ _ e];exact o.kf j a
  have:=PO (n i).ws k y 8 q;have:=o.sp;unfold CS.mi at *;show zJ (ze (n i).ws k y) 8<=(n i).lA;omega
 exact h.mz hi t
def PG(h:n.Safe)(hi:i<2)(a:k<8):(n i).stream (k:Int)=0:=by
 unfold CS.stream;rw[AH (by rw[h.up i hi];simp),AH I]
def NS.Safe.send(h:n.Safe)(hi:i<2)(f:k<8)(s:rC):(n.send i k s).1=true/\(n.send i k s).2.Safe:=by
 have d:=(h.d i hi).k k f;have o:=PG h hi f;have p:=h.so i hi;unfold NS.send;by_cases a:((n.e i k).fin||(n.e i k).cut)=true
 .have c:(n i).send k s=(4,n.c i):=by
   unfold CS.send;rw[AH (by rw[o];simp),Ad,AM (by rw[<-d.fi,<-d.cu];exact a)]
  rw[AM a,c,NS.nK];exact⟨rfl,h⟩
 rw[AH a];by_cases e:2048<(n.e i k).wrote.length+s.length
 .have c:(n i).send k s=(3,n.c i):=by
   unfold CS.send;rw[AH (by rw[o];simp),Ad,AH<|by rw[<-d.fi,<-d.cu];exact a,AM (by rw[<-d.wr];exact e)]
  rw[AM e,c,NS.nK];exact⟨rfl,h⟩
 have c:(n i).send k s=(0,{ n.c i with ws:=ze (n i).ws k { (n i).ws k with b:=(n i k).b++s } }):=by
  unfold CS.send;rw[AH (by rw[o];simp),Ad,AH<|by rw[<-d.fi,<-d.cu];exact a,AH (by rw[<-d.wr];exact e)]
 rw[AH e,c];rw[d.fi,d.cu]at a;simp only[CO,BW]at a;have c:=d.hl;rw[d.wr]at e;have l:Fj (n i k) { (n i).ws k with b:=(n i k).b++s } :=
  ⟨List.prefix_append _ _,λq=>(by rw[a.1,a.2]at q;simp at q),AF _,by show _<=(_++s).length;rw[AG];show(n i k).high<=_;omega,id,λq=>(by rw[a.2]at q;cases q),λq=>(by rw[a.1]at q;cases q)⟩
 refine⟨rfl,h.writer hi f l rfl (d.qD l (by show(_++s).length<=_;rw[AG];omega) d.hc d.cg d.hf ?_ d.fi d.cu d.ke rfl rfl) (p.kf k f)⟩;show(n.e i k).wrote++s=_;rw[d.wr]
def NS.Safe.finish(h:n.Safe)(hi:i<2)(c:k<8):(n.finish i k).1=true/\(n.finish i k).2.Safe:=by
 have d:=(h.d i hi).k k c;have f:=PG h hi c;have o:=h.so i hi;unfold NS.finish;by_cases a:((n.e i k).fin||(n.e i k).cut)=true
 .have e:(n i).finish k=(4,n.c i):=by
   unfold CS.finish;rw[AH (by rw[f];simp),Ad,AM (by rw[<-d.fi,<-d.cu];exact a)]
  rw[AM a,e,NS.nK];exact⟨rfl,h⟩
 have e:(n i).finish k=(0,{ n.c i with ws:=ze (n i).ws k { (n i).ws k with finished:=true } }):=by
  unfold CS.finish;rw[AH (by rw[f];simp),Ad,AH (by rw[<-d.fi,<-d.cu];exact a)]
 rw[AH a,e];rw[d.fi,d.cu]at a;simp only[CO,BW]at a;have l:Fj (n i k) { (n i).ws k with finished:=true } :=
  ⟨Cn _,λ_=>rfl,AF _,d.hl,λ_=>rfl,λq=>⟨q,rfl,AF _⟩,λq=>(by rw[a.1]at q;cases q)⟩
 exact⟨rfl,h.writer hi c l rfl (d.qD l d.bl d.hc d.cg d.hf d.wr rfl d.cu d.ke rfl rfl) (o.kf k c)⟩
def NS.Safe.read(h:n.Safe)(hi:i<2)(z:k<8)(c:Nat):(n.read i k c).1=true/\(n.read i k c).2.Safe:=by
 have s:1-i<2:=I;have u:1-(1-i)=i:=I;have o:=h.d (1-i) s;rw[u]at o;have d:=o.k k z;have A:=h.d i hi;have f:=h.so i hi;have B:=PG h hi z;have step:∀(x:RS) (l:EN),Dn (n (1-i) k) x l->x.kz=((n i).rs k).kz->((n.lS i { n.c i with rs:=ze (n i).rs k x }).nC (1-i) k l).Safe:=by
  intro x l E K;have N:∀j,((n i).rs j).kz=(ze (n i).rs k x j).kz:=λj=>by
   by_cases e:j=k
   .subst e;rw[zf];exact K.symm
   rw[zd _ _ e]
  have t:KZ n { n.lS i { n.c i with rs:=ze (n i).rs k x }with e:=ze n.e (1-i) (ze (n.e<|1-i) k l) } i:=by
   refine KZ.user h hi (c':={ n.c i with rs:=ze (n i).rs k x }) (EQ.oO f (λ_ _=>.inl<|FB.refl _) ro<|λj _=>Az<|N j) rfl ?_ ⟨λj s=>?_,o.cr⟩ ⟨f.w,f.kf,f.sp,f.wt⟩ ⟨rfl,rfl,rfl⟩ ⟨rfl,rfl⟩ rfl rfl rfl rfl rfl
   .rw[zd _ _ (I:i≠1-i)];exact⟨A.k,A.cr⟩
   show Dn (n (1-i) j) (ze (n i).rs k x j) (ze n.e (1-i) (ze (n.e<|1-i) k l) (1-i) j);rw[zf];by_cases e:j=k
   .subst e;rw[zf,zf];exact E
   rw[zd _ _ e,zd _ _ e];exact o.k j s
  exact h.mz hi t
 by_cases p:((n i).rs k).state=0
 .obtain⟨a,b,e⟩:=d.qI c p;have v:(n i).read (k:Int) (c:Int)=(((((n i).rs k).b.drop ((n i).rs k).read).take<|((n i).rs k).lp c-((n i).rs k).read,((n i).rs k).l7<|((n i).rs k).lp c,0),{ n.c i with rs:=ze (n i).rs k { (n i).rs k with read:=((n i).rs k).lp c,state:=((n i).rs k).l7 (((n i).rs k).lp c) } }):=by
   unfold CS.read;rw[AH (by rw[B];simp),Ad,Ad,AH (by rw[p];simp)]
  unfold NS.read;rw[v,AH (λq=>by have:=a.symm.trans q;cases this)];exact⟨b,step _ _ e rfl⟩
 obtain⟨a,b,e⟩:=d.ot c p;have v:(n i).read (k:Int) (c:Int)=(([],((n i).rs k).state,0),n.c i):=by
  unfold CS.read;rw[AH (by rw[B];simp),Ad,AM p]
 unfold NS.read;rw[v,AH (λq=>by have:=a.symm.trans q;cases this)];refine⟨b,?_⟩;have:=step _ _ e rfl;rw[Fd]at this;exact this
variable{T:Nat}
def NS.Safe.flush(h:n.Safe)(hI:n.Inv T)(a:T<=Db)(hi:i<2):(n.flush i).1=true/\(n.flush i).2.Safe:=by
 have o:1-i<2:=I;have l:1-(1-i)=i:=I;have v:=(h.d i hi);have c:=(hI.c i hi).pN a;have z:=(hI.c i hi).nX a;have a:=h.so i hi;have q:=h.gr i hi;have s:=h.dg i hi;have A:=h.gr (1-i) o;have t:=h.d (1-i) o;rw[l]at A t;have d:=h.lQ i hi;have X:Dq (n i).lW.2 (n.g i)/\(∀r∈(n i).lW.1,r.2<(n<|1-i).next)/\(∃w,(n i).lW.2={ n.c i with answer:=w }):=by
  unfold CS.lW;split
  .exact⟨⟨a.w,a.kf,a.sp,a.wt⟩,λr e=>d r<|List.mem_reverse.1 e,_,rfl⟩
  exact⟨a,λr e=>(by cases e),(n i).answer,rfl⟩
 obtain⟨e,T,w,B⟩:=X;have a:(n i).lW.2.lZ=(n i).lZ/\(n i).lW.2.next=(n i).next/\(n i).lW.2.now=(n i).now:=by rw[B];exact ri
 obtain⟨p1,⟨p,p2,p3⟩,p4,f,u⟩:=P2 (nx:=(n<|1-i).next) (G:=n.g i) (12-(n i).kx.length+(n i).lW.1.length+1) (n i).lW.2 (n i).lW.1 (n.lS i (n i).lE.2) i c e T (by rw[a.1];exact(h.lZ i hi).symm) (by rw[a.2.1];exact h.ct i hi) (by rw[a.2.2];exact(h.now i hi).symm);have e:CS.mH (12-(n i).kx.length+(n i).lW.1.length+1) (n i).lW.2 (n i).lW.1=(n i).lE:=rfl;rw[e]at p1 p2 p3 p4 f u;have a:=z.but;clear z c e;rw[B]at f u a;unfold NS.flush;refine⟨p1,?_⟩;rw[p2];obtain⟨Y,e,z,E,Z,B,b7,T⟩:=a.hd;obtain⟨t1,e,t3,t4,K,N,O⟩:=a.tl;have bw:=a.wl;have br:=a.rs;clear a;generalize (n i).lE.2=c2 at *;have z:({ n.lS i c2 with count:=ze n.count i c2.next,lP:=n.lP++p }:NS).c i=c2:=NS.nH n i c2;have B:({ n.lS i c2 with count:=ze n.count i c2.next,lP:=n.lP++p }:NS).c (1-i)=n.c (1-i):=NS.nQ n hi c2;refine h.mz (n':={ n.lS i c2 with count:=ze n.count i c2.next,lP:=n.lP++p }) hi ⟨B,?_,?_,?_,?_,?_,GC.refl _,GC.refl _,rfl,?_,A.ok,?_,(h.dg (1-i) o).gi,rfl,⟨?_,rfl⟩,⟨?_,rfl⟩,⟨?_,?_⟩,?_,λp A=>?_,?_⟩;all_goals try rw[z]
 .exact⟨f.sle.ws,f.sle.kz,f.sle.rg⟩
 .exact u
 .exact⟨λk c=>(v.k k c).put<|f.ws k c,by rw[t1];exact v.cr⟩
 .refine⟨λk c=>?_,AK t.cr f.kz⟩;obtain⟨g,a,e,_⟩:=br k c;have o:=f.rg k c;rw[e]at o ⊢;exact(t.k k c).kz g a o
 .exact p4
 .exact⟨q.ok.same ⟨K,N,O⟩ E,O.trans q.cm,by rw[K,N];exact q.sm⟩
 .exact⟨by rw[t3,t4];exact s.id,s.gi,AK bw s.wl⟩
 .exact E.trans (h.now i hi)
 .exact Y.trans (h.lZ i hi)
 .show ze n.count i c2.next i=_;rw[zf]
 .show ze n.count i c2.next (1-i)=_;rw[zd _ _ I]
 .rw[b7];exact d
 .rcases Ak.1 A with x|x
  .exact .inl x
  obtain⟨a,c⟩:=p3 p x;refine .inr ⟨I,?_⟩;rw[a,l,z,B];exact c
 rw[Z];exact h.up i hi
def FZ(id:Nat)(s:SN):SN:=if s.id=id then{ s with lC:=true }else s
theorem Q3(now id:Nat)(data:rC):∀(G:List SN) (r:Bool),(EL now id data G r).2=G.map (FZ id)
 | [],_=>rfl
 | g::l,r=>by
  unfold EL;split
  .rename_i e;simp only[Bq,Q3 now id data l];unfold FZ;rw[AM e]
  rename_i e;simp only[Bq,Q3 now id data l];unfold FZ;rw[AH e]
theorem U3(now id:Nat)(data:rC):∀(G:List SN) (r:Bool),(∀s∈G,s.id≠id)->(EL now id data G r).1=r
 | [],_,_=>rfl
 | g::l,r,h=>by
  unfold EL;rw[AH (h g AQ)];exact U3 now id data l r<|λs a=>h s<|AV _ a
theorem UP(now id:Nat)(data:rC):∀(G:List SN) (r:Bool),(G.map (·.id)).Nodup->(∃s∈G,s.id=id/\s.data=data/\s.lC=false/\now<=s.dl)->(EL now id data G r).1=true
 | [],_,_,h=>by obtain⟨s,a,_⟩:=h;cases a
 | g::l,r,nd,h=>by
  rw[Bq,List.nodup_cons]at nd;obtain⟨s,a,d,f,o,p⟩:=h;unfold EL;by_cases e:g.id=id
  .rw[AM e];have c:∀s∈l,s.id≠id:=λs a q=>nd.1<|by rw[e,<-q];exact BL.2 ⟨s,a,rfl⟩
   rcases Ay.1 a with x|x
   .subst x;show(EL now id data l _).1=true;rw[U3 now id data l _ c,f,o];simp[p]
   exact absurd d<|c s x
  rw[AH e];rcases Ay.1 a with x|x
  .subst x;exact absurd d e
  exact UP now id data l r nd.2 ⟨s,x,d,f,o,p⟩
structure ON(l:List (Nat×rC))(f:SN->SN):Prop where
 id:∀s,(f s).id=s.id
 dl:∀s,(f s).dl=s.dl
 data:∀s,(f s).data=s.data
 no:∀s,(f s).lC=true->s.lC=true\/∃p∈l,p.1=s.id
 mL:∀s,s.lC=true->(f s).lC=true
 yes:∀s,(∃p∈l,p.1=s.id)->(f s).lC=true
def gR{m:Nat×rC}{l:List (Nat×rC)}{f:SN->SN}(h:ON l f):ON (m::l) (λs=>f (FZ m.1 s)):=by
 have e:∀s,(FZ m.1 s).id=s.id/\(FZ m.1 s).dl=s.dl/\(FZ m.1 s).data=s.data/\((FZ m.1 s).lC=true->s.lC=true\/m.1=s.id)/\(s.lC=true->(FZ m.1 s).lC=true)/\(m.1=s.id->(FZ m.1 s).lC=true):=λs=>by
  unfold FZ;split
  .rename_i q;exact⟨rfl,rfl,rfl,λ_=>.inr q.symm,λ_=>rfl,λ_=>rfl⟩
  rename_i q;exact⟨rfl,rfl,rfl,λx=>.inl x,id,λx=>absurd x.symm q⟩
 refine⟨λs=>(h.id _).trans (e s).1,λs=>(h.dl _).trans (e s).2.1,λs=>(h.data _).trans (e s).2.2.1,λs q=>?_,λs q=>h.mL _<|(e s).2.2.2.2.1 q,λs ⟨p,hp,q⟩=>?_⟩
 .rcases h.no _ q with x|⟨p,hp,x⟩
  .rcases(e s).2.2.2.1 x with y|y
   .exact .inl y
   exact .inr ⟨m,AQ,y⟩
  exact .inr ⟨p,AV _ hp,x.trans (e s).1⟩
 rcases Ay.1 hp with x|x
 .subst x;exact h.mL _<|(e s).2.2.2.2.2 q
 exact h.yes _ ⟨p,x,q.trans (e s).1.symm⟩
theorem TN(now:Nat):∀(l:List (Nat×rC)) (G:List SN),(G.map (·.id)).Nodup->(l.map (·.1)).Nodup->(∀p∈l,∃s∈G,s.id=p.1/\s.data=p.2/\s.lC=false/\now<=s.dl)->(FK now l G).1=true/\∃f,(FK now l G).2=G.map f/\ON l f
 | [],G,_,_,_=>⟨rfl,id,by show G=G.map _;rw[List.map_id],⟨λ_=>rfl,λ_=>rfl,λ_=>rfl,λ_ h=>.inl h,λ_ h=>h,λs ⟨p,hp,_⟩=>(by cases hp)⟩⟩
 | m::l,G,nd,nl,h=>by
  have d:=UP now m.1 m.2 G false nd<|h m AQ;have e:=Q3 now m.1 m.2 G false;rw[Bq,List.nodup_cons]at nl;have a:∀s,(FZ m.1 s).id=s.id:=λs=>by unfold FZ;split<;>rfl
  have c:((G.map<|FZ m.1).map (·.id)).Nodup:=by
   rw[Ca];have:((λx=>x.id) ∘ FZ m.1)=(λx:SN=>x.id):=by funext s;exact a s
   rw[this];exact nd
  obtain⟨o,f,t,u⟩:=TN now l (G.map<|FZ m.1) c nl.2 (λp hp=>by
   obtain⟨s,l,c,v,z,A⟩:=h p<|AV _ hp;have a:s.id≠m.1:=λq=>nl.1<|by rw[<-q,c];exact BL.2 ⟨p,hp,rfl⟩
   have h:FZ m.1 s=s:=by unfold FZ;rw[AH a]
   exact⟨s,BL.2 ⟨s,l,h⟩,c,v,z,A⟩)
  unfold FK;rw[AM d,e];exact⟨o,λs=>f<|FZ m.1 s,by rw[t,Ca];rfl,gR u⟩
def Oa(h:n.Safe)(hi:i<2):Rc (n (1-i)) (n i) (n.e (1-i)) (n.e i) (n.g (1-i)) (n.g i):=by
 have c:1-i<2:=I;have a:1-(1-i)=i:=I;have d:=h.d (1-i) c;rw[a]at d;exact⟨d,h.d i hi,h.so i hi,(h.gr i hi).ok,(h.gr i hi).sm⟩
variable{c2:CS}
def NS.Safe.pj(h:n.Safe)(hi:i<2)(r:Rc (n (1-i)) c2 (n.e (1-i)) (n.e i) (n.g (1-i)) (n.g i))(l:EQ (n i) c2)(x:c2.next=(n i).next)(u:c2.l8=(n i).l8/\c2.mI=(n i).mI)(Y:c2.waits=(n i).waits)
  (now:c2.now=(n i).now) (z:c2.lZ=(n i).lZ) (A:∀r∈c2.lQ.rs,r.2<(n<|1-i).next) (Z:c2.closed=0):((n.lS i c2).lC i).1=true/\((n.lS i c2).lC i).2.Safe/\∃f,((n.lS i c2).lC i).2={ n.lS i { c2 with lC:=[] }with g:=ze n.g (1-i) ((n.g<|1-i).map f) }/\ON c2.lC f:=by
 have N:1-i<2:=I;have B:1-(1-i)=i:=I;have t:=r.ms;have E:=h.dg i hi;have O:=h.gr (1-i) N;rw[B]at O;have T:=now.trans<|h.now i hi;obtain⟨m1,f,m2,e⟩:=TN n.now c2.lC (n.g<|1-i) t.nd t.cn (λp a=>by rw[<-T];exact t.ms p a);have B:=NS.nH n i c2;have e0:((n.lS i c2).lC i).1=(FK n.now c2.lC<|n.g<|1-i).1:=by
  unfold NS.lC CS.lO;rw[B];rfl
 have X:((n.lS i c2).lC i).2={ n.lS i { c2 with lC:=[] }with g:=ze n.g (1-i) ((n.g<|1-i).map f) }:=by
  unfold NS.lC CS.lO;rw[B];have B:(n.lS i c2).lS i { c2 with lC:=[] }=n.lS i { c2 with lC:=[] }:=by
   unfold NS.lS;have:ze (ze n.c i c2) i { c2 with lC:=[] }=ze n.c i { c2 with lC:=[] }:=by
    funext j;unfold ze;split<;>rfl
   simp only[this]
  show{ (n.lS i c2).lS i { c2 with lC:=[] }with g:=ze n.g (1-i) (FK n.now c2.lC<|n.g<|1-i).2 }=_;rw[B,m2]
 refine⟨e0.trans m1,?_,f,X,e⟩;rw[X];have B:({ n.lS i { c2 with lC:=[] }with g:=ze n.g (1-i) ((n.g<|1-i).map f) }:NS).c i={ c2 with lC:=[] }:=NS.nH n i _;have c:ze n.g (1-i) ((n.g<|1-i).map f) i=n.g i:=zd _ _ I;have d:ze n.g (1-i) ((n.g<|1-i).map f) (1-i)=(n.g<|1-i).map f:=zf _ _ _;refine h.mz (n':={ n.lS i { c2 with lC:=[] }with g:=ze n.g (1-i) ((n.g<|1-i).map f) }) hi ⟨NS.nQ n hi _,?_,?_,?_,?_,?_,?_,?_,?_,?_,?_,?_,?_,rfl,⟨?_,rfl⟩,⟨?_,rfl⟩,⟨?_,rfl⟩,?_,λp a=>.inl a,?_⟩;all_goals try rw[B]
 .exact⟨l.ws,l.kz,l.rg⟩
 .exact Az x.symm
 .exact⟨r.d2.k,r.d2.cr⟩
 .exact⟨r.d1.k,r.d1.cr⟩
 .show Dq _ (ze n.g (1-i) ((n.g<|1-i).map f) i);rw[c];exact⟨r.so.w,r.so.kf,r.so.sp,r.so.wt⟩
 .show GC (n.g i) (ze n.g (1-i) ((n.g<|1-i).map f) i);rw[c];exact GC.refl _
 .show GC (n.g<|1-i) (ze n.g (1-i) ((n.g<|1-i).map f)<|1-i);rw[d];exact λs v=>⟨f s,BL.2 ⟨s,v,rfl⟩,e.id s,e.dl s,e.data s⟩
 .show _=(ze n.g (1-i) ((n.g<|1-i).map f)<|1-i).length;rw[d,BD]
 .show JJ _ (ze n.g (1-i) ((n.g<|1-i).map f)<|1-i);rw[d];refine⟨⟨?_,λs v q=>?_,λp a=>(by cases a),DI,λp a=>(by cases a)⟩,rfl,r.sm⟩
  .rw[Ca];have:((λx=>x.id) ∘ f)=(λx:SN=>x.id):=by funext s;exact e.id s
   rw[this];exact t.nd
  obtain⟨K,o,rfl⟩:=BL.1 v;rw[e.id];rcases e.no _ q with y|⟨p,a,y⟩
  .exact t.se K o y
  rw[<-y];exact t.kn p a
 .show Ho (n<|1-i) (ze n.g (1-i) ((n.g<|1-i).map f) i);rw[c];exact O.ok
 .show JK _ (ze n.g (1-i) ((n.g<|1-i).map f) i) (n.next i);rw[c];exact⟨by show c2.mI=true->c2.l8<_;rw[u.1,u.2];exact E.id,E.gi,by show c2.waits.length<=_;rw[Y];exact E.wl⟩
 .show ∀s∈ze n.g (1-i) ((n.g<|1-i).map f) (1-i),s.id<n.next (1-i);rw[d];intro s v;obtain⟨K,o,rfl⟩:=BL.1 v;rw[e.id];exact(h.dg (1-i) N).gi K o
 .exact T
 .exact z.trans (h.lZ i hi)
 .show n.count i=c2.next;rw[x];exact h.ct i hi
 .exact A
 exact Z
def NS.Safe.recv(h:n.Safe)(hI:n.Inv T)(hi:i<2){b:rC}(hb:b.length<1099511627776)(p:G6 (n (1-i)) (n i).next (n.g (1-i)) b):(n.recv i b).1=0/\(n.recv i b).2.1=true/\(n.recv i b).2.2.Safe:=by
 have f:1-i<2:=I;have c:=Oa h hi;have d:=h.up i hi;obtain⟨a,l,q,e,u⟩:=p.dec;obtain⟨v,_,z⟩:=Kf hb q;have e:=h.lQ i hi;unfold NS.recv;by_cases t:Hg (n i).lQ.rs (n i).lQ.fl a=true
 .have p:(n i).lM b=((0,-1),n.c i):=by
   unfold CS.lM;rw[AH (by rw[d];simp),q];simp only;rw[AM t]
  rw[p];obtain⟨o,s,_⟩:=h.pj hi c (EQ.refl<|h.so i hi) rfl ⟨rfl,rfl⟩ rfl rfl rfl e d;exact⟨rfl,o,s⟩
 have p:(n i).lM b=(((CS.lk l { n.c i with lQ:=(n i).lQ.add a a }).1,-1),(CS.lk l { n.c i with lQ:=(n i).lQ.add a a }).2):=by
  unfold CS.lM;rw[AH (by rw[d];simp),q];simp only;rw[AH t]
 rw[p];have p:Rc (n<|1-i) { n.c i with lQ:=(n i).lQ.add a a } (n.e<|1-i) (n.e i) (n.g<|1-i) (n.g i):=⟨⟨c.d1.k,c.d1.cr⟩,⟨c.d2.k,c.d2.cr⟩,⟨c.so.w,c.so.kf,c.so.sp,c.so.wt⟩,c.ms.same ⟨rfl,rfl,rfl⟩ rfl,c.sm⟩;obtain⟨o,s,c⟩:=Rc.lk (h.so (1-i) f) l _ p z u;have p:=Rf l { n.c i with lQ:=(n i).lQ.add a a } o;have l:=QX ((hI.c i hi).lQ.1) (B:=(n<|1-i).next-1) (lo:=a) (hi:=a) (λj f=>by have:=e _<|AW<|Gh f;simp only at this;omega) I v;obtain⟨q,t,_⟩:=h.pj hi s ⟨c.sle.ws,c.sle.kz,c.sle.rg⟩ c.next c.ids c.waits c.now c.cfg.1 (λr h=>by
  rw[c.lQ]at h;obtain⟨j,f,_,e⟩:=I1<|show r∈((n i).lQ.add a a).rs from h;have:=l j f;omega) (p.trans d)
 exact⟨o,q,t⟩
def NS.Safe.spoilt(h:n.Safe)(hi:i<2){b:rC}(hd:dec b=.sum):(n.recv i b).1=7/\(n.recv i b).2.1=true/\(n.recv i b).2.2.Safe:=by
 have a:=h.up i hi;have c:(n i).lM b=((7,-1),n.c i):=by
  unfold CS.lM;rw[AH (by rw[a];simp),hd]
 unfold NS.recv;rw[c];obtain⟨c,d,_⟩:=h.pj hi (Oa h hi) (EQ.refl<|h.so i hi) rfl ⟨rfl,rfl⟩ rfl rfl rfl (h.lQ i hi) a;exact⟨rfl,c,d⟩
def UO{b:rC}(c:∃l,b=l++EP (Dy l))(a:k<b.length){x:UInt8}(d:x≠0):dec (Hy b k x)=.sum:=by
 obtain⟨l,rfl⟩:=c;have e:Hy (l++EP (Dy l)) k x=(l++EP (Dy l)).set k ((l++EP (Dy l))[k] ^^^ x):=by
  unfold Hy;have c:(l++EP (Dy l)).getD k 0=(l++EP (Dy l))[k]:=by rw[Am,AJ a];rfl
  rw[c,List.set_eq_take_append_cons_drop,AM a];rfl
 rw[e];refine fO l k _ a<|λq=>d ?_;generalize (l++EP (Dy l))[k]=y at q;have a:y.toBitVec=y.toBitVec ^^^ x.toBitVec:=A8 UInt8.toBitVec q;have c:x.toBitVec=0#8:=by
  have:=A8 (λz=>y.toBitVec ^^^ z) a;simp only[BitVec.xor_self,<-BitVec.xor_assoc,BitVec.zero_xor]at this;exact this.symm
 exact UInt8.toBitVec_inj.1 c
def Sy(s:rC):IS s≠0:=by
 unfold IS;split
 .rename_i h;exact h
 decide
def NS.Safe.drop(h:n.Safe)(k:Nat):(n.drop k).Safe :=
 ⟨h.d,h.so,h.gr,h.dg,h.now,h.lZ,h.ct,h.lQ,λp a=>h.lP p (by
  rcases Ak.1 a with x|x
  .exact BP x
  exact Bo x),h.up⟩
def NS.Safe.carry(h:n.Safe)(hI:n.Inv T)(s:Dh):(n.carry s).1=true/\(n.carry s).2.Safe:=by
 unfold NS.carry;split
 .exact⟨rfl,h⟩
 rename_i hb;have e:DR s.a n.lP.length<n.lP.length:=zU _ _<|BM.2 hb;have d:n.lP.getD (DR s.a n.lP.length) (0,[])∈n.lP:=by simp[List.getD,e]
 obtain⟨l,a⟩:=h.lP _ d;obtain⟨_,o,e⟩:=hI.lP _ d;generalize DR s.a n.lP.length=k at *;generalize n.lP.getD k (0,[])=f at *;unfold NS.nR;split
 .have c:(if DR s.b 2=0 then n.drop k else n).Safe/\(if DR s.b 2=0 then n.drop k else n).Inv T/\G6 ((if DR s.b 2=0 then n.drop k else n).c<|1-f.1) ((if DR s.b 2=0 then n.drop k else n).c f.1).next ((if DR s.b 2=0 then n.drop k else n).g<|1-f.1) f.2:=by
   split
   .exact⟨h.drop k,hI.drop k,a⟩
   exact⟨h,hI,a⟩
  generalize (if DR s.b 2=0 then n.drop k else n)=m at *;obtain⟨d,e,f⟩:=c.1.recv c.2.1 l I c.2.2;exact⟨by rw[d,e];rfl,f⟩
 split
 .exact⟨rfl,h.drop k⟩
 split
 .obtain⟨d,e,f⟩:=h.spoilt l<|UO a.nW (zU s.b _ o)<|Sy s.s;exact⟨by rw[d,e];rfl,f⟩
 exact⟨rfl,h⟩
def Jf(c:CS):E5 c.lX c.tick:=TP c.lX
variable{G:List SN}
def TM(h:Dq c G):Dq c.tick G:=by
 have d:Dq c.lX G:=⟨h.w,h.kf,h.sp,λf e=>by
  obtain⟨a,b⟩:=BI.1<|show f∈c.waits.filter (λf => !decide (f.dl<c.now+1))from e;obtain⟨x,_,z⟩:=h.wt f a;refine⟨x,?_,z⟩;show c.now+1<=f.dl;simp only[Bl,Aj,Nat.not_lt]at b;exact b⟩
 exact d.fl<|Jf c
def Xn(h:Dq c G):EQ c c.tick:=by
 have f:=Jf c;exact⟨λk c=>Fj.of_same (f.ws k) (h.w k c).hl,Az f.kz.symm,λk c=>by
  obtain⟨a,e⟩:=f.rs k c;rw[e];exact AF _⟩
def Xm{a b:CS}{E:Nat->EN}(h:FV a b E):FV a.tick b.tick E:=by
 have c:FV a.lX b.lX E:=⟨h.k,h.cr⟩;exact(c.qs<|Jf a).qt (Jf b)
def Ms(n:NS)(hi:i<2):n.tick.c i=(n i).tick:=by
 show ze (ze n.c 0 (n.c 0).tick) 1 (n.c 1).tick i=_;by_cases e:i=1
 .subst e;rw[zf]
 have:i=0:=I;subst this;rw[zd _ _ e,zf]
def NS.Safe.tick(h:n.Safe):n.tick.Safe:=by
 have d:=λi (c:i<2)=>Ms n c
 have f:=λi=>Jf<|n i
 refine⟨λi c=>?_,λi c=>?_,λi c=>?_,λi c=>?_,λi c=>?_,λi c=>?_,λi c=>?_,λi c=>?_,λp e=>?_,λi c=>?_⟩
 .rw[d i c,d (1-i) I];exact Xm<|h.d i c
 .rw[d i c];exact TM<|h.so i c
 .rw[d i c];have g:=h.gr i c;have a:Ho (n i).lX (n.g<|1-i):=⟨g.ok.nd,g.ok.se,λp e=>(by rw[show(n i).lX.lC=(n i).lC from rfl,g.cm]at e;cases e),g.ok.cn,g.ok.kn⟩;exact⟨a.same (f i).seen (f i).now,by rw[(f i).seen.2.2];exact g.cm,by rw[(f i).seen.1,(f i).seen.2.1];exact g.sm⟩
 .rw[d i c];have q:=h.dg i c;refine⟨by rw[(f i).ids.1,(f i).ids.2];exact q.id,q.gi,?_⟩;rw[(f i).waits];exact AK (Ck _ _) q.wl
 .rw[d i c,(f i).now];show(n i).now+1=n.now+1;rw[h.now i c]
 .rw[d i c,(f i).cfg.1];exact h.lZ i c
 .rw[d i c,(f i).next];exact h.ct i c
 .rw[d i c,d (1-i) I,(f i).lQ,(f<|1-i).next];exact h.lQ i c
 .obtain⟨a,b⟩:=h.lP p e;refine⟨a,?_⟩;rw[d p.1 a,d (1-p.1) I];have s:=h.so (1-p.1) I;exact b.mono (Xn s) (λk a=>(s.w k a).hl) (Az (f _).next.symm) (Az (f _).next.symm)<|GC.refl _
 rw[d i c,(f i).closed];exact h.up i c
def OM(c:Int):DR c 8<8:=zU c 8 I
def NS.Safe.new{d a c:Nat}(h:64<=d/\d<=400):(NS.new d a c).Safe:=by
 have l:EF ⟨[],0,4097⟩ 0:=⟨In _ I,rfl,λj h=>absurd h<|A6 j,by show 1025<=4097;omega⟩;have f:∀k,Dn ((CS.new d a c).ws k) ((CS.new d a c).rs k) EN.zero:=λk =>
  ⟨AF _,AN _,AN _,AF _,λ_=>AF _,AF _,rfl,AF _,l,λp ⟨i,hi,_⟩=>absurd hi<|A6 i,λe=>(by cases e),λe=>(by cases e),λe=>(by cases e),AN _,λe=>(by cases e),λe=>(by cases e),rfl,rfl,rfl,λe=>(by cases e),rfl,rfl⟩
 exact⟨λi _=>⟨λk _=>f k,AF _⟩,λi _=>⟨λk _=>(f k).qC,λ_ _=>AF _,AN _,λf t=>(by cases t)⟩,
  λi _=>⟨⟨DI,λs q=>(by cases q),λp o=>(by cases o),DI,λp o=>(by cases o)⟩,rfl,λ_=>rfl⟩,
  λi _=>⟨λe=>(by cases e),λs q=>(by cases q),AF _⟩,λ_ _=>rfl,λ_ _=>rfl,λ_ _=>rfl,λ_ _ r u=>(by cases u),λp o=>(by cases o),λ_ _=>rfl⟩
def Q2(a:List Int)(l:List Dh):Prop:=∀s∈l,a.contains s.kind=false->∀(T:Nat) (n:NS),n.Safe->n.Inv T->T+401<=Db->(n.step s).1=true/\(n.step s).2.Safe
theorem NS.Safe.mv(c:List Int):∀(l:List Dh) {T B:Nat} {n:NS},Q2 c l->n.Safe->n.Inv T->T+401*l.length<=B->B<=Db->∃n',NS.mv c l n=some n'/\n'.Safe/\n'.Inv B
 | [],T,B,n,_,h,hI,hT,_=>⟨n,rfl,h,hI.mono<|by rw[Ae]at hT;omega⟩
 | s::l,T,B,n,HS,h,hI,hT,hB=>by
  rw[AS]at hT;have a:401*(l.length+1)=401*l.length+401:=Nat.mul_succ 401 l.length;rw[a]at hT;have d:=fun{e:Nat} {n':NS} (a:n'.Safe) (b:n'.Inv e)=>NS.Safe.mv c l (T:=e) (B:=B) (n:=n') (λq c=>HS q<|AV _ c) a b
  generalize 401*l.length=q at *;have c:T+401<=B/\T+q<=B/\T+401+q<=B:=by clear d hB h hI HS;omega
  have a:=AK c.1 hB;unfold NS.mv;split
  .exact d h hI c.2.1 hB
  rename_i e;obtain⟨f,l⟩:=HS s AQ (rB e) T n h hI a;rw[AM f];exact d l (hI.step s a) c.2.2 hB
variable{hi lo p:Nat}{s:Df}
def Wz(h:s.Ok)(a:De (s.add lo hi).rs p):De s.rs p\/(lo<=p/\p<=hi):=by
 unfold Df.add at a;split at a
 .exact .inl a
 have c:=Tm h.wf (I:max lo s.fl<=hi) (zV (Dv s.rs<|max lo s.fl) s.rs.length) (zV (D8 s.rs hi) s.rs.length) p;have q:∀{X:zE},De (X.drop 1) p->De X p:=λh=>by
  obtain⟨r,d,x⟩:=GP.1 h;exact GP.2 ⟨r,Bo d,x⟩
 have:De (EB s.rs (max lo s.fl) hi (zZ (Dv s.rs<|max lo s.fl) s.rs.length)<|zZ (D8 s.rs hi) s.rs.length) p:=by
  split at a
  .exact q a
  exact a
 rcases c.1 this with x|x
 .exact .inl x
 exact .inr I
variable{H:Nat}
def EF.ins(h:EF s H)(a:H<=2048)(c:lo<=hi->hi<H):EF (s.add lo hi) H/\∀n,De (s.add lo hi).rs n↔De s.rs n\/(lo<=n/\n<=hi):=by
 by_cases q:lo<=hi
 .exact h.add a q (c q)
 have e:s.add lo hi=s:=by
  unfold Df.add;rw[AM I]
 rw[e];exact⟨h,λn=>⟨.inl,λx=>x.elim id<|λy=>I⟩⟩
def EF.mem(h:EF s H){r:Nat×Nat}(a:r∈s.rs):r.2<H:=by
 obtain⟨j,c,_,e⟩:=I1 a;have:=h.hi j c;omega
theorem EF.me(e:H<=2048):∀(l:zE) {t:Df},EF t H->(∀r∈l,r.2<H)->EF (t.me l) H/\∀p,De (t.me l).rs p↔De t.rs p\/∃r∈l,r.1<=p/\p<=r.2
 | [],t,h,_=>⟨h,λp=>⟨.inl,λx=>x.elim id<|λ⟨_,q,_⟩=>by cases q⟩⟩
 | r::l,t,h,hl=>by
  obtain⟨a,b⟩:=h.ins e (lo:=r.1) (hi:=r.2)<|λ_=>hl r AQ;obtain⟨c,d⟩:=EF.me e l a<|λq a=>hl q<|AV _ a;refine⟨c,λp=>(d p).trans ?_⟩;rw[b p];simp only[Ay,exists_eq_or_imp];exact or_assoc
theorem EF.mN(e:H<=2048)(lo hi:Nat):∀(l:zE) {t:Df},EF t H->(∀r∈l,r.2<H)->EF (Hi l lo hi t) H/\∀p,De (Hi l lo hi t).rs p↔De t.rs p\/∃r∈l,(r.1<=p/\p<=r.2)/\(p<lo\/hi<=p)
 | [],t,h,_=>⟨h,λp=>⟨.inl,λx=>x.elim id<|λ⟨_,q,_⟩=>by cases q⟩⟩
 | r::l,t,h,hl=>by
  have o:=hl r AQ;obtain⟨c,s,d,u⟩:∃c,c=(if r.1<lo then t.add r.1 (min r.2<|lo-1)else t)/\EF c H/\∀p,De c.rs p↔De t.rs p\/(r.1<=p/\p<=r.2/\p<lo):=by
   refine⟨_,rfl,?_⟩;split
   .obtain⟨a,b⟩:=h.ins e (lo:=r.1) (hi:=min r.2<|lo-1) I;exact⟨a,λp=>(b p).trans<|or_congr_right I⟩
   exact⟨h,λp=>⟨.inl,λx=>x.elim id<|λy=>I⟩⟩
  obtain⟨f,h,v,z⟩:∃f,f=(if hi<=r.2 then c.add (max r.1 hi) r.2 else c)/\EF f H/\∀p,De f.rs p↔De c.rs p\/(r.1<=p/\p<=r.2/\hi<=p):=by
   refine⟨_,rfl,?_⟩;split
   .obtain⟨a,b⟩:=d.ins e (lo:=max r.1 hi) (hi:=r.2)<|λ_=>o;exact⟨a,λp=>(b p).trans<|or_congr_right I⟩
   exact⟨d,λp=>⟨.inl,λx=>x.elim id<|λy=>I⟩⟩
  obtain⟨c,d⟩:=EF.mN e lo hi l v<|λq e=>hl q<|AV _ e;have e:Hi (r::l) lo hi t=Hi l lo hi f:=by rw[h,s];rfl
  rw[e];refine⟨c,λp=>(d p).trans ?_⟩;rw[z p,u p];simp only[Ay,exists_eq_or_imp];constructor
  .rintro(((a|a)|a)|a)
   .exact .inl a
   .exact .inr (.inl I)
   .exact .inr (.inl I)
   exact .inr<|.inr a
  rintro(a|⟨a,b⟩|a)
  .exact .inl (.inl<|.inl a)
  .rcases b with b|b
   .exact .inl (.inl<|.inr I)
   exact .inl<|.inr I
  exact .inr a
theorem OQ:∀(rs:zE) (a c:Nat),a<=(Dd rs a c).1
 | [],a,c=>AF _
 | r::l,a,c=>by
  unfold Dd;split
  .exact OQ l a c
  split
  .exact AF _
  have:=OQ l (r.2+1) c;omega
def Wy{r:Nat×Nat}{l:zE}(h:WF (r::l)):WF l/\∀q∈l,r.2+1<q.1:=by
 refine⟨TD h 1,λq a=>?_⟩;obtain⟨j,c,e,_⟩:=I1 a;have:=h.2 0 (j+1) I<|rB c;rw[<-e];exact this
theorem Oq:∀(rs:zE) (o d p:Nat),WF rs->(Dd rs o d).1<=p->p<(Dd rs o d).2->¬ ∃r∈rs,r.1<=p/\p<=r.2
 | [],o,d,p,_,_,_,⟨_,h,_⟩=>by cases h
 | r::l,o,d,p,h,h1,h2,⟨q,hq,h3,h4⟩=>by
  obtain⟨w,s⟩:=Wy h;unfold Dd at h1 h2;have no:∀f,(Dd l f d).1<=p->p<(Dd l f d).2->q∈l->False:=λf a b c=>Oq l f d p w a b ⟨q,c,h3,h4⟩
  split at h1
  .rename_i c;rw[AM c]at h2;rcases Ay.1 hq with e|e
   .subst e;have:=OQ l o d;omega
   exact no _ h1 h2 e
  rename_i c;rw[AH c]at h2;split at h1
  .rename_i c2;rw[AM c2]at h2;have h2:p<min d r.1:=h2;rcases Ay.1 hq with e|e
   .subst e;omega
   have:=s q e;have:=(h.1 0 lm).1;have:r.1<=r.2:=this;omega
  rename_i c2;rw[AH c2]at h2;rcases Ay.1 hq with e|e
  .subst e;have:=OQ l (q.2+1) d;omega
  exact no _ h1 h2 e
theorem QD:∀(rs:zE) (d a:Nat),(Dd rs d a).2<=(Dd rs d a).1->a<=(Dd rs d a).1
 | [],d,a,h=>h
 | r::l,d,a,h=>by
  unfold Dd at h ⊢;split
  .rename_i c;rw[AM c]at h;exact QD l d a h
  rename_i c;rw[AH c]at h;split
  .rename_i c2;rw[AM c2]at h;have h:min a r.1<=d:=h;show a<=d;omega
  rename_i c2;rw[AH c2]at h;exact QD l (r.2+1) a h
def has(rs:zE)(p:Nat):Bool:=rs.any λr=>decide (r.1<=p)&&decide (p<=r.2)
variable{rs:zE}
def ME:has rs p=true↔De rs p:=by
 rw[GP];simp[has]
def oU(rs:zE):Nat:=(List.range 2048).countP (has rs)
def Xl{a b:zE}(h:∀p,De a p->De b p):oU a<=oU b :=
 List.countP_mono_left λp _ a=>ME.2<|h p<|ME.1 a
theorem Vc{p q:Nat->Bool}(a:lo<=hi)(h:∀n,q n=(p n||(decide (lo<=n)&&decide (n<hi))))(d:∀n,lo<=n->n<hi->p n=false):∀N,(List.range N).countP q=(List.range N).countP p+(min hi N-min lo N)
 | 0=>lm
 | N+1=>by
  have c:=Vc a h d N;rw[Bp,List.countP_append,List.countP_append,c,List.countP_singleton,List.countP_singleton,h N];by_cases x:lo<=N/\N<hi
  .rw[d N x.1 x.2,Au x.1,Au x.2];simp;omega
  have:(decide (lo<=N)&&decide (N<hi))=false:=rB x;rw[this,Bool.or_false];omega
def Ww{a b:zE}(c:lo<=hi)(e:hi<=2048)(h:∀p,De b p↔De a p\/(lo<=p/\p<hi))(d:∀p,lo<=p->p<hi->¬De a p):oU b=oU a+(hi-lo):=by
 have:=Vc (p:=has a) (q:=has b) c (λn=>by
  rw[Cw,ME,h n];simp[ME]) (λn x y=>by
  have:=d n x y;rw[<-ME]at this;simpa using this) 2048
 unfold oU;omega
theorem Vb{p:Nat->Bool}(h:∀n,p n=true->n<H):∀N,(List.range N).countP p<=min N H
 | 0=>lm
 | N+1=>by
  have a:=Vb h N;rw[Bp,List.countP_append,List.countP_singleton];split
  .have:=h N (by assumption);omega
  omega
def Lg{a:zE}(h:∀p,De a p->p<H):oU a<=H:=by
 have:=Vb (p:=has a) (λn x=>h n<|ME.1 x) 2048;unfold oU;omega
inductive Cl where
 | byte (k p:Nat)
 | fin (k:Nat)
 | tell (k n:Nat)
 | mF (k n:Nat)
 | all (n:Nat)
def Cl.Ok:Cl->Prop
 | .byte k _=>k<8
 | .fin k=>k<8
 | .tell k _=>k<8
 | .mF k _=>k<8
 | .all _=>True
def Cl.Of(s:Nat):Cl->Prop
 | .byte k _=>k=s
 | .fin k=>k=s
 | .tell k _=>k=s
 | _=>False
def CS.pJ(c:CS):Cl->Prop
 | .byte k p=>De (c k).lJ.rs p
 | .fin k=>(c k).ending=true
 | .tell k n=>(c k).cut=true/\(c k).lN=true/\(c k).lG=n
 | .mF k n=>(c.rs k).lU=false/\(c.rs k).kz=n
 | .all n=>c.lU=false/\c.kz=n
def Gz(f:DV):Cl->Prop
 | .byte k p=>f.kind=4/\f.stream=(k:Int)/\f.off<=p/\p<f.off+f.data.length
 | .fin k=>f.kind=4/\f.stream=(k:Int)/\f.fin=true
 | .tell k n=>f.kind=3/\f.stream=(k:Int)/\f.rel=n
 | .mF k n=>f.kind=6/\f.stream=(k:Int)/\f.mF=n
 | .all n=>f.kind=5/\f.mF=n
def CS.Has(b:CS):Cl->Prop
 | .byte k p=>De (b.rs k).lC.rs p
 | .fin k=>(b.rs k).ended=true
 | .tell k n=>(b.rs k).cut=true/\(b.rs k).ended=true/\(b.rs k).lG<=n
 | .mF k n=>n<=(b k).lA
 | .all n=>n<=b.lA
def FY(b:CS)(f:DV):Prop:=∀a,a.Ok->Gz f a->b.Has a
structure ET(x:WS):Prop where
 lJ:EF x.lJ x.high
 lC:EF x.lC x.high
 hl:x.high<=x.b.length
 bl:x.b.length<=2048
 fn:x.final<=x.b.length
def ET.top(h:ET x):x.high<=2048:=AK h.hl h.bl
def ET.again(h:ET x)(f:DV):ET (x.again f)/\∀p,De (x.again f).lJ.rs p↔(De x.lJ.rs p/\(p<f.off\/f.off+f.data.length<=p))\/De x.lC.rs p:=by
 obtain⟨a,b⟩:=EF.mN h.top f.off (f.off+f.data.length) x.lJ.rs (t:=⟨[],0,x.lJ.most⟩) ⟨In _ h.lJ.ok.most,rfl,λj c=>absurd c<|A6 j,h.lJ.most⟩<|λr e=>h.lJ.mem e;obtain⟨c,d⟩:=EF.me h.top x.lC.rs.reverse a<|λr e=>h.lC.mem<|List.mem_reverse.1 e;refine⟨⟨c,h.lC,h.hl,h.bl,h.fn⟩,λp=>(d p).trans ?_⟩;rw[b p,GP,GP,GP];simp only[CZ,false_and,exists_false,false_or,List.mem_reverse];refine or_congr_left ⟨?_,?_⟩
 .rintro⟨r,e,x,y⟩;exact⟨⟨r,e,x⟩,y⟩
 rintro⟨⟨r,e,x⟩,y⟩;exact⟨r,e,x,y⟩
def ET.ln(h:ET x)(a:f.off+f.data.length<=x.high)(hd:f.data≠[]):ET (x.ln f)/\(∀p,De (x.ln f).lJ.rs p↔De x.lJ.rs p\/(f.off<=p/\p<f.off+f.data.length))/\∀p,De (x.ln f).lC.rs p↔De x.lC.rs p\/(f.off<=p/\p<f.off+f.data.length):=by
 have a:=BM.2 hd;obtain⟨a,b⟩:=h.lJ.ins h.top (lo:=f.off) (hi:=f.off+f.data.length-1) I;obtain⟨c,d⟩:=h.lC.ins h.top (lo:=f.off) (hi:=f.off+f.data.length-1) I;exact⟨⟨a,c,h.hl,h.bl,h.fn⟩,λp=>(b p).trans<|or_congr_right I,λp=>(d p).trans<|or_congr_right I⟩
structure EW(x y:WS):Prop where
 b:y.b=x.b
 fin:y.finished=x.finished
 cut:y.cut=x.cut
 lG:y.lG=x.lG
 final:y.final=x.final
 high:x.high<=y.high
 lA:x.lA<=y.lA
def EW.refl(x:WS):EW x x:=⟨rfl,rfl,rfl,rfl,rfl,AF _,AF _⟩
def EW.trans{z:WS}(h:EW x y)(k:EW y z):EW x z:=⟨k.b.trans h.b,k.fin.trans h.fin,k.cut.trans h.cut,k.lG.trans h.lG,k.final.trans h.final,AK h.high k.high,AK h.lA k.lA⟩
structure Dc(c b:CS)(R:Cl->Prop):Prop where
 low:∀k,k<8->ET (c k)
 lC:∀k,k<8->∀p,De (c k).lC.rs p->b.Has (.byte k p)
 asks:∀cl,cl.Ok->c.pJ cl->b.Has cl\/R cl
variable{R:Cl->Prop}
def Dc.mono{b d:CS}{R':Cl->Prop}(h:Dc c b R)(hb:∀a,a.Ok->b.Has a->d.Has a)(e:∀a,a.Ok->R a->d.Has a\/R' a):Dc c d R' :=
 ⟨h.low,λk c p d=>hb _ c<|h.lC k c p d,λa c d=>(h.asks a c d).elim (λx=>.inl<|hb a c x)<|e a c⟩
structure Ed(c c':CS):Prop where
 low:∀k,k<8->ET (c k)->ET (c' k)
 lC:∀k,k<8->(c' k).lC=(c k).lC
 asks:∀cl,cl.Ok->c'.pJ cl->c.pJ cl
def Dc.ask{b:CS}(h:Dc c b R)(a:Ed c c'):Dc c' b R :=
 ⟨λk c=>a.low k c<|h.low k c,λk c p d=>h.lC k c p<|by rw[<-a.lC k c];exact d,λc d e=>h.asks c d<|a.asks c d e⟩
def Ed.refl(c:CS):Ed c c:=⟨λ_ _=>id,λ_ _=>rfl,λ_ _=>id⟩
def Ed.of(a:c'.ws=c.ws)(d:c'.rs=c.rs)(e:c'.lU=c.lU)(f:c'.kz=c.kz):Ed c c' :=
 ⟨λk _ h=>by rw[a];exact h,λk _=>by rw[a],λl _ h=>by cases l<;>simp only[CS.pJ,a,d,e,f]at h ⊢ <;> exact h⟩
end
section
open Go.RowKit
variable{c:CS}
theorem Ed.r(s:Nat){y:RS}(a:y.lU=(c.rs s).lU)(d:y.kz=(c.rs s).kz):Ed c { c with rs:=ze c.rs s y } :=
 ⟨λ_ _=>id,λ_ _=>rfl,λe o q=>by
  cases e with
  | mF k n =>
   have q:(ze c.rs s y k).lU=false/\(ze c.rs s y k).kz=n:=q;by_cases x:k=s
   .subst x;rw[zf,a,d]at q;exact q
   rw[zd _ _ x]at q;exact q
  | byte k p=>exact q
  | fin k=>exact q
  | tell k n=>exact q
  | all n=>exact q⟩
variable{y:WS}
theorem Ed.w(s:Nat)(a:ET (c s)->ET y)(d:y.lC=(c s).lC)(e:y.lJ=(c s).lJ)(f:y.ending=(c s).ending)(l:y.cut=true->y.lN=true->(c s).cut=true/\(c s).lN=true/\(c s).lG=y.lG):Ed c { c with ws:=ze c.ws s y }:=by
 refine⟨λk _ h=>?_,λk _=>?_,λt o q=>?_⟩
 .show ET (ze c.ws s y k);by_cases x:k=s
  .subst x;rw[zf];exact a h
  rw[zd _ _ x];exact h
 .show(ze c.ws s y k).lC=_;by_cases x:k=s
  .subst x;rw[zf];exact d
  rw[zd _ _ x]
 cases t with
 | byte k p =>
  have q:De (ze c.ws s y k).lJ.rs p:=q;by_cases x:k=s
  .subst x;rw[zf,e]at q;exact q
  rw[zd _ _ x]at q;exact q
 | fin k =>
  have q:(ze c.ws s y k).ending=true:=q;by_cases x:k=s
  .subst x;rw[zf,f]at q;exact q
  rw[zd _ _ x]at q;exact q
 | tell k n =>
  have q:(ze c.ws s y k).cut=true/\(ze c.ws s y k).lN=true/\(ze c.ws s y k).lG=n:=q;by_cases x:k=s
  .subst x;rw[zf]at q;obtain⟨a,b,d⟩:=l q.1 q.2.1;exact⟨a,b,d.trans q.2.2⟩
  rw[zd _ _ x]at q;exact q
 | mF k n=>exact q
 | all n=>exact q
variable{R:Cl->Prop}
theorem Dc.w{b:CS}{R':Cl->Prop}(h:Dc c b R)(s:Nat)(t:s<8->ET y)(u:s<8->∀p,De y.lC.rs p->b.Has (.byte s p))
  (o:s<8->∀d,(d.Ok/\∃p,(d=.byte s p/\De y.lJ.rs p)\/(d=.fin s/\y.ending=true)\/(d=.tell s p/\y.cut=true/\y.lN=true/\y.lG=p))->b.Has d\/R' d)
  (l:∀d,d.Ok->¬d.Of s->R d->R' d):Dc { c with ws:=ze c.ws s y } b R':=by
 refine⟨λk a=>?_,λk a p f=>?_,λd a ask=>?_⟩
 .show ET (ze c.ws s y k);by_cases e:k=s
  .subst e;rw[zf];exact t a
  rw[zd _ _ e];exact h.low k a
 .have f:De (ze c.ws s y k).lC.rs p:=f;by_cases e:k=s
  .subst e;rw[zf]at f;exact u a p f
  rw[zd _ _ e]at f;exact h.lC k a p f
 cases d with
 | byte k p =>
  have q:De (ze c.ws s y k).lJ.rs p:=ask;by_cases e:k=s
  .subst e;rw[zf]at q;exact o a _ ⟨a,p,.inl ⟨rfl,q⟩⟩
  rw[zd _ _ e]at q;exact(h.asks (.byte k p) a q).imp_right (l _ a e)
 | fin k =>
  have q:(ze c.ws s y k).ending=true:=ask;by_cases e:k=s
  .subst e;rw[zf]at q;exact o a _ ⟨a,0,.inr<|.inl ⟨rfl,q⟩⟩
  rw[zd _ _ e]at q;exact(h.asks (.fin k) a q).imp_right (l _ a e)
 | tell k n =>
  have q:(ze c.ws s y k).cut=true/\(ze c.ws s y k).lN=true/\(ze c.ws s y k).lG=n:=ask;by_cases e:k=s
  .subst e;rw[zf]at q;exact o a _ ⟨a,n,.inr<|.inr ⟨rfl,q⟩⟩
  rw[zd _ _ e]at q;exact(h.asks (.tell k n) a q).imp_right (l _ a e)
 | mF k n=>exact(h.asks (.mF k n) a ask).imp_right<|l _ a id
 | all n=>exact(h.asks (.all n) a ask).imp_right<|l _ a id
variable{f:DV}
theorem Dc.again{b:CS}(h:Dc c b R)(N:Za f):Dc (c.again f) b (λt=>R t/\¬Gz f t):=by
 obtain⟨⟨s,O,T⟩,_⟩:=N;have E:∀{t:Cl},¬t.Of s->f.kind=4\/f.kind=3->¬Gz f t:=by
  rintro t q o a;cases t with
  | byte k p=>have:=a.2.1;exact q (I:k=s)
  | fin k=>have:=a.2.1;exact q (I:k=s)
  | tell k n=>have:=a.2.1;exact q (I:k=s)
  | mF k n=>have:=a.1;omega
  | all n=>have:=a.1;omega
 unfold CS.again;rw[T,Ad];split
 .rename_i e;obtain⟨N,X⟩:=(h.low s O).again f;refine h.w s (λ_=>N) (λo p A=>h.lC s o p A) (λo t=>?_)<|λt _ q r=>⟨r,E q<|.inl e⟩;rintro⟨u,p,⟨rfl,q⟩|⟨rfl,q⟩|⟨rfl,q⟩⟩
  .rcases(X p).1 q with⟨l,d⟩|l
   .exact(h.asks (.byte s p) o l).imp_right λr=>⟨r,λa=>pp a.2.2⟩
   exact .inl<|h.lC s o p l
  .have q:((c s).ending && !f.fin)=true:=q;simp only[AZ,Bl]at q;exact(h.asks (.fin s) o q.1).imp_right λr=>⟨r,λa=>by have:=a.2.2;rw[q.2]at this;cases this⟩
  exact(h.asks (.tell s p) o q).imp_right λr=>⟨r,λa=>pp a.1⟩
 rename_i v;split
 .rename_i e;refine h.w s (λo=>⟨(h.low s o).lJ,(h.low s o).lC,(h.low s o).hl,(h.low s o).bl,(h.low s o).fn⟩) (λo p A=>h.lC s o p A) (λo t=>?_)<|λt _ q r=>⟨r,E q<|.inr e⟩;rintro⟨u,p,⟨rfl,q⟩|⟨rfl,q⟩|⟨rfl,l,d,z⟩⟩
  .exact(h.asks (.byte s p) o q).imp_right λr=>⟨r,λa=>pp a.1⟩
  .exact(h.asks (.fin s) o q).imp_right λr=>⟨r,λa=>pp a.1⟩
  have d:((c s).lN && !(f.rel==(c s).lG))=true:=d;have z:(c s).lG=p:=z;simp only[AZ,Bl,AR]at d;exact(h.asks (.tell s p) o ⟨l,d.1,z⟩).imp_right λr=>⟨r,λa=>d.2<|by rw[z];exact a.2.2⟩
 rename_i B;split
 .rename_i e;refine⟨h.low,h.lC,λt u ask=>?_⟩;cases t with
  | byte k p=>exact(h.asks (.byte k p) u ask).imp_right λr=>⟨r,λa=>v a.1⟩
  | fin k=>exact(h.asks (.fin k) u ask).imp_right λr=>⟨r,λa=>v a.1⟩
  | tell k n=>exact(h.asks (.tell k n) u ask).imp_right λr=>⟨r,λa=>B a.1⟩
  | mF k n=>exact(h.asks (.mF k n) u ask).imp_right λr=>⟨r,λa=>pp a.1⟩
  | all n =>
   obtain⟨l,d⟩:=ask;have l:(c.lU||f.mF==c.kz)=false:=l;have d:c.kz=n:=d;simp only[BW,AR]at l;exact(h.asks (.all n) u ⟨l.1,d⟩).imp_right λr=>⟨r,λa=>l.2<|by rw[d];exact a.2⟩
 rename_i K;split
 .rename_i e;refine⟨h.low,h.lC,λt u ask=>?_⟩;cases t with
  | byte k p=>exact(h.asks (.byte k p) u ask).imp_right λr=>⟨r,λa=>v a.1⟩
  | fin k=>exact(h.asks (.fin k) u ask).imp_right λr=>⟨r,λa=>v a.1⟩
  | tell k n=>exact(h.asks (.tell k n) u ask).imp_right λr=>⟨r,λa=>B a.1⟩
  | mF k n =>
   obtain⟨l,d⟩:=ask;by_cases x:k=s
   .subst x;have l:(ze c.rs k { c.rs k with lU:=(c.rs k).lU||f.mF==(c.rs k).kz } k).lU=false:=l;have d:(ze c.rs k { c.rs k with lU:=(c.rs k).lU||f.mF==(c.rs k).kz } k).kz=n:=d;rw[zf]at l d;simp only[BW,AR]at l;have d:(c.rs k).kz=n:=d;exact(h.asks (.mF k n) u ⟨l.1,d⟩).imp_right λr=>⟨r,λa=>l.2<|by rw[d];exact a.2.2⟩
   have l:(ze c.rs s { c.rs s with lU:=(c.rs s).lU||f.mF==(c.rs s).kz } k).lU=false:=l;have d:(ze c.rs s { c.rs s with lU:=(c.rs s).lU||f.mF==(c.rs s).kz } k).kz=n:=d;rw[zd _ _ x]at l d;exact(h.asks (.mF k n) u ⟨l,d⟩).imp_right λr=>⟨r,λa=>x<|pp a.2.1⟩
  | all n=>exact(h.asks (.all n) u ask).imp_right λr=>⟨r,λa=>K a.1⟩
 rename_i Y;refine h.mono (λ_ _=>id)<|λt _ r=>.inr ⟨r,λa=>?_⟩;cases t with
 | byte k p=>exact v a.1
 | fin k=>exact v a.1
 | tell k n=>exact B a.1
 | mF k n=>exact Y a.1
 | all n=>exact K a.1
theorem Dc.ly{b:CS}:∀(a:List DV) {c:CS} {R:Cl->Prop},Dc c b R->(∀f∈a,Za f)->Dc (c.ly a) b (λd=>R d/\∀f∈a,¬Gz f d)
 | [],c,R,h,_=>h.mono (λ_ _=>id)<|λd _ r=>.inr ⟨r,λf e=>by cases e⟩
 | f::a,c,R,h,e=>(Dc.ly a (h.again<|e f AQ)<|λg a=>e g<|AV _ a).mono (λ_ _=>id) λd _ r=>.inr ⟨r.1.1,λg a=>by
   rcases Ay.1 a with e|e
   .rw[e];exact r.1.2
   exact r.2 g e⟩
theorem Dc.mO{b:CS}:∀(l:List DW) {c:CS} {R:Cl->Prop},Dc c b R->(∀p∈l,∀f∈p.fs,Za f)->Dc (c.mO l) b (λa=>R a/\∀p∈l,c.late p=true->∀f∈p.fs,¬Gz f a)
 | [],c,R,h,_=>h.mono (λ_ _=>id)<|λa _ r=>.inr ⟨r,λf d=>by cases d⟩
 | p::l,c,R,h,d=>by
  have s:Dc (c.ma p) b (λa=>R a/\(c.late p=true->∀f∈p.fs,¬Gz f a)):=by
   unfold CS.ma;split
   .exact(h.ly p.fs<|d p AQ).mono (λ_ _=>id) λa _ r=>.inr ⟨r.1,λ_=>r.2⟩
   rename_i n;exact h.mono (λ_ _=>id) λa _ r=>.inr ⟨r,λx=>absurd x n⟩
  refine(Dc.mO l s<|λq c=>d q<|AV _ c).mono (λ_ _=>id) λa _ r=>.inr ⟨r.1.1,λq c o=>?_⟩
  rcases Ay.1 c with e|e
  .subst e;exact r.1.2 o
  exact r.2 q e<|by rw[VF];exact o
def CS.mJ(c:CS)(a:Cl):Prop:=∃q∈c.kx,∃f∈q.fs,Gz f a
theorem Dc.nF{b:CS}(h:Dc c b c.mJ)(a:∀p∈c.kx,∀f∈p.fs,Za f):Dc c.nF b c.nF.mJ:=by
 have e:=Hj c;rw[e];have s:=h.mO c.kx a;have e:Dc ((c.mO c.kx).mC<|c.kx.filter λp => !c.late p) b (λd=>c.mJ d/\∀p∈c.kx,c.late p=true->∀f∈p.fs,¬Gz f d):=⟨s.low,s.lC,s.asks⟩;refine e.mono (λ_ _=>id) ?_;rintro d _ ⟨⟨q,l,f,a,o⟩,no⟩;exact .inr ⟨q,BI.2 ⟨l,by
  cases hl:c.late q with
  | false=>rfl
  | true=>exact absurd o<|no q l hl f a⟩,f,a,o⟩
def It(c b:CS):Prop:=∀k,k<8->∀p,b.Has (.byte k p)->p<(c k).high
structure D3(c c':CS):Prop where
 w:∀k,k<8->(∀p,De (c k).lJ.rs p->De (c' k).lJ.rs p)/\(c' k).ending=(c k).ending/\(c' k).lN=(c k).lN
 r:∀k,k<8->(c'.rs k).lU=(c.rs k).lU/\(c'.rs k).kz=(c.rs k).kz
 g:c'.lU=c.lU/\c'.kz=c.kz
variable{c':CS}
def D3.of(h:c'.ws=c.ws)(a:∀k,k<8->(c'.rs k).lU=(c.rs k).lU/\(c'.rs k).kz=(c.rs k).kz:=by exact λ_ _=>⟨rfl,rfl⟩)(d:c'.lU=c.lU/\c'.kz=c.kz:=by exact rZ):D3 c c':=⟨λk _=>by rw[h];exact⟨λ_=>id,rfl,rfl⟩,a,d⟩
def D3.trans{a b:CS}(h:D3 a b)(q:D3 b c):D3 a c:=⟨λk a=>⟨λp x=>(q.w k a).1 p ((h.w k a).1 p x),(q.w k a).2.1.trans (h.w k a).2.1,(q.w k a).2.2.trans (h.w k a).2.2⟩,λk a=>⟨(q.r k a).1.trans (h.r k a).1,(q.r k a).2.trans (h.r k a).2⟩,q.g.1.trans h.g.1,q.g.2.trans h.g.2⟩
def Dc.lY{b:CS}(h:Dc c b R)(l:It c b)(u:Za f)(z:FY b f):Dc (c.lY f) b R/\It (c.lY f) b/\D3 c (c.lY f):=by
 obtain⟨⟨s,o,t⟩,_⟩:=u;unfold CS.lY;split
 .rename_i e;obtain⟨A,u⟩:=e;rw[t,Ad];have d:=BM.2 u;have g:∀p,f.off<=p->p<f.off+f.data.length->b.Has (.byte s p):=λp B E=>z (.byte s p) o ⟨A,t,B,E⟩
  have top:=l s o _<|g (f.off+f.data.length-1) I I;obtain⟨t,v,z⟩:=(h.low s o).ln (f:=f) I u;refine⟨h.w s (λ_=>t) (λa p d=>((z p).1 d).elim (h.lC s a p)<|λx=>g p x.1 x.2) (λa o=>?_)<|λ_ _ _ r=>r,λk a p d=>?_,⟨λk a=>?_,λ_ _=>⟨rfl,rfl⟩,rfl,rfl⟩⟩
  .rintro⟨o,p,⟨rfl,q⟩|⟨rfl,q⟩|⟨rfl,q⟩⟩
   .rcases(v p).1 q with x|x
    .exact h.asks (.byte s p) a x
    exact .inl<|g p x.1 x.2
   .exact h.asks (.fin s) a q
   exact h.asks (.tell s p) a q
  .show p<(ze c.ws s ((c s).ln f) k).high;have:=l k a p d;by_cases e:k=s
   .subst e;rw[zf];exact this
   rw[zd _ _ e];exact this
  show(∀p,De (c k).lJ.rs p->De (ze c.ws s ((c s).ln f) k).lJ.rs p)/\(ze c.ws s ((c s).ln f) k).ending=_/\(ze c.ws s ((c s).ln f) k).lN=_;by_cases e:k=s
  .subst e;rw[zf];exact⟨λp x=>(v p).2<|.inl x,rfl,rfl⟩
  rw[zd _ _ e];exact⟨λ_=>id,rfl,rfl⟩
 exact⟨h,l,D3.of rfl⟩
theorem Dc.pe{b:CS}:∀(d:List DV) {c:CS},Dc c b R->It c b->(∀f∈d,Za f/\FY b f)->Dc (d.foldl CS.lY c) b R/\It (d.foldl CS.lY c) b/\D3 c (d.foldl CS.lY c)
 | [],c,h,ht,_=>⟨h,ht,D3.of rfl⟩
 | f::d,c,h,ht,hf=>by
  obtain⟨a,t,m⟩:=h.lY ht (hf f AQ).1 (hf f AQ).2;obtain⟨x,y,z⟩:=Dc.pe d a t<|λg a=>hf g<|AV _ a;exact⟨x,y,m.trans z⟩
theorem Dc.mT{b:CS}(rs:zE):∀(l:List DW) {c:CS},Dc c b R->It c b->(∀p∈l,∀f∈p.fs,Za f/\(Dw rs p=true->FY b f))->Dc (c.mT rs l) b R/\D3 c (c.mT rs l)
 | [],c,h,_,_=>⟨h,D3.of rfl⟩
 | p::l,c,h,ht,hf=>by
  have s:Dc (c.nE rs p) b R/\It (c.nE rs p) b/\D3 c (c.nE rs p):=by
   unfold CS.nE;split
   .rename_i c;exact h.pe p.fs ht<|λf a=>⟨(hf p AQ f a).1,(hf p AQ f a).2 c⟩
   exact⟨h,ht,D3.of rfl⟩
  obtain⟨x,y⟩:=Dc.mT rs l s.1 s.2.1<|λq a=>hf q<|AV _ a;exact⟨x,s.2.2.trans y⟩
theorem RW:∀(l:List DW) {c:CS},(∀p∈l,c.late p=false)->c.mO l=c
 | [],c,_=>rfl
 | p::l,c,h=>by
  have e:c.ma p=c:=by
   unfold CS.ma;rw[h p AQ];rfl
  show(c.ma p).mO l=c;rw[e];exact RW l<|λq a=>h q<|AV _ a
variable{rs:zE}
theorem Dc.ln{b:CS}(h:Dc c b c.mJ)(t:It c b)(s:¬c.next<=DP rs 0)(d:∀p∈c.kx,∀f∈p.fs,Za f)(l:∀p∈c.kx,Dw rs p=true->∀f∈p.fs,FY b f):Dc (c.ln rs).2 b (c.ln rs).2.mJ/\((∀p∈c.kx,Dw rs p=false->c.now<p.at_+6/\max c.lI (DP rs 0)<p.n+3)->D3 c (c.ln rs).2):=by
 rw[Ov c rs s];have u:Dc ({ c with lI:=max c.lI (DP rs 0) }:CS) b c.mJ:=⟨h.low,h.lC,h.asks⟩;obtain⟨s,m⟩:=Dc.mT rs c.kx u (show It _ b from t)<|λp a f e=>⟨d p a f e,λx=>l p a x f e⟩;refine⟨Dc.nF (c:=(({ c with lI:=max c.lI (DP rs 0) }:CS).mT rs c.kx).mC<|c.kx.filter λp => !Dw rs p) ?_<|λp a=>d p (BI.1 a).1,λv=>?_⟩
 .have h:Dc ((({ c with lI:=max c.lI (DP rs 0) }:CS).mT rs c.kx).mC<|c.kx.filter λp => !Dw rs p) b c.mJ:=⟨s.low,s.lC,s.asks⟩;refine h.mono (λ_ _=>id) ?_;rintro z A ⟨q,e,f,d,o⟩;cases hm:Dw rs q with
  | true=>exact .inl<|l q e hm f d z A o
  | false=>exact .inr ⟨q,BI.2 ⟨e,by rw[hm];rfl⟩,f,d,o⟩
 simp only;rw[Hj,RW _ (λp a=>by
  have a:p∈c.kx.filter λp => !Dw rs p:=a
  obtain⟨p1,p2⟩:=BI.1 a;obtain⟨a,b⟩:=v p p1<|rB p2;have e:=Jq rs c.kx ({ c with lI:=max c.lI (DP rs 0) }:CS);unfold CS.late;show(decide (p.at_+6<=(({ c with lI:=max c.lI (DP rs 0) }:CS).mT rs c.kx).now)||decide (p.n+3<=(({ c with lI:=max c.lI (DP rs 0) }:CS).mT rs c.kx).lI))=false;rw[e.hd.2.2.2.1,e.tl.2.2.2.1];show(decide (p.at_+6<=c.now)||decide (p.n+3<=max c.lI (DP rs 0)))=false;rw[As I,As I];rfl)]
 exact⟨m.w,m.r,m.g⟩
def Da(R:Cl->Prop)(d:DX)(a:Cl):Prop:=R a\/∃f∈d.fs,Gz f a
variable{d d':DX}
def Da.add(c:d.add f=some d'){a:Cl}(h:Da R d a\/Gz f a):Da R d' a:=by
 obtain⟨_,e,_⟩:=DX.mK c;rcases h with(h|⟨g,hg,s⟩)|h
 .exact .inl h
 .exact .inr ⟨g,by rw[e];exact Br _ hg,s⟩
 exact .inr ⟨f,by rw[e];simp,h⟩
def Dc.draw{b:CS}(h:Dc c b (Da R d))(a:d.add f=some d'):Dc c b (Da R d'):=h.mono (λ_ _=>id) (λ_ _ r=>.inr (Da.add a (.inl r)))
theorem Dc.r{b:CS}(h:Dc c b R)(s g:Nat)(d:R (.mF s g)):Dc { c with rs:=ze c.rs s { c.rs s with kz:=g,lU:=false } } b R:=by
 refine⟨h.low,h.lC,λe a ask=>?_⟩;cases e with
 | byte k p=>exact h.asks (.byte k p) a ask
 | fin k=>exact h.asks (.fin k) a ask
 | tell k n=>exact h.asks (.tell k n) a ask
 | mF k n =>
  have q:(ze c.rs s { c.rs s with kz:=g,lU:=false } k).lU=false/\(ze c.rs s { c.rs s with kz:=g,lU:=false } k).kz=n:=ask;by_cases x:k=s
  .subst x;rw[zf]at q;rw[<-q.2];exact .inr d
  rw[zd _ _ x]at q;exact h.asks (.mF k n) a q
 | all n=>exact h.asks (.all n) a ask
theorem P1{b:CS}(h:Dc c b (Da R d)):∀n k t x,(EO c d n k t).1=some x->Dc x.1 b (Da R x.2)
 | 0,_,_,x,hx=>by cases hx
 | n+1,k,t,x,hx=>by
  unfold EO at hx;split at hx
  .split at hx
   .rename_i a hd;cases hx;exact(h.draw hd).r k _ (Da.add hd<|.inr ⟨rfl,rfl,rfl⟩)
   exact P1 h n _ _ x hx
  exact P1 h n _ _ x hx
theorem OP{b:CS}(h:Dc c b (Da R d)):∀n k x,ER c d n k=some x->Dc x.1 b (Da R x.2)
 | 0,_,x,hx=>by cases hx
 | n+1,k,x,hx=>by
  unfold ER at hx;split at hx
  .split at hx
   .rename_i c hd;cases hx;have e:=h.draw hd;refine e.w k (λa=>⟨(h.low k a).lJ,(h.low k a).lC,(h.low k a).hl,(h.low k a).bl,(h.low k a).fn⟩) (λa=>h.lC k a) (λa c=>?_)<|λ_ _ _ r=>r;rintro⟨c,p,⟨rfl,q⟩|⟨rfl,q⟩|⟨rfl,d,l,f⟩⟩
    .exact e.asks (.byte k p) a q
    .exact e.asks (.fin k) a q
    exact .inr<|Da.add hd<|.inr ⟨rfl,rfl,f⟩
   exact OP h n _ x hx
  exact OP h n _ x hx
theorem eJ{b:CS}(h:Dc c b (Da R d)){x:CS×DX}(a:c.control d=some x):Dc x.1 b (Da R x.2):=by
 unfold CS.control at a;split at a
 .rename_i y l;cases a;exact P1 h 8 0 c.total _ l
 unfold Iu at a;split at a
 .split at a
  .rename_i c hd;cases a;have e:=h.draw hd;refine⟨e.low,e.lC,λo f ask=>?_⟩;cases o with
   | all n =>
    obtain⟨d,c⟩:=ask;exact .inr<|Da.add hd<|.inr ⟨rfl,c⟩
   | byte k p=>exact e.asks (.byte k p) f ask
   | fin k=>exact e.asks (.fin k) f ask
   | tell k n=>exact e.asks (.tell k n) f ask
   | mF k n=>exact e.asks (.mF k n) f ask
  exact OP h 8 0 x a
 exact OP h 8 0 x a
variable{hi k lo:Nat}
def U2{b:CS}(h:Dc c b (Da R d)){fin:Bool}(a:k<8)(f:lo<=hi)(o:hi<=(c k).b.length):Dc (c.ll d k lo hi fin).2.1 b (Da R (c.ll d k lo hi fin).2.2):=by
 unfold CS.ll;split
 .exact h
 rename_i d hd;have e:=h.draw hd;obtain⟨d,o,f,s,t⟩:=h.low k a;have f:(((c k).b.drop lo).take<|hi-lo).length=hi-lo:=by
  rw[AU,Ag];omega
 have top:max (c k).high hi<=2048:=I;have l:EF (if lo<hi then(c k).lJ.add lo (hi-1)else(c k).lJ) (max (c k).high hi)/\∀p,De (if lo<hi then(c k).lJ.add lo (hi-1)else(c k).lJ).rs p->De (c k).lJ.rs p\/(lo<=p/\p<hi):=by
  split
  .obtain⟨f,u⟩:=(d.mono<|BO _ hi).ins top (lo:=lo) (hi:=hi-1) I;exact⟨f,λp f=>((u p).1 f).imp_right I⟩
  exact⟨d.mono<|BO _ _,λp=>.inl⟩
 refine e.w k (λ_=>⟨l.1,o.mono<|BO _ _,by show max (c k).high hi<=(c k).b.length;omega,s,t⟩) (λa=>h.lC k a) (λa d=>?_)<|λ_ _ _ r=>r;rintro⟨d,p,⟨rfl,q⟩|⟨rfl,q⟩|⟨rfl,q⟩⟩
 .rcases l.2 p q with x|x
  .exact e.asks (.byte k p) a x
  exact .inr<|Da.add hd<|.inr ⟨rfl,rfl,x.1,by show p<lo+(((c k).b.drop lo).take<|hi-lo).length;omega⟩
 .have q:((c k).ending||fin)=true:=q;simp only[Bb]at q;rcases q with x|x
  .exact e.asks (.fin k) a x
  exact .inr<|Da.add hd<|.inr ⟨rfl,rfl,x⟩
 exact e.asks (.tell k p) a q
def Wv{b:CS}(h:Dc c b (Da R d))(f:k<8):Dc (c.bytes d k).2.1 b (Da R (c.bytes d k).2.2):=by
 have o:c.lr k<=(c k).b.length:=by
  have:=NJ c k;unfold CS.nI at this;omega
 have l:∀e a,e<=a->a<=(c k).b.length->Dc (c.mE d k e a).2.1 b (Da R (c.mE d k e a).2.2):=λe a a c=>by
  unfold CS.mE;split
  .split
   .exact h
   exact U2 h f I I
  exact U2 h f a c
 unfold CS.bytes;split
 .exact h
 split
 .split
  .exact h
  exact l _ _ ro ro
 exact l _ _ I<|AK (If _ _ _) o
variable{q:Nat}
theorem Po{b:CS}(h:Dc c b (Da R d))(e:q<10):Dc (c.put d q).2.1 b (Da R (c.put d q).2.2):=by
 match q,e with
 | 0,_ =>
  show Dc ((c.control d).getD (c,d)).1 b (Da R ((c.control d).getD (c,d)).2);cases hc:c.control d with
  | none=>exact h
  | some x=>exact eJ h hc
 | 1,_ =>
  show Dc ((c.lT d).getD (c,d)).1 b (Da R ((c.lT d).getD (c,d)).2);cases hc:c.lT d with
  | none=>exact h
  | some x =>
   unfold CS.lT at hc;split at hc
   .cases hc
   obtain⟨c,f,a⟩:=B8.1 hc;subst a;have a:=h.draw f;exact⟨a.low,a.lC,a.asks⟩
 | k+2,e=>exact Wv h I
theorem SU{b:CS}(a:q<10):∀n {c:CS} {d:DX},Dc c b (Da R d)->Dc (CS.lu q n c d).1 b (Da R (CS.lu q n c d).2)
 | 0,c,d,h=>h
 | n+1,c,d,h=>by
  unfold CS.lu;split
  .exact SU a n (Po h a)
  exact Po h a
theorem Sx{b:CS}:∀n {c:CS} {d:DX},n<=10->Dc c b (Da R d)->Dc (CS.ld n c d).1 b (Da R (CS.ld n c d).2)
 | 0,c,d,_,h=>h
 | n+1,c,d,hn,h=>by
  unfold CS.ld;exact Sx n I<|SU I _ h
def Et(a:List DV):Bool:=a.any λf=>f.kind != 2
def Hd(now:Nat):Nat->List (List DV)->List DW
 | _,[]=>[]
 | n,fs::L=>(if Et fs then [⟨n,now,fs⟩]else [])++Hd now (n+1) L
def OO:Nat->List (List DV)->List rC->Prop
 | _,[],xs=>xs=[]
 | n,fs::L,xs=>∃x a,xs=x::a/\dec x=.ok n (fs.map zt)/\OO (n+1) L a
variable{now:Nat}
theorem Ma:∀(L:List (List DV)) (n:Nat) {q:DW},q∈Hd now n L->n<=q.n/\q.n<n+L.length/\q.at_=now/\L[q.n-n]?=some q.fs
 | [],n,q,h=>by cases h
 | fs::L,n,q,h=>by
  rcases Ak.1 h with x|x
  .split at x
   .rw[Af.1 x];exact⟨AF _,lm,rfl,lm⟩
   cases x
  obtain⟨a,b,c,d⟩:=Ma L (n+1) x;refine⟨I,by simp only[AS];omega,c,?_⟩;rw[(I:q.n-n=q.n-(n+1)+1)];exact d
theorem TL:∀(L:List (List DV)) (n:Nat) {a:List rC} {x:rC},OO n L a->x∈a->∃j c,L[j]?=some c/\dec x=.ok (n+j) (c.map zt)
 | [],n,a,x,h,hx=>by rw[show a=[]from h]at hx;cases hx
 | c::L,n,a,x,h,hx=>by
  obtain⟨y,a,rfl,e,d⟩:=h;rcases Ay.1 hx with r|r
  .subst r;exact⟨0,c,rfl,e⟩
  obtain⟨j,c,a,b⟩:=TL L (n+1) d r;exact⟨j+1,c,a,by rw[b];congr 1;omega⟩
theorem U1{a:Cl}(h:Gz f a):Gz (zt f) a:=by
 have e:=Gp f;cases a with
 | byte k p =>
  obtain⟨a,b,c,d⟩:=h;refine⟨e.trans a,?_,?_,?_⟩<;>simp[zt,a]<;>assumption
 | fin k =>
  obtain⟨a,b,c⟩:=h;refine⟨e.trans a,?_,?_⟩<;>simp[zt,a]<;>assumption
 | tell k n =>
  obtain⟨a,b,c⟩:=h;refine⟨e.trans a,?_,?_⟩<;>simp[zt,a]<;>assumption
 | mF k n =>
  obtain⟨a,b,c⟩:=h;refine⟨e.trans a,?_,?_⟩<;>simp[zt,a]<;>assumption
 | all n =>
  obtain⟨a,c⟩:=h;refine⟨e.trans a,?_⟩;simp[zt,a];exact c
def El(d a:DX):Prop:=∃E,a.fs=d.fs++E/\(∀f∈E,f.kind≠2)/\a.lh=(d.lh||Et E)
def El.refl(d:DX):El d d:=⟨[],lm,λf a=>(nomatch a),by simp[Et]⟩
def El.trans{a b c:DX}(h:El a b)(k:El b c):El a c:=by
 obtain⟨E,a,c,d⟩:=h;obtain⟨F,e,h,l⟩:=k;refine⟨E++F,by rw[e,a,Ap],λf a=>(Ak.1 a).elim (c f)<|h f,?_⟩;rw[l,d];simp[Et,Bool.or_assoc]
theorem El.put(a:c.Ok)(e:q<10):El d (c.put d q).2.2:=by
 have p:=JZ (d:=d) a e;generalize (c.put d q).1=r at p;cases r with
 | true =>
  obtain⟨f,_,a,c⟩:=p.yes rfl;obtain⟨_,e,_,_,h,_⟩:=DX.mK c;exact⟨[f],e,λg c=>by rw[Af.1 c];exact a,by rw[h];simp[Et]⟩
 | false =>
  obtain⟨_,e|e⟩:=p.no rfl
  .rw[e];exact El.refl d
  rw[e];exact El.refl d
theorem El.lu(a:q<10):∀n {c:CS} {d:DX},c.Ok->El d (CS.lu q n c d).2
 | 0,c,d,_=>El.refl d
 | n+1,c,d,hc=>by
  unfold CS.lu;split
  .exact(El.put hc a).trans (El.lu a n (JZ (d:=d) hc a).ok)
  exact El.put hc a
theorem El.ld:∀n {c:CS} {d:DX},n<=10->c.Ok->d.Ok->El d (CS.ld n c d).2
 | 0,c,d,_,_,_=>El.refl d
 | n+1,c,d,hn,hc,hd=>by
  have r:=Oi (q:=9-n) I (d.room+1) c d hc hd;unfold CS.ld;exact(El.lu I _ hc).trans (El.ld n I r.1 r.2.1)
theorem VQ(d:DX)(l:zE):∀n,1<=n->EY d l n=1\/(d.b++zC (lY (l.take (EY d l n)))).length+4<=d.room
 | 0,h=>absurd h I
 | n+1,_=>by
  unfold EY;split
  .exact VQ d l n I
  omega
theorem VP(e:64<=c.lZ)(l:zE):(zp c.lB l).1.lh=false/\(∀f∈(zp c.lB l).1.fs,f.kind=2/\∀r∈f.lF,r∈l)/\(∀r∈(zp c.lB l).2,r∈l) /\
  (l≠[]->∃r t e,l=r::t/\(zp c.lB l).1.fs=[lY (r::e)]):=by
 unfold zp;split
 .rename_i d;exact⟨rfl,λf a=>(nomatch a),λr e=>e,λh=>absurd d h⟩
 rename_i d;obtain⟨r,t,rfl⟩:∃r t,l=r::t:=by
  cases l with
  | nil=>exact absurd rfl d
  | cons r t=>exact⟨r,t,rfl⟩
 have d:=NO c.lB (r::t) (r::t).length lm;have d:∃l,c.lB.add (lY<|(r::t).take<|EY c.lB (r::t) (r::t).length)=some l:=by
  have q:c.lB.b.length+(zC<|lY<|(r::t).take<|EY c.lB (r::t) (r::t).length).length+4<=c.lZ:=by
   rcases VQ c.lB (r::t) (r::t).length lm with h|h
   .rw[h];have e:=Ot c.next;have e:=Ot r.2;have e:=Ot<|r.2-r.1;have e:(zC<|lY [r]).length=1+(zI r.2).length+1+(zI<|r.2-r.1).length:=by
     show(((([2]++zI r.2)++zI 0)++zI (r.2-r.1))++D5 [r] 0).length=_;simp only[AG,Ac];rfl
    show(zI c.next).length+(zC<|lY [r]).length+4<=c.lZ;omega
   rw[AG]at h;exact h
  unfold DX.add;rw[AH (by rw[AG];show ¬c.lZ<_;omega)];exact⟨_,rfl⟩
 obtain⟨l,hd⟩:=d;obtain⟨n,d⟩:∃n,EY c.lB (r::t) (r::t).length=n+1:=⟨EY c.lB (r::t) (r::t).length-1,I⟩;have e:GG c.lB (r::t)=(l,(r::t).drop<|n+1):=by
  unfold GG;rw[hd,d];rfl
 rw[e];rw[d]at hd;obtain⟨_,c,_,_,d,_⟩:=DX.mK hd;refine⟨by rw[d];rfl,λf a=>?_,λq o=>Bo o,λ_=>⟨r,t,t.take n,rfl,by rw[c];rfl⟩⟩;rw[c]at a;have a:=Af.1<|show f ∈ [_]from a;subst a;exact⟨rfl,λq o=>BP o⟩
structure OD(b c c':CS)(l:zE)(m:Nat)(outs:List rC)(L:List (List DV)):Prop where
 outs:OO c.next L outs
 fl:c'.kx=c.kx++Hd c.now c.next L
 next:c'.next=c.next+L.length
 lW:∀fs∈L,∀f∈fs,f.kind=2->∀r∈f.lF,r∈l
 first:1<=m->l≠[]->∃r t t' fs L',l=r::t/\L=(lY (r::t')::fs)::L'
 nV:Dc c' b c'.mJ
structure R9(b:CS)(nx:Nat)(G:List SN)(c:CS)(l:zE)(F:CS×DX)(l2:zE):Prop where
 ds:DS c.next nx G F.1 F.2
 so:Dq F.1 G
 want:F.2.lh=Et F.2.fs
 pK:∀f∈F.2.fs,f.kind=2->∀r∈f.lF,r∈l
 hx:∀r∈l2,r.2<nx
 sub:∀r∈l2,r∈l
 first:l≠[]->∃r t t' E,l=r::t/\F.2.fs=lY (r::t')::E
 no:F.2.fs=[]->Dc F.1 b F.1.mJ
 fl:(F.1.lV F.2).kx=c.kx++(if Et F.2.fs then [⟨c.next,c.now,F.2.fs⟩]else [])
 nV:Dc (F.1.lV F.2) b (F.1.lV F.2).mJ
 dec:F.2.fs≠[]->dec (E9 F.2.b)=.ok c.next (F.2.fs.map zt)
variable{G:List SN}{nx:Nat}
def Sw{b:CS}{l:zE}(o:Gv c l)(s:Dq c G)(T:∀r∈l,r.2<nx)(h:Dc c b c.mJ):R9 b nx G c l (c.lL (zp c.lB l).1) (zp c.lB l).2:=by
 obtain⟨t,E,r3,Y,Z,O,r7⟩:=o.round;have A:=o.next;have d0:DS c.next nx G c c.lB:=⟨by show zI c.next=Iz c.next [];simp[Iz],λf a=>(by cases a)⟩;obtain⟨E,B⟩:=d0.told o.desc o.len T;obtain⟨t1,T,t3,t4⟩:=VP o.lZ l;have hF:DS c.next nx G (c.lL (zp c.lB l).1).1 (c.lL (zp c.lB l).1).2/\Dq (c.lL (zp c.lB l).1).1 G/\El (zp c.lB l).1 (c.lL (zp c.lB l).1).2/\Dc (c.lL (zp c.lB l).1).1 b (Da c.mJ (c.lL (zp c.lB l).1).2):=by
  have hb:Dc c b (Da c.mJ (zp c.lB l).1):=h.mono (λ_ _=>id)<|λ_ _ r=>.inr<|.inl r;unfold CS.lL;split
  .obtain⟨u,K,h⟩:=QE 10 c (zp c.lB l).1 ro o.ok t s E;exact⟨u,K,El.ld 10 ro o.ok t,Sx 10 ro hb⟩
  exact⟨E,s,El.refl _,hb⟩
 obtain⟨u,K,⟨E,h,s,o⟩,z⟩:=hF;have d:(c.lL (zp c.lB l).1).2.lh=Et (c.lL (zp c.lB l).1).2.fs:=by
  rw[o,h,t1];unfold Et;rw[List.any_append,show(zp c.lB l).1.fs.any (λf=>f.kind != 2)=false from CT.2 λf a=>by simp[(T f a).1]]
 have N:l≠[]->∃r t o E,l=r::t/\(c.lL (zp c.lB l).1).2.fs=lY (r::o)::E:=λhl=>by
  obtain⟨r,t,o,e1,e2⟩:=t4 hl;exact⟨r,t,o,E,e1,by rw[h,e2];rfl⟩
 have q:∀f∈(c.lL (zp c.lB l).1).2.fs,f.kind=2->∀r∈f.lF,r∈l:=λf a e=>by
  rw[h]at a;rcases Ak.1 a with x|x
  .exact(T f x).2
  exact absurd e<|s f x
 generalize c.lL (zp c.lB l).1=F at *;have v:(F.1.lV F.2).kx=c.kx++(if Et F.2.fs then [⟨c.next,c.now,F.2.fs⟩]else []):=by
  unfold CS.lV;simp only;rw[d,Y,Z,O];split
  .rfl
  rw[Bw]
 refine⟨u,K,d,q,B,t3,N,λp=>z.mono (λ_ _=>id)<|λX _ r=>.inr ?_,v,?_,λp=>?_⟩
 .rcases r with r|⟨f,a,_⟩
  .unfold CS.mJ;rw[O];exact r
  rw[p]at a;cases a
 .have d:Dc (F.1.lV F.2) b (Da c.mJ F.2):=⟨z.low,z.lC,z.asks⟩;refine d.mono (λ_ _=>id)<|λX _ r=>.inr ?_;unfold CS.mJ;rw[v];rcases r with⟨q,d,x⟩|⟨f,a,x⟩
  .exact⟨q,Br _ d,x⟩
  have hw:Et F.2.fs=true:=Bg.2 ⟨f,a,by
   have:f.kind≠2:=λe=>by
    cases X<;>have:=x.1<;>omega
   simpa using this⟩
  rw[AM hw];exact⟨_,List.mem_append_right _<|Af.2 rfl,f,a,x⟩
 unfold E9;rw[U9,u.b];exact TZ c.next F.2.fs (by unfold zF at A;omega) (BM.2 p)<|λf a=>(u.fr f a).1
theorem SR{b:CS}:∀(m:Nat) (c:CS) (l:zE),Gv c l->Dq c G->(∀r∈l,r.2<nx)->Dc c b c.mJ->∃L,OD b c (CS.mH m c l).2 l m (CS.mH m c l).1 L
 | 0,c,l,hk,s,hx,h=>⟨[],rfl,by show c.kx=c.kx++[];simp,rfl,λo d=>(nomatch d),λh=>absurd h I,h⟩
 | m+1,c,l,hk,s,hx,h=>by
  have R:=Sw hk s hx h;obtain⟨s,v,z,f,t,h,q⟩:=hk.round;unfold CS.mH;by_cases a:(c.lL (zp c.lB l).1).2.fs=[]
  .rw[AM a];refine⟨[],rfl,by show(c.lL (zp c.lB l).1).1.kx=c.kx++[];rw[h,Bw],f,λo d=>(nomatch d),λ_ p=>?_,R.no a⟩;obtain⟨_,_,_,_,_,e⟩:=R.first p;rw[e]at a;cases a
  rw[AH a];obtain⟨u,_⟩:=q a;generalize c.lL (zp c.lB l).1=F at *;generalize (zp c.lB l).2=l2 at *;have h:(F.1.lV F.2).next=c.next+1:=by show F.1.next+1=_;rw[f]
  obtain⟨L,i⟩:=SR m (F.1.lV F.2) l2 u ⟨R.so.w,R.so.kf,R.so.sp,R.so.wt⟩ R.hx R.nV;have q:=i.outs;have f:=i.fl;have l:=i.next;rw[h]at q f l;refine⟨F.2.fs::L,⟨_,_,rfl,R.dec a,q⟩,?_,?_,λo d=>?_,λ_ p=>?_,i.nV⟩
  .show(CS.mH m (F.1.lV F.2) l2).2.kx=_;rw[f,R.fl,Ap];have:(F.1.lV F.2).now=c.now:=t;rw[this];rfl
  .show(CS.mH m (F.1.lV F.2) l2).2.next=c.next+(L.length+1);omega
  .rcases Ay.1 d with e|e
   .rw[e];exact R.pK
   exact λf a c r d=>R.sub r<|i.lW o e f a c r d
  obtain⟨r,t,a,E,d,c⟩:=R.first p;exact⟨r,t,a,E,L,d,by rw[c]⟩
def Do(b c:CS):Prop:=∀a,a.Ok->b.Has a->c.Has a
def Do.refl(b:CS):Do b b:=λ_ _=>id
def Do.trans{a b:CS}(h:Do a b)(k:Do b c):Do a c:=λa o x=>k a o (h a o x)
theorem Do.of{b a:CS}(c:∀k,k<8->(a.rs k).lC=(b.rs k).lC/\(a.rs k).ended=(b.rs k).ended/\(a.rs k).cut=(b.rs k).cut/\(a.rs k).lG=(b.rs k).lG)(d:∀k,k<8->(b k).lA<=(a k).lA)(e:b.lA<=a.lA):Do b a:=by
 intro f o h;cases f with
 | byte k p=>show De (a.rs k).lC.rs p;rw[(c k o).1];exact h
 | fin k=>show(a.rs k).ended=true;rw[(c k o).2.1];exact h
 | tell k n=>show(a.rs k).cut=true/\(a.rs k).ended=true/\(a.rs k).lG<=n;rw[(c k o).2.1,(c k o).2.2.1,(c k o).2.2.2];exact h
 | mF k n=>exact AK h<|d k o
 | all n=>exact AK h e
def E5.my(f:E5 c c'):Do c c' :=
 Do.of (λk a=>by obtain⟨q,e⟩:=f.rs k a;rw[e];exact⟨rfl,rfl,rfl,rfl⟩) (λk a=>Az (f.ws k).lA.symm) (Az f.lA.symm)
theorem Do.r{b:CS}(s:Nat){y:RS}(hb:∀p,De (b.rs s).lC.rs p->De y.lC.rs p)(a:(b.rs s).ended=true->y.ended=true)(c:∀n,(b.rs s).cut=true/\(b.rs s).ended=true/\(b.rs s).lG<=n->y.cut=true/\y.ended=true/\y.lG<=n):Do b { b with rs:=ze b.rs s y }:=by
 intro d o h;have e:∀k,(({ b with rs:=ze b.rs s y }:CS).rs k=y/\k=s)\/({ b with rs:=ze b.rs s y }:CS).rs k=b.rs k:=λk=>by
  by_cases q:k=s
  .exact .inl ⟨by subst q;exact zf _ _ _,q⟩
  exact .inr<|zd _ _ q
 cases d with
 | byte k p =>
  rcases e k with⟨q,rfl⟩|q
  .show De (({ b with rs:=ze b.rs k y }:CS).rs k).lC.rs p;rw[q];exact hb p h
  show De (({ b with rs:=ze b.rs s y }:CS).rs k).lC.rs p;rw[q];exact h
 | fin k =>
  rcases e k with⟨q,rfl⟩|q
  .show(({ b with rs:=ze b.rs k y }:CS).rs k).ended=true;rw[q];exact a h
  show(({ b with rs:=ze b.rs s y }:CS).rs k).ended=true;rw[q];exact h
 | tell k n =>
  rcases e k with⟨q,rfl⟩|q
  .show(({ b with rs:=ze b.rs k y }:CS).rs k).cut=true/\(({ b with rs:=ze b.rs k y }:CS).rs k).ended=true/\(({ b with rs:=ze b.rs k y }:CS).rs k).lG<=n;rw[q];exact c n h
  show(({ b with rs:=ze b.rs s y }:CS).rs k).cut=true/\(({ b with rs:=ze b.rs s y }:CS).rs k).ended=true/\(({ b with rs:=ze b.rs s y }:CS).rs k).lG<=n;rw[q];exact h
 | mF k n=>exact h
 | all n=>exact h
def Do.w{b:CS}(s:Nat)(h:(b s).lA<=y.lA):Do b { b with ws:=ze b.ws s y } :=
 Do.of (λk _=>⟨rfl,rfl,rfl,rfl⟩) (λj _=>by
  show(b j).lA<=(ze b.ws s y j).lA;by_cases x:j=s
  .subst x;rw[zf];exact h
  rw[zd _ _ x];exact AF _) ro
variable{H e:Nat}
theorem SQ{c:Nat}{data:rC}(f:H<=2048)(d:e<=H):∀(n lo:Nat) (b:rC) (s:Df),EF s H->e<lo+n->∀p,De s.rs p\/(lo<=p/\p<e)->De (En c data e n lo b s).2.rs p
 | 0,lo,b,s,_,h2,p,hp=>hp.elim id<|λx=>I
 | n+1,lo,b,s,h1,h2,p,hp=>by
  unfold En;have a:p<(Dd s.rs lo e).1->lo<=p->De s.rs p:=λx y=>GP.2<|Mt s.rs lo e p y x
  split
  .rename_i c;split
   .rename_i h;exact hp.elim id<|λx=>a I x.1
   rename_i h;obtain⟨h,l⟩:=NN s.rs lo e c I;have c:=If s.rs lo e;generalize Dd s.rs lo e=g at *;obtain⟨c,e⟩:=h1.add f (lo:=g.1) (hi:=g.2-1) I I;refine SQ f d n g.2 _ _ c I p ?_;rw[e p];rcases hp with x|x
   .exact .inl (.inl x)
   by_cases y:p<g.1
   .exact .inl (.inl<|a y x.1)
   by_cases z:p<g.2
   .exact .inl (.inr I)
   exact .inr I
  exact hp.elim id<|λx=>I
variable{p:Nat}{r:RS}{x:WS}
def Sv{e:EN}(h:Dn x r e)(c:f.off+f.data.length<=x.high)(a:De r.lC.rs p\/(f.off<=p/\p<f.off+f.data.length)):De (r.data f).lC.rs p:=by
 have:=h.hl;have:=h.bl;have:=h.rh;have c:f.end_=f.off+f.data.length:=rfl;exact SQ (H:=max r.high f.end_) I (Cm _ _) _ _ _ _ (h.low.mono<|BO _ _) I p a
def FV.top{a b:CS}{E:Nat->EN}(h:FV a b E):It a b:=λk a p c=>by
 have d:=h.k k a;have:=MF d.low c;have:=d.rh;omega
structure WT(a b b':CS)(fs:List DV):Prop where
 my:Do b b'
 has:∀f∈fs,FY b' f
 nV:Dc b' a b'.mJ
 sub:∀q∈b'.kx,q∈b.kx
 gt:∀k,k<8->(b'.rs k).kz=(b.rs k).kz
 rd:∀k,k<8->(b'.rs k).read=(b.rs k).read/\(b'.rs k).state=(b.rs k).state
 cf:b'.lD=b.lD/\b'.total=b.total
 wf:∀k,k<8->EW (b k) (b' k)
 lg:b.lI<=b.next->b'.lI<=b'.next
def Vf(h:¬c.next<=DP rs 0):∃l:DW->Bool,(c.ln rs).2.kx=(c.kx.filter λp => !Dw rs p).filter l/\∀p,l p = !(decide (p.at_+6<=c.now)||decide (p.n+3<=max c.lI (DP rs 0))):=by
 rw[Ov c rs h,Hj];refine⟨_,rfl,λp=>?_⟩;have e:=(Jq rs c.kx ({ c with lI:=max c.lI (DP rs 0) }:CS));unfold CS.late;have a:=e.hd.2.2.2.1;have d:=e.tl.2.2.2.1;show(!(decide (p.at_+6<=(({ c with lI:=max c.lI (DP rs 0) }:CS).mT rs c.kx).now)||decide (p.n+3<=(({ c with lI:=max c.lI (DP rs 0) }:CS).mT rs c.kx).lI)))=_;rw[a,d]
def NR(h:¬c.next<=DP rs 0):(c.ln rs).2.lI=max c.lI (DP rs 0)/\(c.ln rs).2.answer=c.answer/\(c.ln rs).2.now=c.now/\(c.ln rs).2.next=c.next/\(c.ln rs).2.lD=c.lD/\(c.ln rs).2.total=c.total:=by
 rw[Ov c rs h,Hj];have e:=Jq rs c.kx ({ c with lI:=max c.lI (DP rs 0) }:CS);have a:=I9 ((({ c with lI:=max c.lI (DP rs 0) }:CS).mT rs c.kx).mC<|c.kx.filter λp => !Dw rs p).kx<|(({ c with lI:=max c.lI (DP rs 0) }:CS).mT rs c.kx).mC<|c.kx.filter λp => !Dw rs p;exact⟨a.tl.2.2.2.1.trans e.tl.2.2.2.1,a.hd.2.2.2.2.2.2.2.2.trans e.hd.2.2.2.2.2.2.2.2,a.hd.2.2.2.1.trans e.hd.2.2.2.1,a.hd.2.2.2.2.2.2.1.trans e.hd.2.2.2.2.2.2.1,a.hd.2.1.trans e.hd.2.1,a.hd.2.2.1.trans e.hd.2.2.1⟩
def Xb{b:CS}(h:(b.data f).1=0):(b.data f).2={ b with rs:=ze b.rs f.stream.toNat ((b.rs f.stream.toNat).data f) }:=by
 unfold CS.data at h ⊢;split
 .rename_i x;rw[AM x]at h;cases h
 rename_i x;rw[AH x]at h;split
 .rename_i y;rw[AM y]at h;cases h
 rfl
variable{Ea Eb:Nat->EN}{Ga Gb:List SN}
theorem SO{a b:CS}(h:Rc a b Ea Eb Ga Gb)(ha:Dq a Ga)(hf:Ev f)(ok:FJ a b.next Ga f)(hs:∀p∈b.kx,∀g∈p.fs,Za g)(hb:Dc b a b.mJ)(hn:f.kind=2->∀p∈b.kx,Dw f.lF p=true->∀g∈p.fs,FY a g):WT a b (b.take f).2 [f]:=by
 have no:∀{t:CS},(f.kind≠3/\f.kind≠4/\f.kind≠5/\f.kind≠6)->∀g ∈ [f],FY t g:=λq g O u _ s=>by
  rw[Af.1 O]at s;cases u<;>have:=s.1<;>omega
 have v:∀{t:CS},FY t f->∀g ∈ [f],FY t g:=λq g O=>by rw[Af.1 O];exact q
 have z:∀(s:Nat) {y:RS},y.lU=(b.rs s).lU->y.kz=(b.rs s).kz->Dc ({ b with rs:=ze b.rs s y }:CS) a b.mJ:=λs y a T=>hb.ask<|Ed.r s a T
 have gr:∀(s:Nat) {y:RS},y.kz=(b.rs s).kz->∀k,k<8->(({ b with rs:=ze b.rs s y }:CS).rs k).kz=(b.rs k).kz:=λs y e k _=>by
  show(ze b.rs s y k).kz=_;by_cases x:k=s
  .subst x;rw[zf,e]
  rw[zd _ _ x]
 have rd:∀(s:Nat) {y:RS},y.read=(b.rs s).read->y.state=(b.rs s).state->∀k,k<8->(({ b with rs:=ze b.rs s y }:CS).rs k).read=(b.rs k).read/\(({ b with rs:=ze b.rs s y }:CS).rs k).state=(b.rs k).state:=λs y e T k _=>by
  show(ze b.rs s y k).read=_/\(ze b.rs s y k).state=_;by_cases x:k=s
  .subst x;rw[zf];exact⟨e,T⟩
  rw[zd _ _ x];exact rZ
 unfold CS.take;split
 .rename_i e;have t:=hf.oZ e;have a:¬b.next<=DP f.lF 0:=by
   have:=ok.k2 e _<|AW<|Gh t;simp only at this;omega
  obtain⟨l,X,_⟩:=Vf a;exact⟨(NM a).2.my,no I,(hb.ln h.d2.top a hs<|hn e).1,λq t=>by
   rw[X]at t;exact(BI.1 (BI.1 t).1).1,λk A=>by obtain⟨q,e⟩:=(NM a).2.rs k A;rw[e],λk A=>by obtain⟨q,e⟩:=(NM a).2.rs k A;rw[e];exact rZ,⟨(NR a).2.2.2.2.1,(NR a).2.2.2.2.2⟩,λk _=>by have s:=(NM a).2.ws k;exact⟨s.b,s.fin,s.cut,s.lG,s.final,Az s.high.symm,Az s.lA.symm⟩,λx=>by rw[(NR a).1,(NR a).2.2.2.1];omega⟩
 split
 .rename_i B e;obtain⟨k,A,c,N,h4,h5⟩:=ok.k3 e;have a:=(h.d1.k k A).oG N h4;unfold CS.lq;rw[c,Ad,AH (by rw[a];simp)];have a:∀n,(b.rs k).cut=true/\(b.rs k).ended=true/\(b.rs k).lG<=n->((b.rs k).lq f).lG<=n:=λn q=>by
   show(if !(b.rs k).cut||decide (f.rel<(b.rs k).lG)then f.rel else(b.rs k).lG)<=n;rw[q.1];split
   .rename_i w;simp at w;omega
   exact q.2.2
  refine⟨Do.r k (λp=>id) (λ_=>rfl)<|λn q=>⟨rfl,rfl,a n q⟩,v λu o s=>?_,z k rfl rfl,λq=>id,gr k rfl,rd k rfl rfl,⟨rfl,rfl⟩,λ_ _=>EW.refl _,id⟩;cases u with
  | tell j n =>
   obtain⟨_,Y,E⟩:=s;have:j=k:=I;subst this;show(ze b.rs j ((b.rs j).lq f) j).cut=true/\(ze b.rs j ((b.rs j).lq f) j).ended=true/\(ze b.rs j ((b.rs j).lq f) j).lG<=n;rw[zf];refine⟨rfl,rfl,?_⟩;show(if !(b.rs j).cut||decide (f.rel<(b.rs j).lG)then f.rel else(b.rs j).lG)<=n;split
   .omega
   rename_i w;simp at w;omega
  | byte j p=>have:=s.1;omega
  | fin j=>have:=s.1;omega
  | mF j n=>have:=s.1;omega
  | all n=>have:=s.1;omega
 split
 .rename_i B K e;obtain⟨k,A,c,N,h4,h5⟩:=ok.k4 e;have d:=h.d1.k k A;have t:(b.data f).1=0:=by
   have t:=(h.take ha hf ok).1;unfold CS.take at t;rw[AH B,AH K,AM e]at t;exact t
  rw[Xb t,c,Ad];refine⟨Do.r k (λp q=>Sv d N<|.inl q) (λq=>by show((b.rs k).ended||f.fin)=true;rw[q];rfl)<|λn q=>⟨q.1,by show((b.rs k).ended||f.fin)=true;rw[q.2.1];rfl,q.2.2⟩,v λu o s=>?_,z k rfl rfl,λq=>id,gr k rfl,rd k rfl rfl,⟨rfl,rfl⟩,λ_ _=>EW.refl _,id⟩;cases u with
  | byte j p =>
   obtain⟨_,Y,E⟩:=s;have:j=k:=I;subst this;show De (ze b.rs j ((b.rs j).data f) j).lC.rs p;rw[zf];exact Sv d N<|.inr E
  | fin j =>
   obtain⟨_,Y,E⟩:=s;have:j=k:=I;subst this;show(ze b.rs j ((b.rs j).data f) j).ended=true;rw[zf];show((b.rs j).ended||f.fin)=true;rw[E,Bool.or_true]
  | tell j n=>have:=s.1;omega
  | mF j n=>have:=s.1;omega
  | all n=>have:=s.1;omega
 split
 .rename_i B K Z e;refine⟨Do.of (λk _=>⟨rfl,rfl,rfl,rfl⟩) (λ_ _=>AF _)<|BO _ _,v λu o s=>?_,hb.ask<|Ed.of rfl rfl rfl rfl,λq=>id,λ_ _=>rfl,λ_ _=>⟨rfl,rfl⟩,⟨rfl,rfl⟩,λ_ _=>EW.refl _,id⟩;cases u with
  | all n =>
   show n<=max b.lA f.mF;have:=s.2;omega
  | byte j p=>have:=s.1;omega
  | fin j=>have:=s.1;omega
  | tell j n=>have:=s.1;omega
  | mF j n=>have:=s.1;omega
 split
 .rename_i B K Z n5 e;obtain⟨k,A,c,a⟩:=ok.k6 e;rw[c,Ad];refine⟨Do.w k<|BO _ _,v λu o s=>?_,hb.ask<|Ed.w k (λl=>⟨l.lJ,l.lC,l.hl,l.bl,l.fn⟩) rfl rfl rfl (λx y=>⟨x,y,rfl⟩),λq=>id,λ_ _=>rfl,λ_ _=>⟨rfl,rfl⟩,⟨rfl,rfl⟩,λj _=>by
   show EW _ (ze b.ws k _ j);by_cases x:j=k
   .subst x;rw[zf];exact⟨rfl,rfl,rfl,rfl,rfl,AF _,BO _ _⟩
   rw[zd _ _ x];exact EW.refl _,id⟩
  cases u with
  | mF j n =>
   obtain⟨_,Y,E⟩:=s;have:j=k:=I;subst this;show n<=(ze b.ws j _ j).lA;rw[zf];show n<=max (b j).lA f.mF;omega
  | byte j p=>have:=s.1;omega
  | fin j=>have:=s.1;omega
  | tell j n=>have:=s.1;omega
  | all n=>have:=s.1;omega
 rename_i B K Z n5 c;have a:f.kind≠3/\f.kind≠4/\f.kind≠5/\f.kind≠6:=⟨K,Z,n5,c⟩;split
 .obtain⟨x,y,z,X⟩:∃x y z,b.message f={ b with most:=x,seen:=y,lC:=z }:=by
   unfold CS.message;split
   .exact⟨b.most,b.seen,b.lC,rfl⟩
   exact⟨_,_,_,rfl⟩
  rw[X];exact⟨Do.of (λk _=>⟨rfl,rfl,rfl,rfl⟩) (λ_ _=>AF _) ro,no a,hb.ask<|Ed.of rfl rfl rfl rfl,λq=>id,λ_ _=>rfl,λ_ _=>⟨rfl,rfl⟩,⟨rfl,rfl⟩,λ_ _=>EW.refl _,id⟩
 split
 .exact⟨Do.refl b,no a,hb,λq=>id,λ_ _=>rfl,λ_ _=>⟨rfl,rfl⟩,⟨rfl,rfl⟩,λ_ _=>EW.refl _,id⟩
 exact⟨Do.refl b,no a,hb,λq=>id,λ_ _=>rfl,λ_ _=>⟨rfl,rfl⟩,⟨rfl,rfl⟩,λ_ _=>EW.refl _,id⟩
theorem QC{a:CS}(l:Dq a Ga):∀(d:List DV) {b:CS},Rc a b Ea Eb Ga Gb->(∀f∈d,Ev f)->(∀f∈d,FJ a b.next Ga f)->(∀p∈b.kx,∀g∈p.fs,Za g)->Dc b a b.mJ ->
  (∀f∈d,f.kind=2->∀p∈b.kx,Dw f.lF p=true->∀g∈p.fs,FY a g)->WT a b (CS.lk d b).2 d
 | [],b,h,_,_,_,hb,_=>⟨Do.refl b,λf c=>(nomatch c),hb,λq=>id,λ_ _=>rfl,λ_ _=>⟨rfl,rfl⟩,⟨rfl,rfl⟩,λ_ _=>EW.refl _,id⟩
 | f::d,b,h,hr,ho,hs,hb,hn=>by
  obtain⟨N,c,O⟩:=h.take l (hr f AQ)<|ho f AQ;obtain⟨T,X,v,o,Y,Z,t7,t8,t9⟩:=SO h l (hr f AQ) (ho f AQ) hs hb<|hn f AQ;have t:=c.answer<|(b.take f).2.answer||f.kind != 2;obtain⟨c,h⟩:∃c,({ (b.take f).2 with answer:=(b.take f).2.answer||f.kind != 2 }:CS)=c:=⟨_,rfl⟩;have s:Dc c a c.mJ/\Do (b.take f).2 c/\c.kx=(b.take f).2.kx/\c.next=(b.take f).2.next/\c.rs=(b.take f).2.rs/\(c.lD=(b.take f).2.lD/\c.total=(b.take f).2.total)/\c.ws=(b.take f).2.ws/\c.lI=(b.take f).2.lI:=by
   rw[<-h];exact⟨v.ask<|Ed.of rfl rfl rfl rfl,Do.of (λk _=>⟨rfl,rfl,rfl,rfl⟩) (λ_ _=>AF _) ro,rfl,rfl,rfl,⟨rfl,rfl⟩,rfl,rfl⟩
  obtain⟨s,u,a,f,v,z,A⟩:=s;rw[h]at t;obtain⟨B,i2,i3,i4,i5,E,K,i8,i9⟩:=QC l d t (λg c=>hr g<|AV _ c) (λg c=>by rw[f,O.next];exact ho g<|AV _ c) (λp d=>hs p<|o p<|by rw[<-a];exact d) s
   (λg c e p d=>hn g (AV _ c) e p<|o p<|by rw[<-a];exact d)
  unfold CS.lk;rw[AH (by rw[N];simp),h];refine⟨(T.trans u).trans B,λg c=>?_,i3,λq d=>o q<|by rw[<-a];exact i4 q d,λk a=>by rw[i5 k a,v,Y k a],λk a=>by rw[(E k a).1,(E k a).2,v];exact Z k a,by rw[K.1,K.2,z.1,z.2];exact t7,λk a=>(t8 k a).trans (by have:=i8 k a;rw[A.1]at this;exact this),λx=>i9<|by rw[A.2,f];exact t9 x⟩;rcases Ay.1 c with e|e
  .subst e;exact λa o s=>B a o<|u a o<|X g AQ a o s
  exact i2 g e
end
end Go.Proofs.YtddfdpbaiedcjaaGreatDoor
