/- A part of Live's proof. Conditions: none. Part 13 of 15. -/
import Derived.Test.YtddfdpbaiedcjaaGreatDoorLiv11
set_option maxRecDepth 100000
set_option maxHeartbeats 16000000
set_option linter.all false
namespace Go.Proofs.YtddfdpbaiedcjaaGreatDoor
section
open Go.RowKit
structure FK(x y:WS):Prop where
 b:y.b=x.b
 high:y.high=x.high
 fin:y.finished=x.finished
 cut:y.cut=x.cut
 keep:y.keep=x.keep
 final:y.final=x.final
 credit:y.credit=x.credit
def FK.refl(x:WS):FK x x:=⟨rfl,rfl,rfl,rfl,rfl,rfl,rfl⟩
variable{x y:WS}
def FK.trans{z:WS}(h:FK x y)(k:FK y z):FK x z:=⟨k.b.trans h.b,k.high.trans h.high,k.fin.trans h.fin,k.cut.trans h.cut,k.keep.trans h.keep,k.final.trans h.final,k.credit.trans h.credit⟩
structure F8(x y:WS):Prop where
 b:x.b <+: y.b
 fz:x.finished=true\/x.cut=true->y.b=x.b
 high:x.high<=y.high
 hl:y.high<=y.b.length
 fin:x.finished=true->y.finished=true
 cut:x.cut=true->y.cut=true/\y.final=x.final/\y.keep<=x.keep
 fc:x.finished=true->x.high=x.b.length->x.cut=false->y.cut=true->y.final=x.b.length
def JA(x:WS):Prop:=x.finished=true/\x.high=x.b.length/\(x.cut=true->x.final=x.b.length)
def Ic(x:WS)(n:Nat):Prop:=(JA x/\n=x.b.length)\/(x.cut=true/\n=x.final)
def F8.of_same(h:FK x y)(hl:x.high<=x.b.length):F8 x y where
 b:=by rw[h.b];exact DD _
 fz:=λ_=>h.b
 high:=by rw[h.high];exact AF _
 hl:=by rw[h.high,h.b];exact hl
 fin:=λe=>by rw[h.fin];exact e
 cut:=λe=>⟨by rw[h.cut];exact e,h.final,by rw[h.keep];exact AF _⟩
 fc:=λ_ _ e a=>by rw[h.cut,e]at a;cases a
theorem JA.le(h:JA x)(l:F8 x y):JA y/\y.b=x.b:=by
 obtain⟨h1,h2,h3⟩:=h;have eb:=l.fz (.inl h1);have hy:=l.hl;have hh:=l.high;rw[eb]at hy;refine⟨⟨l.fin h1,by rw[eb];omega,λhc=>?_⟩,eb⟩;cases hx:x.cut with
 | true =>
  rw[(l.cut hx).2.1,eb];exact h3 hx
 | false =>
  rw[eb];exact l.fc h1 h2 hx hc
def Ic.le{n:Nat}(h:Ic x n)(l:F8 x y):Ic y n:=by
 rcases h with⟨h1,h2⟩|⟨h1,h2⟩
 .obtain⟨a,b⟩:=h1.le l;exact .inl ⟨a,by rw[b];exact h2⟩
 exact .inr ⟨(l.cut h1).1,by rw[(l.cut h1).2.1];exact h2⟩
variable{m:Nat}
def Ic.uniq{n:Nat}(h:Ic x n)(k:Ic x m):n=m:=by
 rcases h with⟨h1,h2⟩|⟨h1,h2⟩<;>rcases k with⟨a,k2⟩|⟨a,k2⟩
 .omega
 .have:=h1.2.2 a;omega
 .have:=a.2.2 h1;omega
 omega
def Ic.high{n:Nat}(h:Ic x n)(hc:x.cut=true->x.high<=x.final):x.high<=n:=by
 rcases h with⟨h1,h2⟩|⟨h1,h2⟩
 .have:=h1.2.1;omega
 have:=hc h1;omega
theorem F8.trans{z:WS}(h:F8 x y)(k:F8 y z):F8 x z where
 b:=h.b.trans k.b
 fz:=λe=>by
  have d:=h.fz e;rw[<-d];refine k.fz ?_;rcases e with e|e
  .exact .inl (h.fin e)
  exact .inr (h.cut e).1
 high:=AJ h.high k.high
 hl:=k.hl
 fin:=λe=>k.fin (h.fin e)
 cut:=λe=>by
  obtain⟨a,b,c⟩:=h.cut e;obtain⟨a',b',c'⟩:=k.cut a;exact⟨a',b'.trans b,AJ c' c⟩
 fc:=λd e2 e3 e4=>by
  have eb:=h.fz (.inl d);cases hy:y.cut with
  | true=>exact(k.cut hy).2.1.trans (h.fc d e2 e3 hy)
  | false =>
   have h1:=h.hl;have h2:=h.high;rw[eb]at h1;rw[<-eb];exact k.fc (h.fin d) (by rw[eb];omega) hy e4
structure FU(c:CS)(nx:Nat)(G:List SN)(f:Da):Prop where
 k2:f.kind=2->∀r∈f.rngs,r.2<nx
 k3:f.kind=3->∃k:Nat,k<8/\f.stream=(k:Int)/\(c.ws k).cut=true/\f.off=(c.ws k).final/\(c.ws k).keep<=f.rel
 k4:f.kind=4->∃k:Nat,k<8/\f.stream=(k:Int)/\f.off+f.data.length<=(c.ws k).high/\f.data=((c.ws k).b.drop f.off).take f.data.length/\(f.fin=true->JA (c.ws k)/\f.off+f.data.length=(c.ws k).b.length)
 k5:f.kind=5->f.lim<=c.grant
 k6:f.kind=6->∃k:Nat,k<8/\f.stream=(k:Int)/\f.lim<=(c.rs k).grant
 k7:f.kind=7->∃s∈G,s.id=f.id/\s.dl=f.dl/\s.data=f.data
 k8:f.kind≠8
structure EY(c c':CS):Prop where
 ws:∀k,k<8->F8 (c.ws k) (c'.ws k)
 grant:c.grant<=c'.grant
 rg:∀k,k<8->(c.rs k).grant<=(c'.rs k).grant
variable{c:CS}
def EY.trans{a b:CS}(h:EY a b)(k:EY b c):EY a c:=⟨λj d=>(h.ws j d).trans (k.ws j d),AJ h.grant k.grant,λj d=>AJ (h.rg j d) (k.rg j d)⟩
variable{i:Nat}
def Xf{α : Type}{a b:List α}(h:a <+: b){n:Nat}(hn:i+n<=a.length):(b.drop i).take n=(a.drop i).take n:=by
 obtain⟨t,rfl⟩:=h;rw[List.drop_append_of_le_length I,BF (by rw[Ac];omega)]
variable{G:List SN}{c':CS}{f:Da}{nx:Nat}
def FU.mono{j:Nat}{p:List SN}(h:FU c nx G f)(l:EY c c')(hh:∀k,k<8->(c.ws k).high<=(c.ws k).b.length)(hn:nx<=j)(hG:∀s∈G,∃s'∈p,s'.id=s.id/\s'.dl=s.dl/\s'.data=s.data):FU c' j p f where
 k2:=λe r hr=>A7 (h.k2 e r hr) hn
 k3:=λe=>by
  obtain⟨k,k8,i,g,m,n⟩:=h.k3 e;obtain⟨a,b,d⟩:=(l.ws k k8).cut g;exact⟨k,k8,i,a,by rw[b];exact m,AJ d n⟩
 k4:=λe=>by
  obtain⟨k,k8,i,g,m,n⟩:=h.k4 e;have w:=l.ws k k8;refine⟨k,k8,i,AJ g w.high,?_,λef=>?_⟩
  .rw[Xf w.b (AJ g (hh k k8))];exact m
  obtain⟨a,b⟩:=n ef;obtain⟨a',b'⟩:=a.le w;exact⟨a',by rw[b'];exact b⟩
 k5:=λe=>AJ (h.k5 e) l.grant
 k6:=λe=>by
  obtain⟨k,k8,i,g⟩:=h.k6 e;exact⟨k,k8,i,AJ g (l.rg k k8)⟩
 k7:=λe=>by
  obtain⟨s,hs,i,g,m⟩:=h.k7 e;obtain⟨s',o,f1,f2,f3⟩:=hG s hs;exact⟨s',o,f1.trans i,f2.trans g,f3.trans m⟩
 k8:=h.k8
def FU.canon(h:FU c nx G f):FU c nx G (zs f) where
 k2:=λe=>by
  have hk:f.kind=2:=by rw[Gq]at e;exact e
  have:(zs f).rngs=f.rngs:=by simp[zs,hk]
  rw[this];exact h.k2 hk
 k3:=λe=>by
  have hk:f.kind=3:=by rw[Gq]at e;exact e
  have a:(zs f).stream=f.stream:=by simp[zs,hk]
  have b:(zs f).off=f.off:=by simp[zs,hk]
  have d:(zs f).rel=f.rel:=by simp[zs,hk]
  rw[a,b,d];exact h.k3 hk
 k4:=λe=>by
  have hk:f.kind=4:=by rw[Gq]at e;exact e
  have a:(zs f).stream=f.stream:=by simp[zs,hk]
  have b:(zs f).off=f.off:=by simp[zs,hk]
  have d:(zs f).data=f.data:=by simp[zs,hk]
  have e4:(zs f).fin=f.fin:=by simp[zs,hk]
  rw[a,b,d,e4];exact h.k4 hk
 k5:=λe=>by
  have hk:f.kind=5:=by rw[Gq]at e;exact e
  have a:(zs f).lim=f.lim:=by simp[zs,hk]
  rw[a];exact h.k5 hk
 k6:=λe=>by
  have hk:f.kind=6:=by rw[Gq]at e;exact e
  have a:(zs f).stream=f.stream:=by simp[zs,hk]
  have b:(zs f).lim=f.lim:=by simp[zs,hk]
  rw[a,b];exact h.k6 hk
 k7:=λe=>by
  have hk:f.kind=7:=by rw[Gq]at e;exact e
  have a:(zs f).id=f.id:=by simp[zs,hk]
  have b:(zs f).dl=f.dl:=by simp[zs,hk]
  have d:(zs f).data=f.data:=by simp[zs,hk]
  rw[a,b,d];exact h.k7 hk
 k8:=by rw[Gq];exact h.k8
variable{rs:zC}
def GW{n:Nat}:Dk rs n ↔ ∃r∈rs,r.1<=n/\n<=r.2:=by
 constructor
 .rintro⟨i,hi,h1,h2⟩;have e:=AV (Gn hi);exact⟨_,e,h1,h2⟩
 rintro⟨r,hr,h1,h2⟩;obtain⟨j,hj,e1,e2⟩:=I5 hr;exact⟨j,hj,I,I⟩
theorem Mx:∀(rs:zC) (lo hi p:Nat),lo<=p->p<(Dj rs lo hi).1->∃r∈rs,r.1<=p/\p<=r.2
 | [],lo,hi,p,h1,h2=>by
  have h2:p<lo:=h2;omega
 | r::l,lo,hi,p,h1,h2=>by
  unfold Dj at h2;split at h2
  .obtain⟨q,a,b⟩:=Mx l lo hi p h1 h2;exact⟨q,AW _ a,b⟩
  split at h2
  .have h2:p<lo:=h2;omega
  by_cases hp:p<=r.2
  .exact⟨r,AO,I,hp⟩
  obtain⟨q,a,b⟩:=Mx l (r.2+1) hi p I h2;exact⟨q,AW _ a,b⟩
theorem UN(h:WF rs):∀i,i<rs.length->2*i<=DZ rs i
 | 0,_=>I
 | i+1,hi=>by
  have a:=UN h i I;have b:=(h.1 i I).1;have c:=h.2 i (i+1) I hi;omega
variable{H:Nat}
def Yj(h:WF rs)(hh:∀j,j<rs.length->DX rs j<H):rs.length<=H / 2+1:=by
 by_cases h0:rs.length=0
 .omega
 have a:=UN h (rs.length-1) I;have b:=(h.1 (rs.length-1) I).1;have c:=hh (rs.length-1) I;omega
structure EL(s:Dl)(H:Nat):Prop where
 ok:s.Ok
 fl:s.fl=0
 hi:∀j,j<s.rs.length->DX s.rs j<H
 most:1025<=s.most
variable{s:Dl}
def EL.mono{a:Nat}(h:EL s H)(hh:H<=a):EL s a:=⟨h.ok,h.fl,λj hj=>A7 (h.hi j hj) hh,h.most⟩
variable{hi lo:Nat}
def EL.add(h:EL s H)(hH:H<=2048)(hl:lo<=hi)(hh:hi<H):EL (s.add lo hi) H/\∀n,Dk (s.add lo hi).rs n↔Dk s.rs n\/(lo<=n/\n<=hi):=by
 have hm:hi<=zF:=by unfold zF;omega
 have b:=h.ok.add lo hm;have hmo:=IN s lo hi;have s1:=zT (D0 s.rs (max lo s.fl)) s.rs.length;have s2:=zT (EF s.rs hi) s.rs.length;have d:=Jo h.ok.wf (show max lo s.fl<=hi by rw[h.fl];omega) s1 s2;have hw:=Qj h.ok.wf (show max lo s.fl<=hi by rw[h.fl];omega) I s1 s2;have g:=PJ (m:=max lo s.fl) (B:=H-1) d s2.1 (λj c=>nC (h.hi j c)) (I:hi<=H-1);have i:=Yj hw (H:=H) (λj c=>nC (g j c));have f:=UD h.ok.wf (show max lo s.fl<=hi by rw[h.fl];omega) s1 s2;have a:=h.most;have e:s.add lo hi=⟨EI s.rs (max lo s.fl) hi (zW (D0 s.rs (max lo s.fl)) s.rs.length) (zW (EF s.rs hi) s.rs.length),s.fl,s.most⟩:=by
  unfold Dl.add;rw[AI (by rw[h.fl];omega),AI I]
 rw[e]at b ⊢;refine⟨⟨b,h.fl,λj c=>by have:=g j c;show DX (EI _ _ _ _ _) j<H;omega,a⟩,λn=>?_⟩;have:=f n;rw[h.fl,Nat.max_zero]at this;show Dk (EI _ _ _ _ _) n↔_;rw[h.fl,Nat.max_zero];exact this
structure Dr(x:WS)(r:RS)(e:EN):Prop where
 hl:x.high<=x.b.length
 bl:x.b.length<=2048
 hc:x.high<=x.credit
 cg:x.credit<=r.grant
 hf:x.cut=true->x.high<=x.final
 rh:r.high<=x.high
 rl:r.b.length=r.high
 rd:r.read<=r.high
 low:EL r.came r.high
 byt:∀p,Dk r.came.rs p->r.b[p]?=x.b[p]?
 rc:r.cut=true->x.cut=true/\x.keep<=r.keep
 re:r.ended=true->Ic x r.fin
 rf:r.ended=true->r.cut=false->x.finished=true/\r.fin=x.b.length
 st:r.state<=2
 s1:r.state=1->x.finished=true/\r.read=x.b.length
 s2:r.state=2->x.cut=true/\x.keep<=r.read
 wr:e.wrote=x.b
 fi:e.fin=x.finished
 cu:e.cut=x.cut
 ke:x.cut=true->e.keep=x.keep
 er:e.read=r.read
 es:e.state=r.state
variable{p:Nat}
def ML(h:EL s H)(hp:Dk s.rs p):p<H:=by
 obtain⟨i,hi,_,h2⟩:=hp;have:=h.hi i hi;omega
variable{r:RS}
def Dr.wle{e f:EN}(h:Dr x r e)(l:F8 x y)(bl:y.b.length<=2048)(hc:y.high<=y.credit)(cg:y.credit<=r.grant)(hf:y.cut=true->y.high<=y.final)
  (wr:f.wrote=y.b) (fi:f.fin=y.finished) (cu:f.cut=y.cut) (ke:y.cut=true->f.keep=y.keep) (er:f.read=e.read) (es:f.state=e.state):Dr y r f where
 hl:=l.hl
 bl:=bl
 hc:=hc
 cg:=cg
 hf:=hf
 rh:=AJ h.rh l.high
 rl:=h.rl
 rd:=h.rd
 low:=h.low
 byt:=λp g=>by
  have hp2:=ML h.low g;have:=h.rh;have:=h.hl;rw[h.byt p g];obtain⟨t,ht⟩:=l.b;rw[<-ht,Ao I]
 rc:=λe=>by
  obtain⟨a,b⟩:=h.rc e;obtain⟨c,_,d⟩:=l.cut a;exact⟨c,AJ d b⟩
 re:=λe=>(h.re e).le l
 rf:=λe1 e2=>by
  obtain⟨a,b⟩:=h.rf e1 e2;exact⟨l.fin a,by rw[l.fz (.inl a)];exact b⟩
 st:=h.st
 s1:=λe=>by
  obtain⟨a,b⟩:=h.s1 e;exact⟨l.fin a,by rw[l.fz (.inl a)];exact b⟩
 s2:=λe=>by
  obtain⟨a,b⟩:=h.s2 e;obtain⟨c,_,d⟩:=l.cut a;exact⟨c,AJ d b⟩
 wr:=wr
 fi:=fi
 cu:=cu
 ke:=ke
 er:=er.trans h.er
 es:=es.trans h.es
def Dr.same{e:EN}(h:Dr x r e)(s:FK x y):Dr y r e :=
 h.wle (F8.of_same s h.hl) (by rw[s.b];exact h.bl) (by rw[s.high,s.credit];exact h.hc) (by rw[s.credit];exact h.cg) (by rw[s.cut,s.high,s.final];exact h.hf) (by rw[s.b];exact h.wr) (by rw[s.fin];exact h.fi) (by rw[s.cut];exact h.cu) (by rw[s.cut,s.keep];exact h.ke) rfl rfl
def Dr.grant{e:EN}(h:Dr x r e)(g:Nat)(a:Bool)(hg:r.grant<=g):Dr x { r with grant:=g,anew:=a } e :=
 {h with cg:=AJ h.cg hg }
def fI{b s:nG}(h:i+s.length<=b.length)(p:Nat):(Ie b i s)[p]?=if i<=p/\p<i+s.length then s[p-i]? else b[p]?:=by
 unfold Ie;have hl:(b.take i).length=i:=by rw[AU];omega
 by_cases h1:p<i
 .rw[AI I,Ao I,BH h1]
 rw[Ab I,hl];by_cases h2:p<i+s.length
 .rw[AQ ⟨I,h2⟩,Ao I]
 rw[AI I,Ab I,BD];congr 1;omega
variable{e:Nat}
theorem Se{d:nG}{off:Nat}{data:nG}(hd:data=(d.drop off).take data.length)(he:e=off+data.length)(f:e<=H)(h:H<=2048):∀(n lo:Nat) (b:nG) (s:Dl),off<=lo->b.length=H->EL s H->(∀p,Dk s.rs p->b[p]?=d[p]?) ->
  (Ep off data e n lo b s).1.length=H/\EL (Ep off data e n lo b s).2 H/\∀p,Dk (Ep off data e n lo b s).2.rs p->(Ep off data e n lo b s).1[p]?=d[p]?
 | 0,lo,b,s,_,h2,h3,h4=>⟨h2,h3,h4⟩
 | n+1,lo,b,s,h1,h2,h3,h4=>by
  unfold Ep;split
  .rename_i hlt;split
   .exact⟨h2,h3,h4⟩
   rename_i hg;obtain⟨g1,g2⟩:=NZ s.rs lo e hlt I;have g3:=Il s.rs lo e;generalize Dj s.rs lo e=g at *;have a:((data.drop (g.1-off)).take (g.2-g.1)).length=g.2-g.1:=by
    rw[AU,Ac];omega
   obtain⟨l1,l2⟩:=h3.add h (lo:=g.1) (hi:=g.2-1) I I;refine Se hd he f h n g.2 _ _ I ?_ l1 (λp c=>?_)
   .rw[Nj _ _ _ (by rw[a];omega)];exact h2
   rw[fI (by rw[a];omega),a];rcases(l2 p).1 c with c|c
   .split
    .rename_i hh;rw[BH I,BD,hd,BH I,BD];congr 1;omega
    exact h4 p c
   rw[AQ ⟨I,I⟩,BH I,BD,hd,BH I,BD];congr 1;omega
  exact⟨h2,h3,h4⟩
theorem Dr.badEnd{e:EN}(h:Dr x r e)(h1:f.off+f.data.length<=x.high)(h3:f.fin=true->JA x/\f.off+f.data.length=x.b.length):r.badEnd f=false:=by
 have h1:f.end_<=x.high:=h1;have h3:f.fin=true->JA x/\f.end_=x.b.length:=h3;have hr:=h.rh;have hl:=h.hl;have e2:(f.fin&&decide (f.end_<r.high))=false:=by
  cases hf:f.fin with
  | false=>rfl
  | true =>
   obtain⟨a,b⟩:=h3 hf;have:=a.2.1;simp only[Bi,Ai];omega
 unfold RS.badEnd;rw[e2,Bool.or_false];cases he:r.ended with
 | false=>rfl
 | true =>
  have c:=h.re he;have hh:=c.high h.hf;rw[Bi,BU];refine⟨by simp only[Ai];omega,?_⟩;cases hf:f.fin with
  | false=>rfl
  | true =>
   obtain⟨a,b⟩:=h3 hf;have:=c.uniq (.inl ⟨a,b⟩);rw[Bi,this];simp
def Dr.data{e:EN}(h:Dr x r e)(h1:f.off+f.data.length<=x.high)(h2:f.data=(x.b.drop f.off).take f.data.length)(h3:f.fin=true->JA x/\f.off+f.data.length=x.b.length):Dr x (r.data f) e:=by
 have hr:=h.rh;have hl:=h.hl;have hb:=h.bl;have hrl:=h.rl;have he:f.end_=f.off+f.data.length:=rfl;obtain⟨l1,l2,l3⟩:=Se h2 he (Cq r.high f.end_) I (f.data.length+1) f.off (JT r.b (max r.high f.end_)) r.came (AF _) (by unfold JT;simp;omega) (h.low.mono (BO _ _)) (λp c=>by
  have:=ML h.low c;unfold JT;rw[Ao I];exact h.byt p c)
 exact
  {h with
   rh:=by show max r.high f.end_<=_;omega
   rl:=l1
   rd:=by have:=h.rd;show r.read<=max r.high f.end_;omega
   low:=l2
   byt:=l3
   rc:=h.rc
   re:=λq=>by
    have q:(r.ended||f.fin)=true:=q;show Ic x (if f.fin then f.end_ else r.fin);by_cases hf:f.fin=true
    .rw[AQ hf];obtain⟨a,b⟩:=h3 hf;exact .inl ⟨a,b⟩
    rw[AI hf];rw[Bb]at q;exact h.re (q.resolve_right hf)
   rf:=λq hc=>by
    have q:(r.ended||f.fin)=true:=q;show x.finished=true/\(if f.fin then f.end_ else r.fin)=x.b.length;by_cases hf:f.fin=true
    .rw[AQ hf];obtain⟨a,b⟩:=h3 hf;exact⟨a.1,b⟩
    rw[AI hf];rw[Bb]at q;exact h.rf (q.resolve_right hf) hc
   s1:=h.s1 }
theorem Dr.resetBad{e:EN}(h:Dr x r e)(hc:x.cut=true)(ho:f.off=x.final):((r.ended&&r.fin != f.off)||decide (f.off<r.high))=false:=by
 have hr:=h.rh;have hf:=h.hf hc;rw[BU];refine⟨?_,by simp only[Ai];omega⟩;cases he:r.ended with
 | false=>rfl
 | true =>
  have:=(h.re he).uniq (.inr ⟨hc,ho⟩);rw[Bi,this];simp
def Dr.reset{e:EN}(h:Dr x r e)(hc:x.cut=true)(ho:f.off=x.final)(hk:x.keep<=f.rel):Dr x (r.resetAt f) e :=
 {h with
  rc:=λ_=>⟨hc,by
   show x.keep<=(if !r.cut||decide (f.rel<r.keep)then f.rel else r.keep);split
   .exact hk
   rename_i q;simp only[Bb,not_or,CR,Bool.not_eq_false']at q;exact(h.rc q.1).2⟩
  re:=λ_=>.inr ⟨hc,ho⟩
  rf:=λ_ q=>by cases q }
def Rn{e:EN}(h:Dr x r e)(most:Nat):r.read<=r.readTo most/\r.readTo most<=r.read+most/\r.readTo most<=r.high/\∀p,r.read<=p->p<r.readTo most->Dk r.came.rs p:=by
 have a:=Ub r.came.rs r.read r.high;have b:=T5 r.came.rs (H:=r.high) r.read r.high h.rd (λq hq=>by obtain⟨j,hj,_,e⟩:=I5 hq;rw[<-e];exact h.low.hi j hj);have c:=λp h1 h2=>GW.2 (Mx r.came.rs r.read r.high p h1 h2)
 have d:=h.rd;unfold RS.readTo;generalize Dj r.came.rs r.read r.high=g at *;split
 .exact⟨I,I,I,λp h1 h2=>c p h1 I⟩
 exact⟨I,I,I,λp h1 h2=>c p h1 I⟩
def Dr.bytes{e:EN}(h:Dr x r e)(E:Nat)(h1:r.read<=E)(h2:E<=r.high)(h3:∀p,r.read<=p->p<E->Dk r.came.rs p):(r.b.drop r.read).take (E-r.read)=(x.b.drop r.read).take (E-r.read):=by
 apply List.ext_getElem?;intro p;by_cases a:p<E-r.read
 .rw[BH a,BH a,BD,BD];exact h.byt _ (h3 _ I I)
 rw[CX (by rw[AU];omega),CX (by rw[AU];omega)]
def Dr.read0{e:EN}(h:Dr x r e)(most:Nat)(h0:r.state=0):e.wrong most ((r.b.drop r.read).take (r.readTo most-r.read),r.stateAt (r.readTo most),0)=false /\
  (e.more ((r.b.drop r.read).take (r.readTo most-r.read),r.stateAt (r.readTo most),0)).fits=true /\
  Dr x { r with read:=r.readTo most,state:=r.stateAt (r.readTo most) } (e.more ((r.b.drop r.read).take (r.readTo most-r.read),r.stateAt (r.readTo most),0)):=by
 obtain⟨a,b,c,d⟩:=Rn h most;have hb:=h.bytes _ a c d;have hr:=h.rh;have hl:=h.hl;have hrl:=h.rl;generalize hE:r.readTo most=E at *;have f:((r.b.drop r.read).take (E-r.read)).length=E-r.read:=by
  rw[AU,Ac];omega
 have t1:r.stateAt E=1->x.finished=true/\E=x.b.length:=λq=>by
  unfold RS.stateAt at q;split at q
  .cases q
  split at q
  .rename_i hh;simp only[AZ,Bm,Ci]at hh;obtain⟨p1,p2⟩:=h.rf hh.1.2 hh.1.1;exact⟨p1,I⟩
  cases q
 have l:r.stateAt E=2->x.cut=true/\x.keep<=E:=λq=>by
  unfold RS.stateAt at q;split at q
  .rename_i hh;simp only[AZ,Ah]at hh;obtain⟨p1,p2⟩:=h.rc hh.1;exact⟨p1,I⟩
  split at q<;>cases q
 have t3:r.stateAt E<=2:=by
  unfold RS.stateAt;split
  .omega
  split<;>omega
 generalize r.stateAt E=ST at *;have g:=h.er;have i:=h.wr;have j:=h.es;refine⟨?_,?_,?_⟩
 .unfold EN.wrong;simp only[f,g,i,j,h0];rw[hb];have e1:decide (most<E-r.read)=false:=by simp only[Ai];omega
  have e2:decide (x.b.length<r.read+(E-r.read))=false:=by simp only[Ai];omega
  rw[e1,e2];simp
 .unfold EN.fits EN.more;simp only[f,g];have e3:r.read+(E-r.read)=E:=I;rw[e3];by_cases m:ST=0
  .rw[AQ m]
  rw[AI m];by_cases k:ST=1
  .rw[AQ k];obtain⟨p1,p2⟩:=t1 k;rw[h.fi,p1,h.wr,p2];simp
  rw[AI k];have n:ST=2:=I;rw[AQ n];obtain⟨p1,p2⟩:=l n;rw[h.cu,p1,h.ke p1];simp;exact p2
 exact
  {h with
   rd:=c
   st:=t3
   s1:=t1
   s2:=l
   er:=by show e.read+((r.b.drop r.read).take (E-r.read)).length=E;rw[f,g];omega
   es:=rfl }
def Dr.read1{e:EN}(h:Dr x r e)(most:Nat)(h0:r.state≠0):e.wrong most ([],r.state,0)=false/\(e.more ([],r.state,0)).fits=true/\Dr x r (e.more ([],r.state,0)):=by
 have a:=h.er;have d:=h.wr;have c:=h.es;have hr:=h.rh;have hl:=h.hl;have hd:=h.rd;have e0:e.more ([],r.state,0)=e:=by
  unfold EN.more;rw[<-c];rfl
 rw[e0];refine⟨?_,?_,h⟩
 .unfold EN.wrong;simp only[Ad,a,d,c];have e2:decide (x.b.length<r.read+0)=false:=by simp only[Ai];omega
  rw[e2];simp
 unfold EN.fits;rw[c,AI h0];by_cases f:r.state=1
 .rw[AQ f];obtain⟨p1,p2⟩:=h.s1 f;rw[h.fi,p1,h.wr,a,p2];simp
 rw[AI f];have:=h.st;have g:r.state=2:=I;rw[AQ g];obtain⟨p1,p2⟩:=h.s2 g;rw[h.cu,p1,h.ke p1,a];simp;exact p2
structure Fg(x y:WS):Prop where
 b:y.b=x.b
 fin:y.finished=x.finished
 cut:y.cut=x.cut
 keep:y.keep=x.keep
 final:y.final=x.final
 credit:y.credit=x.credit
 high:x.high<=y.high
 hl:y.high<=y.b.length
 hc:y.high<=y.credit
 hf:y.cut=true->y.high<=y.final
def Fg.le(h:Fg x y):F8 x y where
 b:=by rw[h.b];exact DD _
 fz:=λ_=>h.b
 high:=h.high
 hl:=h.hl
 fin:=λe=>by rw[h.fin];exact e
 cut:=λe=>⟨by rw[h.cut];exact e,h.final,by rw[h.keep];exact AF _⟩
 fc:=λ_ _ e a=>by rw[h.cut,e]at a;cases a
def Fg.trans{z:WS}(h:Fg x y)(k:Fg y z):Fg x z:=⟨k.b.trans h.b,k.fin.trans h.fin,k.cut.trans h.cut,k.keep.trans h.keep,k.final.trans h.final,k.credit.trans h.credit,AJ h.high k.high,k.hl,k.hc,k.hf⟩
def Fg.self(h:Fg x y):Fg y y:=⟨rfl,rfl,rfl,rfl,rfl,rfl,AF _,h.hl,h.hc,h.hf⟩
def Dr.put{e:EN}(h:Dr x r e)(p:Fg x y):Dr y r e :=
 h.wle p.le (by rw[p.b];exact h.bl) p.hc (by rw[p.credit];exact h.cg) p.hf (by rw[p.b];exact h.wr) (by rw[p.fin];exact h.fi) (by rw[p.cut];exact h.cu) (by rw[p.cut,p.keep];exact h.ke) rfl rfl
def Dr.wput{e:EN}(h:Dr x r e):Fg x x:=⟨rfl,rfl,rfl,rfl,rfl,rfl,AF _,h.hl,h.hc,h.hf⟩
structure Dw(c:CS)(G:List SN):Prop where
 w:∀k,k<8->Fg (c.ws k) (c.ws k)
 kf:∀k,k<8->(c.ws k).keep<=(c.ws k).final
 sp:c.spent<=c.credit
 wt:∀f∈c.waits,f.kind=7/\c.now<=f.dl/\∃s∈G,s.id=f.id/\s.dl=f.dl/\s.data=f.data
structure FQ(c c':CS):Prop where
 ws:∀k,k<8->Fg (c.ws k) (c'.ws k)
 grant:c.grant<=c'.grant
 rg:∀k,k<8->(c.rs k).grant<=(c'.rs k).grant
 now:c'.now=c.now
 credit:c'.credit=c.credit
def FQ.sle(h:FQ c c'):EY c c':=⟨λk hk=>(h.ws k hk).le,h.grant,h.rg⟩
def FQ.trans{a b:CS}(h:FQ a b)(k:FQ b c):FQ a c:=⟨λj d=>(h.ws j d).trans (k.ws j d),AJ h.grant k.grant,λj d=>AJ (h.rg j d) (k.rg j d),k.now.trans h.now,k.credit.trans h.credit⟩
def FQ.refl(h:Dw c G):FQ c c:=⟨h.w,AF _,λ_ _=>AF _,rfl,rfl⟩
structure Fr(nx:Nat)(G:List SN)(c:CS)(d:Dd)(r:Bool)(c':CS)(d':Dd):Prop where
 ok:Dw c' G
 le:FQ c c'
 yes:r=true->∃f,d.add f=some d'/\FU c' nx G f/\(f.kind=7->c.now<=f.dl)
variable{d d':Dd}
def Fr.none(h:Dw c G):Fr nx G c d false c d':=⟨h,FQ.refl h,λe=>(by cases e)⟩
variable{k:Nat}
def LV{n:Nat}(hk:k<8)(h:n<=(c.rs k).grant):FU c nx G (GD k n) :=
 ⟨λe=>(by cases e),λe=>(by cases e),λe=>(by cases e),λe=>(by cases e),λ_=>⟨k,hk,rfl,h⟩,λe=>(by cases e),by simp[GD]⟩
def LW{n:Nat}(h:n<=c.grant):FU c nx G (Gv n) :=
 ⟨λe=>(by cases e),λe=>(by cases e),λe=>(by cases e),λ_=>h,λe=>(by cases e),λe=>(by cases e),by simp[Gv]⟩
def LY(hk:k<8)(hc:(c.ws k).cut=true):FU c nx G (Hj k (c.ws k).final (c.ws k).keep) :=
 ⟨λe=>(by cases e),λ_=>⟨k,hk,rfl,hc,rfl,AF _⟩,λe=>(by cases e),λe=>(by cases e),λe=>(by cases e),λe=>(by cases e),by simp[Hj]⟩
theorem Sd(h:Dw c G):∀n k t,n+k=8->∀x,(ER c d n k t).1=some x->Fr nx G c d true x.1 x.2
 | 0,_,_,_,x,hx=>by cases hx
 | n+1,k,t,hk,x,hx=>by
  have a:=Sd h n (k+1) (min (t+(c.rs k).used) zF) I;unfold ER at hx;split at hx
  .split at hx
   .rename_i d' hd;cases hx;have hg:∀j,j<8->(c.rs j).grant<=((zf c.rs k { c.rs k with grant:=max (c.rs k).grant ((c.rs k).used+c.window),anew:=false }) j).grant:=λj _=>by
     by_cases e:j=k
     .subst e;rw[ze];exact BO _ _
     rw[zd _ _ e];exact AF _
    refine⟨⟨h.w,h.kf,h.sp,h.wt⟩,⟨h.w,AF _,hg,rfl,rfl⟩,λ_=>⟨_,hd,LV I ?_,λe=>(by cases e)⟩⟩;show _<=(zf c.rs k _ k).grant;rw[ze];exact AF _
   exact a x hx
  exact a x hx
theorem QC(h:Dw c G):∀n k,n+k=8->∀x,ET c d n k=some x->Fr nx G c d true x.1 x.2
 | 0,_,_,x,hx=>by cases hx
 | n+1,k,hk,x,hx=>by
  have f:=QC h n (k+1) I;unfold ET at hx;split at hx
  .rename_i hcut;simp only[AZ]at hcut;split at hx
   .rename_i d' hd;cases hx;have b:∀j,j<8->Fg (c.ws j) (zf c.ws k { c.ws k with telling:=true } j):=λj a=>by
     by_cases e:j=k
     .subst e;rw[ze];have w:=h.w j a;exact⟨rfl,rfl,rfl,rfl,rfl,rfl,AF _,w.hl,w.hc,w.hf⟩
     rw[zd _ _ e];exact h.w j a
    have hs:∀n,zI (zf c.ws k { c.ws k with telling:=true }) n=zI c.ws n:=λn=>by
     induction n with
     | zero=>rfl
     | succ n ih2 =>
      show zI _ n+(zf c.ws k _ n).high=zI c.ws n+(c.ws n).high;rw[ih2];congr 1;by_cases e:n=k
      .subst e;rw[ze]
      rw[zd _ _ e]
    refine⟨⟨λj a=>(b j a).self,λj a=>?_,?_,h.wt⟩,⟨b,AF _,λ_ _=>AF _,rfl,rfl⟩,λ_=>⟨_,hd,?_,λe=>(by cases e)⟩⟩
    .show(zf c.ws k _ j).keep<=(zf c.ws k _ j).final;have p:=b j a;have:=h.kf j a;rw[p.keep,p.final];exact this
    .show zI _ 8<=c.credit;rw[hs];exact h.sp
    have q:=LY (c:={ c with ws:=zf c.ws k { c.ws k with telling:=true } }) (nx:=nx) (G:=G) (k:=k) I (by show(zf c.ws k _ k).cut=true;rw[ze];exact hcut.1);have q2:(({ c with ws:=zf c.ws k { c.ws k with telling:=true } }:CS).ws k)={ c.ws k with telling:=true }:=ze _ _ _;rw[q2]at q;exact q
   exact f x hx
  exact f x hx
def fH(h:Dw c G){x:CS×Dd}(hx:c.control d=some x):Fr nx G c d true x.1 x.2:=by
 unfold CS.control at hx;split at hx
 .rename_i y hy;cases hx;exact Sd h 8 0 c.total rfl _ hy
 unfold I1 at hx;split at hx
 .split at hx
  .rename_i d' hd;cases hx;exact⟨⟨h.w,h.kf,h.sp,h.wt⟩,⟨h.w,Cq _ _,λ_ _=>AF _,rfl,rfl⟩,λ_=>⟨_,hd,LW (AF _),λe=>(by cases e)⟩⟩
  exact QC h 8 0 rfl x hx
 exact QC h 8 0 rfl x hx
def Xe(h:Dw c G){x:CS×Dd}(hx:c.datagrams d=some x):Fr nx G c d true x.1 x.2:=by
 unfold CS.datagrams at hx;split at hx
 .cases hx
 rename_i f l hw;obtain⟨d',h1,h2⟩:=CB.1 hx;subst h2;obtain⟨a,b,e⟩:=h.wt f (by rw[hw];exact AO);exact⟨⟨h.w,h.kf,h.sp,λg hg=>h.wt g (by rw[hw];exact AW _ hg)⟩,⟨h.w,AF _,λ_ _=>AF _,rfl,rfl⟩,λ_=>⟨f,h1,⟨λe=>(by rw[a]at e;cases e),λe=>(by rw[a]at e;cases e),λe=>(by rw[a]at e;cases e),λe=>(by rw[a]at e;cases e),λe=>(by rw[a]at e;cases e),λ_=>e,by rw[a];decide⟩,λ_=>b⟩⟩
theorem PV(ws:Nat->WS)(k:Nat)(x:WS):∀n,k<n->zI (zf ws k x) n+(ws k).high=zI ws n+x.high
 | 0,h=>absurd h (A5 _)
 | n+1,h=>by
  show zI (zf ws k x) n+(zf ws k x n).high+(ws k).high=zI ws n+(ws n).high+x.high;by_cases e:n=k
  .subst e;have:∀m,m<=n->zI (zf ws n x) m=zI ws m:=λm=>by
    induction m with
    | zero=>intro _;rfl
    | succ m ih =>
     intro hm;show zI (zf ws n x) m+(zf ws n x m).high=zI ws m+(ws m).high;rw[ih I,zd _ _ I]
   rw[this n (AF n),ze];omega
  rw[zd _ _ e];have:=PV ws k x n I;omega
def VQ(h:Dw c G){fin:Bool}(hk:k<8)(hlo:lo<=hi)(l:hi<=c.endOf k)(hf:fin=true->(c.ws k).fin=true/\hi=(c.ws k).b.length):Fr nx G c d (c.bytesAdd d k lo hi fin).1 (c.bytesAdd d k lo hi fin).2.1 (c.bytesAdd d k lo hi fin).2.2:=by
 unfold CS.bytesAdd;split
 .exact Fr.none h
 rename_i d' hd;have w:=h.w k hk;have hl:=w.hl;have e0:=AJ l (NQ c k);have h0:hi<=(c.ws k).b.length/\hi<=(c.ws k).credit/\hi+c.spent<=(c.ws k).high+c.credit:=by
  have:=h.sp;unfold CS.end0 at e0;omega
 have m:(c.ws k).cut=true->hi<=(c.ws k).final:=λe=>by
  have:=h.kf k hk;unfold CS.endOf at l;rw[AQ e]at l;omega
 obtain⟨x,hx⟩:∃x,x=({ c.ws k with sent:=if lo<hi then(c.ws k).sent.add lo (hi-1)else(c.ws k).sent,ending:=(c.ws k).ending||fin,high:=max (c.ws k).high hi }:WS):=⟨_,rfl⟩;have g:Fg (c.ws k) x:=by
  rw[hx];have:=w.hc;exact⟨rfl,rfl,rfl,rfl,rfl,rfl,BO _ _,by show max _ _<=(c.ws k).b.length;omega,by show max _ _<=(c.ws k).credit;omega,λe=>by have:=w.hf e;have:=m e;show max _ _<=(c.ws k).final;omega⟩
 have o:x.high=max (c.ws k).high hi:=by rw[hx]
 rw[<-hx];have n:∀j,j<8->Fg (c.ws j) (zf c.ws k x j):=λj i=>by
  by_cases e:j=k
  .subst e;rw[ze];exact g
  rw[zd _ _ e];exact h.w j i
 refine⟨⟨λj i=>(n j i).self,λj i=>?_,?_,h.wt⟩,⟨n,AF _,λ_ _=>AF _,rfl,rfl⟩,λ_=>⟨_,hd,?_,λe=>(by cases e)⟩⟩
 .have p:=n j i;have:=h.kf j i;show(zf c.ws k x j).keep<=(zf c.ws k x j).final;rw[p.keep,p.final];exact this
 .have:=PV c.ws k x 8 hk;have:=h.sp;unfold CS.spent at *;show zI (zf c.ws k x) 8<=c.credit;omega
 have f:(((c.ws k).b.drop lo).take (hi-lo)).length=hi-lo:=by
  rw[AU,Ac];omega
 refine⟨λe=>(by cases e),λe=>(by cases e),λ_=>⟨k,hk,rfl,?_,?_,λef=>?_⟩,λe=>(by cases e),λe=>(by cases e),λe=>(by cases e),by simp[Ec]⟩
 .show lo+(((c.ws k).b.drop lo).take (hi-lo)).length<=(zf c.ws k x k).high;rw[ze,f,o];omega
 .show((c.ws k).b.drop lo).take (hi-lo)=((zf c.ws k x k).b.drop lo).take (((c.ws k).b.drop lo).take (hi-lo)).length;rw[ze,f,g.b]
 obtain⟨a,b⟩:=hf ef;unfold WS.fin at a;simp only[AZ,Bm]at a;show JA (zf c.ws k x k)/\lo+(((c.ws k).b.drop lo).take (hi-lo)).length=(zf c.ws k x k).b.length;rw[ze,f];refine⟨⟨by rw[g.fin];exact a.1,by rw[o,g.b];omega,λe=>by rw[g.cut,a.2]at e;cases e⟩,by rw[g.b];omega⟩
def UM(h:Dw c G)(hk:k<8)(a:lo<=hi)(hh:hi<=c.endOf k):Fr nx G c d (c.bytesR d k lo hi).1 (c.bytesR d k lo hi).2.1 (c.bytesR d k lo hi).2.2:=by
 unfold CS.bytesR;split
 .split
  .exact Fr.none h
  exact VQ h hk I I (λe=>by cases e)
 exact VQ h hk a hh (λe=>by
  simp only[AZ,Ci]at e;exact e)
def Xd(h:Dw c G)(hk:k<8):Fr nx G c d (c.bytes d k).1 (c.bytes d k).2.1 (c.bytes d k).2.2:=by
 unfold CS.bytes;split
 .exact Fr.none h
 split
 .split
  .exact Fr.none h
  rename_i hc;simp only[Bb,Ah,not_or,Nat.not_lt]at hc;exact UM h hk (AF _) hc.2
 exact UM h hk I (Il _ _ _)
variable{q:Nat}
theorem Jy(h:Dw c G)(a:q<10):Fr nx G c d (c.put d q).1 (c.put d q).2.1 (c.put d q).2.2:=by
 match q,a with
 | 0,_ =>
  show Fr nx G c d (c.control d).isSome ((c.control d).getD (c,d)).1 ((c.control d).getD (c,d)).2;cases hc:c.control d with
  | none=>exact Fr.none h
  | some x=>exact fH h hc
 | 1,_ =>
  show Fr nx G c d (c.datagrams d).isSome ((c.datagrams d).getD (c,d)).1 ((c.datagrams d).getD (c,d)).2;cases hc:c.datagrams d with
  | none=>exact Fr.none h
  | some x=>exact Xe h hc
 | k+2,a=>exact Xd h I
structure DS(num nx:Nat)(G:List SN)(c:CS)(d:Dd):Prop where
 b:d.b=I3 num d.fs
 fr:∀f∈d.fs,(zX f=true/\f.data.length<4611686018427387904/\f.rngs.length<4611686018427387904)/\FU c nx G f/\(f.kind=7->c.now<=f.dl)
variable{num:Nat}
def DS.mono(h:DS num nx G c d)(s:Dw c G)(l:FQ c c'):DS num nx G c' d :=
 ⟨h.b,λf hf=>by
  obtain⟨a,b,e⟩:=h.fr f hf;exact⟨a,b.mono l.sle (λk hk=>(s.w k hk).hl) (AF _) (λs hs=>⟨s,hs,rfl,rfl,rfl⟩),by rw[l.now];exact e⟩⟩
def Yi{g:Da}(h:d.add f=some d')(k:d.add g=some d'):f=g:=by
 obtain⟨_,e2,_⟩:=Dd.add_some h;obtain⟨_,a,_⟩:=Dd.add_some k;have:=e2.symm.trans a;simpa using this
def DS.add(h:DS num nx G c d)(ha:d.add f=some d')(hs:zX f=true/\f.data.length<4611686018427387904/\f.rngs.length<4611686018427387904)(hf:FU c nx G f)(h7:f.kind=7->c.now<=f.dl):DS num nx G c d':=by
 obtain⟨e1,a,_⟩:=Dd.add_some ha;refine⟨by rw[e1,a,h.b];simp[I3],λg hg=>?_⟩;rw[a]at hg;rcases Al.1 hg with x|x
 .exact h.fr g x
 rw[Ag.1 x];exact⟨hs,hf,h7⟩
theorem DS.put(h:DS num nx G c d)(hc:c.Ok)(s:Dw c G)(i:q<10):DS num nx G (c.put d q).2.1 (c.put d q).2.2/\Dw (c.put d q).2.1 G/\FQ c (c.put d q).2.1:=by
 have p:=JZ (d:=d) hc i;have t:=Jy (d:=d) (nx:=nx) s i;refine⟨?_,t.ok,t.le⟩;have a:=h.mono s t.le;generalize hr:(c.put d q).1=r at p t;cases r with
 | true =>
  obtain⟨f,hf,_,ha⟩:=p.yes rfl;obtain⟨g,j,g1,g2⟩:=t.yes rfl;have e:=Yi j ha;subst e;exact a.add j ⟨hf.sound,nC hf.data,by rw[hf.rn];simp⟩ g1 (λx=>by rw[t.le.now];exact g2 x)
 | false =>
  obtain⟨_,e|e⟩:=p.no rfl
  .rw[e];exact a
  rw[e];exact⟨a.b,a.fr⟩
theorem Sc(f:q<10):∀n (c:CS) (d:Dd),c.Ok->Dw c G->DS num nx G c d->DS num nx G (CS.reps q n c d).1 (CS.reps q n c d).2/\Dw (CS.reps q n c d).1 G/\FQ c (CS.reps q n c d).1
 | 0,c,d,_,s,h=>⟨h,s,FQ.refl s⟩
 | n+1,c,d,hc,s,h=>by
  have p:=JZ (d:=d) hc f;obtain⟨a,b,e⟩:=h.put hc s f;unfold CS.reps;split
  .obtain⟨a',b',e'⟩:=Sc f n _ _ p.ok b a;exact⟨a',b',e.trans e'⟩
  exact⟨a,b,e⟩
theorem QX:∀n (c:CS) (d:Dd),n<=10->c.Ok->d.Ok->Dw c G->DS num nx G c d->DS num nx G (CS.fillN n c d).1 (CS.fillN n c d).2/\Dw (CS.fillN n c d).1 G/\FQ c (CS.fillN n c d).1
 | 0,c,d,_,_,_,s,h=>⟨h,s,FQ.refl s⟩
 | n+1,c,d,hn,hc,hd,s,h=>by
  have r:=Oy (q:=9-n) I (d.room+1) c d hc hd;obtain⟨a,b,e⟩:=Sc (q:=9-n) I (d.room+1) c d hc s h;unfold CS.fillN;obtain⟨a',b',e'⟩:=QX n _ _ I r.1 r.2.1 b a;exact⟨a',b',e.trans e'⟩
def Yh{l:zC}(h:∀r∈l,r.2<nx):FU c nx G (ackF l) :=
 ⟨λ_=>h,λe=>(by cases e),λe=>(by cases e),λe=>(by cases e),λe=>(by cases e),λe=>(by cases e),by simp[ackF]⟩
theorem DS.told(h:DS num nx G c d){l:zC}(hl:IJ l)(hn:l.length<=1048576)(hx:∀r∈l,r.2<nx):DS num nx G c (zp d l).1/\∀r∈(zp d l).2,r.2<nx:=by
 unfold zp;split
 .exact⟨h,hx⟩
 rename_i h0;have hp:1<=l.length:=BM.2 h0;have t1:=Na d l l.length hp;have t2:=Qh d l l.length;refine⟨?_,λr a=>hx r (Bo a)⟩;show DS num nx G c ((d.add (ackF (l.take (Ee d l l.length)))).getD d);cases ha:d.add (ackF (l.take (Ee d l l.length)))with
 | none=>exact h
 | some d' =>
  refine h.add ha ⟨hl.tell _ t1 t2,by simp[ackF],?_⟩ (Yh λr a=>hx r (BP a)) (λe=>by cases e);show(l.take _).length<_;rw[AU];omega
structure G5(c:CS)(nx:Nat)(G:List SN)(b:nG):Prop where
 sealed:∃l,b=l++ES (D3 l)
 dec:∃num fs,dec b=.ok num fs/\num<c.next/\∀f∈fs,FU c nx G f
def G5.mono{e:Nat}{g:List SN}{b:nG}(h:G5 c nx G b)(l:EY c c')(hh:∀k,k<8->(c.ws k).high<=(c.ws k).b.length)(hx:c.next<=c'.next)(hn:nx<=e)(hG:∀s∈G,∃s'∈g,s'.id=s.id/\s'.dl=s.dl/\s'.data=s.data):G5 c' e g b:=by
 obtain⟨num,fs,a,b,d⟩:=h.dec;exact⟨h.sealed,num,fs,a,I,λf hf=>(d f hf).mono l hh hn hG⟩
variable{fs:List Da}{now:Nat}
def iF(h:∀f∈fs,f.kind=7->now<=f.dl):(fs.map zs).any (FY now)=false:=by
 rw[CZ];intro g hg;obtain⟨f,hf,rfl⟩:=BQ.1 hg;unfold FY;rw[Gq];by_cases hk:f.kind=7
 .have:=h f hf hk;have e2:(zs f).dl=f.dl:=by simp[zs,hk]
  rw[e2];simp;omega
 simp[hk]
theorem QB:∀(m:Nat) (c:CS) (l:zC) (n:NS) (i:Nat),Gu c l->Dw c G->(∀r∈l,r.2<nx)->n.mtu=c.mtu->n.count i=c.next->n.now=c.now ->
  (NS.flushL i (CS.pkts m c l).1 n).1=true/\(∃bg,(NS.flushL i (CS.pkts m c l).1 n).2={ n with count:=zf n.count i (CS.pkts m c l).2.next,bag:=n.bag++bg }/\∀p∈bg,p.1=1-i/\G5 (CS.pkts m c l).2 nx G p.2)/\Dw (CS.pkts m c l).2 G/\FQ c (CS.pkts m c l).2/\c.next<=(CS.pkts m c l).2.next
 | 0,c,l,n,i,hk,s,hx,hm,hc,hn=>by
  refine⟨rfl,⟨[],?_,λp v=>(by cases v)⟩,s,FQ.refl s,AF _⟩;show n={ n with count:=zf n.count i c.next,bag:=n.bag++[] };rw[<-hc,Fy,Bw]
 | m+1,c,l,n,i,hk,s,hx,hm,hc,hn=>by
  obtain⟨A,r2,r3,B,r5,r6,r7⟩:=hk.round;have C:=hk.next;have d0:DS c.next nx G c c.pkDraft:=⟨by show zH c.next=I3 c.next [];simp[I3],λf hf=>(by cases hf)⟩;obtain⟨d1,D⟩:=d0.told hk.desc hk.len hx;have t:=NN (JG hk.ok) l;unfold CS.pkts;have hF:DS c.next nx G (c.pkFill (zp c.pkDraft l).1).1 (c.pkFill (zp c.pkDraft l).1).2/\Dw (c.pkFill (zp c.pkDraft l).1).1 G/\FQ c (c.pkFill (zp c.pkDraft l).1).1/\((c.pkFill (zp c.pkDraft l).1).2.fs≠[]->(c.pkFill (zp c.pkDraft l).1).2.b.length+4<=c.mtu)/\(c.pkFill (zp c.pkDraft l).1).1.mtu=c.mtu:=by
   have h0:E7 (zp c.pkDraft l).1:=E7.told ⟨λf hf=>(by cases hf),λx=>absurd rfl x⟩ l;have q:=Qx 10 c (zp c.pkDraft l).1 (AF _) hk.ok A;unfold CS.pkFill;split
   .obtain⟨f1,h,u⟩:=QX 10 c (zp c.pkDraft l).1 (AF _) hk.ok A s d1;refine⟨f1,h,u,λd=>?_,q.2.2.2.2.2.2.2.2.2.2.1⟩;have a:=(h0.fillN 10 c (zp c.pkDraft l).1 (AF _) hk.ok A).fit d;have b:(CS.fillN 10 c (zp c.pkDraft l).1).2.room=c.mtu:=q.2.2.1.trans t.2.1;show(CS.fillN 10 c (zp c.pkDraft l).1).2.b.length+4<=_;omega
   refine⟨d1,s,FQ.refl s,λd=>?_,rfl⟩;have a:=h0.fit d;have b:(zp c.pkDraft l).1.room=c.mtu:=t.2.1;show(zp c.pkDraft l).1.b.length+4<=_;omega
  obtain⟨f1,h,u,y,E⟩:=hF;by_cases d:(c.pkFill (zp c.pkDraft l).1).2.fs=[]
  .rw[AQ d];refine⟨rfl,⟨[],?_,λp v=>(by cases v)⟩,h,u,Ay B.symm⟩;show n={ n with count:=zf n.count i (c.pkFill (zp c.pkDraft l).1).1.next,bag:=n.bag++[] };rw[B,<-hc,Fy,Bw]
  rw[AI d];obtain⟨k1,_⟩:=r7 d;have hfl:=y d;generalize c.pkFill (zp c.pkDraft l).1=F at *;generalize (zp c.pkDraft l).2=l2 at *;have o:dec (FV F.2.b)=.ok c.next (F.2.fs.map zs):=by
   unfold FV;rw[VV,f1.b];exact UR c.next F.2.fs (by unfold zF at C;omega) (BM.2 d) (λf hf=>(f1.fr f hf).1)
  have z:(FV F.2.b).length=F.2.b.length+4:=by unfold FV;rw[AG,Tz]
  have s2:Dw (F.1.pkDone F.2) G:=⟨h.w,h.kf,h.sp,h.wt⟩;have p2:FQ F.1 (F.1.pkDone F.2):=⟨h.w,AF _,λ_ _=>AF _,rfl,rfl⟩;have H:(F.1.pkDone F.2).next=c.next+1:=by show F.1.next+1=_;rw[B]
  obtain⟨i1,⟨bg,i2,i3⟩,i4,J,i6⟩:=QB m (F.1.pkDone F.2) l2 { n with count:=zf n.count i (n.count i+1),bag:=n.bag++[(1-i,FV F.2.b)] } i k1 s2 D (by show n.mtu=F.1.mtu;rw[hm,E]) (by show zf n.count i (n.count i+1) i=_;rw[ze,hc,H]) (by show n.now=F.1.now;rw[hn,u.now]);have e:NS.flushL i (FV F.2.b::(CS.pkts m (F.1.pkDone F.2) l2).1) n=NS.flushL i (CS.pkts m (F.1.pkDone F.2) l2).1 { n with count:=zf n.count i (n.count i+1),bag:=n.bag++[(1-i,FV F.2.b)] }:=by
   rw[NS.flushL,o];simp only;rw[AI (by
    rw[z,hm,hc];rintro(x|x|x)
    .omega
    .exact x rfl
    exact d (nF x)),iF (λf hf h7=>by rw[hn,<-u.now];exact(f1.fr f hf).2.2 h7)]
   rfl
  show(NS.flushL i (FV F.2.b::(CS.pkts m (F.1.pkDone F.2) l2).1) n).1=true/\(∃bg,(NS.flushL i (FV F.2.b::(CS.pkts m (F.1.pkDone F.2) l2).1) n).2={ n with count:=zf n.count i (CS.pkts m (F.1.pkDone F.2) l2).2.next,bag:=n.bag++bg }/\_)/\_;rw[e];refine⟨i1,⟨(1-i,FV F.2.b)::bg,?_,λp v=>?_⟩,i4,u.trans (p2.trans J),by show c.next<=(CS.pkts m (F.1.pkDone F.2) l2).2.next;omega⟩
  .rw[i2];have:zf (zf n.count i (n.count i+1)) i (CS.pkts m (F.1.pkDone F.2) l2).2.next=zf n.count i (CS.pkts m (F.1.pkDone F.2) l2).2.next:=by
    funext j;unfold zf;split<;>rfl
   simp only[this,Ap,List.singleton_append]
  rcases Av.1 v with x|x
  .rw[x];refine⟨rfl,⟨F.2.b,rfl⟩,c.next,_,o,by show c.next<(CS.pkts m (F.1.pkDone F.2) l2).2.next;omega,λg hg=>?_⟩;obtain⟨f,hf,rfl⟩:=BQ.1 hg;exact((f1.fr f hf).2.1.mono (p2.trans J).sle (λk hk=>(h.w k hk).hl) (AF _) (λs hs=>⟨s,hs,rfl,rfl,rfl⟩)).canon
  exact i3 p x
def WB(c c':CS):Prop:=∀k,FK (c.ws k) (c'.ws k)
def WB.refl(c:CS):WB c c:=λk=>FK.refl _
def WB.trans{a b:CS}(h:WB a b)(k:WB b c):WB a c:=λj=>(h j).trans (k j)
def WB.upd(k:Nat)(h:FK (c.ws k) x):WB c { c with ws:=zf c.ws k x }:=λj=>by
 show FK (c.ws j) (zf c.ws k x j);by_cases e:j=k
 .subst e;rw[ze];exact h
 rw[zd _ _ e];exact FK.refl _
def Yg(c:CS)(f:Da):WB c (c.again f):=by
 unfold CS.again;split
 .exact WB.upd _ ⟨rfl,rfl,rfl,rfl,rfl,rfl,rfl⟩
 split
 .exact WB.upd _ ⟨rfl,rfl,rfl,rfl,rfl,rfl,rfl⟩
 split
 .exact WB.refl c
 split<;>exact WB.refl c
theorem Uw:∀(fs:List Da) (c:CS),WB c (c.agains fs)
 | [],c=>WB.refl c
 | f::fs,c=>(Yg c f).trans (Uw fs (c.again f))
theorem UL:∀(l:List Dc) (c:CS),WB c (c.loses l)
 | [],c=>WB.refl c
 | p::l,c=>by
  have h1:WB c (c.lose1 p):=by
   unfold CS.lose1;split
   .exact Uw _ _
   exact WB.refl c
  exact h1.trans (UL l (c.lose1 p))
theorem UK:∀(fs:List Da) (c:CS),WB c (fs.foldl CS.ackF c)
 | [],c=>WB.refl c
 | f::fs,c=>by
  have h1:WB c (c.ackF f):=by
   unfold CS.ackF;split
   .exact WB.upd _ ⟨rfl,rfl,rfl,rfl,rfl,rfl,rfl⟩
   exact WB.refl c
  exact h1.trans (UK fs (c.ackF f))
theorem UJ(rs:zC):∀(l:List Dc) (c:CS),WB c (c.ackPs rs l)
 | [],c=>WB.refl c
 | p::l,c=>by
  have h1:WB c (c.ackP rs p):=by
   unfold CS.ackP;split
   .exact UK _ _
   exact WB.refl c
  exact h1.trans (UJ rs l (c.ackP rs p))
structure FG(c c':CS):Prop where
 ws:WB c c'
 rs:∀k,k<8->∃a,c'.rs k={ c.rs k with anew:=a }
 credit:c'.credit=c.credit
 grant:c'.grant=c.grant
 waits:c'.waits=c.waits
 now:c'.now=c.now
 next:c'.next=c.next
 closed:c'.closed=c.closed
 seen:c'.seen=c.seen/\c'.most=c.most/\c'.came=c.came
 ids:c'.lastID=c.lastID/\c'.anyID=c.anyID
 got:c'.got=c.got
 cfg:c'.mtu=c.mtu/\c'.window=c.window
def FG.trans{a b:CS}(h:FG a b)(k:FG b c):FG a c :=
 ⟨h.ws.trans k.ws,λq d=>by
  obtain⟨x,hx⟩:=h.rs q d;obtain⟨y,hy⟩:=k.rs q d;exact⟨y,by rw[hy,hx]⟩,k.credit.trans h.credit,k.grant.trans h.grant,k.waits.trans h.waits,k.now.trans h.now,k.next.trans h.next,k.closed.trans h.closed,⟨k.seen.1.trans h.seen.1,k.seen.2.1.trans h.seen.2.1,k.seen.2.2.trans h.seen.2.2⟩,⟨k.ids.1.trans h.ids.1,k.ids.2.trans h.ids.2⟩,k.got.trans h.got,⟨k.cfg.1.trans h.cfg.1,k.cfg.2.trans h.cfg.2⟩⟩
def FG.of(w:WB c c')(s:Ev c c')(l:List Dc):FG c (c'.fly l) :=
 ⟨w,s.rs,s.tl.1,s.tl.2.1,s.tl.2.2.2.2.1,s.hd.2.2.2.1,s.hd.2.2.2.2.2.2.1,s.hd.2.2.2.2.1,⟨s.tl.2.2.2.2.2.2.2.1,s.tl.2.2.2.2.2.2.2.2.1,s.tl.2.2.2.2.2.2.2.2.2⟩,⟨s.tl.2.2.2.2.2.1,s.tl.2.2.2.2.2.2.1⟩,s.hd.2.2.2.2.2.2.2.1,⟨s.hd.1,s.hd.2.1⟩⟩
def Tl(c:CS):FG c c.lose:=by
 rw[Hs];exact FG.of (UL c.flight c) (JE c.flight c) _
def NY{l:zC}(h:¬c.next<=DX l 0):(c.acked l).1=0/\FG c (c.acked l).2:=by
 rw[PF c l h];refine⟨rfl,?_⟩;have h1:FG c ({ c with largest:=max c.largest (DX l 0) }:CS):=⟨WB.refl c,λk _=>⟨(c.rs k).anew,rfl⟩,rfl,rfl,rfl,rfl,rfl,rfl,⟨rfl,rfl,rfl⟩,⟨rfl,rfl⟩,rfl,⟨rfl,rfl⟩⟩;have h2:FG ({ c with largest:=max c.largest (DX l 0) }:CS) (c.ackedTo l):=FG.of (UJ l c.flight _) (Jr l c.flight _) _;exact h1.trans (h2.trans (Tl _))
structure Fc(a b:CS)(E:Nat->EN):Prop where
 k:∀k,k<8->Dr (a.ws k) (b.rs k) (E k)
 cr:a.credit<=b.grant
def Fc.flW{a c b:CS}{E:Nat->EN}(h:Fc a b E)(f:FG a c):Fc c b E:=⟨λk hk=>(h.k k hk).same (f.ws k),by rw[f.credit];exact h.cr⟩
def Fc.flR{a b c:CS}{E:Nat->EN}(h:Fc a b E)(f:FG b c):Fc a c E :=
 ⟨λk hk=>by
  obtain⟨q,e⟩:=f.rs k hk;rw[e];exact(h.k k hk).grant _ q (AF _),by rw[f.grant];exact h.cr⟩
theorem Dw.fl(h:Dw c G)(f:FG c c'):Dw c' G:=by
 have hh:∀n,zI c'.ws n=zI c.ws n:=λn=>by
  induction n with
  | zero=>rfl
  | succ n ih =>
   show zI c'.ws n+(c'.ws n).high=_;rw[ih,(f.ws n).high];rfl
 refine⟨λk hk=>?_,λk hk=>?_,?_,λg hg=>?_⟩
 .have w:=h.w k hk;have s:=f.ws k;exact⟨rfl,rfl,rfl,rfl,rfl,rfl,AF _,by rw[s.high,s.b];exact w.hl,by rw[s.high,s.credit];exact w.hc,by rw[s.cut,s.high,s.final];exact w.hf⟩
 .rw[(f.ws k).keep,(f.ws k).final];exact h.kf k hk
 .unfold CS.spent;rw[hh,f.credit];exact h.sp
 rw[f.waits]at hg;rw[f.now];exact h.wt g hg
def CS.Knows(c:CS)(id:Nat):Prop:=(∃p∈c.seen,p.1=id)\/(0<c.seen.length/\EG c.most id=true)
structure II(c:CS)(G:List SN):Prop where
 nd:(G.map (·.id)).Nodup
 se:∀s∈G,s.came=true->c.Knows s.id
 ms:∀p∈c.came,∃s∈G,s.id=p.1/\s.data=p.2/\s.came=false/\c.now<=s.dl
 cn:(c.came.map (·.1)).Nodup
 kn:∀p∈c.came,c.Knows p.1
def II.same(h:II c G)(e:c'.seen=c.seen/\c'.most=c.most/\c'.came=c.came)(hn:c'.now=c.now):II c' G:=by
 have hk:∀id,c.Knows id->c'.Knows id:=λid x=>by
  unfold CS.Knows;rw[e.1,e.2.1];exact x
 refine⟨h.nd,λs hs q=>hk _ (h.se s hs q),λp a=>?_,by rw[e.2.2];exact h.cn,λp a=>?_⟩
 .rw[e.2.2]at a;rw[hn];exact h.ms p a
 rw[e.2.2]at a;exact hk _ (h.kn p a)
def Yf{a id:Nat}(h:m<=a)(ho:EG m id=true):EG a id=true:=by
 unfold EG at *;simp only[AZ,Ah]at *;omega
theorem II.message(h:II c G)(hf:∃s∈G,s.id=f.id/\s.dl=f.dl/\s.data=f.data)(hm:c.seen=[]->c.most=0):II (c.message f) G:=by
 unfold CS.message;split
 .exact h
 rename_i hn;simp only[Bb,not_or,CR,Ai,Nat.not_lt]at hn;obtain⟨⟨u,n2⟩,v⟩:=hn;obtain⟨s,m,w,e2,e3⟩:=hf;have o:∀p∈c.seen,p.1≠f.id:=λp d e=>by
  have:(c.seen.any λp=>p.1==f.id)=true:=Bh.2 ⟨p,d,by simp[e]⟩;rw[this]at u;cases u
 have g:=λq=>by
  rw[Ax q,Bi]at v;exact v
 have i:¬c.Knows f.id:=by
  rintro(⟨p,d,e⟩|⟨q1,n⟩)
  .exact o p d e
  rw[g q1]at n;cases n
 have j:EG (max c.most f.id) f.id=false:=by
  by_cases h0:c.seen=[]
  .have:=hm h0;unfold EG;simp only[CI,Ai];omega
  have:=g (BM.2 h0);unfold EG at *;simp only[CI,Ai]at *;omega
 have k:(f.id,f.dl)∈(c.seen++[(f.id,f.dl)]).filter (λp => !EG (max c.most f.id) p.1):=BI.2 ⟨mv,by simp[j]⟩;have hk:∀id,c.Knows id->CS.Knows { c with most:=max c.most f.id,seen:=(c.seen++[(f.id,f.dl)]).filter (λp => !EG (max c.most f.id) p.1),came:=c.came++[(f.id,f.data)] } id:=by
  intro id r;have l:=List.length_pos_of_mem k;by_cases t:EG (max c.most f.id) id=true
  .exact .inr ⟨l,t⟩
  rcases r with⟨p,d,e⟩|⟨_,n⟩
  .exact .inl ⟨p,BI.2 ⟨CN _ d,by rw[e];simpa using t⟩,e⟩
  exact absurd (Yf (BO _ _) n) t
 refine⟨h.nd,λs m q=>hk _ (h.se s m q),λp d=>?_,?_,λp d=>?_⟩
 .rcases Al.1 d with x|x
  .exact h.ms p x
  rw[Ag.1 x];refine⟨s,m,w,e3,?_,by rw[e2];exact n2⟩;cases hc:s.came with
  | false=>rfl
  | true=>exact absurd (by rw[<-w];exact h.se s m hc) i
 .show((c.came++[(f.id,f.data)]).map (·.1)).Nodup;rw[Ba,DP];refine⟨h.cn,mv,λa ha b hb e=>?_⟩;obtain⟨p,d,rfl⟩:=BQ.1 ha;have hb:b=f.id:=nF hb;exact i (by rw[<-hb,<-e];exact h.kn p d)
 rcases Al.1 d with x|x
 .exact hk _ (h.kn p x)
 rw[Ag.1 x];exact .inl ⟨_,k,rfl⟩
structure Rc(a b:CS)(Ea Eb:Nat->EN)(Ga Gb:List SN):Prop where
 d1:Fc a b Ea
 d2:Fc b a Eb
 so:Dw b Gb
 ms:II b Ga
 sm:b.seen=[]->b.most=0
structure Iv(c c':CS):Prop where
 next:c'.next=c.next
 now:c'.now=c.now
 ids:c'.lastID=c.lastID/\c'.anyID=c.anyID
 waits:c'.waits=c.waits
 cfg:c'.mtu=c.mtu/\c'.window=c.window
 sle:EY c c'
 got:c'.got=c.got
def EY.of_w(h:Dw c G)(w:∀k,k<8->FK (c.ws k) (c'.ws k)\/∃n,c'.ws k={ c.ws k with credit:=n })(g:c.grant<=c'.grant)(r:∀k,k<8->(c.rs k).grant<=(c'.rs k).grant):EY c c' :=
 ⟨λk hk=>by
  rcases w k hk with x|⟨n,x⟩
  .exact F8.of_same x (h.w k hk).hl
  rw[x];exact⟨DD _,λ_=>rfl,AF _,(h.w k hk).hl,id,λe=>⟨e,rfl,AF _⟩,λ_ _ e a=>by rw[show({ c.ws k with credit:=n }:WS).cut=(c.ws k).cut from rfl,e]at a;cases a⟩,g,r⟩
def FG.tk(h:Dw c G)(f:FG c c'):Iv c c' :=
 ⟨f.next,f.now,f.ids,f.waits,f.cfg,EY.of_w h (λk _=>.inl (f.ws k)) (Ay f.grant.symm) (λk hk=>by obtain⟨x,e⟩:=f.rs k hk;rw[e];exact AF _),f.got⟩
def EY.refl(h:Dw c G):EY c c:=EY.of_w h (λ_ _=>.inl (FK.refl _)) (AF _) (λ_ _=>AF _)
variable{Ea Eb:Nat->EN}{Ga Gb:List SN}
def Rc.fl{a b c:CS}(h:Rc a b Ea Eb Ga Gb)(f:FG b c):Rc a c Ea Eb Ga Gb :=
 ⟨h.d1.flR f,h.d2.flW f,h.so.fl f,h.ms.same f.seen f.now,by rw[f.seen.1,f.seen.2.1];exact h.sm⟩
end
section
open Go.RowKit
variable{Ea Eb:Nat->EN}{Ga Gb:List SN}{k:Nat}
def Rc.rs{a b:CS}(h:Rc a b Ea Eb Ga Gb){x:RS}(hx:k<8->Dr (a.ws k) x (Ea k))(hg:x.grant=(b.rs k).grant):Rc a { b with rs:=zf b.rs k x } Ea Eb Ga Gb/\Iv b { b with rs:=zf b.rs k x }:=by
 have hr:∀j,(b.rs j).grant=(zf b.rs k x j).grant:=λj=>by
  by_cases e:j=k
  .subst e;rw[ze];exact hg.symm
  rw[zd _ _ e]
 refine⟨⟨⟨λj c=>?_,h.d1.cr⟩,⟨h.d2.k,h.d2.cr⟩,⟨h.so.w,h.so.kf,h.so.sp,h.so.wt⟩,h.ms.same ⟨rfl,rfl,rfl⟩ rfl,h.sm⟩,⟨rfl,rfl,⟨rfl,rfl⟩,rfl,⟨rfl,rfl⟩,EY.of_w h.so (λ_ _=>.inl (FK.refl _)) (AF _) (λj _=>Ay (hr j)),rfl⟩⟩;show Dr (a.ws j) (zf b.rs k x j) (Ea j);by_cases e:j=k
 .subst e;rw[ze];exact hx c
 rw[zd _ _ e];exact h.d1.k j c
theorem Tk{ws:Nat->WS}{rs:Nat->RS}:∀n,(∀j,j<n->(rs j).high<=(ws j).high)->Ft rs n<=zI ws n
 | 0,_=>AF _
 | n+1,h=>by
  have a:=Tk n (λj hj=>h j I);have b:=h n I;show Ft rs n+(rs n).high<=zI ws n+(ws n).high;omega
theorem Uv{ws:Nat->WS}{rs:Nat->RS}:∀n,k<n->(∀j,j<n->(rs j).high<=(ws j).high)->Ft rs n+(ws k).high<=zI ws n+(rs k).high
 | 0,hk,_=>absurd hk (A5 _)
 | n+1,hk,h=>by
  show Ft rs n+(rs n).high+(ws k).high<=zI ws n+(ws n).high+(rs k).high;have b:=h n I;by_cases e:k=n
  .subst e;have a:=Tk (ws:=ws) (rs:=rs) k (λj hj=>h j I);omega
  have a:=Uv (ws:=ws) (rs:=rs) n I (λj hj=>h j I);omega
variable{r:RS}{x:WS}
def Dr.credit{e:EN}(h:Dr x r e){n:Nat}(hn:n<=r.grant):Dr { x with credit:=max x.credit n } r e :=
 {h with
  hc:=AJ h.hc (BO _ _)
  cg:=Nat.max_le.2 ⟨h.cg,hn⟩ }
variable{f:Da}
theorem Rc.take{a b:CS}(h:Rc a b Ea Eb Ga Gb)(ha:Dw a Ga)(hf:Ez f)(ok:FU a b.next Ga f):(b.take f).1=0/\Rc a (b.take f).2 Ea Eb Ga Gb/\Iv b (b.take f).2:=by
 have rf:Iv b b:=⟨rfl,rfl,⟨rfl,rfl⟩,rfl,⟨rfl,rfl⟩,EY.refl h.so,rfl⟩;unfold CS.take;split
 .rename_i e;have h1:=hf.rngs2 e;have h2:¬b.next<=DX f.rngs 0:=by
   have:=ok.k2 e _ (AV (Gn h1));simp only at this;omega
  obtain⟨v,s⟩:=NY h2;exact⟨v,h.fl s,FG.tk h.so s⟩
 split
 .rename_i _ e;obtain⟨k,hk,c,h3,h4,i⟩:=ok.k3 e;have d:=h.d1.k k hk;have hb:=d.resetBad h3 h4;unfold CS.resetAt;rw[c,Ae,AI (by rw[hb];simp)];obtain⟨t,u⟩:=h.rs (k:=k) (x:=(b.rs k).resetAt f) (λ_=>d.reset h3 h4 i) rfl;exact⟨rfl,t,u⟩
 split
 .rename_i e;obtain⟨k,hk,c,h3,h4,i⟩:=ok.k4 e;have d:=h.d1.k k hk;have hb:=d.badEnd h3 i;unfold CS.data;rw[c,Ae,AI (by rw[hb];simp),AI (by
   rintro⟨q1,q2⟩;have g1:=d.hc;have g2:=d.cg;have g3:=h.d1.cr;have g4:=ha.sp;have h3':f.end_<=(a.ws k).high:=h3;have g5:=Uv (ws:=a.ws) (rs:=b.rs) 8 hk (λj g=>(h.d1.k j g).rh);unfold CS.spent at g4;omega)]
  obtain⟨t,u⟩:=h.rs (k:=k) (x:=(b.rs k).data f) (λ_=>d.data h3 h4 i) rfl;exact⟨rfl,t,u⟩
 split
 .rename_i e;have i:=ok.k5 e;refine⟨rfl,⟨⟨h.d1.k,h.d1.cr⟩,⟨h.d2.k,Nat.max_le.2 ⟨h.d2.cr,i⟩⟩,⟨h.so.w,h.so.kf,AJ h.so.sp (BO _ _),h.so.wt⟩,h.ms.same ⟨rfl,rfl,rfl⟩ rfl,h.sm⟩,⟨rfl,rfl,⟨rfl,rfl⟩,rfl,⟨rfl,rfl⟩,EY.of_w h.so (λ_ _=>.inl (FK.refl _)) (AF _) (λ_ _=>AF _),rfl⟩⟩
 split
 .rename_i e;obtain⟨k,hk,c,h6⟩:=ok.k6 e;rw[c,Ae];have v:∀j,zf b.ws k { b.ws k with credit:=max (b.ws k).credit f.lim } j=if j=k then{ b.ws k with credit:=max (b.ws k).credit f.lim }else b.ws j:=λj=>rfl
  have l:∀n,zI (zf b.ws k { b.ws k with credit:=max (b.ws k).credit f.lim }) n=zI b.ws n:=λn=>by
   induction n with
   | zero=>rfl
   | succ n ih =>
    show zI _ n+(zf b.ws k _ n).high=zI b.ws n+(b.ws n).high;rw[ih];congr 1;by_cases e:n=k
    .subst e;rw[ze]
    rw[zd _ _ e]
  refine⟨rfl,⟨⟨h.d1.k,h.d1.cr⟩,⟨λj g=>?_,h.d2.cr⟩,⟨λj g=>?_,λj g=>?_,?_,h.so.wt⟩,h.ms.same ⟨rfl,rfl,rfl⟩ rfl,h.sm⟩,⟨rfl,rfl,⟨rfl,rfl⟩,rfl,⟨rfl,rfl⟩,EY.of_w h.so (λj _=>?_) (AF _) (λ_ _=>AF _),rfl⟩⟩
  .show Dr (zf b.ws k _ j) (a.rs j) (Eb j);by_cases e:j=k
   .subst e;rw[ze];exact(h.d2.k j g).credit h6
   rw[zd _ _ e];exact h.d2.k j g
  .show Fg (zf b.ws k _ j) (zf b.ws k _ j);by_cases e:j=k
   .subst e;rw[ze];have w:=h.so.w j g;exact⟨rfl,rfl,rfl,rfl,rfl,rfl,AF _,w.hl,AJ w.hc (BO _ _),w.hf⟩
   rw[zd _ _ e];exact h.so.w j g
  .show(zf b.ws k _ j).keep<=(zf b.ws k _ j).final;by_cases e:j=k
   .subst e;rw[ze];exact h.so.kf j g
   rw[zd _ _ e];exact h.so.kf j g
  .show zI (zf b.ws k _) 8<=b.credit;rw[l];exact h.so.sp
  show FK (b.ws j) (zf b.ws k _ j)\/∃n,zf b.ws k _ j={ b.ws j with credit:=n };by_cases e:j=k
  .subst e;rw[ze];exact .inr ⟨_,rfl⟩
  rw[zd _ _ e];exact .inl (FK.refl _)
 split
 .rename_i e;have m:=h.ms.message (ok.k7 e) h.sm;have A:(b.message f).seen=[]->(b.message f).most=0:=by
   unfold CS.message;split
   .exact h.sm
   rename_i hn;simp only[Bb,not_or,CR,Ai,Nat.not_lt]at hn;intro q;exfalso;have q:(b.seen++[(f.id,f.dl)]).filter (λp => !EG (max b.most f.id) p.1)=[]:=q;have o:EG (max b.most f.id) f.id=false:=by
    by_cases h0:b.seen=[]
    .have:=h.sm h0;unfold EG;simp only[CI,Ai];omega
    have hp:=BM.2 h0;have:=hn.2;rw[Ax hp,Bi]at this;unfold EG at *;simp only[CI,Ai]at *;omega
   have r:(f.id,f.dl)∈(b.seen++[(f.id,f.dl)]).filter (λp => !EG (max b.most f.id) p.1):=BI.2 ⟨mv,by simp[o]⟩;rw[q]at r;cases r
  have s:∃x y z,b.message f={ b with most:=x,seen:=y,came:=z }:=by
   unfold CS.message;split
   .exact⟨b.most,b.seen,b.came,rfl⟩
   exact⟨_,_,_,rfl⟩
  obtain⟨x,y,z,e3⟩:=s;rw[e3]at m A ⊢;exact⟨rfl,⟨⟨h.d1.k,h.d1.cr⟩,⟨h.d2.k,h.d2.cr⟩,⟨h.so.w,h.so.kf,h.so.sp,h.so.wt⟩,m,A⟩,⟨rfl,rfl,⟨rfl,rfl⟩,rfl,⟨rfl,rfl⟩,EY.of_w h.so (λ_ _=>.inl (FK.refl _)) (AF _) (λ_ _=>AF _),rfl⟩⟩
 split
 .rename_i e;exact absurd e ok.k8
 exact⟨rfl,h,rf⟩
def Rc.answer{a b:CS}(h:Rc a b Ea Eb Ga Gb)(w:Bool):Rc a { b with answer:=w } Ea Eb Ga Gb :=
 ⟨⟨h.d1.k,h.d1.cr⟩,⟨h.d2.k,h.d2.cr⟩,⟨h.so.w,h.so.kf,h.so.sp,h.so.wt⟩,h.ms.same ⟨rfl,rfl,rfl⟩ rfl,h.sm⟩
variable{c:CS}
def Iv.trans{a b:CS}(h:Iv a b)(k:Iv b c):Iv a c:=⟨k.next.trans h.next,k.now.trans h.now,⟨k.ids.1.trans h.ids.1,k.ids.2.trans h.ids.2⟩,k.waits.trans h.waits,⟨k.cfg.1.trans h.cfg.1,k.cfg.2.trans h.cfg.2⟩,h.sle.trans k.sle,k.got.trans h.got⟩
theorem Rc.takes{a:CS}(c:Dw a Ga):∀(fs:List Da) (b:CS),Rc a b Ea Eb Ga Gb->(∀f∈fs,Ez f)->(∀f∈fs,FU a b.next Ga f)->(CS.takes fs b).1=0/\Rc a (CS.takes fs b).2 Ea Eb Ga Gb/\Iv b (CS.takes fs b).2
 | [],b,h,_,_=>⟨rfl,h,⟨rfl,rfl,⟨rfl,rfl⟩,rfl,⟨rfl,rfl⟩,EY.refl h.so,rfl⟩⟩
 | f::fs,b,h,hr,ho=>by
  obtain⟨e1,d,e⟩:=h.take c (hr f AO) (ho f AO);have h2:=d.answer ((b.take f).2.answer||f.kind != 2);obtain⟨i1,i2,i3⟩:=Rc.takes c fs _ h2 (λg hg=>hr g (AW _ hg)) (λg hg=>by
   show FU a (b.take f).2.next Ga g;rw[e.next];exact ho g (AW _ hg))
  unfold CS.takes;rw[AI (by rw[e1];simp)];have r:=EY.refl d.so;have h3:Iv (b.take f).2 { (b.take f).2 with answer:=(b.take f).2.answer||f.kind != 2 }:=⟨rfl,rfl,⟨rfl,rfl⟩,rfl,⟨rfl,rfl⟩,⟨r.ws,r.grant,r.rg⟩,rfl⟩;exact⟨i1,i2,e.trans (h3.trans i3)⟩
structure Ls(c:CS)(G:List SN):Prop where
 ok:II c G
 cm:c.came=[]
 sm:c.seen=[]->c.most=0
structure Ly(c:CS)(G:List SN)(nx:Nat):Prop where
 id:c.anyID=true->c.lastID<nx
 gi:∀s∈G,s.id<nx
 wl:c.waits.length<=G.length
def Hv(G G':List SN):Prop:=∀s∈G,∃s'∈G',s'.id=s.id/\s'.dl=s.dl/\s'.data=s.data
def Hv.refl(G:List SN):Hv G G:=λs hs=>⟨s,hs,rfl,rfl,rfl⟩
structure NS.Safe(n:NS):Prop where
 d:∀i,i<2->Fc (n.c i) (n.c (1-i)) (n.e i)
 so:∀i,i<2->Dw (n.c i) (n.g i)
 gr:∀i,i<2->Ls (n.c i) (n.g (1-i))
 dg:∀i,i<2->Ly (n.c i) (n.g i) (n.next i)
 now:∀i,i<2->(n.c i).now=n.now
 mtu:∀i,i<2->(n.c i).mtu=n.mtu
 ct:∀i,i<2->n.count i=(n.c i).next
 got:∀i,i<2->∀r∈(n.c i).got.rs,r.2<(n.c (1-i)).next
 bag:∀p∈n.bag,p.1<2/\G5 (n.c (1-p.1)) (n.c p.1).next (n.g (1-p.1)) p.2
 up:n.Up
variable{i j:Nat}
def Gg(hi:i<2)(hj:j<2):j=i\/j=1-i:=I
structure Kh(n n':NS)(i:Nat):Prop where
 o:n'.c (1-i)=n.c (1-i)
 l:EY (n.c i) (n'.c i)
 x:(n.c i).next<=(n'.c i).next
 d1:Fc (n'.c i) (n.c (1-i)) (n'.e i)
 d2:Fc (n.c (1-i)) (n'.c i) (n'.e (1-i))
 so:Dw (n'.c i) (n'.g i)
 g1:Hv (n.g i) (n'.g i)
 g2:Hv (n.g (1-i)) (n'.g (1-i))
 gl:(n.g (1-i)).length=(n'.g (1-i)).length
 gr:Ls (n'.c i) (n'.g (1-i))
 gs:II (n.c (1-i)) (n'.g i)
 dg:Ly (n'.c i) (n'.g i) (n'.next i)
 di:∀s∈n'.g (1-i),s.id<n'.next (1-i)
 nx:n'.next (1-i)=n.next (1-i)
 now:(n'.c i).now=n.now/\n'.now=n.now
 mtu:(n'.c i).mtu=n.mtu/\n'.mtu=n.mtu
 ct:n'.count i=(n'.c i).next/\n'.count (1-i)=n.count (1-i)
 got:∀r∈(n'.c i).got.rs,r.2<(n.c (1-i)).next
 bag:∀p∈n'.bag,p∈n.bag\/(p.1<2/\G5 (n'.c (1-p.1)) (n'.c p.1).next (n'.g (1-p.1)) p.2)
 up:(n'.c i).closed=0
variable{n n':NS}
def NS.Safe.turn(h:n.Safe)(hi:i<2)(t:Kh n n' i):n'.Safe:=by
 have m:1-(1-i)=i:=I;have u:1-i<2:=I;have v:Dw (n.c (1-i)) (n'.g (1-i)):=by
  have s:=h.so (1-i) u;exact⟨s.w,s.kf,s.sp,λf hf=>by
   obtain⟨a,b,s0,hs,e1,e2,e3⟩:=s.wt f hf;obtain⟨s1,y,f1,f2,f3⟩:=t.g2 s0 hs;exact⟨a,b,s1,y,f1.trans e1,f2.trans e2,f3.trans e3⟩⟩
 have pk:∀p:Nat×nG,p.1<2->G5 (n.c (1-p.1)) (n.c p.1).next (n.g (1-p.1)) p.2->G5 (n'.c (1-p.1)) (n'.c p.1).next (n'.g (1-p.1)) p.2:=λp z q=>by
  rcases Gg hi z with e|e
  .rw[e]at q ⊢;rw[t.o];exact q.mono (EY.refl (h.so (1-i) u)) (λk hk=>((h.so (1-i) u).w k hk).hl) (AF _) t.x t.g2
  rw[e,m]at q ⊢;rw[t.o];exact q.mono t.l (λk hk=>((h.so i hi).w k hk).hl) t.x (AF _) t.g1
 refine⟨λj d=>?_,λj d=>?_,λj d=>?_,λj d=>?_,λj d=>?_,λj d=>?_,λj d=>?_,λj d=>?_,λp z=>?_,λj d=>?_⟩
 .rcases Gg hi d with e|e
  .rw[e,t.o];exact t.d1
  rw[e,m,t.o];exact t.d2
 .rcases Gg hi d with e|e
  .rw[e];exact t.so
  rw[e,t.o];exact v
 .rcases Gg hi d with e|e
  .rw[e];exact t.gr
  rw[e,m,t.o];exact⟨t.gs,(h.gr (1-i) u).cm,(h.gr (1-i) u).sm⟩
 .rcases Gg hi d with e|e
  .rw[e];exact t.dg
  rw[e,t.o];have a:=h.dg (1-i) u;exact⟨by rw[t.nx];exact a.id,t.di,by rw[<-t.gl];exact a.wl⟩
 .rcases Gg hi d with e|e
  .rw[e,t.now.2];exact t.now.1
  rw[e,t.o,t.now.2];exact h.now _ u
 .rcases Gg hi d with e|e
  .rw[e,t.mtu.2];exact t.mtu.1
  rw[e,t.o,t.mtu.2];exact h.mtu _ u
 .rcases Gg hi d with e|e
  .rw[e];exact t.ct.1
  rw[e,t.o,t.ct.2];exact h.ct _ u
 .rcases Gg hi d with e|e
  .rw[e,t.o];exact t.got
  rw[e,t.o,m];intro r hr;have:=h.got _ u r hr;rw[m]at this;have:=t.x;omega
 .rcases t.bag p z with q|q
  .obtain⟨a,b⟩:=h.bag p q;exact⟨a,pk p a b⟩
  exact q
 rcases Gg hi d with e|e
 .rw[e];exact t.up
 rw[e,t.o];exact h.up _ u
def NS.setC_self(n:NS)(i:Nat):n.setC i (n.c i)=n:=by unfold NS.setC;rw[Fy]
def NS.setC_c(n:NS)(i:Nat)(c:CS):(n.setC i c).c i=c:=by show zf n.c i c i=c;rw[ze]
def NS.setC_o(n:NS)(hi:i<2)(c:CS):(n.setC i c).c (1-i)=n.c (1-i):=by show zf n.c i c (1-i)=_;rw[zd _ _ I]
variable{c':CS}
def Kh.user(h:n.Safe)(hi:i<2){E:Nat->Nat->EN}(l:EY (n.c i) c')(x:c'.next=(n.c i).next)(d1:Fc c' (n.c (1-i)) (E i))(d2:Fc (n.c (1-i)) c' (E (1-i)))(so:Dw c' (n.g i))(sn:c'.seen=(n.c i).seen/\c'.most=(n.c i).most/\c'.came=(n.c i).came)
  (ids:c'.lastID=(n.c i).lastID/\c'.anyID=(n.c i).anyID) (wt:c'.waits=(n.c i).waits) (now:c'.now=(n.c i).now) (mtu:c'.mtu=(n.c i).mtu) (got:c'.got=(n.c i).got) (cl:c'.closed=(n.c i).closed):Kh n { n.setC i c' with e:=E } i:=by
 have ec:({ n.setC i c' with e:=E }:NS).c i=c':=NS.setC_c n i c';have d:1-i<2:=I;have g0:=h.gr i hi;have a:=h.dg i hi;have f:=h.gr (1-i) d;have b:1-(1-i)=i:=I;rw[b]at f;refine⟨NS.setC_o n hi c',?_,?_,?_,?_,?_,Hv.refl _,Hv.refl _,rfl,?_,f.ok,?_,(h.dg (1-i) d).gi,rfl,⟨?_,rfl⟩,⟨?_,rfl⟩,⟨?_,rfl⟩,?_,λp hp=>.inl hp,?_⟩;all_goals rw[ec]
 .exact l
 .exact Ay x.symm
 .exact d1
 .exact d2
 .exact so
 .exact⟨g0.ok.same sn now,sn.2.2.trans g0.cm,by rw[sn.1,sn.2.1];exact g0.sm⟩
 .exact⟨by rw[ids.1,ids.2];exact a.id,a.gi,by rw[wt];exact a.wl⟩
 .exact now.trans (h.now i hi)
 .exact mtu.trans (h.mtu i hi)
 .rw[x];exact h.ct i hi
 .rw[got];exact h.got i hi
 rw[cl];exact h.up i hi
variable{y:WS}
def NS.Safe.writer(h:n.Safe)(hi:i<2)(hk:k<8){f:EN}(l:F8 ((n.c i).ws k) y)(hh:y.high=((n.c i).ws k).high)(d:Dr y ((n.c (1-i)).rs k) f)(kf:y.keep<=y.final):((n.setC i { n.c i with ws:=zf (n.c i).ws k y }).setE i k f).Safe:=by
 have a:1-i<2:=I;have hd:=h.d i hi;have b:=h.d (1-i) a;have so:=h.so i hi;have g:1-(1-i)=i:=I;rw[g]at b;have t:Kh n { n.setC i { n.c i with ws:=zf (n.c i).ws k y }with e:=zf n.e i (zf (n.e i) k f) } i:=by
  refine Kh.user h hi (c':={ n.c i with ws:=zf (n.c i).ws k y }) ⟨λj a=>?_,AF _,λ_ _=>AF _⟩ rfl ⟨λj a=>?_,hd.cr⟩ ?_ ⟨λj a=>?_,λj a=>?_,?_,so.wt⟩ ⟨rfl,rfl,rfl⟩ ⟨rfl,rfl⟩ rfl rfl rfl rfl rfl
  .show F8 ((n.c i).ws j) (zf (n.c i).ws k y j);by_cases e:j=k
   .subst e;rw[ze];exact l
   rw[zd _ _ e];exact(so.w j a).le
  .show Dr (zf (n.c i).ws k y j) ((n.c (1-i)).rs j) (zf n.e i (zf (n.e i) k f) i j);rw[ze];by_cases e:j=k
   .subst e;rw[ze,ze];exact d
   rw[zd _ _ e,zd _ _ e];exact hd.k j a
  .show Fc (n.c (1-i)) _ (zf n.e i (zf (n.e i) k f) (1-i));rw[zd _ _ (I:1-i≠i)];exact⟨b.k,b.cr⟩
  .show Fg (zf (n.c i).ws k y j) (zf (n.c i).ws k y j);by_cases e:j=k
   .subst e;rw[ze];exact d.wput
   rw[zd _ _ e];exact so.w j a
  .show(zf (n.c i).ws k y j).keep<=(zf (n.c i).ws k y j).final;by_cases e:j=k
   .subst e;rw[ze];exact kf
   rw[zd _ _ e];exact so.kf j a
  have:=PV (n.c i).ws k y 8 hk;have:=so.sp;unfold CS.spent at *;show zI (zf (n.c i).ws k y) 8<=(n.c i).credit;omega
 exact h.turn hi t
def Q0(h:n.Safe)(hi:i<2)(hk:k<8):(n.c i).stream (k:Int)=0:=by
 unfold CS.stream;rw[AI (by rw[h.up i hi];simp),AI I]
def NS.Safe.send(h:n.Safe)(hi:i<2)(hk:k<8)(s:nG):(n.send i k s).1=true/\(n.send i k s).2.Safe:=by
 have d:=(h.d i hi).k k hk;have a:=Q0 h hi hk;have so:=h.so i hi;unfold NS.send;by_cases h1:((n.e i k).fin||(n.e i k).cut)=true
 .have hc:(n.c i).send k s=(4,n.c i):=by
   unfold CS.send;rw[AI (by rw[a];simp),Ae,AQ (by rw[<-d.fi,<-d.cu];exact h1)]
  rw[AQ h1,hc,NS.setC_self];exact⟨rfl,h⟩
 rw[AI h1];by_cases h2:2048<(n.e i k).wrote.length+s.length
 .have hc:(n.c i).send k s=(3,n.c i):=by
   unfold CS.send;rw[AI (by rw[a];simp),Ae,AI (by rw[<-d.fi,<-d.cu];exact h1),AQ (by rw[<-d.wr];exact h2)]
  rw[AQ h2,hc,NS.setC_self];exact⟨rfl,h⟩
 have hc:(n.c i).send k s=(0,{ n.c i with ws:=zf (n.c i).ws k { (n.c i).ws k with b:=((n.c i).ws k).b++s } }):=by
  unfold CS.send;rw[AI (by rw[a];simp),Ae,AI (by rw[<-d.fi,<-d.cu];exact h1),AI (by rw[<-d.wr];exact h2)]
 rw[AI h2,hc];rw[d.fi,d.cu]at h1;simp only[CR,BU]at h1;have hl:=d.hl;rw[d.wr]at h2;have l:F8 ((n.c i).ws k) { (n.c i).ws k with b:=((n.c i).ws k).b++s } :=
  ⟨List.prefix_append _ _,λq=>(by rw[h1.1,h1.2]at q;simp at q),AF _,by show _<=(_++s).length;rw[AG];show((n.c i).ws k).high<=_;omega,id,λq=>(by rw[h1.2]at q;cases q),λq=>(by rw[h1.1]at q;cases q)⟩
 refine⟨rfl,h.writer hi hk l rfl (d.wle l (by show(_++s).length<=_;rw[AG];omega) d.hc d.cg d.hf ?_ d.fi d.cu d.ke rfl rfl) (so.kf k hk)⟩;show(n.e i k).wrote++s=_;rw[d.wr]
def NS.Safe.finish(h:n.Safe)(hi:i<2)(hk:k<8):(n.finish i k).1=true/\(n.finish i k).2.Safe:=by
 have d:=(h.d i hi).k k hk;have a:=Q0 h hi hk;have so:=h.so i hi;unfold NS.finish;by_cases h1:((n.e i k).fin||(n.e i k).cut)=true
 .have hc:(n.c i).finish k=(4,n.c i):=by
   unfold CS.finish;rw[AI (by rw[a];simp),Ae,AQ (by rw[<-d.fi,<-d.cu];exact h1)]
  rw[AQ h1,hc,NS.setC_self];exact⟨rfl,h⟩
 have hc:(n.c i).finish k=(0,{ n.c i with ws:=zf (n.c i).ws k { (n.c i).ws k with finished:=true } }):=by
  unfold CS.finish;rw[AI (by rw[a];simp),Ae,AI (by rw[<-d.fi,<-d.cu];exact h1)]
 rw[AI h1,hc];rw[d.fi,d.cu]at h1;simp only[CR,BU]at h1;have l:F8 ((n.c i).ws k) { (n.c i).ws k with finished:=true } :=
  ⟨DD _,λ_=>rfl,AF _,d.hl,λ_=>rfl,λq=>⟨q,rfl,AF _⟩,λq=>(by rw[h1.1]at q;cases q)⟩
 exact⟨rfl,h.writer hi hk l rfl (d.wle l d.bl d.hc d.cg d.hf d.wr rfl d.cu d.ke rfl rfl) (so.kf k hk)⟩
def NS.Safe.read(h:n.Safe)(hi:i<2)(hk:k<8)(most:Nat):(n.read i k most).1=true/\(n.read i k most).2.Safe:=by
 have l:1-i<2:=I;have m:1-(1-i)=i:=I;have g:=h.d (1-i) l;rw[m]at g;have d:=g.k k hk;have d1:=h.d i hi;have so:=h.so i hi;have o:=Q0 h hi hk;have step:∀(x:RS) (f:EN),Dr ((n.c (1-i)).ws k) x f->x.grant=((n.c i).rs k).grant->((n.setC i { n.c i with rs:=zf (n.c i).rs k x }).setE (1-i) k f).Safe:=by
  intro x f dx hg;have hr:∀j,((n.c i).rs j).grant=(zf (n.c i).rs k x j).grant:=λj=>by
   by_cases e:j=k
   .subst e;rw[ze];exact hg.symm
   rw[zd _ _ e]
  have t:Kh n { n.setC i { n.c i with rs:=zf (n.c i).rs k x }with e:=zf n.e (1-i) (zf (n.e (1-i)) k f) } i:=by
   refine Kh.user h hi (c':={ n.c i with rs:=zf (n.c i).rs k x }) (EY.of_w so (λ_ _=>.inl (FK.refl _)) (AF _) (λj _=>Ay (hr j))) rfl ?_ ⟨λj l=>?_,g.cr⟩ ⟨so.w,so.kf,so.sp,so.wt⟩ ⟨rfl,rfl,rfl⟩ ⟨rfl,rfl⟩ rfl rfl rfl rfl rfl
   .rw[zd _ _ (I:i≠1-i)];exact⟨d1.k,d1.cr⟩
   show Dr ((n.c (1-i)).ws j) (zf (n.c i).rs k x j) (zf n.e (1-i) (zf (n.e (1-i)) k f) (1-i) j);rw[ze];by_cases e:j=k
   .subst e;rw[ze,ze];exact dx
   rw[zd _ _ e,zd _ _ e];exact g.k j l
  exact h.turn hi t
 by_cases h0:((n.c i).rs k).state=0
 .obtain⟨a,b,e⟩:=d.read0 most h0;have hc:(n.c i).read (k:Int) (most:Int)=(((((n.c i).rs k).b.drop ((n.c i).rs k).read).take (((n.c i).rs k).readTo most-((n.c i).rs k).read),((n.c i).rs k).stateAt (((n.c i).rs k).readTo most),0),{ n.c i with rs:=zf (n.c i).rs k { (n.c i).rs k with read:=((n.c i).rs k).readTo most,state:=((n.c i).rs k).stateAt (((n.c i).rs k).readTo most) } }):=by
   unfold CS.read;rw[AI (by rw[o];simp),Ae,Ae,AI (by rw[h0];simp)]
  unfold NS.read;rw[hc,AI (λq=>by have:=a.symm.trans q;cases this)];exact⟨b,step _ _ e rfl⟩
 obtain⟨a,b,e⟩:=d.read1 most h0;have hc:(n.c i).read (k:Int) (most:Int)=(([],((n.c i).rs k).state,0),n.c i):=by
  unfold CS.read;rw[AI (by rw[o];simp),Ae,AQ h0]
 unfold NS.read;rw[hc,AI (λq=>by have:=a.symm.trans q;cases this)];refine⟨b,?_⟩;have:=step _ _ e rfl;rw[Fy]at this;exact this
variable{T:Nat}
def NS.Safe.flush(h:n.Safe)(hI:n.Inv T)(v:T<=Dg)(hi:i<2):(n.flush i).1=true/\(n.flush i).2.Safe:=by
 have o:1-i<2:=I;have l:1-(1-i)=i:=I;have pk:=(h.d i hi);have hk:=(hI.c i hi).pkOk v;have y:=(hI.c i hi).pkPost v;have so:=h.so i hi;have g0:=h.gr i hi;have q:=h.dg i hi;have z:=h.gr (1-i) o;have d2:=h.d (1-i) o;rw[l]at z d2;have b:=h.got i hi;have a0:Dw (n.c i).acks.2 (n.g i)/\(∀r∈(n.c i).acks.1,r.2<(n.c (1-i)).next)/\(∃w,(n.c i).acks.2={ n.c i with answer:=w }):=by
  unfold CS.acks;split
  .exact⟨⟨so.w,so.kf,so.sp,so.wt⟩,λr s=>b r (List.mem_reverse.1 s),_,rfl⟩
  exact⟨so,λr s=>(by cases s),(n.c i).answer,rfl⟩
 obtain⟨a1,a2,w,A⟩:=a0;have t:(n.c i).acks.2.mtu=(n.c i).mtu/\(n.c i).acks.2.next=(n.c i).next/\(n.c i).acks.2.now=(n.c i).now:=by rw[A];exact⟨rfl,rfl,rfl⟩
 obtain⟨p1,⟨bg,p2,p3⟩,p4,f,u⟩:=QB (nx:=(n.c (1-i)).next) (G:=n.g i) (12-(n.c i).flight.length+(n.c i).acks.1.length+1) (n.c i).acks.2 (n.c i).acks.1 (n.setC i (n.c i).packets.2) i hk a1 a2 (by rw[t.1];exact(h.mtu i hi).symm) (by rw[t.2.1];exact h.ct i hi) (by rw[t.2.2];exact(h.now i hi).symm);have m:CS.pkts (12-(n.c i).flight.length+(n.c i).acks.1.length+1) (n.c i).acks.2 (n.c i).acks.1=(n.c i).packets:=rfl;rw[m]at p1 p2 p3 p4 f u;have j:=y.but;clear y hk m;rw[A]at f u j;unfold NS.flush;refine⟨p1,?_⟩;rw[p2];obtain⟨b1,b2,b3,B,b5,b6,b7,b8⟩:=j.hd;obtain⟨t1,t2,t3,t4,C,D,E⟩:=j.tl;have bw:=j.wl;have br:=j.rs;clear j;generalize (n.c i).packets.2=c2 at *;have F:({ n.setC i c2 with count:=zf n.count i c2.next,bag:=n.bag++bg }:NS).c i=c2:=NS.setC_c n i c2;have H:({ n.setC i c2 with count:=zf n.count i c2.next,bag:=n.bag++bg }:NS).c (1-i)=n.c (1-i):=NS.setC_o n hi c2;refine h.turn (n':={ n.setC i c2 with count:=zf n.count i c2.next,bag:=n.bag++bg }) hi ⟨H,?_,?_,?_,?_,?_,Hv.refl _,Hv.refl _,rfl,?_,z.ok,?_,(h.dg (1-i) o).gi,rfl,⟨?_,rfl⟩,⟨?_,rfl⟩,⟨?_,?_⟩,?_,λp hp=>?_,?_⟩;all_goals try rw[F]
 .exact⟨f.sle.ws,f.sle.grant,f.sle.rg⟩
 .exact u
 .exact⟨λk hk=>(pk.k k hk).put (f.ws k hk),by rw[t1];exact pk.cr⟩
 .refine⟨λk hk=>?_,AJ d2.cr f.grant⟩;obtain⟨g,a,e,_⟩:=br k hk;have hg:=f.rg k hk;rw[e]at hg ⊢;exact(d2.k k hk).grant g a hg
 .exact p4
 .exact⟨g0.ok.same ⟨C,D,E⟩ B,E.trans g0.cm,by rw[C,D];exact g0.sm⟩
 .exact⟨by rw[t3,t4];exact q.id,q.gi,AJ bw q.wl⟩
 .exact B.trans (h.now i hi)
 .exact b1.trans (h.mtu i hi)
 .show zf n.count i c2.next i=_;rw[ze]
 .show zf n.count i c2.next (1-i)=_;rw[zd _ _ I]
 .rw[b7];exact b
 .rcases Al.1 hp with x|x
  .exact .inl x
  obtain⟨x1,x2⟩:=p3 p x;refine .inr ⟨I,?_⟩;rw[x1,l,F,H];exact x2
 rw[b5];exact h.up i hi
def Ff(id:Nat)(s:SN):SN:=if s.id=id then{ s with came:=true }else s
theorem Qz(now id:Nat)(data:nG):∀(G:List SN) (r:Bool),(EP now id data G r).2=G.map (Ff id)
 | [],_=>rfl
 | g::l,r=>by
  unfold EP;split
  .rename_i e;simp only[Bq,Qz now id data l];unfold Ff;rw[AQ e]
  rename_i e;simp only[Bq,Qz now id data l];unfold Ff;rw[AI e]
theorem VP(now id:Nat)(data:nG):∀(G:List SN) (r:Bool),(∀s∈G,s.id≠id)->(EP now id data G r).1=r
 | [],_,_=>rfl
 | g::l,r,h=>by
  unfold EP;rw[AI (h g AO)];exact VP now id data l r (λs hs=>h s (AW _ hs))
theorem Uu(now id:Nat)(data:nG):∀(G:List SN) (r:Bool),(G.map (·.id)).Nodup->(∃s∈G,s.id=id/\s.data=data/\s.came=false/\now<=s.dl)->(EP now id data G r).1=true
 | [],_,_,h=>by obtain⟨s,a,_⟩:=h;cases a
 | g::l,r,nd,h=>by
  rw[Bq,List.nodup_cons]at nd;obtain⟨s,a,c,d,f,i⟩:=h;unfold EP;by_cases e:g.id=id
  .rw[AQ e];have b:∀s∈l,s.id≠id:=λs a q=>nd.1 (by rw[e,<-q];exact BQ.2 ⟨s,a,rfl⟩)
   rcases Av.1 a with x|x
   .subst x;show(EP now id data l _).1=true;rw[VP now id data l _ b,d,f];simp[i]
   exact absurd c (b s x)
  rw[AI e];rcases Av.1 a with x|x
  .subst x;exact absurd c e
  exact Uu now id data l r nd.2 ⟨s,x,c,d,f,i⟩
structure OX(l:List (Nat×nG))(f:SN->SN):Prop where
 id:∀s,(f s).id=s.id
 dl:∀s,(f s).dl=s.dl
 data:∀s,(f s).data=s.data
 no:∀s,(f s).came=true->s.came=true\/∃p∈l,p.1=s.id
 old:∀s,s.came=true->(f s).came=true
 yes:∀s,(∃p∈l,p.1=s.id)->(f s).came=true
def iE{m:Nat×nG}{l:List (Nat×nG)}{f:SN->SN}(h:OX l f):OX (m::l) (λs=>f (Ff m.1 s)):=by
 have e:∀s,(Ff m.1 s).id=s.id/\(Ff m.1 s).dl=s.dl/\(Ff m.1 s).data=s.data/\((Ff m.1 s).came=true->s.came=true\/m.1=s.id)/\(s.came=true->(Ff m.1 s).came=true)/\(m.1=s.id->(Ff m.1 s).came=true):=λs=>by
  unfold Ff;split
  .rename_i q;exact⟨rfl,rfl,rfl,λ_=>.inr q.symm,λ_=>rfl,λ_=>rfl⟩
  rename_i q;exact⟨rfl,rfl,rfl,λx=>.inl x,id,λx=>absurd x.symm q⟩
 refine⟨λs=>(h.id _).trans (e s).1,λs=>(h.dl _).trans (e s).2.1,λs=>(h.data _).trans (e s).2.2.1,λs q=>?_,λs q=>h.old _ ((e s).2.2.2.2.1 q),λs ⟨p,hp,q⟩=>?_⟩
 .rcases h.no _ q with x|⟨p,hp,x⟩
  .rcases(e s).2.2.2.1 x with y|y
   .exact .inl y
   exact .inr ⟨m,AO,y⟩
  exact .inr ⟨p,AW _ hp,x.trans (e s).1⟩
 rcases Av.1 hp with x|x
 .subst x;exact h.old _ ((e s).2.2.2.2.2 q)
 exact h.yes _ ⟨p,x,q.trans (e s).1.symm⟩
theorem Tj(now:Nat):∀(l:List (Nat×nG)) (G:List SN),(G.map (·.id)).Nodup->(l.map (·.1)).Nodup->(∀p∈l,∃s∈G,s.id=p.1/\s.data=p.2/\s.came=false/\now<=s.dl)->(FX now l G).1=true/\∃f,(FX now l G).2=G.map f/\OX l f
 | [],G,_,_,_=>⟨rfl,id,by show G=G.map _;rw[List.map_id],⟨λ_=>rfl,λ_=>rfl,λ_=>rfl,λ_ h=>.inl h,λ_ h=>h,λs ⟨p,hp,_⟩=>(by cases hp)⟩⟩
 | m::l,G,nd,nl,h=>by
  have h1:=Uu now m.1 m.2 G false nd (h m AO);have h2:=Qz now m.1 m.2 G false;rw[Bq,List.nodup_cons]at nl;have a:∀s,(Ff m.1 s).id=s.id:=λs=>by unfold Ff;split<;>rfl
  have b:((G.map (Ff m.1)).map (·.id)).Nodup:=by
   rw[Cg];have:((λx=>x.id) ∘ Ff m.1)=(λx:SN=>x.id):=by funext s;exact a s
   rw[this];exact nd
  obtain⟨i1,f,i2,i3⟩:=Tj now l (G.map (Ff m.1)) b nl.2 (λp hp=>by
   obtain⟨s,hs,d,e2,e3,e4⟩:=h p (AW _ hp);have c:s.id≠m.1:=λq=>nl.1 (by rw[<-q,d];exact BQ.2 ⟨p,hp,rfl⟩)
   have em:Ff m.1 s=s:=by unfold Ff;rw[AI c]
   exact⟨s,BQ.2 ⟨s,hs,em⟩,d,e2,e3,e4⟩)
  unfold FX;rw[AQ h1,h2];exact⟨i1,λs=>f (Ff m.1 s),by rw[i2,Cg];rfl,iE i3⟩
def On(h:n.Safe)(hi:i<2):Rc (n.c (1-i)) (n.c i) (n.e (1-i)) (n.e i) (n.g (1-i)) (n.g i):=by
 have hj:1-i<2:=I;have a:1-(1-i)=i:=I;have d:=h.d (1-i) hj;rw[a]at d;exact⟨d,h.d i hi,h.so i hi,(h.gr i hi).ok,(h.gr i hi).sm⟩
variable{c2:CS}
def NS.Safe.took(h:n.Safe)(hi:i<2)(r:Rc (n.c (1-i)) c2 (n.e (1-i)) (n.e i) (n.g (1-i)) (n.g i))(l:EY (n.c i) c2)(x:c2.next=(n.c i).next)(ids:c2.lastID=(n.c i).lastID/\c2.anyID=(n.c i).anyID)(wt:c2.waits=(n.c i).waits)
  (now:c2.now=(n.c i).now) (mtu:c2.mtu=(n.c i).mtu) (got:∀r∈c2.got.rs,r.2<(n.c (1-i)).next) (cl:c2.closed=0):((n.setC i c2).came i).1=true/\((n.setC i c2).came i).2.Safe/\∃f,((n.setC i c2).came i).2={ n.setC i { c2 with came:=[] }with g:=zf n.g (1-i) ((n.g (1-i)).map f) }/\OX c2.came f:=by
 have A:1-i<2:=I;have u:1-(1-i)=i:=I;have g0:=r.ms;have v:=h.dg i hi;have B:=h.gr (1-i) A;rw[u]at B;have C:=now.trans (h.now i hi);obtain⟨m1,f,m2,m⟩:=Tj n.now c2.came (n.g (1-i)) g0.nd g0.cn (λp a=>by rw[<-C];exact g0.ms p a);have es:=NS.setC_c n i c2;have e0:((n.setC i c2).came i).1=(FX n.now c2.came (n.g (1-i))).1:=by
  unfold NS.came CS.datagramsOut;rw[es];rfl
 have D:((n.setC i c2).came i).2={ n.setC i { c2 with came:=[] }with g:=zf n.g (1-i) ((n.g (1-i)).map f) }:=by
  unfold NS.came CS.datagramsOut;rw[es];have eu:(n.setC i c2).setC i { c2 with came:=[] }=n.setC i { c2 with came:=[] }:=by
   unfold NS.setC;have:zf (zf n.c i c2) i { c2 with came:=[] }=zf n.c i { c2 with came:=[] }:=by
    funext j;unfold zf;split<;>rfl
   simp only[this]
  show{ (n.setC i c2).setC i { c2 with came:=[] }with g:=zf n.g (1-i) (FX n.now c2.came (n.g (1-i))).2 }=_;rw[eu,m2]
 refine⟨e0.trans m1,?_,f,D,m⟩;rw[D];have ec:({ n.setC i { c2 with came:=[] }with g:=zf n.g (1-i) ((n.g (1-i)).map f) }:NS).c i={ c2 with came:=[] }:=NS.setC_c n i _;have b:zf n.g (1-i) ((n.g (1-i)).map f) i=n.g i:=zd _ _ I;have d:zf n.g (1-i) ((n.g (1-i)).map f) (1-i)=(n.g (1-i)).map f:=ze _ _ _;refine h.turn (n':={ n.setC i { c2 with came:=[] }with g:=zf n.g (1-i) ((n.g (1-i)).map f) }) hi ⟨NS.setC_o n hi _,?_,?_,?_,?_,?_,?_,?_,?_,?_,?_,?_,?_,rfl,⟨?_,rfl⟩,⟨?_,rfl⟩,⟨?_,rfl⟩,?_,λp a=>.inl a,?_⟩;all_goals try rw[ec]
 .exact⟨l.ws,l.grant,l.rg⟩
 .exact Ay x.symm
 .exact⟨r.d2.k,r.d2.cr⟩
 .exact⟨r.d1.k,r.d1.cr⟩
 .show Dw _ (zf n.g (1-i) ((n.g (1-i)).map f) i);rw[b];exact⟨r.so.w,r.so.kf,r.so.sp,r.so.wt⟩
 .show Hv (n.g i) (zf n.g (1-i) ((n.g (1-i)).map f) i);rw[b];exact Hv.refl _
 .show Hv (n.g (1-i)) (zf n.g (1-i) ((n.g (1-i)).map f) (1-i));rw[d];exact λs t=>⟨f s,BQ.2 ⟨s,t,rfl⟩,m.id s,m.dl s,m.data s⟩
 .show _=(zf n.g (1-i) ((n.g (1-i)).map f) (1-i)).length;rw[d,BB]
 .show Ls _ (zf n.g (1-i) ((n.g (1-i)).map f) (1-i));rw[d];refine⟨⟨?_,λs t q=>?_,λp a=>(by cases a),DK,λp a=>(by cases a)⟩,rfl,r.sm⟩
  .rw[Cg];have:((λx=>x.id) ∘ f)=(λx:SN=>x.id):=by funext s;exact m.id s
   rw[this];exact g0.nd
  obtain⟨z,o,rfl⟩:=BQ.1 t;rw[m.id];rcases m.no _ q with y|⟨p,a,y⟩
  .exact g0.se z o y
  rw[<-y];exact g0.kn p a
 .show II (n.c (1-i)) (zf n.g (1-i) ((n.g (1-i)).map f) i);rw[b];exact B.ok
 .show Ly _ (zf n.g (1-i) ((n.g (1-i)).map f) i) (n.next i);rw[b];exact⟨by show c2.anyID=true->c2.lastID<_;rw[ids.1,ids.2];exact v.id,v.gi,by show c2.waits.length<=_;rw[wt];exact v.wl⟩
 .show ∀s∈zf n.g (1-i) ((n.g (1-i)).map f) (1-i),s.id<n.next (1-i);rw[d];intro s t;obtain⟨z,o,rfl⟩:=BQ.1 t;rw[m.id];exact(h.dg (1-i) A).gi z o
 .exact C
 .exact mtu.trans (h.mtu i hi)
 .show n.count i=c2.next;rw[x];exact h.ct i hi
 .exact got
 exact cl
def NS.Safe.recv(h:n.Safe)(hI:n.Inv T)(hi:i<2){b:nG}(hb:b.length<1099511627776)(p:G5 (n.c (1-i)) (n.c i).next (n.g (1-i)) b):(n.recv i b).1=0/\(n.recv i b).2.1=true/\(n.recv i b).2.2.Safe:=by
 have l:1-i<2:=I;have rc:=On h hi;have a:=h.up i hi;obtain⟨num,fs,m,e2,e3⟩:=p.dec;obtain⟨f1,_,f3⟩:=Ki hb m;have f:=h.got i hi;unfold NS.recv;by_cases t:Hi (n.c i).got.rs (n.c i).got.fl num=true
 .have hc:(n.c i).receive b=((0,-1),n.c i):=by
   unfold CS.receive;rw[AI (by rw[a];simp),m];simp only;rw[AQ t]
  rw[hc];obtain⟨t1,o,_⟩:=h.took hi rc (EY.refl (h.so i hi)) rfl ⟨rfl,rfl⟩ rfl rfl rfl f a;exact⟨rfl,t1,o⟩
 have hc:(n.c i).receive b=(((CS.takes fs { n.c i with got:=(n.c i).got.add num num }).1,-1),(CS.takes fs { n.c i with got:=(n.c i).got.add num num }).2):=by
  unfold CS.receive;rw[AI (by rw[a];simp),m];simp only;rw[AI t]
 rw[hc];have q:Rc (n.c (1-i)) { n.c i with got:=(n.c i).got.add num num } (n.e (1-i)) (n.e i) (n.g (1-i)) (n.g i):=⟨⟨rc.d1.k,rc.d1.cr⟩,⟨rc.d2.k,rc.d2.cr⟩,⟨rc.so.w,rc.so.kf,rc.so.sp,rc.so.wt⟩,rc.ms.same ⟨rfl,rfl,rfl⟩ rfl,rc.sm⟩;obtain⟨t1,o,d⟩:=Rc.takes (h.so (1-i) l) fs _ q f3 e3;have tc:=Rp fs { n.c i with got:=(n.c i).got.add num num } t1;have s:=Qr ((hI.c i hi).got.1) (B:=(n.c (1-i)).next-1) (lo:=num) (hi:=num) (λj l=>by have:=f _ (AV (Gn l));simp only at this;omega) I f1;obtain⟨u1,u2,_⟩:=h.took hi o ⟨d.sle.ws,d.sle.grant,d.sle.rg⟩ d.next d.ids d.waits d.now d.cfg.1 (λr u=>by
  rw[d.got]at u;obtain⟨j,l,_,e⟩:=I5 (show r∈((n.c i).got.add num num).rs from u);have:=s j l;omega) (tc.trans a)
 exact⟨t1,u1,u2⟩
def NS.Safe.spoilt(h:n.Safe)(hi:i<2){b:nG}(hd:dec b=.sum):(n.recv i b).1=7/\(n.recv i b).2.1=true/\(n.recv i b).2.2.Safe:=by
 have a:=h.up i hi;have hc:(n.c i).receive b=((7,-1),n.c i):=by
  unfold CS.receive;rw[AI (by rw[a];simp),hd]
 unfold NS.recv;rw[hc];obtain⟨t1,t2,_⟩:=h.took hi (On h hi) (EY.refl (h.so i hi)) rfl ⟨rfl,rfl⟩ rfl rfl rfl (h.got i hi) a;exact⟨rfl,t1,t2⟩
def Ut{b:nG}(hs:∃l,b=l++ES (D3 l))(hk:k<b.length){x:UInt8}(hx:x≠0):dec (IA b k x)=.sum:=by
 obtain⟨l,rfl⟩:=hs;have e:IA (l++ES (D3 l)) k x=(l++ES (D3 l)).set k ((l++ES (D3 l))[k] ^^^ x):=by
  unfold IA;have e1:(l++ES (D3 l)).getD k 0=(l++ES (D3 l))[k]:=by rw[Ak,AK hk];rfl
  rw[e1,List.set_eq_take_append_cons_drop,AQ hk];rfl
 rw[e];refine iK l k _ hk (λq=>hx ?_);generalize (l++ES (D3 l))[k]=y at q;have q2:y.toBitVec=y.toBitVec ^^^ x.toBitVec:=A8 UInt8.toBitVec q;have q3:x.toBitVec=0#8:=by
  have:=A8 (λz=>y.toBitVec ^^^ z) q2;simp only[BitVec.xor_self,<-BitVec.xor_assoc,BitVec.zero_xor]at this;exact this.symm
 exact UInt8.toBitVec_inj.1 q3
def TG(s:nG):IY s≠0:=by
 unfold IY;split
 .rename_i h;exact h
 decide
def NS.Safe.drop(h:n.Safe)(k:Nat):(n.drop k).Safe :=
 ⟨h.d,h.so,h.gr,h.dg,h.now,h.mtu,h.ct,h.got,λp hp=>h.bag p (by
  rcases Al.1 hp with x|x
  .exact BP x
  exact Bo x),h.up⟩
def NS.Safe.carry(h:n.Safe)(hI:n.Inv T)(s:Do):(n.carry s).1=true/\(n.carry s).2.Safe:=by
 unfold NS.carry;split
 .exact⟨rfl,h⟩
 rename_i hb;have hk:Db s.a n.bag.length<n.bag.length:=En _ _ (BM.2 hb);have l:n.bag.getD (Db s.a n.bag.length) (0,[])∈n.bag:=by simp[List.getD,hk]
 obtain⟨o,d⟩:=h.bag _ l;obtain⟨_,q3,q4⟩:=hI.bag _ l;generalize Db s.a n.bag.length=k at *;generalize n.bag.getD k (0,[])=f at *;unfold NS.carryK;split
 .have hx:(if Db s.b 2=0 then n.drop k else n).Safe/\(if Db s.b 2=0 then n.drop k else n).Inv T/\G5 ((if Db s.b 2=0 then n.drop k else n).c (1-f.1)) ((if Db s.b 2=0 then n.drop k else n).c f.1).next ((if Db s.b 2=0 then n.drop k else n).g (1-f.1)) f.2:=by
   split
   .exact⟨h.drop k,hI.drop k,d⟩
   exact⟨h,hI,d⟩
  generalize (if Db s.b 2=0 then n.drop k else n)=m at *;obtain⟨e,i,j⟩:=hx.1.recv hx.2.1 o I hx.2.2;exact⟨by rw[e,i];rfl,j⟩
 split
 .exact⟨rfl,h.drop k⟩
 split
 .obtain⟨e,i,j⟩:=h.spoilt o (Ut d.sealed (En s.b _ q3) (TG s.s));exact⟨by rw[e,i];rfl,j⟩
 exact⟨rfl,h⟩
def Jd(c:CS):FG c.ticked c.tick:=Tl c.ticked
variable{G:List SN}
def Ti(h:Dw c G):Dw c.tick G:=by
 have h1:Dw c.ticked G:=⟨h.w,h.kf,h.sp,λf hf=>by
  obtain⟨a,b⟩:=BI.1 (show f∈c.waits.filter (λf => !decide (f.dl<c.now+1))from hf);obtain⟨x,_,z⟩:=h.wt f a;refine⟨x,?_,z⟩;show c.now+1<=f.dl;simp only[Bm,Ai,Nat.not_lt]at b;exact b⟩
 exact h1.fl (Jd c)
def Ye(h:Dw c G):EY c c.tick:=by
 have f:=Jd c;exact⟨λk hk=>F8.of_same (f.ws k) (h.w k hk).hl,Ay f.grant.symm,λk hk=>by
  obtain⟨a,e⟩:=f.rs k hk;rw[e];exact AF _⟩
def Yd{a b:CS}{E:Nat->EN}(h:Fc a b E):Fc a.tick b.tick E:=by
 have h1:Fc a.ticked b.ticked E:=⟨h.k,h.cr⟩;exact(h1.flW (Jd a)).flR (Jd b)
def Mw(n:NS)(hi:i<2):n.tick.c i=(n.c i).tick:=by
 show zf (zf n.c 0 (n.c 0).tick) 1 (n.c 1).tick i=_;by_cases e:i=1
 .subst e;rw[ze]
 have:i=0:=I;subst this;rw[zd _ _ e,ze]
def NS.Safe.tick(h:n.Safe):n.tick.Safe:=by
 have hc:=λi (hi:i<2)=>Mw n hi
 have f:=λi=>Jd (n.c i)
 refine⟨λi hi=>?_,λi hi=>?_,λi hi=>?_,λi hi=>?_,λi hi=>?_,λi hi=>?_,λi hi=>?_,λi hi=>?_,λp e=>?_,λi hi=>?_⟩
 .rw[hc i hi,hc (1-i) I];exact Yd (h.d i hi)
 .rw[hc i hi];exact Ti (h.so i hi)
 .rw[hc i hi];have g:=h.gr i hi;have h1:II (n.c i).ticked (n.g (1-i)):=⟨g.ok.nd,g.ok.se,λp e=>(by rw[show(n.c i).ticked.came=(n.c i).came from rfl,g.cm]at e;cases e),g.ok.cn,g.ok.kn⟩;exact⟨h1.same (f i).seen (f i).now,by rw[(f i).seen.2.2];exact g.cm,by rw[(f i).seen.1,(f i).seen.2.1];exact g.sm⟩
 .rw[hc i hi];have q:=h.dg i hi;refine⟨by rw[(f i).ids.1,(f i).ids.2];exact q.id,q.gi,?_⟩;rw[(f i).waits];exact AJ (Co _ _) q.wl
 .rw[hc i hi,(f i).now];show(n.c i).now+1=n.now+1;rw[h.now i hi]
 .rw[hc i hi,(f i).cfg.1];exact h.mtu i hi
 .rw[hc i hi,(f i).next];exact h.ct i hi
 .rw[hc i hi,hc (1-i) I,(f i).got,(f (1-i)).next];exact h.got i hi
 .obtain⟨a,b⟩:=h.bag p e;refine⟨a,?_⟩;rw[hc p.1 a,hc (1-p.1) I];have s:=h.so (1-p.1) I;exact b.mono (Ye s) (λk hk=>(s.w k hk).hl) (Ay (f _).next.symm) (Ay (f _).next.symm) (Hv.refl _)
 rw[hc i hi,(f i).closed];exact h.up i hi
def P0(c:Int):Db c 8<8:=En c 8 I
def NS.Safe.step34(h:n.Safe)(hI:n.Inv T)(hT:T+401<=Dg)(s:Do)(h3:s.kind≠3)(h4:s.kind≠4):(n.step s).1=true/\(n.step s).2.Safe:=by
 unfold NS.step;rw[AI h3,AI h4];split
 .exact h.send (Gw _) (P0 _) _
 split
 .exact h.finish (Gw _) (P0 _)
 split
 .exact h.tick.carry (hI.tick) s
 split
 .exact h.flush hI I (Gw _)
 split
 .exact h.read (Gw _) (P0 _) _
 exact h.carry hI s
def NS.Safe.new{mtu window total:Nat}(h:64<=mtu/\mtu<=400):(NS.new mtu window total).Safe:=by
 have l:EL ⟨[],0,4097⟩ 0:=⟨It _ I,rfl,λj hj=>absurd hj (A5 j),by show 1025<=4097;omega⟩;have c:∀k,Dr ((CS.new mtu window total).ws k) ((CS.new mtu window total).rs k) EN.zero:=λk =>
  ⟨AF _,AM _,AM _,AF _,λ_=>AF _,AF _,rfl,AF _,l,λp ⟨i,hi,_⟩=>absurd hi (A5 i),λe=>(by cases e),λe=>(by cases e),λe=>(by cases e),AM _,λe=>(by cases e),λe=>(by cases e),rfl,rfl,rfl,λe=>(by cases e),rfl,rfl⟩
 exact⟨λi _=>⟨λk _=>c k,AF _⟩,λi _=>⟨λk _=>(c k).wput,λ_ _=>AF _,AM _,λf hf=>(by cases hf)⟩,
  λi _=>⟨⟨DK,λs b=>(by cases b),λp a=>(by cases a),DK,λp a=>(by cases a)⟩,rfl,λ_=>rfl⟩,
  λi _=>⟨λe=>(by cases e),λs b=>(by cases b),AF _⟩,λ_ _=>rfl,λ_ _=>rfl,λ_ _=>rfl,λ_ _ r hr=>(by cases hr),λp a=>(by cases a),λ_ _=>rfl⟩
def Us(wo:List Int)(l:List Do):Prop:=∀s∈l,wo.contains s.kind=false->∀(T:Nat) (n:NS),n.Safe->n.Inv T->T+401<=Dg->(n.step s).1=true/\(n.step s).2.Safe
variable{hi lo p:Nat}{s:Dl}
def Xc(h:s.Ok)(a:Dk (s.add lo hi).rs p):Dk s.rs p\/(lo<=p/\p<=hi):=by
 unfold Dl.add at a;split at a
 .exact .inl a
 have b:=UD h.wf (I:max lo s.fl<=hi) (zT (D0 s.rs (max lo s.fl)) s.rs.length) (zT (EF s.rs hi) s.rs.length) p;have q:∀{X:zC},Dk (X.drop 1) p->Dk X p:=λh=>by
  obtain⟨r,hr,x⟩:=GW.1 h;exact GW.2 ⟨r,Bo hr,x⟩
 have:Dk (EI s.rs (max lo s.fl) hi (zW (D0 s.rs (max lo s.fl)) s.rs.length) (zW (EF s.rs hi) s.rs.length)) p:=by
  split at a
  .exact q a
  exact a
 rcases b.1 this with x|x
 .exact .inl x
 exact .inr I
variable{H:Nat}
def EL.ins(h:EL s H)(hH:H<=2048)(hh:lo<=hi->hi<H):EL (s.add lo hi) H/\∀n,Dk (s.add lo hi).rs n↔Dk s.rs n\/(lo<=n/\n<=hi):=by
 by_cases q:lo<=hi
 .exact h.add hH q (hh q)
 have e:s.add lo hi=s:=by
  unfold Dl.add;rw[AQ I]
 rw[e];exact⟨h,λn=>⟨.inl,λx=>x.elim id (λy=>I)⟩⟩
def EL.mem(h:EL s H){r:Nat×Nat}(hr:r∈s.rs):r.2<H:=by
 obtain⟨j,hj,_,e⟩:=I5 hr;have:=h.hi j hj;omega
theorem EL.adds(e:H<=2048):∀(l:zC) {t:Dl},EL t H->(∀r∈l,r.2<H)->EL (t.adds l) H/\∀p,Dk (t.adds l).rs p↔Dk t.rs p\/∃r∈l,r.1<=p/\p<=r.2
 | [],t,h,_=>⟨h,λp=>⟨.inl,λx=>x.elim id (λ⟨_,q,_⟩=>by cases q)⟩⟩
 | r::l,t,h,hl=>by
  obtain⟨a,b⟩:=h.ins e (lo:=r.1) (hi:=r.2) (λ_=>hl r AO);obtain⟨c,d⟩:=EL.adds e l a (λq hq=>hl q (AW _ hq));refine⟨c,λp=>(d p).trans ?_⟩;rw[b p];simp only[Av,exists_eq_or_imp];exact or_assoc
theorem EL.without(g:H<=2048)(lo hi:Nat):∀(l:zC) {t:Dl},EL t H->(∀r∈l,r.2<H)->EL (Ho l lo hi t) H/\∀p,Dk (Ho l lo hi t).rs p↔Dk t.rs p\/∃r∈l,(r.1<=p/\p<=r.2)/\(p<lo\/hi<=p)
 | [],t,h,_=>⟨h,λp=>⟨.inl,λx=>x.elim id (λ⟨_,q,_⟩=>by cases q)⟩⟩
 | r::l,t,h,hl=>by
  have hr:=hl r AO;obtain⟨t1,e1,i,i1⟩:∃t1,t1=(if r.1<lo then t.add r.1 (min r.2 (lo-1))else t)/\EL t1 H/\∀p,Dk t1.rs p↔Dk t.rs p\/(r.1<=p/\p<=r.2/\p<lo):=by
   refine⟨_,rfl,?_⟩;split
   .obtain⟨a,b⟩:=h.ins g (lo:=r.1) (hi:=min r.2 (lo-1)) I;exact⟨a,λp=>(b p).trans (or_congr_right I)⟩
   exact⟨h,λp=>⟨.inl,λx=>x.elim id (λy=>I)⟩⟩
  obtain⟨f,e2,l2,i2⟩:∃f,f=(if hi<=r.2 then t1.add (max r.1 hi) r.2 else t1)/\EL f H/\∀p,Dk f.rs p↔Dk t1.rs p\/(r.1<=p/\p<=r.2/\hi<=p):=by
   refine⟨_,rfl,?_⟩;split
   .obtain⟨a,b⟩:=i.ins g (lo:=max r.1 hi) (hi:=r.2) (λ_=>hr);exact⟨a,λp=>(b p).trans (or_congr_right I)⟩
   exact⟨i,λp=>⟨.inl,λx=>x.elim id (λy=>I)⟩⟩
  obtain⟨c,d⟩:=EL.without g lo hi l l2 (λq hq=>hl q (AW _ hq));have e:Ho (r::l) lo hi t=Ho l lo hi f:=by rw[e2,e1];rfl
  rw[e];refine⟨c,λp=>(d p).trans ?_⟩;rw[i2 p,i1 p];simp only[Av,exists_eq_or_imp];constructor
  .rintro(((a|a)|a)|a)
   .exact .inl a
   .exact .inr (.inl I)
   .exact .inr (.inl I)
   exact .inr (.inr a)
  rintro(a|⟨a,b⟩|a)
  .exact .inl (.inl (.inl a))
  .rcases b with b|b
   .exact .inl (.inl (.inr I))
   exact .inl (.inr I)
  exact .inr a
theorem Oc:∀(rs:zC) (lo hi:Nat),lo<=(Dj rs lo hi).1
 | [],lo,hi=>AF _
 | r::l,lo,hi=>by
  unfold Dj;split
  .exact Oc l lo hi
  split
  .exact AF _
  have:=Oc l (r.2+1) hi;omega
def Xb{r:Nat×Nat}{l:zC}(h:WF (r::l)):WF l/\∀q∈l,r.2+1<q.1:=by
 refine⟨TX h 1,λq hq=>?_⟩;obtain⟨j,hj,e,_⟩:=I5 hq;have:=h.2 0 (j+1) I (nF hj);rw[<-e];exact this
theorem PC:∀(rs:zC) (lo hi p:Nat),WF rs->(Dj rs lo hi).1<=p->p<(Dj rs lo hi).2->¬ ∃r∈rs,r.1<=p/\p<=r.2
 | [],lo,hi,p,_,_,_,⟨_,h,_⟩=>by cases h
 | r::l,lo,hi,p,h,h1,h2,⟨q,hq,h3,h4⟩=>by
  obtain⟨w,s⟩:=Xb h;unfold Dj at h1 h2;have no:∀lo',(Dj l lo' hi).1<=p->p<(Dj l lo' hi).2->q∈l->False:=λlo' a b c=>PC l lo' hi p w a b ⟨q,c,h3,h4⟩
  split at h1
  .rename_i c;rw[AQ c]at h2;rcases Av.1 hq with e|e
   .subst e;have:=Oc l lo hi;omega
   exact no _ h1 h2 e
  rename_i c;rw[AI c]at h2;split at h1
  .rename_i c2;rw[AQ c2]at h2;have h2:p<min hi r.1:=h2;rcases Av.1 hq with e|e
   .subst e;omega
   have:=s q e;have:=(h.1 0 mv).1;have:r.1<=r.2:=this;omega
  rename_i c2;rw[AI c2]at h2;rcases Av.1 hq with e|e
  .subst e;have:=Oc l (q.2+1) hi;omega
  exact no _ h1 h2 e
theorem QW:∀(rs:zC) (lo hi:Nat),(Dj rs lo hi).2<=(Dj rs lo hi).1->hi<=(Dj rs lo hi).1
 | [],lo,hi,h=>h
 | r::l,lo,hi,h=>by
  unfold Dj at h ⊢;split
  .rename_i c;rw[AQ c]at h;exact QW l lo hi h
  rename_i c;rw[AI c]at h;split
  .rename_i c2;rw[AQ c2]at h;have h:min hi r.1<=lo:=h;show hi<=lo;omega
  rename_i c2;rw[AI c2]at h;exact QW l (r.2+1) hi h
def has(rs:zC)(p:Nat):Bool:=rs.any λr=>decide (r.1<=p)&&decide (p<=r.2)
variable{rs:zC}
def MK:has rs p=true↔Dk rs p:=by
 rw[GW];simp[has]
def cnt(rs:zC):Nat:=(List.range 2048).countP (has rs)
def Yc{a b:zC}(h:∀p,Dk a p->Dk b p):cnt a<=cnt b :=
 List.countP_mono_left λp _ hp=>MK.2 (h p (MK.1 hp))
theorem Vf{p q:Nat->Bool}(hl:lo<=hi)(h:∀n,q n=(p n||(decide (lo<=n)&&decide (n<hi))))(d:∀n,lo<=n->n<hi->p n=false):∀N,(List.range N).countP q=(List.range N).countP p+(min hi N-min lo N)
 | 0=>mv
 | N+1=>by
  have ih:=Vf hl h d N;rw[Bp,List.countP_append,List.countP_append,ih,List.countP_singleton,List.countP_singleton,h N];by_cases x:lo<=N/\N<hi
  .rw[d N x.1 x.2,Ax x.1,Ax x.2];simp;omega
  have:(decide (lo<=N)&&decide (N<hi))=false:=nF x;rw[this,Bool.or_false];omega
def Xa{a b:zC}(hl:lo<=hi)(hh:hi<=2048)(h:∀p,Dk b p↔Dk a p\/(lo<=p/\p<hi))(d:∀p,lo<=p->p<hi->¬Dk a p):cnt b=cnt a+(hi-lo):=by
 have:=Vf (p:=has a) (q:=has b) hl (λn=>by
  rw[Cz,MK,h n];simp[MK]) (λn x y=>by
  have:=d n x y;rw[<-MK]at this;simpa using this) 2048
 unfold cnt;omega
theorem Ve{p:Nat->Bool}(h:∀n,p n=true->n<H):∀N,(List.range N).countP p<=min N H
 | 0=>mv
 | N+1=>by
  have ih:=Ve h N;rw[Bp,List.countP_append,List.countP_singleton];split
  .have:=h N (by assumption);omega
  omega
def Lh{a:zC}(h:∀p,Dk a p->p<H):cnt a<=H:=by
 have:=Ve (p:=has a) (λn x=>h n (MK.1 x)) 2048;unfold cnt;omega
inductive Cl where
 | byte (k p:Nat)
 | fin (k:Nat)
 | tell (k n:Nat)
 | lim (k n:Nat)
 | all (n:Nat)
def Cl.Ok:Cl->Prop
 | .byte k _=>k<8
 | .fin k=>k<8
 | .tell k _=>k<8
 | .lim k _=>k<8
 | .all _=>True
def Cl.Of(s:Nat):Cl->Prop
 | .byte k _=>k=s
 | .fin k=>k=s
 | .tell k _=>k=s
 | _=>False
def CS.Asks(c:CS):Cl->Prop
 | .byte k p=>Dk (c.ws k).sent.rs p
 | .fin k=>(c.ws k).ending=true
 | .tell k n=>(c.ws k).cut=true/\(c.ws k).telling=true/\(c.ws k).keep=n
 | .lim k n=>(c.rs k).anew=false/\(c.rs k).grant=n
 | .all n=>c.anew=false/\c.grant=n
def G4(f:Da):Cl->Prop
 | .byte k p=>f.kind=4/\f.stream=(k:Int)/\f.off<=p/\p<f.off+f.data.length
 | .fin k=>f.kind=4/\f.stream=(k:Int)/\f.fin=true
 | .tell k n=>f.kind=3/\f.stream=(k:Int)/\f.rel=n
 | .lim k n=>f.kind=6/\f.stream=(k:Int)/\f.lim=n
 | .all n=>f.kind=5/\f.lim=n
def CS.Has(b:CS):Cl->Prop
 | .byte k p=>Dk (b.rs k).came.rs p
 | .fin k=>(b.rs k).ended=true
 | .tell k n=>(b.rs k).cut=true/\(b.rs k).ended=true/\(b.rs k).keep<=n
 | .lim k n=>n<=(b.ws k).credit
 | .all n=>n<=b.credit
def Fe(b:CS)(f:Da):Prop:=∀cl,cl.Ok->G4 f cl->b.Has cl
structure EV(x:WS):Prop where
 sent:EL x.sent x.high
 came:EL x.came x.high
 hl:x.high<=x.b.length
 bl:x.b.length<=2048
 fn:x.final<=x.b.length
def EV.top(h:EV x):x.high<=2048:=AJ h.hl h.bl
def EV.again(h:EV x)(f:Da):EV (x.again f)/\∀p,Dk (x.again f).sent.rs p↔(Dk x.sent.rs p/\(p<f.off\/f.off+f.data.length<=p))\/Dk x.came.rs p:=by
 obtain⟨a,b⟩:=EL.without h.top f.off (f.off+f.data.length) x.sent.rs (t:=⟨[],0,x.sent.most⟩) ⟨It _ h.sent.ok.most,rfl,λj hj=>absurd hj (A5 j),h.sent.most⟩ (λr e=>h.sent.mem e);obtain⟨c,d⟩:=EL.adds h.top x.came.rs.reverse a (λr e=>h.came.mem (List.mem_reverse.1 e));refine⟨⟨c,h.came,h.hl,h.bl,h.fn⟩,λp=>(d p).trans ?_⟩;rw[b p,GW,GW,GW];simp only[Cf,false_and,exists_false,false_or,List.mem_reverse];refine or_congr_left ⟨?_,?_⟩
 .rintro⟨r,e,x,y⟩;exact⟨⟨r,e,x⟩,y⟩
 rintro⟨⟨r,e,x⟩,y⟩;exact⟨r,e,x,y⟩
def EV.acked(h:EV x)(hf:f.off+f.data.length<=x.high)(hd:f.data≠[]):EV (x.acked f)/\(∀p,Dk (x.acked f).sent.rs p↔Dk x.sent.rs p\/(f.off<=p/\p<f.off+f.data.length))/\∀p,Dk (x.acked f).came.rs p↔Dk x.came.rs p\/(f.off<=p/\p<f.off+f.data.length):=by
 have hp:=BM.2 hd;obtain⟨a,b⟩:=h.sent.ins h.top (lo:=f.off) (hi:=f.off+f.data.length-1) I;obtain⟨c,d⟩:=h.came.ins h.top (lo:=f.off) (hi:=f.off+f.data.length-1) I;exact⟨⟨a,c,h.hl,h.bl,h.fn⟩,λp=>(b p).trans (or_congr_right I),λp=>(d p).trans (or_congr_right I)⟩
structure Ed(x y:WS):Prop where
 b:y.b=x.b
 fin:y.finished=x.finished
 cut:y.cut=x.cut
 keep:y.keep=x.keep
 final:y.final=x.final
 high:x.high<=y.high
 credit:x.credit<=y.credit
def Ed.refl(x:WS):Ed x x:=⟨rfl,rfl,rfl,rfl,rfl,AF _,AF _⟩
def Ed.trans{z:WS}(h:Ed x y)(k:Ed y z):Ed x z:=⟨k.b.trans h.b,k.fin.trans h.fin,k.cut.trans h.cut,k.keep.trans h.keep,k.final.trans h.final,AJ h.high k.high,AJ h.credit k.credit⟩
structure Di(c b:CS)(R:Cl->Prop):Prop where
 low:∀k,k<8->EV (c.ws k)
 came:∀k,k<8->∀p,Dk (c.ws k).came.rs p->b.Has (.byte k p)
 asks:∀cl,cl.Ok->c.Asks cl->b.Has cl\/R cl
variable{R:Cl->Prop}
def Di.mono{b a:CS}{R':Cl->Prop}(h:Di c b R)(hb:∀cl,cl.Ok->b.Has cl->a.Has cl)(hR:∀cl,cl.Ok->R cl->a.Has cl\/R' cl):Di c a R' :=
 ⟨h.low,λk hk p hp=>hb _ hk (h.came k hk p hp),λcl hc ha=>(h.asks cl hc ha).elim (λx=>.inl (hb cl hc x)) (hR cl hc)⟩
structure Eg(c c':CS):Prop where
 low:∀k,k<8->EV (c.ws k)->EV (c'.ws k)
 came:∀k,k<8->(c'.ws k).came=(c.ws k).came
 asks:∀cl,cl.Ok->c'.Asks cl->c.Asks cl
def Di.ask{b:CS}(h:Di c b R)(a:Eg c c'):Di c' b R :=
 ⟨λk hk=>a.low k hk (h.low k hk),λk hk p hp=>h.came k hk p (by rw[<-a.came k hk];exact hp),λcl hc ha=>h.asks cl hc (a.asks cl hc ha)⟩
def Eg.refl(c:CS):Eg c c:=⟨λ_ _=>id,λ_ _=>rfl,λ_ _=>id⟩
def Eg.of(a:c'.ws=c.ws)(hr:c'.rs=c.rs)(ha:c'.anew=c.anew)(hg:c'.grant=c.grant):Eg c c' :=
 ⟨λk _ h=>by rw[a];exact h,λk _=>by rw[a],λcl _ h=>by cases cl<;>simp only[CS.Asks,a,hr,ha,hg]at h ⊢ <;> exact h⟩
end
section
open Go.RowKit
variable{c:CS}
theorem Eg.r(s:Nat){y:RS}(e1:y.anew=(c.rs s).anew)(e2:y.grant=(c.rs s).grant):Eg c { c with rs:=zf c.rs s y } :=
 ⟨λ_ _=>id,λ_ _=>rfl,λcl o q=>by
  cases cl with
  | lim k n =>
   have q:(zf c.rs s y k).anew=false/\(zf c.rs s y k).grant=n:=q;by_cases x:k=s
   .subst x;rw[ze,e1,e2]at q;exact q
   rw[zd _ _ x]at q;exact q
  | byte k p=>exact q
  | fin k=>exact q
  | tell k n=>exact q
  | all n=>exact q⟩
variable{y:WS}
theorem Eg.w(s:Nat)(hl:EV (c.ws s)->EV y)(hc:y.came=(c.ws s).came)(hs:y.sent=(c.ws s).sent)(he:y.ending=(c.ws s).ending)(ht:y.cut=true->y.telling=true->(c.ws s).cut=true/\(c.ws s).telling=true/\(c.ws s).keep=y.keep):Eg c { c with ws:=zf c.ws s y }:=by
 refine⟨λk _ h=>?_,λk _=>?_,λcl o q=>?_⟩
 .show EV (zf c.ws s y k);by_cases x:k=s
  .subst x;rw[ze];exact hl h
  rw[zd _ _ x];exact h
 .show(zf c.ws s y k).came=_;by_cases x:k=s
  .subst x;rw[ze];exact hc
  rw[zd _ _ x]
 cases cl with
 | byte k p =>
  have q:Dk (zf c.ws s y k).sent.rs p:=q;by_cases x:k=s
  .subst x;rw[ze,hs]at q;exact q
  rw[zd _ _ x]at q;exact q
 | fin k =>
  have q:(zf c.ws s y k).ending=true:=q;by_cases x:k=s
  .subst x;rw[ze,he]at q;exact q
  rw[zd _ _ x]at q;exact q
 | tell k n =>
  have q:(zf c.ws s y k).cut=true/\(zf c.ws s y k).telling=true/\(zf c.ws s y k).keep=n:=q;by_cases x:k=s
  .subst x;rw[ze]at q;obtain⟨a,b,d⟩:=ht q.1 q.2.1;exact⟨a,b,d.trans q.2.2⟩
  rw[zd _ _ x]at q;exact q
 | lim k n=>exact q
 | all n=>exact q
variable{R:Cl->Prop}
theorem Di.w{b:CS}{R':Cl->Prop}(h:Di c b R)(s:Nat)(hl:s<8->EV y)(hc:s<8->∀p,Dk y.came.rs p->b.Has (.byte s p))
  (f:s<8->∀cl,(cl.Ok/\∃p,(cl=.byte s p/\Dk y.sent.rs p)\/(cl=.fin s/\y.ending=true)\/(cl=.tell s p/\y.cut=true/\y.telling=true/\y.keep=p))->b.Has cl\/R' cl)
  (d:∀cl,cl.Ok->¬cl.Of s->R cl->R' cl):Di { c with ws:=zf c.ws s y } b R':=by
 refine⟨λk hk=>?_,λk hk p a=>?_,λcl hk ask=>?_⟩
 .show EV (zf c.ws s y k);by_cases e:k=s
  .subst e;rw[ze];exact hl hk
  rw[zd _ _ e];exact h.low k hk
 .have a:Dk (zf c.ws s y k).came.rs p:=a;by_cases e:k=s
  .subst e;rw[ze]at a;exact hc hk p a
  rw[zd _ _ e]at a;exact h.came k hk p a
 cases cl with
 | byte k p =>
  have q:Dk (zf c.ws s y k).sent.rs p:=ask;by_cases e:k=s
  .subst e;rw[ze]at q;exact f hk _ ⟨hk,p,.inl ⟨rfl,q⟩⟩
  rw[zd _ _ e]at q;exact(h.asks (.byte k p) hk q).imp_right (d _ hk e)
 | fin k =>
  have q:(zf c.ws s y k).ending=true:=ask;by_cases e:k=s
  .subst e;rw[ze]at q;exact f hk _ ⟨hk,0,.inr (.inl ⟨rfl,q⟩)⟩
  rw[zd _ _ e]at q;exact(h.asks (.fin k) hk q).imp_right (d _ hk e)
 | tell k n =>
  have q:(zf c.ws s y k).cut=true/\(zf c.ws s y k).telling=true/\(zf c.ws s y k).keep=n:=ask;by_cases e:k=s
  .subst e;rw[ze]at q;exact f hk _ ⟨hk,n,.inr (.inr ⟨rfl,q⟩)⟩
  rw[zd _ _ e]at q;exact(h.asks (.tell k n) hk q).imp_right (d _ hk e)
 | lim k n=>exact(h.asks (.lim k n) hk ask).imp_right (d _ hk id)
 | all n=>exact(h.asks (.all n) hk ask).imp_right (d _ hk id)
variable{f:Da}
theorem Di.again{b:CS}(h:Di c b R)(hf:FS f):Di (c.again f) b (λcl=>R cl/\¬G4 f cl):=by
 obtain⟨⟨s,hs,es⟩,_⟩:=hf;have m:∀{cl:Cl},¬cl.Of s->f.kind=4\/f.kind=3->¬G4 f cl:=by
  rintro cl q hk a;cases cl with
  | byte k p=>have:=a.2.1;exact q (I:k=s)
  | fin k=>have:=a.2.1;exact q (I:k=s)
  | tell k n=>have:=a.2.1;exact q (I:k=s)
  | lim k n=>have:=a.1;omega
  | all n=>have:=a.1;omega
 unfold CS.again;rw[es,Ae];split
 .rename_i e;obtain⟨a1,a2⟩:=(h.low s hs).again f;refine h.w s (λ_=>a1) (λhk p l=>h.came s hk p l) (λhk cl=>?_) (λcl _ q r=>⟨r,m q (.inl e)⟩);rintro⟨i,p,⟨rfl,q⟩|⟨rfl,q⟩|⟨rfl,q⟩⟩
  .rcases(a2 p).1 q with⟨g,d⟩|g
   .exact(h.asks (.byte s p) hk g).imp_right λr=>⟨r,λa=>nC a.2.2⟩
   exact .inl (h.came s hk p g)
  .have q:((c.ws s).ending && !f.fin)=true:=q;simp only[AZ,Bm]at q;exact(h.asks (.fin s) hk q.1).imp_right λr=>⟨r,λa=>by have:=a.2.2;rw[q.2]at this;cases this⟩
  exact(h.asks (.tell s p) hk q).imp_right λr=>⟨r,λa=>nC a.1⟩
 rename_i n4;split
 .rename_i e;refine h.w s (λhk=>⟨(h.low s hk).sent,(h.low s hk).came,(h.low s hk).hl,(h.low s hk).bl,(h.low s hk).fn⟩) (λhk p l=>h.came s hk p l) (λhk cl=>?_) (λcl _ q r=>⟨r,m q (.inr e)⟩);rintro⟨i,p,⟨rfl,q⟩|⟨rfl,q⟩|⟨rfl,g,d,j⟩⟩
  .exact(h.asks (.byte s p) hk q).imp_right λr=>⟨r,λa=>nC a.1⟩
  .exact(h.asks (.fin s) hk q).imp_right λr=>⟨r,λa=>nC a.1⟩
  have d:((c.ws s).telling && !(f.rel==(c.ws s).keep))=true:=d;have j:(c.ws s).keep=p:=j;simp only[AZ,Bm,AS]at d;exact(h.asks (.tell s p) hk ⟨g,d.1,j⟩).imp_right λr=>⟨r,λa=>d.2 (by rw[j];exact a.2.2)⟩
 rename_i n3;split
 .rename_i e;refine⟨h.low,h.came,λcl i ask=>?_⟩;cases cl with
  | byte k p=>exact(h.asks (.byte k p) i ask).imp_right λr=>⟨r,λa=>n4 a.1⟩
  | fin k=>exact(h.asks (.fin k) i ask).imp_right λr=>⟨r,λa=>n4 a.1⟩
  | tell k n=>exact(h.asks (.tell k n) i ask).imp_right λr=>⟨r,λa=>n3 a.1⟩
  | lim k n=>exact(h.asks (.lim k n) i ask).imp_right λr=>⟨r,λa=>nC a.1⟩
  | all n =>
   obtain⟨g,d⟩:=ask;have g:(c.anew||f.lim==c.grant)=false:=g;have d:c.grant=n:=d;simp only[BU,AS]at g;exact(h.asks (.all n) i ⟨g.1,d⟩).imp_right λr=>⟨r,λa=>g.2 (by rw[d];exact a.2)⟩
 rename_i n5;split
 .rename_i e;refine⟨h.low,h.came,λcl i ask=>?_⟩;cases cl with
  | byte k p=>exact(h.asks (.byte k p) i ask).imp_right λr=>⟨r,λa=>n4 a.1⟩
  | fin k=>exact(h.asks (.fin k) i ask).imp_right λr=>⟨r,λa=>n4 a.1⟩
  | tell k n=>exact(h.asks (.tell k n) i ask).imp_right λr=>⟨r,λa=>n3 a.1⟩
  | lim k n =>
   obtain⟨g,d⟩:=ask;by_cases x:k=s
   .subst x;have g:(zf c.rs k { c.rs k with anew:=(c.rs k).anew||f.lim==(c.rs k).grant } k).anew=false:=g;have d:(zf c.rs k { c.rs k with anew:=(c.rs k).anew||f.lim==(c.rs k).grant } k).grant=n:=d;rw[ze]at g d;simp only[BU,AS]at g;have d:(c.rs k).grant=n:=d;exact(h.asks (.lim k n) i ⟨g.1,d⟩).imp_right λr=>⟨r,λa=>g.2 (by rw[d];exact a.2.2)⟩
   have g:(zf c.rs s { c.rs s with anew:=(c.rs s).anew||f.lim==(c.rs s).grant } k).anew=false:=g;have d:(zf c.rs s { c.rs s with anew:=(c.rs s).anew||f.lim==(c.rs s).grant } k).grant=n:=d;rw[zd _ _ x]at g d;exact(h.asks (.lim k n) i ⟨g,d⟩).imp_right λr=>⟨r,λa=>x (nC a.2.1)⟩
  | all n=>exact(h.asks (.all n) i ask).imp_right λr=>⟨r,λa=>n5 a.1⟩
 rename_i n6;refine h.mono (λ_ _=>id) (λcl _ r=>.inr ⟨r,λa=>?_⟩);cases cl with
 | byte k p=>exact n4 a.1
 | fin k=>exact n4 a.1
 | tell k n=>exact n3 a.1
 | lim k n=>exact n6 a.1
 | all n=>exact n5 a.1
theorem Di.agains{b:CS}:∀(fs:List Da) {c:CS} {R:Cl->Prop},Di c b R->(∀f∈fs,FS f)->Di (c.agains fs) b (λcl=>R cl/\∀f∈fs,¬G4 f cl)
 | [],c,R,h,_=>h.mono (λ_ _=>id) (λcl _ r=>.inr ⟨r,λf hf=>by cases hf⟩)
 | f::fs,c,R,h,hf=>(Di.agains fs (h.again (hf f AO)) (λg hg=>hf g (AW _ hg))).mono (λ_ _=>id) λcl _ r=>.inr ⟨r.1.1,λg hg=>by
   rcases Av.1 hg with e|e
   .rw[e];exact r.1.2
   exact r.2 g e⟩
theorem Di.loses{b:CS}:∀(l:List Dc) {c:CS} {R:Cl->Prop},Di c b R->(∀p∈l,∀f∈p.fs,FS f)->Di (c.loses l) b (λcl=>R cl/\∀p∈l,c.late p=true->∀f∈p.fs,¬G4 f cl)
 | [],c,R,h,_=>h.mono (λ_ _=>id) (λcl _ r=>.inr ⟨r,λf hf=>by cases hf⟩)
 | p::l,c,R,h,hf=>by
  have s:Di (c.lose1 p) b (λcl=>R cl/\(c.late p=true->∀f∈p.fs,¬G4 f cl)):=by
   unfold CS.lose1;split
   .exact(h.agains p.fs (hf p AO)).mono (λ_ _=>id) λcl _ r=>.inr ⟨r.1,λ_=>r.2⟩
   rename_i n;exact h.mono (λ_ _=>id) λcl _ r=>.inr ⟨r,λx=>absurd x n⟩
  refine(Di.loses l s (λq a=>hf q (AW _ a))).mono (λ_ _=>id) λcl _ r=>.inr ⟨r.1.1,λq a hl=>?_⟩
  rcases Av.1 a with e|e
  .subst e;exact r.1.2 hl
  exact r.2 q e (by rw[Vb];exact hl)
def CS.Under(c:CS)(cl:Cl):Prop:=∃q∈c.flight,∃f∈q.fs,G4 f cl
theorem Di.lose{b:CS}(h:Di c b c.Under)(hf:∀p∈c.flight,∀f∈p.fs,FS f):Di c.lose b c.lose.Under:=by
 have e:=Hs c;rw[e];have s:=h.loses c.flight hf;have s2:Di ((c.loses c.flight).fly (c.flight.filter λp => !c.late p)) b (λcl=>c.Under cl/\∀p∈c.flight,c.late p=true->∀f∈p.fs,¬G4 f cl):=⟨s.low,s.came,s.asks⟩;refine s2.mono (λ_ _=>id) ?_;rintro cl _ ⟨⟨q,a,f,hf,d⟩,no⟩;exact .inr ⟨q,BI.2 ⟨a,by
  cases hl:c.late q with
  | false=>rfl
  | true=>exact absurd d (no q a hl f hf)⟩,f,hf,d⟩
def Iy(c b:CS):Prop:=∀k,k<8->∀p,b.Has (.byte k p)->p<(c.ws k).high
structure D6(c c':CS):Prop where
 w:∀k,k<8->(∀p,Dk (c.ws k).sent.rs p->Dk (c'.ws k).sent.rs p)/\(c'.ws k).ending=(c.ws k).ending/\(c'.ws k).telling=(c.ws k).telling
 r:∀k,k<8->(c'.rs k).anew=(c.rs k).anew/\(c'.rs k).grant=(c.rs k).grant
 g:c'.anew=c.anew/\c'.grant=c.grant
variable{c':CS}
def D6.of(h:c'.ws=c.ws)(hr:∀k,k<8->(c'.rs k).anew=(c.rs k).anew/\(c'.rs k).grant=(c.rs k).grant:=by exact λ_ _=>⟨rfl,rfl⟩)(hg:c'.anew=c.anew/\c'.grant=c.grant:=by exact⟨rfl,rfl⟩):D6 c c':=⟨λk _=>by rw[h];exact⟨λ_=>id,rfl,rfl⟩,hr,hg⟩
def D6.trans{a b:CS}(h:D6 a b)(q:D6 b c):D6 a c:=⟨λk hk=>⟨λp x=>(q.w k hk).1 p ((h.w k hk).1 p x),(q.w k hk).2.1.trans (h.w k hk).2.1,(q.w k hk).2.2.trans (h.w k hk).2.2⟩,λk hk=>⟨(q.r k hk).1.trans (h.r k hk).1,(q.r k hk).2.trans (h.r k hk).2⟩,q.g.1.trans h.g.1,q.g.2.trans h.g.2⟩
def Di.ackF{b:CS}(h:Di c b R)(d:Iy c b)(hf:FS f)(hg:Fe b f):Di (c.ackF f) b R/\Iy (c.ackF f) b/\D6 c (c.ackF f):=by
 obtain⟨⟨s,i,es⟩,_⟩:=hf;unfold CS.ackF;split
 .rename_i e;obtain⟨e4,ed⟩:=e;rw[es,Ae];have a:=BM.2 ed;have g:∀p,f.off<=p->p<f.off+f.data.length->b.Has (.byte s p):=λp h1 h2=>hg (.byte s p) i ⟨e4,es,h1,h2⟩
  have top:=d s i _ (g (f.off+f.data.length-1) I I);obtain⟨a1,j,a3⟩:=(h.low s i).acked (f:=f) I ed;refine⟨h.w s (λ_=>a1) (λhk p a=>((a3 p).1 a).elim (h.came s hk p) (λx=>g p x.1 x.2)) (λhk cl=>?_) (λ_ _ _ r=>r),λk hk p a=>?_,⟨λk hk=>?_,λ_ _=>⟨rfl,rfl⟩,rfl,rfl⟩⟩
  .rintro⟨ho,p,⟨rfl,q⟩|⟨rfl,q⟩|⟨rfl,q⟩⟩
   .rcases(j p).1 q with x|x
    .exact h.asks (.byte s p) hk x
    exact .inl (g p x.1 x.2)
   .exact h.asks (.fin s) hk q
   exact h.asks (.tell s p) hk q
  .show p<(zf c.ws s ((c.ws s).acked f) k).high;have:=d k hk p a;by_cases e:k=s
   .subst e;rw[ze];exact this
   rw[zd _ _ e];exact this
  show(∀p,Dk (c.ws k).sent.rs p->Dk (zf c.ws s ((c.ws s).acked f) k).sent.rs p)/\(zf c.ws s ((c.ws s).acked f) k).ending=_/\(zf c.ws s ((c.ws s).acked f) k).telling=_;by_cases e:k=s
  .subst e;rw[ze];exact⟨λp x=>(j p).2 (.inl x),rfl,rfl⟩
  rw[zd _ _ e];exact⟨λ_=>id,rfl,rfl⟩
 exact⟨h,d,D6.of rfl⟩
theorem Di.ackFs{b:CS}:∀(fs:List Da) {c:CS},Di c b R->Iy c b->(∀f∈fs,FS f/\Fe b f)->Di (fs.foldl CS.ackF c) b R/\Iy (fs.foldl CS.ackF c) b/\D6 c (fs.foldl CS.ackF c)
 | [],c,h,ht,_=>⟨h,ht,D6.of rfl⟩
 | f::fs,c,h,ht,hf=>by
  obtain⟨a,t,m⟩:=h.ackF ht (hf f AO).1 (hf f AO).2;obtain⟨x,y,z⟩:=Di.ackFs fs a t (λg hg=>hf g (AW _ hg));exact⟨x,y,m.trans z⟩
theorem Di.ackPs{b:CS}(rs:zC):∀(l:List Dc) {c:CS},Di c b R->Iy c b->(∀p∈l,∀f∈p.fs,FS f/\(D2 rs p=true->Fe b f))->Di (c.ackPs rs l) b R/\D6 c (c.ackPs rs l)
 | [],c,h,_,_=>⟨h,D6.of rfl⟩
 | p::l,c,h,ht,hf=>by
  have s:Di (c.ackP rs p) b R/\Iy (c.ackP rs p) b/\D6 c (c.ackP rs p):=by
   unfold CS.ackP;split
   .rename_i hn;exact h.ackFs p.fs ht (λf a=>⟨(hf p AO f a).1,(hf p AO f a).2 hn⟩)
   exact⟨h,ht,D6.of rfl⟩
  obtain⟨x,y⟩:=Di.ackPs rs l s.1 s.2.1 (λq a=>hf q (AW _ a));exact⟨x,s.2.2.trans y⟩
theorem Rl:∀(l:List Dc) {c:CS},(∀p∈l,c.late p=false)->c.loses l=c
 | [],c,_=>rfl
 | p::l,c,h=>by
  have e:c.lose1 p=c:=by
   unfold CS.lose1;rw[h p AO];rfl
  show(c.lose1 p).loses l=c;rw[e];exact Rl l (λq hq=>h q (AW _ hq))
variable{rs:zC}
theorem Di.acked{b:CS}(h:Di c b c.Under)(ht:Iy c b)(hx:¬c.next<=DX rs 0)(hf:∀p∈c.flight,∀f∈p.fs,FS f)(j:∀p∈c.flight,D2 rs p=true->∀f∈p.fs,Fe b f):Di (c.acked rs).2 b (c.acked rs).2.Under/\((∀p∈c.flight,D2 rs p=false->c.now<p.at_+6/\max c.largest (DX rs 0)<p.n+3)->D6 c (c.acked rs).2):=by
 rw[PG c rs hx];have h0:Di ({ c with largest:=max c.largest (DX rs 0) }:CS) b c.Under:=⟨h.low,h.came,h.asks⟩;obtain⟨s,m⟩:=Di.ackPs rs c.flight h0 (show Iy _ b from ht) (λp d f i=>⟨hf p d f i,λx=>j p d x f i⟩);refine⟨Di.lose (c:=(({ c with largest:=max c.largest (DX rs 0) }:CS).ackPs rs c.flight).fly (c.flight.filter λp => !D2 rs p)) ?_ (λp d=>hf p (BI.1 d).1),λhl=>?_⟩
 .have s2:Di ((({ c with largest:=max c.largest (DX rs 0) }:CS).ackPs rs c.flight).fly (c.flight.filter λp => !D2 rs p)) b c.Under:=⟨s.low,s.came,s.asks⟩;refine s2.mono (λ_ _=>id) ?_;rintro cl ho ⟨q,i,f,hf,k⟩;cases hm:D2 rs q with
  | true=>exact .inl (j q i hm f hf cl ho k)
  | false=>exact .inr ⟨q,BI.2 ⟨i,by rw[hm];rfl⟩,f,hf,k⟩
 simp only;rw[Hs,Rl _ (λp d=>by
  have d:p∈c.flight.filter λp => !D2 rs p:=d
  obtain⟨p1,p2⟩:=BI.1 d;obtain⟨a,b⟩:=hl p p1 (nF p2);have e:=Jr rs c.flight ({ c with largest:=max c.largest (DX rs 0) }:CS);unfold CS.late;show(decide (p.at_+6<=(({ c with largest:=max c.largest (DX rs 0) }:CS).ackPs rs c.flight).now)||decide (p.n+3<=(({ c with largest:=max c.largest (DX rs 0) }:CS).ackPs rs c.flight).largest))=false;rw[e.hd.2.2.2.1,e.tl.2.2.2.1];show(decide (p.at_+6<=c.now)||decide (p.n+3<=max c.largest (DX rs 0)))=false;rw[Aw I,Aw I];rfl)]
 exact⟨m.w,m.r,m.g⟩
def Df(R:Cl->Prop)(d:Dd)(cl:Cl):Prop:=R cl\/∃f∈d.fs,G4 f cl
variable{d d':Dd}
def Df.add(ha:d.add f=some d'){cl:Cl}(h:Df R d cl\/G4 f cl):Df R d' cl:=by
 obtain⟨_,e,_⟩:=Dd.add_some ha;rcases h with(h|⟨g,hg,s⟩)|h
 .exact .inl h
 .exact .inr ⟨g,by rw[e];exact CN _ hg,s⟩
 exact .inr ⟨f,by rw[e];simp,h⟩
def Di.draw{b:CS}(h:Di c b (Df R d))(ha:d.add f=some d'):Di c b (Df R d'):=h.mono (λ_ _=>id) (λ_ _ r=>.inr (Df.add ha (.inl r)))
theorem Di.r{b:CS}(h:Di c b R)(s g:Nat)(hn:R (.lim s g)):Di { c with rs:=zf c.rs s { c.rs s with grant:=g,anew:=false } } b R:=by
 refine⟨h.low,h.came,λcl a ask=>?_⟩;cases cl with
 | byte k p=>exact h.asks (.byte k p) a ask
 | fin k=>exact h.asks (.fin k) a ask
 | tell k n=>exact h.asks (.tell k n) a ask
 | lim k n =>
  have q:(zf c.rs s { c.rs s with grant:=g,anew:=false } k).anew=false/\(zf c.rs s { c.rs s with grant:=g,anew:=false } k).grant=n:=ask;by_cases x:k=s
  .subst x;rw[ze]at q;rw[<-q.2];exact .inr hn
  rw[zd _ _ x]at q;exact h.asks (.lim k n) a q
 | all n=>exact h.asks (.all n) a ask
theorem QA{b:CS}(h:Di c b (Df R d)):∀n k t x,(ER c d n k t).1=some x->Di x.1 b (Df R x.2)
 | 0,_,_,x,hx=>by cases hx
 | n+1,k,t,x,hx=>by
  unfold ER at hx;split at hx
  .split at hx
   .rename_i d' hd;cases hx;exact(h.draw hd).r k _ (Df.add hd (.inr ⟨rfl,rfl,rfl⟩))
   exact QA h n _ _ x hx
  exact QA h n _ _ x hx
theorem Ob{b:CS}(h:Di c b (Df R d)):∀n k x,ET c d n k=some x->Di x.1 b (Df R x.2)
 | 0,_,x,hx=>by cases hx
 | n+1,k,x,hx=>by
  unfold ET at hx;split at hx
  .split at hx
   .rename_i d' hd;cases hx;have a:=h.draw hd;refine a.w k (λhk=>⟨(h.low k hk).sent,(h.low k hk).came,(h.low k hk).hl,(h.low k hk).bl,(h.low k hk).fn⟩) (λhk=>h.came k hk) (λhk cl=>?_) (λ_ _ _ r=>r);rintro⟨ho,p,⟨rfl,q⟩|⟨rfl,q⟩|⟨rfl,q1,q2,q3⟩⟩
    .exact a.asks (.byte k p) hk q
    .exact a.asks (.fin k) hk q
    exact .inr (Df.add hd (.inr ⟨rfl,rfl,q3⟩))
   exact Ob h n _ x hx
  exact Ob h n _ x hx
theorem fG{b:CS}(h:Di c b (Df R d)){x:CS×Dd}(hx:c.control d=some x):Di x.1 b (Df R x.2):=by
 unfold CS.control at hx;split at hx
 .rename_i y hy;cases hx;exact QA h 8 0 c.total _ hy
 unfold I1 at hx;split at hx
 .split at hx
  .rename_i d' hd;cases hx;have a:=h.draw hd;refine⟨a.low,a.came,λcl e ask=>?_⟩;cases cl with
   | all n =>
    obtain⟨q1,q2⟩:=ask;exact .inr (Df.add hd (.inr ⟨rfl,q2⟩))
   | byte k p=>exact a.asks (.byte k p) e ask
   | fin k=>exact a.asks (.fin k) e ask
   | tell k n=>exact a.asks (.tell k n) e ask
   | lim k n=>exact a.asks (.lim k n) e ask
  exact Ob h 8 0 x hx
 exact Ob h 8 0 x hx
variable{hi k lo:Nat}
def VO{b:CS}(h:Di c b (Df R d)){fin:Bool}(hk:k<8)(hlo:lo<=hi)(hh:hi<=(c.ws k).b.length):Di (c.bytesAdd d k lo hi fin).2.1 b (Df R (c.bytesAdd d k lo hi fin).2.2):=by
 unfold CS.bytesAdd;split
 .exact h
 rename_i d' hd;have a:=h.draw hd;obtain⟨e,l2,l3,l4,l5⟩:=h.low k hk;have f:(((c.ws k).b.drop lo).take (hi-lo)).length=hi-lo:=by
  rw[AU,Ac];omega
 have top:max (c.ws k).high hi<=2048:=I;have g:EL (if lo<hi then(c.ws k).sent.add lo (hi-1)else(c.ws k).sent) (max (c.ws k).high hi)/\∀p,Dk (if lo<hi then(c.ws k).sent.add lo (hi-1)else(c.ws k).sent).rs p->Dk (c.ws k).sent.rs p\/(lo<=p/\p<hi):=by
  split
  .obtain⟨a1,a2⟩:=(e.mono (BO _ hi)).ins top (lo:=lo) (hi:=hi-1) I;exact⟨a1,λp hp=>((a2 p).1 hp).imp_right I⟩
  exact⟨e.mono (BO _ _),λp=>.inl⟩
 refine a.w k (λ_=>⟨g.1,l2.mono (BO _ _),by show max (c.ws k).high hi<=(c.ws k).b.length;omega,l4,l5⟩) (λhk=>h.came k hk) (λhk cl=>?_) (λ_ _ _ r=>r);rintro⟨ho,p,⟨rfl,q⟩|⟨rfl,q⟩|⟨rfl,q⟩⟩
 .rcases g.2 p q with x|x
  .exact a.asks (.byte k p) hk x
  exact .inr (Df.add hd (.inr ⟨rfl,rfl,x.1,by show p<lo+(((c.ws k).b.drop lo).take (hi-lo)).length;omega⟩))
 .have q:((c.ws k).ending||fin)=true:=q;simp only[Bb]at q;rcases q with x|x
  .exact a.asks (.fin k) hk x
  exact .inr (Df.add hd (.inr ⟨rfl,rfl,x⟩))
 exact a.asks (.tell k p) hk q
def XZ{b:CS}(h:Di c b (Df R d))(hk:k<8):Di (c.bytes d k).2.1 b (Df R (c.bytes d k).2.2):=by
 have he:c.endOf k<=(c.ws k).b.length:=by
  have:=NQ c k;unfold CS.end0 at this;omega
 have R':∀lo hi,lo<=hi->hi<=(c.ws k).b.length->Di (c.bytesR d k lo hi).2.1 b (Df R (c.bytesR d k lo hi).2.2):=λlo hi h1 h2=>by
  unfold CS.bytesR;split
  .split
   .exact h
   exact VO h hk I I
  exact VO h hk h1 h2
 unfold CS.bytes;split
 .exact h
 split
 .split
  .exact h
  exact R' _ _ (AF _) (AF _)
 exact R' _ _ I (AJ (Il _ _ _) he)
variable{q:Nat}
theorem Pz{b:CS}(h:Di c b (Df R d))(e:q<10):Di (c.put d q).2.1 b (Df R (c.put d q).2.2):=by
 match q,e with
 | 0,_ =>
  show Di ((c.control d).getD (c,d)).1 b (Df R ((c.control d).getD (c,d)).2);cases hc:c.control d with
  | none=>exact h
  | some x=>exact fG h hc
 | 1,_ =>
  show Di ((c.datagrams d).getD (c,d)).1 b (Df R ((c.datagrams d).getD (c,d)).2);cases hc:c.datagrams d with
  | none=>exact h
  | some x =>
   unfold CS.datagrams at hc;split at hc
   .cases hc
   obtain⟨d',h1,h2⟩:=CB.1 hc;subst h2;have a:=h.draw h1;exact⟨a.low,a.came,a.asks⟩
 | k+2,e=>exact XZ h I
theorem Sb{b:CS}(a:q<10):∀n {c:CS} {d:Dd},Di c b (Df R d)->Di (CS.reps q n c d).1 b (Df R (CS.reps q n c d).2)
 | 0,c,d,h=>h
 | n+1,c,d,h=>by
  unfold CS.reps;split
  .exact Sb a n (Pz h a)
  exact Pz h a
theorem TF{b:CS}:∀n {c:CS} {d:Dd},n<=10->Di c b (Df R d)->Di (CS.fillN n c d).1 b (Df R (CS.fillN n c d).2)
 | 0,c,d,_,h=>h
 | n+1,c,d,hn,h=>by
  unfold CS.fillN;exact TF n I (Sb I _ h)
def Ey(fs:List Da):Bool:=fs.any λf=>f.kind != 2
def Hh(now:Nat):Nat->List (List Da)->List Dc
 | _,[]=>[]
 | n,fs::L=>(if Ey fs then [⟨n,now,fs⟩]else [])++Hh now (n+1) L
def Oa:Nat->List (List Da)->List nG->Prop
 | _,[],xs=>xs=[]
 | n,fs::L,xs=>∃x ys,xs=x::ys/\dec x=.ok n (fs.map zs)/\Oa (n+1) L ys
variable{now:Nat}
theorem Mh:∀(L:List (List Da)) (n:Nat) {q:Dc},q∈Hh now n L->n<=q.n/\q.n<n+L.length/\q.at_=now/\L[q.n-n]?=some q.fs
 | [],n,q,h=>by cases h
 | fs::L,n,q,h=>by
  rcases Al.1 h with x|x
  .split at x
   .rw[Ag.1 x];exact⟨AF _,mv,rfl,mv⟩
   cases x
  obtain⟨a,b,c,d⟩:=Mh L (n+1) x;refine⟨I,by simp only[AR];omega,c,?_⟩;rw[(I:q.n-n=q.n-(n+1)+1)];exact d
theorem Th:∀(L:List (List Da)) (n:Nat) {xs:List nG} {x:nG},Oa n L xs->x∈xs->∃j fs,L[j]?=some fs/\dec x=.ok (n+j) (fs.map zs)
 | [],n,xs,x,h,hx=>by rw[show xs=[]from h]at hx;cases hx
 | fs::L,n,xs,x,h,hx=>by
  obtain⟨y,ys,rfl,e,h2⟩:=h;rcases Av.1 hx with r|r
  .subst r;exact⟨0,fs,rfl,e⟩
  obtain⟨j,gs,a,b⟩:=Th L (n+1) h2 r;exact⟨j+1,gs,a,by rw[b];congr 1;omega⟩
theorem VN{cl:Cl}(h:G4 f cl):G4 (zs f) cl:=by
 have hk:=Gq f;cases cl with
 | byte k p =>
  obtain⟨a,b,c,d⟩:=h;refine⟨hk.trans a,?_,?_,?_⟩<;>simp[zs,a]<;>assumption
 | fin k =>
  obtain⟨a,b,c⟩:=h;refine⟨hk.trans a,?_,?_⟩<;>simp[zs,a]<;>assumption
 | tell k n =>
  obtain⟨a,b,c⟩:=h;refine⟨hk.trans a,?_,?_⟩<;>simp[zs,a]<;>assumption
 | lim k n =>
  obtain⟨a,b,c⟩:=h;refine⟨hk.trans a,?_,?_⟩<;>simp[zs,a]<;>assumption
 | all n =>
  obtain⟨a,c⟩:=h;refine⟨hk.trans a,?_⟩;simp[zs,a];exact c
def Eu(d d':Dd):Prop:=∃E,d'.fs=d.fs++E/\(∀f∈E,f.kind≠2)/\d'.wants=(d.wants||Ey E)
def Eu.refl(d:Dd):Eu d d:=⟨[],mv,λf hf=>(nomatch hf),by simp[Ey]⟩
def Eu.trans{a b c:Dd}(h:Eu a b)(k:Eu b c):Eu a c:=by
 obtain⟨E,e1,e2,e3⟩:=h;obtain⟨F,f1,f2,f3⟩:=k;refine⟨E++F,by rw[f1,e1,Ap],λf hf=>(Al.1 hf).elim (e2 f) (f2 f),?_⟩;rw[f3,e3];simp[Ey,Bool.or_assoc]
theorem Eu.put(hc:c.Ok)(hq:q<10):Eu d (c.put d q).2.2:=by
 have p:=JZ (d:=d) hc hq;generalize (c.put d q).1=r at p;cases r with
 | true =>
  obtain⟨f,_,hk,ha⟩:=p.yes rfl;obtain⟨_,e2,_,_,e5,_⟩:=Dd.add_some ha;exact⟨[f],e2,λg hg=>by rw[Ag.1 hg];exact hk,by rw[e5];simp[Ey]⟩
 | false =>
  obtain⟨_,e|e⟩:=p.no rfl
  .rw[e];exact Eu.refl d
  rw[e];exact Eu.refl d
theorem Eu.reps(a:q<10):∀n {c:CS} {d:Dd},c.Ok->Eu d (CS.reps q n c d).2
 | 0,c,d,_=>Eu.refl d
 | n+1,c,d,hc=>by
  unfold CS.reps;split
  .exact(Eu.put hc a).trans (Eu.reps a n (JZ (d:=d) hc a).ok)
  exact Eu.put hc a
theorem Eu.fillN:∀n {c:CS} {d:Dd},n<=10->c.Ok->d.Ok->Eu d (CS.fillN n c d).2
 | 0,c,d,_,_,_=>Eu.refl d
 | n+1,c,d,hn,hc,hd=>by
  have r:=Oy (q:=9-n) I (d.room+1) c d hc hd;unfold CS.fillN;exact(Eu.reps I _ hc).trans (Eu.fillN n I r.1 r.2.1)
theorem VM(d:Dd)(l:zC):∀n,1<=n->Ee d l n=1\/(d.b++zA (ackF (l.take (Ee d l n)))).length+4<=d.room
 | 0,h=>absurd h I
 | n+1,_=>by
  unfold Ee;split
  .exact VM d l n I
  omega
theorem VL(hm:64<=c.mtu)(l:zC):(zp c.pkDraft l).1.wants=false/\(∀f∈(zp c.pkDraft l).1.fs,f.kind=2/\∀r∈f.rngs,r∈l)/\(∀r∈(zp c.pkDraft l).2,r∈l) /\
  (l≠[]->∃r t t',l=r::t/\(zp c.pkDraft l).1.fs=[ackF (r::t')]):=by
 unfold zp;split
 .rename_i h0;exact⟨rfl,λf hf=>(nomatch hf),λr hr=>hr,λh=>absurd h0 h⟩
 rename_i h0;obtain⟨r,t,rfl⟩:∃r t,l=r::t:=by
  cases l with
  | nil=>exact absurd rfl h0
  | cons r t=>exact⟨r,t,rfl⟩
 have t1:=Na c.pkDraft (r::t) (r::t).length mv;have a:∃d',c.pkDraft.add (ackF ((r::t).take (Ee c.pkDraft (r::t) (r::t).length)))=some d':=by
  have q:c.pkDraft.b.length+(zA (ackF ((r::t).take (Ee c.pkDraft (r::t) (r::t).length)))).length+4<=c.mtu:=by
   rcases VM c.pkDraft (r::t) (r::t).length mv with h|h
   .rw[h];have v0:=PE c.next;have v1:=PE r.2;have v2:=PE (r.2-r.1);have e:(zA (ackF [r])).length=1+(zH r.2).length+1+(zH (r.2-r.1)).length:=by
     show(((([2]++zH r.2)++zH 0)++zH (r.2-r.1))++D8 [r] 0).length=_;simp only[AG,Af];rfl
    show(zH c.next).length+(zA (ackF [r])).length+4<=c.mtu;omega
   rw[AG]at h;exact h
  unfold Dd.add;rw[AI (by rw[AG];show ¬c.mtu<_;omega)];exact⟨_,rfl⟩
 obtain⟨d',hd⟩:=a;obtain⟨n,g⟩:∃n,Ee c.pkDraft (r::t) (r::t).length=n+1:=⟨Ee c.pkDraft (r::t) (r::t).length-1,I⟩;have e:GL c.pkDraft (r::t)=(d',(r::t).drop (n+1)):=by
  unfold GL;rw[hd,g];rfl
 rw[e];rw[g]at hd;obtain⟨_,i,_,_,e5,_⟩:=Dd.add_some hd;refine⟨by rw[e5];rfl,λf hf=>?_,λq d=>Bo d,λ_=>⟨r,t,t.take n,rfl,by rw[i];rfl⟩⟩;rw[i]at hf;have hf:=Ag.1 (show f ∈ [_]from hf);subst hf;exact⟨rfl,λq d=>BP d⟩
structure OR(b c c':CS)(l:zC)(m:Nat)(outs:List nG)(L:List (List Da)):Prop where
 outs:Oa c.next L outs
 fl:c'.flight=c.flight++Hh c.now c.next L
 next:c'.next=c.next+L.length
 acks:∀fs∈L,∀f∈fs,f.kind=2->∀r∈f.rngs,r∈l
 first:1<=m->l≠[]->∃r t t' fs L',l=r::t/\L=(ackF (r::t')::fs)::L'
 bel:Di c' b c'.Under
structure SQ(b:CS)(nx:Nat)(G:List SN)(c:CS)(l:zC)(F:CS×Dd)(l2:zC):Prop where
 ds:DS c.next nx G F.1 F.2
 so:Dw F.1 G
 want:F.2.wants=Ey F.2.fs
 ack:∀f∈F.2.fs,f.kind=2->∀r∈f.rngs,r∈l
 hx:∀r∈l2,r.2<nx
 sub:∀r∈l2,r∈l
 first:l≠[]->∃r t t' E,l=r::t/\F.2.fs=ackF (r::t')::E
 no:F.2.fs=[]->Di F.1 b F.1.Under
 fl:(F.1.pkDone F.2).flight=c.flight++(if Ey F.2.fs then [⟨c.next,c.now,F.2.fs⟩]else [])
 bel:Di (F.1.pkDone F.2) b (F.1.pkDone F.2).Under
 dec:F.2.fs≠[]->dec (FV F.2.b)=.ok c.next (F.2.fs.map zs)
variable{G:List SN}{nx:Nat}
def TE{b:CS}{l:zC}(hk:Gu c l)(s:Dw c G)(hx:∀r∈l,r.2<nx)(h:Di c b c.Under):SQ b nx G c l (c.pkFill (zp c.pkDraft l).1) (zp c.pkDraft l).2:=by
 obtain⟨p,r2,r3,r4,r5,u,r7⟩:=hk.round;have k:=hk.next;have d0:DS c.next nx G c c.pkDraft:=⟨by show zH c.next=I3 c.next [];simp[I3],λf hf=>(by cases hf)⟩;obtain⟨d1,m⟩:=d0.told hk.desc hk.len hx;obtain⟨t1,v,t3,t4⟩:=VL hk.mtu l;have hF:DS c.next nx G (c.pkFill (zp c.pkDraft l).1).1 (c.pkFill (zp c.pkDraft l).1).2/\Dw (c.pkFill (zp c.pkDraft l).1).1 G/\Eu (zp c.pkDraft l).1 (c.pkFill (zp c.pkDraft l).1).2/\Di (c.pkFill (zp c.pkDraft l).1).1 b (Df c.Under (c.pkFill (zp c.pkDraft l).1).2):=by
  have hb:Di c b (Df c.Under (zp c.pkDraft l).1):=h.mono (λ_ _=>id) (λ_ _ r=>.inr (.inl r));unfold CS.pkFill;split
  .obtain⟨f1,n,f3⟩:=QX 10 c (zp c.pkDraft l).1 (AF _) hk.ok p s d1;exact⟨f1,n,Eu.fillN 10 (AF _) hk.ok p,TF 10 (AF _) hb⟩
  exact⟨d1,s,Eu.refl _,hb⟩
 obtain⟨f1,n,⟨E,g1,g2,g3⟩,j⟩:=hF;have a:(c.pkFill (zp c.pkDraft l).1).2.wants=Ey (c.pkFill (zp c.pkDraft l).1).2.fs:=by
  rw[g3,g1,t1];unfold Ey;rw[List.any_append,show(zp c.pkDraft l).1.fs.any (λf=>f.kind != 2)=false from CZ.2 λf hf=>by simp[(v f hf).1]]
 have o:l≠[]->∃r t t' E,l=r::t/\(c.pkFill (zp c.pkDraft l).1).2.fs=ackF (r::t')::E:=λhl=>by
  obtain⟨r,t,t',e1,e2⟩:=t4 hl;exact⟨r,t,t',E,e1,by rw[g1,e2];rfl⟩
 have g:∀f∈(c.pkFill (zp c.pkDraft l).1).2.fs,f.kind=2->∀r∈f.rngs,r∈l:=λf hf e=>by
  rw[g1]at hf;rcases Al.1 hf with x|x
  .exact(v f x).2
  exact absurd e (g2 f x)
 generalize c.pkFill (zp c.pkDraft l).1=F at *;have i:(F.1.pkDone F.2).flight=c.flight++(if Ey F.2.fs then [⟨c.next,c.now,F.2.fs⟩]else []):=by
  unfold CS.pkDone;simp only;rw[a,r4,r5,u];split
  .rfl
  rw[Bw]
 refine⟨f1,n,a,g,m,t3,o,λd=>j.mono (λ_ _=>id) (λcl _ r=>.inr ?_),i,?_,λd=>?_⟩
 .rcases r with r|⟨f,hf,_⟩
  .unfold CS.Under;rw[u];exact r
  rw[d]at hf;cases hf
 .have b3:Di (F.1.pkDone F.2) b (Df c.Under F.2):=⟨j.low,j.came,j.asks⟩;refine b3.mono (λ_ _=>id) (λcl _ r=>.inr ?_);unfold CS.Under;rw[i];rcases r with⟨q,hq,x⟩|⟨f,hf,x⟩
  .exact⟨q,CN _ hq,x⟩
  have hw:Ey F.2.fs=true:=Bh.2 ⟨f,hf,by
   have:f.kind≠2:=λe=>by
    cases cl<;>have:=x.1<;>omega
   simpa using this⟩
  rw[AQ hw];exact⟨_,List.mem_append_right _ (Ag.2 rfl),f,hf,x⟩
 unfold FV;rw[VV,f1.b];exact UR c.next F.2.fs (by unfold zF at k;omega) (BM.2 d) (λf hf=>(f1.fr f hf).1)
theorem Sa{b:CS}:∀(m:Nat) (c:CS) (l:zC),Gu c l->Dw c G->(∀r∈l,r.2<nx)->Di c b c.Under->∃L,OR b c (CS.pkts m c l).2 l m (CS.pkts m c l).1 L
 | 0,c,l,hk,s,hx,h=>⟨[],rfl,by show c.flight=c.flight++[];simp,rfl,λfs hf=>(nomatch hf),λh=>absurd h I,h⟩
 | m+1,c,l,hk,s,hx,h=>by
  have R:=TE hk s hx h;obtain⟨r1,r2,r3,o,r5,r6,r7⟩:=hk.round;unfold CS.pkts;by_cases a:(c.pkFill (zp c.pkDraft l).1).2.fs=[]
  .rw[AQ a];refine⟨[],rfl,by show(c.pkFill (zp c.pkDraft l).1).1.flight=c.flight++[];rw[r6,Bw],o,λfs hf=>(nomatch hf),λ_ hl=>?_,R.no a⟩;obtain⟨_,_,_,_,_,e⟩:=R.first hl;rw[e]at a;cases a
  rw[AI a];obtain⟨k1,_⟩:=r7 a;generalize c.pkFill (zp c.pkDraft l).1=F at *;generalize (zp c.pkDraft l).2=l2 at *;have g:(F.1.pkDone F.2).next=c.next+1:=by show F.1.next+1=_;rw[o]
  obtain⟨L,i⟩:=Sa m (F.1.pkDone F.2) l2 k1 ⟨R.so.w,R.so.kf,R.so.sp,R.so.wt⟩ R.hx R.bel;have p:=i.outs;have d:=i.fl;have j:=i.next;rw[g]at p d j;refine⟨F.2.fs::L,⟨_,_,rfl,R.dec a,p⟩,?_,?_,λfs hf=>?_,λ_ hl=>?_,i.bel⟩
  .show(CS.pkts m (F.1.pkDone F.2) l2).2.flight=_;rw[d,R.fl,Ap];have:(F.1.pkDone F.2).now=c.now:=r5;rw[this];rfl
  .show(CS.pkts m (F.1.pkDone F.2) l2).2.next=c.next+(L.length+1);omega
  .rcases Av.1 hf with e|e
   .rw[e];exact R.ack
   exact λf k n r hr=>R.sub r (i.acks fs e f k n r hr)
  obtain⟨r,t,t',E,e1,n⟩:=R.first hl;exact⟨r,t,t',E,L,e1,by rw[n]⟩
def Dt(b b':CS):Prop:=∀cl,cl.Ok->b.Has cl->b'.Has cl
def Dt.refl(b:CS):Dt b b:=λ_ _=>id
def Dt.trans{a b:CS}(h:Dt a b)(k:Dt b c):Dt a c:=λcl o x=>k cl o (h cl o x)
theorem Dt.of{b a:CS}(c:∀k,k<8->(a.rs k).came=(b.rs k).came/\(a.rs k).ended=(b.rs k).ended/\(a.rs k).cut=(b.rs k).cut/\(a.rs k).keep=(b.rs k).keep)(hw:∀k,k<8->(b.ws k).credit<=(a.ws k).credit)(hc:b.credit<=a.credit):Dt b a:=by
 intro cl o h;cases cl with
 | byte k p=>show Dk (a.rs k).came.rs p;rw[(c k o).1];exact h
 | fin k=>show(a.rs k).ended=true;rw[(c k o).2.1];exact h
 | tell k n=>show(a.rs k).cut=true/\(a.rs k).ended=true/\(a.rs k).keep<=n;rw[(c k o).2.1,(c k o).2.2.1,(c k o).2.2.2];exact h
 | lim k n=>exact AJ h (hw k o)
 | all n=>exact AJ h hc
def FG.grows(f:FG c c'):Dt c c' :=
 Dt.of (λk hk=>by obtain⟨q,e⟩:=f.rs k hk;rw[e];exact⟨rfl,rfl,rfl,rfl⟩) (λk hk=>Ay (f.ws k).credit.symm) (Ay f.credit.symm)
theorem Dt.r{b:CS}(s:Nat){y:RS}(hb:∀p,Dk (b.rs s).came.rs p->Dk y.came.rs p)(he:(b.rs s).ended=true->y.ended=true)(hc:∀n,(b.rs s).cut=true/\(b.rs s).ended=true/\(b.rs s).keep<=n->y.cut=true/\y.ended=true/\y.keep<=n):Dt b { b with rs:=zf b.rs s y }:=by
 intro cl o h;have e:∀k,(({ b with rs:=zf b.rs s y }:CS).rs k=y/\k=s)\/({ b with rs:=zf b.rs s y }:CS).rs k=b.rs k:=λk=>by
  by_cases q:k=s
  .exact .inl ⟨by subst q;exact ze _ _ _,q⟩
  exact .inr (zd _ _ q)
 cases cl with
 | byte k p =>
  rcases e k with⟨q,rfl⟩|q
  .show Dk (({ b with rs:=zf b.rs k y }:CS).rs k).came.rs p;rw[q];exact hb p h
  show Dk (({ b with rs:=zf b.rs s y }:CS).rs k).came.rs p;rw[q];exact h
 | fin k =>
  rcases e k with⟨q,rfl⟩|q
  .show(({ b with rs:=zf b.rs k y }:CS).rs k).ended=true;rw[q];exact he h
  show(({ b with rs:=zf b.rs s y }:CS).rs k).ended=true;rw[q];exact h
 | tell k n =>
  rcases e k with⟨q,rfl⟩|q
  .show(({ b with rs:=zf b.rs k y }:CS).rs k).cut=true/\(({ b with rs:=zf b.rs k y }:CS).rs k).ended=true/\(({ b with rs:=zf b.rs k y }:CS).rs k).keep<=n;rw[q];exact hc n h
  show(({ b with rs:=zf b.rs s y }:CS).rs k).cut=true/\(({ b with rs:=zf b.rs s y }:CS).rs k).ended=true/\(({ b with rs:=zf b.rs s y }:CS).rs k).keep<=n;rw[q];exact h
 | lim k n=>exact h
 | all n=>exact h
def Dt.w{b:CS}(s:Nat)(h:(b.ws s).credit<=y.credit):Dt b { b with ws:=zf b.ws s y } :=
 Dt.of (λk _=>⟨rfl,rfl,rfl,rfl⟩) (λj _=>by
  show(b.ws j).credit<=(zf b.ws s y j).credit;by_cases x:j=s
  .subst x;rw[ze];exact h
  rw[zd _ _ x];exact AF _) (AF _)
variable{H e:Nat}
theorem SZ{off:Nat}{data:nG}(c:H<=2048)(a:e<=H):∀(n lo:Nat) (b:nG) (s:Dl),EL s H->e<lo+n->∀p,Dk s.rs p\/(lo<=p/\p<e)->Dk (Ep off data e n lo b s).2.rs p
 | 0,lo,b,s,_,h2,p,hp=>hp.elim id (λx=>I)
 | n+1,lo,b,s,h1,h2,p,hp=>by
  unfold Ep;have low:p<(Dj s.rs lo e).1->lo<=p->Dk s.rs p:=λx y=>GW.2 (Mx s.rs lo e p y x)
  split
  .rename_i hlt;split
   .rename_i hg;exact hp.elim id (λx=>low I x.1)
   rename_i hg;obtain⟨g1,g2⟩:=NZ s.rs lo e hlt I;have g3:=Il s.rs lo e;generalize Dj s.rs lo e=g at *;obtain⟨l1,l2⟩:=h1.add c (lo:=g.1) (hi:=g.2-1) I I;refine SZ c a n g.2 _ _ l1 I p ?_;rw[l2 p];rcases hp with x|x
   .exact .inl (.inl x)
   by_cases y:p<g.1
   .exact .inl (.inl (low y x.1))
   by_cases z:p<g.2
   .exact .inl (.inr I)
   exact .inr I
  exact hp.elim id (λx=>I)
variable{p:Nat}{r:RS}{x:WS}
def TD{e:EN}(h:Dr x r e)(h1:f.off+f.data.length<=x.high)(hp:Dk r.came.rs p\/(f.off<=p/\p<f.off+f.data.length)):Dk (r.data f).came.rs p:=by
 have:=h.hl;have:=h.bl;have:=h.rh;have e1:f.end_=f.off+f.data.length:=rfl;exact SZ (H:=max r.high f.end_) I (Cq _ _) _ _ _ _ (h.low.mono (BO _ _)) I p hp
def Fc.top{a b:CS}{E:Nat->EN}(h:Fc a b E):Iy a b:=λk hk p hp=>by
 have d:=h.k k hk;have:=ML d.low hp;have:=d.rh;omega
structure Wq(a b b':CS)(fs:List Da):Prop where
 grows:Dt b b'
 has:∀f∈fs,Fe b' f
 bel:Di b' a b'.Under
 sub:∀q∈b'.flight,q∈b.flight
 gt:∀k,k<8->(b'.rs k).grant=(b.rs k).grant
 rd:∀k,k<8->(b'.rs k).read=(b.rs k).read/\(b'.rs k).state=(b.rs k).state
 cf:b'.window=b.window/\b'.total=b.total
 wf:∀k,k<8->Ed (b.ws k) (b'.ws k)
 lg:b.largest<=b.next->b'.largest<=b'.next
def Vv(h:¬c.next<=DX rs 0):∃l:Dc->Bool,(c.acked rs).2.flight=(c.flight.filter λp => !D2 rs p).filter l/\∀p,l p = !(decide (p.at_+6<=c.now)||decide (p.n+3<=max c.largest (DX rs 0))):=by
 rw[PG c rs h,Hs];refine⟨_,rfl,λp=>?_⟩;have e:=(Jr rs c.flight ({ c with largest:=max c.largest (DX rs 0) }:CS));unfold CS.late;have e1:=e.hd.2.2.2.1;have e2:=e.tl.2.2.2.1;show(!(decide (p.at_+6<=(({ c with largest:=max c.largest (DX rs 0) }:CS).ackPs rs c.flight).now)||decide (p.n+3<=(({ c with largest:=max c.largest (DX rs 0) }:CS).ackPs rs c.flight).largest)))=_;rw[e1,e2]
def Ng(h:¬c.next<=DX rs 0):(c.acked rs).2.largest=max c.largest (DX rs 0)/\(c.acked rs).2.answer=c.answer/\(c.acked rs).2.now=c.now/\(c.acked rs).2.next=c.next/\(c.acked rs).2.window=c.window/\(c.acked rs).2.total=c.total:=by
 rw[PG c rs h,Hs];have e:=Jr rs c.flight ({ c with largest:=max c.largest (DX rs 0) }:CS);have a:=JE ((({ c with largest:=max c.largest (DX rs 0) }:CS).ackPs rs c.flight).fly (c.flight.filter λp => !D2 rs p)).flight ((({ c with largest:=max c.largest (DX rs 0) }:CS).ackPs rs c.flight).fly (c.flight.filter λp => !D2 rs p));exact⟨a.tl.2.2.2.1.trans e.tl.2.2.2.1,a.hd.2.2.2.2.2.2.2.2.trans e.hd.2.2.2.2.2.2.2.2,a.hd.2.2.2.1.trans e.hd.2.2.2.1,a.hd.2.2.2.2.2.2.1.trans e.hd.2.2.2.2.2.2.1,a.hd.2.1.trans e.hd.2.1,a.hd.2.2.1.trans e.hd.2.2.1⟩
def XY{b:CS}(h:(b.data f).1=0):(b.data f).2={ b with rs:=zf b.rs f.stream.toNat ((b.rs f.stream.toNat).data f) }:=by
 unfold CS.data at h ⊢;split
 .rename_i x;rw[AQ x]at h;cases h
 rename_i x;rw[AI x]at h;split
 .rename_i y;rw[AQ y]at h;cases h
 rfl
variable{Ea Eb:Nat->EN}{Ga Gb:List SN}
theorem SW{a b:CS}(h:Rc a b Ea Eb Ga Gb)(ha:Dw a Ga)(hf:Ez f)(ok:FU a b.next Ga f)(hs:∀p∈b.flight,∀g∈p.fs,FS g)(hb:Di b a b.Under)(hn:f.kind=2->∀p∈b.flight,D2 f.rngs p=true->∀g∈p.fs,Fe a g):Wq a b (b.take f).2 [f]:=by
 have no:∀{v:CS},(f.kind≠3/\f.kind≠4/\f.kind≠5/\f.kind≠6)->∀g ∈ [f],Fe v g:=λq g hg cl _ s=>by
  rw[Ag.1 hg]at s;cases cl<;>have:=s.1<;>omega
 have i:∀{v:CS},Fe v f->∀g ∈ [f],Fe v g:=λq g hg=>by rw[Ag.1 hg];exact q
 have m:∀(s:Nat) {y:RS},y.anew=(b.rs s).anew->y.grant=(b.rs s).grant->Di ({ b with rs:=zf b.rs s y }:CS) a b.Under:=λs y e1 A=>hb.ask (Eg.r s e1 A)
 have gr:∀(s:Nat) {y:RS},y.grant=(b.rs s).grant->∀k,k<8->(({ b with rs:=zf b.rs s y }:CS).rs k).grant=(b.rs k).grant:=λs y e k _=>by
  show(zf b.rs s y k).grant=_;by_cases x:k=s
  .subst x;rw[ze,e]
  rw[zd _ _ x]
 have rd:∀(s:Nat) {y:RS},y.read=(b.rs s).read->y.state=(b.rs s).state->∀k,k<8->(({ b with rs:=zf b.rs s y }:CS).rs k).read=(b.rs k).read/\(({ b with rs:=zf b.rs s y }:CS).rs k).state=(b.rs k).state:=λs y e A k _=>by
  show(zf b.rs s y k).read=_/\(zf b.rs s y k).state=_;by_cases x:k=s
  .subst x;rw[ze];exact⟨e,A⟩
  rw[zd _ _ x];exact⟨rfl,rfl⟩
 unfold CS.take;split
 .rename_i e;have h1:=hf.rngs2 e;have h2:¬b.next<=DX f.rngs 0:=by
   have:=ok.k2 e _ (AV (Gn h1));simp only at this;omega
  obtain⟨l,B,_⟩:=Vv h2;exact⟨(NY h2).2.grows,no I,(hb.acked h.d2.top h2 hs (hn e)).1,λq F=>by
   rw[B]at F;exact(BI.1 (BI.1 F).1).1,λk hk=>by obtain⟨q,e⟩:=(NY h2).2.rs k hk;rw[e],λk hk=>by obtain⟨q,e⟩:=(NY h2).2.rs k hk;rw[e];exact⟨rfl,rfl⟩,⟨(Ng h2).2.2.2.2.1,(Ng h2).2.2.2.2.2⟩,λk _=>by have s:=(NY h2).2.ws k;exact⟨s.b,s.fin,s.cut,s.keep,s.final,Ay s.high.symm,Ay s.credit.symm⟩,λx=>by rw[(Ng h2).1,(Ng h2).2.2.2.1];omega⟩
 split
 .rename_i n2 e;obtain⟨k,hk,c,h3,h4,h5⟩:=ok.k3 e;have C:=(h.d1.k k hk).resetBad h3 h4;unfold CS.resetAt;rw[c,Ae,AI (by rw[C];simp)];have D:∀n,(b.rs k).cut=true/\(b.rs k).ended=true/\(b.rs k).keep<=n->((b.rs k).resetAt f).keep<=n:=λn q=>by
   show(if !(b.rs k).cut||decide (f.rel<(b.rs k).keep)then f.rel else(b.rs k).keep)<=n;rw[q.1];split
   .rename_i w;simp at w;omega
   exact q.2.2
  refine⟨Dt.r k (λp=>id) (λ_=>rfl) (λn q=>⟨rfl,rfl,D n q⟩),i λcl o s=>?_,m k rfl rfl,λq=>id,gr k rfl,rd k rfl rfl,⟨rfl,rfl⟩,λ_ _=>Ed.refl _,id⟩;cases cl with
  | tell j n =>
   obtain⟨_,s2,u⟩:=s;have:j=k:=I;subst this;show(zf b.rs j ((b.rs j).resetAt f) j).cut=true/\(zf b.rs j ((b.rs j).resetAt f) j).ended=true/\(zf b.rs j ((b.rs j).resetAt f) j).keep<=n;rw[ze];refine⟨rfl,rfl,?_⟩;show(if !(b.rs j).cut||decide (f.rel<(b.rs j).keep)then f.rel else(b.rs j).keep)<=n;split
   .omega
   rename_i w;simp at w;omega
  | byte j p=>have:=s.1;omega
  | fin j=>have:=s.1;omega
  | lim j n=>have:=s.1;omega
  | all n=>have:=s.1;omega
 split
 .rename_i n2 n3 e;obtain⟨k,hk,c,h3,h4,h5⟩:=ok.k4 e;have d:=h.d1.k k hk;have t:(b.data f).1=0:=by
   have t:=(h.take ha hf ok).1;unfold CS.take at t;rw[AI n2,AI n3,AQ e]at t;exact t
  rw[XY t,c,Ae];refine⟨Dt.r k (λp q=>TD d h3 (.inl q)) (λq=>by show((b.rs k).ended||f.fin)=true;rw[q];rfl) (λn q=>⟨q.1,by show((b.rs k).ended||f.fin)=true;rw[q.2.1];rfl,q.2.2⟩),i λcl o s=>?_,m k rfl rfl,λq=>id,gr k rfl,rd k rfl rfl,⟨rfl,rfl⟩,λ_ _=>Ed.refl _,id⟩;cases cl with
  | byte j p =>
   obtain⟨_,s2,u⟩:=s;have:j=k:=I;subst this;show Dk (zf b.rs j ((b.rs j).data f) j).came.rs p;rw[ze];exact TD d h3 (.inr u)
  | fin j =>
   obtain⟨_,s2,u⟩:=s;have:j=k:=I;subst this;show(zf b.rs j ((b.rs j).data f) j).ended=true;rw[ze];show((b.rs j).ended||f.fin)=true;rw[u,Bool.or_true]
  | tell j n=>have:=s.1;omega
  | lim j n=>have:=s.1;omega
  | all n=>have:=s.1;omega
 split
 .rename_i n2 n3 n4 e;refine⟨Dt.of (λk _=>⟨rfl,rfl,rfl,rfl⟩) (λ_ _=>AF _) (BO _ _),i λcl o s=>?_,hb.ask (Eg.of rfl rfl rfl rfl),λq=>id,λ_ _=>rfl,λ_ _=>⟨rfl,rfl⟩,⟨rfl,rfl⟩,λ_ _=>Ed.refl _,id⟩;cases cl with
  | all n =>
   show n<=max b.credit f.lim;have:=s.2;omega
  | byte j p=>have:=s.1;omega
  | fin j=>have:=s.1;omega
  | tell j n=>have:=s.1;omega
  | lim j n=>have:=s.1;omega
 split
 .rename_i n2 n3 n4 n5 e;obtain⟨k,hk,c,h6⟩:=ok.k6 e;rw[c,Ae];refine⟨Dt.w k (BO _ _),i λcl o s=>?_,hb.ask (Eg.w k (λl=>⟨l.sent,l.came,l.hl,l.bl,l.fn⟩) rfl rfl rfl (λx y=>⟨x,y,rfl⟩)),λq=>id,λ_ _=>rfl,λ_ _=>⟨rfl,rfl⟩,⟨rfl,rfl⟩,λj _=>by
   show Ed _ (zf b.ws k _ j);by_cases x:j=k
   .subst x;rw[ze];exact⟨rfl,rfl,rfl,rfl,rfl,AF _,BO _ _⟩
   rw[zd _ _ x];exact Ed.refl _,id⟩
  cases cl with
  | lim j n =>
   obtain⟨_,s2,u⟩:=s;have:j=k:=I;subst this;show n<=(zf b.ws j _ j).credit;rw[ze];show n<=max (b.ws j).credit f.lim;omega
  | byte j p=>have:=s.1;omega
  | fin j=>have:=s.1;omega
  | tell j n=>have:=s.1;omega
  | all n=>have:=s.1;omega
 rename_i n2 n3 n4 n5 n6;have E:f.kind≠3/\f.kind≠4/\f.kind≠5/\f.kind≠6:=⟨n3,n4,n5,n6⟩;split
 .obtain⟨x,y,z,B⟩:∃x y z,b.message f={ b with most:=x,seen:=y,came:=z }:=by
   unfold CS.message;split
   .exact⟨b.most,b.seen,b.came,rfl⟩
   exact⟨_,_,_,rfl⟩
  rw[B];exact⟨Dt.of (λk _=>⟨rfl,rfl,rfl,rfl⟩) (λ_ _=>AF _) (AF _),no E,hb.ask (Eg.of rfl rfl rfl rfl),λq=>id,λ_ _=>rfl,λ_ _=>⟨rfl,rfl⟩,⟨rfl,rfl⟩,λ_ _=>Ed.refl _,id⟩
 split
 .exact⟨Dt.refl b,no E,hb,λq=>id,λ_ _=>rfl,λ_ _=>⟨rfl,rfl⟩,⟨rfl,rfl⟩,λ_ _=>Ed.refl _,id⟩
 exact⟨Dt.refl b,no E,hb,λq=>id,λ_ _=>rfl,λ_ _=>⟨rfl,rfl⟩,⟨rfl,rfl⟩,λ_ _=>Ed.refl _,id⟩
theorem QP{a:CS}(d:Dw a Ga):∀(fs:List Da) {b:CS},Rc a b Ea Eb Ga Gb->(∀f∈fs,Ez f)->(∀f∈fs,FU a b.next Ga f)->(∀p∈b.flight,∀g∈p.fs,FS g)->Di b a b.Under ->
  (∀f∈fs,f.kind=2->∀p∈b.flight,D2 f.rngs p=true->∀g∈p.fs,Fe a g)->Wq a b (CS.takes fs b).2 fs
 | [],b,h,_,_,_,hb,_=>⟨Dt.refl b,λf hf=>(nomatch hf),hb,λq=>id,λ_ _=>rfl,λ_ _=>⟨rfl,rfl⟩,⟨rfl,rfl⟩,λ_ _=>Ed.refl _,id⟩
 | f::fs,b,h,hr,ho,hs,hb,hn=>by
  obtain⟨e1,e2,e3⟩:=h.take d (hr f AO) (ho f AO);obtain⟨t1,t2,t3,i,t5,t6,t7,t8,t9⟩:=SW h d (hr f AO) (ho f AO) hs hb (hn f AO);have h2:=e2.answer ((b.take f).2.answer||f.kind != 2);obtain⟨c,hc⟩:∃c,({ (b.take f).2 with answer:=(b.take f).2.answer||f.kind != 2 }:CS)=c:=⟨_,rfl⟩;have j:Di c a c.Under/\Dt (b.take f).2 c/\c.flight=(b.take f).2.flight/\c.next=(b.take f).2.next/\c.rs=(b.take f).2.rs/\(c.window=(b.take f).2.window/\c.total=(b.take f).2.total)/\c.ws=(b.take f).2.ws/\c.largest=(b.take f).2.largest:=by
   rw[<-hc];exact⟨t3.ask (Eg.of rfl rfl rfl rfl),Dt.of (λk _=>⟨rfl,rfl,rfl,rfl⟩) (λ_ _=>AF _) (AF _),rfl,rfl,rfl,⟨rfl,rfl⟩,rfl,rfl⟩
  obtain⟨j,n,l,r,t,u,v⟩:=j;rw[hc]at h2;obtain⟨w,i2,i3,i4,i5,y,z,i8,i9⟩:=QP d fs h2 (λg hg=>hr g (AW _ hg)) (λg hg=>by rw[r,e3.next];exact ho g (AW _ hg)) (λp m=>hs p (i p (by rw[<-l];exact m))) j
   (λg hg e p m=>hn g (AW _ hg) e p (i p (by rw[<-l];exact m)))
  unfold CS.takes;rw[AI (by rw[e1];simp),hc];refine⟨(t1.trans n).trans w,λg hg=>?_,i3,λq hq=>i q (by rw[<-l];exact i4 q hq),λk hk=>by rw[i5 k hk,t,t5 k hk],λk hk=>by rw[(y k hk).1,(y k hk).2,t];exact t6 k hk,by rw[z.1,z.2,u.1,u.2];exact t7,λk hk=>(t8 k hk).trans (by have:=i8 k hk;rw[v.1]at this;exact this),λx=>i9 (by rw[v.2,r];exact t9 x)⟩;rcases Av.1 hg with e|e
  .subst e;exact λcl o s=>w cl o (n cl o (t2 g AO cl o s))
  exact i2 g e
end
end Go.Proofs.YtddfdpbaiedcjaaGreatDoor
