/- A part of Once's proof. Conditions: none. Part 13 of 15. -/
import Derived.Test.YtddfdpbaiedcjaaGreatDoorOnc12
set_option maxRecDepth 100000
set_option maxHeartbeats 16000000
set_option linter.all false
namespace Go.Proofs.YtddfdpbaiedcjaaGreatDoor
section
open Go.RowKit
structure Et(x y:WS):Prop where
 b:y.b=x.b
 high:y.high=x.high
 fin:y.finished=x.finished
 cut:y.cut=x.cut
 keep:y.keep=x.keep
 final:y.final=x.final
 credit:y.credit=x.credit
def Et.refl(x:WS):Et x x:=⟨rfl,rfl,rfl,rfl,rfl,rfl,rfl⟩
variable{x y:WS}
def Et.trans{z:WS}(h:Et x y)(k:Et y z):Et x z:=⟨k.b.trans h.b,k.high.trans h.high,k.fin.trans h.fin,k.cut.trans h.cut,k.keep.trans h.keep,k.final.trans h.final,k.credit.trans h.credit⟩
structure FO(x y:WS):Prop where
 b:x.b <+: y.b
 fz:x.finished=true\/x.cut=true->y.b=x.b
 high:x.high<=y.high
 hl:y.high<=y.b.length
 fin:x.finished=true->y.finished=true
 cut:x.cut=true->y.cut=true/\y.final=x.final/\y.keep<=x.keep
 fc:x.finished=true->x.high=x.b.length->x.cut=false->y.cut=true->y.final=x.b.length
def IY(x:WS):Prop:=x.finished=true/\x.high=x.b.length/\(x.cut=true->x.final=x.b.length)
def Hz(x:WS)(n:Nat):Prop:=(IY x/\n=x.b.length)\/(x.cut=true/\n=x.final)
def FO.of_same(h:Et x y)(hl:x.high<=x.b.length):FO x y where
 b:=by rw[h.b];exact Co _
 fz:=λ_=>h.b
 high:=by rw[h.high];exact AG _
 hl:=by rw[h.high,h.b];exact hl
 fin:=λe=>by rw[h.fin];exact e
 cut:=λe=>⟨by rw[h.cut];exact e,h.final,by rw[h.keep];exact AG _⟩
 fc:=λ_ _ e a=>by rw[h.cut,e]at a;cases a
theorem IY.le(h:IY x)(l:FO x y):IY y/\y.b=x.b:=by
 obtain⟨h1,h2,h3⟩:=h;have eb:=l.fz (.inl h1);have hy:=l.hl;have hh:=l.high;rw[eb]at hy;refine⟨⟨l.fin h1,by rw[eb];omega,λhc=>?_⟩,eb⟩;cases hx:x.cut with
 | true =>
  rw[(l.cut hx).2.1,eb];exact h3 hx
 | false =>
  rw[eb];exact l.fc h1 h2 hx hc
def Hz.le{n:Nat}(h:Hz x n)(l:FO x y):Hz y n:=by
 rcases h with⟨h1,h2⟩|⟨h1,h2⟩
 ·obtain⟨a,b⟩:=h1.le l;exact .inl ⟨a,by rw[b];exact h2⟩
 ·exact .inr ⟨(l.cut h1).1,by rw[(l.cut h1).2.1];exact h2⟩
variable{m:Nat}
def Hz.uniq{n:Nat}(h:Hz x n)(k:Hz x m):n=m:=by
 rcases h with⟨h1,h2⟩|⟨h1,h2⟩<;>rcases k with⟨a,k2⟩|⟨a,k2⟩
 ·omega
 ·have:=h1.2.2 a;omega
 ·have:=a.2.2 h1;omega
 ·omega
def Hz.high{n:Nat}(h:Hz x n)(hc:x.cut=true->x.high<=x.final):x.high<=n:=by
 rcases h with⟨h1,h2⟩|⟨h1,h2⟩
 ·have:=h1.2.1;omega
 ·have:=hc h1;omega
theorem FO.trans{z:WS}(h:FO x y)(k:FO y z):FO x z where
 b:=h.b.trans k.b
 fz:=λe=>by
  have d:=h.fz e;rw[<-d];refine k.fz ?_;rcases e with e|e
  ·exact .inl (h.fin e)
  ·exact .inr (h.cut e).1
 high:=AO h.high k.high
 hl:=k.hl
 fin:=λe=>k.fin (h.fin e)
 cut:=λe=>by
  obtain⟨a,b,c⟩:=h.cut e;obtain⟨a',b',c'⟩:=k.cut a;exact⟨a',b'.trans b,AO c' c⟩
 fc:=λd e2 e3 e4=>by
  have eb:=h.fz (.inl d);cases hy:y.cut with
  | true=>exact(k.cut hy).2.1.trans (h.fc d e2 e3 hy)
  | false =>
   have h1:=h.hl;have h2:=h.high;rw[eb]at h1;rw[<-eb];exact k.fc (h.fin d) (by rw[eb];omega) hy e4
structure Fe(c:CS)(nx:Nat)(G:List SN)(f:Db):Prop where
 k2:f.kind=2->∀r∈f.rngs,r.2<nx
 k3:f.kind=3->∃k:Nat,k<8/\f.stream=(k:Int)/\(c.ws k).cut=true/\f.off=(c.ws k).final/\(c.ws k).keep<=f.rel
 k4:f.kind=4->∃k:Nat,k<8/\f.stream=(k:Int)/\f.off+f.data.length<=(c.ws k).high/\f.data=((c.ws k).b.drop f.off).take f.data.length/\(f.fin=true->IY (c.ws k)/\f.off+f.data.length=(c.ws k).b.length)
 k5:f.kind=5->f.lim<=c.grant
 k6:f.kind=6->∃k:Nat,k<8/\f.stream=(k:Int)/\f.lim<=(c.rs k).grant
 k7:f.kind=7->∃s∈G,s.id=f.id/\s.dl=f.dl/\s.data=f.data
 k8:f.kind≠8
structure EI(c c':CS):Prop where
 ws:∀k,k<8->FO (c.ws k) (c'.ws k)
 grant:c.grant<=c'.grant
 rg:∀k,k<8->(c.rs k).grant<=(c'.rs k).grant
variable{c:CS}
def EI.trans{a b:CS}(h:EI a b)(k:EI b c):EI a c:=⟨λj d=>(h.ws j d).trans (k.ws j d),AO h.grant k.grant,λj d=>AO (h.rg j d) (k.rg j d)⟩
variable{i:Nat}
def Ui{α : Type}{a b:List α}(h:a <+: b){n:Nat}(hn:i+n<=a.length):(b.drop i).take n=(a.drop i).take n:=by
 obtain⟨t,rfl⟩:=h;rw[List.drop_append_of_le_length (by omega),BC (by rw[Ad];omega)]
variable{G:List SN}{c':CS}{f:Db}{nx:Nat}
def Fe.mono{j:Nat}{p:List SN}(h:Fe c nx G f)(l:EI c c')(hh:∀k,k<8->(c.ws k).high<=(c.ws k).b.length)(hn:nx<=j)(hG:∀s∈G,∃s'∈p,s'.id=s.id/\s'.dl=s.dl/\s'.data=s.data):Fe c' j p f where
 k2:=λe r hr=>Aw (h.k2 e r hr) hn
 k3:=λe=>by
  obtain⟨k,k8,i,g,m,n⟩:=h.k3 e;obtain⟨a,b,d⟩:=(l.ws k k8).cut g;exact⟨k,k8,i,a,by rw[b];exact m,AO d n⟩
 k4:=λe=>by
  obtain⟨k,k8,i,g,m,n⟩:=h.k4 e;have w:=l.ws k k8;refine⟨k,k8,i,AO g w.high,?_,λef=>?_⟩
  ·rw[Ui w.b (AO g (hh k k8))];exact m
  ·obtain⟨a,b⟩:=n ef;obtain⟨a',b'⟩:=a.le w;exact⟨a',by rw[b'];exact b⟩
 k5:=λe=>AO (h.k5 e) l.grant
 k6:=λe=>by
  obtain⟨k,k8,i,g⟩:=h.k6 e;exact⟨k,k8,i,AO g (l.rg k k8)⟩
 k7:=λe=>by
  obtain⟨s,hs,i,g,m⟩:=h.k7 e;obtain⟨s',o,f1,f2,f3⟩:=hG s hs;exact⟨s',o,f1.trans i,f2.trans g,f3.trans m⟩
 k8:=h.k8
def Fe.canon(h:Fe c nx G f):Fe c nx G (canon f) where
 k2:=λe=>by
  have hk:f.kind=2:=by rw[Ih]at e;exact e
  have:(Go.Proofs.YtddfdpbaiedcjaaGreatDoor.canon f).rngs=f.rngs:=by simp[Go.Proofs.YtddfdpbaiedcjaaGreatDoor.canon,hk]
  rw[this];exact h.k2 hk
 k3:=λe=>by
  have hk:f.kind=3:=by rw[Ih]at e;exact e
  have a:(Go.Proofs.YtddfdpbaiedcjaaGreatDoor.canon f).stream=f.stream:=by simp[Go.Proofs.YtddfdpbaiedcjaaGreatDoor.canon,hk]
  have b:(Go.Proofs.YtddfdpbaiedcjaaGreatDoor.canon f).off=f.off:=by simp[Go.Proofs.YtddfdpbaiedcjaaGreatDoor.canon,hk]
  have d:(Go.Proofs.YtddfdpbaiedcjaaGreatDoor.canon f).rel=f.rel:=by simp[Go.Proofs.YtddfdpbaiedcjaaGreatDoor.canon,hk]
  rw[a,b,d];exact h.k3 hk
 k4:=λe=>by
  have hk:f.kind=4:=by rw[Ih]at e;exact e
  have a:(Go.Proofs.YtddfdpbaiedcjaaGreatDoor.canon f).stream=f.stream:=by simp[Go.Proofs.YtddfdpbaiedcjaaGreatDoor.canon,hk]
  have b:(Go.Proofs.YtddfdpbaiedcjaaGreatDoor.canon f).off=f.off:=by simp[Go.Proofs.YtddfdpbaiedcjaaGreatDoor.canon,hk]
  have d:(Go.Proofs.YtddfdpbaiedcjaaGreatDoor.canon f).data=f.data:=by simp[Go.Proofs.YtddfdpbaiedcjaaGreatDoor.canon,hk]
  have e4:(Go.Proofs.YtddfdpbaiedcjaaGreatDoor.canon f).fin=f.fin:=by simp[Go.Proofs.YtddfdpbaiedcjaaGreatDoor.canon,hk]
  rw[a,b,d,e4];exact h.k4 hk
 k5:=λe=>by
  have hk:f.kind=5:=by rw[Ih]at e;exact e
  have a:(Go.Proofs.YtddfdpbaiedcjaaGreatDoor.canon f).lim=f.lim:=by simp[Go.Proofs.YtddfdpbaiedcjaaGreatDoor.canon,hk]
  rw[a];exact h.k5 hk
 k6:=λe=>by
  have hk:f.kind=6:=by rw[Ih]at e;exact e
  have a:(Go.Proofs.YtddfdpbaiedcjaaGreatDoor.canon f).stream=f.stream:=by simp[Go.Proofs.YtddfdpbaiedcjaaGreatDoor.canon,hk]
  have b:(Go.Proofs.YtddfdpbaiedcjaaGreatDoor.canon f).lim=f.lim:=by simp[Go.Proofs.YtddfdpbaiedcjaaGreatDoor.canon,hk]
  rw[a,b];exact h.k6 hk
 k7:=λe=>by
  have hk:f.kind=7:=by rw[Ih]at e;exact e
  have a:(Go.Proofs.YtddfdpbaiedcjaaGreatDoor.canon f).id=f.id:=by simp[Go.Proofs.YtddfdpbaiedcjaaGreatDoor.canon,hk]
  have b:(Go.Proofs.YtddfdpbaiedcjaaGreatDoor.canon f).dl=f.dl:=by simp[Go.Proofs.YtddfdpbaiedcjaaGreatDoor.canon,hk]
  have d:(Go.Proofs.YtddfdpbaiedcjaaGreatDoor.canon f).data=f.data:=by simp[Go.Proofs.YtddfdpbaiedcjaaGreatDoor.canon,hk]
  rw[a,b,d];exact h.k7 hk
 k8:=by rw[Ih];exact h.k8
variable{rs:zC}
def Ve{n:Nat}:GP rs n ↔ ∃r∈rs,r.1<=n/\n<=r.2:=by
 constructor
 ·rintro⟨i,hi,h1,h2⟩;have e:=Ac (LH hi);exact⟨_,e,h1,h2⟩
 ·rintro⟨r,hr,h1,h2⟩;obtain⟨j,hj,e1,e2⟩:=Ll hr;exact⟨j,hj,by omega,by omega⟩
theorem Og:∀(rs:zC) (lo hi p:Nat),lo<=p->p<(Dk rs lo hi).1->∃r∈rs,r.1<=p/\p<=r.2
 | [],lo,hi,p,h1,h2=>by
  have h2:p<lo:=h2;omega
 | r::l,lo,hi,p,h1,h2=>by
  unfold Dk at h2;split at h2
  ·obtain⟨q,a,b⟩:=Og l lo hi p h1 h2;exact⟨q,Aj _ a,b⟩
  ·split at h2
   ·have h2:p<lo:=h2;omega
   ·by_cases hp:p<=r.2
    ·exact⟨r,Ae,by omega,hp⟩
    ·obtain⟨q,a,b⟩:=Og l (r.2+1) hi p (by omega) h2;exact⟨q,Aj _ a,b⟩
theorem Rx(h:WF rs):∀i,i<rs.length->2*i<=Da rs i
 | 0,_=>by omega
 | i+1,hi=>by
  have a:=Rx h i (by omega);have b:=(h.1 i (by omega)).1;have c:=h.2 i (i+1) (by omega) hi;omega
variable{H:Nat}
def Vd(h:WF rs)(hh:∀j,j<rs.length->DY rs j<H):rs.length<=H / 2+1:=by
 by_cases h0:rs.length=0
 ·omega
 ·have a:=Rx h (rs.length-1) (by omega);have b:=(h.1 (rs.length-1) (by omega)).1;have c:=hh (rs.length-1) (by omega);omega
structure Hq(s:Dh)(H:Nat):Prop where
 ok:s.Ok
 fl:s.fl=0
 hi:∀j,j<s.rs.length->DY s.rs j<H
 most:1025<=s.most
def Hq.mono{s:Dh}{a:Nat}(h:Hq s H)(hh:H<=a):Hq s a:=⟨h.ok,h.fl,λj hj=>Aw (h.hi j hj) hh,h.most⟩
variable{hi lo:Nat}
def Hq.add{s:Dh}(h:Hq s H)(hH:H<=2048)(hl:lo<=hi)(hh:hi<H):Hq (s.add lo hi) H/\∀n,GP (s.add lo hi).rs n↔GP s.rs n\/(lo<=n/\n<=hi):=by
 have hm:hi<=zB:=by unfold zB;omega
 have b:=h.ok.add lo hm;have hmo:=G8 s lo hi;have s1:=Lc (D6 s.rs (max lo s.fl)) s.rs.length;have s2:=Lc (D9 s.rs hi) s.rs.length;have d:=Lb h.ok.wf (show max lo s.fl<=hi by rw[h.fl];omega) s1 s2;have hw:=PQ h.ok.wf (show max lo s.fl<=hi by rw[h.fl];omega) (by omega) s1 s2;have g:=P3 (m:=max lo s.fl) (B:=H-1) d s2.1 (λj c=>by have:=h.hi j c;omega) (show hi<=H-1 by omega);have i:=Vd hw (H:=H) (λj c=>by have:=g j c;omega);have f:=XM h.ok.wf (show max lo s.fl<=hi by rw[h.fl];omega) s1 s2;have a:=h.most;have e:s.add lo hi=⟨EB s.rs (max lo s.fl) hi (Em (D6 s.rs (max lo s.fl)) s.rs.length) (Em (D9 s.rs hi) s.rs.length),s.fl,s.most⟩:=by
  unfold Dh.add;rw[AH (by rw[h.fl];omega),AH (by omega)]
 rw[e]at b ⊢;refine⟨⟨b,h.fl,λj c=>by have:=g j c;show DY (EB _ _ _ _ _) j<H;omega,a⟩,λn=>?_⟩;have:=f n;rw[h.fl,Nat.max_zero]at this;show GP (EB _ _ _ _ _) n↔_;rw[h.fl,Nat.max_zero];exact this
structure Dt(x:WS)(r:RS)(e:EN):Prop where
 hl:x.high<=x.b.length
 bl:x.b.length<=2048
 hc:x.high<=x.credit
 cg:x.credit<=r.grant
 hf:x.cut=true->x.high<=x.final
 rh:r.high<=x.high
 rl:r.b.length=r.high
 rd:r.read<=r.high
 low:Hq r.came r.high
 byt:∀p,GP r.came.rs p->r.b[p]?=x.b[p]?
 rc:r.cut=true->x.cut=true/\x.keep<=r.keep
 re:r.ended=true->Hz x r.fin
 rf:r.ended=true->r.cut=false->x.finished=true/\r.fin=x.b.length
 st:r.state<=2
 s1:r.state=1->x.finished=true/\r.read=x.b.length
 s2:r.state=2->x.cut=true/\x.keep<=r.read
 wr:e.wrote=x.b
 fi:e.fin=x.finished
 cu:e.cut=x.cut
 ke:x.cut=true->e.keep=x.keep
 er:e.read=r.read
 es:e.state=r.state
variable{p:Nat}
def Qb{s:Dh}(h:Hq s H)(hp:GP s.rs p):p<H:=by
 obtain⟨i,hi,_,h2⟩:=hp;have:=h.hi i hi;omega
def Dt.wle{r:RS}{e f:EN}(h:Dt x r e)(l:FO x y)(bl:y.b.length<=2048)(hc:y.high<=y.credit)(cg:y.credit<=r.grant)(hf:y.cut=true->y.high<=y.final)
  (wr:f.wrote=y.b) (fi:f.fin=y.finished) (cu:f.cut=y.cut) (ke:y.cut=true->f.keep=y.keep) (er:f.read=e.read) (es:f.state=e.state):Dt y r f where
 hl:=l.hl
 bl:=bl
 hc:=hc
 cg:=cg
 hf:=hf
 rh:=AO h.rh l.high
 rl:=h.rl
 rd:=h.rd
 low:=h.low
 byt:=λp g=>by
  have hp2:=Qb h.low g;have:=h.rh;have:=h.hl;rw[h.byt p g];obtain⟨t,ht⟩:=l.b;rw[<-ht,Ag (by omega)]
 rc:=λe=>by
  obtain⟨a,b⟩:=h.rc e;obtain⟨c,_,d⟩:=l.cut a;exact⟨c,AO d b⟩
 re:=λe=>(h.re e).le l
 rf:=λe1 e2=>by
  obtain⟨a,b⟩:=h.rf e1 e2;exact⟨l.fin a,by rw[l.fz (.inl a)];exact b⟩
 st:=h.st
 s1:=λe=>by
  obtain⟨a,b⟩:=h.s1 e;exact⟨l.fin a,by rw[l.fz (.inl a)];exact b⟩
 s2:=λe=>by
  obtain⟨a,b⟩:=h.s2 e;obtain⟨c,_,d⟩:=l.cut a;exact⟨c,AO d b⟩
 wr:=wr
 fi:=fi
 cu:=cu
 ke:=ke
 er:=er.trans h.er
 es:=es.trans h.es
def Dt.same{r:RS}{e:EN}(h:Dt x r e)(s:Et x y):Dt y r e :=
 h.wle (FO.of_same s h.hl) (by rw[s.b];exact h.bl) (by rw[s.high,s.credit];exact h.hc) (by rw[s.credit];exact h.cg) (by rw[s.cut,s.high,s.final];exact h.hf) (by rw[s.b];exact h.wr) (by rw[s.fin];exact h.fi) (by rw[s.cut];exact h.cu) (by rw[s.cut,s.keep];exact h.ke) rfl rfl
def Dt.grant{r:RS}{e:EN}(h:Dt x r e)(g:Nat)(a:Bool)(hg:r.grant<=g):Dt x { r with grant:=g,anew:=a } e :=
 {h with cg:=AO h.cg hg }
def Xh{b s:List UInt8}(h:i+s.length<=b.length)(p:Nat):(Hv b i s)[p]?=if i<=p/\p<i+s.length then s[p-i]? else b[p]?:=by
 unfold Hv;have hl:(b.take i).length=i:=by rw[AS];omega
 by_cases h1:p<i
 ·rw[AH (by omega),Ag (by omega),BE h1]
 ·rw[AV (by omega),hl];by_cases h2:p<i+s.length
  ·rw[AN ⟨by omega,h2⟩,Ag (by omega)]
  ·rw[AH (by omega),AV (by omega),A6]
   congr 1
   omega
variable{e:Nat}
theorem Qa{d:List UInt8}{off:Nat}{data:List UInt8}(hd:data=(d.drop off).take data.length)(he:e=off+data.length)(f:e<=H)(h:H<=2048):∀(n lo:Nat) (b:List UInt8) (s:Dh),off<=lo->b.length=H->Hq s H->(∀p,GP s.rs p->b[p]?=d[p]?) ->
  (Ek off data e n lo b s).1.length=H/\Hq (Ek off data e n lo b s).2 H/\∀p,GP (Ek off data e n lo b s).2.rs p->(Ek off data e n lo b s).1[p]?=d[p]?
 | 0,lo,b,s,_,h2,h3,h4=>⟨h2,h3,h4⟩
 | n+1,lo,b,s,h1,h2,h3,h4=>by
  unfold Ek;split
  ·rename_i hlt;split
   ·exact⟨h2,h3,h4⟩
   ·rename_i hg;obtain⟨g1,g2⟩:=Pg s.rs lo e hlt (by omega);have g3:=LP s.rs lo e;generalize Dk s.rs lo e=g at *;have a:((data.drop (g.1-off)).take (g.2-g.1)).length=g.2-g.1:=by
     rw[AS,Ad];omega
    obtain⟨l1,l2⟩:=h3.add h (lo:=g.1) (hi:=g.2-1) (by omega) (by omega);refine Qa hd he f h n g.2 _ _ (by omega) ?_ l1 (λp c=>?_)
    ·rw[MN _ _ _ (by rw[a];omega)];exact h2
    ·rw[Xh (by rw[a];omega),a];rcases(l2 p).1 c with c|c
     ·split
      ·rename_i hh;rw[BE (by omega),A6,hd,BE (by omega),A6]
       congr 1
       omega
      ·exact h4 p c
     ·rw[AN ⟨by omega,by omega⟩,BE (by omega),A6,hd,BE (by omega),A6]
      congr 1
      omega
  ·exact⟨h2,h3,h4⟩
theorem Dt.badEnd{r:RS}{e:EN}(h:Dt x r e)(h1:f.off+f.data.length<=x.high)(h3:f.fin=true->IY x/\f.off+f.data.length=x.b.length):r.badEnd f=false:=by
 have h1:f.end_<=x.high:=h1;have h3:f.fin=true->IY x/\f.end_=x.b.length:=h3;have hr:=h.rh;have hl:=h.hl;have e2:(f.fin&&decide (f.end_<r.high))=false:=by
  cases hf:f.fin with
  | false=>rfl
  | true =>
   obtain⟨a,b⟩:=h3 hf;have:=a.2.1;simp only[Bj,Ak];omega
 unfold RS.badEnd;rw[e2,Bool.or_false];cases he:r.ended with
 | false=>rfl
 | true =>
  have c:=h.re he;have hh:=c.high h.hf;rw[Bj,CH];refine⟨by simp only[Ak];omega,?_⟩;cases hf:f.fin with
  | false=>rfl
  | true =>
   obtain⟨a,b⟩:=h3 hf;have:=c.uniq (.inl ⟨a,b⟩);rw[Bj,this];simp
def Dt.data{r:RS}{e:EN}(h:Dt x r e)(h1:f.off+f.data.length<=x.high)(h2:f.data=(x.b.drop f.off).take f.data.length)(h3:f.fin=true->IY x/\f.off+f.data.length=x.b.length):Dt x (r.data f) e:=by
 have hr:=h.rh;have hl:=h.hl;have hb:=h.bl;have hrl:=h.rl;have he:f.end_=f.off+f.data.length:=rfl;obtain⟨l1,l2,l3⟩:=Qa h2 he (DE r.high f.end_) (by omega) (f.data.length+1) f.off (Is r.b (max r.high f.end_)) r.came (AG _) (by unfold Is;simp;omega) (h.low.mono (Bl _ _)) (λp c=>by
  have:=Qb h.low c;unfold Is;rw[Ag (by omega)];exact h.byt p c)
 exact
  {h with
   rh:=by show max r.high f.end_<=_;omega
   rl:=l1
   rd:=by have:=h.rd;show r.read<=max r.high f.end_;omega
   low:=l2
   byt:=l3
   rc:=h.rc
   re:=λq=>by
    have q:(r.ended||f.fin)=true:=q;show Hz x (if f.fin then f.end_ else r.fin);by_cases hf:f.fin=true
    ·rw[AN hf];obtain⟨a,b⟩:=h3 hf;exact .inl ⟨a,b⟩
    ·rw[AH hf];rw[Bm]at q;exact h.re (q.resolve_right hf)
   rf:=λq hc=>by
    have q:(r.ended||f.fin)=true:=q;show x.finished=true/\(if f.fin then f.end_ else r.fin)=x.b.length;by_cases hf:f.fin=true
    ·rw[AN hf];obtain⟨a,b⟩:=h3 hf;exact⟨a.1,b⟩
    ·rw[AH hf];rw[Bm]at q;exact h.rf (q.resolve_right hf) hc
   s1:=h.s1 }
theorem Dt.resetBad{r:RS}{e:EN}(h:Dt x r e)(hc:x.cut=true)(ho:f.off=x.final):((r.ended&&r.fin != f.off)||decide (f.off<r.high))=false:=by
 have hr:=h.rh;have hf:=h.hf hc;rw[CH];refine⟨?_,by simp only[Ak];omega⟩;cases he:r.ended with
 | false=>rfl
 | true =>
  have:=(h.re he).uniq (.inr ⟨hc,ho⟩);rw[Bj,this];simp
def Dt.reset{r:RS}{e:EN}(h:Dt x r e)(hc:x.cut=true)(ho:f.off=x.final)(hk:x.keep<=f.rel):Dt x (r.resetAt f) e :=
 {h with
  rc:=λ_=>⟨hc,by
   show x.keep<=(if !r.cut||decide (f.rel<r.keep)then f.rel else r.keep);split
   ·exact hk
   ·rename_i q;simp only[Bm,not_or,CZ,Bool.not_eq_false']at q;exact(h.rc q.1).2⟩
  re:=λ_=>.inr ⟨hc,ho⟩
  rf:=λ_ q=>by cases q }
def iC{r:RS}{e:EN}(h:Dt x r e)(most:Nat):r.read<=r.readTo most/\r.readTo most<=r.read+most/\r.readTo most<=r.high/\∀p,r.read<=p->p<r.readTo most->GP r.came.rs p:=by
 have a:=So r.came.rs r.read r.high;have b:=SG r.came.rs (H:=r.high) r.read r.high h.rd (λq hq=>by obtain⟨j,hj,_,e⟩:=Ll hq;rw[<-e];exact h.low.hi j hj);have c:=λp h1 h2=>Ve.2 (Og r.came.rs r.read r.high p h1 h2)
 have d:=h.rd;unfold RS.readTo;generalize Dk r.came.rs r.read r.high=g at *;split
 ·exact⟨by omega,by omega,by omega,λp h1 h2=>c p h1 (by omega)⟩
 ·exact⟨by omega,by omega,by omega,λp h1 h2=>c p h1 (by omega)⟩
def Dt.bytes{r:RS}{e:EN}(h:Dt x r e)(E:Nat)(h1:r.read<=E)(h2:E<=r.high)(h3:∀p,r.read<=p->p<E->GP r.came.rs p):(r.b.drop r.read).take (E-r.read)=(x.b.drop r.read).take (E-r.read):=by
 apply List.ext_getElem?;intro p;by_cases a:p<E-r.read
 ·rw[BE a,BE a,A6,A6];exact h.byt _ (h3 _ (by omega) (by omega))
 ·rw[Bo (by rw[AS];omega),Bo (by rw[AS];omega)]
def Dt.read0{r:RS}{e:EN}(h:Dt x r e)(most:Nat)(h0:r.state=0):e.wrong most ((r.b.drop r.read).take (r.readTo most-r.read),r.stateAt (r.readTo most),0)=false /\
  (e.more ((r.b.drop r.read).take (r.readTo most-r.read),r.stateAt (r.readTo most),0)).fits=true /\
  Dt x { r with read:=r.readTo most,state:=r.stateAt (r.readTo most) } (e.more ((r.b.drop r.read).take (r.readTo most-r.read),r.stateAt (r.readTo most),0)):=by
 obtain⟨a,b,c,d⟩:=iC h most;have hb:=h.bytes _ a c d;have hr:=h.rh;have hl:=h.hl;have hrl:=h.rl;generalize hE:r.readTo most=E at *;have f:((r.b.drop r.read).take (E-r.read)).length=E-r.read:=by
  rw[AS,Ad];omega
 have t1:r.stateAt E=1->x.finished=true/\E=x.b.length:=λq=>by
  unfold RS.stateAt at q;split at q
  ·cases q
  ·split at q
   ·rename_i hh;simp only[AZ,Cl,Cd]at hh;obtain⟨p1,p2⟩:=h.rf hh.1.2 hh.1.1;exact⟨p1,by omega⟩
   ·cases q
 have l:r.stateAt E=2->x.cut=true/\x.keep<=E:=λq=>by
  unfold RS.stateAt at q;split at q
  ·rename_i hh;simp only[AZ,Af]at hh;obtain⟨p1,p2⟩:=h.rc hh.1;exact⟨p1,by omega⟩
  ·split at q<;>cases q
 have t3:r.stateAt E<=2:=by
  unfold RS.stateAt;split
  ·omega
  ·split<;>omega
 generalize r.stateAt E=ST at *;have g:=h.er;have i:=h.wr;have j:=h.es;refine⟨?_,?_,?_⟩
 ·unfold EN.wrong;simp only[f,g,i,j,h0];rw[hb];have e1:decide (most<E-r.read)=false:=by simp only[Ak];omega
  have e2:decide (x.b.length<r.read+(E-r.read))=false:=by simp only[Ak];omega
  rw[e1,e2];simp
 ·unfold EN.fits EN.more;simp only[f,g];have e3:r.read+(E-r.read)=E:=by omega
  rw[e3];by_cases m:ST=0
  ·rw[AN m]
  ·rw[AH m];by_cases k:ST=1
   ·rw[AN k];obtain⟨p1,p2⟩:=t1 k;rw[h.fi,p1,h.wr,p2];simp
   ·rw[AH k];have n:ST=2:=by omega
    rw[AN n];obtain⟨p1,p2⟩:=l n;rw[h.cu,p1,h.ke p1];simp;exact p2
 ·exact
   {h with
    rd:=c
    st:=t3
    s1:=t1
    s2:=l
    er:=by show e.read+((r.b.drop r.read).take (E-r.read)).length=E;rw[f,g];omega
    es:=rfl }
def Dt.read1{r:RS}{e:EN}(h:Dt x r e)(most:Nat)(h0:r.state≠0):e.wrong most ([],r.state,0)=false/\(e.more ([],r.state,0)).fits=true/\Dt x r (e.more ([],r.state,0)):=by
 have a:=h.er;have d:=h.wr;have c:=h.es;have hr:=h.rh;have hl:=h.hl;have hd:=h.rd;have e0:e.more ([],r.state,0)=e:=by
  unfold EN.more;rw[<-c];rfl
 rw[e0];refine⟨?_,?_,h⟩
 ·unfold EN.wrong;simp only[AX,a,d,c];have e2:decide (x.b.length<r.read+0)=false:=by simp only[Ak];omega
  rw[e2];simp
 ·unfold EN.fits;rw[c,AH h0];by_cases f:r.state=1
  ·rw[AN f];obtain⟨p1,p2⟩:=h.s1 f;rw[h.fi,p1,h.wr,a,p2];simp
  ·rw[AH f];have:=h.st;have g:r.state=2:=by omega
   rw[AN g];obtain⟨p1,p2⟩:=h.s2 g;rw[h.cu,p1,h.ke p1,a];simp;exact p2
structure FQ(x y:WS):Prop where
 b:y.b=x.b
 fin:y.finished=x.finished
 cut:y.cut=x.cut
 keep:y.keep=x.keep
 final:y.final=x.final
 credit:y.credit=x.credit
 high:x.high<=y.high
 hl:y.high<=y.b.length
 hc:y.high<=y.credit
 hf:y.cut=true->y.high<=y.final
def FQ.le(h:FQ x y):FO x y where
 b:=by rw[h.b];exact Co _
 fz:=λ_=>h.b
 high:=h.high
 hl:=h.hl
 fin:=λe=>by rw[h.fin];exact e
 cut:=λe=>⟨by rw[h.cut];exact e,h.final,by rw[h.keep];exact AG _⟩
 fc:=λ_ _ e a=>by rw[h.cut,e]at a;cases a
def FQ.trans{z:WS}(h:FQ x y)(k:FQ y z):FQ x z:=⟨k.b.trans h.b,k.fin.trans h.fin,k.cut.trans h.cut,k.keep.trans h.keep,k.final.trans h.final,k.credit.trans h.credit,AO h.high k.high,k.hl,k.hc,k.hf⟩
def FQ.self(h:FQ x y):FQ y y:=⟨rfl,rfl,rfl,rfl,rfl,rfl,AG _,h.hl,h.hc,h.hf⟩
def Dt.put{r:RS}{e:EN}(h:Dt x r e)(p:FQ x y):Dt y r e :=
 h.wle p.le (by rw[p.b];exact h.bl) p.hc (by rw[p.credit];exact h.cg) p.hf (by rw[p.b];exact h.wr) (by rw[p.fin];exact h.fi) (by rw[p.cut];exact h.cu) (by rw[p.cut,p.keep];exact h.ke) rfl rfl
def Dt.wput{r:RS}{e:EN}(h:Dt x r e):FQ x x:=⟨rfl,rfl,rfl,rfl,rfl,rfl,AG _,h.hl,h.hc,h.hf⟩
structure Dw(c:CS)(G:List SN):Prop where
 w:∀k,k<8->FQ (c.ws k) (c.ws k)
 kf:∀k,k<8->(c.ws k).keep<=(c.ws k).final
 sp:c.spent<=c.credit
 wt:∀f∈c.waits,f.kind=7/\c.now<=f.dl/\∃s∈G,s.id=f.id/\s.dl=f.dl/\s.data=f.data
structure E4(c c':CS):Prop where
 ws:∀k,k<8->FQ (c.ws k) (c'.ws k)
 grant:c.grant<=c'.grant
 rg:∀k,k<8->(c.rs k).grant<=(c'.rs k).grant
 now:c'.now=c.now
 credit:c'.credit=c.credit
def E4.sle(h:E4 c c'):EI c c':=⟨λk hk=>(h.ws k hk).le,h.grant,h.rg⟩
def E4.trans{a b:CS}(h:E4 a b)(k:E4 b c):E4 a c:=⟨λj d=>(h.ws j d).trans (k.ws j d),AO h.grant k.grant,λj d=>AO (h.rg j d) (k.rg j d),k.now.trans h.now,k.credit.trans h.credit⟩
def E4.refl(h:Dw c G):E4 c c:=⟨h.w,AG _,λ_ _=>AG _,rfl,rfl⟩
structure FP(nx:Nat)(G:List SN)(c:CS)(d:Dd)(r:Bool)(c':CS)(d':Dd):Prop where
 ok:Dw c' G
 le:E4 c c'
 yes:r=true->∃f,d.add f=some d'/\Fe c' nx G f/\(f.kind=7->c.now<=f.dl)
variable{d d':Dd}
def FP.none(h:Dw c G):FP nx G c d false c d':=⟨h,E4.refl h,λe=>(by cases e)⟩
variable{k:Nat}
def Kg{n:Nat}(hk:k<8)(h:n<=(c.rs k).grant):Fe c nx G (Gu k n) :=
 ⟨λe=>(by cases e),λe=>(by cases e),λe=>(by cases e),λe=>(by cases e),λ_=>⟨k,hk,rfl,h⟩,λe=>(by cases e),by simp[Gu]⟩
def Kh{n:Nat}(h:n<=c.grant):Fe c nx G (Gd n) :=
 ⟨λe=>(by cases e),λe=>(by cases e),λe=>(by cases e),λ_=>h,λe=>(by cases e),λe=>(by cases e),by simp[Gd]⟩
def Ki(hk:k<8)(hc:(c.ws k).cut=true):Fe c nx G (Ht k (c.ws k).final (c.ws k).keep) :=
 ⟨λe=>(by cases e),λ_=>⟨k,hk,rfl,hc,rfl,AG _⟩,λe=>(by cases e),λe=>(by cases e),λe=>(by cases e),λe=>(by cases e),by simp[Ht]⟩
theorem Qs(h:Dw c G):∀n k t,n+k=8->∀x,(ctlR c d n k t).1=some x->FP nx G c d true x.1 x.2
 | 0,_,_,_,x,hx=>by cases hx
 | n+1,k,t,hk,x,hx=>by
  have a:=Qs h n (k+1) (min (t+(c.rs k).used) zB) (by omega);unfold ctlR at hx;split at hx
  ·split at hx
   ·rename_i d' hd;cases hx;have hg:∀j,j<8->(c.rs j).grant<=((upd c.rs k { c.rs k with grant:=max (c.rs k).grant ((c.rs k).used+c.window),anew:=false }) j).grant:=λj _=>by
     by_cases e:j=k
     ·subst e;rw[ze];exact Bl _ _
     ·rw[zd _ _ e];exact AG _
    refine⟨⟨h.w,h.kf,h.sp,h.wt⟩,⟨h.w,AG _,hg,rfl,rfl⟩,λ_=>⟨_,hd,Kg (by omega) ?_,λe=>(by cases e)⟩⟩;show _<=(upd c.rs k _ k).grant;rw[ze];exact AG _
   ·exact a x hx
  ·exact a x hx
theorem Of(h:Dw c G):∀n k,n+k=8->∀x,Eg c d n k=some x->FP nx G c d true x.1 x.2
 | 0,_,_,x,hx=>by cases hx
 | n+1,k,hk,x,hx=>by
  have f:=Of h n (k+1) (by omega);unfold Eg at hx;split at hx
  ·rename_i hcut;simp only[AZ]at hcut;split at hx
   ·rename_i d' hd;cases hx;have b:∀j,j<8->FQ (c.ws j) (upd c.ws k { c.ws k with telling:=true } j):=λj a=>by
     by_cases e:j=k
     ·subst e;rw[ze];have w:=h.w j a;exact⟨rfl,rfl,rfl,rfl,rfl,rfl,AG _,w.hl,w.hc,w.hf⟩
     ·rw[zd _ _ e];exact h.w j a
    have hs:∀n,zG (upd c.ws k { c.ws k with telling:=true }) n=zG c.ws n:=λn=>by
     induction n with
     | zero=>rfl
     | succ n ih2 =>
      show zG _ n+(upd c.ws k _ n).high=zG c.ws n+(c.ws n).high;rw[ih2]
      congr 1
      by_cases e:n=k
      ·subst e;rw[ze]
      ·rw[zd _ _ e]
    refine⟨⟨λj a=>(b j a).self,λj a=>?_,?_,h.wt⟩,⟨b,AG _,λ_ _=>AG _,rfl,rfl⟩,λ_=>⟨_,hd,?_,λe=>(by cases e)⟩⟩
    ·show(upd c.ws k _ j).keep<=(upd c.ws k _ j).final;have p:=b j a;have:=h.kf j a;rw[p.keep,p.final];exact this
    ·show zG _ 8<=c.credit;rw[hs];exact h.sp
    ·have q:=Ki (c:={ c with ws:=upd c.ws k { c.ws k with telling:=true } }) (nx:=nx) (G:=G) (k:=k) (by omega) (by show(upd c.ws k _ k).cut=true;rw[ze];exact hcut.1);have q2:(({ c with ws:=upd c.ws k { c.ws k with telling:=true } }:CS).ws k)={ c.ws k with telling:=true }:=ze _ _ _;rw[q2]at q;exact q
   ·exact f x hx
  ·exact f x hx
def Xg(h:Dw c G){x:CS×Dd}(a:c.control d=some x):FP nx G c d true x.1 x.2:=by
 unfold CS.control at a;split at a
 ·rename_i y hy;cases a;exact Qs h 8 0 c.total rfl _ hy
 ·unfold JW at a;split at a
  ·split at a
   ·rename_i d' hd;cases a;exact⟨⟨h.w,h.kf,h.sp,h.wt⟩,⟨h.w,DE _ _,λ_ _=>AG _,rfl,rfl⟩,λ_=>⟨_,hd,Kh (AG _),λe=>(by cases e)⟩⟩
   ·exact Of h 8 0 rfl x a
  ·exact Of h 8 0 rfl x a
def Uh(h:Dw c G){x:CS×Dd}(i:c.datagrams d=some x):FP nx G c d true x.1 x.2:=by
 unfold CS.datagrams at i;split at i
 ·cases i
 ·rename_i f l hw;obtain⟨d',h1,h2⟩:=CM.1 i;subst h2;obtain⟨a,b,e⟩:=h.wt f (by rw[hw];exact Ae);exact⟨⟨h.w,h.kf,h.sp,λg hg=>h.wt g (by rw[hw];exact Aj _ hg)⟩,⟨h.w,AG _,λ_ _=>AG _,rfl,rfl⟩,λ_=>⟨f,h1,⟨λe=>(by rw[a]at e;cases e),λe=>(by rw[a]at e;cases e),λe=>(by rw[a]at e;cases e),λe=>(by rw[a]at e;cases e),λe=>(by rw[a]at e;cases e),λ_=>e,by rw[a];decide⟩,λ_=>b⟩⟩
theorem Pu(ws:Nat->WS)(k:Nat)(x:WS):∀n,k<n->zG (upd ws k x) n+(ws k).high=zG ws n+x.high
 | 0,h=>absurd h (BA _)
 | n+1,h=>by
  show zG (upd ws k x) n+(upd ws k x n).high+(ws k).high=zG ws n+(ws n).high+x.high;by_cases e:n=k
  ·subst e;have:∀m,m<=n->zG (upd ws n x) m=zG ws m:=λm=>by
    induction m with
    | zero=>intro _;rfl
    | succ m ih =>
     intro hm;show zG (upd ws n x) m+(upd ws n x m).high=zG ws m+(ws m).high;rw[ih (by omega),zd _ _ (by omega)]
   rw[this n (AG n),ze];omega
  ·rw[zd _ _ e];have:=Pu ws k x n (by omega);omega
def TW(h:Dw c G){fin:Bool}(hk:k<8)(hlo:lo<=hi)(l:hi<=c.endOf k)(hf:fin=true->(c.ws k).fin=true/\hi=(c.ws k).b.length):FP nx G c d (c.bytesAdd d k lo hi fin).1 (c.bytesAdd d k lo hi fin).2.1 (c.bytesAdd d k lo hi fin).2.2:=by
 unfold CS.bytesAdd;split
 ·exact FP.none h
 ·rename_i d' hd;have w:=h.w k hk;have hl:=w.hl;have e0:=AO l (PP c k);have h0:hi<=(c.ws k).b.length/\hi<=(c.ws k).credit/\hi+c.spent<=(c.ws k).high+c.credit:=by
   have:=h.sp;unfold CS.end0 at e0;omega
  have m:(c.ws k).cut=true->hi<=(c.ws k).final:=λe=>by
   have:=h.kf k hk;unfold CS.endOf at l;rw[AN e]at l;omega
  obtain⟨x,n⟩:∃x,x=({ c.ws k with sent:=if lo<hi then(c.ws k).sent.add lo (hi-1)else(c.ws k).sent,ending:=(c.ws k).ending||fin,high:=max (c.ws k).high hi }:WS):=⟨_,rfl⟩;have g:FQ (c.ws k) x:=by
   rw[n];have:=w.hc;exact⟨rfl,rfl,rfl,rfl,rfl,rfl,Bl _ _,by show max _ _<=(c.ws k).b.length;omega,by show max _ _<=(c.ws k).credit;omega,λe=>by have:=w.hf e;have:=m e;show max _ _<=(c.ws k).final;omega⟩
  have q:x.high=max (c.ws k).high hi:=by rw[n]
  rw[<-n];have o:∀j,j<8->FQ (c.ws j) (upd c.ws k x j):=λj i=>by
   by_cases e:j=k
   ·subst e;rw[ze];exact g
   ·rw[zd _ _ e];exact h.w j i
  refine⟨⟨λj i=>(o j i).self,λj i=>?_,?_,h.wt⟩,⟨o,AG _,λ_ _=>AG _,rfl,rfl⟩,λ_=>⟨_,hd,?_,λe=>(by cases e)⟩⟩
  ·have p:=o j i;have:=h.kf j i;show(upd c.ws k x j).keep<=(upd c.ws k x j).final;rw[p.keep,p.final];exact this
  ·have:=Pu c.ws k x 8 hk;have:=h.sp;unfold CS.spent at *;show zG (upd c.ws k x) 8<=c.credit;omega
  ·have f:(((c.ws k).b.drop lo).take (hi-lo)).length=hi-lo:=by
    rw[AS,Ad];omega
   refine⟨λe=>(by cases e),λe=>(by cases e),λ_=>⟨k,hk,rfl,?_,?_,λef=>?_⟩,λe=>(by cases e),λe=>(by cases e),λe=>(by cases e),by simp[EU]⟩
   ·show lo+(((c.ws k).b.drop lo).take (hi-lo)).length<=(upd c.ws k x k).high;rw[ze,f,q];omega
   ·show((c.ws k).b.drop lo).take (hi-lo)=((upd c.ws k x k).b.drop lo).take (((c.ws k).b.drop lo).take (hi-lo)).length;rw[ze,f,g.b]
   ·obtain⟨a,b⟩:=hf ef;unfold WS.fin at a;simp only[AZ,Cl]at a;show IY (upd c.ws k x k)/\lo+(((c.ws k).b.drop lo).take (hi-lo)).length=(upd c.ws k x k).b.length;rw[ze,f];refine⟨⟨by rw[g.fin];exact a.1,by rw[q,g.b];omega,λe=>by rw[g.cut,a.2]at e;cases e⟩,by rw[g.b];omega⟩
def Rw(h:Dw c G)(hk:k<8)(a:lo<=hi)(hh:hi<=c.endOf k):FP nx G c d (c.bytesR d k lo hi).1 (c.bytesR d k lo hi).2.1 (c.bytesR d k lo hi).2.2:=by
 unfold CS.bytesR;split
 ·split
  ·exact FP.none h
  ·exact TW h hk (by omega) (by omega) (λe=>by cases e)
 ·exact TW h hk a hh (λe=>by
   simp only[AZ,Cd]at e;exact e)
def Ug(h:Dw c G)(hk:k<8):FP nx G c d (c.bytes d k).1 (c.bytes d k).2.1 (c.bytes d k).2.2:=by
 unfold CS.bytes;split
 ·exact FP.none h
 ·split
  ·split
   ·exact FP.none h
   ·rename_i hc;simp only[Bm,Af,not_or,Nat.not_lt]at hc;exact Rw h hk (AG _) hc.2
  ·exact Rw h hk (by omega) (LP _ _ _)
variable{q:Nat}
theorem Ma(h:Dw c G)(a:q<10):FP nx G c d (c.put d q).1 (c.put d q).2.1 (c.put d q).2.2:=by
 match q,a with
 | 0,_ =>
  show FP nx G c d (c.control d).isSome ((c.control d).getD (c,d)).1 ((c.control d).getD (c,d)).2;cases hc:c.control d with
  | none=>exact FP.none h
  | some x=>exact Xg h hc
 | 1,_ =>
  show FP nx G c d (c.datagrams d).isSome ((c.datagrams d).getD (c,d)).1 ((c.datagrams d).getD (c,d)).2;cases hc:c.datagrams d with
  | none=>exact FP.none h
  | some x=>exact Uh h hc
 | k+2,a=>exact Ug h (by omega)
structure DS(num nx:Nat)(G:List SN)(c:CS)(d:Dd):Prop where
 b:d.b=Fg num d.fs
 fr:∀f∈d.fs,(zT f=true/\f.data.length<4611686018427387904/\f.rngs.length<4611686018427387904)/\Fe c nx G f/\(f.kind=7->c.now<=f.dl)
variable{num:Nat}
def DS.mono(h:DS num nx G c d)(s:Dw c G)(l:E4 c c'):DS num nx G c' d :=
 ⟨h.b,λf hf=>by
  obtain⟨a,b,e⟩:=h.fr f hf;exact⟨a,b.mono l.sle (λk hk=>(s.w k hk).hl) (AG _) (λs hs=>⟨s,hs,rfl,rfl,rfl⟩),by rw[l.now];exact e⟩⟩
def Vc{g:Db}(h:d.add f=some d')(k:d.add g=some d'):f=g:=by
 obtain⟨_,e2,_⟩:=Dd.add_some h;obtain⟨_,a,_⟩:=Dd.add_some k;have:=e2.symm.trans a;simpa using this
def DS.add(h:DS num nx G c d)(ha:d.add f=some d')(hs:zT f=true/\f.data.length<4611686018427387904/\f.rngs.length<4611686018427387904)(hf:Fe c nx G f)(h7:f.kind=7->c.now<=f.dl):DS num nx G c d':=by
 obtain⟨e1,a,_⟩:=Dd.add_some ha;refine⟨by rw[e1,a,h.b];simp[Fg],λg hg=>?_⟩;rw[a]at hg;rcases An.1 hg with x|x
 ·exact h.fr g x
 ·rw[Ab.1 x];exact⟨hs,hf,h7⟩
theorem DS.put(h:DS num nx G c d)(hc:c.Ok)(s:Dw c G)(i:q<10):DS num nx G (c.put d q).2.1 (c.put d q).2.2/\Dw (c.put d q).2.1 G/\E4 c (c.put d q).2.1:=by
 have p:=Lr (d:=d) hc i;have t:=Ma (d:=d) (nx:=nx) s i;refine⟨?_,t.ok,t.le⟩;have a:=h.mono s t.le;generalize hr:(c.put d q).1=r at p t;cases r with
 | true =>
  obtain⟨f,hf,_,ha⟩:=p.yes rfl;obtain⟨g,j,g1,g2⟩:=t.yes rfl;have e:=Vc j ha;subst e;exact a.add j ⟨hf.sound,by have:=hf.data;omega,by rw[hf.rn];simp⟩ g1 (λx=>by rw[t.le.now];exact g2 x)
 | false =>
  obtain⟨_,e|e⟩:=p.no rfl
  ·rw[e];exact a
  ·rw[e];exact⟨a.b,a.fr⟩
theorem Qr(f:q<10):∀n (c:CS) (d:Dd),c.Ok->Dw c G->DS num nx G c d->DS num nx G (CS.reps q n c d).1 (CS.reps q n c d).2/\Dw (CS.reps q n c d).1 G/\E4 c (CS.reps q n c d).1
 | 0,c,d,_,s,h=>⟨h,s,E4.refl s⟩
 | n+1,c,d,hc,s,h=>by
  have p:=Lr (d:=d) hc f;obtain⟨a,b,e⟩:=h.put hc s f;unfold CS.reps;split
  ·obtain⟨a',b',e'⟩:=Qr f n _ _ p.ok b a;exact⟨a',b',e.trans e'⟩
  ·exact⟨a,b,e⟩
theorem Qu:∀n (c:CS) (d:Dd),n<=10->c.Ok->d.Ok->Dw c G->DS num nx G c d->DS num nx G (CS.fillN n c d).1 (CS.fillN n c d).2/\Dw (CS.fillN n c d).1 G/\E4 c (CS.fillN n c d).1
 | 0,c,d,_,_,_,s,h=>⟨h,s,E4.refl s⟩
 | n+1,c,d,hn,hc,hd,s,h=>by
  have r:=Oz (q:=9-n) (by omega) (d.room+1) c d hc hd;obtain⟨a,b,e⟩:=Qr (q:=9-n) (by omega) (d.room+1) c d hc s h;unfold CS.fillN;obtain⟨a',b',e'⟩:=Qu n _ _ (by omega) r.1 r.2.1 b a;exact⟨a',b',e.trans e'⟩
def Vb{l:zC}(h:∀r∈l,r.2<nx):Fe c nx G (ackF l) :=
 ⟨λ_=>h,λe=>(by cases e),λe=>(by cases e),λe=>(by cases e),λe=>(by cases e),λe=>(by cases e),by simp[ackF]⟩
theorem DS.told(h:DS num nx G c d){l:zC}(hl:Gt l)(hn:l.length<=1048576)(a:∀r∈l,r.2<nx):DS num nx G c (zr d l).1/\∀r∈(zr d l).2,r.2<nx:=by
 unfold zr;split
 ·exact⟨h,a⟩
 ·rename_i h0;have hp:1<=l.length:=BU.2 h0;have t1:=Pn d l l.length hp;have t2:=RZ d l l.length;refine⟨?_,λr b=>a r (CE b)⟩;show DS num nx G c ((d.add (ackF (l.take (Ew d l l.length)))).getD d);cases ha:d.add (ackF (l.take (Ew d l l.length)))with
  | none=>exact h
  | some d' =>
   refine h.add ha ⟨hl.tell _ t1 t2,by simp[ackF],?_⟩ (Vb λr b=>a r (Be b)) (λe=>by cases e);show(l.take _).length<_;rw[AS];omega
structure IA(c:CS)(nx:Nat)(G:List SN)(b:List UInt8):Prop where
 sealed:∃l,b=l++EG (Dv l)
 dec:∃num fs,dec b = .ok num fs/\num<c.next/\∀f∈fs,Fe c nx G f
def IA.mono{e:Nat}{i:List SN}{b:List UInt8}(h:IA c nx G b)(l:EI c c')(hh:∀k,k<8->(c.ws k).high<=(c.ws k).b.length)(hx:c.next<=c'.next)(hn:nx<=e)(hG:∀s∈G,∃s'∈i,s'.id=s.id/\s'.dl=s.dl/\s'.data=s.data):IA c' e i b:=by
 obtain⟨g,fs,a,b,d⟩:=h.dec;exact⟨h.sealed,g,fs,a,by omega,λf hf=>(d f hf).mono l hh hn hG⟩
variable{fs:List Db}{now:Nat}
def cQ(h:∀f∈fs,f.kind=7->now<=f.dl):(fs.map canon).any (E8 now)=false:=by
 rw[Ck];intro g hg;obtain⟨f,hf,rfl⟩:=BT.1 hg;unfold E8;rw[Ih];by_cases hk:f.kind=7
 ·have:=h f hf hk;have e2:(canon f).dl=f.dl:=by simp[canon,hk]
  rw[e2];simp;omega
 ·simp[hk]
theorem Qq:∀(m:Nat) (c:CS) (l:zC) (n:NS) (i:Nat),Gs c l->Dw c G->(∀r∈l,r.2<nx)->n.mtu=c.mtu->n.count i=c.next->n.now=c.now ->
  (NS.flushL i (CS.pkts m c l).1 n).1=true/\(∃bg,(NS.flushL i (CS.pkts m c l).1 n).2={ n with count:=upd n.count i (CS.pkts m c l).2.next,bag:=n.bag++bg }/\∀p∈bg,p.1=1-i/\IA (CS.pkts m c l).2 nx G p.2)/\Dw (CS.pkts m c l).2 G/\E4 c (CS.pkts m c l).2/\c.next<=(CS.pkts m c l).2.next
 | 0,c,l,n,i,hk,s,hx,hm,hc,hn=>by
  refine⟨rfl,⟨[],?_,λp o=>(by cases o)⟩,s,E4.refl s,AG _⟩;show n={ n with count:=upd n.count i c.next,bag:=n.bag++[] };rw[<-hc,Fj,Bh]
 | m+1,c,l,n,i,hk,s,hx,hm,hc,hn=>by
  obtain⟨y,r2,r3,z,r5,r6,r7⟩:=hk.round;have A:=hk.next;have d0:DS c.next nx G c c.pkDraft:=⟨by show zM c.next=Fg c.next [];simp[Fg],λf hf=>(by cases hf)⟩;obtain⟨d1,B⟩:=d0.told hk.desc hk.len hx;have t:=Ng (Ix hk.ok) l;unfold CS.pkts;have hF:DS c.next nx G (c.pkFill (zr c.pkDraft l).1).1 (c.pkFill (zr c.pkDraft l).1).2/\Dw (c.pkFill (zr c.pkDraft l).1).1 G/\E4 c (c.pkFill (zr c.pkDraft l).1).1/\((c.pkFill (zr c.pkDraft l).1).2.fs≠[]->(c.pkFill (zr c.pkDraft l).1).2.b.length+4<=c.mtu)/\(c.pkFill (zr c.pkDraft l).1).1.mtu=c.mtu:=by
   have h0:Ej (zr c.pkDraft l).1:=Ej.told ⟨λf hf=>(by cases hf),λx=>absurd rfl x⟩ l;have q:=Pe 10 c (zr c.pkDraft l).1 (AG _) hk.ok y;unfold CS.pkFill;split
   ·obtain⟨f1,f2,f3⟩:=Qu 10 c (zr c.pkDraft l).1 (AG _) hk.ok y s d1;refine⟨f1,f2,f3,λd=>?_,q.2.2.2.2.2.2.2.2.2.2.1⟩;have a:=(h0.fillN 10 c (zr c.pkDraft l).1 (AG _) hk.ok y).fit d;have b:(CS.fillN 10 c (zr c.pkDraft l).1).2.room=c.mtu:=q.2.2.1.trans t.2.1;show(CS.fillN 10 c (zr c.pkDraft l).1).2.b.length+4<=_;omega
   ·refine⟨d1,s,E4.refl s,λd=>?_,rfl⟩;have a:=h0.fit d;have b:(zr c.pkDraft l).1.room=c.mtu:=t.2.1;show(zr c.pkDraft l).1.b.length+4<=_;omega
  obtain⟨f1,f2,f3,u,C⟩:=hF;by_cases d:(c.pkFill (zr c.pkDraft l).1).2.fs=[]
  ·rw[AN d];refine⟨rfl,⟨[],?_,λp o=>(by cases o)⟩,f2,f3,BX z.symm⟩;show n={ n with count:=upd n.count i (c.pkFill (zr c.pkDraft l).1).1.next,bag:=n.bag++[] };rw[z,<-hc,Fj,Bh]
  ·rw[AH d];obtain⟨k1,_⟩:=r7 d;have hfl:=u d;generalize c.pkFill (zr c.pkDraft l).1=F at *;generalize (zr c.pkDraft l).2=l2 at *;have h:dec (EP F.2.b) = .ok c.next (F.2.fs.map canon):=by
    unfold EP;rw[TZ,f1.b];exact SA c.next F.2.fs (by unfold zB at A;omega) (BU.2 d) (λf hf=>(f1.fr f hf).1)
   have v:(EP F.2.b).length=F.2.b.length+4:=by unfold EP;rw[AF,SC]
   have s2:Dw (F.1.pkDone F.2) G:=⟨f2.w,f2.kf,f2.sp,f2.wt⟩;have p2:E4 F.1 (F.1.pkDone F.2):=⟨f2.w,AG _,λ_ _=>AG _,rfl,rfl⟩;have D:(F.1.pkDone F.2).next=c.next+1:=by show F.1.next+1=_;rw[z]
   obtain⟨i1,⟨bg,i2,i3⟩,i4,E,i6⟩:=Qq m (F.1.pkDone F.2) l2 { n with count:=upd n.count i (n.count i+1),bag:=n.bag++[(1-i,EP F.2.b)] } i k1 s2 B (by show n.mtu=F.1.mtu;rw[hm,C]) (by show upd n.count i (n.count i+1) i=_;rw[ze,hc,D]) (by show n.now=F.1.now;rw[hn,f3.now]);have e:NS.flushL i (EP F.2.b::(CS.pkts m (F.1.pkDone F.2) l2).1) n=NS.flushL i (CS.pkts m (F.1.pkDone F.2) l2).1 { n with count:=upd n.count i (n.count i+1),bag:=n.bag++[(1-i,EP F.2.b)] }:=by
    rw[NS.flushL,h];simp only;rw[AH (by
     rw[v,hm,hc];rintro(x|x|x)
     ·omega
     ·exact x rfl
     ·exact d (by simpa using x)),cQ (λf hf h7=>by rw[hn,<-f3.now];exact(f1.fr f hf).2.2 h7)]
    rfl
   show(NS.flushL i (EP F.2.b::(CS.pkts m (F.1.pkDone F.2) l2).1) n).1=true/\(∃bg,(NS.flushL i (EP F.2.b::(CS.pkts m (F.1.pkDone F.2) l2).1) n).2={ n with count:=upd n.count i (CS.pkts m (F.1.pkDone F.2) l2).2.next,bag:=n.bag++bg }/\_)/\_;rw[e];refine⟨i1,⟨(1-i,EP F.2.b)::bg,?_,λp o=>?_⟩,i4,f3.trans (p2.trans E),by show c.next<=(CS.pkts m (F.1.pkDone F.2) l2).2.next;omega⟩
   ·rw[i2];have:upd (upd n.count i (n.count i+1)) i (CS.pkts m (F.1.pkDone F.2) l2).2.next=upd n.count i (CS.pkts m (F.1.pkDone F.2) l2).2.next:=by
     funext j;unfold upd;split<;>rfl
    simp only[this,Av,List.singleton_append]
   ·rcases BP.1 o with x|x
    ·rw[x];refine⟨rfl,⟨F.2.b,rfl⟩,c.next,_,h,by show c.next<(CS.pkts m (F.1.pkDone F.2) l2).2.next;omega,λg hg=>?_⟩;obtain⟨f,hf,rfl⟩:=BT.1 hg;exact((f1.fr f hf).2.1.mono (p2.trans E).sle (λk hk=>(f2.w k hk).hl) (AG _) (λs hs=>⟨s,hs,rfl,rfl,rfl⟩)).canon
    ·exact i3 p x
def WB(c c':CS):Prop:=∀k,Et (c.ws k) (c'.ws k)
def WB.refl(c:CS):WB c c:=λk=>Et.refl _
def WB.trans{a b:CS}(h:WB a b)(k:WB b c):WB a c:=λj=>(h j).trans (k j)
def WB.upd(k:Nat)(h:Et (c.ws k) x):WB c { c with ws:=upd c.ws k x }:=λj=>by
 show Et (c.ws j) (Go.Proofs.YtddfdpbaiedcjaaGreatDoor.upd c.ws k x j);by_cases e:j=k
 ·subst e;rw[ze];exact h
 ·rw[zd _ _ e];exact Et.refl _
def WO(c:CS)(f:Db):WB c (c.again f):=by
 unfold CS.again;split
 ·exact WB.upd _ ⟨rfl,rfl,rfl,rfl,rfl,rfl,rfl⟩
 ·split
  ·exact WB.upd _ ⟨rfl,rfl,rfl,rfl,rfl,rfl,rfl⟩
  ·split
   ·exact WB.refl c
   ·split<;>exact WB.refl c
theorem Sy:∀(fs:List Db) (c:CS),WB c (c.agains fs)
 | [],c=>WB.refl c
 | f::fs,c=>(WO c f).trans (Sy fs (c.again f))
theorem Rv:∀(l:List Df) (c:CS),WB c (c.loses l)
 | [],c=>WB.refl c
 | p::l,c=>by
  have h1:WB c (c.lose1 p):=by
   unfold CS.lose1;split
   ·exact Sy _ _
   ·exact WB.refl c
  exact h1.trans (Rv l (c.lose1 p))
theorem Ru:∀(fs:List Db) (c:CS),WB c (fs.foldl CS.ackF c)
 | [],c=>WB.refl c
 | f::fs,c=>by
  have h1:WB c (c.ackF f):=by
   unfold CS.ackF;split
   ·exact WB.upd _ ⟨rfl,rfl,rfl,rfl,rfl,rfl,rfl⟩
   ·exact WB.refl c
  exact h1.trans (Ru fs (c.ackF f))
theorem Sb(rs:zC):∀(l:List Df) (c:CS),WB c (c.ackPs rs l)
 | [],c=>WB.refl c
 | p::l,c=>by
  have h1:WB c (c.ackP rs p):=by
   unfold CS.ackP;split
   ·exact Ru _ _
   ·exact WB.refl c
  exact h1.trans (Sb rs l (c.ackP rs p))
structure FD(c c':CS):Prop where
 ws:WB c c'
 rs:∀k,k<8->∃a,c'.rs k={ c.rs k with anew:=a }
 credit:c'.credit=c.credit
 grant:c'.grant=c.grant
 waits:c'.waits=c.waits
 now:c'.now=c.now
 next:c'.next=c.next
 closed:c'.closed=c.closed
 seen:c'.seen=c.seen/\c'.most=c.most/\c'.came=c.came
 ids:c'.lastID=c.lastID/\c'.anyID=c.anyID
 got:c'.got=c.got
 cfg:c'.mtu=c.mtu/\c'.window=c.window
def FD.trans{a b:CS}(h:FD a b)(k:FD b c):FD a c :=
 ⟨h.ws.trans k.ws,λq d=>by
  obtain⟨x,hx⟩:=h.rs q d;obtain⟨y,hy⟩:=k.rs q d;exact⟨y,by rw[hy,hx]⟩,k.credit.trans h.credit,k.grant.trans h.grant,k.waits.trans h.waits,k.now.trans h.now,k.next.trans h.next,k.closed.trans h.closed,⟨k.seen.1.trans h.seen.1,k.seen.2.1.trans h.seen.2.1,k.seen.2.2.trans h.seen.2.2⟩,⟨k.ids.1.trans h.ids.1,k.ids.2.trans h.ids.2⟩,k.got.trans h.got,⟨k.cfg.1.trans h.cfg.1,k.cfg.2.trans h.cfg.2⟩⟩
def FD.of(w:WB c c')(s:EZ c c')(l:List Df):FD c (c'.fly l) :=
 ⟨w,s.rs,s.tl.1,s.tl.2.1,s.tl.2.2.2.2.1,s.hd.2.2.2.1,s.hd.2.2.2.2.2.2.1,s.hd.2.2.2.2.1,⟨s.tl.2.2.2.2.2.2.2.1,s.tl.2.2.2.2.2.2.2.2.1,s.tl.2.2.2.2.2.2.2.2.2⟩,⟨s.tl.2.2.2.2.2.1,s.tl.2.2.2.2.2.2.1⟩,s.hd.2.2.2.2.2.2.2.1,⟨s.hd.1,s.hd.2.1⟩⟩
def Sa(c:CS):FD c c.lose:=by
 rw[Lx];exact FD.of (Rv c.flight c) (MI c.flight c) _
def Xf{l:zC}(h:¬c.next<=DY l 0):(c.acked l).1=0/\FD c (c.acked l).2:=by
 rw[ME c l h];refine⟨rfl,?_⟩;have h1:FD c ({ c with largest:=max c.largest (DY l 0) }:CS):=⟨WB.refl c,λk _=>⟨(c.rs k).anew,rfl⟩,rfl,rfl,rfl,rfl,rfl,rfl,⟨rfl,rfl,rfl⟩,⟨rfl,rfl⟩,rfl,⟨rfl,rfl⟩⟩;have h2:FD ({ c with largest:=max c.largest (DY l 0) }:CS) (c.ackedTo l):=FD.of (Sb l c.flight _) (MH l c.flight _) _;exact h1.trans (h2.trans (Sa _))
structure Fl(a b:CS)(E:Nat->EN):Prop where
 k:∀k,k<8->Dt (a.ws k) (b.rs k) (E k)
 cr:a.credit<=b.grant
def Fl.flW{a c b:CS}{E:Nat->EN}(h:Fl a b E)(f:FD a c):Fl c b E:=⟨λk hk=>(h.k k hk).same (f.ws k),by rw[f.credit];exact h.cr⟩
def Fl.flR{a b c:CS}{E:Nat->EN}(h:Fl a b E)(f:FD b c):Fl a c E :=
 ⟨λk hk=>by
  obtain⟨q,e⟩:=f.rs k hk;rw[e];exact(h.k k hk).grant _ q (AG _),by rw[f.grant];exact h.cr⟩
theorem Dw.fl(h:Dw c G)(f:FD c c'):Dw c' G:=by
 have hh:∀n,zG c'.ws n=zG c.ws n:=λn=>by
  induction n with
  | zero=>rfl
  | succ n ih =>
   show zG c'.ws n+(c'.ws n).high=_;rw[ih,(f.ws n).high];rfl
 refine⟨λk hk=>?_,λk hk=>?_,?_,λg hg=>?_⟩
 ·have w:=h.w k hk;have s:=f.ws k;exact⟨rfl,rfl,rfl,rfl,rfl,rfl,AG _,by rw[s.high,s.b];exact w.hl,by rw[s.high,s.credit];exact w.hc,by rw[s.cut,s.high,s.final];exact w.hf⟩
 ·rw[(f.ws k).keep,(f.ws k).final];exact h.kf k hk
 ·unfold CS.spent;rw[hh,f.credit];exact h.sp
 ·rw[f.waits]at hg;rw[f.now];exact h.wt g hg
def CS.Knows(c:CS)(id:Nat):Prop:=(∃p∈c.seen,p.1=id)\/(0<c.seen.length/\old c.most id=true)
structure Gc(c:CS)(G:List SN):Prop where
 nd:(G.map (·.id)).Nodup
 se:∀s∈G,s.came=true->c.Knows s.id
 ms:∀p∈c.came,∃s∈G,s.id=p.1/\s.data=p.2/\s.came=false/\c.now<=s.dl
 cn:(c.came.map (·.1)).Nodup
 kn:∀p∈c.came,c.Knows p.1
def Gc.same(h:Gc c G)(e:c'.seen=c.seen/\c'.most=c.most/\c'.came=c.came)(hn:c'.now=c.now):Gc c' G:=by
 have hk:∀id,c.Knows id->c'.Knows id:=λid x=>by
  unfold CS.Knows;rw[e.1,e.2.1];exact x
 refine⟨h.nd,λs hs q=>hk _ (h.se s hs q),λp a=>?_,by rw[e.2.2];exact h.cn,λp a=>?_⟩
 ·rw[e.2.2]at a;rw[hn];exact h.ms p a
 ·rw[e.2.2]at a;exact hk _ (h.kn p a)
def WN{a id:Nat}(h:m<=a)(ho:old m id=true):old a id=true:=by
 unfold old at *;simp only[AZ,Af]at *;omega
theorem Gc.message(h:Gc c G)(hf:∃s∈G,s.id=f.id/\s.dl=f.dl/\s.data=f.data)(hm:c.seen=[]->c.most=0):Gc (c.message f) G:=by
 unfold CS.message;split
 ·exact h
 ·rename_i hn;simp only[Bm,not_or,CZ,Ak,Nat.not_lt]at hn;obtain⟨⟨u,n2⟩,v⟩:=hn;obtain⟨s,m,w,e2,e3⟩:=hf;have o:∀p∈c.seen,p.1≠f.id:=λp d e=>by
   have:(c.seen.any λp=>p.1==f.id)=true:=B7.2 ⟨p,d,by simp[e]⟩;rw[this]at u;cases u
  have g:=λq=>by
   rw[Aq q,Bj]at v;exact v
  have i:¬c.Knows f.id:=by
   rintro(⟨p,d,e⟩|⟨q1,n⟩)
   ·exact o p d e
   ·rw[g q1]at n;cases n
  have j:old (max c.most f.id) f.id=false:=by
   by_cases h0:c.seen=[]
   ·have:=hm h0;unfold old;simp only[B9,Ak];omega
   ·have:=g (BU.2 h0);unfold old at *;simp only[B9,Ak]at *;omega
  have k:(f.id,f.dl)∈(c.seen++[(f.id,f.dl)]).filter (λp => !old (max c.most f.id) p.1):=BV.2 ⟨by simp,by simp[j]⟩;have hk:∀id,c.Knows id->CS.Knows { c with most:=max c.most f.id,seen:=(c.seen++[(f.id,f.dl)]).filter (λp => !old (max c.most f.id) p.1),came:=c.came++[(f.id,f.data)] } id:=by
   intro id r;have l:=List.length_pos_of_mem k;by_cases t:old (max c.most f.id) id=true
   ·exact .inr ⟨l,t⟩
   ·rcases r with⟨p,d,e⟩|⟨_,n⟩
    ·exact .inl ⟨p,BV.2 ⟨CU _ d,by rw[e];simpa using t⟩,e⟩
    ·exact absurd (WN (Bl _ _) n) t
  refine⟨h.nd,λs m q=>hk _ (h.se s m q),λp d=>?_,?_,λp d=>?_⟩
  ·rcases An.1 d with x|x
   ·exact h.ms p x
   ·rw[Ab.1 x];refine⟨s,m,w,e3,?_,by rw[e2];exact n2⟩;cases hc:s.came with
    | false=>rfl
    | true=>exact absurd (by rw[<-w];exact h.se s m hc) i
  ·show((c.came++[(f.id,f.data)]).map (·.1)).Nodup;rw[BO,C8];refine⟨h.cn,by simp,λa ha b hb e=>?_⟩;obtain⟨p,d,rfl⟩:=BT.1 ha;have hb:b=f.id:=by simpa using hb
   exact i (by rw[<-hb,<-e];exact h.kn p d)
  ·rcases An.1 d with x|x
   ·exact hk _ (h.kn p x)
   ·rw[Ab.1 x];exact .inl ⟨_,k,rfl⟩
structure Rc(a b:CS)(Ea Eb:Nat->EN)(Ga Gb:List SN):Prop where
 d1:Fl a b Ea
 d2:Fl b a Eb
 so:Dw b Gb
 ms:Gc b Ga
 sm:b.seen=[]->b.most=0
structure Za(c c':CS):Prop where
 next:c'.next=c.next
 now:c'.now=c.now
 ids:c'.lastID=c.lastID/\c'.anyID=c.anyID
 waits:c'.waits=c.waits
 cfg:c'.mtu=c.mtu/\c'.window=c.window
 sle:EI c c'
 got:c'.got=c.got
def EI.of_w(h:Dw c G)(w:∀k,k<8->Et (c.ws k) (c'.ws k)\/∃n,c'.ws k={ c.ws k with credit:=n })(g:c.grant<=c'.grant)(r:∀k,k<8->(c.rs k).grant<=(c'.rs k).grant):EI c c' :=
 ⟨λk hk=>by
  rcases w k hk with x|⟨n,x⟩
  ·exact FO.of_same x (h.w k hk).hl
  ·rw[x];exact⟨Co _,λ_=>rfl,AG _,(h.w k hk).hl,id,λe=>⟨e,rfl,AG _⟩,λ_ _ e a=>by rw[show({ c.ws k with credit:=n }:WS).cut=(c.ws k).cut from rfl,e]at a;cases a⟩,g,r⟩
def FD.tk(h:Dw c G)(f:FD c c'):Za c c' :=
 ⟨f.next,f.now,f.ids,f.waits,f.cfg,EI.of_w h (λk _=>.inl (f.ws k)) (BX f.grant.symm) (λk hk=>by obtain⟨x,e⟩:=f.rs k hk;rw[e];exact AG _),f.got⟩
def EI.refl(h:Dw c G):EI c c:=EI.of_w h (λ_ _=>.inl (Et.refl _)) (AG _) (λ_ _=>AG _)
def Rc.fl{a b c:CS}{d e:Nat->EN}{g i:List SN}(h:Rc a b d e g i)(f:FD b c):Rc a c d e g i :=
 ⟨h.d1.flR f,h.d2.flW f,h.so.fl f,h.ms.same f.seen f.now,by rw[f.seen.1,f.seen.2.1];exact h.sm⟩
end
section
open Go.RowKit
variable{k:Nat}
def Rc.rs{a b:CS}{c d:Nat->EN}{f g:List SN}(h:Rc a b c d f g){x:RS}(hx:k<8->Dt (a.ws k) x (c k))(hg:x.grant=(b.rs k).grant):Rc a { b with rs:=upd b.rs k x } c d f g/\Za b { b with rs:=upd b.rs k x }:=by
 have hr:∀j,(b.rs j).grant=(upd b.rs k x j).grant:=λj=>by
  by_cases e:j=k
  ·subst e;rw[ze];exact hg.symm
  ·rw[zd _ _ e]
 refine⟨⟨⟨λj i=>?_,h.d1.cr⟩,⟨h.d2.k,h.d2.cr⟩,⟨h.so.w,h.so.kf,h.so.sp,h.so.wt⟩,h.ms.same ⟨rfl,rfl,rfl⟩ rfl,h.sm⟩,⟨rfl,rfl,⟨rfl,rfl⟩,rfl,⟨rfl,rfl⟩,EI.of_w h.so (λ_ _=>.inl (Et.refl _)) (AG _) (λj _=>BX (hr j)),rfl⟩⟩;show Dt (a.ws j) (upd b.rs k x j) (c j);by_cases e:j=k
 ·subst e;rw[ze];exact hx i
 ·rw[zd _ _ e];exact h.d1.k j i
theorem SZ{ws:Nat->WS}{rs:Nat->RS}:∀n,(∀j,j<n->(rs j).high<=(ws j).high)->FW rs n<=zG ws n
 | 0,_=>AG _
 | n+1,h=>by
  have a:=SZ n (λj hj=>h j (by omega));have b:=h n (by omega);show FW rs n+(rs n).high<=zG ws n+(ws n).high;omega
theorem Sx{ws:Nat->WS}{rs:Nat->RS}:∀n,k<n->(∀j,j<n->(rs j).high<=(ws j).high)->FW rs n+(ws k).high<=zG ws n+(rs k).high
 | 0,hk,_=>absurd hk (BA _)
 | n+1,hk,h=>by
  show FW rs n+(rs n).high+(ws k).high<=zG ws n+(ws n).high+(rs k).high;have b:=h n (by omega);by_cases e:k=n
  ·subst e;have a:=SZ (ws:=ws) (rs:=rs) k (λj hj=>h j (by omega));omega
  ·have a:=Sx (ws:=ws) (rs:=rs) n (by omega) (λj hj=>h j (by omega));omega
variable{x:WS}
def Dt.credit{r:RS}{e:EN}(h:Dt x r e){n:Nat}(hn:n<=r.grant):Dt { x with credit:=max x.credit n } r e :=
 {h with
  hc:=AO h.hc (Bl _ _)
  cg:=Nat.max_le.2 ⟨h.cg,hn⟩ }
variable{f:Db}
theorem Rc.take{a b:CS}{B u:Nat->EN}{s C:List SN}(h:Rc a b B u s C)(ha:Dw a s)(hf:E6 f)(ok:Fe a b.next s f):(b.take f).1=0/\Rc a (b.take f).2 B u s C/\Za b (b.take f).2:=by
 have rf:Za b b:=⟨rfl,rfl,⟨rfl,rfl⟩,rfl,⟨rfl,rfl⟩,EI.refl h.so,rfl⟩;unfold CS.take;split
 ·rename_i e;have h1:=hf.rngs2 e;have h2:¬b.next<=DY f.rngs 0:=by
   have:=ok.k2 e _ (Ac (LH h1));simp only at this;omega
  obtain⟨D,t⟩:=Xf h2;exact⟨D,h.fl t,FD.tk h.so t⟩
 ·split
  ·rename_i _ e;obtain⟨k,hk,c,h3,h4,i⟩:=ok.k3 e;have d:=h.d1.k k hk;have hb:=d.resetBad h3 h4;unfold CS.resetAt;rw[c,Ao,AH (by rw[hb];simp)];obtain⟨v,A⟩:=h.rs (k:=k) (x:=(b.rs k).resetAt f) (λ_=>d.reset h3 h4 i) rfl;exact⟨rfl,v,A⟩
  ·split
   ·rename_i e;obtain⟨k,hk,c,h3,h4,i⟩:=ok.k4 e;have d:=h.d1.k k hk;have hb:=d.badEnd h3 i;unfold CS.data;rw[c,Ao,AH (by rw[hb];simp),AH (by
     rintro⟨q1,q2⟩;have g1:=d.hc;have g2:=d.cg;have g3:=h.d1.cr;have g4:=ha.sp;have h3':f.end_<=(a.ws k).high:=h3;have g5:=Sx (ws:=a.ws) (rs:=b.rs) 8 hk (λj g=>(h.d1.k j g).rh);unfold CS.spent at g4;omega)]
    obtain⟨v,A⟩:=h.rs (k:=k) (x:=(b.rs k).data f) (λ_=>d.data h3 h4 i) rfl;exact⟨rfl,v,A⟩
   ·split
    ·rename_i e;have i:=ok.k5 e;refine⟨rfl,⟨⟨h.d1.k,h.d1.cr⟩,⟨h.d2.k,Nat.max_le.2 ⟨h.d2.cr,i⟩⟩,⟨h.so.w,h.so.kf,AO h.so.sp (Bl _ _),h.so.wt⟩,h.ms.same ⟨rfl,rfl,rfl⟩ rfl,h.sm⟩,⟨rfl,rfl,⟨rfl,rfl⟩,rfl,⟨rfl,rfl⟩,EI.of_w h.so (λ_ _=>.inl (Et.refl _)) (AG _) (λ_ _=>AG _),rfl⟩⟩
    ·split
     ·rename_i e;obtain⟨k,hk,c,h6⟩:=ok.k6 e;rw[c,Ao];have D:∀j,upd b.ws k { b.ws k with credit:=max (b.ws k).credit f.lim } j=if j=k then{ b.ws k with credit:=max (b.ws k).credit f.lim }else b.ws j:=λj=>rfl
      have l:∀n,zG (upd b.ws k { b.ws k with credit:=max (b.ws k).credit f.lim }) n=zG b.ws n:=λn=>by
       induction n with
       | zero=>rfl
       | succ n ih =>
        show zG _ n+(upd b.ws k _ n).high=zG b.ws n+(b.ws n).high;rw[ih]
        congr 1
        by_cases e:n=k
        ·subst e;rw[ze]
        ·rw[zd _ _ e]
      refine⟨rfl,⟨⟨h.d1.k,h.d1.cr⟩,⟨λj g=>?_,h.d2.cr⟩,⟨λj g=>?_,λj g=>?_,?_,h.so.wt⟩,h.ms.same ⟨rfl,rfl,rfl⟩ rfl,h.sm⟩,⟨rfl,rfl,⟨rfl,rfl⟩,rfl,⟨rfl,rfl⟩,EI.of_w h.so (λj _=>?_) (AG _) (λ_ _=>AG _),rfl⟩⟩
      ·show Dt (upd b.ws k _ j) (a.rs j) (u j);by_cases e:j=k
       ·subst e;rw[ze];exact(h.d2.k j g).credit h6
       ·rw[zd _ _ e];exact h.d2.k j g
      ·show FQ (upd b.ws k _ j) (upd b.ws k _ j);by_cases e:j=k
       ·subst e;rw[ze];have w:=h.so.w j g;exact⟨rfl,rfl,rfl,rfl,rfl,rfl,AG _,w.hl,AO w.hc (Bl _ _),w.hf⟩
       ·rw[zd _ _ e];exact h.so.w j g
      ·show(upd b.ws k _ j).keep<=(upd b.ws k _ j).final;by_cases e:j=k
       ·subst e;rw[ze];exact h.so.kf j g
       ·rw[zd _ _ e];exact h.so.kf j g
      ·show zG (upd b.ws k _) 8<=b.credit;rw[l];exact h.so.sp
      ·show Et (b.ws j) (upd b.ws k _ j)\/∃n,upd b.ws k _ j={ b.ws j with credit:=n };by_cases e:j=k
       ·subst e;rw[ze];exact .inr ⟨_,rfl⟩
       ·rw[zd _ _ e];exact .inl (Et.refl _)
     ·split
      ·rename_i e;have m:=h.ms.message (ok.k7 e) h.sm;have E:(b.message f).seen=[]->(b.message f).most=0:=by
        unfold CS.message;split
        ·exact h.sm
        ·rename_i hn;simp only[Bm,not_or,CZ,Ak,Nat.not_lt]at hn;intro q;exfalso;have q:(b.seen++[(f.id,f.dl)]).filter (λp => !old (max b.most f.id) p.1)=[]:=q;have o:old (max b.most f.id) f.id=false:=by
          by_cases h0:b.seen=[]
          ·have:=h.sm h0;unfold old;simp only[B9,Ak];omega
          ·have hp:=BU.2 h0;have:=hn.2;rw[Aq hp,Bj]at this;unfold old at *;simp only[B9,Ak]at *;omega
         have r:(f.id,f.dl)∈(b.seen++[(f.id,f.dl)]).filter (λp => !old (max b.most f.id) p.1):=BV.2 ⟨by simp,by simp[o]⟩;rw[q]at r;cases r
       have t:∃x y z,b.message f={ b with most:=x,seen:=y,came:=z }:=by
        unfold CS.message;split
        ·exact⟨b.most,b.seen,b.came,rfl⟩
        ·exact⟨_,_,_,rfl⟩
       obtain⟨x,y,z,e3⟩:=t;rw[e3]at m E ⊢;exact⟨rfl,⟨⟨h.d1.k,h.d1.cr⟩,⟨h.d2.k,h.d2.cr⟩,⟨h.so.w,h.so.kf,h.so.sp,h.so.wt⟩,m,E⟩,⟨rfl,rfl,⟨rfl,rfl⟩,rfl,⟨rfl,rfl⟩,EI.of_w h.so (λ_ _=>.inl (Et.refl _)) (AG _) (λ_ _=>AG _),rfl⟩⟩
      ·split
       ·rename_i e;exact absurd e ok.k8
       ·exact⟨rfl,h,rf⟩
def Rc.answer{a b:CS}{c d:Nat->EN}{e f:List SN}(h:Rc a b c d e f)(w:Bool):Rc a { b with answer:=w } c d e f :=
 ⟨⟨h.d1.k,h.d1.cr⟩,⟨h.d2.k,h.d2.cr⟩,⟨h.so.w,h.so.kf,h.so.sp,h.so.wt⟩,h.ms.same ⟨rfl,rfl,rfl⟩ rfl,h.sm⟩
variable{c:CS}
def Za.trans{a b:CS}(h:Za a b)(k:Za b c):Za a c:=⟨k.next.trans h.next,k.now.trans h.now,⟨k.ids.1.trans h.ids.1,k.ids.2.trans h.ids.2⟩,k.waits.trans h.waits,⟨k.cfg.1.trans h.cfg.1,k.cfg.2.trans h.cfg.2⟩,h.sle.trans k.sle,k.got.trans h.got⟩
theorem Rc.takes{a:CS}{d e:Nat->EN}{c i:List SN}(j:Dw a c):∀(fs:List Db) (b:CS),Rc a b d e c i->(∀f∈fs,E6 f)->(∀f∈fs,Fe a b.next c f)->(CS.takes fs b).1=0/\Rc a (CS.takes fs b).2 d e c i/\Za b (CS.takes fs b).2
 | [],b,h,_,_=>⟨rfl,h,⟨rfl,rfl,⟨rfl,rfl⟩,rfl,⟨rfl,rfl⟩,EI.refl h.so,rfl⟩⟩
 | f::fs,b,h,hr,ho=>by
  obtain⟨e1,k,l⟩:=h.take j (hr f Ae) (ho f Ae);have h2:=k.answer ((b.take f).2.answer||f.kind != 2);obtain⟨i1,i2,i3⟩:=Rc.takes j fs _ h2 (λg hg=>hr g (Aj _ hg)) (λg hg=>by
   show Fe a (b.take f).2.next c g;rw[l.next];exact ho g (Aj _ hg))
  unfold CS.takes;rw[AH (by rw[e1];simp)];have r:=EI.refl k.so;have h3:Za (b.take f).2 { (b.take f).2 with answer:=(b.take f).2.answer||f.kind != 2 }:=⟨rfl,rfl,⟨rfl,rfl⟩,rfl,⟨rfl,rfl⟩,⟨r.ws,r.grant,r.rg⟩,rfl⟩;exact⟨i1,i2,l.trans (h3.trans i3)⟩
structure Ii(c:CS)(G:List SN):Prop where
 ok:Gc c G
 cm:c.came=[]
 sm:c.seen=[]->c.most=0
structure Ij(c:CS)(G:List SN)(nx:Nat):Prop where
 id:c.anyID=true->c.lastID<nx
 gi:∀s∈G,s.id<nx
 wl:c.waits.length<=G.length
def Fm(G G':List SN):Prop:=∀s∈G,∃s'∈G',s'.id=s.id/\s'.dl=s.dl/\s'.data=s.data
def Fm.refl(G:List SN):Fm G G:=λs hs=>⟨s,hs,rfl,rfl,rfl⟩
structure NS.Safe(n:NS):Prop where
 d:∀i,i<2->Fl (n.c i) (n.c (1-i)) (n.e i)
 so:∀i,i<2->Dw (n.c i) (n.g i)
 gr:∀i,i<2->Ii (n.c i) (n.g (1-i))
 dg:∀i,i<2->Ij (n.c i) (n.g i) (n.next i)
 now:∀i,i<2->(n.c i).now=n.now
 mtu:∀i,i<2->(n.c i).mtu=n.mtu
 ct:∀i,i<2->n.count i=(n.c i).next
 got:∀i,i<2->∀r∈(n.c i).got.rs,r.2<(n.c (1-i)).next
 bag:∀p∈n.bag,p.1<2/\IA (n.c (1-p.1)) (n.c p.1).next (n.g (1-p.1)) p.2
 up:n.Up
variable{i j:Nat}
def Gi(hi:i<2)(hj:j<2):j=i\/j=1-i:=by omega
structure Je(n n':NS)(i:Nat):Prop where
 o:n'.c (1-i)=n.c (1-i)
 l:EI (n.c i) (n'.c i)
 x:(n.c i).next<=(n'.c i).next
 d1:Fl (n'.c i) (n.c (1-i)) (n'.e i)
 d2:Fl (n.c (1-i)) (n'.c i) (n'.e (1-i))
 so:Dw (n'.c i) (n'.g i)
 g1:Fm (n.g i) (n'.g i)
 g2:Fm (n.g (1-i)) (n'.g (1-i))
 gl:(n.g (1-i)).length=(n'.g (1-i)).length
 gr:Ii (n'.c i) (n'.g (1-i))
 gs:Gc (n.c (1-i)) (n'.g i)
 dg:Ij (n'.c i) (n'.g i) (n'.next i)
 di:∀s∈n'.g (1-i),s.id<n'.next (1-i)
 nx:n'.next (1-i)=n.next (1-i)
 now:(n'.c i).now=n.now/\n'.now=n.now
 mtu:(n'.c i).mtu=n.mtu/\n'.mtu=n.mtu
 ct:n'.count i=(n'.c i).next/\n'.count (1-i)=n.count (1-i)
 got:∀r∈(n'.c i).got.rs,r.2<(n.c (1-i)).next
 bag:∀p∈n'.bag,p∈n.bag\/(p.1<2/\IA (n'.c (1-p.1)) (n'.c p.1).next (n'.g (1-p.1)) p.2)
 up:(n'.c i).closed=0
variable{n:NS}
def NS.Safe.turn{n':NS}(h:n.Safe)(hi:i<2)(t:Je n n' i):n'.Safe:=by
 have m:1-(1-i)=i:=by omega
 have u:1-i<2:=by omega
 have v:Dw (n.c (1-i)) (n'.g (1-i)):=by
  have s:=h.so (1-i) u;exact⟨s.w,s.kf,s.sp,λf hf=>by
   obtain⟨a,b,s0,hs,e1,e2,e3⟩:=s.wt f hf;obtain⟨s1,y,f1,f2,f3⟩:=t.g2 s0 hs;exact⟨a,b,s1,y,f1.trans e1,f2.trans e2,f3.trans e3⟩⟩
 have pk:∀p:Nat×List UInt8,p.1<2->IA (n.c (1-p.1)) (n.c p.1).next (n.g (1-p.1)) p.2->IA (n'.c (1-p.1)) (n'.c p.1).next (n'.g (1-p.1)) p.2:=λp z q=>by
  rcases Gi hi z with e|e
  ·rw[e]at q ⊢;rw[t.o];exact q.mono (EI.refl (h.so (1-i) u)) (λk hk=>((h.so (1-i) u).w k hk).hl) (AG _) t.x t.g2
  ·rw[e,m]at q ⊢;rw[t.o];exact q.mono t.l (λk hk=>((h.so i hi).w k hk).hl) t.x (AG _) t.g1
 refine⟨λj d=>?_,λj d=>?_,λj d=>?_,λj d=>?_,λj d=>?_,λj d=>?_,λj d=>?_,λj d=>?_,λp z=>?_,λj d=>?_⟩
 ·rcases Gi hi d with e|e
  ·rw[e,t.o];exact t.d1
  ·rw[e,m,t.o];exact t.d2
 ·rcases Gi hi d with e|e
  ·rw[e];exact t.so
  ·rw[e,t.o];exact v
 ·rcases Gi hi d with e|e
  ·rw[e];exact t.gr
  ·rw[e,m,t.o];exact⟨t.gs,(h.gr (1-i) u).cm,(h.gr (1-i) u).sm⟩
 ·rcases Gi hi d with e|e
  ·rw[e];exact t.dg
  ·rw[e,t.o];have a:=h.dg (1-i) u;exact⟨by rw[t.nx];exact a.id,t.di,by rw[<-t.gl];exact a.wl⟩
 ·rcases Gi hi d with e|e
  ·rw[e,t.now.2];exact t.now.1
  ·rw[e,t.o,t.now.2];exact h.now _ u
 ·rcases Gi hi d with e|e
  ·rw[e,t.mtu.2];exact t.mtu.1
  ·rw[e,t.o,t.mtu.2];exact h.mtu _ u
 ·rcases Gi hi d with e|e
  ·rw[e];exact t.ct.1
  ·rw[e,t.o,t.ct.2];exact h.ct _ u
 ·rcases Gi hi d with e|e
  ·rw[e,t.o];exact t.got
  ·rw[e,t.o,m];intro r hr;have:=h.got _ u r hr;rw[m]at this;have:=t.x;omega
 ·rcases t.bag p z with q|q
  ·obtain⟨a,b⟩:=h.bag p q;exact⟨a,pk p a b⟩
  ·exact q
 ·rcases Gi hi d with e|e
  ·rw[e];exact t.up
  ·rw[e,t.o];exact h.up _ u
def NS.setC_self(n:NS)(i:Nat):n.setC i (n.c i)=n:=by unfold NS.setC;rw[Fj]
def NS.setC_c(n:NS)(i:Nat)(c:CS):(n.setC i c).c i=c:=by show upd n.c i c i=c;rw[ze]
def NS.setC_o(n:NS)(hi:i<2)(c:CS):(n.setC i c).c (1-i)=n.c (1-i):=by show upd n.c i c (1-i)=_;rw[zd _ _ (by omega)]
variable{c':CS}
def Je.user(h:n.Safe)(hi:i<2){E:Nat->Nat->EN}(l:EI (n.c i) c')(x:c'.next=(n.c i).next)(d1:Fl c' (n.c (1-i)) (E i))(d2:Fl (n.c (1-i)) c' (E (1-i)))(so:Dw c' (n.g i))(sn:c'.seen=(n.c i).seen/\c'.most=(n.c i).most/\c'.came=(n.c i).came)
  (ids:c'.lastID=(n.c i).lastID/\c'.anyID=(n.c i).anyID) (wt:c'.waits=(n.c i).waits) (now:c'.now=(n.c i).now) (mtu:c'.mtu=(n.c i).mtu) (got:c'.got=(n.c i).got) (cl:c'.closed=(n.c i).closed):Je n { n.setC i c' with e:=E } i:=by
 have ec:({ n.setC i c' with e:=E }:NS).c i=c':=NS.setC_c n i c';have d:1-i<2:=by omega
 have g0:=h.gr i hi;have a:=h.dg i hi;have f:=h.gr (1-i) d;have b:1-(1-i)=i:=by omega
 rw[b]at f;refine⟨NS.setC_o n hi c',?_,?_,?_,?_,?_,Fm.refl _,Fm.refl _,rfl,?_,f.ok,?_,(h.dg (1-i) d).gi,rfl,⟨?_,rfl⟩,⟨?_,rfl⟩,⟨?_,rfl⟩,?_,λp hp=>.inl hp,?_⟩;all_goals rw[ec]
 ·exact l
 ·exact BX x.symm
 ·exact d1
 ·exact d2
 ·exact so
 ·exact⟨g0.ok.same sn now,sn.2.2.trans g0.cm,by rw[sn.1,sn.2.1];exact g0.sm⟩
 ·exact⟨by rw[ids.1,ids.2];exact a.id,a.gi,by rw[wt];exact a.wl⟩
 ·exact now.trans (h.now i hi)
 ·exact mtu.trans (h.mtu i hi)
 ·rw[x];exact h.ct i hi
 ·rw[got];exact h.got i hi
 ·rw[cl];exact h.up i hi
variable{y:WS}
def NS.Safe.writer(h:n.Safe)(hi:i<2)(hk:k<8){f:EN}(l:FO ((n.c i).ws k) y)(hh:y.high=((n.c i).ws k).high)(d:Dt y ((n.c (1-i)).rs k) f)(kf:y.keep<=y.final):((n.setC i { n.c i with ws:=upd (n.c i).ws k y }).setE i k f).Safe:=by
 have a:1-i<2:=by omega
 have hd:=h.d i hi;have b:=h.d (1-i) a;have so:=h.so i hi;have g:1-(1-i)=i:=by omega
 rw[g]at b;have t:Je n { n.setC i { n.c i with ws:=upd (n.c i).ws k y }with e:=upd n.e i (upd (n.e i) k f) } i:=by
  refine Je.user h hi (c':={ n.c i with ws:=upd (n.c i).ws k y }) ⟨λj a=>?_,AG _,λ_ _=>AG _⟩ rfl ⟨λj a=>?_,hd.cr⟩ ?_ ⟨λj a=>?_,λj a=>?_,?_,so.wt⟩ ⟨rfl,rfl,rfl⟩ ⟨rfl,rfl⟩ rfl rfl rfl rfl rfl
  ·show FO ((n.c i).ws j) (upd (n.c i).ws k y j);by_cases e:j=k
   ·subst e;rw[ze];exact l
   ·rw[zd _ _ e];exact(so.w j a).le
  ·show Dt (upd (n.c i).ws k y j) ((n.c (1-i)).rs j) (upd n.e i (upd (n.e i) k f) i j);rw[ze];by_cases e:j=k
   ·subst e;rw[ze,ze];exact d
   ·rw[zd _ _ e,zd _ _ e];exact hd.k j a
  ·show Fl (n.c (1-i)) _ (upd n.e i (upd (n.e i) k f) (1-i));rw[zd _ _ (show 1-i≠i by omega)];exact⟨b.k,b.cr⟩
  ·show FQ (upd (n.c i).ws k y j) (upd (n.c i).ws k y j);by_cases e:j=k
   ·subst e;rw[ze];exact d.wput
   ·rw[zd _ _ e];exact so.w j a
  ·show(upd (n.c i).ws k y j).keep<=(upd (n.c i).ws k y j).final;by_cases e:j=k
   ·subst e;rw[ze];exact kf
   ·rw[zd _ _ e];exact so.kf j a
  ·have:=Pu (n.c i).ws k y 8 hk;have:=so.sp;unfold CS.spent at *;show zG (upd (n.c i).ws k y) 8<=(n.c i).credit;omega
 exact h.turn hi t
def Nt(h:n.Safe)(hi:i<2)(hk:k<8):(n.c i).stream (k:Int)=0:=by
 unfold CS.stream;rw[AH (by rw[h.up i hi];simp),AH (by omega)]
def NS.Safe.send(h:n.Safe)(hi:i<2)(hk:k<8)(s:List UInt8):(n.send i k s).1=true/\(n.send i k s).2.Safe:=by
 have d:=(h.d i hi).k k hk;have a:=Nt h hi hk;have so:=h.so i hi;unfold NS.send;by_cases h1:((n.e i k).fin||(n.e i k).cut)=true
 ·have hc:(n.c i).send k s=(4,n.c i):=by
   unfold CS.send;rw[AH (by rw[a];simp),Ao,AN (by rw[<-d.fi,<-d.cu];exact h1)]
  rw[AN h1,hc,NS.setC_self];exact⟨rfl,h⟩
 ·rw[AH h1];by_cases h2:2048<(n.e i k).wrote.length+s.length
  ·have hc:(n.c i).send k s=(3,n.c i):=by
    unfold CS.send;rw[AH (by rw[a];simp),Ao,AH (by rw[<-d.fi,<-d.cu];exact h1),AN (by rw[<-d.wr];exact h2)]
   rw[AN h2,hc,NS.setC_self];exact⟨rfl,h⟩
  ·have hc:(n.c i).send k s=(0,{ n.c i with ws:=upd (n.c i).ws k { (n.c i).ws k with b:=((n.c i).ws k).b++s } }):=by
    unfold CS.send;rw[AH (by rw[a];simp),Ao,AH (by rw[<-d.fi,<-d.cu];exact h1),AH (by rw[<-d.wr];exact h2)]
   rw[AH h2,hc];rw[d.fi,d.cu]at h1;simp only[CZ,CH]at h1;have hl:=d.hl;rw[d.wr]at h2;have l:FO ((n.c i).ws k) { (n.c i).ws k with b:=((n.c i).ws k).b++s } :=
    ⟨List.prefix_append _ _,λq=>(by rw[h1.1,h1.2]at q;simp at q),AG _,by show _<=(_++s).length;rw[AF];show((n.c i).ws k).high<=_;omega,id,λq=>(by rw[h1.2]at q;cases q),λq=>(by rw[h1.1]at q;cases q)⟩
   refine⟨rfl,h.writer hi hk l rfl (d.wle l (by show(_++s).length<=_;rw[AF];omega) d.hc d.cg d.hf ?_ d.fi d.cu d.ke rfl rfl) (so.kf k hk)⟩;show(n.e i k).wrote++s=_;rw[d.wr]
def NS.Safe.finish(h:n.Safe)(hi:i<2)(hk:k<8):(n.finish i k).1=true/\(n.finish i k).2.Safe:=by
 have d:=(h.d i hi).k k hk;have a:=Nt h hi hk;have so:=h.so i hi;unfold NS.finish;by_cases h1:((n.e i k).fin||(n.e i k).cut)=true
 ·have hc:(n.c i).finish k=(4,n.c i):=by
   unfold CS.finish;rw[AH (by rw[a];simp),Ao,AN (by rw[<-d.fi,<-d.cu];exact h1)]
  rw[AN h1,hc,NS.setC_self];exact⟨rfl,h⟩
 ·have hc:(n.c i).finish k=(0,{ n.c i with ws:=upd (n.c i).ws k { (n.c i).ws k with finished:=true } }):=by
   unfold CS.finish;rw[AH (by rw[a];simp),Ao,AH (by rw[<-d.fi,<-d.cu];exact h1)]
  rw[AH h1,hc];rw[d.fi,d.cu]at h1;simp only[CZ,CH]at h1;have l:FO ((n.c i).ws k) { (n.c i).ws k with finished:=true } :=
   ⟨Co _,λ_=>rfl,AG _,d.hl,λ_=>rfl,λq=>⟨q,rfl,AG _⟩,λq=>(by rw[h1.1]at q;cases q)⟩
  exact⟨rfl,h.writer hi hk l rfl (d.wle l d.bl d.hc d.cg d.hf d.wr rfl d.cu d.ke rfl rfl) (so.kf k hk)⟩
def NS.Safe.read(h:n.Safe)(hi:i<2)(hk:k<8)(most:Nat):(n.read i k most).1=true/\(n.read i k most).2.Safe:=by
 have l:1-i<2:=by omega
 have m:1-(1-i)=i:=by omega
 have g:=h.d (1-i) l;rw[m]at g;have d:=g.k k hk;have d1:=h.d i hi;have so:=h.so i hi;have o:=Nt h hi hk;have step:∀(x:RS) (f:EN),Dt ((n.c (1-i)).ws k) x f->x.grant=((n.c i).rs k).grant->((n.setC i { n.c i with rs:=upd (n.c i).rs k x }).setE (1-i) k f).Safe:=by
  intro x f dx hg;have hr:∀j,((n.c i).rs j).grant=(upd (n.c i).rs k x j).grant:=λj=>by
   by_cases e:j=k
   ·subst e;rw[ze];exact hg.symm
   ·rw[zd _ _ e]
  have t:Je n { n.setC i { n.c i with rs:=upd (n.c i).rs k x }with e:=upd n.e (1-i) (upd (n.e (1-i)) k f) } i:=by
   refine Je.user h hi (c':={ n.c i with rs:=upd (n.c i).rs k x }) (EI.of_w so (λ_ _=>.inl (Et.refl _)) (AG _) (λj _=>BX (hr j))) rfl ?_ ⟨λj l=>?_,g.cr⟩ ⟨so.w,so.kf,so.sp,so.wt⟩ ⟨rfl,rfl,rfl⟩ ⟨rfl,rfl⟩ rfl rfl rfl rfl rfl
   ·rw[zd _ _ (show i≠1-i by omega)];exact⟨d1.k,d1.cr⟩
   ·show Dt ((n.c (1-i)).ws j) (upd (n.c i).rs k x j) (upd n.e (1-i) (upd (n.e (1-i)) k f) (1-i) j);rw[ze];by_cases e:j=k
    ·subst e;rw[ze,ze];exact dx
    ·rw[zd _ _ e,zd _ _ e];exact g.k j l
  exact h.turn hi t
 by_cases h0:((n.c i).rs k).state=0
 ·obtain⟨a,b,e⟩:=d.read0 most h0;have hc:(n.c i).read (k:Int) (most:Int)=(((((n.c i).rs k).b.drop ((n.c i).rs k).read).take (((n.c i).rs k).readTo most-((n.c i).rs k).read),((n.c i).rs k).stateAt (((n.c i).rs k).readTo most),0),{ n.c i with rs:=upd (n.c i).rs k { (n.c i).rs k with read:=((n.c i).rs k).readTo most,state:=((n.c i).rs k).stateAt (((n.c i).rs k).readTo most) } }):=by
   unfold CS.read;rw[AH (by rw[o];simp),Ao,Ao,AH (by rw[h0];simp)]
  unfold NS.read;rw[hc,AH (λq=>by have:=a.symm.trans q;cases this)];exact⟨b,step _ _ e rfl⟩
 ·obtain⟨a,b,e⟩:=d.read1 most h0;have hc:(n.c i).read (k:Int) (most:Int)=(([],((n.c i).rs k).state,0),n.c i):=by
   unfold CS.read;rw[AH (by rw[o];simp),Ao,AN h0]
  unfold NS.read;rw[hc,AH (λq=>by have:=a.symm.trans q;cases this)];refine⟨b,?_⟩;have:=step _ _ e rfl;rw[Fj]at this;exact this
variable{T:Nat}
def NS.Safe.flush(h:n.Safe)(hI:n.Inv T)(v:T<=Dg)(hi:i<2):(n.flush i).1=true/\(n.flush i).2.Safe:=by
 have o:1-i<2:=by omega
 have l:1-(1-i)=i:=by omega
 have pk:=(h.d i hi);have hk:=(hI.c i hi).pkOk v;have y:=(hI.c i hi).pkPost v;have so:=h.so i hi;have g0:=h.gr i hi;have q:=h.dg i hi;have z:=h.gr (1-i) o;have d2:=h.d (1-i) o;rw[l]at z d2;have b:=h.got i hi;have a0:Dw (n.c i).acks.2 (n.g i)/\(∀r∈(n.c i).acks.1,r.2<(n.c (1-i)).next)/\(∃w,(n.c i).acks.2={ n.c i with answer:=w }):=by
  unfold CS.acks;split
  ·exact⟨⟨so.w,so.kf,so.sp,so.wt⟩,λr s=>b r (List.mem_reverse.1 s),_,rfl⟩
  ·exact⟨so,λr s=>(by cases s),(n.c i).answer,rfl⟩
 obtain⟨a1,a2,w,A⟩:=a0;have t:(n.c i).acks.2.mtu=(n.c i).mtu/\(n.c i).acks.2.next=(n.c i).next/\(n.c i).acks.2.now=(n.c i).now:=by rw[A];exact⟨rfl,rfl,rfl⟩
 obtain⟨p1,⟨bg,p2,p3⟩,p4,f,u⟩:=Qq (nx:=(n.c (1-i)).next) (G:=n.g i) (12-(n.c i).flight.length+(n.c i).acks.1.length+1) (n.c i).acks.2 (n.c i).acks.1 (n.setC i (n.c i).packets.2) i hk a1 a2 (by rw[t.1];exact(h.mtu i hi).symm) (by rw[t.2.1];exact h.ct i hi) (by rw[t.2.2];exact(h.now i hi).symm);have m:CS.pkts (12-(n.c i).flight.length+(n.c i).acks.1.length+1) (n.c i).acks.2 (n.c i).acks.1=(n.c i).packets:=rfl;rw[m]at p1 p2 p3 p4 f u;have j:=y.but;clear y hk m;rw[A]at f u j;unfold NS.flush;refine⟨p1,?_⟩;rw[p2];obtain⟨b1,b2,b3,B,b5,b6,b7,b8⟩:=j.hd;obtain⟨t1,t2,t3,t4,C,D,E⟩:=j.tl;have bw:=j.wl;have br:=j.rs;clear j;generalize (n.c i).packets.2=c2 at *;have F:({ n.setC i c2 with count:=upd n.count i c2.next,bag:=n.bag++bg }:NS).c i=c2:=NS.setC_c n i c2;have H:({ n.setC i c2 with count:=upd n.count i c2.next,bag:=n.bag++bg }:NS).c (1-i)=n.c (1-i):=NS.setC_o n hi c2;refine h.turn (n':={ n.setC i c2 with count:=upd n.count i c2.next,bag:=n.bag++bg }) hi ⟨H,?_,?_,?_,?_,?_,Fm.refl _,Fm.refl _,rfl,?_,z.ok,?_,(h.dg (1-i) o).gi,rfl,⟨?_,rfl⟩,⟨?_,rfl⟩,⟨?_,?_⟩,?_,λp hp=>?_,?_⟩;all_goals try rw[F]
 ·exact⟨f.sle.ws,f.sle.grant,f.sle.rg⟩
 ·exact u
 ·exact⟨λk hk=>(pk.k k hk).put (f.ws k hk),by rw[t1];exact pk.cr⟩
 ·refine⟨λk hk=>?_,AO d2.cr f.grant⟩;obtain⟨g,a,e,_⟩:=br k hk;have hg:=f.rg k hk;rw[e]at hg ⊢;exact(d2.k k hk).grant g a hg
 ·exact p4
 ·exact⟨g0.ok.same ⟨C,D,E⟩ B,E.trans g0.cm,by rw[C,D];exact g0.sm⟩
 ·exact⟨by rw[t3,t4];exact q.id,q.gi,AO bw q.wl⟩
 ·exact B.trans (h.now i hi)
 ·exact b1.trans (h.mtu i hi)
 ·show upd n.count i c2.next i=_;rw[ze]
 ·show upd n.count i c2.next (1-i)=_;rw[zd _ _ (by omega)]
 ·rw[b7];exact b
 ·rcases An.1 hp with x|x
  ·exact .inl x
  ·obtain⟨x1,x2⟩:=p3 p x;refine .inr ⟨by omega,?_⟩;rw[x1,l,F,H];exact x2
 ·rw[b5];exact h.up i hi
def FE(id:Nat)(s:SN):SN:=if s.id=id then{ s with came:=true }else s
theorem Pp(now id:Nat)(data:List UInt8):∀(G:List SN) (r:Bool),(EF now id data G r).2=G.map (FE id)
 | [],_=>rfl
 | g::l,r=>by
  unfold EF;split
  ·rename_i e;simp only[Bt,Pp now id data l];unfold FE;rw[AN e]
  ·rename_i e;simp only[Bt,Pp now id data l];unfold FE;rw[AH e]
theorem TV(now id:Nat)(data:List UInt8):∀(G:List SN) (r:Bool),(∀s∈G,s.id≠id)->(EF now id data G r).1=r
 | [],_,_=>rfl
 | g::l,r,h=>by
  unfold EF;rw[AH (h g Ae)];exact TV now id data l r (λs hs=>h s (Aj _ hs))
theorem Sw(now id:Nat)(data:List UInt8):∀(G:List SN) (r:Bool),(G.map (·.id)).Nodup->(∃s∈G,s.id=id/\s.data=data/\s.came=false/\now<=s.dl)->(EF now id data G r).1=true
 | [],_,_,h=>by obtain⟨s,a,_⟩:=h;cases a
 | g::l,r,nd,h=>by
  rw[Bt,List.nodup_cons]at nd;obtain⟨s,a,c,d,f,i⟩:=h;unfold EF;by_cases e:g.id=id
  ·rw[AN e];have b:∀s∈l,s.id≠id:=λs a q=>nd.1 (by rw[e,<-q];exact BT.2 ⟨s,a,rfl⟩)
   rcases BP.1 a with x|x
   ·subst x;show(EF now id data l _).1=true;rw[TV now id data l _ b,d,f];simp[i]
   ·exact absurd c (b s x)
  ·rw[AH e];rcases BP.1 a with x|x
   ·subst x;exact absurd c e
   ·exact Sw now id data l r nd.2 ⟨s,x,c,d,f,i⟩
structure Lh(l:List (Nat×List UInt8))(f:SN->SN):Prop where
 id:∀s,(f s).id=s.id
 dl:∀s,(f s).dl=s.dl
 data:∀s,(f s).data=s.data
 no:∀s,(f s).came=true->s.came=true\/∃p∈l,p.1=s.id
 old:∀s,s.came=true->(f s).came=true
 yes:∀s,(∃p∈l,p.1=s.id)->(f s).came=true
def cP{m:Nat×List UInt8}{l:List (Nat×List UInt8)}{f:SN->SN}(h:Lh l f):Lh (m::l) (λs=>f (FE m.1 s)):=by
 have e:∀s,(FE m.1 s).id=s.id/\(FE m.1 s).dl=s.dl/\(FE m.1 s).data=s.data/\((FE m.1 s).came=true->s.came=true\/m.1=s.id)/\(s.came=true->(FE m.1 s).came=true)/\(m.1=s.id->(FE m.1 s).came=true):=λs=>by
  unfold FE;split
  ·rename_i q;exact⟨rfl,rfl,rfl,λ_=>.inr q.symm,λ_=>rfl,λ_=>rfl⟩
  ·rename_i q;exact⟨rfl,rfl,rfl,λx=>.inl x,id,λx=>absurd x.symm q⟩
 refine⟨λs=>(h.id _).trans (e s).1,λs=>(h.dl _).trans (e s).2.1,λs=>(h.data _).trans (e s).2.2.1,λs q=>?_,λs q=>h.old _ ((e s).2.2.2.2.1 q),λs ⟨p,hp,q⟩=>?_⟩
 ·rcases h.no _ q with x|⟨p,hp,x⟩
  ·rcases(e s).2.2.2.1 x with y|y
   ·exact .inl y
   ·exact .inr ⟨m,Ae,y⟩
  ·exact .inr ⟨p,Aj _ hp,x.trans (e s).1⟩
 ·rcases BP.1 hp with x|x
  ·subst x;exact h.old _ ((e s).2.2.2.2.2 q)
  ·exact h.yes _ ⟨p,x,q.trans (e s).1.symm⟩
theorem SW(now:Nat):∀(l:List (Nat×List UInt8)) (G:List SN),(G.map (·.id)).Nodup->(l.map (·.1)).Nodup->(∀p∈l,∃s∈G,s.id=p.1/\s.data=p.2/\s.came=false/\now<=s.dl)->(FV now l G).1=true/\∃f,(FV now l G).2=G.map f/\Lh l f
 | [],G,_,_,_=>⟨rfl,id,by show G=G.map _;rw[List.map_id],⟨λ_=>rfl,λ_=>rfl,λ_=>rfl,λ_ h=>.inl h,λ_ h=>h,λs ⟨p,hp,_⟩=>(by cases hp)⟩⟩
 | m::l,G,nd,nl,h=>by
  have h1:=Sw now m.1 m.2 G false nd (h m Ae);have h2:=Pp now m.1 m.2 G false;rw[Bt,List.nodup_cons]at nl;have a:∀s,(FE m.1 s).id=s.id:=λs=>by unfold FE;split<;>rfl
  have b:((G.map (FE m.1)).map (·.id)).Nodup:=by
   rw[CY];have:((λx=>x.id) ∘ FE m.1)=(λx:SN=>x.id):=by funext s;exact a s
   rw[this];exact nd
  obtain⟨i1,f,i2,i3⟩:=SW now l (G.map (FE m.1)) b nl.2 (λp hp=>by
   obtain⟨s,hs,d,e2,e3,e4⟩:=h p (Aj _ hp);have c:s.id≠m.1:=λq=>nl.1 (by rw[<-q,d];exact BT.2 ⟨p,hp,rfl⟩)
   have em:FE m.1 s=s:=by unfold FE;rw[AH c]
   exact⟨s,BT.2 ⟨s,hs,em⟩,d,e2,e3,e4⟩)
  unfold FV;rw[AN h1,h2];exact⟨i1,λs=>f (FE m.1 s),by rw[i2,CY];rfl,cP i3⟩
def PE(h:n.Safe)(hi:i<2):Rc (n.c (1-i)) (n.c i) (n.e (1-i)) (n.e i) (n.g (1-i)) (n.g i):=by
 have hj:1-i<2:=by omega
 have a:1-(1-i)=i:=by omega
 have d:=h.d (1-i) hj;rw[a]at d;exact⟨d,h.d i hi,h.so i hi,(h.gr i hi).ok,(h.gr i hi).sm⟩
def NS.Safe.took(h:n.Safe)(hi:i<2){c2:CS}(r:Rc (n.c (1-i)) c2 (n.e (1-i)) (n.e i) (n.g (1-i)) (n.g i))(l:EI (n.c i) c2)(x:c2.next=(n.c i).next)(ids:c2.lastID=(n.c i).lastID/\c2.anyID=(n.c i).anyID)(wt:c2.waits=(n.c i).waits)
  (now:c2.now=(n.c i).now) (mtu:c2.mtu=(n.c i).mtu) (got:∀r∈c2.got.rs,r.2<(n.c (1-i)).next) (cl:c2.closed=0):((n.setC i c2).came i).1=true/\((n.setC i c2).came i).2.Safe/\∃f,((n.setC i c2).came i).2={ n.setC i { c2 with came:=[] }with g:=upd n.g (1-i) ((n.g (1-i)).map f) }/\Lh c2.came f:=by
 have A:1-i<2:=by omega
 have u:1-(1-i)=i:=by omega
 have g0:=r.ms;have v:=h.dg i hi;have B:=h.gr (1-i) A;rw[u]at B;have C:=now.trans (h.now i hi);obtain⟨m1,f,m2,m⟩:=SW n.now c2.came (n.g (1-i)) g0.nd g0.cn (λp a=>by rw[<-C];exact g0.ms p a);have es:=NS.setC_c n i c2;have e0:((n.setC i c2).came i).1=(FV n.now c2.came (n.g (1-i))).1:=by
  unfold NS.came CS.datagramsOut;rw[es];rfl
 have D:((n.setC i c2).came i).2={ n.setC i { c2 with came:=[] }with g:=upd n.g (1-i) ((n.g (1-i)).map f) }:=by
  unfold NS.came CS.datagramsOut;rw[es];have eu:(n.setC i c2).setC i { c2 with came:=[] }=n.setC i { c2 with came:=[] }:=by
   unfold NS.setC;have:upd (upd n.c i c2) i { c2 with came:=[] }=upd n.c i { c2 with came:=[] }:=by
    funext j;unfold upd;split<;>rfl
   simp only[this]
  show{ (n.setC i c2).setC i { c2 with came:=[] }with g:=upd n.g (1-i) (FV n.now c2.came (n.g (1-i))).2 }=_;rw[eu,m2]
 refine⟨e0.trans m1,?_,f,D,m⟩;rw[D];have ec:({ n.setC i { c2 with came:=[] }with g:=upd n.g (1-i) ((n.g (1-i)).map f) }:NS).c i={ c2 with came:=[] }:=NS.setC_c n i _;have b:upd n.g (1-i) ((n.g (1-i)).map f) i=n.g i:=zd _ _ (by omega);have d:upd n.g (1-i) ((n.g (1-i)).map f) (1-i)=(n.g (1-i)).map f:=ze _ _ _;refine h.turn (n':={ n.setC i { c2 with came:=[] }with g:=upd n.g (1-i) ((n.g (1-i)).map f) }) hi ⟨NS.setC_o n hi _,?_,?_,?_,?_,?_,?_,?_,?_,?_,?_,?_,?_,rfl,⟨?_,rfl⟩,⟨?_,rfl⟩,⟨?_,rfl⟩,?_,λp a=>.inl a,?_⟩;all_goals try rw[ec]
 ·exact⟨l.ws,l.grant,l.rg⟩
 ·exact BX x.symm
 ·exact⟨r.d2.k,r.d2.cr⟩
 ·exact⟨r.d1.k,r.d1.cr⟩
 ·show Dw _ (upd n.g (1-i) ((n.g (1-i)).map f) i);rw[b];exact⟨r.so.w,r.so.kf,r.so.sp,r.so.wt⟩
 ·show Fm (n.g i) (upd n.g (1-i) ((n.g (1-i)).map f) i);rw[b];exact Fm.refl _
 ·show Fm (n.g (1-i)) (upd n.g (1-i) ((n.g (1-i)).map f) (1-i));rw[d];exact λs t=>⟨f s,BT.2 ⟨s,t,rfl⟩,m.id s,m.dl s,m.data s⟩
 ·show _=(upd n.g (1-i) ((n.g (1-i)).map f) (1-i)).length;rw[d,A9]
 ·show Ii _ (upd n.g (1-i) ((n.g (1-i)).map f) (1-i));rw[d];refine⟨⟨?_,λs t q=>?_,λp a=>(by cases a),DP,λp a=>(by cases a)⟩,rfl,r.sm⟩
  ·rw[CY];have:((λx=>x.id) ∘ f)=(λx:SN=>x.id):=by funext s;exact m.id s
   rw[this];exact g0.nd
  ·obtain⟨z,o,rfl⟩:=BT.1 t;rw[m.id];rcases m.no _ q with y|⟨p,a,y⟩
   ·exact g0.se z o y
   ·rw[<-y];exact g0.kn p a
 ·show Gc (n.c (1-i)) (upd n.g (1-i) ((n.g (1-i)).map f) i);rw[b];exact B.ok
 ·show Ij _ (upd n.g (1-i) ((n.g (1-i)).map f) i) (n.next i);rw[b];exact⟨by show c2.anyID=true->c2.lastID<_;rw[ids.1,ids.2];exact v.id,v.gi,by show c2.waits.length<=_;rw[wt];exact v.wl⟩
 ·show ∀s∈upd n.g (1-i) ((n.g (1-i)).map f) (1-i),s.id<n.next (1-i);rw[d];intro s t;obtain⟨z,o,rfl⟩:=BT.1 t;rw[m.id];exact(h.dg (1-i) A).gi z o
 ·exact C
 ·exact mtu.trans (h.mtu i hi)
 ·show n.count i=c2.next;rw[x];exact h.ct i hi
 ·exact got
 ·exact cl
def NS.Safe.recv(h:n.Safe)(hI:n.Inv T)(hi:i<2){b:List UInt8}(hb:b.length<1099511627776)(p:IA (n.c (1-i)) (n.c i).next (n.g (1-i)) b):(n.recv i b).1=0/\(n.recv i b).2.1=true/\(n.recv i b).2.2.Safe:=by
 have m:1-i<2:=by omega
 have rc:=PE h hi;have d:=h.up i hi;obtain⟨a,fs,o,e2,e3⟩:=p.dec;obtain⟨f1,_,f3⟩:=LG hb o;have l:=h.got i hi;unfold NS.recv;by_cases u:Gf (n.c i).got.rs (n.c i).got.fl a=true
 ·have hc:(n.c i).receive b=((0,-1),n.c i):=by
   unfold CS.receive;rw[AH (by rw[d];simp),o];simp only;rw[AN u]
  rw[hc];obtain⟨t1,q,_⟩:=h.took hi rc (EI.refl (h.so i hi)) rfl ⟨rfl,rfl⟩ rfl rfl rfl l d;exact⟨rfl,t1,q⟩
 ·have hc:(n.c i).receive b=(((CS.takes fs { n.c i with got:=(n.c i).got.add a a }).1,-1),(CS.takes fs { n.c i with got:=(n.c i).got.add a a }).2):=by
   unfold CS.receive;rw[AH (by rw[d];simp),o];simp only;rw[AH u]
  rw[hc];have s:Rc (n.c (1-i)) { n.c i with got:=(n.c i).got.add a a } (n.e (1-i)) (n.e i) (n.g (1-i)) (n.g i):=⟨⟨rc.d1.k,rc.d1.cr⟩,⟨rc.d2.k,rc.d2.cr⟩,⟨rc.so.w,rc.so.kf,rc.so.sp,rc.so.wt⟩,rc.ms.same ⟨rfl,rfl,rfl⟩ rfl,rc.sm⟩;obtain⟨t1,q,f⟩:=Rc.takes (h.so (1-i) m) fs _ s f3 e3;have tc:=OA fs { n.c i with got:=(n.c i).got.add a a } t1;have t:=SH ((hI.c i hi).got.1) (B:=(n.c (1-i)).next-1) (lo:=a) (hi:=a) (λj m=>by have:=l _ (Ac (LH m));simp only at this;omega) (by omega) f1;obtain⟨u1,u2,_⟩:=h.took hi q ⟨f.sle.ws,f.sle.grant,f.sle.rg⟩ f.next f.ids f.waits f.now f.cfg.1 (λr v=>by
   rw[f.got]at v;obtain⟨j,m,_,e⟩:=Ll (show r∈((n.c i).got.add a a).rs from v);have:=t j m;omega) (tc.trans d)
  exact⟨t1,u1,u2⟩
def NS.Safe.spoilt(h:n.Safe)(hi:i<2){b:List UInt8}(hd:dec b = .sum):(n.recv i b).1=7/\(n.recv i b).2.1=true/\(n.recv i b).2.2.Safe:=by
 have a:=h.up i hi;have hc:(n.c i).receive b=((7,-1),n.c i):=by
  unfold CS.receive;rw[AH (by rw[a];simp),hd]
 unfold NS.recv;rw[hc];obtain⟨t1,t2,_⟩:=h.took hi (PE h hi) (EI.refl (h.so i hi)) rfl ⟨rfl,rfl⟩ rfl rfl rfl (h.got i hi) a;exact⟨rfl,t1,t2⟩
def YC{b:List UInt8}(hs:∃l,b=l++EG (Dv l))(hk:k<b.length){x:UInt8}(hx:x≠0):dec (Gy b k x) = .sum:=by
 obtain⟨l,rfl⟩:=hs;have e:Gy (l++EG (Dv l)) k x=(l++EG (Dv l)).set k ((l++EG (Dv l))[k] ^^^ x):=by
  unfold Gy;have e1:(l++EG (Dv l)).getD k 0=(l++EG (Dv l))[k]:=by rw[Ai,AJ hk];rfl
  rw[e1,List.set_eq_take_append_cons_drop,AN hk];rfl
 rw[e];refine fQ l k _ hk (λq=>hx ?_);generalize (l++EG (Dv l))[k]=y at q;have q2:y.toBitVec=y.toBitVec ^^^ x.toBitVec:=A0 UInt8.toBitVec q;have q3:x.toBitVec=0#8:=by
  have:=A0 (λz=>y.toBitVec ^^^ z) q2;simp only[BitVec.xor_self,<-BitVec.xor_assoc,BitVec.zero_xor]at this;exact this.symm
 exact UInt8.toBitVec_inj.1 q3
def Uf(s:List UInt8):IQ s≠0:=by
 unfold IQ;split
 ·rename_i h;exact h
 ·decide
def NS.Safe.drop(h:n.Safe)(k:Nat):(n.drop k).Safe :=
 ⟨h.d,h.so,h.gr,h.dg,h.now,h.mtu,h.ct,h.got,λp hp=>h.bag p (by
  rcases An.1 hp with x|x
  ·exact Be x
  ·exact CE x),h.up⟩
def NS.Safe.carry(h:n.Safe)(hI:n.Inv T)(s:Dm):(n.carry s).1=true/\(n.carry s).2.Safe:=by
 unfold NS.carry;split
 ·exact⟨rfl,h⟩
 ·rename_i hb;have hk:DZ s.a n.bag.length<n.bag.length:=zQ _ _ (BU.2 hb);have o:n.bag.getD (DZ s.a n.bag.length) (0,[])∈n.bag:=by simp[List.getD,hk]
  obtain⟨p,d⟩:=h.bag _ o;obtain⟨_,q3,q4⟩:=hI.bag _ o;generalize DZ s.a n.bag.length=k at *;generalize n.bag.getD k (0,[])=f at *;unfold NS.carryK;split
  ·have e:(if DZ s.b 2=0 then n.drop k else n).Safe/\(if DZ s.b 2=0 then n.drop k else n).Inv T/\IA ((if DZ s.b 2=0 then n.drop k else n).c (1-f.1)) ((if DZ s.b 2=0 then n.drop k else n).c f.1).next ((if DZ s.b 2=0 then n.drop k else n).g (1-f.1)) f.2:=by
    split
    ·exact⟨h.drop k,hI.drop k,d⟩
    ·exact⟨h,hI,d⟩
   generalize (if DZ s.b 2=0 then n.drop k else n)=m at *;obtain⟨i,j,l⟩:=e.1.recv e.2.1 p (by omega) e.2.2;exact⟨by rw[i,j];rfl,l⟩
  ·split
   ·exact⟨rfl,h.drop k⟩
   ·split
    ·obtain⟨i,j,l⟩:=h.spoilt p (YC d.sealed (zQ s.b _ q3) (Uf s.s));exact⟨by rw[i,j];rfl,l⟩
    ·exact⟨rfl,h⟩
def MG(c:CS):FD c.ticked c.tick:=Sa c.ticked
variable{G:List SN}
def WM(h:Dw c G):Dw c.tick G:=by
 have h1:Dw c.ticked G:=⟨h.w,h.kf,h.sp,λf hf=>by
  obtain⟨a,b⟩:=BV.1 (show f∈c.waits.filter (λf => !decide (f.dl<c.now+1))from hf);obtain⟨x,_,z⟩:=h.wt f a;refine⟨x,?_,z⟩;show c.now+1<=f.dl;simp only[Cl,Ak,Nat.not_lt]at b;exact b⟩
 exact h1.fl (MG c)
def WL(h:Dw c G):EI c c.tick:=by
 have f:=MG c;exact⟨λk hk=>FO.of_same (f.ws k) (h.w k hk).hl,BX f.grant.symm,λk hk=>by
  obtain⟨a,e⟩:=f.rs k hk;rw[e];exact AG _⟩
def WK{a b:CS}{E:Nat->EN}(h:Fl a b E):Fl a.tick b.tick E:=by
 have h1:Fl a.ticked b.ticked E:=⟨h.k,h.cr⟩;exact(h1.flW (MG a)).flR (MG b)
def Qp(n:NS)(hi:i<2):n.tick.c i=(n.c i).tick:=by
 show upd (upd n.c 0 (n.c 0).tick) 1 (n.c 1).tick i=_;by_cases e:i=1
 ·subst e;rw[ze]
 ·have:i=0:=by omega
  subst this;rw[zd _ _ e,ze]
def NS.Safe.tick(h:n.Safe):n.tick.Safe:=by
 have hc:=λi (hi:i<2)=>Qp n hi
 have f:=λi=>MG (n.c i)
 refine⟨λi hi=>?_,λi hi=>?_,λi hi=>?_,λi hi=>?_,λi hi=>?_,λi hi=>?_,λi hi=>?_,λi hi=>?_,λp e=>?_,λi hi=>?_⟩
 ·rw[hc i hi,hc (1-i) (by omega)];exact WK (h.d i hi)
 ·rw[hc i hi];exact WM (h.so i hi)
 ·rw[hc i hi];have g:=h.gr i hi;have h1:Gc (n.c i).ticked (n.g (1-i)):=⟨g.ok.nd,g.ok.se,λp e=>(by rw[show(n.c i).ticked.came=(n.c i).came from rfl,g.cm]at e;cases e),g.ok.cn,g.ok.kn⟩;exact⟨h1.same (f i).seen (f i).now,by rw[(f i).seen.2.2];exact g.cm,by rw[(f i).seen.1,(f i).seen.2.1];exact g.sm⟩
 ·rw[hc i hi];have q:=h.dg i hi;refine⟨by rw[(f i).ids.1,(f i).ids.2];exact q.id,q.gi,?_⟩;rw[(f i).waits];exact AO (Cn _ _) q.wl
 ·rw[hc i hi,(f i).now];show(n.c i).now+1=n.now+1;rw[h.now i hi]
 ·rw[hc i hi,(f i).cfg.1];exact h.mtu i hi
 ·rw[hc i hi,(f i).next];exact h.ct i hi
 ·rw[hc i hi,hc (1-i) (by omega),(f i).got,(f (1-i)).next];exact h.got i hi
 ·obtain⟨a,b⟩:=h.bag p e;refine⟨a,?_⟩;rw[hc p.1 a,hc (1-p.1) (by omega)];have s:=h.so (1-p.1) (by omega);exact b.mono (WL s) (λk hk=>(s.w k hk).hl) (BX (f _).next.symm) (BX (f _).next.symm) (Fm.refl _)
 ·rw[hc i hi,(f i).closed];exact h.up i hi
def NJ(c:Int):DZ c 8<8:=zQ c 8 (by omega)
def NS.Safe.new{mtu window total:Nat}(h:64<=mtu/\mtu<=400):(NS.new mtu window total).Safe:=by
 have l:Hq ⟨[],0,4097⟩ 0:=⟨I2 _ (by omega),rfl,λj hj=>absurd hj (BA j),by show 1025<=4097;omega⟩;have c:∀k,Dt ((CS.new mtu window total).ws k) ((CS.new mtu window total).rs k) EN.zero:=λk =>
  ⟨AG _,AL _,AL _,AG _,λ_=>AG _,AG _,rfl,AG _,l,λp ⟨i,hi,_⟩=>absurd hi (BA i),λe=>(by cases e),λe=>(by cases e),λe=>(by cases e),AL _,λe=>(by cases e),λe=>(by cases e),rfl,rfl,rfl,λe=>(by cases e),rfl,rfl⟩
 exact⟨λi _=>⟨λk _=>c k,AG _⟩,λi _=>⟨λk _=>(c k).wput,λ_ _=>AG _,AL _,λf hf=>(by cases hf)⟩,
  λi _=>⟨⟨DP,λs b=>(by cases b),λp a=>(by cases a),DP,λp a=>(by cases a)⟩,rfl,λ_=>rfl⟩,
  λi _=>⟨λe=>(by cases e),λs b=>(by cases b),AG _⟩,λ_ _=>rfl,λ_ _=>rfl,λ_ _=>rfl,λ_ _ r hr=>(by cases hr),λp a=>(by cases a),λ_ _=>rfl⟩
def Sv(wo:List Int)(l:List Dm):Prop:=∀s∈l,wo.contains s.kind=false->∀(T:Nat) (n:NS),n.Safe->n.Inv T->T+401<=Dg->(n.step s).1=true/\(n.step s).2.Safe
theorem NS.Safe.plays(d:List Int):∀(l:List Dm) {T B:Nat} {n:NS},Sv d l->n.Safe->n.Inv T->T+401*l.length<=B->B<=Dg->∃n',NS.plays d l n=some n'/\n'.Safe/\n'.Inv B
 | [],T,B,n,_,h,hI,hT,_=>⟨n,rfl,h,hI.mono (by rw[AX]at hT;omega)⟩
 | s::l,T,B,n,HS,h,hI,hT,hB=>by
  rw[AQ]at hT;have e1:401*(l.length+1)=401*l.length+401:=Nat.mul_succ 401 l.length;rw[e1]at hT;have e:=fun{g:Nat} {n':NS} (a:n'.Safe) (b:n'.Inv g)=>NS.Safe.plays d l (T:=g) (B:=B) (n:=n') (λq hq=>HS q (Aj _ hq)) a b
  generalize 401*l.length=q at *;have f:T+401<=B/\T+q<=B/\T+401+q<=B:=by clear e hB h hI HS;omega
  have c:=AO f.1 hB;unfold NS.plays;split
  ·exact e h hI f.2.1 hB
  ·rename_i hw;obtain⟨s1,s2⟩:=HS s Ae (by simpa using hw) T n h hI c;rw[AN s1];exact e s2 (hI.step s c) f.2.2 hB
theorem NS.Safe.reset(h:n.Safe)(hi:i<2)(hk:k<8)(b:Int):(n.reset i k b).1=true/\(n.reset i k b).2.Safe:=by
 have d:=(h.d i hi).k k hk;have hs:=Nt h hi hk;have so:=h.so i hi;have hp:=zQ b ((n.e i k).wrote.length+1) (Nat.succ_pos _);unfold NS.reset NS.resetK;generalize DZ b ((n.e i k).wrote.length+1)=q at *;rw[d.wr]at hp;have hc:(n.c i).reset k q=(0,{ n.c i with ws:=upd (n.c i).ws k (((n.c i).ws k).give q) }):=by
  unfold CS.reset;rw[AH (by rw[hs];simp),Ao,Ao,BM (by omega)]
 rw[hc];have hl:=d.hl;have l:FO ((n.c i).ws k) (((n.c i).ws k).give q):=by
  refine⟨Co _,λ_=>rfl,AG _,d.hl,id,λe=>⟨rfl,?_,?_⟩,λe1 e2 e3 _=>?_⟩
  ·unfold WS.give;simp only[e,A5]
  ·unfold WS.give;simp only[e,Bool.not_true,DV,Af];split<;>omega
  ·unfold WS.give;simp only[e3,BQ,BY];omega
 have kf:=so.kf k hk;have a:(((n.c i).ws k).give q).keep<=(((n.c i).ws k).give q).final:=by
  unfold WS.give;cases e:((n.c i).ws k).cut with
  | true =>
   simp only[Bool.not_true,DV,A5,Af];split<;>omega
  | false =>
   simp only[Bool.not_false,Bool.true_or,A5,BQ,BY];omega
 refine⟨rfl,h.writer hi hk l rfl (d.wle l d.bl d.hc d.cg (λ_=>?_) d.wr d.fi rfl (λ_=>?_) rfl rfl) a⟩
 ·show((n.c i).ws k).high<=(if ((n.c i).ws k).cut then((n.c i).ws k).final else max ((n.c i).ws k).high q);split
  ·rename_i e;exact d.hf e
  ·omega
 ·show(if !(n.e i k).cut||decide (q<(n.e i k).keep)then q else(n.e i k).keep)=(if !((n.c i).ws k).cut||decide (q<((n.c i).ws k).keep)then q else((n.c i).ws k).keep);rw[d.cu];cases e:((n.c i).ws k).cut with
  | true=>rw[d.ke e]
  | false=>rfl
def NS.Safe.datagram(h:n.Safe)(hI:n.Inv T)(hT:T<=Dg)(hi:i<2)(s:Dm):(n.datagram i s).1=true/\(n.datagram i s).2.Safe:=by
 have H:1-i<2:=by omega
 have C:1-(1-i)=i:=by omega
 have t:=h.up i hi;have F:=h.mtu i hi;have I:=h.now i hi;have so:=h.so i hi;have D:=h.dg i hi;have g0:=h.gr i hi;have B:=h.gr (1-i) H;rw[C]at B;have d2:=h.d (1-i) H;rw[C]at d2;have b1:=hI.next i hi;have b2:=hI.now;have p9:=zQ s.a 9 (by omega);have z:∀dl,dl<=n.now+8->¬(zB<n.next i\/zB<dl\/((n.c i).anyID=true/\n.next i<=(n.c i).lastID)):=by
  intro dl hd;unfold Dg at hT;rintro(x|x|⟨x,y⟩)
  ·unfold zB at x;omega
  ·unfold zB at x;omega
  ·have:=D.id x;omega
 unfold NS.datagram;by_cases l:n.mtu<s.s.length+40
 ·have hc:(n.c i).datagram (n.next i) n.now s.s=(6,n.c i):=by
   unfold CS.datagram;rw[AH (by rw[t];simp),AH (z _ (by omega)),AN (by rw[F];exact l)]
  rw[AN l,hc,NS.setC_self];exact⟨rfl,h⟩
 ·rw[AH l];by_cases J:(n.c i).waits.length=16
  ·have hc:(n.c i).datagram (n.next i) (n.now+DZ s.a 9) s.s=(3,n.c i):=by
    unfold CS.datagram;rw[AH (by rw[t];simp),AH (z _ (by omega)),AH (by rw[F];exact l),AN J]
   rw[hc,AN rfl,NS.setC_self];have:=D.wl;exact⟨by simp only[Af];omega,h⟩
  ·have hc:(n.c i).datagram (n.next i) (n.now+DZ s.a 9) s.s=(0,{ n.c i with anyID:=true,lastID:=n.next i,waits:=(n.c i).waits++[E3 (n.next i) (n.now+DZ s.a 9) s.s] }):=by
    unfold CS.datagram;rw[AH (by rw[t];simp),AH (z _ (by omega)),AH (by rw[F];exact l),AH J,AN (by rw[I];omega)]
   rw[hc,AH (by simp),AH (by simp)];refine⟨rfl,?_⟩;obtain⟨c2,j⟩:∃c2,c2=({ n.c i with anyID:=true,lastID:=n.next i,waits:=(n.c i).waits++[E3 (n.next i) (n.now+DZ s.a 9) s.s] }:CS):=⟨_,rfl⟩;obtain⟨sn,o⟩:∃sn,sn=(⟨n.next i,n.now+DZ s.a 9,s.s,false⟩:SN):=⟨_,rfl⟩;show NS.Safe { n.setC i _ with g:=upd n.g i (n.g i++[_]),next:=upd n.next i (n.next i+1+DZ s.b 3) };rw[<-j,<-o];have ec:({ n.setC i c2 with g:=upd n.g i (n.g i++[sn]),next:=upd n.next i (n.next i+1+DZ s.b 3) }:NS).c i=c2:=NS.setC_c n i c2;have u:upd n.g i (n.g i++[sn]) i=n.g i++[sn]:=ze _ _ _;have v:upd n.g i (n.g i++[sn]) (1-i)=n.g (1-i):=zd _ _ (by omega);have E:Fm (n.g i) (n.g i++[sn]):=λx hx=>⟨x,CU _ hx,rfl,rfl,rfl⟩
   refine h.turn (n':={ n.setC i c2 with g:=upd n.g i (n.g i++[sn]),next:=upd n.next i (n.next i+1+DZ s.b 3) }) hi ⟨NS.setC_o n hi _,?_,?_,?_,?_,?_,?_,?_,?_,?_,?_,?_,?_,?_,⟨?_,rfl⟩,⟨?_,rfl⟩,⟨?_,rfl⟩,?_,λp G=>.inl G,?_⟩;all_goals try rw[ec]
   ·rw[j];have r:=EI.refl so;exact⟨r.ws,r.grant,r.rg⟩
   ·rw[j];exact AG _
   ·rw[j];have d:=h.d i hi;exact⟨d.k,d.cr⟩
   ·rw[j];exact⟨d2.k,d2.cr⟩
   ·show Dw c2 (upd n.g i (n.g i++[sn]) i);rw[u,j];refine⟨so.w,so.kf,so.sp,λf hf=>?_⟩;rcases An.1 hf with x|x
    ·obtain⟨a,b,A,m,e⟩:=so.wt f x;exact⟨a,b,A,CU _ m,e⟩
    ·rw[Ab.1 x];refine⟨rfl,?_,sn,List.mem_append_right _ (by simp),?_⟩
     ·show(n.c i).now<=n.now+DZ s.a 9;rw[I];omega
     ·rw[o];exact⟨rfl,rfl,rfl⟩
   ·show Fm (n.g i) (upd n.g i (n.g i++[sn]) i);rw[u];exact E
   ·show Fm (n.g (1-i)) (upd n.g i (n.g i++[sn]) (1-i));rw[v];exact Fm.refl _
   ·show _=(upd n.g i (n.g i++[sn]) (1-i)).length;rw[v]
   ·show Ii c2 (upd n.g i (n.g i++[sn]) (1-i));rw[v,j];exact⟨g0.ok.same ⟨rfl,rfl,rfl⟩ rfl,g0.cm,g0.sm⟩
   ·show Gc (n.c (1-i)) (upd n.g i (n.g i++[sn]) i);rw[u];refine⟨?_,λA m q=>?_,λp G=>?_,B.ok.cn,B.ok.kn⟩
    ·rw[BO,C8];refine⟨B.ok.nd,by simp,λa ha b hb e=>?_⟩;obtain⟨A,m,rfl⟩:=BT.1 ha;have hb:b=n.next i:=by rw[o]at hb;simpa using hb
     have:=D.gi A m;omega
    ·rcases An.1 m with x|x
     ·exact B.ok.se A x q
     ·rw[Ab.1 x,o]at q;cases q
    ·rw[B.cm]at G;cases G
   ·show Ij c2 (upd n.g i (n.g i++[sn]) i) (upd n.next i (n.next i+1+DZ s.b 3) i);rw[u,ze,j];refine⟨λ_=>?_,λA m=>?_,?_⟩
    ·show n.next i<_;omega
    ·rcases An.1 m with x|x
     ·have:=D.gi A x;omega
     ·rw[Ab.1 x,o];show n.next i<_;omega
    ·show((n.c i).waits++[_]).length<=_;rw[AF,AF];have:=D.wl;simp only[Aa];omega
   ·show ∀x∈upd n.g i (n.g i++[sn]) (1-i),x.id<upd n.next i (n.next i+1+DZ s.b 3) (1-i);rw[v,zd _ _ (show 1-i≠i by omega)];exact(h.dg (1-i) H).gi
   ·show upd n.next i (n.next i+1+DZ s.b 3) (1-i)=_;rw[zd _ _ (show 1-i≠i by omega)]
   ·rw[j];exact I
   ·rw[j];exact F
   ·rw[j];exact h.ct i hi
   ·rw[j];exact h.got i hi
   ·rw[j];exact t
def NS.Safe.step(h:n.Safe)(hI:n.Inv T)(hT:T+401<=Dg)(s:Dm):(n.step s).1=true/\(n.step s).2.Safe:=by
 unfold NS.step;split
 ·exact h.send (Gx _) (NJ _) _
 ·split
  ·exact h.finish (Gx _) (NJ _)
  ·split
   ·exact h.reset (Gx _) (NJ _) _
   ·split
    ·exact h.datagram hI (by omega) (Gx _) s
    ·split
     ·exact h.tick.carry (hI.tick) s
     ·split
      ·exact h.flush hI (by omega) (Gx _)
      ·split
       ·exact h.read (Gx _) (NJ _) _
       ·exact h.carry hI s
structure Qt(c:CS):Prop where
 ws:∀k,k<8->(c.ws k).b=[]/\(c.ws k).cut=false/\(c.ws k).finished=false/\(c.ws k).sent.rs=[]
 rs:∀k,k<8->(c.rs k).grant=c.window/\(c.rs k).anew=false/\(c.rs k).used=0
 gr:c.grant=c.total/\c.anew=false/\c.total<=zB
 fl:∀p∈c.flight,∀f∈p.fs,f.kind=2\/f.kind=7
def Qt.wait(h:Qt c)(l:List Db):Qt { c with waits:=l }:=⟨h.ws,h.rs,h.gr,h.fl⟩
theorem Qt.ctlR(h:Qt c)(d:Dd):∀n k t,n+k=8->t<=zB->ctlR c d n k t=(none,t)
 | 0,_,_,_,_=>rfl
 | n+1,k,t,hk,ht=>by
  obtain⟨a,b,e⟩:=h.rs k (by omega);unfold Go.Proofs.YtddfdpbaiedcjaaGreatDoor.ctlR;rw[a,b,e,Au,Nat.max_self];rw[AH (by simp),show min (t+0) zB=t from BM ht];exact Qt.ctlR h d n (k+1) t (by omega) ht
theorem Qt.control(h:Qt c)(d:Dd):c.control d=none:=by
 obtain⟨g1,g2,g3⟩:=h.gr;unfold CS.control;rw[h.ctlR d 8 0 c.total rfl g3];simp only;unfold JW;rw[g1,g2,Nat.max_self,AH (by simp)];have:∀n k,n+k=8->Eg c d n k=none:=by
  intro n
  induction n with
  | zero=>intro k _;rfl
  | succ n ih =>
   intro k hk;unfold Eg;rw[(h.ws k (by omega)).2.1];exact ih (k+1) (by omega)
 exact this 8 0 rfl
def Qt.bytes(h:Qt c)(d:Dd)(hk:k<8):c.bytes d k=(false,c,d):=by
 obtain⟨a,b,e,f⟩:=h.ws k hk;unfold CS.bytes;split
 ·rfl
 ·have he:c.endOf k=0:=by
   have:=PP c k;have h0:c.end0 k=0:=by
    unfold CS.end0;rw[a];simp
   omega
  rw[f,he];have hf:(c.ws k).fin=false:=by unfold WS.fin;rw[e];rfl
  rw[AN (show(Dk [] 0 0).2<=(Dk [] 0 0).1 from AG 0),hf];rfl
variable{d:Dd}{q:Nat}
theorem Lz(h:c.put d q=(false,c,d))(m:Nat):CS.reps q m c d=(c,d):=by
 cases m with
 | zero=>rfl
 | succ m =>
  unfold CS.reps;rw[h];rfl
def Qt.put0(h:Qt c)(d:Dd):c.put d 0=(false,c,d):=by
 show((c.control d).isSome,((c.control d).getD (c,d)).1,((c.control d).getD (c,d)).2)=_;rw[h.control d];rfl
theorem Qt.fillB(h:Qt c)(d:Dd):∀n,n<=8->CS.fillN n c d=(c,d)
 | 0,_=>rfl
 | n+1,hn=>by
  have e:9-n=(7-n)+2:=by omega
  have hp:c.put d (9-n)=(false,c,d):=by
   rw[e];exact h.bytes d (by omega)
  unfold CS.fillN;rw[Lz hp];exact Qt.fillB h d n (by omega)
def Qt.fill0(h:Qt c)(hw:c.waits=[])(d:Dd):c.fill d=(c,d):=by
 have h1:c.put d 1=(false,c,d):=by
  show((c.datagrams d).isSome,((c.datagrams d).getD (c,d)).1,((c.datagrams d).getD (c,d)).2)=_;unfold CS.datagrams;rw[hw];rfl
 unfold CS.fill CS.fillN;rw[Lz (q:=9-9) (h.put0 d)];unfold CS.fillN;rw[Lz (q:=9-8) h1];exact h.fillB d 8 (AG _)
variable{d':Dd}
def Qt.fill1(h:Qt c)(hw:c.waits=[f])(hr:1<=d.room)(ha:d.add f=some d'):c.fill d=({ c with waits:=[] },d'):=by
 have h1:c.put d 1=(true,{ c with waits:=[] },d'):=by
  show((c.datagrams d).isSome,((c.datagrams d).getD (c,d)).1,((c.datagrams d).getD (c,d)).2)=_;unfold CS.datagrams;rw[hw];simp only[ha,Ay];rfl
 have h2:=h.wait [];have h3:({ c with waits:=[] }:CS).put d' 1=(false,{ c with waits:=[] },d'):=rfl;have a:CS.reps 1 (d.room+1) c d=({ c with waits:=[] },d'):=by
  obtain⟨r,b⟩:∃r,d.room=r+1:=⟨d.room-1,by omega⟩;rw[b];unfold CS.reps;rw[h1];simp only[A5];exact Lz h3 (r+1)
 unfold CS.fill CS.fillN;rw[Lz (q:=9-9) (h.put0 d)];unfold CS.fillN;show CS.fillN 8 (CS.reps 1 (d.room+1) c d).1 (CS.reps 1 (d.room+1) c d).2=_;rw[a];exact h2.fillB d' 8 (AG _)
def Ns{n:Nat}(h:n<1073741824):(zM n).length<=4:=by
 unfold zM;split
 ·simp
 ·split
  ·simp
  ·simp
def WJ{n:Nat}(h:n<16384):(zM n).length<=2:=by
 unfold zM;split
 ·simp
 ·simp
def SV{h:Nat}(hh:h<1073741824):(zA (ackF [(0,h)])).length<=10:=by
 have v1:=Ns hh;show(((([2]++zM h)++zM 0)++zM (h-0))++[]).length<=10;simp only[AF,AQ,AX,Nat.sub_zero];have:(zM 0).length=1:=rfl;omega
def Ue(h7:f.kind=7)(h1:f.id<1073741824)(h2:f.dl<1073741824)(h3:f.data.length<16384):(zA f).length<=11+f.data.length:=by
 have v1:=Ns h1;have v2:=Ns h2;have v3:=WJ h3;have e:zA f=IF f:=by unfold zA;simp[h7]
 rw[e];unfold IF;simp only[AF,AQ,AX];omega
def Dr(c:CS):List Db:=if c.answer=true/\c.got.rs≠[]then [ackF c.got.rs.reverse]else []
structure Sm(c:CS):Prop where
 mtu:64<=c.mtu
 next:c.next<1073741824
 got:c.got.rs=[]\/∃h,c.got.rs=[(0,h)]/\h<1073741824
 fl:c.flight.length<12
 wt:c.waits=[]\/∃f,c.waits=[f]/\f.kind=7/\f.id<1073741824/\f.dl<1073741824/\f.data.length<16384/\f.data.length+40<=c.mtu
def Tw(d:Dd):zr d []=(d,[]):=by unfold zr;rw[AN rfl]
def Q4(h:(d.b++zA f).length+4<=d.room):d.add f=some { d with b:=d.b++zA f,fs:=d.fs++[f],wants:=d.wants||f.kind != 2 }:=by
 unfold Dd.add;rw[AH (by omega)]
def WI{h:Nat}(hf:(d.b++zA (ackF [(0,h)])).length+4<=d.room):zr d [(0,h)]=({ d with b:=d.b++zA (ackF [(0,h)]),fs:=d.fs++[ackF [(0,h)]],wants:=d.wants||(ackF [(0,h)]).kind != 2 },[]):=by
 unfold zr;rw[AH (by simp)];unfold GX;have e:Ew d [(0,h)] [(0,h)].length=1:=by
  show Ew d [(0,h)] 1=1;unfold Ew;rw[AH (λx=>absurd x.1 (by decide))]
 rw[e];show((d.add (ackF [(0,h)])).getD d,[])=_;rw[Q4 hf];rfl
theorem Qt.packets(q:Qt c)(s:Sm c):c.packets =
  if Dr c++c.waits=[]then([],{ c with answer:=false })
  else([EP (Fg c.next (Dr c++c.waits))],{ c with answer:=false,waits:=[],next:=c.next+1,flight:=if c.waits=[]then c.flight else c.flight++[⟨c.next,c.now,Dr c++c.waits⟩] }):=by
 obtain⟨c1,d⟩:∃c1,c1=({ c with answer:=false }:CS):=⟨_,rfl⟩;obtain⟨l,hl⟩:∃l,l=(if c.answer=true/\c.got.rs≠[]then c.got.rs else []):=⟨_,rfl⟩;have hm:=s.mtu;have hn:=Ns s.next;have z:(l=[]/\Dr c=[])\/∃h,l=[(0,h)]/\h<1073741824/\Dr c=[ackF [(0,h)]]:=by
  unfold Dr;by_cases i:c.answer=true/\c.got.rs≠[]
  ·rw[AN i]at hl;rcases s.got with e|⟨h,e,A⟩
   ·exact absurd e i.2
   ·exact .inr ⟨h,hl.trans e,A,by rw[AN i,e];rfl⟩
  ·rw[AH i]at hl;exact .inl ⟨hl,by rw[AH i]⟩
 have r:c.acks=(l,c1):=by
  unfold CS.acks;cases i:c.answer with
  | false =>
   have o:l=[]:=by rw[hl,AH (by rw[i];simp)]
   have v:c1=c:=by rw[d,<-i]
   rw[o,v];rfl
  | true =>
   simp only[A5]
   congr 1
   ·rw[hl,i];rcases s.got with e|⟨h,e,_⟩
    ·rw[e];rfl
    ·rw[e];rfl
   ·rw[d]
 have j:Qt c1:=by rw[d];exact⟨q.ws,q.rs,q.gr,q.fl⟩
 have o:c1.flight=c.flight/\c1.mtu=c.mtu/\c1.next=c.next/\c1.waits=c.waits/\c1.now=c.now:=by rw[d];exact⟨rfl,rfl,rfl,rfl,rfl⟩
 obtain⟨d1,a⟩:∃d1:Dd,d1=⟨Fg c.next (Dr c),Dr c,c.mtu,false,false⟩:=⟨_,rfl⟩;have hb1:d1.b.length<=14:=by
  rw[a];show(Fg c.next (Dr c)).length<=14;rcases z with⟨_,e⟩|⟨h,_,A,e⟩
  ·rw[e];simp[Fg];omega
  ·rw[e];have:=SV A;simp only[Fg,AF,C9,List.flatMap_nil,Bh];omega
 have F:c1.pkDraft=⟨zM c.next,[],c.mtu,false,false⟩:=by
  unfold CS.pkDraft;rw[o.2.1,o.2.2.1]
 have t:zr c1.pkDraft l=(d1,[]):=by
  rw[F];rcases z with⟨G,e⟩|⟨h,G,A,e⟩
  ·rw[G,Tw];rw[a,e];simp[Fg]
  ·have:=SV A;rw[G,WI (by show(zM c.next++zA (ackF [(0,h)])).length+4<=c.mtu;rw[AF];omega),a,e];simp[Fg,ackF]
 have hp0:∀m,CS.pkts m c1 l=CS.pkts m c1 l:=λ_=>rfl
 have H:=s.fl;have I:c.packets=CS.pkts (12-c.flight.length+l.length+1) c1 l:=by
  unfold CS.packets;rw[r]
 rw[I];obtain⟨m,J⟩:∃m,12-c.flight.length+l.length=m+1:=⟨12-c.flight.length+l.length-1,by omega⟩;rw[J];unfold CS.pkts;rw[t];simp only;have u:c1.pkFill d1=c1.fill d1:=by unfold CS.pkFill;rw[AN (by rw[o.1];exact H)]
 rw[u];have stop:∀(c2:CS) (k:Nat),Qt c2->c2.waits=[]->CS.pkts k c2 []=([],c2):=by
  intro c2 k w w2;cases k with
  | zero=>rfl
  | succ k =>
   unfold CS.pkts;rw[Tw];have:c2.pkFill c2.pkDraft=(c2,c2.pkDraft):=by
    unfold CS.pkFill;split
    ·exact w.fill0 w2 _
    ·rfl
   rw[this];rfl
 rcases s.wt with n|⟨f,n,C,f1,f2,f3,f4⟩
 ·rw[j.fill0 (o.2.2.2.1.trans n) d1,n,Bh];by_cases D:Dr c=[]
  ·rw[AN (by rw[a];exact D),AN D];show([],c1)=_;rw[d,n]
  ·rw[AH (by rw[a];exact D),AH D];have v:c1.pkDone d1={ c with answer:=false,waits:=[],next:=c.next+1,flight:=if ([]:List Db)=[]then c.flight else c.flight++[⟨c.next,c.now,Dr c⟩] }:=by
    unfold CS.pkDone;rw[a,d,AN rfl];simp[n]
   show(EP d1.b::(CS.pkts (m+1) (c1.pkDone d1) []).1,(CS.pkts (m+1) (c1.pkDone d1) []).2)=_;have w:Qt (c1.pkDone d1):=⟨j.ws,j.rs,j.gr,by
    have:(c1.pkDone d1).flight=c1.flight:=by unfold CS.pkDone;rw[a];rfl
    rw[this];exact j.fl⟩
   rw[stop (c1.pkDone d1) _ w (by show c1.waits=[];exact o.2.2.2.1.trans n),v];rw[a]
 ·have hs:=Ue C f1 f2 f3;have i:d1.add f=some { d1 with b:=d1.b++zA f,fs:=d1.fs++[f],wants:=d1.wants||f.kind != 2 }:=Q4 (by
   rw[AF];have:d1.room=c.mtu:=by rw[a]
   omega)
  rw[j.fill1 (o.2.2.2.1.trans n) (by rw[a];show 1<=c.mtu;omega) i];have K:Dr c++c.waits≠[]:=by rw[n];simp
  rw[AH (by simp),AH K];have v:({ c1 with waits:=[] }:CS).pkDone { d1 with b:=d1.b++zA f,fs:=d1.fs++[f],wants:=d1.wants||f.kind != 2 }={ c with answer:=false,waits:=[],next:=c.next+1,flight:=if c.waits=[]then c.flight else c.flight++[⟨c.next,c.now,Dr c++c.waits⟩] }:=by
   unfold CS.pkDone;rw[a,d,n];simp[C]
  have w:Qt (({ c1 with waits:=[] }:CS).pkDone { d1 with b:=d1.b++zA f,fs:=d1.fs++[f],wants:=d1.wants||f.kind != 2 }):=by
   refine⟨j.ws,j.rs,j.gr,λp E g hg=>?_⟩;have E:p∈(if (d1.wants||f.kind != 2)=true then c1.flight++[⟨c1.next,c1.now,d1.fs++[f]⟩]else c1.flight):=E;rw[AN (by rw[C];simp)]at E;rcases An.1 E with x|x
   ·exact j.fl p x g hg
   ·rw[Ab.1 x]at hg;rcases An.1 hg with y|y
    ·have y:g∈Dr c:=by rw[a]at y;exact y
     unfold Dr at y;split at y
     ·rw[Ab.1 y];exact .inl rfl
     ·cases y
    ·rw[Ab.1 y];exact .inr C
  obtain⟨d2,B⟩:∃d2,d2=({ d1 with b:=d1.b++zA f,fs:=d1.fs++[f],wants:=d1.wants||f.kind != 2 }:Dd):=⟨_,rfl⟩;rw[<-B]at w v ⊢;show(EP d2.b::(CS.pkts (m+1) (({ c1 with waits:=[] }:CS).pkDone d2) []).1,(CS.pkts (m+1) (({ c1 with waits:=[] }:CS).pkDone d2) []).2)=_;rw[stop _ _ w rfl,v,B,a,n];simp[Fg]
def E7(m:Nat):Dh:=⟨if m=0 then []else [(0,m-1)],0,8⟩
theorem Ud(m:Nat):(E7 m).add m m=E7 (m+1):=by
 cases m with
 | zero=>rfl
 | succ k =>
  have e1:Em (D6 [(0,k)] (k+1)) 1=0:=by
   have:D6 [(0,k)] (k+1) 0=true:=by
    unfold D6;exact Aq (AG (k+1))
   unfold Em;simp[Bf,List.findIdx_cons,this]
  have e2:Em (D9 [(0,k)] (k+1)) 1=1:=by
   have:D9 [(0,k)] (k+1) 0=false:=by
    unfold D9;exact Az (BA _)
   unfold Em;simp[Bf,List.findIdx_cons,this]
  show(⟨[(0,k)],0,8⟩:Dh).add (k+1) (k+1)=⟨[(0,k+1)],0,8⟩;unfold Dh.add;simp only[Nat.max_zero,Aa,e1,e2];rw[AH (Nat.lt_irrefl _)];have e3:EB [(0,k)] (k+1) (k+1) 0 1=[(0,k+1)]:=by
   unfold EB EO;rw[AN (by omega)];have a:min (k+1) (Da [(0,k)] 0)=0:=Nat.min_eq_right (AL _);have b:max (k+1) (DY [(0,k)] (1-1))=k+1:=Nat.max_eq_left (Bz k);rw[a,b];rfl
  rw[e3,AH (by simp)]
theorem Uc(m:Nat):Gf (E7 m).rs (E7 m).fl m=false:=by
 cases m with
 | zero=>rfl
 | succ k =>
  show Gf [(0,k)] 0 (k+1)=false;unfold Gf;simp
def Qt.again(h:f.kind=2\/f.kind=7):c.again f=c:=by
 unfold CS.again;rcases h with h|h<;>simp[h]
theorem Qt.agains:∀{fs:List Db},(∀f∈fs,f.kind=2\/f.kind=7)->c.agains fs=c
 | [],_=>rfl
 | f::fs,h=>by
  show(c.again f).agains fs=c;rw[Qt.again (h f Ae)];exact Qt.agains (λg hg=>h g (Aj _ hg))
theorem Qt.loses:∀{l:List Df},(∀p∈l,∀f∈p.fs,f.kind=2\/f.kind=7)->c.loses l=c
 | [],_=>rfl
 | p::l,h=>by
  show(c.lose1 p).loses l=c;have:c.lose1 p=c:=by
   unfold CS.lose1;split
   ·exact Qt.agains (h p Ae)
   ·rfl
  rw[this];exact Qt.loses (λq hq=>h q (Aj _ hq))
def Qt.lose(h:Qt c):c.lose=c.fly (c.flight.filter λp => !c.late p):=by
 rw[Lx,Qt.loses h.fl]
theorem Qt.ackFs:∀{fs:List Db},(∀f∈fs,f.kind=2\/f.kind=7)->fs.foldl CS.ackF c=c
 | [],_=>rfl
 | f::fs,h=>by
  show fs.foldl CS.ackF (c.ackF f)=c;have:c.ackF f=c:=by
   unfold CS.ackF;rcases h f Ae with e|e<;>simp[e]
  rw[this];exact Qt.ackFs (λg hg=>h g (Aj _ hg))
theorem Qt.ackPs(rs:zC):∀{l:List Df},(∀p∈l,∀f∈p.fs,f.kind=2\/f.kind=7)->c.ackPs rs l=c
 | [],_=>rfl
 | p::l,h=>by
  show(c.ackP rs p).ackPs rs l=c;have:c.ackP rs p=c:=by
   unfold CS.ackP;split
   ·exact Qt.ackFs (h p Ae)
   ·rfl
  rw[this];exact Qt.ackPs rs (λq hq=>h q (Aj _ hq))
def Qt.acked(q:Qt c){h:Nat}(hn:h<c.next):∃L F,c.acked [(0,h)]=(0,{ c with largest:=L,flight:=F })/\(∀p∈F,p∈c.flight/\h<p.n)/\F.Sublist c.flight:=by
 have hh:¬c.next<=DY [(0,h)] 0:=by show ¬c.next<=h;omega
 rw[ME c _ hh];have e:c.ackedTo [(0,h)]={ c with largest:=max c.largest (DY [(0,h)] 0),flight:=c.flight.filter λp => !Eu [(0,h)] p }:=by
  unfold CS.ackedTo;rw[Qt.ackPs _ q.fl];rfl
 rw[e];have q2:Qt ({ c with largest:=max c.largest (DY [(0,h)] 0),flight:=c.flight.filter λp => !Eu [(0,h)] p }:CS):=⟨q.ws,q.rs,q.gr,λp f=>q.fl p (BV.1 f).1⟩;rw[q2.lose];refine⟨_,_,rfl,λp f=>?_,Cc.trans Cc⟩;obtain⟨a,_⟩:=BV.1 f;obtain⟨b,d⟩:=BV.1 a;refine⟨b,?_⟩;unfold Eu at d;simp only[List.any_cons,List.any_nil,Bool.or_false,Cl,B9,Ak]at d;omega
def fT(h1:∀p∈c.seen,p.1≠f.id)(h2:c.now<=f.dl)(h3:c.most<=f.id):c.message f={ c with most:=f.id,seen:=(c.seen++[(f.id,f.dl)]).filter (λp => !old f.id p.1),came:=c.came++[(f.id,f.data)] }:=by
 unfold CS.message;have a:(c.seen.any λp=>p.1==f.id)=false:=by
  rw[Ck];intro p hp;simpa using h1 p hp
 have b:decide (f.dl<c.now)=false:=Az (by omega);have d:old c.most f.id=false:=by
  unfold old;simp only[B9,Ak];omega
 rw[a,b,d,Nat.max_eq_right h3];simp
structure OU(c d:CS)(A:List Db)(D:List Db):Prop where
 q:Qt d
 got:d.got=c.got
 waits:d.waits=c.waits
 next:d.next=c.next
 answer:d.answer=(c.answer || !D.isEmpty)
 fl:d.flight.Sublist c.flight
 na:∀h,A=[ackF [(0,h)]]->∀p∈d.flight,h<p.n
 came:d.came=c.came++D.map λf=>(f.id,f.data)
 seen:∀p∈d.seen,p∈c.seen\/∃f∈D,p.1=f.id
 most:d.most=c.most\/∃f∈D,d.most=f.id
 cfg:d.mtu=c.mtu/\d.window=c.window/\d.total=c.total/\d.now=c.now
def Ub(q:Qt c)(A D:List Db)(hA:A=[]\/∃h,A=[ackF [(0,h)]]/\h<c.next)(hD:D=[]\/∃f,D=[f]/\f.kind=7/\(∀p∈c.seen,p.1≠f.id)/\c.now<=f.dl/\c.most<=f.id):∃d,CS.takes (A++D) c=(0,d)/\OU c d A D:=by
 have b:∃d1,CS.takes (A++D) c=CS.takes D d1/\OU c d1 A []/\d1.seen=c.seen/\d1.most=c.most:=by
  rcases hA with e|⟨h,e,hh⟩
  ·subst e;exact⟨c,rfl,⟨q,rfl,rfl,rfl,by simp,List.Sublist.refl _,λh x=>(by cases x),by simp,λp a=>.inl a,.inl rfl,⟨rfl,rfl,rfl,rfl⟩⟩,rfl,rfl⟩
  ·subst e;obtain⟨L,F,i,g,e3⟩:=q.acked hh;have j:c.take (ackF [(0,h)])=(0,{ c with largest:=L,flight:=F }):=i;refine⟨{ c with largest:=L,flight:=F },?_,⟨⟨q.ws,q.rs,q.gr,λp a=>q.fl p (g p a).1⟩,rfl,rfl,rfl,by simp,e3,λh' x p a=>?_,by simp,λp a=>.inl a,.inl rfl,⟨rfl,rfl,rfl,rfl⟩⟩,rfl,rfl⟩
   ·show CS.takes (ackF [(0,h)]::D) c=_;rw[CS.takes,j];simp only;rw[AH (by simp)];have ea:(c.answer||(ackF [(0,h)]).kind != 2)=c.answer:=by simp[ackF]
    rw[ea]
   ·have:h'=h:=by
     simp[ackF]at x;exact x.symm
    rw[this];exact(g p a).2
 obtain⟨d1,i,t1,s1,m1⟩:=b;rw[i];rcases hD with e|⟨f,e,k,g1,g2,g3⟩
 ·subst e;exact⟨d1,rfl,t1⟩
 ·subst e;have em:=fT (c:=d1) (f:=f) (by rw[s1];exact g1) (by rw[t1.cfg.2.2.2];exact g2) (by rw[m1];exact g3);have j:d1.take f=(0,d1.message f):=by
   unfold CS.take;simp[k]
  have g:CS.takes [f] d1=(0,{ d1.message f with answer:=(d1.message f).answer||f.kind != 2 }):=by
   rw[CS.takes,j];simp only;rw[AH (by simp)];rfl
  rw[g,em];refine⟨_,rfl,⟨t1.q.ws,t1.q.rs,t1.q.gr,t1.q.fl⟩,t1.got,t1.waits,t1.next,?_,t1.fl,t1.na,?_,λp a=>?_,.inr ⟨f,Cg f,rfl⟩,t1.cfg⟩
  ·show(d1.answer||f.kind != 2)=_;rw[t1.answer,k];simp
  ·show d1.came++[(f.id,f.data)]=_;rw[t1.came];simp
  ·have a:=(BV.1 (show p∈(d1.seen++[(f.id,f.dl)]).filter (λp => !old f.id p.1)from a)).1;rcases An.1 a with x|x
   ·exact .inl (by rw[<-s1];exact x)
   ·exact .inr ⟨f,Cg f,by rw[Ab.1 x]⟩
def EH:Dm:=⟨7,0,0,0,[]⟩
def Su(n:NS){b:List UInt8}{rest:List (Nat×List UInt8)}(hb:n.bag=(i,b)::rest):(n.step EH).2=(({ n with bag:=rest }:NS).recv i b).2.2:=by
 have e:n.step EH=n.carry EH:=rfl;have p:∀m,DZ 0 m=0:=λm=>by unfold DZ;simp
 rw[e];unfold NS.carry;rw[AH (by rw[hb];simp)];have ed:n.drop 0={ n with bag:=rest }:=by unfold NS.drop;rw[hb];rfl
 show(n.carryK EH (DZ 0 n.bag.length) (n.bag.getD (DZ 0 n.bag.length) (0,[]))).2=_;rw[p];unfold NS.carryK;rw[AN (show EH.kind=7 from rfl),AN (show DZ EH.b 2=0 from p 2),ed,hb];rfl
variable{num:Nat}
def Kp(h:n.Safe)(hI:n.Inv T)(hi:i<2){A D:List Db}{b:List UInt8}{rest:List (Nat×List UInt8)}(hb:n.bag=(i,b)::rest)(hd:dec b = .ok num (A++D))(hg:(n.c i).got=E7 num)(q:Qt (n.c i))
  (hA:A=[]\/∃h,A=[ackF [(0,h)]]/\h<(n.c i).next) (hD:D=[]\/∃f,D=[f]/\f.kind=7/\(∀p∈(n.c i).seen,p.1≠f.id)/\(n.c i).now<=f.dl/\(n.c i).most<=f.id) :
  ∃d f,(n.step EH).2={ n.setC i { d with came:=[] }with bag:=rest,g:=upd n.g (1-i) ((n.g (1-i)).map f) }/\OU { n.c i with got:=E7 (num+1) } d A D/\Lh (D.map λf=>(f.id,f.data)) f:=by
 have hj:1-i<2:=by omega
 rw[Su n hb];obtain⟨bp1,u⟩:=h.bag (i,b) (by rw[hb];exact Ae);have bl:=hI.bag (i,b) (by rw[hb];exact Ae);obtain⟨a,l⟩:∃a,a=({ n with bag:=rest }:NS):=⟨_,rfl⟩;have h0:a.Safe:=by
  have:=h.drop 0;have ed:n.drop 0=a:=by rw[l];unfold NS.drop;rw[hb];rfl
  rwa [ed]at this
 have j:a.c=n.c:=by rw[l]
 have eg:a.g=n.g:=by rw[l]
 rw[<-l];have rc:=PE h0 hi;have o:=h0.up i hi;have B:=h0.got i hi;obtain⟨C,fs,v,e2,e3⟩:=u.dec;obtain⟨f1,_,f3⟩:=LG (show b.length<1099511627776 by have:=bl.2.2;simp only at this;omega) v;rw[hd]at v;injection v with e4 e5;subst e4 e5;have hh:Gf (a.c i).got.rs (a.c i).got.fl num=false:=by rw[j,hg];exact Uc num
 have s:(a.c i).got.add num num=E7 (num+1):=by rw[j,hg];exact Ud num
 obtain⟨d,E,F⟩:=Ub (c:={ n.c i with got:=E7 (num+1) }) ⟨q.ws,q.rs,q.gr,q.fl⟩ A D hA hD;have hc:(a.c i).receive b=((0,-1),d):=by
  unfold CS.receive;rw[AH (by rw[o];simp),hd];simp only;rw[AH (by rw[hh];simp),s,j,E]
 have x:Rc (a.c (1-i)) { a.c i with got:=E7 (num+1) } (a.e (1-i)) (a.e i) (a.g (1-i)) (a.g i):=⟨⟨rc.d1.k,rc.d1.cr⟩,⟨rc.d2.k,rc.d2.cr⟩,⟨rc.so.w,rc.so.kf,rc.so.sp,rc.so.wt⟩,rc.ms.same ⟨rfl,rfl,rfl⟩ rfl,rc.sm⟩;obtain⟨t1,G,m⟩:=Rc.takes (h0.so (1-i) hj) (A++D) _ x f3 (by rw[j,eg];exact e3);have H:=OA (A++D) { a.c i with got:=E7 (num+1) } t1;have y:({ a.c i with got:=E7 (num+1) }:CS)={ n.c i with got:=E7 (num+1) }:=by rw[j]
 rw[y,E]at t1 G m H;have z:=(h0.gr i hi).cm;obtain⟨_,_,f,u3,u4⟩:=h0.took hi G (by rw[j];exact⟨m.sle.ws,m.sle.grant,m.sle.rg⟩) (by rw[j];exact m.next) (by rw[j];exact m.ids) (by rw[j];exact m.waits) (by rw[j];exact m.now) (by rw[j];exact m.cfg.1) (λr t=>by
  rw[m.got]at t;have t:r ∈ [(0,num)]:=t;rw[Ab.1 t,j];exact e2) (by rw[H,<-j];exact o)
 refine⟨d,f,?_,F,?_⟩
 ·unfold NS.recv;rw[hc];show((a.setC i d).came i).2=_;rw[u3,l];rfl
 ·have:d.came=D.map λf=>(f.id,f.data):=by
   rw[F.came];show(n.c i).came++_=_;rw[<-j,z,Am]
  rw[<-this];exact u4
def Y9{b:List UInt8}(h:(NS.flushL i [b] n).1=true):(NS.flushL i [b] n).2={ n with count:=upd n.count i (n.count i+1),bag:=n.bag++[(1-i,b)] }:=by
 unfold NS.flushL at h ⊢;split
 ·rename_i num fs e;rw[e]at h;simp only at h;split
  ·rename_i x;rw[AN x]at h;cases h
  ·rename_i x;rw[AH x]at h;split
   ·rename_i y;rw[AN y]at h;cases h
   ·rfl
 ·rename_i hne;split at h
  ·rename_i num fs e;exact absurd e (hne num fs)
  ·cases h
def GQ(i:Nat)(c:CS):List (Nat×List UInt8):=if Dr c++c.waits=[]then []else [(1-i,EP (Fg c.next (Dr c++c.waits)))]
def Q3(h:n.Safe)(hI:n.Inv T)(hT:T<=Dg)(hi:i<2)(q:Qt (n.c i))(s:Sm (n.c i)):∃ct,(n.flush i).2={ n.setC i (n.c i).packets.2 with count:=ct,bag:=n.bag++GQ i (n.c i) }:=by
 have h1:=(h.flush hI hT hi).1;have a:=q.packets s;unfold NS.flush at h1 ⊢;unfold GQ;by_cases e:Dr (n.c i)++(n.c i).waits=[]
 ·rw[AN e]at a ⊢;rw[a];refine⟨n.count,?_⟩;rw[Bh];rfl
 ·rw[AH e]at a ⊢;have e1:(n.c i).packets.1=[EP (Fg (n.c i).next (Dr (n.c i)++(n.c i).waits))]:=by rw[a]
  rw[e1]at h1 ⊢;exact⟨_,Y9 h1⟩
def YB{h:Nat}(hh:h<1073741824):zT (ackF [(0,h)])=true:=by
 unfold zT EM ER zN ackF Ff Eh Gv Gw;simp[Da,DY];omega
def Ms(s:Sm c)(hf:∀f∈c.waits,f.Fits/\∃id dl x,f=E3 id dl x)(a:Dr c++c.waits≠[]):dec (EP (Fg c.next (Dr c++c.waits))) = .ok c.next (Dr c++c.waits):=by
 have hn:=s.next;have g:∀f∈Dr c,∃h,f=ackF [(0,h)]/\h<1073741824:=by
  intro f hf;unfold Dr at hf;split at hf
  ·rename_i x;rcases s.got with e|⟨h,e,b⟩
   ·exact absurd e x.2
   ·rw[e]at hf;exact⟨h,Ab.1 hf,b⟩
  ·cases hf
 have hc:(Dr c++c.waits).map canon=Dr c++c.waits:=by
  have:∀f∈Dr c++c.waits,canon f=f:=by
   intro f d;rcases An.1 d with x|x
   ·obtain⟨h,rfl,_⟩:=g f x;rfl
   ·obtain⟨_,id,dl,z,rfl⟩:=hf f x;rfl
  rw[Cb this,List.map_id']
 unfold EP;rw[TZ];unfold Fg;rw[SA c.next _ (by omega) (BU.2 a) (λf d=>?_),hc];rcases An.1 d with x|x
 ·obtain⟨h,rfl,b⟩:=g f x;exact⟨YB b,by simp[ackF],by simp[ackF]⟩
 ·have y:=(hf f x).1;exact⟨y.sound,by have:=y.data;omega,by rw[y.rn];simp⟩
def NS.comes:Nat->NS->NS
 | 0,n=>n
 | k+1,n=>NS.comes k (n.step EH).2
theorem YA(a b:Nat)(n:NS):NS.comes (a+b) n=NS.comes b (NS.comes a n):=by
 induction a generalizing n with
 | zero=>rw[Au];rfl
 | succ a ih=>rw[Nat.succ_add];exact ih _
structure OS(n:NS)(i:Nat):Prop where
 q:Qt (n.c i)
 got:(n.c i).got=E7 (n.c (1-i)).next
 f1:(n.c i).flight.length<=1
 f2:(n.c i).flight≠[]->(n.c (1-i)).answer=true
 f3:∀p∈(n.c i).flight,p.n<(n.c i).next
 sn:(∀p∈(n.c i).seen,p.1<n.next (1-i))/\(n.c i).most<=n.next (1-i)
structure OI(n:NS):Prop where
 bag:n.bag=[]
 os:∀i,i<2->OS n i
 wt:∀i,i<2->(n.c i).waits=[]
 cm:∀i,i<2->∀s∈n.g i,s.came=true
def OW(n:NS)(i:Nat):Prop:=((n.c i).waits=[]/\∀s∈n.g i,s.came=true)\/∃id dl x,(n.c i).waits=[E3 id dl x]/\(∀p∈(n.c (1-i)).seen,p.1≠id)/\(n.c (1-i)).most<=id/\(n.now<=dl/\dl<1073741824)/\x.length+40<=n.mtu/\id<n.next i/\∀s∈n.g i,s.came=true\/s.id=id
structure OJ(n:NS):Prop where
 bag:n.bag=[]
 os:∀i,i<2->OS n i
 wt:∀i,i<2->OW n i
end
section
open Go.RowKit
variable{n:NS}
def OI.j(h:OI n):OJ n:=⟨h.bag,h.os,λi hi=>.inl ⟨h.wt i hi,h.cm i hi⟩⟩
variable{T i:Nat}
def OJ.sm(h:OJ n)(hs:n.Safe)(hI:n.Inv T)(hT:T<=33000000)(hi:i<2):Sm (n.c i):=by
 have o:=h.os i hi;have c1:=(hI.c i hi);have c2:=(hI.c (1-i) (by omega)).next;have hm:=hs.mtu i hi;have hn:=hI.next i hi;have hm2:=hI.mtu;refine⟨c1.mtu.1,by have:=c1.next;omega,?_,by have:=o.f1;omega,?_⟩
 ·rw[o.got];unfold E7;by_cases e:(n.c (1-i)).next=0
  ·exact .inl (by rw[AN e])
  ·exact .inr ⟨_,by rw[AH e],by omega⟩
 ·rcases h.wt i hi with⟨e,_⟩|⟨id,dl,x,e,_,_,e3,e4,e5,_⟩
  ·exact .inl e
  ·exact .inr ⟨_,e,rfl,by show id<_;omega,e3.2,by show x.length<_;omega,by rw[hm];exact e4⟩
def JT(c b d:CS):Prop:=(Dr b++b.waits=[]/\d=c)\/(Dr b++b.waits≠[]/\∃d0,d={ d0 with came:=[] }/\OU { c with got:=E7 (b.next+1) } d0 (Dr b) b.waits)
def St{m:NS}(h:m.Safe)(hI:m.Inv T)(z:T+401<=Dg)(hi:i<2){b:CS}{rest:List (Nat×List UInt8)}(hb:m.bag=GQ (1-i) b++rest)(s:Sm b)(hf:∀f∈b.waits,f.Fits/\∃id dl x,f=E3 id dl x)
  (q:Qt (m.c i)) (hg:(m.c i).got=E7 b.next) (hA:∀h,Dr b=[ackF [(0,h)]]->h<(m.c i).next) (hD:∀f∈b.waits,(∀p∈(m.c i).seen,p.1≠f.id)/\(m.c i).now<=f.dl/\(m.c i).most<=f.id) :
  ∃m',m'=NS.comes (GQ (1-i) b).length m/\m'.Safe/\m'.Inv (T+401)/\m'.bag=rest/\m'.c (1-i)=m.c (1-i)/\JT (m.c i) b (m'.c i)/\m'.next=m.next/\m'.now=m.now/\m'.g i=m.g i/\(∀s'∈m'.g (1-i),∃s∈m.g (1-i),s'.id=s.id/\(s.came=true->s'.came=true)/\((∃f∈b.waits,f.id=s.id)->s'.came=true)):=by
 have n:1-(1-i)=i:=by omega
 by_cases a:Dr b++b.waits=[]
 ·have o:GQ (1-i) b=[]:=by unfold GQ;rw[AN a]
  rw[o]at hb ⊢;refine⟨m,rfl,h,hI.mono (by omega),hb,rfl,.inl ⟨a,rfl⟩,rfl,rfl,rfl,λs hs=>⟨s,hs,rfl,id,λ⟨f,hf,_⟩=>?_⟩⟩;rw[(Cj.1 a).2]at hf;cases hf
 ·have o:GQ (1-i) b=[(i,EP (Fg b.next (Dr b++b.waits)))]:=by unfold GQ;rw[AH a,n]
  rw[o]at hb ⊢;have r:Dr b=[]\/∃h,Dr b=[ackF [(0,h)]]/\h<(m.c i).next:=by
   by_cases u:b.answer=true/\b.got.rs≠[]
   ·rcases s.got with e|⟨h,e,_⟩
    ·exact absurd e u.2
    ·have:Dr b=[ackF [(0,h)]]:=by unfold Dr;rw[AN u,e];rfl
     exact .inr ⟨h,this,hA h this⟩
   ·exact .inl (by unfold Dr;rw[AH u])
  have v:b.waits=[]\/∃f,b.waits=[f]/\f.kind=7/\(∀p∈(m.c i).seen,p.1≠f.id)/\(m.c i).now<=f.dl/\(m.c i).most<=f.id:=by
   rcases s.wt with e|⟨f,e,k,_⟩
   ·exact .inl e
   ·have:=hD f (by rw[e];exact Cg f);exact .inr ⟨f,e,k,this⟩
  obtain⟨d,f,e1,e2,w⟩:=Kp h hI hi (rest:=rest) hb (Ms s hf a) hg q r v;have t:=h.step hI z EH;have tI:=hI.step EH z;refine⟨(m.step EH).2,rfl,t.2,tI,?_⟩;rw[e1];refine⟨rfl,NS.setC_o m hi _,.inr ⟨a,d,NS.setC_c m i _,e2⟩,rfl,rfl,zd _ _ (by omega),λs' j=>?_⟩;have j:s'∈upd m.g (1-i) ((m.g (1-i)).map f) (1-i):=j;rw[ze]at j;obtain⟨l,y,rfl⟩:=BT.1 j;refine⟨l,y,w.id l,w.old l,λ⟨g,hg,e⟩=>w.yes l ⟨(g.id,g.data),BT.2 ⟨g,hg,rfl⟩,e⟩⟩
variable{c:CS}
def NU(q:Qt c)(s:Sm c):Qt c.packets.2/\c.packets.2.waits=[]/\c.packets.2.got=c.got/\c.packets.2.seen=c.seen/\c.packets.2.most=c.most/\c.packets.2.now=c.now/\c.packets.2.answer=false/\c.packets.2.next=c.next+(if Dr c++c.waits=[]then 0 else 1)/\c.packets.2.flight=if c.waits=[]then c.flight else c.flight++[⟨c.next,c.now,Dr c++c.waits⟩]:=by
 rw[q.packets s];by_cases e:Dr c++c.waits=[]
 ·have d:=(Cj.1 e).2;rw[AN e,AN e];exact⟨⟨q.ws,q.rs,q.gr,q.fl⟩,d,rfl,rfl,rfl,rfl,rfl,rfl,by rw[AN d]⟩
 ·rw[AH e,AH e];refine⟨⟨q.ws,q.rs,q.gr,λp a f hf=>?_⟩,rfl,rfl,rfl,rfl,rfl,rfl,rfl,rfl⟩;have a:p∈(if c.waits=[]then c.flight else c.flight++[⟨c.next,c.now,Dr c++c.waits⟩]):=a;split at a
  ·exact q.fl p a f hf
  ·rcases An.1 a with x|x
   ·exact q.fl p x f hf
   ·rw[Ab.1 x]at hf;rcases An.1 hf with y|y
    ·unfold Dr at y;split at y
     ·rw[Ab.1 y];exact .inl rfl
     ·cases y
    ·rcases s.wt with b|⟨f0,b,k,_⟩
     ·rw[b]at y;cases y
     ·rw[b]at y;rw[Ab.1 y];exact .inr k
structure NB(c b d:CS):Prop where
 q:Qt d
 waits:d.waits=c.waits
 next:d.next=c.next
 got:d.got=if Dr b++b.waits=[]then c.got else E7 (b.next+1)
 answer:d.answer=(c.answer || !b.waits.isEmpty)
 fl:d.flight.Sublist c.flight
 na:∀h,Dr b=[ackF [(0,h)]]->∀p∈d.flight,h<p.n
 seen:∀p∈d.seen,p∈c.seen\/∃f∈b.waits,p.1=f.id
 most:d.most=c.most\/∃f∈b.waits,d.most=f.id
def JT.f{b d:CS}(t:JT c b d)(q:Qt c):NB c b d:=by
 rcases t with⟨e,rfl⟩|⟨e,d0,rfl,k⟩
 ·obtain⟨e1,e2⟩:=Cj.1 e;refine⟨q,rfl,rfl,by rw[AN e],by rw[e2];simp,List.Sublist.refl _,λh x=>?_,λp hp=>.inl hp,.inl rfl⟩;rw[e1]at x;cases x
 ·exact⟨⟨k.q.ws,k.q.rs,k.q.gr,k.q.fl⟩,k.waits,k.next,by rw[AH e];exact k.got,k.answer,k.fl,k.na,k.seen,k.most⟩
theorem SU(hi:i<2)(o:OS n i)(E:OS n (1-i))(s:Sm (n.c i))(sj:Sm (n.c (1-i))){d u:CS}(t:JT (n.c i).packets.2 (n.c (1-i)) d)(tj:JT (n.c (1-i)).packets.2 (n.c i) u)(wj:OW n (1-i)):Qt d/\d.waits=[]/\d.got=E7 u.next/\d.flight.length<=1/\(d.flight≠[]->u.answer=true)/\(∀p∈d.flight,p.n<d.next)/\(∀p∈d.seen,p.1<n.next (1-i))/\d.most<=n.next (1-i):=by
 have C:1-(1-i)=i:=by omega
 obtain⟨w1,w2,w3,w4,w5,w6,w7,w8,w9⟩:=NU o.q s;obtain⟨v1,v2,v3,v4,v5,v6,v7,v8,v9⟩:=NU E.q sj;have f:=t.f w1;have F:=tj.f v1;have v:∀g∈(n.c (1-i)).waits,g.id<n.next (1-i):=by
  intro g hg;rcases wj with⟨e,_⟩|⟨id,dl,x,e,_,_,_,_,e6,_⟩
  ·rw[e]at hg;cases hg
  ·rw[e]at hg;rw[Ab.1 hg];exact e6
 have m:d.flight.length<=1/\(d.flight≠[]->u.answer=true)/\∀p∈d.flight,p.n<d.next:=by
  have b:=f.fl;rw[w9]at b;have k:(n.c i).waits≠[]->u.answer=true:=by
   intro h;rw[F.answer];cases e:(n.c i).waits with
   | nil=>exact absurd e h
   | cons a l=>simp
  have w:(n.c i).waits≠[]->d.next=(n.c i).next+1:=by
   intro h;rw[f.next,w8,AH (λx=>h (Cj.1 x).2)]
  cases hF:(n.c i).flight with
  | nil =>
   rw[hF]at b;by_cases h:(n.c i).waits=[]
   ·rw[AN h]at b;have:=List.eq_nil_of_sublist_nil b;rw[this];exact⟨by simp,λx=>absurd rfl x,λp j=>by cases j⟩
   ·rw[AH h,Am]at b;refine⟨b.length_le,λ_=>k h,λp j=>?_⟩;rw[Ab.1 (b.subset j),w h];exact Nat.lt_succ_self _
  | cons y l =>
   have hl:l=[]:=by
    have:=o.f1;rw[hF]at this;simpa using this
   subst hl;have hy:=o.f3 y (by rw[hF];exact Ae);have ha:=o.f2 (by rw[hF];simp);have hg:(n.c (1-i)).got.rs=[(0,(n.c i).next-1)]:=by
    have:=E.got;rw[C]at this;rw[this];unfold E7;rw[AH (by omega)]
   have z:Dr (n.c (1-i))=[ackF [(0,(n.c i).next-1)]]:=by
    unfold Dr;rw[AN ⟨ha,by rw[hg];simp⟩,hg];rfl
   have D:=f.na _ z;have A:y∉d.flight:=λhm=>by
    have:=D y hm;omega
   rw[hF]at b;by_cases h:(n.c i).waits=[]
   ·rw[AN h]at b;have:d.flight=[]:=by
     rcases List.sublist_cons_iff.1 b with x|⟨r,x,_⟩
     ·exact List.eq_nil_of_sublist_nil x
     ·exact absurd (by rw[x];exact Ae) A
    rw[this];exact⟨by simp,λx=>absurd rfl x,λp j=>by cases j⟩
   ·rw[AH h]at b;have B:d.flight.Sublist [⟨(n.c i).next,(n.c i).now,Dr (n.c i)++(n.c i).waits⟩]:=by
     rcases List.sublist_cons_iff.1 b with x|⟨r,x,_⟩
     ·exact x
     ·exact absurd (by rw[x];exact Ae) A
    refine⟨B.length_le,λ_=>k h,λp j=>?_⟩;rw[Ab.1 (B.subset j),w h];exact Nat.lt_succ_self _
 refine⟨f.q,f.waits.trans w2,?_,m.1,m.2.1,m.2.2,λp j=>?_,?_⟩
 ·rw[f.got,F.next,v8];split
  ·rw[w3];exact o.got
  ·rfl
 ·rcases f.seen p j with x|⟨g,hg,x⟩
  ·rw[w4]at x;exact o.sn.1 p x
  ·rw[x];exact v g hg
 ·rcases f.most with x|⟨g,hg,x⟩
  ·rw[x,w5];exact o.sn.2
  ·rw[x];exact Nat.le_of_lt (v g hg)
def Ua(h:n.Safe)(hI:n.Inv T)(hT:T+1000<=33000000)(J:OJ n):OI (NS.comes ((n.flush 0).2.flush 1).2.bag.length ((n.flush 0).2.flush 1).2)/\((n.flush 0).2.flush 1).2.bag.length<=2:=by
 have hT2:T+1000<=Dg:=AO hT (by decide);have A:=J.sm h hI (by omega) (show 0<2 by omega);have s1:=J.sm h hI (by omega) (show 1<2 by omega);have o0:=J.os 0 (by omega);have o1:=J.os 1 (by omega);have Y:=J.wt 0 (by omega);have W1:=J.wt 1 (by omega);have fits:∀i,i<2->∀f∈(n.c i).waits,f.Fits/\∃id dl x,f=E3 id dl x:=by
  intro i hi f hf;refine⟨(hI.c i hi).waits.1 f hf,?_⟩;rcases J.wt i hi with⟨e,_⟩|⟨id,dl,x,e,_⟩
  ·rw[e]at hf;cases hf
  ·rw[e]at hf;exact⟨id,dl,x,Ab.1 hf⟩
 obtain⟨p0,p1,p2,p3,p4,p5,p6,p7,p8⟩:=NU o0.q A;obtain⟨q0,q1,q2,q3,q4,q5,q6,q7,q8⟩:=NU o1.q s1;obtain⟨ct0,v⟩:=Q3 h hI (by omega) (show 0<2 by omega) o0.q A;have H:=(h.flush hI (by omega) (show 0<2 by omega)).2;have F:=hI.flush (by omega) (show 0<2 by omega);have B:(n.flush 0).2.c 0=(n.c 0).packets.2:=by rw[v];exact NS.setC_c n 0 _
 have k:(n.flush 0).2.c 1=n.c 1:=by rw[v];exact NS.setC_o n (i:=0) (by omega) (n.c 0).packets.2
 obtain⟨ct1,l⟩:=Q3 H F (by omega) (show 1<2 by omega) (by rw[k];exact o1.q) (by rw[k];exact s1);have bS:=(H.flush F (by omega) (show 1<2 by omega)).2;have bI:=F.flush (by omega) (show 1<2 by omega);rw[k]at l;have d:((n.flush 0).2.flush 1).2.c 1=(n.c 1).packets.2:=by rw[l];exact NS.setC_c (n.flush 0).2 1 (n.c 1).packets.2
 have j:((n.flush 0).2.flush 1).2.c 0=(n.c 0).packets.2:=by rw[l,<-B];exact NS.setC_o (n.flush 0).2 (i:=1) (by omega) (n.c 1).packets.2
 have I:((n.flush 0).2.flush 1).2.bag=GQ 0 (n.c 0)++GQ 1 (n.c 1):=by
  rw[l];show(n.flush 0).2.bag++_=_;rw[v];show(n.bag++_)++_=_;rw[J.bag,Am]
 have bg:((n.flush 0).2.flush 1).2.g=n.g:=by rw[l];show(n.flush 0).2.g=_;rw[v];rfl
 have bx:((n.flush 0).2.flush 1).2.next=n.next:=by rw[l];show(n.flush 0).2.next=_;rw[v];rfl
 have bn:((n.flush 0).2.flush 1).2.now=n.now:=by rw[l];show(n.flush 0).2.now=_;rw[v];rfl
 have C:∀i c,(GQ i c).length<=1:=λi c=>by unfold GQ;split<;>simp
 generalize ((n.flush 0).2.flush 1).2=m at *;clear v H F B k l;have K:T+1+1+401<=Dg:=by omega
 have r:∀i,i<2->∀h,Dr (n.c (1-i))=[ackF [(0,h)]]->h<(n.c i).next:=by
  intro i hi h e;have o:=J.os (1-i) (by omega);have Z:=o.got;rw[show 1-(1-i)=i by omega]at Z;unfold Dr at e;split at e
  ·rename_i x;rw[Z]at e x;unfold E7 at e x;by_cases z:(n.c i).next=0
   ·rw[AN z]at x;exact absurd rfl x.2
   ·rw[AH z]at e;simp[ackF]at e;omega
  ·cases e
 have t:∀i,i<2->∀f∈(n.c (1-i)).waits,(∀p∈(n.c i).seen,p.1≠f.id)/\(n.c i).now<=f.dl/\(n.c i).most<=f.id:=by
  intro i hi f hf;have w:=J.wt (1-i) (by omega);unfold OW at w;rw[show 1-(1-i)=i by omega]at w;rcases w with⟨e,_⟩|⟨id,dl,x,e,e1,G,L,_⟩
  ·rw[e]at hf;cases hf
  ·rw[e]at hf;rw[Ab.1 hf];exact⟨e1,by rw[h.now i hi];exact L.1,G⟩
 obtain⟨m1,k0,k1,k2,k3,k4,k5,k6,k7,k8,M⟩:=St bS bI K (show 1<2 by omega) (b:=n.c 0) (rest:=GQ 1 (n.c 1)) I A (fits 0 (by omega)) (by rw[d];exact q0) (by rw[d,q2];exact o1.got) (by
   intro h e;rw[d,q7];exact Aw (r 1 (by omega) h e) (DF _ _)) (by
   intro f hf;rw[d,q3,q4,q5];exact t 1 (by omega) f hf)
 have k4:m1.c 0=m.c 0:=k4;have M:∀s'∈m1.g 0,∃s∈m.g 0,s'.id=s.id/\(s.came=true->s'.came=true)/\((∃f∈(n.c 0).waits,f.id=s.id)->s'.came=true):=M;obtain⟨u,l0,l1,l2,l3,N,l5,l6,l7,O,P⟩:=St k1 k2 (by omega) (show 0<2 by omega) (b:=n.c 1) (rest:=[]) (by rw[Bh];exact k3) s1 (fits 1 (by omega)) (by rw[k4,j];exact p0) (by rw[k4,j,p2];exact o0.got) (by
   intro h e;rw[k4,j,p7];exact Aw (r 0 (by omega) h e) (DF _ _)) (by
   intro f hf;rw[k4,j,p3,p4,p5];exact t 0 (by omega) f hf)
 have N:u.c 1=m1.c 1:=N;have P:∀s'∈u.g 1,∃s∈m1.g 1,s'.id=s.id/\(s.came=true->s'.came=true)/\((∃f∈(n.c 1).waits,f.id=s.id)->s'.came=true):=P;have D:NS.comes m.bag.length m=u:=by
  rw[I,AF,YA,l0,k0]
 have t1:JT (n.c 1).packets.2 (n.c 0) (u.c 1):=by rw[N,<-d];exact k5
 have t0:JT (n.c 0).packets.2 (n.c 1) (u.c 0):=by rw[<-j,<-k4];exact l5
 rw[D];have E0:=SU (show 0<2 by omega) o0 o1 A s1 t0 t1 W1;have E1:=SU (show 1<2 by omega) o1 o0 s1 A t1 t0 Y;have E:u.next=n.next:=by rw[l6,k6,bx]
 have fin:∀i,(∀s'∈u.g i,∃s∈n.g i,s'.id=s.id/\(s.came=true->s'.came=true)/\((∃f∈(n.c i).waits,f.id=s.id)->s'.came=true))->OW n i->∀s∈u.g i,s.came=true:=by
  intro i hg w s' a;obtain⟨s,hs,e1,G,L⟩:=hg s' a;rcases w with⟨_,c⟩|⟨id,dl,x,e,_,_,_,_,_,c⟩
  ·exact G (c s hs)
  ·rcases c s hs with y|y
   ·exact G y
   ·exact L ⟨_,by rw[e];exact Cg _,y.symm⟩
 refine⟨⟨l3,λi hi=>?_,λi hi=>?_,λi hi=>?_⟩,?_⟩
 ·rcases(show i=0\/i=1 by omega)with rfl|rfl
  ·obtain⟨Q,z2,R,S,U,V,W,X⟩:=E0;exact⟨Q,R,S,U,V,by rw[E];exact⟨W,X⟩⟩
  ·obtain⟨Q,z2,R,S,U,V,W,X⟩:=E1;exact⟨Q,R,S,U,V,by rw[E];exact⟨W,X⟩⟩
 ·rcases(show i=0\/i=1 by omega)with rfl|rfl
  ·exact E0.2.1
  ·exact E1.2.1
 ·rcases(show i=0\/i=1 by omega)with rfl|rfl
  ·refine fin 0 (λs' a=>?_) Y;have O:=O;rw[O]at a;have:=M s' a
   rwa [bg]at this
  ·refine fin 1 (λs' a=>?_) W1;have k8:=k8;have:=P s' a
   rwa [k8,bg]at this
 ·rw[I,AF];have:=C 0 (n.c 0);have:=C 1 (n.c 1);omega
def OS.other{n':NS}(o:OS n i)(h1:n'.c i=n.c i)(h2:(n'.c (1-i)).next=(n.c (1-i)).next/\(n'.c (1-i)).answer=(n.c (1-i)).answer)(h3:n.next (1-i)<=n'.next (1-i)):OS n' i :=
 ⟨by rw[h1];exact o.q,by rw[h1,h2.1];exact o.got,by rw[h1];exact o.f1,by rw[h1,h2.2];exact o.f2,by rw[h1];exact o.f3,by rw[h1];exact⟨λp hp=>Aw (o.sn.1 p hp) h3,AO o.sn.2 h3⟩⟩
def OI.datagram(J:OI n)(h:n.Safe)(hI:n.Inv T)(hT:T<=33000000)(hi:i<2)(s:Dm):OJ (n.datagram i s).2:=by
 have l:1-i<2:=by omega
 have o:1-(1-i)=i:=by omega
 have r:=h.up i hi;have w:=h.mtu i hi;have hn:=h.now i hi;have q0:=h.dg i hi;have b1:=hI.next i hi;have b2:=hI.now;have p9:=zQ s.a 9 (by omega);have z:=J.wt i hi;have t:∀dl,dl<=n.now+8->¬(zB<n.next i\/zB<dl\/((n.c i).anyID=true/\n.next i<=(n.c i).lastID)):=by
  intro dl hd;rintro(x|x|⟨x,y⟩)
  ·unfold zB at x;omega
  ·unfold zB at x;omega
  ·have:=q0.id x;omega
 unfold NS.datagram;by_cases f:n.mtu<s.s.length+40
 ·have hc:(n.c i).datagram (n.next i) n.now s.s=(6,n.c i):=by
   unfold CS.datagram;rw[AH (by rw[r];simp),AH (t _ (by omega)),AN (by rw[w];exact f)]
  rw[AN f,hc,NS.setC_self];exact J.j
 ·have hc:(n.c i).datagram (n.next i) (n.now+DZ s.a 9) s.s=(0,{ n.c i with anyID:=true,lastID:=n.next i,waits:=[E3 (n.next i) (n.now+DZ s.a 9) s.s] }):=by
   unfold CS.datagram;rw[AH (by rw[r];simp),AH (t _ (by omega)),AH (by rw[w];exact f),AH (by rw[z];simp),AN (by rw[hn];omega),z];rfl
  rw[AH f,hc,AH (by simp),AH (by simp)];obtain⟨c2,d⟩:∃c2,c2=({ n.c i with anyID:=true,lastID:=n.next i,waits:=[E3 (n.next i) (n.now+DZ s.a 9) s.s] }:CS):=⟨_,rfl⟩;obtain⟨sn,u⟩:∃sn,sn=(⟨n.next i,n.now+DZ s.a 9,s.s,false⟩:SN):=⟨_,rfl⟩;show OJ { n.setC i _ with g:=upd n.g i (n.g i++[_]),next:=upd n.next i (n.next i+1+DZ s.b 3) };rw[<-d,<-u];obtain⟨m,e⟩:∃m,m=({ n.setC i c2 with g:=upd n.g i (n.g i++[sn]),next:=upd n.next i (n.next i+1+DZ s.b 3) }:NS):=⟨_,rfl⟩;rw[<-e];have k:m.c i=c2:=by rw[e];exact NS.setC_c n i c2
  have mo:m.c (1-i)=n.c (1-i):=by rw[e];exact NS.setC_o n hi c2
  have mg:m.g i=n.g i++[sn]:=by rw[e];exact ze _ _ _
  have mh:m.g (1-i)=n.g (1-i):=by rw[e];exact zd _ _ (by omega)
  have A:m.next i=n.next i+1+DZ s.b 3:=by rw[e];exact ze _ _ _
  have my:m.next (1-i)=n.next (1-i):=by rw[e];exact zd _ _ (by omega)
  have v:m.now=n.now/\m.mtu=n.mtu/\m.bag=n.bag:=by rw[e];exact⟨rfl,rfl,rfl⟩
  have oi:=J.os i hi;have B:=J.os (1-i) l;refine⟨v.2.2.trans J.bag,λj l=>?_,λj l=>?_⟩
  ·rcases Gi hi l with rfl|rfl
   ·have q:=oi.q;refine⟨?_,?_,?_,?_,?_,?_⟩
    ·rw[k,d];exact⟨q.ws,q.rs,q.gr,q.fl⟩
    ·rw[k,d,mo];exact oi.got
    ·rw[k,d];exact oi.f1
    ·rw[k,d,mo];exact oi.f2
    ·rw[k,d];exact oi.f3
    ·rw[k,d,my];exact oi.sn
   ·exact B.other mo (by rw[o,k,d];exact⟨rfl,rfl⟩) (by rw[o,A];omega)
  ·rcases Gi hi l with rfl|rfl
   ·have sn:=B.sn;rw[o]at sn;refine .inr ⟨n.next j,n.now+DZ s.a 9,s.s,by rw[k,d],?_,?_,?_,?_,?_,?_⟩
    ·rw[mo];intro p hp;have:=sn.1 p hp;omega
    ·rw[mo];exact sn.2
    ·rw[v.1];omega
    ·rw[v.2.1];omega
    ·rw[A];omega
    ·rw[mg];intro x hx;rcases An.1 hx with y|y
     ·exact .inl (J.cm j hi x y)
     ·rw[Ab.1 y,u];exact .inr rfl
   ·exact .inl ⟨by rw[mo];exact J.wt (1-i) l,by rw[mh];exact J.cm (1-i) l⟩
def Qt.tick(q:Qt c)(hw:c.waits=[]):c.tick={ c with now:=c.now+1,flight:=c.flight.filter λp => !c.ticked.late p }:=by
 have e:c.ticked={ c with now:=c.now+1 }:=by unfold CS.ticked;rw[hw];rfl
 have q1:Qt c.ticked:=by rw[e];exact⟨q.ws,q.rs,q.gr,q.fl⟩
 have:c.tick=c.ticked.lose:=rfl;rw[this,q1.lose];show({ c.ticked with flight:=c.ticked.flight.filter λp => !c.ticked.late p }:CS)=_;generalize hl:(λp => !c.ticked.late p)=f;rw[e]
def OI.tick(J:OI n):OI n.tick:=by
 have a:=λi (hi:i<2)=>(Qp n hi).trans ((J.os i hi).q.tick (J.wt i hi))
 refine⟨J.bag,λi hi=>?_,λi hi=>by rw[a i hi];exact J.wt i hi,J.cm⟩;have o:=J.os i hi;have f:1-i<2:=by omega
 have fs:((n.c i).flight.filter λp => !(n.c i).ticked.late p).Sublist (n.c i).flight:=Cc;have q:=o.q;refine⟨?_,?_,?_,?_,?_,?_⟩
 ·rw[a i hi];exact⟨q.ws,q.rs,q.gr,λp b=>q.fl p (fs.subset b)⟩
 ·rw[a i hi,a (1-i) f];exact o.got
 ·rw[a i hi];exact AO fs.length_le o.f1
 ·rw[a i hi,a (1-i) f];intro d;refine o.f2 (λe=>d ?_);show(n.c i).flight.filter _=[];rw[e];rfl
 ·rw[a i hi];exact λp b=>o.f3 p (fs.subset b)
 ·rw[a i hi];exact o.sn
def OI.step(J:OI n)(h:n.Safe)(hI:n.Inv T)(hT:T<=33000000)(s:Dm)(hs:s.kind=4\/s.kind=5):OJ (n.step s).2:=by
 unfold NS.step;rcases hs with e|e
 ·rw[AH (by omega),AH (by omega),AH (by omega),AN e];exact J.datagram h hI hT (Gx _) s
 ·rw[AH (by omega),AH (by omega),AH (by omega),AH (by omega),AN e];have:n.tick.carry s=(true,n.tick):=by
   unfold NS.carry;rw[AN J.tick.bag]
  rw[this];exact J.tick.j
def OI.new{mtu window total:Nat}(h:total<=4096):OI (NS.new mtu window total):=by
 refine⟨rfl,λi hi=>?_,λi hi=>rfl,λi hi s hs=>by cases hs⟩;refine⟨⟨λk hk=>⟨rfl,rfl,rfl,rfl⟩,λk hk=>⟨rfl,rfl,rfl⟩,⟨rfl,rfl,AO h (by decide)⟩,λp a=>(by cases a)⟩,rfl,AL _,λe=>absurd rfl e,λp a=>(by cases a),λp a=>(by cases a),AG _⟩
end
end Go.Proofs.YtddfdpbaiedcjaaGreatDoor
