/- Streamed. Part 17 of 17. -/
import Derived.Test.YtddfdpbaiedcjabGreatDoorStr16
set_option maxRecDepth 100000
set_option maxHeartbeats 16000000
set_option linter.all false
namespace Go.Proofs.YtddfdpbaiedcjabGreatDoor
section
open Go.RowKit Go.Proofs.Tryz
variable{H:Nat}{x:RS}{y:SI}
def RI.lw{w:Nat}(h:RI w x y)(e:w<=4096)(a:x.high<=H)(g:H<=x.kE):Lw x.kG x.read H :=
 ⟨h.ok,h.fl,h.most,h.low,λj e=>Au (h.top j e) a,qm h.gw⟩
variable{f:DF}
theorem RI.put{w:Nat}(h:RI w x y)(A:w<=4096)(hb:x.lM f=false)(hg:x.high<f.end_->f.end_<=x.kE)(g:max x.high f.end_<=zG):RI w (x.data f) (y.put f):=by
 have B:D5 f=f.end_:=rfl;obtain⟨H,a⟩:=nm<|max x.high f.end_;have b1:(x.ended=true->f.end_<=x.fin)/\(x.ended=true->f.fin=true->f.end_=x.fin)/\(f.fin=true->x.high<=f.end_):=by
  unfold RS.lM at hb;simp only[C4,Bool.and_eq_false_imp,BW,bne_eq_false_iff_eq]at hb;refine⟨λe=>?_,λe g=>(hb.1 e).2 g,λe=>?_⟩
  .have:=(hb.1 e).1;omega
  have:=hb.2 e;omega
 have g:(Fr x.b H).length=H:=by unfold Fr;rw[AF,Ay,h.bl];have:=h.bl;omega
 have C:(GP y.there H).length=H:=by unfold GP;rw[AF,Ay,h.tl];have:=h.tl;omega
 have n:∀p,(GP y.there H).getD p false=true↔Dc x.kG.rs p:=λp=>by
  rw[<-h.there p];unfold GP;rw[AQ,AQ];by_cases q:p<y.there.length
  .rw[Ag q]
  rw[Ac I,BJ (l:=y.there) I,List.getElem?_replicate];split<;>simp
 obtain⟨D,m,E,u⟩:=Rb (off:=f.off) (data:=f.data) (e:=f.end_) (R:=x.read) (H:=H) rfl I I (f.data.length+1) f.off (Fr x.b H) x.kG (AI _) g (h.lw A I<|qm h.hg) (by show f.off+f.data.length<_;omega);obtain⟨n1,n2,n3,z⟩:=Ra (off:=f.off) (data:=f.data) (d:=IQ y.data H) (t:=GP y.there H) (by rw[h.data];exact g) C f.data.length (AI _) (by show f.off+f.data.length<=H;have:f.off+f.data.length=f.end_:=rfl;omega);have hd:(Du f.off f.data (IQ y.data H) (GP y.there H) f.data.length).1=(EB f.off f.data f.end_ (f.data.length+1) f.off (Fr x.b H) x.kG).1:=by
  apply List.ext_getElem?;intro p;by_cases c:(f.off<=p/\p<f.end_)/\¬Dc x.kG.rs p
  .rw[(z p).1 ⟨c.1,by
    cases e:(GP y.there H).getD p false with
    | false=>rfl
    | true=>exact absurd ((n p).1 e) c.2⟩,(u p).1 c]
  rw[(z p).2 (λq=>c ⟨q.1,λz=>by rw[(n p).2 z]at q;cases q.2⟩),(u p).2 c,h.data];rfl
 have q:max y.high (D5 f)=H:=by rw[h.high,B,a]
 refine
  {high:=by show max y.high (D5 f)=max x.high f.end_;rw[h.high];rfl
   end_:=by show(if f.fin then D5 f else y.end_)=(if f.fin then f.end_ else x.fin);rw[h.end_];rfl
   ended:=by show(y.ended||f.fin)=(x.ended||f.fin);rw[h.ended]
   reset:=h.reset
   kD:=h.kD
   read:=h.read
   state:=h.state
   data:=?_
   tl:=?_
   there:=λj=>?_
   ok:=?_
   fl:=?_
   most:=?_
   low:=λj g=>?_
   top:=λj g=>?_
   bl:=?_
   rd:=?_
   hg:=?_
   gw:=h.gw
   ce:=λe=>?_
   ef:=λe=>?_
   st:=h.st }
 .show(Du _ _ (IQ y.data<|max y.high<|D5 f) (GP y.there<|max y.high<|D5 f) _).1=(EB _ _ _ _ _ (Fr x.b<|max x.high f.end_) _).1;rw[q,a];exact hd
 .show(Du _ _ (IQ y.data<|max y.high<|D5 f) (GP y.there<|max y.high<|D5 f) _).2.length=max x.high f.end_;rw[q,a];exact n2
 .show(Du _ _ (IQ y.data<|max y.high<|D5 f) (GP y.there<|max y.high<|D5 f) _).2.getD j false=true↔Dc (EB _ _ _ _ _ (Fr x.b<|max x.high f.end_) _).2.rs j;rw[q,a,n3 j,E j,n j];rfl
 .show(EB _ _ _ _ _ (Fr x.b<|max x.high f.end_) _).2.Ok;rw[a];exact m.ok
 .show(EB _ _ _ _ _ (Fr x.b<|max x.high f.end_) _).2.fl=0;rw[a];exact m.fl
 .show(EB _ _ _ _ _ (Fr x.b<|max x.high f.end_) _).2.most=4097;rw[a];exact m.most
 .show Dc (EB _ _ _ _ _ (Fr x.b<|max x.high f.end_) _).2.rs j;rw[a];exact m.low j g
 .show j<max x.high f.end_;have g:Dc (EB _ _ _ _ _ (Fr x.b<|max x.high f.end_) _).2.rs j:=g;rw[a]at g ⊢;exact m.top j g
 .show(EB _ _ _ _ _ (Fr x.b<|max x.high f.end_) _).1.length=max x.high f.end_;rw[a];exact D
 .show x.read<=max x.high f.end_;have:=h.rd;omega
 .show max x.high f.end_<=x.kE;have:=h.hg;omega
 .show(x.ended||f.fin)=true;rw[h.ce e];rfl
 show max x.high f.end_<=(if f.fin then f.end_ else x.fin);have e:(x.ended||f.fin)=true:=e;cases hf:f.fin with
 | true=>rw[AL rfl];have:=b1.2.2 hf;omega
 | false =>
  rw[hf,Bool.or_false]at e;rw[AH nl];have:=b1.1 e;have:=h.ef e;omega
section
variable {fr:Bool} {T:Nat} {c:CS} {s:SS}
theorem DH.pz(h:DH fr T c s):∀n,n<=8->Hi s.ins n=Fq c.rs n
 | 0,_=>rfl
 | n+1,hn=>by
  show Hi s.ins n+_=Fq c.rs n+_;rw[h.pz n I,(h.ins n I).high]
variable{k:Nat}
def DH.data(h:DH fr T c s)(n:c.kT<=4096)(g:k<8)(a:f.stream=(k:Int))(u:max (c.rs k).high f.end_<=zG):(s.bytes f).1=(c.data f).1/\DH fr T (c.data f).2 (s.bytes f).2:=by
 have r:=h.ins k g;unfold SS.bytes CS.data;rw[a,Am];have a:(s.ins k).lM f=(c.rs k).lM f:=by
  unfold SI.lM RS.lM;rw[r.ended,r.end_,r.high];rfl
 have m:s.over k f=true↔((c.rs k).high<f.end_/\((c.rs k).kE<f.end_\/c.kE<f.end_-(c.rs k).high+Fq c.rs 8)):=by
  unfold SS.over;rw[r.high,h.gr k g,h.gt,h.pz 8 (AI _)];simp only[AV,Br,AW];rfl
 rw[a];by_cases hb:(c.rs k).lM f=true
 .simp only[AL hb];exact⟨trivial,h⟩
 simp only[AH hb];by_cases e:s.over k f=true
 .simp only[AL e,AL (m.1 e)];exact⟨trivial,h⟩
 have a:=λx=>e<|m.2 x
 simp only[AH e,AH a];refine⟨trivial,h.pY g (r.put n (qp hb) (λq=>?_) u) rfl ?_⟩
 .apply Bl;exact λz=>a ⟨q,.inl z⟩
 unfold SI.used;show(if (s.ins k).state=2 then _ else _)<=(if (s.ins k).state=2 then(if f.fin then D5 f else(s.ins k).end_)else(s.ins k).read);split
 .rename_i e;split
  .rename_i g;rw[r.state]at e;have h:=r.ce (r.st e).1;have a:(c.rs k).lM f=false:=qp hb;unfold RS.lM at a;simp only[C4,Bool.and_eq_false_imp,BW,bne_eq_false_iff_eq]at a;rw[r.end_];have:=(a.1 h).2 g;exact CD this.symm
  exact AI _
 exact AI _
theorem RI.pH{w:Nat}(h:RI w x y)(n:Nat):x.read<=x.kR n/\x.kR n<=x.high/\(∀p,p<x.kR n->Dc x.kG.rs p)/\y.run n x.read=x.kR n:=by
 have a:=MR x.kG.rs x.read x.high;have A:=Nv x.kG.rs x.read x.high;have B:=Pu x.kG.rs x.read x.high;have a:=SD x.kG.rs x.read x.high h.rd (λr a=>by
  obtain⟨j,q,_,e⟩:=Ld a;rw[<-e];exact h.top _ (Ox h.ok.wf q).2)
 have C:=λa b=>(OV x.kG.rs x.read x.high b a).2
 have can:∀p,y.can p=true↔(p<x.high/\Dc x.kG.rs p)/\(x.cut=true->p<x.kD):=λp=>by
  unfold SI.can;rw[h.high,h.reset,h.kD];simp only[AV,Br,AW,h.there p,Cl];cases x.cut<;>simp
 obtain⟨E,z⟩:=nm<|x.kR n;have m:=z;unfold RS.kR at m;generalize DP x.kG.rs x.read x.high=g at *;have e:x.read<=E:=by split at m<;>omega
 have a:E<=g.1:=by split at m<;>omega
 have a:∀p,p<E->Dc x.kG.rs p:=λp q=>by
  by_cases q:p<x.read
  .exact h.low p q
  exact Mo.2<|A p I I
 rw[z];refine⟨e,I,a,?_⟩;rw[PF y n (E-x.read) x.read (by split at m<;>omega) (λi e=>(can _).2 ⟨⟨I,a _ I⟩,λu=>by rw[AL u]at m;omega⟩) ?_]
 .omega
 by_cases q:E-x.read=n
 .exact .inl q
 right;rw[(I:x.read+(E-x.read)=E)];cases u:y.can E with
 | false=>rfl
 | true =>
  obtain⟨⟨c1,c2⟩,D⟩:=(can E).1 u;by_cases z:E=g.1
  .exact absurd (Mo.1 c2) (B E h.ok.wf I<|qm<|C (by omega)<|by omega)
  cases hcut:x.cut with
  | true=>rw[AL hcut]at m;have:=D hcut;omega
  | false=>rw[AH (by simp[hcut])]at m;omega
def RI.reads{w:Nat}(h:RI w x y)(n:Nat)(a:x.state=0):y.kR n=x.kR n/\y.kx (x.kR n)=x.kx (x.kR n)/\RI w { x with read:=x.kR n,state:=x.kx (x.kR n) } { y with read:=x.kR n,state:=x.kx (x.kR n) }/\y.used<=({ y with read:=x.kR n,state:=x.kx (x.kR n) }:SI).used:=by
 obtain⟨g,m,q,u⟩:=h.pH n;refine⟨?_,?_,{ h with read:=rfl,state:=rfl,low:=q,rd:=m,gw:=by have:=h.gw;show x.kE<=x.kR n+w;omega,st:=λe=>?_ },?_⟩
 .unfold SI.kR;rw[h.state,AL a,h.read,u]
 .unfold SI.kx RS.kx;rw[h.state,AH<|by simp[a],h.reset,h.kD,h.ended,h.end_]
 .have e:x.kx (x.kR n)=2:=e;unfold RS.kx at e;split at e
  .rename_i c;simp only[AV,AW]at c;exact c
  split at e<;>cases e
 unfold SI.used;rw[h.state,a,AH lc];show y.read<=(if x.kx (x.kR n)=2 then y.end_ else x.kR n);rw[h.read,h.end_];split
 .rename_i e;unfold RS.kx at e;split at e
  .rename_i c;simp only[AV,AW]at c;have:=h.ef<|h.ce c.1;have:=h.rd;omega
  split at e<;>cases e
 exact g
def DH.read(h:DH fr T c s)(k a:Int):(s.read k a).1=(c.read k a).1/\DH fr T (c.read k a).2 (s.read k a).2/\(s.read k a).2.kH=s.kH/\(c.read k a).2.next=c.next:=by
 unfold SS.read CS.read;rw[h.of];by_cases g:c.stream k=0
 .have u:=OS g;have r:=h.ins _ u;simp only[g,ne_eq,Av,BE];by_cases e:(c.rs k.toNat).state=0
  .simp only[e,Av,BE];obtain⟨m,n,q,y⟩:=r.reads a.toNat e;rw[m,n];exact⟨by rw[r.read,r.data],h.pY u q rfl y,trivial,trivial⟩
  simp only[e,Ae,Aq];have m:(s.ins k.toNat).kR a.toNat=(s.ins k.toNat).read:=by unfold SI.kR;rw[r.state,AH e]
  have n:(s.ins k.toNat).kx (s.ins k.toNat).read=(s.ins k.toNat).state:=by unfold SI.kx;rw[AL (by rw[r.state];exact e)]
  rw[m,n,Cs,B0];have q:({ s with ins:=zh s.ins k.toNat { s.ins k.toNat with read:=(s.ins k.toNat).read,state:=(s.ins k.toNat).state } }:SS)=s:=by
   show({ s with ins:=zh s.ins k.toNat (s.ins k.toNat) }:SS)=s;rw[Fx]
  rw[q,r.state];exact⟨rfl,h,trivial,trivial⟩
 simp only[g,ne_eq,Ae,Aq];exact⟨trivial,h,trivial,trivial⟩
end
section
variable {fr:Bool} {T:Nat} {c:CS} {s:SS}
def DH.mono{T':Nat}(h:DH fr T c s)(a:T<=T'):DH fr T' c s:={ h with
 ev:=⟨h.ev.ok,h.ev.fl,h.ev.most,AR h.ev.len a,h.ev.sub⟩
 sl:=AR h.sl a
 dl:=AR h.dl a }
def Ya(s:SS)(f:DF):(s.take f).2.kH=s.kH/\(s.take f).2.due=s.due/\(s.take f).2.kN=s.kN/\(s.take f).2.lx=s.lx:=by
 unfold SS.take SS.lL SS.bytes SS.message;repeat' split
 all_goals exact⟨rfl,rfl,rfl,rfl⟩
def DH.take(h:DH fr T c s)(i:c.Inv T)(u:T<=DW)(a:s.kH=c.next)(n:E8 f):(s.take f).1=(c.take f).1/\DH fr (T+1) (c.take f).2 (s.take f).2/\(c.take f).2.next=c.next:=by
 obtain⟨k,g,m⟩:=n.st;unfold SS.take CS.take;by_cases q:f.kind=2
 .simp only[AL q];rw[a];by_cases e:c.next<=DB f.kC 0
  .have a:c.lC f.kC=(11,c):=by unfold CS.lC;rw[AL e]
   rw[AL e,a];exact⟨rfl,h.mono<|Ar _,rfl⟩
  obtain⟨a,b,d⟩:=h.lC e;rw[AH e,a];exact⟨rfl,b.mono<|Ar _,d⟩
 simp only[AH q];by_cases e:f.kind=3
 .simp only[AL e];obtain⟨a,b⟩:=h.kZ g m;refine⟨a,b.mono<|Ar _,?_⟩;unfold CS.kZ;split<;>rfl
 simp only[AH e];by_cases e:f.kind=4
 .simp only[AL e];have r:=h.ins k g;obtain⟨a,b⟩:=h.data i.ln g m (Nat.max_le.2 ⟨AR r.hg (by have:=(i.rs k g).gr;unfold DW at u;unfold zG;omega),n.pt e⟩);refine⟨a,b.mono<|Ar _,?_⟩;unfold CS.data;repeat' split
  all_goals rfl
 simp only[AH e];by_cases e:f.kind=5
 .simp only[AL e];exact⟨trivial,(h.kF f.lF).mono<|Ar _,trivial⟩
 simp only[AH e];by_cases e:f.kind=6
 .simp only[AL e];rw[m,Am];exact⟨trivial,(h.given g f.lF).mono<|Ar _,trivial⟩
 simp only[AH e];by_cases e:f.kind=7
 .simp only[AL e];obtain⟨a,b,_⟩:=h.message f;exact⟨trivial,a,b⟩
 simp only[AH e];by_cases a:f.kind=8
 .simp only[AL a];exact⟨trivial,h.mono<|Ar _,trivial⟩
 simp only[AH a];exact⟨trivial,h.mono<|Ar _,trivial⟩
def LS(c:CS)(num:Nat):Prop:=num<c.kN.fl\/Dc c.kN.rs num
def Si(c:CS)(f:DF):(c.take f).2.kN=c.kN:=by
 have a:∀c:CS,c.mF.kN=c.kN:=λc=>by rw[Lm];exact(KJ c.kB c).hd.2.2.2.2.2.2.2.1
 unfold CS.take;repeat' split
 .unfold CS.lC;split
  .rfl
  rename_i e;show(CS.mF _).kN=_;rw[a];exact(Ly f.kC c.kB { c with kO:=max c.kO (DB f.kC 0) }).hd.2.2.2.2.2.2.2.1
 .unfold CS.kZ;split<;>rfl
 .unfold CS.data;(repeat' split)<;>rfl
 .rfl
 .rfl
 .unfold CS.message;split<;>rfl
 .rfl
 rfl
def DH.due(h:DH fr T c s){num:Nat}(a:LS c num)(f:DF)(g:s.due.length+1<=T):DH fr T { c with answer:=c.answer||f.kind != 2 } (s.mR num f)/\(s.mR num f).kH=s.kH:=by
 unfold SS.mR;split
 .rename_i e;refine⟨{ h with
   dl:=by show(s.due++[num]).length<=T;rw[AF];exact g
   da:=.inr <| .inr (by show(c.answer||f.kind != 2)=true;rw[Br];exact .inr<|qp e.1)
   dg:=λn e=>by
    rcases Ap.1 e with x|x
    .exact h.dg n x
    rw[As.1 x];exact a },rfl⟩
 refine⟨{ h with da:=h.da.imp id <| .imp id (λx=>by show(c.answer||f.kind != 2)=true;rw[x];rfl) },rfl⟩
def RI.qi{w:Nat}(h:RI w x y):y.there.length=y.data.length:=by rw[h.tl,h.data,h.bl]
def DH.nb(h:DH fr T c s)(i:c.Inv T)(e:T<=DW)(a:E8 f):s.mb f:=by
 obtain⟨g,m,n,q,u⟩:=a.ns;unfold zG at *;refine⟨a.st,g,a.dl,λj m=>?_,?_,?_,?_,a.pO⟩
 .have r:=h.ins j m;have g:=(i.rs j m).gr;have:=r.hg;have:=r.high;have:=h.gr j m;unfold DW at e;refine⟨I,r.qi,by rw[r.data,r.bl,r.high];exact AI _,I⟩
 .have:=h.sl;unfold DW at e;omega
 .rw[h.cm];have:=i.cl;unfold DW at e;omega
 rw[h.se.mo];have:=i.most;unfold zG at this;omega
theorem DH.kV{num:Nat}:∀(g:List DF) {T:Nat} {c:CS} {s:SS},DH fr T c s->c.Inv T->T+g.length<=DW->s.kH=c.next->LS c num->(∀f∈g,E8 f) ->
  (SS.kV num g s).1=(CS.kV g c).1/\DH fr (T+g.length) (CS.kV g c).2 (SS.kV num g s).2/\(SS.kV num g s).2.kH=(CS.kV g c).2.next/\SS.lX num g s
 | [],_,_,_,h,_,_,hn,_,_=>⟨rfl,h,hn,trivial⟩
 | f::g,T,c,s,h,i,hT,hn,hc,hf=>by
  have a:=hf f BB;have m:T+1+g.length<=DW:=by rw[Aa]at hT;omega
  obtain⟨q,u,n1⟩:=h.take i I hn a;obtain⟨y,z,_,_⟩:=Ya s f;have A:=i.take a;have ok:=h.nb i I a;have hd:(s.take f).2.due.length<=1099511627776:=by rw[z];have:=h.dl;unfold DW at m;omega
  rw[show T+(f::g).length=T+1+g.length by rw[Aa];omega];by_cases e:(c.take f).1=0
  .have n:=q.trans e;rw[UC n,T5 e];obtain⟨B,C⟩:=u.due (num:=num) (by unfold LS;rw[Si];exact hc) f (by rw[z];have:=h.dl;omega);obtain⟨a,b,d,o⟩:=DH.kV g B (A.nX _ _ _) m (by rw[C,y,hn];exact n1.symm) (by show LS (c.take f).2 num;unfold LS;rw[Si];exact hc)<|λg h=>hf g<|BA _ h;exact⟨a,b,d,ok,hd,λ_=>o⟩
  have n:(s.take f).1≠0:=λx=>e<|q.symm.trans x
  rw[UB n,T4 e,q];refine⟨rfl,?_,y.trans<|hn.trans n1.symm,ok,hd,λx=>absurd x n⟩;exact(({ u with cl:=⟨rfl,rfl⟩ }:DH fr (T+1) { (c.take f).2 with closed:=(c.take f).1,said:=(c.take f).1==13 } { (s.take f).2 with closed:=(c.take f).1,said:=(c.take f).1==13 })).mono (CA _ _)
variable{n:Nat}
def RZ{s:DO}(ok:s.Ok)(gf:∀m,Dc s.rs m->s.fl<=m)(h:n<=zG):(∀m,Dc (s.add n n).rs m->Dc s.rs m\/m=n)/\(∀m,(m<s.fl\/Dc s.rs m)\/m=n->m<(s.add n n).fl\/Dc (s.add n n).rs m)/\(∀m,Dc (s.add n n).rs m->(s.add n n).fl<=m) /\
   (s.fl=0->s.rs.length+1<=s.most->(s.add n n).fl=0/\(s.add n n).rs.length<=s.rs.length+1/\∀m,Dc s.rs m\/m=n->Dc (s.add n n).rs m):=by
 by_cases g:n<s.fl
 .have e:s.add n n=s:=by unfold DO.add;rw[AL I]
  rw[e];refine⟨λm=>.inl,λm B=>B.elim id<|λx=>.inl I,gf,λz=>I⟩
 have B:max n s.fl=n:=I;have u:=IL (Dk s.rs n) s.rs.length;have g:=IL (Dl s.rs n) s.rs.length;have D:=Mm ok.wf (AI n) (by unfold zG at h;omega) u g;have a:=SZ ok.wf (AI n) u g;have h:=MH s.rs n n _ _ (Ho ok.wf (AI n) u g) g.1;have q:=QQ s.rs n n (EY (Dk s.rs n) s.rs.length)<|EY (Dl s.rs n) s.rs.length;have G:=g.1;have C:(Dd s.rs n n (EY (Dk s.rs n) s.rs.length)<|EY (Dl s.rs n) s.rs.length).length<=s.rs.length+1:=by
  rw[h];have:=Ho ok.wf (AI n) u g;omega
 unfold DO.add;rw[B,AH I];generalize Dd s.rs n n (EY (Dk s.rs n) s.rs.length) (EY (Dl s.rs n) s.rs.length)=A at *;have E:∀m,Dc A m->s.fl<=m:=λm x=>by
  rcases(a m).1 x with y|y
  .exact gf m y
  omega
 split
 .rename_i g;have hd:∀m,Dc (A.drop 1) m->Dc A m/\DB A 0+1<m:=λm ⟨i,hi,x,y⟩=>by
   rw[(Fz A 1 i).1]at x;rw[(Fz A 1 i).2]at y;rw[Af]at hi;have:=D.2 0 (1+i) I I;exact⟨⟨1+i,I,x,y⟩,I⟩
  refine⟨λm x=>?_,λm x=>?_,λm x=>by have:=(hd m x).2;show DB A 0+1<=m;omega,λ_ g=>I⟩
  .rcases(a m).1 (hd m x).1 with y|y
   .exact .inl y
   exact .inr I
  have g:=E _ (Ox D q).2;rcases x with(x|x)|x
  .exact .inl (by show m<DB A 0+1;omega)
  all_goals
   have g:=(a m).2 (by first|exact .inl x|exact .inr I);obtain⟨i,hi,y,z⟩:=g;by_cases e:i=0
   .subst e;exact .inl<|by show m<DB A 0+1;omega
   exact .inr ⟨i-1,by show i-1<(A.drop 1).length;rw[Af];omega,by show DE (A.drop 1) (i-1)<=m;rw[(Fz A 1<|i-1).1,(I:1+(i-1)=i)];exact y,by show m<=DB (A.drop 1) (i-1);rw[(Fz A 1<|i-1).2,(I:1+(i-1)=i)];exact z⟩
 refine⟨λm x=>?_,λm x=>?_,E,λz _=>⟨z,C,λm x=>(a m).2<|x.imp id<|λy=>I⟩⟩
 .rcases(a m).1 x with y|y
  .exact .inl y
  exact .inr I
 rcases x with(x|x)|x
 .exact .inl x
 .exact .inr ((a m).2<|.inl x)
 exact .inr<|(a m).2<|.inr I
def DH.ly(h:DH fr T c s)(g:T<=DW)(a:n<=zG):DH fr (T+1) { c with kN:=c.kN.add n n } (s.ly n)/\LS { c with kN:=c.kN.add n n } n:=by
 obtain⟨q,e,u,_⟩:=RZ h.gf.1 h.gf.2 a;obtain⟨_,_,_,y⟩:=RZ h.ev.ok (λm _=>by rw[h.ev.fl];exact AK _) a;obtain⟨z,B,A⟩:=y h.ev.fl (by rw[h.ev.most];have:=h.ev.len;unfold DW at g;omega);refine⟨{ h.mono (Ar T)with
  kN:=by show s.kN.add n n=_;rw[h.kN]
  gf:=⟨h.gf.1.add n a,u⟩
  ev:=⟨h.ev.ok.add n a,z,by show(s.lx.add n n).most=_;rw[Hl];exact h.ev.most,by have:=h.ev.len;show(s.lx.add n n).rs.length<=_;omega,λm a=>A m<|(q m a).imp (h.ev.sub m) id⟩
  dg:=λm a=>e m (.inl<|h.dg m a) },e n<|.inr rfl⟩
variable{bs:qq}
theorem DH.kL(h:DH fr T c s)(i:c.Inv T)(g:s.kH=c.next)(u:T+bs.length+1<=DW):(s.kL bs).1=(c.kL bs).1/\DH fr (T+bs.length+1) (c.kL bs).2 (s.kL bs).2/\(s.kL bs).2.kH=(c.kL bs).2.next/\s.mJ bs:=by
 have q:bs.length<1099511627776:=by unfold DW at u;omega
 have m:∀n e,dec bs=.ok n e->(n<=4611686018427387903/\e.length<=bs.length)/\((SS.kV n e<|s.ly n).1=(CS.kV e { c with kN:=c.kN.add n n }).1/\DH fr (T+1+e.length) (CS.kV e { c with kN:=c.kN.add n n }).2 (SS.kV n e<|s.ly n).2/\(SS.kV n e<|s.ly n).2.kH=(CS.kV e { c with kN:=c.kN.add n n }).2.next/\SS.lX n e (s.ly n)):=λn e hd=>by
  obtain⟨a,b,d⟩:=Mc q hd;obtain⟨r,q⟩:=h.ly I a;exact⟨⟨a,b⟩,DH.kV e r ((i.nr a).mono<|Ar T) I g q d⟩
 have ok:s.mJ bs:=⟨by rw[h.kN];exact⟨h.gf.1,qn h.gf.1.rl i.kN.2⟩,⟨h.ev.ok,by have:=h.ev.len;unfold DW at u;omega⟩,λn e hd _=>by
  obtain⟨⟨a,b⟩,_,_,_,o⟩:=m n e hd;exact⟨a,I,o⟩⟩
 unfold SS.kL CS.kL;rw[h.cl.1];by_cases y:c.closed=0
 .simp only[AH (show ¬c.closed≠0 from λx=>x y)];cases hd:dec bs with
  | sum=>exact⟨rfl,h.mono I,g,ok⟩
  | bad p=>exact⟨rfl,(({ h with cl:=⟨rfl,h.cl.2⟩ }:DH fr T { c with closed:=8 } { s with closed:=8 })).mono I,g,ok⟩
  | ok n e =>
   simp only[h.kN];by_cases hb:G9 c.kN.rs c.kN.fl n=true
   .simp only[AL hb];exact⟨trivial,h.mono I,g,ok⟩
   simp only[AH hb];obtain⟨⟨_,b⟩,a,q,u,_⟩:=m n e hd;exact⟨by rw[a],q.mono I,u,ok⟩
 simp only[AL (show c.closed≠0 from y)];exact⟨trivial,h.mono I,g,ok⟩
end
theorem Tw(a:Nat->WS)(k:Nat)(x:WS):∀n,k<n->zR (zh a k x) n+(a k).high=zR a n+x.high
 | 0,h=>absurd h<|Al _
 | n+1,h=>by
  show zR (zh a k x) n+(zh a k x n).high+(a k).high=zR a n+(a n).high+x.high;by_cases e:n=k
  .subst e;have:∀m,m<=n->zR (zh a n x) m=zR a m:=λm=>by
    induction m with
    | zero=>intro _;rfl
    | succ m ih =>
     intro g;show zR (zh a n x) m+(zh a n x m).high=zR a m+(a m).high;rw[ih I,zl _ _ I]
   rw[this n (AI n),zf];omega
  rw[zl _ _ e];have:=Tw a k x n I;omega
def No:Nat->List DF->Nat
 | c,[]=>c
 | _,f::fs=>No (DR f) fs
theorem TJ:∀(e:List DF) (c:Nat) (s:SS) (f:DF),SS.nQ e c s->No c e<=DR f->(SS.mO e s).oq f->SS.nQ (e++[f]) c s/\SS.mO (e++[f]) s=(SS.mO e s).may f/\No c (e++[f])=DR f
 | [],_,_,_,_,h2,h3=>⟨⟨h2,h3,trivial⟩,rfl,rfl⟩
 | g::e,c,s,f,h1,h2,h3=>by
  obtain⟨a,b,d⟩:=TJ e (DR g) (s.may g) f h1.2.2 h2 h3;exact⟨⟨h1.1,h1.2.1,a⟩,b,d⟩
structure Em(num:Nat)(s0:SS)(q:Nat)(d:DJ)(s:SS):Prop where
 b:d.b=Fe num d.fs
 fr:PC d.fs
 cn:∀f∈d.fs,EJ f=f
 ok:SS.nQ d.fs 0 s0
 ms:SS.mO d.fs s0=s
 cl:No 0 d.fs<=q
variable{d:DJ}{q:Nat}{s:SS}
def Em.pV{num:Nat}{s0:SS}{a:Nat}(h:Em num s0 q d s)(e:q<=a):Em num s0 a d s:={ h with cl:=AR h.cl e }
variable{d':DJ}
def Em.add{num:Nat}{s0:SS}(h:Em num s0 q d s)(a:d.add f=some d')(n:zH f=true/\f.data.length<4611686018427387904/\f.kC.length<4611686018427387904)(u:EJ f=f)(m:q=DR f)(y:s.oq f):Em num s0 q d' (s.may f):=by
 obtain⟨q,e,_⟩:=DJ.lz a;obtain⟨z,A,B⟩:=TJ d.fs 0 s0 f h.ok (by rw[<-m];exact h.cl) (by rw[h.ms];exact y);have mem:∀g∈d'.fs,g∈d.fs\/g=f:=λg a=>by
  rw[e]at a;exact(Ap.1 a).imp id (λx=>As.1 x)
 exact
  {b:=by rw[q,e,h.b];simp[Fe]
   fr:=λg a=>(mem g a).elim (h.fr g)<|λx=>by rw[x];exact n
   cn:=λg a=>(mem g a).elim (h.cn g)<|λx=>by rw[x];exact u
   ok:=by rw[e];exact z
   ms:=by rw[e,A,h.ms]
   cl:=by rw[e,B,m];exact AI _ }
def Lx(a:2<=f.kind/\f.kind<=7)(e:f.kind=2->∀r∈f.kC,Mb s.lx.rs r=true)(h:f.kind=3->(s.outs f.stream.toNat).cut=true/\f.off=(s.outs f.stream.toNat).end_/\f.rel=(s.outs f.stream.toNat).kD)
  (m:f.kind=4->s.nG f.stream.toNat f) (n:f.kind=5->s.kE<=f.lF/\f.lF<=s.lD 8+s.total) (q:f.kind=6->s.kS f.stream.toNat<=f.lF/\f.lF<=(s.ins f.stream.toNat).used+s.kT)
  (u:f.kind=7->∃g l,s.waits=g::l/\g.id=f.id/\g.dl=f.dl/\g.data=f.data/\s.now<=f.dl):s.oq f:=⟨e,h,m,n,q,u,a⟩
structure Kp(c c':CS)(s s':SS):Prop where
 kH:s'.kH=s.kH
 due:s'.due=s.due
 kN:c'.kN=c.kN
 cl:c'.closed=c.closed
 kj:c'.kj=c.kj
def Kp.refl(c:CS)(s:SS):Kp c c s s:=⟨rfl,rfl,rfl,rfl,rfl⟩
variable{c:CS}
def Kp.trans{a b:CS}{t r:SS}(h:Kp a b s t)(k:Kp b c t r):Kp a c s r:=⟨k.kH.trans h.kH,k.due.trans h.due,k.kN.trans h.kN,k.cl.trans h.cl,k.kj.trans h.kj⟩
section
variable {fr:Bool} {T:Nat} {c:CS} {s s0:SS} {d:DJ} {num:Nat}
def RI.nM{w:Nat}(h:RI w x y):y.used=x.used:=by
 unfold SI.used RS.used;rw[h.state,h.end_,h.read]
def RI.qY{w:Nat}(h:RI w x y)(g:x.lu=true):x.used=x.read:=by
 unfold RS.used;by_cases e:x.state=2
 .exfalso;obtain⟨a,b⟩:=h.st e;have:=h.rd;have:=h.hg;unfold RS.lu at g;rw[AL a,e]at g;simp at g;omega
 rw[AH e]
variable{k n:Nat}
def DH.more(h:DH fr T c s)(e:Em num s0 0 d s)(g:k<8)(m:(c.rs k).lu=true)(z:max (c.rs k).kE ((c.rs k).used+c.kT)=n)(u:d.add (Ef k n)=some d')(y:(Ef k n).Fits):∃s',DH fr T { c with rs:=zh c.rs k { c.rs k with kE:=n,ky:=false } } s'/\Em num s0 0 d' s'/\Kp c { c with rs:=zh c.rs k { c.rs k with kE:=n,ky:=false } } s s':=by
 have r:=h.ins k g;have z:=r.qY m;have m:=r.gw;have m:s.oq (Ef k n):=Lx (by simp[Ef]) (λx=>by simp[Ef]at x) (λx=>by simp[Ef]at x) (λx=>by simp[Ef]at x) (λx=>by simp[Ef]at x) (λ_=>by
  show s.kS k<=n/\n<=(s.ins k).used+s.kT;rw[h.gr k g,r.nM,h.cfg.2.1];omega) (λx=>by simp[Ef]at x)
 have g:s.may (Ef k n)={ s with kS:=zh s.kS k n }:=by simp[SS.may,Ef]
 refine⟨s.may<|Ef k n,?_,e.add u ⟨y.sound,by simp[Ef],by simp[Ef]⟩ rfl rfl m,by rw[g];exact⟨rfl,rfl,rfl,rfl,rfl⟩⟩;rw[g];exact{ h with
  ins:=λj a=>by
   show RI c.kT (zh c.rs k _ j) (s.ins j);by_cases q:j=k
   .subst q;rw[zf];exact{ r with hg:=by have:=r.hg;show(c.rs j).high<=n;omega,gw:=by show n<=(c.rs j).read+c.kT;omega }
   rw[zl _ _ q];exact h.ins j a
  gr:=λj a=>by
   show zh s.kS k n j=(zh c.rs k _ j).kE;by_cases q:j=k
   .subst q;rw[zf,zf]
   rw[zl _ _ q,zl _ _ q];exact h.gr j a }
theorem Qb(c:CS)(d:DJ):∀n k t,n+k=8->∀x,(FB c d n k t).1=some x->∃j m,j<8/\(c.rs j).lu=true/\max (c.rs j).kE ((c.rs j).used+c.kT)=m/\x.1={ c with rs:=zh c.rs j { c.rs j with kE:=m,ky:=false } }/\d.add (Ef j m)=some x.2
 | 0,_,_,_,x,hx=>by cases hx
 | n+1,k,t,hk,x,hx=>by
  unfold FB at hx;split at hx
  .rename_i a;simp only[AV]at a;split at hx
   .rename_i e hd;cases hx;exact⟨k,_,I,a.2,rfl,rfl,hd⟩
   exact Qb c d n (k+1) _ I x hx
  exact Qb c d n (k+1) _ I x hx
theorem DH.fold(h:DH fr T c s)(d:DJ):∀n k t,n+k=8->t<=s.lD k+c.total->(FB c d n k t).1=none->(FB c d n k t).2<=s.lD 8+c.total
 | 0,k,t,hk,ht,_=>by
  have:k=8:=I;subst this;exact ht
 | n+1,k,t,hk,ht,hx=>by
  have g:=(h.ins k I).nM;have e:s.lD (k+1)=min (s.lD k+(s.ins k).used) 4611686018427387903:=rfl;have step:min (t+(c.rs k).used) zG<=s.lD (k+1)+c.total:=by rw[e,g];unfold zG;omega
  unfold FB at hx ⊢;split
  .rename_i a;rw[AL a]at hx;split
   .rename_i e hd;simp only[hd]at hx;cases hx
   rename_i hd;simp only[hd]at hx;exact h.fold d n (k+1) _ I step hx
  rename_i a;rw[AH a]at hx;exact h.fold d n (k+1) _ I step hx
theorem QK(c:CS)(d:DJ):∀n k x,n+k=8->Ew c d n k=some x->∃j,j<8/\(c j).cut=true/\x.1={ c with ws:=zh c.ws j { c.ws j with kQ:=true } }/\d.add (FJ j (c j).final (c j).kD)=some x.2
 | 0,_,_,_,hx=>by cases hx
 | n+1,k,x,hk,hx=>by
  unfold Ew at hx;split at hx
  .rename_i a;simp only[AV]at a;split at hx
   .rename_i e hd;cases hx;exact⟨k,I,a.1,rfl,hd⟩
   exact QK c d n (k+1) x I hx
  exact QK c d n (k+1) x I hx
def DH.control(h:DH fr T c s)(o:c.Ok)(e:Em num s0 0 d s){x:CS×DJ}(a:c.control d=some x):∃s',DH fr T x.1 s'/\Em num s0 0 x.2 s'/\Kp c x.1 s s':=by
 have B:∀x,Ew c d 8 0=some x->∃s',DH fr T x.1 s'/\Em num s0 0 x.2 s'/\Kp c x.1 s s':=λx a=>by
  obtain⟨j,g,m,z,n⟩:=QK c d 8 0 x rfl a;have w:=o.ws j g;have fits:=Pn g w.cut.2.1 w.cut.1;have q:s.oq (FJ j (c j).final (c j).kD):=Lx (by simp[FJ]) (λx=>by simp[FJ]at x) (λ_=>by
   show(s.outs j).cut=true/\(c j).final=(s.outs j).end_/\(c j).kD=(s.outs j).kD;rw[h.outs j g];exact⟨m,rfl,rfl⟩) (λx=>by simp[FJ]at x) (λx=>by simp[FJ]at x) (λx=>by simp[FJ]at x) (λx=>by simp[FJ]at x)
  have u:s.may (FJ j (c j).final (c j).kD)=s:=by simp[SS.may,FJ]
  have m:=e.add n ⟨fits.sound,by simp[FJ],by simp[FJ]⟩ rfl rfl q;rw[u]at m;rw[z];have y:=h.oz j { c.ws j with kQ:=true } g rfl rfl (h.wk j g);have C:({ s with outs:=zh s.outs j (FU { c.ws j with kQ:=true }) }:SS)=s:=by
   rw[show FU { c.ws j with kQ:=true }=s.outs j from(h.outs j g).symm,Fx]
  rw[C]at y;exact⟨s,y,m,⟨rfl,rfl,rfl,rfl,rfl⟩⟩
 unfold CS.control at a;split at a
 .rename_i y A;cases a;obtain⟨j,m,g,y,q,z,n⟩:=Qb c d 8 0 c.total rfl _ A;rw[z];have m:=(o.rs j g).1.2;have m:=(o.rs j g).2 y;have m:=o.ln;exact h.more e g y q n<|N3 g<|by unfold zG at *;omega
 rename_i A;have g:=h.fold d 8 0 c.total rfl (Nat.le_add_left _ _) A;have g:=(Rg (d:=d) o 8 0 c.total rfl (by have:=o.lr;unfold zG;omega)).1;unfold LV at a;split at a
 .split at a
  .rename_i g n;cases a;generalize (FB c d 8 0 c.total).2=t at *;have g:=o.kE;have fits:=Po (I:max t c.kE<=zG);have g:=h.tg;have q:s.oq (FD<|max t c.kE):=Lx (by simp[FD]) (λx=>by simp[FD]at x) (λx=>by simp[FD]at x) (λx=>by simp[FD]at x) (λ_=>by
    show s.kE<=max t c.kE/\max t c.kE<=s.lD 8+s.total;rw[h.gt,h.cfg.2.2];omega) (λx=>by simp[FD]at x) (λx=>by simp[FD]at x)
   have u:s.may (FD<|max t c.kE)={ s with kE:=max t c.kE }:=by simp[SS.may,FD]
   refine⟨_,?_,e.add n ⟨fits.sound,by simp[FD],by simp[FD]⟩ rfl rfl q,by rw[u];exact⟨rfl,rfl,rfl,rfl,rfl⟩⟩;rw[u];exact{ h with gt:=rfl,tg:=by show max t c.kE<=s.lD 8+c.total;omega }
  exact B x a
 exact B x a
theorem DH.pr(h:DH fr T c s)(o:c.Ok)(e:Em num s0 1 d s){x:CS×DJ}(g:c.kU d=some x):∃s',DH fr T x.1 s'/\Em num s0 1 x.2 s'/\Kp c x.1 s s':=by
 unfold CS.kU at g;cases hw:c.waits with
 | nil=>rw[hw]at g;cases g
 | cons f l =>
  rw[hw]at g;simp only[CC]at g;obtain⟨z,n,rfl⟩:=g;have m:=o.waits f (by rw[hw];exact BB);obtain⟨q,a,u⟩:=h.wf f (by rw[hw];exact BB);have y:=Lx (by rw[a];decide) (λx=>by rw[a]at x;cases x) (λx=>by rw[a]at x;cases x) (λx=>by rw[a]at x;cases x) (λx=>by rw[a]at x;cases x) (λx=>by rw[a]at x;cases x) (λ_=>⟨f,l,h.wt.trans hw,rfl,rfl,rfl,by rw[h.now];exact u⟩);have g:s.may f={ s with waits:=l }:=by
   unfold SS.may;rw[a,AH lc,AH lc,AH lc,AH lc,AL rfl,h.wt,hw];rfl
  refine⟨_,?_,e.add n ⟨m.sound,qm m.data,by rw[m.rn];simp⟩ q (by unfold DR;rw[AL a]) y,by rw[g];exact⟨rfl,rfl,rfl,rfl,rfl⟩⟩;rw[g];exact{ h with wt:=rfl,wf:=λg a=>h.wf g (by rw[hw];exact BA _ a) }
theorem Sh(l:List Nat):∀n,(l.take n).sum=((List.range n).map λk=>l.getD k 0).sum
 | 0=>rfl
 | n+1=>by
  rw[BK,A9,List.sum_append,<-Sh l n];simp only[BO,B8,List.sum_cons,List.sum_nil,Bb,AQ];cases hx:l[n]? with
  | some x=>rw[Ux l n x hx,Option.getD_some]
  | none =>
   have:=List.getElem?_eq_none_iff.1 hx;rw[AS I,AS this,Option.getD_none,Bb]
theorem Wr{l:List Nat}{a:Nat->WS}(g:l.length<=8)(h:∀k,k<8->l.getD k 0=(a k).high):l.sum=zR a 8:=by
 have e:=Sh l 8;rw[AS g]at e;rw[e];have:∀n,n<=8->((List.range n).map λk=>l.getD k 0).sum=zR a n:=by
  intro n
  induction n with
  | zero=>intro _;rfl
  | succ n ih =>
   intro e;rw[BK,A9,List.sum_append,ih I];show _+(l.getD n 0+0)=zR a n+_;rw[h n I,Bb]
 exact this 8<|AI _
variable{e:Nat}
def Wq(s:SS)(a:k<8)(g:s.high.length<=8):(s.mC k e).high.length<=8/\∀j,(s.mC k e).high.getD j 0=if j=k then max e (s.high.getD k 0)else s.high.getD j 0:=by
 unfold SS.mC;refine⟨?_,λj=>?_⟩
 .show((s.high++List.replicate (k+1-s.high.length) 0).set k _).length<=8;rw[BL,AF,Ay];omega
 show((s.high++List.replicate (k+1-s.high.length) 0).set k _).getD j 0=_;rw[AQ,List.getElem?_set];by_cases q:k=j
 .subst q;rw[AL rfl,AL rfl,AL (by rw[AF,Ay];omega)];rfl
 rw[AH q,AH<|λz=>q z.symm,AQ];by_cases z:j<s.high.length
 .rw[Ag z]
 rw[Ac I,List.getElem?_replicate,BJ (l:=s.high) I];split<;>rfl
variable{hi lo:Nat}
def DH.pN(h:DH fr T c s)(o:c.Ok)(e:Em num s0 2 d s){fin:Bool}(u:k<8)(a:lo<=hi)(G:hi<=c.lU k)(N:fin=((c k).fin&&hi==(c k).b.length))(E:lo<hi\/fin=true)(O:c.waits=[]):∃s',DH fr T (c.lA d k lo hi fin).2.1 s'/\Em num s0 2 (c.lA d k lo hi fin).2.2 s'/\Kp c (c.lA d k lo hi fin).2.1 s s':=by
 have G:hi<=(c k).b.length/\hi<=(c k).kF/\hi<=(c k).high+c.kF-min c.kF c.me/\((c k).cut=true->hi<=(c k).kD):=by
  have a:=OC c k;unfold CS.nt at a;refine⟨I,I,I,λD=>?_⟩;have:c.lU k<=(c k).kD:=by unfold CS.lU;rw[AL D];exact Nat.min_le_right _ _
  omega
 obtain⟨b1,b2,a,R⟩:=G;have z:(((c k).b.drop lo).take<|hi-lo).length=hi-lo:=by rw[AU,Af];omega
 unfold CS.lA;split
 .exact⟨s,h,{ e with },Kp.refl c s⟩
 rename_i G X;have fits:(Do k lo fin<|((c k).b.drop lo).take<|hi-lo).Fits:=QP u (qm<|(o.ws k u).len) (by have:=(o.ws k u).len;unfold zG;omega);have y:D5 (Do k lo fin<|((c k).b.drop lo).take<|hi-lo)=hi:=by show lo+(((c k).b.drop lo).take<|hi-lo).length=hi;omega
 obtain⟨x,A⟩:∃x:WS,{ c.ws k with kH:=if lo<hi then(c k).kH.add lo (hi-1)else(c k).kH,ending:=(c k).ending||fin,high:=max (c k).high hi }=x:=⟨_,rfl⟩;have B:x.high=max (c k).high hi:=by rw[<-A]
 have K:FU x=FU (c k):=by rw[<-A];rfl
 have L:x.kF=(c k).kF:=by rw[<-A]
 obtain⟨M,G⟩:=Wq s (e:=hi) u h.hl;have Y:=h.sp;have Y:=Tw c.ws k x 8 u;have m:zR (zh c.ws k x) 8<=c.kF:=by unfold CS.me at a;omega
 have n:∀j,j<8->(s.mC k hi).high.getD j 0=(zh c.ws k x j).high:=λj g=>by
  rw[G j];by_cases q:j=k
  .subst q;rw[AL rfl,zf,B,h.hi j g,Nat.max_comm]
  rw[AH q,zl _ _ q];exact h.hi j g
 have C:=h.outs k u;have G:s.oq (Do k lo fin<|((c k).b.drop lo).take<|hi-lo):=Lx (by simp[Do]) (λx=>by simp[Do]at x) (λx=>by simp[Do]at x) (λ_=>by
  show s.nG k _;refine⟨h.wt.trans O,?_,?_,?_,?_,λD=>?_,?_,?_⟩
  .rw[y,C];exact b1
  .show((s.outs k).data.drop lo).take (((c k).b.drop lo).take<|hi-lo).length=_;rw[z,C];rfl
  .rw[y,h.gv k u];exact b2
  .rw[y,C];exact N
  .rw[C]at D ⊢;rw[y];exact R D
  .rcases E with z|z
   .left;intro a;have:(((c k).b.drop lo).take<|hi-lo).length=0:=by rw[show((c k).b.drop lo).take (hi-lo)=[]from a];rfl
    omega
   exact .inr z
  rw[y,Wr M n,h.al];exact m) (λx=>by simp[Do]at x) (λx=>by simp[Do]at x) (λx=>by simp[Do]at x)
 have a:s.may (Do k lo fin<|((c k).b.drop lo).take<|hi-lo)=s.mC k hi:=by
  have u:s.may (Do k lo fin<|((c k).b.drop lo).take<|hi-lo)=s.mC k (D5<|Do k lo fin<|((c k).b.drop lo).take<|hi-lo):=by simp[SS.may,Do]
  rw[u,y]
 refine⟨_,?_,e.add X ⟨fits.sound,qm fits.data,by simp[Do]⟩ rfl rfl G,by rw[a];exact⟨rfl,rfl,rfl,rfl,rfl⟩⟩;rw[a];show DH fr T { c with ws:=zh c.ws k { c.ws k with kH:=if lo<hi then(c k).kH.add lo (hi-1)else(c k).kH,ending:=(c k).ending||fin,high:=max (c k).high hi } } (s.mC k hi);rw[A];exact{ h with
  outs:=λj g=>by
   show s.outs j=FU (zh c.ws k x j);by_cases q:j=k
   .subst q;rw[zf,K];exact C
   rw[zl _ _ q];exact h.outs j g
  wk:=λj g=>by
   show(zh c.ws k x j).kD<=(zh c.ws k x j).b.length/\(zh c.ws k x j).high<=(zh c.ws k x j).b.length;by_cases q:j=k
   .subst q;obtain⟨a,e⟩:=h.wk j g;rw[zf,B,<-A];exact⟨a,Nat.max_le.2 ⟨e,b1⟩⟩
   rw[zl _ _ q];exact h.wk j g
  gv:=λj g=>by
   show s.given j=(zh c.ws k x j).kF;by_cases q:j=k
   .subst q;rw[zf,L];exact h.gv j g
   rw[zl _ _ q];exact h.gv j g
  sp:=m
  hl:=M
  hi:=n }
def DH.lI(h:DH fr T c s)(o:c.Ok)(e:Em num s0 2 d s)(m:k<8)(a:lo<=hi)(q:hi<=c.lU k)(g:lo<hi\/((c k).fin&&hi==(c k).b.length)=true)(n:c.waits=[]):∃s',DH fr T (c.lI d k lo hi).2.1 s'/\Em num s0 2 (c.lI d k lo hi).2.2 s'/\Kp c (c.lI d k lo hi).2.1 s s':=by
 unfold CS.lI;split
 .rename_i u;split
  .exact⟨s,h,{ e with },Kp.refl c s⟩
  rename_i u;have hb:c.lU k<=(c k).b.length:=by have:=OC c k;unfold CS.nt at this;omega
  exact h.pN o e m I I (by
   have:(lo+(I5 c d k lo hi).toNat==(c k).b.length)=false:=by rw[AM];omega
   rw[this,Bool.and_false]) (.inl I) n
 exact h.pN o e m a q rfl g n
theorem DH.bytes(h:DH fr T c s)(o:c.Ok)(e:Em num s0 2 d s)(m:k<8):∃s',DH fr T (c.bytes d k).2.1 s'/\Em num s0 2 (c.bytes d k).2.2 s'/\Kp c (c.bytes d k).2.1 s s':=by
 have g:=Lp (c k).kH.rs 0<|c.lU k;have hb:c.lU k<=(c k).b.length:=by have:=OC c k;unfold CS.nt at this;omega
 unfold CS.bytes;split
 .exact⟨s,h,e,Kp.refl c s⟩
 rename_i u;have n:c.waits=[]:=by
  cases q:c.waits with
  | nil=>rfl
  | cons a l=>exact absurd (.inl<|by rw[q];simp) u
 split
 .split
  .exact⟨s,h,e,Kp.refl c s⟩
  rename_i a;simp only[Br,AW,not_or,Cl,Bool.not_eq_true]at a;exact h.lI o e m (AI _) I (.inr<|by simp;simpa using a.1.1) n
 rename_i a;exact h.lI o e m I g (.inl I) n
def It(q:Nat):Nat:=min q 2
theorem DH.put(h:DH fr T c s)(o:c.Ok)(e:Em num s0 (It q) d s)(a:q<10):∃s',DH fr T (c.put d q).2.1 s'/\Em num s0 (It q) (c.put d q).2.2 s'/\Kp c (c.put d q).2.1 s s':=by
 match q,a with
 | 0,_ =>
  show ∃s',DH fr T ((c.control d).getD (c,d)).1 s'/\Em num s0 0 ((c.control d).getD (c,d)).2 s'/\Kp c ((c.control d).getD (c,d)).1 s s';cases hc:c.control d with
  | none=>exact⟨s,h,e,Kp.refl c s⟩
  | some x=>exact h.control o e hc
 | 1,_ =>
  show ∃s',DH fr T ((c.kU d).getD (c,d)).1 s'/\Em num s0 1 ((c.kU d).getD (c,d)).2 s'/\Kp c ((c.kU d).getD (c,d)).1 s s';cases hc:c.kU d with
  | none=>exact⟨s,h,e,Kp.refl c s⟩
  | some x=>exact h.pr o e hc
 | k+2,hk =>
  have a:It (k+2)=2:=by unfold It;omega
  rw[a]at e ⊢;exact h.bytes o e I
theorem DH.lP(a:q<10):∀(n:Nat) (c:CS) (d:DJ) (s:SS),DH fr T c s->c.Ok->Em num s0 (It q) d s->∃s',DH fr T (CS.lP q n c d).1 s'/\Em num s0 (It q) (CS.lP q n c d).2 s'/\Kp c (CS.lP q n c d).1 s s'
 | 0,c,_,s,h,_,e=>⟨s,h,e,Kp.refl c s⟩
 | n+1,c,d,s,h,o,e=>by
  have p:=Nt (d:=d) o a;obtain⟨g,m,q,u⟩:=h.put o e a;unfold CS.lP;split
  .obtain⟨e,h,y,z⟩:=DH.lP a n _ _ g m p.ok q;exact⟨e,h,y,u.trans z⟩
  exact⟨g,m,q,u⟩
theorem DH.lB:∀(n:Nat) (c:CS) (d:DJ) (s:SS),n<=10->DH fr T c s->c.Ok->d.Ok->Em num s0 (It (10-n)) d s->∃s',DH fr T (CS.lB n c d).1 s'/\Em num s0 2 (CS.lB n c d).2 s'/\Kp c (CS.lB n c d).1 s s'
 | 0,c,_,s,_,h,_,_,e=>⟨s,h,e.pV<|Nat.min_le_right _ _,Kp.refl c s⟩
 | n+1,c,d,s,hn,h,o,od,e=>by
  have r:=Pd (q:=9-n) I (d.room+1) c d o od;obtain⟨a,g,m,u⟩:=DH.lP (q:=9-n) I (d.room+1) c d s h o (by rw[(I:10-(n+1)=9-n)]at e;exact e);unfold CS.lB;obtain⟨e,h,q,y⟩:=DH.lB n _ _ a I g r.1 r.2.1 (m.pV (by unfold It;omega));exact⟨e,h,q,u.trans y⟩
end
variable{hi lo:Nat}
def YY{e:zE}(m:WF e)(h:lo<=hi)(sub:∀n,lo<=n->n<=hi->Dc e n):Mb e (lo,hi)=true:=by
 obtain⟨i,g,a,b⟩:=sub lo (AI _) h;have hb:hi<=DB e i:=by
  apply Bl;intro q;obtain⟨j,h,x,y⟩:=sub (DB e i+1) I q;rcases Bo i j with z|z|z
  .have:=m.2 i j z h;omega
  .subst z;omega
  have:=m.2 j i z g;omega
 exact Bi.2 ⟨_,AZ<|Gz g,by simp[a,hb]⟩
def Tq(a:Nat)(l:zE)(s:SS):Prop:=∀n∈s.due,n<a\/∃r∈l,r.1<=n/\n<=r.2
section
variable {fr:Bool} {T:Nat} {c:CS} {s s0:SS} {l:zE}
theorem XU(hb:d.b.length<=8)(q:64<=d.room)(m:l≠[])(u:Gu l):∃g,d.add (kP (l.take (Ep d l l.length)))=some g:=by
 have a:∀n,1<=n->n<=l.length->(d.b++zC (kP<|l.take<|Ep d l n)).length+4<=d.room:=by
  intro n
  induction n with
  | zero=>intro h;omega
  | succ n ih =>
   intro _ g;unfold Ep;split
   .rename_i g;exact ih I I
   rename_i g;by_cases q:1<n+1
   .have:¬d.room<(d.b++zC (kP<|l.take<|n+1)).length+4:=λx=>g ⟨q,x⟩
    omega
   have e:n=0:=I;subst e;rw[AF];have g:=Jy<|DB (l.take 1) 0;have g:=Jy<|DB (l.take 1) 0-DE (l.take 1) 0;have g:(l.take 1).length=1:=by rw[AU];omega
   have e:(zC<|kP<|l.take 1).length<=18:=by
    have e:zC (kP<|l.take 1)=Fa (kP<|l.take 1):=rfl;rw[e];unfold Fa;have e:(kP<|l.take 1).kC=l.take 1:=rfl;rw[e,g];have e:(zV<|1-1).length=1:=rfl;have e:(Di (l.take 1)<|1-1).length=0:=rfl;simp only[AF,Aa,Aw];omega
   simp only[An];omega
 have h:=a l.length (Bu.2 m)<|AI _;unfold DJ.add;rw[AH I];exact⟨_,rfl⟩
def DH.told(h:DH true T c s){num:Nat}(e:Em num s0 0 d s)(hb:d.b.length<=8)(g:64<=d.room)(n:Gu l)(a:l.length<=1048576)(y:∀r∈l,r∈c.kN.rs)(A:Tq c.kN.fl l s):∃s',DH true T c s'/\Em num s0 0 (zB d l).1 s'/\s'.kH=s.kH/\Tq c.kN.fl (zB d l).2 s'/\(∀r∈(zB d l).2,r∈c.kN.rs)/\(l≠[]->(zB d l).1.fs≠[]):=by
 unfold zB;by_cases a:l=[]
 .rw[AL a];exact⟨s,h,e,rfl,A,y,λx=>absurd a x⟩
 rw[AH a];obtain⟨C,u⟩:=XU hb g a n;have q:1<=l.length:=Bu.2 a;have a:=QO d l l.length q;have q:=SN d l l.length;have m:=n.tell _ a q;generalize hN:Ep d l l.length=N at *;have D:s.oq (kP<|l.take N):=Lx (by simp[kP]) (λ_ r g=>by
  have g:=y r<|Bn g;obtain⟨j,q,a,B⟩:=Ld g;have a:=(h.gf.1.wf.1 j q).1;refine YY h.ev.ok.wf I<|λn a b=>h.ev.sub n ⟨j,q,I,I⟩) (λx=>by simp[kP]at x) (λx=>by simp[kP]at x) (λx=>by simp[kP]at x) (λx=>by simp[kP]at x) (λx=>by simp[kP]at x)
 have z:s.may (kP<|l.take N)=s.lC (kP<|l.take N):=by simp[SS.may,kP]
 have E:=e.add u ⟨m,by simp[kP],by show(l.take N).length<_;rw[AU];omega⟩ rfl rfl D;have e:∀n∈(s.lC<|kP<|l.take N).due,n∈s.due/\¬n<c.kN.fl/\∀r∈l.take N,¬(r.1<=n/\n<=r.2):=λn m=>by
  obtain⟨a,b⟩:=Bh.1 m;rw[h.kN]at b;simp only[Cl,C4,BW,Ck]at b;refine⟨a,b.1,λr g q=>b.2 r g ?_⟩;simp[Hz,q.1,q.2]
 refine⟨s.may<|kP<|l.take N,?_,?_,?_,?_,λr g=>y r<|Cb g,λ_=>?_⟩
 .rw[z];exact{ h with
   dl:=AR (Bf _ _) h.dl
   dg:=λn m=>h.dg n (e n m).1
   da:=.inl rfl }
 .show Em num s0 0 ((d.add<|kP<|l.take<|Ep d l l.length).getD d) _;rw[hN,u];exact E
 .rw[z];rfl
 .rw[z];show Tq c.kN.fl (l.drop<|Ep d l l.length) _;rw[hN];intro n m;obtain⟨a,b,q⟩:=e n m;rcases A n a with x|⟨r,g,x⟩
  .exact absurd x b
  refine .inr ⟨r,?_,x⟩;rw[<-List.take_append_drop N l]at g;rcases Ap.1 g with y|y
  .exact absurd x (q r y)
  exact y
 show((d.add<|kP<|l.take<|Ep d l l.length).getD d).fs≠[];rw[hN,u];obtain⟨_,B,_⟩:=DJ.lz u;show C.fs≠[];rw[B];simp
theorem DH.mI:∀(m:Nat) (c:CS) (l:zE) (s:SS),DH true T c s->Hy c l->s.kH=c.next->(∀r∈l,r∈c.kN.rs)->Tq c.kN.fl l s->Fp c l<m ->
  ∃s',SS.mQ (CS.mI m c l).1 s s'/\DH true T (CS.mI m c l).2 s'/\s'.kH=(CS.mI m c l).2.next/\(∀n∈s'.due,n<s'.kN.fl)
 | 0,_,_,_,_,_,_,_,_,hm=>absurd hm<|Al _
 | m+1,c,l,s,h,hk,hn,hl,hq,hm=>by
  obtain⟨y,r2,r3,N,r5,r6,Y⟩:=hk.round;have t:=Nz (I8 hk.ok) l;have B:=hk.next;have a:DH true T c { s with kH:=s.kH+1 }:={ h with };have q:Em c.next { s with kH:=s.kH+1 } 0 c.kJ { s with kH:=s.kH+1 }:=⟨by show zV c.next=Fe c.next [];simp[Fe],λf u=>(by cases u),λf u=>(by cases u),trivial,rfl,AI _⟩;obtain⟨g,O,R,n1,Z,l1,f1⟩:=a.told (l:=l) q (Jy _) hk.kj hk.desc hk.len hl hq;have hF:∃z,DH true T (c.kM (zB c.kJ l).1).1 z/\Em c.next { s with kH:=s.kH+1 } 2 (c.kM (zB c.kJ l).1).2 z/\Kp c (c.kM (zB c.kJ l).1).1 g z/\((zB c.kJ l).1.fs≠[]->(c.kM (zB c.kJ l).1).2.fs≠[])/\((c.kM (zB c.kJ l).1).2.fs≠[]->(c.kM (zB c.kJ l).1).2.b.length+4<=c.kj):=by
   have X:Ev (zB c.kJ l).1:=Ev.told ⟨λf u=>(by cases u),λx=>absurd rfl x⟩ l;have q:=P2 10 c (zB c.kJ l).1 (AI _) hk.ok y;unfold CS.kM;split
   .obtain⟨z,a,b,k⟩:=DH.lB 10 c (zB c.kJ l).1 g (AI _) O hk.ok y R;refine⟨z,a,b,k,q.2.2.2.2.2.1,λe=>?_⟩;have x:=(X.lB 10 c (zB c.kJ l).1 (AI _) hk.ok y).fit e;have y:(CS.lB 10 c (zB c.kJ l).1).2.room=c.kj:=q.2.2.1.trans t.2.1;show(CS.lB 10 c (zB c.kJ l).1).2.b.length+4<=_;omega
   refine⟨g,O,R.pV I,Kp.refl c g,id,λe=>?_⟩;have x:=X.fit e;have y:(zB c.kJ l).1.room=c.kj:=t.2.1;show(zB c.kJ l).1.b.length+4<=_;omega
  obtain⟨z,E,A,G,a,z2⟩:=hF;unfold CS.mI;by_cases e:(c.kM (zB c.kJ l).1).2.fs=[]
  .rw[AL e];have K:l=[]:=by
    apply Classical.byContradiction;intro x;exact a (f1 x) e
   subst K;refine⟨s,rfl,?_,?_,λn C=>?_⟩
   .have a:=A.ms;rw[e]at a;have:z={ s with kH:=s.kH+1 }:=a.symm;rw[this]at E;exact{ E with }
   .show s.kH=(c.kM _).1.next;rw[N,hn]
   rw[h.kN];rcases hq n C with x|⟨r,L,_⟩
   .exact x
   cases L
  rw[AH e];obtain⟨k1,a⟩:=Y e;have a:=z2 e;have D:=G.kN;generalize c.kM (zB c.kJ l).1=F at *;generalize (zB c.kJ l).2=l2 at *;have M:F.2.fs.map EJ=F.2.fs:=by
   have:∀fs:List DF,(∀f∈fs,EJ f=f)->fs.map EJ=fs:=by
    intro fs
    induction fs with
    | nil=>intro _;rfl
    | cons f fs ih=>intro u;rw[BO,u f BB,ih (λg D=>u g<|BA _ D)]
   exact this _ A.cn
  have ok:s.nR (Fs F.2.b) F.2.fs:=by
   refine⟨?_,?_,?_,?_,A.ok⟩
   .unfold Fs;rw[UI,A.b,hn];have:=SQ c.next F.2.fs (by unfold zG at B;omega) (Bu.2 e) A.fr;rw[M]at this;exact this
   .unfold Fs;rw[AF,N9,h.cfg.1];omega
   .unfold Fs;rw[A.b,hn]
   unfold JM;simp only[AV,AW,By];exact⟨⟨Bu.2 e,by rw[hn];unfold zG at B;omega⟩,λf u=>(A.fr f u).1⟩
  have a:DH true T (F.1.lQ F.2) z:={ E with };obtain⟨s',e,g,h,q⟩:=DH.mI m (F.1.lQ F.2) l2 z a k1 (by rw[G.kH,n1];show s.kH+1=F.1.next+1;rw[N,hn]) (λr L=>by show r∈F.1.kN.rs;rw[D];exact l1 r L) (by
   show Tq F.1.kN.fl l2 z;rw[D];intro n C;rw[G.due]at C;exact Z n C) I
  exact⟨s',⟨F.2.fs,ok,by show SS.mQ _ (SS.mO F.2.fs _) s';rw[A.ms];exact e⟩,g,h,q⟩
theorem Oe:∀(e:List qq) (s s':SS),SS.mQ e s s'->s'.due.length<=s.due.length/\s'.closed=s.closed
 | [],_,_,h=>by rw[show _=_ from h];exact⟨AI _,rfl⟩
 | b::e,s,s',⟨fs,_,h⟩=>by
  obtain⟨a,b⟩:=Oe e _ _ h;have g:∀(fs:List DF) (s:SS),(SS.mO fs s).due.length<=s.due.length:=by
   intro fs
   induction fs with
   | nil=>intro s;exact AI _
   | cons f fs ih =>
    intro s;refine AR (ih<|s.may f) ?_;unfold SS.may;split
    .exact Bf _ _
    repeat' split
    all_goals exact AI _
  exact⟨AR a<|g fs _,b.trans (QA fs _).2.2.2⟩
def DH.lS(h:DH false T c s)(i:c.Inv T)(u:T<=DW)(g:s.kH=c.next)(A:c.closed=0):∃s',s.na c.lS.1 s'/\DH false T c.lS.2 s'/\s'.kH=c.lS.2.next:=by
 have e:DH true T c.lK.2 s/\c.lK.2.next=c.next/\c.lK.2.kN=c.kN/\c.lK.2.kB=c.kB/\c.lK.2.closed=c.closed:=by
  unfold CS.lK;split
  .exact⟨{ h with da:=.inl rfl },rfl,rfl,rfl,rfl⟩
  exact⟨{ h with da:=.inl rfl },rfl,rfl,rfl,rfl⟩
 obtain⟨r,B,q,C,y⟩:=e;have m:(∀x∈c.lK.1,x∈c.lK.2.kN.rs)/\Tq c.lK.2.kN.fl c.lK.1 s:=by
  rw[q];rcases h.da with x|x|x
  .cases x
  .refine⟨?_,λn a=>by rw[x]at a;cases a⟩;unfold CS.lK;split
   .exact λx a=>List.mem_reverse.1 a
   exact λx a=>by cases a
  have e:c.lK.1=c.kN.rs.reverse:=by unfold CS.lK;rw[AL x]
  rw[e];refine⟨λx a=>List.mem_reverse.1 a,λn a=>?_⟩;rcases h.dg n a with y|y
  .exact .inl y
  obtain⟨q,a,z⟩:=Mo.1 y;exact .inr ⟨q,List.mem_reverse.2 a,z⟩
 obtain⟨s',b1,b2,D,a⟩:=DH.mI (12-c.kB.length+c.lK.1.length+1) c.lK.2 c.lK.1 s r (i.po u) (by rw[B];exact g) m.1 m.2 (by unfold Fp;rw[C];omega);have e:=(Oe _ _ _ b1).2;exact⟨{ s' with due:=[] },⟨λ_=>⟨s',b1,a,rfl⟩,λx=>absurd (h.cl.1.trans A) x⟩,{ b2 with dl:=AK _,da:=.inr rO,dg:=λn g=>by cases g },D⟩
end
structure DZ(T:Nat)(c:CS)(s:SS):Prop where
 r:DH false T c s
 i:c.Inv T
 n:s.kH=c.next
 cb:s.closed<=13
section
variable {T:Nat} {c:CS} {s:SS}
def DZ.mono{T':Nat}(h:DZ T c s)(a:T<=T'):DZ T' c s:=⟨h.r.mono a,h.i.mono a,h.n,h.cb⟩
def DZ.new{g a e:Nat}(h:64<=g/\g<=400)(y:a<=4096)(z:e<=4096):DZ 0 (CS.new g a e) (SS.new g a e) :=
 ⟨{
   cfg:=⟨rfl,rfl,rfl⟩,now:=rfl,cl:=⟨rfl,rfl⟩,kN:=rfl,gf:=⟨(CS.Inv.new h y z).kN.1,λm a=>(by obtain⟨j,q,_⟩:=a;exact absurd q<|Al j)⟩,
   ev:=⟨Id _ I,rfl,rfl,AI _,λn u=>u⟩,
   outs:=λ_ _=>rfl,
   wk:=λ_ _=>⟨AK _,AK _⟩,
   ins:=λk _=>{ high:=rfl,end_:=rfl,ended:=rfl,reset:=rfl,kD:=rfl,read:=rfl,state:=rfl,data:=rfl,tl:=rfl,there:=λj=>⟨λx=>(by cases x),λx=>(by obtain⟨j,q,_⟩:=x;exact absurd q<|Al j)⟩,ok:=Id _ I,fl:=rfl,most:=rfl,low:=λj q=>absurd q<|Al j,top:=λj x=>(by obtain⟨j,q,_⟩:=x;exact absurd q<|Al j),bl:=rfl,rd:=AI _,hg:=AK _,gw:=Nat.le_add_left _ _,ce:=λx=>(by cases x),ef:=λx=>(by cases x),st:=λx=>(by cases x) },
   gr:=λ_ _=>rfl,gt:=rfl,gv:=λ_ _=>rfl,al:=rfl,sp:=AK _,hl:=AK _,hi:=λk _=>rfl,
   wt:=rfl,wf:=λf A=>(by cases A),ls:=⟨rfl,rfl⟩,
   se:=⟨rfl,λid=>⟨λ⟨p,hp,_⟩=>(by cases hp),λx=>(by cases x.1)⟩,λ_=>rfl,λ_=>rfl,λx=>(by cases x)⟩,
   sl:=AK _,cm:=rfl,tg:=Nat.le_add_left _ _,dl:=AK _,da:=.inr rO,dg:=λn u=>(by cases u) },
  CS.Inv.new h y z,rfl,AK _⟩
def DZ.send(h:DZ T c s)(k:Int)(l:qq):(s.send k l).1=(c.send k l).1/\DZ T (c.send k l).2 (s.send k l).2:=by
 obtain⟨a,b,d,e⟩:=h.r.send k l;refine⟨a,b,h.i.send k l,by rw[d,e,h.n],?_⟩;unfold SS.send;repeat' split
 all_goals exact h.cb
def DZ.finish(h:DZ T c s)(k:Int):(s.finish k).1=(c.finish k).1/\DZ T (c.finish k).2 (s.finish k).2:=by
 obtain⟨a,b,d,e⟩:=h.r.finish k;refine⟨a,b,h.i.finish k,by rw[d,e,h.n],?_⟩;unfold SS.finish;repeat' split
 all_goals exact h.cb
def DZ.reset(h:DZ T c s)(k kD:Int):(s.reset k kD).1=(c.reset k kD).1/\DZ T (c.reset k kD).2 (s.reset k kD).2:=by
 obtain⟨a,b,d,e⟩:=h.r.reset k kD;refine⟨a,b,h.i.reset k kD,by rw[d,e,h.n],?_⟩;unfold SS.reset;split;all_goals exact h.cb
def DZ.kK(h:DZ T c s)(id g:Nat)(l:qq):(s.kK id g l).1=(c.kK id g l).1/\DZ T (c.kK id g l).2 (s.kK id g l).2:=by
 obtain⟨a,b,d,e⟩:=h.r.kK id g l;refine⟨a,b,h.i.kK id g l,by rw[d,e,h.n],?_⟩;unfold SS.kK;repeat' split
 all_goals exact h.cb
def DZ.close(h:DZ T c s):s.close.1=c.close.1/\DZ T c.close.2 s.close.2:=by
 obtain⟨a,b,d,e⟩:=h.r.close;refine⟨a,b,h.i.close,by rw[d,e,h.n],?_⟩;unfold SS.close;split
 .exact h.cb
 show 12<=13;decide
def U8(c:CS):c.tick.next=c.next:=by
 show c.mH.mF.next=_;rw[Lm];exact(KJ c.mH.kB c.mH).hd.2.2.2.2.2.2.1
def DZ.tick(h:DZ T c s):DZ (T+1) c.tick s.tick :=
 ⟨h.r.tick.mono<|Ar T,h.i.tick,(show s.kH=c.tick.next from h.n.trans (U8 c).symm),h.cb⟩
def DZ.read(h:DZ T c s)(k g:Int):(s.read k g).1=(c.read k g).1/\DZ T (c.read k g).2 (s.read k g).2:=by
 obtain⟨a,b,d,e⟩:=h.r.read k g;refine⟨a,b,h.i.read k g,by rw[d,e,h.n],?_⟩;unfold SS.read;split;all_goals exact h.cb
def DZ.oh(h:DZ T c s):DZ T c.kW.2 { s with kG:=[] }:=⟨h.r.oh.2,h.i.kW,h.n,h.cb⟩
def U7(s:SS)(f:DF):(s.take f).1<=13/\(s.take f).2.closed=s.closed:=by
 unfold SS.take SS.lL SS.bytes SS.message;repeat' split
 all_goals exact⟨nl,rfl⟩
theorem Sf(n:Nat):∀(e:List DF) (s:SS),s.closed<=13->(SS.kV n e s).2.closed<=13
 | [],_,h=>h
 | f::e,s,h=>by
  have a:=U7 s f;unfold SS.kV;split
  .exact a.1
  refine Sf n e _ ?_;unfold SS.mR;split<;>(show(s.take f).2.closed<=13;rw[a.2];exact h)
variable{bs:qq}
def DZ.kL(h:DZ T c s)(g:T+bs.length+1<=DW):(s.kL bs).1=(c.kL bs).1/\DZ (T+bs.length+1) (c.kL bs).2 (s.kL bs).2/\s.mJ bs:=by
 obtain⟨a,b,d,e⟩:=h.r.kL h.i h.n g;refine⟨a,⟨b,(h.i.kL I).mono<|Ar _,d,?_⟩,e⟩;unfold SS.kL;split
 .exact h.cb
 split
 .exact h.cb
 .show 8<=13;decide
 split
 .exact h.cb
 exact Sf _ _ _ h.cb
def DZ.kY(h:DZ T c s)(A:T<=DW)(B:c.closed≠0):∃s',s.na c.kY.1 s'/\DZ (T+1) c.kY.2 s'/\c.kY.1.length<=32/\∀l∈c.kY.1,l.length<=400:=by
 have n:s.closed≠0:=by rw[h.r.cl.1];exact B
 have a:=h.r.cl.2;by_cases m:c.said=true
 .rw[m]at a;have e:c.kY=([],c):=by unfold CS.kY;rw[AL m]
  rw[e];exact⟨s,⟨λx=>absurd x n,λ_=>⟨λ_=>⟨rfl,rfl⟩,λx=>(by rw[a]at x;cases x)⟩⟩,h.mono<|Ar T,AK _,λl u=>(by cases u)⟩
 have m:c.said=false:=qp m;rw[m]at a;rw[UA m rfl];have m:c.nB<=13:=by
  have:=h.r.cl.1;have:=h.cb;unfold CS.nB;split<;>omega
 have m:=h.i.next;unfold DW at A;have m:=h.i.kj;have hb:(zV c.next).length<=8:=Jy _;have z:(zC<|FQ c.nB).length<=16:=by
  have e:zC (FQ c.nB)=Fy 28 (FQ c.nB):=by simp[zC,FQ]
  rw[e];unfold Fy;have e:=Jy (FQ c.nB).lF;rw[AF,Ak];omega
 obtain⟨g,e⟩:∃g,(CS.kJ { c with said:=true }).add (FQ c.nB)=some g:=by
  unfold DJ.add;rw[AH (by rw[AF];show ¬c.kj<(zV c.next).length+_+4;omega)];exact⟨_,rfl⟩
 obtain⟨m,A,_⟩:=DJ.lz e;rw[e];have hd:g.b=Fe c.next [FQ c.nB]:=by rw[m];show zV c.next++_=_;simp[Fe]
 have e:g.b.length<=24:=by rw[m,AF];show(zV c.next).length+_<=_;omega
 have y:c.nB=s.nB:=by unfold CS.nB SS.nB;rw[h.r.cl.1]
 have q:dec (Fs g.b)=.ok s.kH [FQ c.nB]:=by
  unfold Fs;rw[UI,hd,h.n];have:=SQ c.next [FQ c.nB] I nl (λf z=>by
   cases As.1 z;exact⟨(RW<|by unfold zG;omega).sound,by simp[FQ],by simp[FQ]⟩)
  exact this
 refine⟨{ s with said:=true,kH:=s.kH+1 },⟨λx=>absurd x n,λ_=>⟨λx=>(by rw[a]at x;cases x),λ_=>⟨_,_,rfl,q,?_,rfl,y,rfl⟩⟩⟩,?_,nl,λl u=>?_⟩
 .show(g.b++EP _).length<=_;rw[AF,N9];omega
 .have a:DH false (T+1) { c with said:=true,next:=c.next+1 } { s with said:=true,kH:=s.kH+1 }:={ h.r.mono (Ar T)with cl:=⟨h.r.cl.1,rfl⟩ };have e:=h.i.mono<|Ar T;have m:=e.nX c.closed true c.answer;exact⟨a,{ m with next:=by show c.next+1<=_;omega },by show s.kH+1=c.next+1;rw[h.n],h.cb⟩
 rw[As.1 u];show(g.b++EP _).length<=_;rw[AF,N9];omega
def DZ.z(h:DZ T c s)(n:T<=DW):∃s',s.na c.z.1 s'/\DZ (T+1) c.z.2 s'/\c.z.1.length<=32/\∀l∈c.z.1,l.length<=400:=by
 unfold CS.z;by_cases g:c.closed=0
 .rw[AH (qp g)];obtain⟨s',a,b,d⟩:=h.r.lS h.i n h.n g;have e:=h.i.oM n;have q:=h.i.fl;refine⟨s',a,⟨b.mono<|Ar T,h.i.lS n,d,?_⟩,?_,λl u=>?_⟩
  .obtain⟨m,y,_,rfl⟩:=a.up<|h.r.cl.1.trans g;rw[show({ m with due:=[] }:SS).closed=m.closed from rfl,(Oe _ _ _ y).2];exact h.cb
  .have:=e.z.1;have:=(h.i.lK).2.2;omega
  have:=e.z.2 l u;have m:=h.i.kj;have e:c.lK.2.kj=c.kj:=by unfold CS.lK;split<;>rfl
  omega
 rw[AL g];exact h.kY n g
def DZ.od(h:DZ T c s):∀k,k<8->(s.outs k).data.length<=1048576/\(s.outs k).kD<=1048576:=λk a=>by
 rw[h.r.outs k a];have:=(h.i.ws k a).len;have:=(h.r.wk k a).1;exact⟨by show(c k).b.length<=_;omega,by show(c k).kD<=_;omega⟩
def DZ.bd(h:DZ T c s)(a:T<=DW):s.Bd:=by
 unfold DW at a;obtain⟨_,c2,a⟩:=h.r.cfg;have:=h.i.ln;have:=h.i.lr;exact
  {od:=λk a=>qm (h.od k a)
   hl:=h.r.hl
   all:=by rw[h.r.al];have:=h.i.kF;unfold zG at this;exact this
   due:=qm h.r.dl
   ln:=I
   lr:=I
   used:=λk a=>by rw[(h.r.ins k a).nM];have:=((h.i.rs k a).used I).1.1;unfold zG at this;exact this
   wt:=by rw[h.r.wt];have:=h.i.waits.2;omega }
def DZ.qV(h:DZ T c s)(e:T<=DW):∀k,k<8->(s.ins k).py:=λk a=>by
 unfold DW at e;have r:=h.r.ins k a;have i:=h.i.rs k a;have:=i.hg;have:=i.gr;exact⟨by rw[r.high];omega,by rw[r.tl,r.high],by rw[r.data,r.high,r.bl],by rw[r.read,r.high];exact r.rd⟩
end
variable{V:CV}{W:rT}{b i:Nat}{tag:qr}
def ig(h:zn tag i b c V W)(E:Dn i tag W)(a:FV i tag)(u:c.closed≠0)(e:c.kj<=65536)(g:c.next<zG)(m:c.closed<=1099511627776):rH 45 #[(b,0)] W (I3 tag i b W c.kY.1 c.kY.2):=by
 have n:W (b,4)=some (.int .i64 c.closed):=h.hd (j:=4) rfl;have n:=ij h E a e g m;have hb:((c.closed:Int)==0)=false:=AM.2 I;have y:((c.closed:Int) != 0)=true:=by rw[bne,hb];rfl
 have y:=zb n;clear h E a u e g m n;go_enter func45,ntmps45;go_wp2_with fail;refine y.z.mono ?_;rintro _ W1 ⟨v,z,tag',V',rfl,q⟩;have a:AA (I3 tag i b W c.kY.1 c.kY.2 (.returned v) W1):=zb ⟨v,z,tag',V',rfl,q⟩;clear q;go_wp2;go_ret;exact a.z
variable{T:Nat}
def XT(h:zn tag i b c V W)(E:Dn i tag W)(g:FV i tag)(B:DZ T c s)(e:T<=DW):rH 20 #[(b,0)] W (Oy tag i b W c.z.1 c.z.2):=by
 obtain⟨_,_,_,m,a⟩:=B.z e;refine iS E ?_ I<|λl m=>qm<|a l m;unfold CS.z;by_cases a:c.closed=0
 .rw[AH (qp a)];exact iT h E g a (B.i.po e) B.i.kN.1
 rw[AL a];have:=B.i.next;have:=B.i.kj;have:=B.cb;have:=B.r.cl.1;unfold DW at e;exact ig h E g a I (by unfold zG;omega) I
structure PW where
 n:Nat
 x:Nat->Nat
 m:Nat->Nat
 c:Nat->CS
 s:Nat->SS
 kept:List qq
 xv:rU
 mv:rU
 kv:rU
 ux:rU
 um:rU
instance:CoeFun PW (λ_=>Nat->CS):=⟨PW.c⟩
def Ls(first:Bool)(p:PW):Array rU:=#[p.xv,p.mv,p.kv,p.ux,p.um,.bool first]
def G6(b:Nat)(first:Bool)(p:PW)(a e:Nat):Nat->Pc
 | 1=>.kr b (Ls first p) 33
 | 2=>.row 57 1 p.xv a<|(List.range a).map λj=>zq<|p.x j
 | 3=>.row 60 1 p.mv e<|(List.range e).map λj=>zq<|p.m j
 | 4=>.row 9 1 p.kv p.kept.length<|EH p.kept
 | _=>.no
structure Gh(w0:rT)(t:Nat)(tag:qr)(p:PW)(W:rT):Prop where
 env:Dn 1 tag W
 top:∀g,(tag g).1<=t
 cn:∀j,j<p.n->∃V,zn tag (2*j+2) (p.x j) (p.c j) V W
 nd:∀j,j<p.n->FV (2*j+2) tag
 sd:∀j,j<p.n->∃V,zj tag (2*j+3) (p.m j) (p.s j) V W
 mod:C9 DA w0 W
 t1:∀g,tag g≠(0,0)->w0.heap.size<=g
 ox:2<=w0.heap.size
structure DS(w0:rT)(tag:qr)(b:Nat)(first:Bool)(p:PW)(W:rT):Prop where
 own:DM tag 1 (G6 b first p p.n p.n) W
 r:Gh w0 (2*p.n+1) tag p W
variable{j:Nat}
def Dn.as(h:Dn i tag W)(a:0<j):Dn j tag W:=⟨h.ok,a,h.err,h.tab,h.g0,h.g1⟩
section
variable {w0 W W':rT} {t:Nat} {tag tag':qr} {p:PW} {b:Nat} {first:Bool}
def DK.kD(e:DK i tag tag' W W')(h:zL tag W)(a:0<q):∀g,(tag g).1=q->tag' g=tag g:=λg a=>by
 by_cases x:g<W.heap.size
 .exact e.lH g x
 rw[h g I]at a;simp at a;omega
def Gh.rest(h:Gh w0 t tag p W)(hi:0<i)(e:DK i tag tag' W W')(m:C9 (λg=>(tag g).1=i) W W'):(Dn 1 tag' W'/\(∀g,(tag' g).1<=max t i)/\C9 DA w0 W'/\∀g,tag' g≠(0,0)->w0.heap.size<=g) /\
  (∀j,j<p.n->2*j+2≠i->(∃V,zn tag' (2*j+2) (p.x j) (p j) V W')/\FV (2*j+2) tag')/\∀j,j<p.n->2*j+3≠i->∃V,zj tag' (2*j+3) (p.m j) (p.s j) V W':=by
 have a:=h.mod.size;refine⟨⟨((h.env.as hi).left e m).as lc,λg=>?_,h.mod.then m<|λg a=>.inr<|h.t1 g<|λx=>by rw[x]at a;simp at a;omega,λg a=>?_⟩,λj u n=>⟨?_,λg r y x=>?_⟩,λj u n=>?_⟩
 .by_cases q:g<W.heap.size
  .rw[e.lH g q];have:=h.top g;omega
  rcases e.new g I with x|x
  .omega
  rw[x];exact AK _
 .by_cases q:g<W.heap.size
  .rw[e.lH g q]at a;exact h.t1 g a
  omega
 .obtain⟨V,c⟩:=h.cn j u;exact⟨V,c.mod m (λg a x=>n<|by rw[<-x,a])<|e.kD h.env.ok I⟩
 .by_cases q:g<W.heap.size
  .rw[e.lH g q]at x;exact h.nd j u g r y x
  rcases e.new g I with y|y
  .rw[x]at y;exact n y
  rw[x]at y;have:=Ax Prod.fst y;simp only at this;omega
 obtain⟨V,c⟩:=h.sd j u;exact⟨V,DM.mod c m (λg a x=>n<|by rw[<-x,a])<|e.kD h.env.ok I⟩
def Gh.lq(h:Gh w0 t tag p W)(hi:0<i)(a:i=1\/2*p.n+1<i)(e:DK i tag tag' W W')(m:C9 (λg=>(tag g).1=i) W W'):Gh w0 (max t i) tag' p W':=by
 obtain⟨⟨a,n,q,u⟩,g,y⟩:=h.rest hi e m;exact⟨a,n,λj a=>(g j a I).1,λj a=>(g j a I).2,λj a=>y j a I,q,u,h.ox⟩
def Gh.le(h:Gh w0 t tag p W){a:Nat}(e:t<=a):Gh w0 a tag p W:=⟨h.env,λg=>AR (h.top g) e,h.cn,h.nd,h.sd,h.mod,h.t1,h.ox⟩
def Gh.kI(h:Gh w0 t tag p W)(m:C9 DA W W'):Gh w0 t tag p W' :=
 ⟨h.env.kI m,h.top,λj a=>(h.cn j a).imp λ_ c=>c.kI m,h.nd,λj a=>(h.sd j a).imp λ_ c=>DM.kI c m,h.mod.trans m,h.t1,h.ox⟩
def DS.kI(h:DS w0 tag b first p W)(m:C9 DA W W'):DS w0 tag b first p W':=⟨h.own.kI m,h.r.kI m⟩
variable{S:Nat->Prop}
def DS.free(h:DS w0 tag b first p W)(m:C9 S W W')(e:∀g,S g->tag g=(0,0)/\w0.heap.size<=g):DS w0 tag b first p W':=by
 have a:∀{q:Nat},0<q->∀g,S g->(tag g).1≠q:=λq g n x=>by
  rw[(e g n).1]at x;simp at x;omega
 have q:=h.r.ox;exact⟨h.own.mod m (a lc)<|λ_ _=>rfl,
  ⟨⟨h.r.env.ok.mod m,h.r.env.pos,h.r.env.err.mod m<|λx=>qm<|(e 0 x).2,h.r.env.tab.mod m<|λx=>qm<|(e 1 x).2,h.r.env.g0,h.r.env.g1⟩,h.r.top,
   λj q=>(h.r.cn j q).imp λ_ c=>c.mod m (a I)<|λ_ _=>rfl,h.r.nd,λj q=>(h.r.sd j q).imp λ_ c=>DM.mod c m (a I)<|λ_ _=>rfl,h.r.mod.then m<|λg n=>.inr (e g n).2,h.r.t1,h.r.ox⟩⟩
variable{V':CV}{c':CS}
def DS.pU(h:DS w0 tag b first p W)(z:j<p.n)(a:zn tag' (2*j+2) (p.x j) c' V' W')(e:DK (2*j+2) tag tag' W W')(m:C9 (λg=>(tag g).1=2*j+2) W W')(y:FV (2*j+2) tag'):DS w0 tag' b first { p with c:=zh p.c j c' } W':=by
 obtain⟨⟨z,A,B,C⟩,u,D⟩:=h.r.rest I e m;refine⟨h.own.mod m (λg m x=>I)<|e.kD h.r.env.ok lc,z,λg=>by have:=A g;show _<=2*p.n+1;omega,λk n=>?_,λk n=>?_,λk n=>D k n I,B,C,h.r.ox⟩
 .by_cases q:k=j
  .subst q;exact⟨V',by rw[show({ p with c:=zh p.c k c' }:PW).c k=c' from zf _ _ _];exact a⟩
  rw[show({ p with c:=zh p.c j c' }:PW).c k=p.c k from zl _ _ q];exact(u k n I).1
 by_cases q:k=j
 .subst q;exact y
 exact(u k n I).2
def DS.conn(h:DS w0 tag b first p W)(n:j<p.n)(L:Dv tag (2*j+2) (p.x j) W c' W'):∃tag',DS w0 tag' b first { p with c:=zh p.c j c' } W'/\∀g,g<W.heap.size->tag' g=tag g:=by
 obtain⟨u,V',a,e,m⟩:=L;have q:=e.pc<|h.r.nd j n;exact⟨GG (2*j+2) u,h.pU n (a.nz<|λg r a e=>Pv a e) q m<|Pi I,q.lH⟩
def DS.side(h:DS w0 tag b first p W)(u:j<p.n){s':SS}(L:Db tag (2*j+3) (p.m j) W s' W'):∃tag',DS w0 tag' b first { p with s:=zh p.s j s' } W'/\∀g,g<W.heap.size->tag' g=tag g:=by
 obtain⟨y,_,⟨V',rfl⟩,a,e,m⟩:=L;obtain⟨⟨z,A,B,C⟩,u,D⟩:=h.r.rest I e m;refine⟨y,⟨h.own.mod m (λg m x=>I)<|e.kD h.r.env.ok lc,z,λg=>by have:=A g;show _<=2*p.n+1;omega,λk n=>(u k n I).1,λk n=>(u k n I).2,λk n=>?_,B,C,h.r.ox⟩,e.lH⟩;by_cases q:k=j
 .subst q;exact⟨V',by rw[show({ p with s:=zh p.s k s' }:PW).s k=s' from zf _ _ _];exact a⟩
 rw[show({ p with s:=zh p.s j s' }:PW).s k=p.s k from zl _ _ q];exact D k n I
def DS.qI{p':PW}(h:DS w0 tag b first p W)(L:Dx tag 1 W (λq=>q=G6 b first p' p'.n p'.n) W')(g:p'.n=p.n/\p'.x=p.x/\p'.m=p.m/\p'.c=p.c/\p'.s=p.s):∃tag',DS w0 tag' b first p' W':=by
 obtain⟨n,_,rfl,a,e,m⟩:=L;obtain⟨A,q,u,y,z⟩:=g;have r:=h.r.lq lc rO e m;refine⟨n,a,r.env,λg=>qm<|r.top g,λj a=>?_,λj a=>r.nd j I,λj a=>?_,r.mod,r.t1,r.ox⟩
 .rw[q,y];exact r.cn j I
 rw[u,z];exact r.sd j I
variable{v:rU}
def DS.hd(h:DS w0 tag b first p W)(a:(Ls first p)[j]?=some v):W (b,j)=some v:=DM.cell (r:=1) (cs:=Ls first p) h.own rfl a
def DS.fz(h:DS w0 tag b first p W)(j:Nat):W.frozen? ⟨b,j,none⟩=false:=DM.fz (r:=1) (cs:=Ls first p) h.own rfl j
def DS.rows(h:DS w0 tag b first p W)(y:j<p.n):(∃g a,p.xv=.slice (some ⟨g,0,none⟩) p.n a/\p.n<=a/\a<=maxLen/\W ⟨g,j,none⟩=some (zq (p.x j)))/\∃g a,p.mv=.slice (some ⟨g,0,none⟩) p.n a/\p.n<=a/\a<=maxLen/\W ⟨g,j,none⟩=some (zq (p.m j)):=by
 obtain⟨m,_⟩:=h.own.row (r:=2) rfl;obtain⟨n,_⟩:=h.own.row (r:=3) rfl;obtain⟨g,a,e,A,B⟩:=JA m I;obtain⟨C,h,z,q,u⟩:=JA n I;rw[e]at m;rw[z]at n;exact⟨⟨g,a,e,A,B,(Gd m<|by simp[y]).1⟩,⟨C,h,z,q,u,(Gd n<|by simp[y]).1⟩⟩
end
structure PW.Ok(T:Nat)(p:PW):Prop where
 n:p.n<=T
 both:∀j,j<p.n->DZ T (p.c j) (p.s j)
 kl:∀l∈p.kept,l.length<=400
 kn:p.kept.length<=32*T
def PW.two(p:PW)(j:Nat)(c:CS)(s:SS):PW:={ p with c:=zh p.c j c,s:=zh p.s j s }
def PW.Ok.mono{T':Nat}{p:PW}(h:p.Ok T)(a:T<=T'):p.Ok T':=⟨AR h.n a,λj e=>(h.both j e).mono a,h.kl,qm h.kn⟩
def PW.Ok.two{T':Nat}{p:PW}(h:p.Ok T)(g:T<=T')(B:DZ T' c s):(p.two j c s).Ok T':=by
 have a:=h.mono g;refine⟨a.n,λk m=>?_,a.kl,a.kn⟩;show DZ T' (zh p.c j c k) (zh p.s j s k);by_cases e:k=j
 .subst e;rw[zf,zf];exact B
 rw[zl _ _ e,zl _ _ e];exact a.both k m
def GY(w0:rT)(b:Nat)(first:Bool)(T:Nat)(e:Ending)(W':rT):Prop:=e=.returned (.bool true)/\∃tag p,DS w0 tag b first p W'/\p.Ok T
def LK(w0:rT)(b:Nat)(first:Bool)(p:PW)(v:rU)(e:Ending)(W':rT):Prop:=e=.returned v/\∃tag,DS w0 tag b first p W'
section
variable {w0 W W':rT} {tag:qr} {p:PW} {b:Nat} {first:Bool} {j f:Nat} {az:Array rU} {v:rU}
variable{c':CS}
def DS.gives(h:DS w0 tag b first p W)(a:j<p.n)(k:rH f az W (EN tag (2*j+2) (p.x j) W v c')):rH f az W (LK w0 b first { p with c:=zh p.c j c' } v) :=
 k.mono λ_ _ ⟨e,L⟩=>⟨e,by obtain⟨t,l,_⟩:=h.conn a L;exact⟨t,l⟩⟩
def DS.oH{s':SS}(h:DS w0 tag b first { p with c:=zh p.c j c' } W)(a:j<p.n)(k:rH f az W (Ez tag (2*j+3) (p.m j) W v s')):rH f az W (LK w0 b first (p.two j c' s') v) :=
 k.mono λ_ _ ⟨e,L⟩=>⟨e,by obtain⟨t,l,_⟩:=h.side a L;exact⟨t,l⟩⟩
def Y1(h:DS w0 tag b first p W)(ok:p.Ok T)(g:j<p.n)(a:qq)(y:T+a.length+1<=DW):rH 22 #[zq (p.x j),zq (p.m j),.string (zy a)] W (GY w0 b first (T+a.length+1)):=by
 have B:=ok.both j g;obtain⟨C,D,E⟩:=B.kL y;have m:=y;unfold DW at m;obtain⟨V,G⟩:=h.r.cn j g;have z:=h.gives g (ja G (h.r.env.as I) a I (B.i.pj I) (λn K hd=>qm ((Mc (by omega) hd).2.1)));have e:∀W1 v,(∃t,DS w0 t b first { p with c:=zh p.c j ((p j).kL a).2 } W1)->BR W1 v a->rH 49 #[zq (p.m j),v] W1 (LK w0 b first (p.two j ((p j).kL a).2 ((p.s j).kL a).2)<|.tuple #[.int .i64 (((p j).kL a).1.1:Int),.int .i64 ((p j).kL a).1.2]):=λW1 v ⟨t,h1⟩ hb=>by
  obtain⟨M,K⟩:=h1.r.sd j g;have k:=ik K h1.r.env.ok I v a hb I E;unfold Np at k;rw[C]at k;exact h1.oH g k
 have HB:AA (∃q:PW,q=p.two j ((p j).kL a).2 ((p.s j).kL a).2/\q.Ok (T+a.length+1)):=zb ⟨_,rfl,ok.two I D⟩;obtain⟨n,g⟩:=nm<|(((p j).kL a).1.1:Int);obtain⟨q,n⟩:=nm<|((p j).kL a).1.2;rw[g,n]at z;simp only[g,n]at e;have q:=zb z;have L:=zb e;have A:a.length<=4611686018427387904:=I;unfold zq;clear h ok B C D E G z e g n y m;go_enter func22,ntmps22;go_wp2_with fail;refine q.z.mono ?_;rintro _ W1 ⟨rfl,h1⟩;obtain⟨n,W2,q,g,m,h⟩:=Ms W1 a A;have e:=L.z W2 (.slice W1 a.length n) (by obtain⟨t,h1⟩:=h1;exact⟨t,h1.kI m⟩) g;have a:=zb e;clear h1 g m h e;go_wp2_with fail;refine a.z.mono ?_;rintro _ a ⟨rfl,u⟩;have a:=zb u;clear u;go_wp2;go_ret;obtain⟨t,u⟩:=a.z;obtain⟨_,rfl,ok⟩:=HB.z;exact⟨rfl,t,_,u,ok⟩
end
section
variable {w0 W:rT} {tag:qr} {p:PW} {b:Nat} {first:Bool} {j T:Nat} {o:EF}
structure Fm(w0:rT)(b:Nat)(first:Bool)(T g:Nat)(f f':Nat)(ax am:Array rU)(v:rU)(W:rT):Prop where
 one:rH f ax W (λe W1=>e=.returned v/\(∀k u,W ⟨g,k,none⟩=some u->W1 ⟨g,k,none⟩=some u)/\AA (∀W2,C9 DA W1 W2->rH f' am W2 λe W'=>e=.returned v/\AA (∃tag p,DS w0 tag b first p W'/\p.Ok T)))
variable{c':CS}{g:Nat}{v:rU}
def Fm.of{T':Nat}(h:DS w0 tag b first p W)(y:tag g=(0,0))(ok:p.Ok T)(n:j<p.n)(z:T<=T'){s':SS}{f f':Nat}{e m:Array rU}(B:DZ T' c' s')
  (q:∀V,zn tag (2*j+2) (p.x j) (p j) V W->rH f e W (EN tag (2*j+2) (p.x j) W v c'))
  (A:∀tag V W,zj tag (2*j+3) (p.m j) (p.s j) V W->zL tag W->rH f' m W (Ez tag (2*j+3) (p.m j) W v s')):Fm w0 b first T' g f f' e m v W:=by
 obtain⟨V,e⟩:=h.r.cn j n;refine⟨(q V e).mono ?_⟩;rintro e W1 ⟨q,L⟩;obtain⟨C,D,_⟩:=h.conn n L;obtain⟨_,_,_,_,m⟩:=L;refine⟨q,λk u h=>m.cell (a:=⟨g,k,none⟩) (λx=>by have x:(tag g).1=2*j+2:=x;rw[y]at x;simp at x) h,zb λW2 g=>?_⟩;have a:=D.kI g;obtain⟨g,h⟩:=a.r.sd j n;refine(a.oH n<|A C g W2 h a.r.env.ok).mono ?_;rintro e g ⟨q,a,e⟩;exact⟨q,zb ⟨a,_,e,ok.two z B⟩⟩
def DZ.pD(h:DZ T c s)(e:T<=DW)(k a:Int):(c.read k a).1.1.length<=1099511627776:=by
 unfold DW at e;unfold CS.read;by_cases a:c.stream k=0
 .have r:=h.i.rs _<|OS a;have:=r.hg;have:=r.gr;have:=r.bl;rw[AH (qp a)];split
  .exact AK _
  refine AR (List.length_take_le' _ _) ?_;rw[Af];omega
 rw[AL a];exact AK _
theorem Yz(h:DS w0 tag b first p W)(ok:p.Ok T)(u:j<p.n)(g:o.kind=2\/o.kind=3\/o.kind=4\/o.kind=5\/o.kind=14\/o.kind=6\/o.kind=12\/o.kind=15)(hw:o.Wf)(hf:∃a c,o.fv=.slice a o.fs.length c)(hl:o.s.length<=1048576)(hT:T+1<=DW):rH 24 #[(b,0),.agg (ED o),zq (p.x j),zq (p.m j)] W (GY w0 b first (T+1)):=by
 obtain⟨W0,q⟩:=nm<|W.alloc<|.cells (ED o) 39;have m0:=AB q;have K:=AD q;have z:=h.kI m0;have B:=ok.both j u;have L:=λk g=>(B.i.ws k g).len
 have M:=λk g=>(B.od k g).1
 have N:=B.i.waits.2;have ab:(p.s j).waits.length<=16:=by rw[B.r.wt];exact N
 have O:(p.s j).kj<=65536:=by rw[B.r.cfg.1];exact AR B.i.kj.2 lc
 have R:=B.i.now;have ac:(p.s j).now<=T:=by rw[B.r.now];exact R
 have m:=h.r.env.ok _<|AI _;have X:=hT;unfold DW at X;have E:=z.r.env.as (I:0<2*j+2);obtain⟨a,Y⟩:∃a:Nat,IntKind.u64.wrap o.b=(a:Int):=⟨(IntKind.u64.wrap o.b).toNat,by rw[IntKind.wrap_u64];omega⟩;obtain⟨y,Z⟩:∃y:Nat,IntKind.u64.wrap o.c=(y:Int):=⟨(IntKind.u64.wrap o.c).toNat,by rw[IntKind.wrap_u64];omega⟩;have k2:∃v:Int,Fm w0 b first (T+1) W.heap.size 52 53 #[zq (p.x j),.int .i64 o.b,.string (zy o.s)] #[zq (p.m j),.int .i64 o.b,.string (zy o.s)] (.int .i64 v) W0 :=
  ⟨_,Fm.of z m ok u (Ar T) ((B.send o.b o.s).2.mono<|Ar T) (λV c=>eG c E o.b o.s I<|λk g=>qm<|L k g)<|λt V W' c n=>by rw[<-(B.send o.b o.s).1];exact eW c n o.b o.s I<|λk g=>qm<|M k g⟩
 have k3:∃v:Int,Fm w0 b first (T+1) W.heap.size 54 55 #[zq (p.x j),.int .i64 o.b] #[zq (p.m j),.int .i64 o.b] (.int .i64 v) W0 :=
  ⟨_,Fm.of z m ok u (Ar T) ((B.finish o.b).2.mono<|Ar T) (λV c=>iu c E o.b)<|λt V W' c n=>by rw[<-(B.finish o.b).1];exact ip c n o.b⟩
 have k4:∃v:Int,Fm w0 b first (T+1) W.heap.size 56 57 #[zq (p.x j),.int .i64 o.b,.int .i64 o.c] #[zq (p.m j),.int .i64 o.b,.int .i64 o.c] (.int .i64 v) W0 :=
  ⟨_,Fm.of z m ok u (Ar T) ((B.reset o.b o.c).2.mono<|Ar T) (λV c=>fB c E o.b o.c (λk g=>by have:=L k g;have:=(B.r.wk k g).2;unfold zG;omega))<|λt V W' c n=>by rw[<-(B.reset o.b o.c).1];exact gW c n o.b o.c<|λk g=>qm<|M k g⟩
 have k5:∃v:Int,Fm w0 b first (T+1) W.heap.size 58 59 #[zq (p.x j),.int .u64<|IntKind.u64.wrap o.b,.int .u64<|IntKind.u64.wrap o.c,.string (zy o.s)] #[zq (p.m j),.int .u64<|IntKind.u64.wrap o.b,.int .u64<|IntKind.u64.wrap o.c,.string (zy o.s)] (.int .i64 v) W0:=by
  rw[Y,Z];exact⟨_,Fm.of z m ok u (Ar T) ((B.kK a y o.s).2.mono<|Ar T) (λV c=>jj c E a y o.s (AR B.i.kj.2 lc) I I)<|λt V W' c n=>by rw[<-(B.kK a y o.s).1];exact jn c n I a y o.s I I O⟩
 have A:∃v:Int,Fm w0 b first (T+1) W.heap.size 60 61 #[zq (p.x j)] #[zq (p.m j)] (.int .i64 v) W0 :=
  ⟨_,Fm.of z m ok u (Ar T) (B.close.2.mono<|Ar T) (λV c=>gY c E)<|λt V W' c n=>by rw[<-B.close.1];exact gX c n⟩
 have k6:Fm w0 b first (T+1) W.heap.size 63 64 #[zq (p.x j)] #[zq (p.m j)] (.tuple #[]) W0 :=
  Fm.of z m ok u (Ar T) B.tick (λV c=>WU c E.ok E.pos (by unfold zG;omega) I (qm B.i.fl) B.i.mH.oV) (λt V W' c n=>eU c n I I I)
 have C:∃(l:qq) (st e:Int),Fm w0 b first (T+1) W.heap.size 65 66 #[zq (p.x j),.int .i64 o.b,.int .i64 o.c] #[zq (p.m j),.int .i64 o.b,.int .i64 o.c] (.tuple #[.string (zy l),[st],[e]]) W0 :=
  ⟨_,_,_,Fm.of z m ok u (Ar T) ((B.read o.b o.c).2.mono<|Ar T) (λV c=>dU c E o.b o.c hw.2.2.2.2.2.1 (B.i.nh I)<|B.pD I o.b o.c) (λt V W' c n=>by
   have k:=Yb c n I o.b o.c<|B.qV I;unfold JS at k;rw[(B.read o.b o.c).1]at k;exact k)⟩
 have D:∃v:Int,Fm w0 b first (T+1) W.heap.size 62 19 #[zq (p.x j)] #[zq (p.m j)] (.int .i64 v) W0 :=
  ⟨_,Fm.of z m ok u (Ar T) (B.mono<|Ar T) (λV c=>(X4 c E).mono λe W' x=>⟨x.1,(c.kI x.2).left E.ok<|x.2.mono rQ⟩) (λt V W' c n=>by
   rw[<-B.r.cl.1];refine(SU c).mono ?_;rintro e W1 ⟨he,rfl⟩;exact⟨he,c.left n rS⟩)⟩
 obtain⟨e,a,n,C⟩:=C;obtain⟨a,D⟩:=D;obtain⟨a,k2⟩:=k2;obtain⟨a,k3⟩:=k3;obtain⟨a,k4⟩:=k4;obtain⟨a,k5⟩:=k5;obtain⟨a,A⟩:=A;have K2:=λ_:o.kind=2=>k2
 have K3:=λ_:o.kind=3=>k3
 have K4:=λ_:o.kind=4=>k4
 have K5:=λ_:o.kind=5=>k5
 have K6:=λ_:o.kind=6=>k6
 have e:=λ_:o.kind=12=>C
 have n:=λ_:o.kind=15=>D
 have y:=λ_:o.kind=14=>A
 obtain⟨fa,fc,a⟩:=hf;unfold ED at K q;unfold ED;rw[a]at K q;rw[a];have y2:W0 (W,2)=some (.int .i64 o.b):=za K rfl;have y3:W0 (W,3)=some (.int .i64 o.c):=za K rfl;have y4:W0 (W,4)=some (.string<|zy o.s):=za K rfl;have y0:W0 W=some (.int .i64 o.kind):=za K rfl;have HO:=zb K;have aa:=zb q;clear h m0 K z B L M N ab O R ac X E Y Z k2 k3 k4 k5 A k6 C D hw a q ok hl hT u m;unfold zq at *;rcases g with g|g|g|g|g|g|g|g;all_goals
  first
   | have G:=K2 g
   | have G:=K3 g
   | have G:=K4 g
   | have G:=K5 g
   | have G:=K6 g
   | have G:=y g
   | have G:=e g
   | have G:=n g
  rw[g]at y0 aa;rw[g];clear g K2 K3 K4 K5 K6 y e n;go_enter func24,ntmps24;go_wp2_with fail;rw[aa.z];go_wp2_with fail;refine G.one.mono ?_;rintro _ W1 ⟨rfl,g,H⟩;have a:=g 2 _ y2;have a:=g 3 _ y3;have a:=g 4 _ y4;have a:=zb<|H.z W1 rS;clear g H G y0 y2 y3 y4;go_wp2_with fail;refine a.z.mono ?_;rintro _ W2 ⟨rfl,H2⟩;go_wp2;go_ret;exact⟨rfl,H2.z⟩
end
section
variable {w0 W W':rT} {tag tag':qr} {p:PW} {b i:Nat} {first:Bool} {j T:Nat} {o:EF}
def zn.oi(h:zn tag i b c V W)(n:c.kG=[])(e:∀g r,r≠8->tag g=(i,r)->tag' g=(i,r)):zn tag' i b c V W :=
 {h with
  tb:=e _ _ lc h.tb
  tg:=e _ _ lc h.tg
  nW:=λg a=>e _ _ lc<|h.nW g a
  nK:=λk m g a=>e _ _ I<|h.nK k m g a
  nC:=λk m g a=>e _ _ I<|h.nC k m g a
  nJ:=λk m g a=>e _ _ I<|h.nJ k m g a
  nV:=λk m g a=>e _ _ I<|h.nV k m g a
  nU:=λk m g a=>e _ _ I<|h.nU k m g a
  fs:=λp m=>(h.fs p m).mod (C9.refl DA W) rQ<|λg a=>e _ _ lc a
  nF:=λg a=>e _ _ lc<|h.nF g a
  nE:=λg a=>e _ _ lc<|h.nE g a
  nT:=e _ _ lc h.nT
  nN:=λg a=>by rw[h.ou n]at a;cases a }
def Kj(i:Nat)(tag:qr):Nat->Nat×Nat:=λg=>if tag g=(i,8)then(0,0)else tag g
def DS.oi(h:DS w0 tag b first p W)(z:j<p.n)(y:(p j).kG=[]):DS w0 (Kj (2*j+2) tag) b first p W:=by
 have n:∀{q:Nat},q≠2*j+2->∀g,(tag g).1=q->Kj (2*j+2) tag g=tag g:=λz g a=>AH<|λx=>z<|by rw[<-a,x]
 have z:∀g,tag g=(0,0)->Kj (2*j+2) tag g=(0,0):=λg a=>by rw[n (q:=0) I g (by rw[a]),a]
 have e:∀g,Kj (2*j+2) tag g=(0,0)\/Kj (2*j+2) tag g=tag g:=λg=>by
  unfold Kj;split
  .exact .inl rfl
  exact .inr rfl
 refine⟨h.own.mod (C9.refl DA W) rQ<|n I,⟨λg a=>z g<|h.r.env.ok g a,h.r.env.pos,h.r.env.err,h.r.env.tab,z 0 h.r.env.g0,z 1 h.r.env.g1⟩,λg=>?_,λk m=>?_,λk m g r u x=>?_,λk m=>(h.r.sd k m).imp λV c=>DM.mod c (C9.refl DA W) rQ<|n I,h.r.mod,λg a=>h.r.t1 g<|λx=>a<|z g x,h.r.ox⟩
 .rcases e g with x|x
  .rw[x];exact AK _
  rw[x];exact h.r.top g
 .obtain⟨V,c⟩:=h.r.cn k m;by_cases q:k=j
  .subst q;exact⟨V,c.oi y<|λg r u a=>(AH<|λx=>u<|by rw[a]at x;simpa using x).trans a⟩
  exact⟨V,c.mod (C9.refl DA W) rQ<|n I⟩
 rcases e g with y|y
 .rw[y]at x;have:=Ax Prod.fst x;simp only at this;omega
 rw[y]at x;exact h.r.nd k m g r u x
structure LP(w0:rT)(b:Nat)(first:Bool)(T:Nat)(l:List (Nat×qq))(v v':rU)(W:rT):Prop where
 law:∃tag p,DS w0 tag b first p W/\p.Ok T/\∀g,v.ownBlock=some g->tag g=(0,0)/\w0.heap.size<=g
 own:W.ownsRow 0 134 2 v l.length (zZ l)
 qJ:W.ownsRow 0 134 2 v' l.length (zZ l)
 apart:∀g,v.ownBlock=some g->¬v'.ownBlock=some g
 nil:l=[]->v=.slice none 0 0
def DS.kG(h:DS w0 tag b first p W)(ok:p.Ok T)(q:j<p.n):rH 67 #[zq (p.x j)] W (λe W1=>∃v,e=.returned v/\(∃a c,v=.slice a (p j).kG.length c)/\AA (∀W2,C9 DA W1 W2->rH 68 #[zq (p.m j)] W2 λe W'=>∃a,e=.returned a/\AA (LP w0 b first T (p j).kG v a W'))):=by
 have B:=ok.both j q;obtain⟨V,z⟩:=h.r.cn j q;refine(dW z).mono ?_;rintro e W1 ⟨rfl,v,V',L,G,M,A,_,m⟩;cases L;have L:Dv tag (2*j+2) (p.x j) W (p j).kW.2 W1:=⟨tag,V',A,DK.same h.r.env.ok m,z.ni m⟩;obtain⟨a,m,A⟩:=h.conn q L;have L:=m.oi (j:=j) q (by rw[show({ p with c:=zh p.c j (p j).kW.2 }:PW).c j=(p j).kW.2 from zf _ _ _];rfl);have u:∀g,V.cm.ownBlock=some g->Kj (2*j+2) a g=(0,0)/\w0.heap.size<=g/\g<W1.heap.size:=λg n=>by
  have x:=M g n;have lt:=Ds h.r.env.ok x I;refine⟨AL<|by rw[A g lt,x],h.r.t1 g<|by rw[x];simp,zI G g n⟩
 obtain⟨a,h,m,_⟩:=zi z.cm;refine⟨V.cm,rfl,⟨a,h,m⟩,zb λW2 C=>?_⟩;have D:=L.kI C;obtain⟨N,a⟩:=D.r.sd j q;refine(fQ a D.r.env.ok).mono ?_;rintro e a ⟨rfl,K,y,E⟩;obtain⟨a,h,m⟩:=D.side q K;obtain⟨_,_,_,_,_,q⟩:=K;have A:∀g,V.cm.ownBlock=some g->¬N.kG.ownBlock=some g:=λg n x=>by
  have:=E g x;rw[(u g n).1]at this;simp at this
 refine⟨_,rfl,zb ⟨⟨a,_,h,ok.two (AI T) B.oh,λg n=>⟨?_,(u g n).2.1⟩⟩,q.owns (C.owns G<|λ_ _ x=>x)<|λg n x=>?_,?_,A,z.ou⟩⟩
 .rw[m g (Au (u g n).2.2 C.size)];exact(u g n).1
 .have x:=x;rw[(u g n).1]at x;simp at x
 have e:=B.r.cm;have:=y;rw[show({ p with c:=zh p.c j (p j).kW.2 }:PW).s j=p.s j from rfl,e]at this;exact this
end
variable{N cap e g sz:Nat}{w:rT}{xs:qt}
def XP(v:rU)(h:w.ownsRow 0 e sz (.slice g N cap) N xs):(w.setCell (g,i) v).ownsRow 0 e sz (.slice g N cap) N (xs.set i v):=by
 have m:=h.1;rcases h.2 with⟨e,_⟩|⟨A,a,h,e,_,n,q,u,y,z⟩
 .cases e
 cases e;refine⟨by rw[BL];exact m,.inr ⟨g,cap,_,rfl,AK _,zc n,q,u,by simp[y],?_⟩⟩;rw[<-z];simp[Cn]
theorem XO(l:List (Nat×qq))(k:Nat)(x:Nat×qq)(h:l[k]?=some x):(zZ l)[k*2]?=some (.int .u64 x.1)/\(zZ l)[k*2+1]?=some (.string (zy x.2)):=by
 induction l generalizing k with
 | nil=>cases h
 | cons y l ih =>
  have e:zZ (y::l)=.int .u64 y.1 :: .string (zy y.2)::zZ l:=rfl;rw[e];cases k with
  | zero=>cases h;exact rM
  | succ k =>
   have:=ih k<|qp h;rw[(I:(k+1)*2=k*2+1+1)];exact this
section
variable {w0 W:rT} {tag:qr} {p:PW} {b:Nat} {first:Bool} {j T:Nat} {o:EF}
def eB(h:DS w0 tag b first p W)(ok:p.Ok T)(Z:j<p.n)(X:o.kind=13)(D:∃a c,o.fv=.slice a o.fs.length c)(hT:T<=DW):rH 24 #[(b,0),.agg (ED o),zq (p.x j),zq (p.m j)] W (GY w0 b first T):=by
 obtain⟨W0,m⟩:=nm<|W.alloc<|.cells (ED o) 39;have m0:=AB m;have Y:=AD m;have kc:=(h.kI m0).kG ok Z;have C:(p j).kG.length<=1099511627776:=by
  have:=(ok.both j Z).i.cl;unfold DW at hT;omega
 obtain⟨l,hl⟩:=nm<|(p j).kG;rw[hl]at kc C;obtain⟨fa,fc,A⟩:=D;unfold ED at Y m;unfold ED;rw[A]at Y m;rw[A];have y0:W0 W=some (.int .i64 o.kind):=za Y rfl;have D:=zb m;have KC:=zb kc;rw[X]at y0 D;rw[X];clear h m0 Y A m ok hT Z X kc hl;unfold zq at *;obtain⟨N,h⟩:=nm l.length;rw[h]at C KC;have B:=zb h;clear h;go_enter func24,ntmps24;go_wp2_with fail;rw[D.z];go_wp2_with fail;refine KC.z.mono ?_;rintro _ W1 ⟨v,rfl,⟨a,c,rfl⟩,H1⟩;have K1:=zb<|H1.z W1 rS;clear H1 KC;go_wp2_with fail;refine K1.z.mono ?_;rintro _ W2 ⟨h,rfl,z⟩;clear K1;obtain⟨a',c',rfl,q1,q2,q3⟩:=zi z.z.qJ;have E:=zi z.z.own;rw[B.z]at E q1 q3;rw[B.z];obtain⟨_,_,e,h,p2,E⟩:=E;cases e;unfold maxLen at p2 q2;have u:AA (∀wr,C9 (λg=>(Value.slice a N c).ownBlock=some g) W2 wr->∃tag p,DS w0 tag b first p wr/\p.Ok T):=zb λwr m=>by
  obtain⟨t,p',h,A,C⟩:=z.z.law;exact⟨t,p',h.free m<|λg h=>C g h,A⟩
 have HA:AA (∀g G,a=some ⟨g,0,none⟩->a'=some ⟨G,0,none⟩->¬G=g):=zb λg G e e' x=>by
  subst e;subst e';refine z.z.apart g rfl ?_;rw[x];rfl
 have O1:AA (W2.ownsRow 0 134 2 (.slice a N c) N<|zZ l):=by have:=z.z.own;rw[B.z]at this;exact zb this
 have O2:AA (W2.ownsRow 0 134 2 (.slice a' N c') N<|zZ l):=by have:=z.z.qJ;rw[B.z]at this;exact zb this
 have n:=z.z.nil;by_cases h0:N=0
 .have aa:=n<|List.length_eq_zero_iff.1<|B.z.trans h0;cases aa;have HF:=zb<|u.z W2 rS;clear n u HA O1 O2 z B h0;go_wp2_with fail
  go_loopw [29] (λK wr=>K=.int .i64 0/\wr=W2) (λ_ _=>0)
  case atStart=>exact rM
  case round =>
   obtain⟨rfl,rfl⟩:=hrel;go_wp2;go_ret;exact⟨rfl,HF.z⟩
 obtain⟨g,rfl⟩:=E I;obtain⟨G,rfl⟩:=q3 I;have ab:=HA.z g G rfl rfl;clear n HA E q3 z;go_wp2_with fail
 go_loopw [29] (λK wr=>∃(k:Nat) (L:qt),k<=N/\K=.int .i64 k/\AA (C9 (λq=>(Value.slice g N c).ownBlock=some q) W2 wr/\wr.ownsRow 0 134 2 (.slice g N c) N L/\∀q,2*k<=q->L[q]?=(zZ l)[q]?)) (λK _=>N-(intOf K).toNat)
 case atStart=>exact⟨0,zZ l,AK _,rfl,zb ⟨C9.refl _ _,O1.z,λ_ _=>rfl⟩⟩
 case round =>
  obtain⟨k,L,X,rfl,HK⟩:=hrel;obtain⟨M,O,R⟩:=HK.z;by_cases a:k<N
  .obtain⟨x,hx⟩:∃x,l[k]?=some x:=⟨l[k]'(by rw[B.z];exact a),AG _⟩;obtain⟨m1,m2⟩:=XO l k x hx;obtain⟨e,a⟩:=I9 O (by rw[R (k*2) I];exact m1);obtain⟨e,a⟩:=I9 O (by rw[R (k*2+1) I];exact m2);have O3:=M.owns O2.z (λq hq y=>by cases hq;cases y;exact ab rfl);obtain⟨a,_⟩:=I9 O3 m1;obtain⟨a,_⟩:=I9 O3 m2;have a:AA (∀n,C9 (λq=>(Value.slice g N c).ownBlock=some q) W2 ((wr.drewN n).setCell (g,k*2+1)<|.string ⟨#[109,105,110,101]⟩)/\((wr.drewN n).setCell (g,k*2+1)<|.string ⟨#[109,105,110,101]⟩).ownsRow 0 134 2 (.slice g N c) N (L.set (k*2+1)<|.string ⟨#[109,105,110,101]⟩)/\∀q,2*(k+1)<=q->(L.set (k*2+1)<|.string ⟨#[109,105,110,101]⟩)[q]?=(zZ l)[q]?) :=
    zb λn=>⟨(M.drewN n).setCell (p:=(g,k*2+1)) rO _,XP _<|((C9.refl DA wr).drewN n).owns O<|λ_ _ x=>x,λq hq=>by rw[List.getElem?_set_ne I];exact R q I⟩
   clear M O R m1 m2 O3 hx HK;go_wp2;go_quiet (fail);go_wp2;go_roundw
   case rel=>exact⟨k+1,_,I,by go_num,zb<|a.z _⟩
   simp[intOf];omega
  have HF:=zb<|u.z wr M;clear M O R HK;go_wp2;go_ret;exact⟨rfl,HF.z⟩
end
section
variable {w0 W:rT} {tag:qr} {p:PW} {b:Nat} {first:Bool} {T T':Nat} {o:EF}
variable{W':rT}
def GY.mono{e:Ending}(h:GY w0 b first T e W')(a:T<=T'):GY w0 b first T' e W':=by
 obtain⟨e,t,p,g,m⟩:=h;exact⟨e,t,p,g,m.mono a⟩
def Yy(h:DS w0 tag b first p W)(ok:p.Ok T)(g:j<p.n)(e:(o.kind=2\/o.kind=3\/o.kind=4\/o.kind=5\/o.kind=14\/o.kind=6\/o.kind=12\/o.kind=15)\/o.kind=13)(n:o.Wf)(m:∃a c,o.fv=.slice a o.fs.length c)(q:o.s.length<=1048576)(u:T+1<=DW):rH 24 #[(b,0),.agg (ED o),zq (p.x j),zq (p.m j)] W (GY w0 b first (T+1)):=by
 rcases e with e|e
 .exact Yz h ok g e n m q u
 exact(eB h ok g e m I).mono λ_ _ x=>x.mono<|Ar T
def PL(W:rT)(o:EF):∃W0,W.alloc (.cells (ED o) 39)=W0/\C9 DA W W0/\W0.heap[W.heap.size]?=some (.cells (ED o) 39 (0,0)):=⟨_,rfl,rS.alloc _,heap_alloc_new W _⟩
def Yx(h:DS w0 tag b first p W)(ok:p.Ok T)(m:p.n=0)(E:o.kind≠1/\o.kind≠16/\o.kind≠17/\o.kind≠18/\o.kind≠19/\o.kind≠20/\o.kind≠21):rH 9 #[(b,0),.agg (ED o)] W (GY w0 b first T):=by
 obtain⟨W0,e,g,n⟩:=PL W o;have a:W0 W=some (.int .i64 o.kind):=za n rfl;obtain⟨a,c,q,_⟩:=zi (h.own.row (r:=2) rfl).1;have a:W0 b=some p.xv:=(h.kI g).hd (j:=0) rfl;rw[q,m]at a;have G:AA (GY w0 b first T (.returned<|.bool true) W0):=zb ⟨rfl,tag,p,h.kI g,ok⟩;obtain⟨u,y,z,A,B,C,D⟩:=E;have b1:=AM.2 u;have a:=AM.2 y;have a:=AM.2 z;have a:=AM.2 A;have a:=AM.2 B;have a:=AM.2 C;have a:=AM.2 D;have a:=zb e;clear h ok m u y z A B C D g n e q;go_enter func9,ntmps9;go_upto_region 1 with fail;rw[a.z];go_wp2;go_ret;exact⟨rfl,G.z.2⟩
def PJ(w0:rT)(b:Nat)(first:Bool)(T:Nat)(v:rU)(W:rT):Prop :=
 ∃tag p a,DS w0 tag b first p W/\PW.Ok T { p with kept:=p.kept++a }/\W.ownsRow 0 9 1 v a.length (EH a)/\p.kept.length+a.length<=1099511627776
def DS.z(h:DS w0 tag b first p W)(ok:p.Ok T)(q:j<p.n)(C:T+1<=DW):rH 20 #[zq (p.x j)] W (λe W1=>∃a n m,e=.returned (.slice a n m)/\AA (∀W2,C9 DA W1 W2->rH 21 #[zq (p.m j),.slice a n m] W2 λe z=>e=.returned (.bool true)/\AA (PJ w0 b first (T+1) (.slice a n m) z))):=by
 have B:=ok.both j q;obtain⟨V,n⟩:=h.r.cn j q;obtain⟨s',so,D,M,E⟩:=B.z I;refine(XT n (h.r.env.as I) (h.r.nd j q) B I).mono ?_;rintro e W1 ⟨v,n,M,rfl,c1,A,G,K,y,fr⟩;have n:=G.mono<|λg u=>.inl u.1;have L:=h.pU q c1 A n K;obtain⟨a,m,rfl,_⟩:=zi y;refine⟨a,_,m,rfl,zb λW2 A=>?_⟩;have n:=L.kI A;have h:=A.owns y<|λ_ _ x=>x;obtain⟨y,A⟩:=n.r.sd j q;have y:=C;unfold DW at y;have y:=B.cb;have y:=B.i.next;have y:=B.n;refine(gJ A n.r.env.ok I a m _ h (λg u=>by rw[(fr g u).2];simp) so (B.bd I) (by rw[show({ p with c:=zh p.c j (p j).z.2 }:PW).s j=p.s j from rfl,B.r.cfg.1];exact AR B.i.kj.2 lc) (by show(p.s j).kH<=_;omega) (by show(p.s j).closed<=_;omega) (λm a=>by have:m.due.length<=(p.s j).due.length:=(Oe _ _ _ a).1;have:=B.r.dl;show m.due.length<=_;omega)).mono ?_;rintro e z ⟨e,L⟩;obtain⟨y,z,_⟩:=n.side q L;obtain⟨_,_,_,_,_,n⟩:=L;have m:=ok.two (j:=j) (Ar T) D;have q:=ok.kn;refine⟨e,zb ⟨y,_,_,z,⟨m.n,m.both,λl a=>?_,?_⟩,n.owns h<|λg u x=>?_,?_⟩⟩
 .rcases Ap.1 a with y|y
  .exact ok.kl l y
  exact E l y
 .show(p.kept++_).length<=_;rw[AF];omega
 .have x:=x;rw[(fr g u).2]at x;simp at x
 show p.kept.length+_<=_;omega
variable{v:rU}
def PJ.kD(h:PJ w0 b first T v W):∃B Y C e W',W (b,2)=some (.slice B Y C)/\(∀z,(Builtin.append_ #[29,29] z #[.slice B Y C,v]).run prog W=.ok e W')/\W'.frozen? ⟨b,2,none⟩=false/\(∃x,W'.cell? (b,2)=some x)/\(∃a n c,e=.slice a n c)/\∃tag p,DS w0 tag b first p (W'.setCell (b,2) e)/\p.Ok T:=by
 obtain⟨tag,p,m,A,y,L,a⟩:=h;obtain⟨D,Z⟩:=A.own.row (r:=4) rfl;obtain⟨i,q,hz,u,M⟩:=info_parts To;have app:∃e W1,(∀z,(Builtin.append_ #[29,29] z #[p.kv,v]).run prog W=.ok e W1)/\W1.ownsRow 0 9 1 e (p.kept++m).length (EH<|p.kept++m)/\C9 (λg=>p.kv.ownBlock=some g) W W1/\Dh W p.kv e:=by
  have a:EH (p.kept++m)=EH p.kept++EH m:=by simp[EH]
  rw[a,AF];rcases id L.2 with⟨rfl,hn⟩|⟨g,N,a,rfl,_⟩
  .have e0:m=[]:=by
    have:=L.1;rw[hn]at this;simpa [EH]using this
   subst e0;refine⟨p.kv,W,λz=>run_append_owned_none W 0 29 z 9 i 1 underlying29 q _ _ _ D,?_,C9.refl _ _,λg O=>.inl O⟩;simpa [EH]using D
  obtain⟨e,W1,R,E,G,X⟩:=zY (P:=prog) W 29 9 i _ 1 16 underlying29 q hz u M rfl lc p.kv p.kept.length (EH p.kept) D ⟨g,0,none⟩ m.length N (EH m) (by simp[EH]) (λj u K=>L.cells (g:=g) rfl j u K) (λu K=>by
   simp[EH]at K;obtain⟨l,_,rfl⟩:=K;rfl) pi I
  exact⟨e,W1,R,E,rS.grown G<|λg O=>.inl O,X⟩
 obtain⟨e,W1,R,E,G,X⟩:=app;have L:=DM.mz (j:=2) (p':=G6 b first { p with kept:=p.kept++m,kv:=e } p.n p.n) A.own A.r.env.ok lc (r:=4) lc rfl Z E G X rfl rfl (λq a=>by
  unfold G6;split<;>first|rfl|exact absurd rO a|exact absurd (.inr rfl) a)
 obtain⟨h,n⟩:=A.qI (p':={ p with kept:=p.kept++m,kv:=e }) L ⟨rfl,rfl,rfl,rfl,rfl⟩;obtain⟨g,tb⟩:=A.own.kr (r:=1) rfl;have a:=G.obj (λx=>by
  have:=Z b x;rw[tb]at this;simp at this) g
 obtain⟨B,C,g,_⟩:=zi D;obtain⟨m,q,u,_⟩:=zi E;refine⟨B,_,C,e,W1,by rw[<-g];exact A.hd (j:=2) rfl,λz=>by rw[<-g];exact R z,zd a,⟨_,za a rfl⟩,⟨m,_,q,u⟩,h,_,n,⟨y.n,y.both,y.kl,y.kn⟩⟩
end
def Eh(o:EF):Nat:=402+o.s.length+64*FO o.fs
section
variable {w0 W:rT} {tag:qr} {p:PW} {b:Nat} {first:Bool} {T:Nat} {o:EF}
def XN(h:DS w0 tag b first p W)(ok:p.Ok T)(hi:i<p.n)(a:qq)(e:a.length+1<=Eh o)(g:T+Eh o<=DW):rH 22 #[zq (p.x i),zq (p.m i),.string (zy a)] W (GY w0 b first (T+Eh o)):=(Y1 h ok hi a I).mono λ_ _ x=>x.mono I
theorem Yw(h:DS w0 tag b first p W)(ok:p.Ok T)(g:0<p.n)(u:((o.kind=2\/o.kind=3\/o.kind=4\/o.kind=5\/o.kind=14\/o.kind=6\/o.kind=12\/o.kind=15)\/o.kind=13)\/o.kind=7\/o.kind=8\/o.kind=9\/o.kind=10\/o.kind=11)(C:o.Wf)(hf:FE W o.fv o.fs)(hl:o.s.length<=1048576)(hb:FO o.fs<=1048576)(hT:T+Eh o<=DW):rH 9 #[(b,0),.agg (ED o)] W (GY w0 b first (T+Eh o)):=by
 obtain⟨W0,D,m0,oX⟩:=PL W o;have ah:=hT;unfold DW at ah;have m:402+o.s.length<=Eh o:=CA _ _;have E:p.n<=268435455:=qm ok.n;have Z:=λwx=>TN o.a p.n wx C.1 C.2.1 g I
 have hi:=Sn o.a p.n g;obtain⟨i,aa⟩:=nm<|Eu o.a p.n;rw[aa]at hi;simp only[aa]at Z;have KP:=zb Z;obtain⟨W1,ab⟩:=nm W0.drew;have m1:C9 DA W0 W1:=by rw[<-ab];exact rS.drew
 have h0:=h.kI m0;have h1:=h0.kI m1;obtain⟨⟨g,c,hx,aB,E,am⟩,⟨g',c',hm,aC,an,ao⟩⟩:=h1.rows hi;have x0:W0 b=some p.xv:=h0.hd (j:=0) rfl;have g:W1 b=some p.xv:=h1.hd (j:=0) rfl;have u1:W1 (b,1)=some p.mv:=h1.hd (j:=1) rfl;have u5:W1 (b,5)=some (.bool first):=h1.hd (j:=5) rfl;rw[hx]at x0 g;rw[hm]at u1;unfold maxLen at E an;have HF:=zb<|(hf.kI m0).kI m1;obtain⟨fa,fc,E,_⟩:=id hf;have G:=zb h1;have R:=zb ok;have HI:=zb hi;have HT:=zb hT;have HW:=zb C;have ac:=zb E;have HB:=zb hb;have HC:=zb m;have ai:=zb hl;have g:=m1.obj rP oX;have HO:=zb g;unfold ED at oX g D;unfold ED;rw[E]at oX g D;rw[E];have z0:W0 W=some (.int .i64 o.kind):=za oX rfl;have z1:W0 (W,1)=some (.int .i64 o.a):=za oX rfl;have y0:W1 W=some (.int .i64 o.kind):=za g rfl;have y1:W1 (W,1)=some (.int .i64 o.a):=za g rfl;have y2:W1 (W,2)=some (.int .i64 o.b):=za g rfl;have y3:W1 (W,3)=some (.int .i64 o.c):=za g rfl;have y4:W1 (W,4)=some (.string<|zy o.s):=za g rfl;have y5:W1 (W,5)=some (.int .u64 o.n):=za g rfl;have y6:W1 (W,6)=some (.slice fa o.fs.length fc):=za g rfl;have n:∀z:Int,(z=1\/z=16\/z=17\/z=18\/z=19\/z=20\/z=21)->(o.kind==z)=false:=λz hz=>AM.2 I
 have b1:=n 1 lc;have ap:=n 16 lc;have aq:=n 17 lc;have ar:=n 18 lc;have au:=n 19 lc;have av:=n 20 lc;have aw:=n 21 lc;have ax:=zb D;have ad:=zb ab;have aD:((p.n:Int)==0)=false:=AM.2 I;unfold zq at am ao;clear h ok C E m0 m1 oX g D ab hl hT ah Z aa h0 h1 hx hm n hf hb m;go_enter func9,ntmps9;go_upto_region 1 with fail;rw[ax.z];go_upto_region 26 with fail;refine zr 9 (λw'=>w'=W1) (ad.z) ?_;refine GI 0 ?_;iterate 7
  refine GV rfl ?_;try simp only[PS]
 refine zD 7 rfl (λK hK=>?_);go_simp;go_simp
 with_reducible refine(KP.z _).mono ?_
 rintro e w' ⟨rfl,C⟩;replace C:=C.symm;subst C;go_simp;refine hK.z _ _ ad.z ?_;clear hK K;try simp only[PS]
 refine GI 8 ?_;refine GV rfl ?_;try simp only[PS]
 refine zt ?_;clear b1 ap aq ar au av aw x0 z0 z1 KP;rw[ad.z];go_upto_region 30 with fail;have A:AA (∀g W',C9 DA W1 W'->g.length+1<=Eh o->rH 22 #[(p.x i,0),(p.m i,0),.string (zy g)] W' (GY w0 b first<|T+Eh o)):=zb λg W' m h=>XN (G.z.kI m) R.z HI.z g h HT.z
 rcases u with u|u|u|u|u|u
 .have L:=λW2 (m:C9 DA W1 W2)=>Yy (o:=o) (G.z.kI m) R.z HI.z u HW.z ⟨fa,fc,ac.z⟩ ai.z<|qn HC.z HT.z
  unfold ED zq at L;rw[ac.z]at L;have M:=zb L;have n:∀z:Int,(z=7\/z=8\/z=9\/z=10\/z=11)->(o.kind==z)=false:=λz hz=>AM.2 I
  have g:=n 7 lc;have g:=n 8 lc;have g:=n 9 lc;have g:=n 10 lc;have g:=n 11 lc;clear n u L;go_wp2_with fail;refine(M.z _ rS).mono ?_;rintro _ W2 ⟨rfl,t,p',h2,aj⟩;have B:AA (∃tag p,DS w0 tag b first p W2/\p.Ok (T+Eh o)):=zb ⟨t,p',h2,aj.mono<|qm HC.z⟩;clear h2 aj;go_wp2;go_ret;exact⟨rfl,B.z⟩
 .rw[u]at y0;rw[u];obtain⟨V,m⟩:=G.z.r.sd i HI.z;have ke:=SU m;obtain⟨cl,g⟩:=nm<|((p.s i).closed:Int);rw[g]at ke;have KE:=zb ke;have h:=G.z.z R.z HI.z<|qn HC.z HT.z;unfold zq at KE h;have KO:=zb h;have ae:AA (∃tag p,DS w0 tag b first p W1/\p.Ok (T+Eh o)):=zb ⟨tag,p,G.z,R.z.mono<|CA _ _⟩;have ay:AA (T+1<=T+Eh o):=zb<|qm HC.z;clear u m g ke h A;go_wp2_with fail;refine KE.z.mono ?_;rintro _ _ ⟨rfl,rfl⟩;by_cases hq:first=true/\cl≠0
  .obtain⟨rfl,O⟩:=hq;have g:=AM.2 O;have h:(cl != 0)=true:=by rw[bne,g];rfl
   clear O;go_wp2;go_ret;exact⟨rfl,ae.z⟩
  cases first;all_goals
   first
    | (have O:=Classical.byContradiction<|λx=>hq ⟨rfl,x⟩;subst O)
    | skip
   clear hq;go_wp2_with fail;refine KO.z.mono ?_;rintro _ W2 ⟨a,n,g,rfl,K2⟩;have K2:=zb<|K2.z W2 rS;go_wp2_with fail;refine K2.z.mono ?_;rintro _ W3 ⟨rfl,H3⟩;obtain⟨ka,g,L,h,W4,c2,DG,fz,⟨_,m⟩,⟨va,vn,vc,rfl⟩,H4⟩:=H3.z.kD;have H4:AA (∃tag p,DS w0 tag b _ p (W4.setCell (b,2)<|.slice va vn vc)/\p.Ok (T+Eh o)):=zb (by obtain⟨t,p',h,g⟩:=H4;exact⟨t,p',h,g.mono ay.z⟩);clear H3 K2;go_wp2_with (at_builtin;refine zm rfl _ _ _ _ rfl _ _ _ rfl rfl DG ?_);go_ret;exact⟨rfl,H4.z⟩
 .rw[u]at y0;rw[u];obtain⟨ow,_⟩:=G.z.own.row (r:=4) rfl;obtain⟨ka,L,af,g,h,k3⟩:=zi ow;have c2:W1 (b,2)=some p.kv:=G.z.hd (j:=2) rfl;rw[af]at c2 ow;have ae:AA (∃tag p,DS w0 tag b first p W1/\p.Ok (T+Eh o)):=zb ⟨tag,p,G.z,R.z.mono<|CA _ _⟩;obtain⟨N,hN⟩:=nm p.kept.length;rw[hN]at c2 ow g k3;have ak:N<=1099511627776:=by have:=R.z.kn;have:=HT.z;unfold DW at this;omega
  unfold maxLen at h;by_cases hz:N=0
  .subst hz;clear u ow af k3 hN ak A;go_wp2;go_ret;exact⟨rfl,ae.z⟩
  obtain⟨q,rfl⟩:=k3 I;have g:((N:Int)==0)=false:=AM.2 I;have Z:=λwx=>TN o.b N wx HW.z.2.2.1 HW.z.2.2.2.1 I I
  have h:=Sn o.b N I;obtain⟨r,g⟩:=nm<|Eu o.b N;rw[g]at h;simp only[g]at Z;have KP:=zb Z;obtain⟨l,h⟩:∃l,p.kept[r]?=some l:=⟨p.kept[r]' I,AG _⟩;obtain⟨W2,m⟩:=nm W1.drew;have X:C9 DA W1 W2:=by rw[<-m];exact rS.drew
  have n:W2 (q,r)=some (.string<|zy l):=(Gd (X.owns ow<|λ_ _ x=>x)<|by show(p.kept.map _)[r]?=_;rw[Ad,h];rfl).1;have n:=X.cell (a:=U b 2) id c2;have n:=X.cell (a:=U W.heap.size 2) id y2;have a:=A.z l W2 X<|qn (R.z.kl l<|AZ h) HC.z;have M:=zb a;have ag:=zb m;clear u ow af hN ak A Z g h m X a hz;go_upto_region 41 with fail;refine zr 9 (λw'=>w'=W2) (ag.z) ?_;refine GI 0 ?_;iterate 7
   refine GV rfl ?_;try simp only[PS]
  refine zD 7 rfl (λK hK=>?_);go_simp;go_simp
  with_reducible refine(KP.z _).mono ?_
  rintro e w' ⟨rfl,C⟩;replace C:=C.symm;subst C;go_simp;refine hK.z _ _ ag.z ?_;clear hK K;try simp only[PS]
  refine GI 8 ?_;refine GV rfl ?_;try simp only[PS]
  refine zt ?_;rw[ag.z];clear y0 y1 y2 y3 y4 y5 y6 c2 KP;go_wp2_with fail;refine M.z.mono ?_;rintro _ W3 ⟨rfl,H3⟩;have H3:=zb H3;go_wp2;go_ret;exact⟨rfl,H3.z⟩
 .rw[u]at y0;have L:=A.z o.s W1 rS<|qm HC.z;have M:=zb L;rw[u];clear u L;go_wp2_with fail;refine M.z.mono ?_;rintro _ W2 ⟨rfl,B⟩;have B:=zb B;go_wp2;go_ret;exact⟨rfl,B.z⟩
 .rw[u]at y0;rw[u];have g:=ai.z;obtain⟨n,W2,m,a,X,h⟩:=Ms W1 o.s I;have m:=OY _ _ W2 a I;have n:=zb m;have M2:=zb X;clear u a X h m g;go_wp2_with fail;refine n.z.mono ?_;rintro _ W3 ⟨v,rfl,ob,m3,_⟩;have Y:=FZ<|OB.br ob;obtain⟨va,vc,rfl,_⟩:=zi ob;rw[AF]at Y;have M:=zb (A.z (o.s++EP (Dz o.s)) W3 (M2.z.trans m3) (by rw[AF,show(EP<|Dz o.s).length=4 from rfl];have:=HC.z;omega));clear ob m3;go_wp2_with fail;refine M.z.mono ?_;rintro _ W4 ⟨rfl,B⟩;have B:=zb B;go_wp2;go_ret;exact⟨rfl,B.z⟩
 rw[u]at y0;rw[u];obtain⟨n,q,m⟩:=Rd o.fs;have h:=HB.z;have g:(Fe o.n<|o.fs.map (·.1)).length<=8+32*FO o.fs:=by
  unfold Fe;rw[AF];have:=Jy o.n;omega
 have ke:=UD o.n o.fs _ W1 HF.z I<|λfr a=>qm<|m fr a;rw[ac.z]at ke;have KE:=zb ke;have a:(ml<|Fe o.n<|o.fs.map (·.1)).length+1<=Eh o:=by
  show(_++EP _).length+1<=402+o.s.length+64*FO o.fs;rw[AF,show(EP<|Dz<|Fe o.n<|o.fs.map (·.1)).length=4 from rfl];omega
 have aA:=zb a;clear u n q m h g ke a;go_wp2_with fail;refine KE.z.mono ?_;rintro e W3 ⟨m3,al⟩;rcases al with⟨_,v,rfl,ob,_⟩|⟨_,rfl⟩
 .have Y:=FZ<|OB.br ob;obtain⟨va,vc,rfl,_⟩:=zi ob;have M:=zb<|A.z _ W3 m3 aA.z;clear ob m3;go_wp2_with fail;refine M.z.mono ?_;rintro _ W4 ⟨rfl,B⟩;have B:=zb B;go_wp2;go_ret;exact⟨rfl,B.z⟩
 have B:AA (∃tag p,DS w0 tag b first p W3/\p.Ok (T+Eh o)):=zb ⟨tag,p,G.z.kI m3,R.z.mono<|CA _ _⟩;clear m3;go_wp2;go_ret;exact⟨rfl,B.z⟩
end
section
variable {w0 W W':rT} {tag tag':qr} {p:PW} {b b1 b2:Nat} {first:Bool} {t T:Nat} {c:CS} {s:SS}
def FV.qg(h:FV j tag)(e:DK i tag tag' W W')(g:0<j)(a:j≠i):FV j tag':=by
 intro g r m x;by_cases q:g<W.heap.size
 .rw[e.lH g q]at x;exact h g r m x
 rcases e.new g I with y|y
 .rw[x]at y;exact a y
 rw[x]at y;have:=Ax Prod.fst y;simp only at this;omega
structure ML(w0:rT)(tag:qr)(p:PW)(b1 b2:Nat)(c:CS)(s:SS)(W:rT):Prop where
 r:Gh w0 (2*p.n+3) tag p W
 cn:∃V,zn tag (2*p.n+2) b1 c V W
 nd:FV (2*p.n+2) tag
 sd:∃V,zj tag (2*p.n+3) b2 s V W
def ML.lq(h:ML w0 tag p b1 b2 c s W)(e:DK 1 tag tag' W W')(m:C9 (λg=>(tag g).1=1) W W'):ML w0 tag' p b1 b2 c s W':=by
 have r:=h.r.lq lc rO e m;rw[(I:max (2*p.n+3) 1=2*p.n+3)]at r;exact⟨r,h.cn.imp λV a=>a.mod m (λg n x=>I)<|e.kD h.r.env.ok I,h.nd.qg e I I,h.sd.imp λV a=>DM.mod a m (λg n x=>I)<|e.kD h.r.env.ok I⟩
def DS.grow(own:DM tag 1 (G6 b first p p.n p.n) W)(h:ML w0 tag p b1 b2 c s W)(ok:p.Ok T)(B:DZ T c s)(hT:T<=DW):∃L X M g W1,W b=some (.slice L X M)/\(∀D,(Builtin.append_ #[27,27] D #[.slice L X M,.slice W 1 1]).run prog (W.alloc (.cells #[(b1,0)] 57))=.ok g W1)/\W1.frozen? ⟨b,0,none⟩=false/\(∃x,W1.cell? b=some x)/\(∃a n c,g=.slice a n c) /\
   ∃W2,W1.setCell b g=W2/\∃E X G A C,W2.cell? (b,1)=some (.slice E X G)/\(∀D,(Builtin.append_ #[28,28] D #[.slice E X G,.slice (some ⟨W2.heap.size,0,none⟩) 1 1]).run prog (W2.alloc<|.cells #[(b2,0)] 60)=.ok A C)/\C.frozen? ⟨b,1,none⟩=false/\(∃x,C.cell? (b,1)=some x)/\(∃a n c,A=.slice a n c) /\
    ∃a,C.setCell (b,1) A=a/\∃tag p,DS w0 tag b first p a/\p.Ok (T+1):=by
 have a:=ok.n;unfold DW at hT;obtain⟨L,M,xe,_⟩:=zi (own.row (r:=2) rfl).1;obtain⟨g,W1,Y,a2,a3,a4,⟨va,vc,ve⟩,_⟩:=own.push h.r.env.ok lc (t:=27) (j:=0) (r:=2) (u:=zq b1) (bytes:=8) (z:=.pointer none) lc rfl underlying27 kw rfl lc rfl rfl I (λv=>G6 b first { p with x:=zh p.x p.n b1,xv:=v } (p.n+1) p.n) (λv=>by
  show Pc.row _ _ _ _ _=_;rw[BK,A9,Oi];simp[zf]) (λv=>rfl) (λv q K=>by
  unfold G6;split<;>first|rfl|exact absurd rO K|exact absurd (.inr rfl) K) (lc:0<6)
 obtain⟨a,_,rfl,N,Z,m1⟩:=a2;have O:=h.lq Z m1;have c0:W b=some p.xv:=DM.cell (r:=1) (cs:=Ls first p) own rfl rfl;rw[xe]at c0 Y;refine⟨L,_,M,g,W1,c0,Y,a3,a4,⟨va,_,vc,ve⟩,_,rfl,?_⟩;obtain⟨W2,a⟩:=nm<|W1.setCell b g;rw[a]at N Z m1 O ⊢;obtain⟨E,G,ye,_⟩:=zi (N.row (r:=3) rfl).1;obtain⟨A,C,d1,d2,d3,d4,⟨ua,uc,ue⟩,_⟩:=N.push O.r.env.ok lc (t:=28) (j:=1) (r:=3) (u:=zq b2) (bytes:=8) (z:=.pointer none) lc rfl underlying28 kw rfl lc rfl rfl I (λv=>G6 b first { p with x:=zh p.x p.n b1,m:=zh p.m p.n b2,xv:=g,mv:=v } (p.n+1)<|p.n+1) (λv=>by
  show Pc.row _ _ _ _ _=_;rw[BK,A9,Oi];simp[zf]) (λv=>rfl) (λv q K=>by
  unfold G6;split<;>first|rfl|exact absurd rO K|exact absurd (.inr rfl) K) (lc:1<6)
 obtain⟨R,_,rfl,o2,e2,m2⟩:=d2;have e:=O.lq e2 m2;have c1:W2 (b,1)=some p.mv:=DM.cell (r:=1) (cs:=Ls first { p with x:=zh p.x p.n b1,xv:=g }) N rfl rfl;have a:p.mv=.slice E p.n G:=ye;rw[a]at c1;refine⟨E,_,G,A,C,c1,λD=>by have:=d1 D;rw[ye]at this;exact this,d3,d4,⟨ua,_,uc,ue⟩,_,rfl,R,{ p with n:=p.n+1,x:=zh p.x p.n b1,m:=zh p.m p.n b2,c:=zh p.c p.n c,s:=zh p.s p.n s,xv:=g,mv:=A },⟨o2,e.r.env,e.r.top,λj y=>?_,λj y=>?_,λj y=>?_,e.r.mod,e.r.t1,e.r.ox⟩,⟨by show p.n+1<=_;omega,λj y=>?_,ok.kl,by have:=ok.kn;show p.kept.length<=_;omega⟩⟩
 .show ∃V,zn R _ (zh p.x p.n b1 j) (zh p.c p.n c j) V _;by_cases q:j=p.n
  .subst q;rw[zf,zf];exact e.cn
  rw[zl _ _ q,zl _ _ q];exact e.r.cn j (by have:j<p.n+1:=y;omega)
 .by_cases q:j=p.n
  .subst q;exact e.nd
  exact e.r.nd j (by have:j<p.n+1:=y;omega)
 .show ∃V,zj R _ (zh p.m p.n b2 j) (zh p.s p.n s j) V _;by_cases q:j=p.n
  .subst q;rw[zf,zf];exact e.sd
  rw[zl _ _ q,zl _ _ q];exact e.r.sd j (by have:j<p.n+1:=y;omega)
 show DZ _ (zh p.c p.n c j) (zh p.s p.n s j);by_cases q:j=p.n
 .subst q;rw[zf,zf];exact B.mono<|Ar T
 rw[zl _ _ q,zl _ _ q];exact(ok.both j (by have:j<p.n+1:=y;omega)).mono (Ar T)
end
section
variable {w0 W:rT} {tag:qr} {p:PW} {b:Nat} {first:Bool} {T:Nat} {o:EF}
def DS.make(h:DS w0 tag b first p W)(ok:p.Ok T)(x y z:Int)(a:T<=DW):rH 13 #[.agg #[.int .i64 x,.int .i64 y,.int .i64 z]] W (λe W1 =>
   (GD x y z=false/\e=.returned (.tuple #[.pointer none,.int .i64 1])/\C9 DA W W1) \/
   ∃b1,GD x y z=true/\e=.returned (.tuple #[.pointer (some ⟨b1,0,none⟩),.int .i64 0])/\C9 DA W W1/\AA (∀W2,C9 DA W1 W2->rH 14 #[.agg #[.int .i64 x,.int .i64 y,.int .i64 z]] W2 λe B =>
    ∃b2,e=.returned (.tuple #[.pointer (some ⟨b2,0,none⟩),.int .i64 0])/\AA (∃t c s,DM t 1 (G6 b first p p.n p.n) B/\ML w0 t p b1 b2 c s B/\DZ T c s))):=by
 refine(XL tag (2*p.n+2) x y z W<|h.r.env.as I).mono ?_;rintro e W1 (⟨n,rfl,m⟩|⟨b1,C,V,n,rfl,c1,N,L,_⟩)
 .exact .inl ⟨n,rfl,m⟩
 refine .inr ⟨b1,n,rfl,L,zb λW2 E=>?_⟩;have m:FV (2*p.n+2) tag:=λg r M x=>by have:=h.r.top g;rw[x]at this;exact absurd this<|by show ¬2*p.n+2<=2*p.n+1;omega
 have a:=N.pc m;have m:C9 (λg=>(tag g).1=2*p.n+2) W W1:=L.mono rQ;have q:=(h.r.lq I (.inr I) a m).kI E;have O:=(h.own.mod m (λg u x=>I)<|a.kD h.r.env.ok lc).kI E;have G:=(c1.nz (tag':=GG (2*p.n+2) C)<|λg r M u=>Pv M u).kI E;have K:FV (2*p.n+2) (GG (2*p.n+2) C):=Pi I;refine(XR (GG (2*p.n+2) C) (2*p.n+3) x y z W2 q.env.ok (λg u=>qm<|q.top g) I).mono ?_;rintro e B (⟨A,_⟩|⟨b2,R,a,_,rfl,X,D,Y,_⟩)
 .rw[n]at A;cases A
 have a:C9 (λg=>(GG (2*p.n+2) C g).1=2*p.n+3) W2 B:=Y.mono rQ;have e:=q.lq I (.inr I) D a;rw[(I:max (max (2*p.n+1)<|2*p.n+2) (2*p.n+3)=2*p.n+3)]at e;unfold GD at n;simp only[AV,AW]at n;exact⟨b2,rfl,zb ⟨R,_,_,O.mod a (λg u x=>I)<|D.kD q.env.ok lc,⟨e,⟨_,G.mod a (λg u x=>I)<|D.kD q.env.ok I⟩,K.qg D I I,⟨_,X⟩⟩,(DZ.new I I I).mono<|AK T⟩⟩
def XM(h:DS w0 tag b first p W)(ok:p.Ok T)(G:o.kind=1)(m:∃a c,o.fv=.slice a o.fs.length c)(K:T<=DW):rH 9 #[(b,0),.agg (ED o)] W (GY w0 b first (T+1)):=by
 obtain⟨W0,g,Z,q⟩:=PL W o;obtain⟨W1,n⟩:=nm<|W0.alloc<|.cells #[[o.a],[o.b],[o.c]] 56;have m1:=AB n;have z:=(h.kI Z).kI m1;have km:=z.make ok o.a o.b o.c K;have B:=λW2=>Se o.a o.b o.c W2
 have E:=AD n;obtain⟨fa,fc,u⟩:=m;unfold ED at q g;unfold ED;rw[u]at q g;rw[u];have L:W0 W=some (.int .i64 o.kind):=za q rfl;have y1:W0 (W,1)=some (.int .i64 o.a):=za q rfl;have y2:W0 (W,2)=some (.int .i64 o.b):=za q rfl;have y3:W0 (W,3)=some (.int .i64 o.c):=za q rfl;have M:W1 W0=some (.int .i64 o.a):=za E rfl;have N:W1 (W0,1)=some (.int .i64 o.b):=za E rfl;have O:W1 (W0,2)=some (.int .i64 o.c):=za E rfl;have HC:AA (∀W2,C9 DA W1 W2->W2.cell? W0=some (.int .i64 o.a)/\W2.cell? (W0.heap.size,1)=some (.int .i64 o.b)/\W2.cell? (W0.heap.size,2)=some (.int .i64 o.c)):=zb λW2 m=>⟨m.cell (a:=⟨_,0,none⟩) id M,m.cell (a:=⟨_,1,none⟩) id N,m.cell (a:=⟨_,2,none⟩) id O⟩
 have HL:=zb z;have OK:=zb ok;have KM:=zb km;have KB:=zb B;have a:=zb g;have m:=zb n;have HT:=zb K;rw[G]at L a;rw[G];clear h ok Z q g n m1 z km B E G u K;go_enter func9,ntmps9;go_upto_region 1 with fail;rw[a.z];go_upto_region 4 with fail;rw[m.z];go_wp2_with fail;refine KM.z.mono ?_;rintro e W2 (⟨hc,rfl,A⟩|⟨b1,hc,rfl,A,K2⟩)
 .obtain⟨R,X,Y⟩:=HC.z W2 A;have B:=KB.z W2 hc;have M2:=zb A;clear L y1 y2 y3 M N O A;go_wp2_with fail;refine B.mono ?_;rintro e W3 ⟨rfl,m3⟩;have a:AA (∃tag p,DS w0 tag b first p W3/\p.Ok (T+1)):=zb ⟨tag,p,(HL.z.kI M2.z).kI m3,OK.z.mono<|Ar T⟩;clear m3 B R X Y;go_wp2;go_ret;exact⟨rfl,a.z⟩
 obtain⟨R,X,Y⟩:=HC.z W2 A;have K3:=zb<|K2.z W2 rS;clear L y1 y2 y3 M N O A K2;go_wp2_with fail;refine K3.z.mono ?_;rintro e W3 ⟨b2,rfl,H⟩;obtain⟨t,c,s,z,h2,h3⟩:=H.z;obtain⟨g,h,m,n,q,c0,DG,fz,⟨_,u⟩,⟨A,B,E,rfl⟩,G,C,K,L,M,N,O,c1,y,a,⟨_,e⟩,⟨Z,un,uc,rfl⟩,W7,D,h7⟩:=DS.grow z h2 OK.z h3 HT.z;have g:=zb h7;have a:=zb C;have e:=zb D;clear H z h2 h3 h7 C D R X Y K3;go_upto_region 10 with(at_builtin;refine zm rfl _ _ _ _ rfl _ _ _ rfl rfl DG ?_);rw[a.z];go_wp2_with (at_builtin;refine zm rfl _ _ _ _ rfl _ _ _ rfl rfl y ?_);rw[e.z];go_ret;exact⟨rfl,g.z⟩
end
def PW.none:PW:=⟨0,λ_=>0,λ_=>0,λ_=>CS.new 0 0 0,λ_=>SS.new 0 0 0,[],.slice Option.none 0 0,.slice Option.none 0 0,.slice Option.none 0 0,.slice Option.none 0 0,.slice Option.none 0 0⟩
def DS.start{first:Bool}(m:C9 DA w W)(hb:w.heap.size<=b)(h:Sc W b first)(n:Fb w)(a:Ex w):DS w (λg=>if g=b then(1,1)else(0,0)) b first PW.none W:=by
 have q:b<W.heap.size:=(AJ.1 h).1;have q:=zo a;have q:=n.lt;have nil:∀{e r:Nat},(Pc.row e 1 (.slice Option.none 0 0) 0 []).At (1,r) (λg=>if g=b then(1,1)else(0,0)) W:=fun{e r}=>⟨World.ownsRow_nil W 0 _ 1,λg a=>by cases a⟩
 refine⟨λr=>?_,⟨λg a=>AH I,lc,a.mod m rP,n.mod m rP,AH I,AH I⟩,λg=>?_,λj n=>absurd n<|Al j,λj n=>absurd n<|Al j,λj n=>absurd n<|Al j,m,λg a=>?_,I⟩
 .unfold G6;split
  .exact⟨h,AL rfl⟩
  .exact nil
  .exact nil
  .exact nil
  trivial
 .show(if g=b then((1,1):Nat×Nat)else(0,0)).1<=1;split<;>decide
 by_cases e:g=b
 .omega
 exact absurd (AH e) a
def Jh(l:List EF)(k:Nat):Nat:=((l.take k).map Eh).sum
variable{k:Nat}
def QI{l:List EF}{o:EF}(h:l[k]?=some o):Jh l (k+1)=Jh l k+Eh o:=by
 unfold Jh;rw[Ai,h];simp
theorem Yr(l:List EF):(l.map Eh).sum<=402*l.length+64*GX l:=by
 induction l with
 | nil=>exact AK _
 | cons o l ih =>
  have e:GX (o::l)=o.s.length+FO o.fs+1+GX l:=by simp[GX]
  rw[BO,List.sum_cons,Aa,e];rw[show Eh o=402+o.s.length+64*FO o.fs from rfl];omega
theorem Va(l:List EF)(k:Nat):Jh l k<=(l.map Eh).sum:=by
 induction l generalizing k with
 | nil=>simp[Jh]
 | cons o l ih =>
  cases k with
  | zero=>exact AK _
  | succ k =>
   have:=ih k;unfold Jh at this ⊢;rw[Bt,BO,BO,List.sum_cons,List.sum_cons];omega
def VZ{w0:rT}{p:PW}{first:Bool}{o:EF}(h:DS w0 tag b first p W)(ok:p.Ok T)(a:1<=o.kind/\o.kind<=15)(m:o.Wf)(g:FE W o.fv o.fs)(n:o.s.length<=1048576)(hb:FO o.fs<=1048576)(q:T+Eh o<=DW):rH 9 #[(b,0),.agg (ED o)] W (GY w0 b first (T+Eh o)):=by
 have a:402<=Eh o:=by unfold Eh;omega
 by_cases u:o.kind=1
 .obtain⟨a,c,e,_⟩:=id g;exact(XM h ok u ⟨a,c,e⟩ I).mono λ_ _ x=>x.mono I
 by_cases a:p.n=0
 .exact(Yx h ok a I).mono λ_ _ x=>x.mono<|CA _ _
 exact Yw h ok I I m g n hb q
def Yq(l:List EF)(v u:rU)(y:List Int)(first:Bool)(w w0:rT)(n:C9 DA w w0)(a:Ix w v l)(C:Jd w0 u y)(hb:GX l<=1048576)(D:Fb w)(E:Ex w)(A:∀z∈y,1<=z/\z<=15):rH 5 #[v,u,first] w0 (EX w0 true):=by
 refine Ys l v u y first w0 (λb k W=>l.length<=65536/\∃tag p,DS w0 tag b first p W/\p.Ok (Jh l k)) (a.kI n) C hb
  (λb q g m hb h=>⟨g,_,_,DS.start m hb h (D.mod n rP)<|E.mod n rP,⟨AK _,λj u=>absurd u<|Al j,λl G=>(by cases G),AK _⟩⟩)
  (λb k q w2 ⟨g,tag,p,h,ok⟩ m=>⟨g,tag,p,h.kI m,ok⟩)
  (λb k q ⟨_,tag,p,h,_⟩=>h.r.mod)
  (λb k o q ho _ ⟨g,tag,p,h,ok⟩=>⟨g,tag,p,h,ok.mono<|by rw[QI ho];exact CA _ _⟩)
  (λb k o q ho hp ⟨g,tag,p,h,ok⟩=>?_)
 obtain⟨_,_,_,_,_,m⟩:=a;obtain⟨_,q,a⟩:=m k o ho;obtain⟨m,u⟩:=(Mn l).2 o<|AZ ho;have m:=Yr l;have m:=Va l<|k+1;rw[QI ho]at m;have m:1<=o.kind/\o.kind<=15:=by
  unfold Jn at hp;simp only[AV,Bi,Ch]at hp;obtain⟨⟨z,u,e⟩,_⟩:=hp;rw[e];exact A z u
 refine(VZ h ok m a ((q.kI n).kI h.r.mod) I I<|by unfold DW;omega).mono ?_;rintro e w' ⟨rfl,t,p',K,B⟩;exact⟨rfl,g,t,p',K,by rw[QI ho];exact B⟩
def streamed_any(l:List EF)(v:rU)(w:rT)(e:Ix w v l)(m:Fb w)(n:Ex w)(hb:GX l<=1048576):rH 4 #[v] w (EX w true):=by
 obtain⟨a,h,rfl,_⟩:=id e;have q:=zb<|fun(w0:rT) (g:C9 DA w w0) kv (y:Jd w0 kv [1,2,3,6,7,8,9,11,12,15])=>Yq l (.slice a l.length h) kv _ true w w0 g e y hb m n lc;clear e m n hb;go_enter func4,ntmps4;go_wp2_with fail;have g:C9 DA w (w.alloc<|.cells #[.int .i64 1,.int .i64 2,.int .i64 3,.int .i64 6,.int .i64 7,.int .i64 8,.int .i64 9,.int .i64 11,.int .i64 12,.int .i64 15] 3):=rS.alloc _;refine(q.z _ g (.slice w 10 10)<|Ku w _ [1,2,3,6,7,8,9,11,12,15] rfl lc).mono ?_;clear q;rintro e a ⟨rfl,u⟩;have a:=zb<|g.trans u;clear g u;go_wp2;go_ret;exact⟨rfl,a.z⟩
end
end Go.Proofs.YtddfdpbaiedcjabGreatDoor
