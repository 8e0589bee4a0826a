/- Streamed. Part 4 of 17. -/
import Derived.Test.YtddfdpbaiedcjabGreatDoorStr3
import Derived.RangeFuncNested
import Derived.Shelf.Abstract
import Derived.OwnWalkIn
import Derived.TacticsInMore
import Derived.LoopNIn
import Derived.LoopIn
set_option maxRecDepth 100000
set_option maxHeartbeats 16000000
set_option linter.all false
namespace Go.Proofs.YtddfdpbaiedcjabGreatDoor
section
open Go.RowKit Go.Proofs.Tryz
def Dc(rs:zE)(n:Nat):Prop:=∃i,i<rs.length/\DE rs i<=n/\n<=DB rs i
def Qr(a b:zE)(i:Nat)(h:i<a.length):DE (a++b) i=DE a i/\DB (a++b) i=DB a i:=by
 simp[DE,DB,Ag h]
def Mw(a b:zE)(i:Nat)(h:a.length<=i):DE (a++b) i=DE b (i-a.length)/\DB (a++b) i=DB b (i-a.length):=by
 simp[DE,DB,Ac h]
def Mk(rs:zE)(k i:Nat)(h:i<k):DE (rs.take k) i=DE rs i/\DB (rs.take k) i=DB rs i:=by
 simp[DE,DB,AQ,h]
def Fz(rs:zE)(k i:Nat):DE (rs.drop k) i=DE rs (k+i)/\DB (rs.drop k) i=DB rs (k+i):=by
 simp[DE,DB,AQ,BM]
def jL(r:Nat×Nat)(rs:zE):DE (r::rs) 0=r.1/\DB (r::rs) 0=r.2:=⟨rfl,rfl⟩
def Ul(r:Nat×Nat)(rs:zE)(i:Nat):DE (r::rs) (i+1)=DE rs i/\DB (r::rs) (i+1)=DB rs i:=⟨rfl,rfl⟩
def MH(rs:zE)(m hi m1 m2:Nat)(a:m1<=m2)(e:m2<=rs.length):(Dd rs m hi m1 m2).length=m1+1+(rs.length-m2):=by
 simp[Dd];omega
def Lt(rs:zE)(m hi m1 m2 i:Nat)(e:m1<=m2)(g:m2<=rs.length)(a:i<m1):DE (Dd rs m hi m1 m2) i=DE rs i/\DB (Dd rs m hi m1 m2) i=DB rs i:=by
 unfold Dd;have e:i<(rs.take m1).length:=ol;rw[(Qr _ _ i e).1,(Qr _ _ i e).2];exact Mk rs m1 i a
def QR(rs:zE)(m hi m1 m2:Nat)(a:m1<=m2)(e:m2<=rs.length):DE (Dd rs m hi m1 m2) m1=(Dg rs m hi m1 m2).1/\DB (Dd rs m hi m1 m2) m1=(Dg rs m hi m1 m2).2:=by
 unfold Dd;have a:(rs.take m1).length=m1:=ol;rw[(Mw _ _ m1 I).1,(Mw _ _ m1 I).2,a,Cs];exact jL _ _
def JB(rs:zE)(m hi m1 m2 i:Nat)(e:m1<=m2)(g:m2<=rs.length)(a:m1<i):DE (Dd rs m hi m1 m2) i=DE rs (m2+(i-m1-1))/\DB (Dd rs m hi m1 m2) i=DB rs (m2+(i-m1-1)):=by
 unfold Dd;have a:(rs.take m1).length=m1:=ol;rw[(Mw _ _ i I).1,(Mw _ _ i I).2,a];obtain⟨j,a⟩:∃j,i-m1=j+1:=⟨i-m1-1,I⟩;rw[a,(Ul _ _ j).1,(Ul _ _ j).2];exact Fz rs m2 j
variable{m m1:Nat}{rs:zE}
def UK(a:WF rs)(e:zU rs.length (Dk rs m) m1):∀i,i<m1->DB rs i+1<m:=by
 intro i g;obtain⟨g,b1,_⟩:=e;have e:=b1 I;simp only[Dk,BW]at e;by_cases e:i=m1-1
 .rw[e];omega
 have:=a.2 i (m1-1) I I;have e:=a.1 (m1-1) I;omega
variable{hi m2:Nat}
def X2(a:WF rs)(e:zU rs.length (Dl rs hi) m2):∀i,m2<=i->i<rs.length->hi+1<DE rs i:=by
 intro i g hi;obtain⟨_,_,c2⟩:=e;have e:=c2 I;simp only[Dl,AW]at e;by_cases g:i=m2
 .rw[g];exact e
 have:=a.2 m2 i I hi;have e:=a.1 m2 I;omega
def Qe(a:WF rs)(e:hi<18446744073709551616)(n:zU rs.length (Dk rs m) m1)(g:zU rs.length (Dl rs hi) m2):(Dg rs m hi m1 m2).1<=m/\hi<=(Dg rs m hi m1 m2).2/\(Dg rs m hi m1 m2).2<18446744073709551616/\(∀i,i<m1->DB rs i+1<(Dg rs m hi m1 m2).1)/\(∀i,m2<=i->i<rs.length->(Dg rs m hi m1 m2).2+1<DE rs i):=by
 have h:=UK a n;have m:=X2 a g;have n:=g.1;unfold Dg;split
 .rename_i g;have g:=a.1 (m2-1) I;refine⟨Bq _ _,Ce _ _,by show max _ _<_;omega,λi hi=>?_,λi n g=>?_⟩
  .have:=h i hi;have q:=a.2 i m1 hi I;show _<min _ _;omega
  have:=m i n g;have q:=a.2 (m2-1) i I g;show max _ _+1<_;omega
 exact⟨AI _,AI _,e,h,m⟩
def Mm(n:WF rs)(y:m<=hi)(z:hi<18446744073709551616)(B:zU rs.length (Dk rs m) m1)(A:zU rs.length (Dl rs hi) m2):WF (Dd rs m hi m1 m2):=by
 have a:=Ho n y B A;have g:=A.1;have y:=MH rs m hi m1 m2 a g;obtain⟨y,E,G,C,D⟩:=Qe n z B A;have u:=QR rs m hi m1 m2 a g;refine⟨λi y=>?_,λi j q y=>?_⟩
 .rcases Bo i m1 with h|h|h
  .have e:=Lt rs m hi m1 m2 i a g h;rw[e.1,e.2];exact n.1 i I
  .subst h;rw[u.1,u.2];omega
  have e:=JB rs m hi m1 m2 i a g h;rw[e.1,e.2];exact n.1 _ I
 rcases Bo i m1 with h|h|h
 .have e:=Lt rs m hi m1 m2 i a g h;rw[e.2];rcases Bo j m1 with hd|hd|hd
  .rw[(Lt rs m hi m1 m2 j a g hd).1];exact n.2 i j q I
  .subst hd;rw[u.1];exact C i h
  rw[(JB rs m hi m1 m2 j a g hd).1];exact n.2 i _ I I
 .subst h;rw[u.2,(JB rs m hi i m2 j a g q).1];exact D _ I I
 rw[(JB rs m hi m1 m2 i a g h).2,(JB rs m hi m1 m2 j a g I).1];exact n.2 _ _ I I
variable{i j:Nat}
def IB(a:WF rs)(h:i<=j)(e:j<rs.length):DE rs i<=DE rs j/\DB rs i<=DB rs j:=by
 by_cases g:i=j
 .subst g;exact⟨AI _,AI _⟩
 have:=a.2 i j I e;have g:=a.1 i I;have g:=a.1 j e;omega
def SZ(B:WF rs)(y:m<=hi)(D:zU rs.length (Dk rs m) m1)(C:zU rs.length (Dl rs hi) m2)(n:Nat):Dc (Dd rs m hi m1 m2) n↔Dc rs n\/(m<=n/\n<=hi):=by
 have h:=Ho B y D C;have q:=C.1;have y:=MH rs m hi m1 m2 h q;have z:=QR rs m hi m1 m2 h q;constructor
 .rintro⟨i,A,g,a⟩;rcases Bo i m1 with u|u|u
  .have e:=Lt rs m hi m1 m2 i h q u;rw[e.1]at g;rw[e.2]at a;exact .inl ⟨i,I,g,a⟩
  .subst u;rw[z.1]at g;rw[z.2]at a;by_cases y:m<=n/\n<=hi
   .exact .inr y
   refine .inl ?_;unfold Dg at g a;split at g
   .rename_i y;rw[AL y]at a;simp only at g a;have c1:=D.2.2 I;simp only[Dk,AW]at c1;have b2:=C.2.1 I;simp only[Dl,BW]at b2;by_cases C:n<m
    .exact⟨i,I,I,I⟩
    exact⟨m2-1,I,I,I⟩
   rename_i y;rw[AH y]at a;simp only at g a;omega
  have e:=JB rs m hi m1 m2 i h q u;rw[e.1]at g;rw[e.2]at a;exact .inl ⟨_,I,g,a⟩
 rintro(⟨i,A,g,a⟩|⟨n,hb⟩)
 .by_cases u:i<m1
  .have e:=Lt rs m hi m1 m2 i h q u;exact⟨i,I,by rw[e.1];exact g,by rw[e.2];exact a⟩
  by_cases hd:m2<=i
  .have e:=JB rs m hi m1 m2 (m1+1+(i-m2)) h q I;have h:m2+(m1+1+(i-m2)-m1-1)=i:=I;rw[h]at e;exact⟨m1+1+(i-m2),I,by rw[e.1];exact g,by rw[e.2];exact a⟩
  have a:=(IB B (i:=m1) (j:=i) I A).1;have a:=(IB B (i:=i) (j:=m2-1) I I).2;refine⟨m1,I,?_,?_⟩
  .rw[z.1,Dg,AL I];show min _ _<=_;omega
  rw[z.2,Dg,AL I];show _<=max _ _;omega
 refine⟨m1,I,?_,?_⟩
 .rw[z.1,Dg];split
  .show min _ _<=_;omega
  exact n
 rw[z.2,Dg];split
 .show _<=max _ _;omega
 exact hb
variable{n:Nat}
def Vf(g:WF rs)(h:zU rs.length (Je rs n) m):(m<rs.length/\DE rs m<=n)↔Dc rs n:=by
 obtain⟨a,b,c⟩:=h;constructor
 .rintro⟨a,e⟩;have:=c a;simp only[Je,AW]at this;exact⟨m,a,e,this⟩
 rintro⟨i,a,e,h⟩;by_cases e:i<m
 .have e:=b I;simp only[Je,BW]at e;have:=(IB g (i:=i) (j:=m-1) I I).2;omega
 have:=(IB g (i:=m) (j:=i) I a).1;exact⟨I,I⟩
def Ec(rs:zE)(m hi m1 m2 i:Nat):Nat×Nat:=Dg rs m hi m1 (min i m2)
def EW(rs:zE)(m hi m1 m2 i:Nat):zE:=if i<=m2 then rs.take (min i m1)else rs.take m1++Dg rs m hi m1 m2::(rs.drop m2).take (i-m2)
def Gz(h:i<rs.length):rs[i]?=some (DE rs i,DB rs i):=by
 simp[DE,DB,AQ,AG h]
def Ve(h:WF rs)(e:zU rs.length (Dk rs m) m1):∀i,m1<=i->i<rs.length->m<=DB rs i+1:=by
 intro i a g;obtain⟨m,b1,c1⟩:=e;have e:=c1 I;simp only[Dk,AW]at e;have:=IB h a g;omega
def NE(a:WF rs)(e:zU rs.length (Dl rs hi) m2):∀i,i<m2->DE rs i<=hi+1:=by
 intro i g;obtain⟨g,b1,c1⟩:=e;have e:=b1 I;simp only[Dl,BW]at e;have:=IB a (I:i<=m2-1) I;omega
def ir(g:WF rs)(a:m<=hi)(h:zU rs.length (Dk rs m) m1)(n:zU rs.length (Dl rs hi) m2)(e:i<m1):Ec rs m hi m1 m2 i=(m,hi)/\DB rs i+1<m/\Ec rs m hi m1 m2 (i+1)=(m,hi)/\EW rs m hi m1 m2 (i+1)=EW rs m hi m1 m2 i++[(DE rs i,DB rs i)]/\i<m2/\i+1<=m2:=by
 have m:=Ho g a h n;have a:=n.1;have hb:=UK g h i e;refine⟨?_,hb,?_,?_,I,I⟩
 .unfold Ec Dg;rw[AH I]
 .unfold Ec Dg;rw[AH I]
 unfold EW;rw[AL I,AL I,(I:min (i+1) m1=i+1),(I:min i m1=i),Ai,Gz I];rfl
def X1(e:WF rs)(n:zU rs.length (Dk rs m) m1)(h:zU rs.length (Dl rs hi) m2)(a:m1<=i)(g:i<m2):(Ec rs m hi m1 m2 i).1<=DB rs i+1/\DE rs i<=(Ec rs m hi m1 m2 i).2+1 /\
  Ec rs m hi m1 m2 (i+1)=(min (Ec rs m hi m1 m2 i).1<|DE rs i,max (Ec rs m hi m1 m2 i).2<|DB rs i)/\EW rs m hi m1 m2 (i+1)=EW rs m hi m1 m2 i:=by
 have q:=h.1;have q:=Ve e n i a I;have n:=NE e h i g;have g:=IB e a (I:i<rs.length);unfold Ec;rw[(I:min i m2=i),(I:min (i+1) m2=i+1)];refine⟨?_,?_,?_,?_⟩
 .unfold Dg;split
  .show min m (DE rs m1)<=_;omega
  exact q
 .unfold Dg;split
  .show _<=max hi (DB rs<|i-1)+1;omega
  exact n
 .unfold Dg;rw[AL (I:m1<i+1),Bz];by_cases a:m1<i
  .rw[AL a];have g:=IB e (I:i-1<=i) (I:i<rs.length);show(min m<|DE rs m1,max hi<|DB rs i)=(min (min m<|DE rs m1)<|DE rs i,max (max hi<|DB rs<|i-1)<|DB rs i);rw[(I:min (min m<|DE rs m1) (DE rs i)=min m (DE rs m1)),(I:max (max hi<|DB rs<|i-1) (DB rs i)=max hi (DB rs i))]
  rw[AH a,(I:i=m1)]
 unfold EW;rw[AL I,AL I,(I:min (i+1) m1=min i m1)]
def iq(q:WF rs)(g:m<=hi)(h:hi<18446744073709551616)(u:zU rs.length (Dk rs m) m1)(y:zU rs.length (Dl rs hi) m2)(n:m2<=i)(a:i<rs.length):Ec rs m hi m1 m2 i=Dg rs m hi m1 m2/\Ec rs m hi m1 m2 (i+1)=Dg rs m hi m1 m2/\(Dg rs m hi m1 m2).2+1<DE rs i/\(Dg rs m hi m1 m2).1<=(Dg rs m hi m1 m2).2 /\
  (i=m2->EW rs m hi m1 m2 (i+1)=EW rs m hi m1 m2 i++[Dg rs m hi m1 m2]++[(DE rs i,DB rs i)])/\(m2<i->EW rs m hi m1 m2 (i+1)=EW rs m hi m1 m2 i++[(DE rs i,DB rs i)]):=by
 have m:=Ho q g u y;obtain⟨m,z,A,B,g⟩:=Qe q h u y;refine⟨?_,?_,g i n a,I,?_,?_⟩
 .unfold Ec;rw[(I:min i m2=m2)]
 .unfold Ec;rw[(I:min (i+1) m2=m2)]
 .intro e;subst e;unfold EW;rw[AH I,AL I,(I:min i m1=m1),CB];rw[show(rs.drop i).take 1=[(DE rs i,DB rs i)]by
   rw[List.take_one,List.head?_drop,Gz a];rfl]
  simp
 intro e;unfold EW;rw[AH I,AH I,(I:i+1-m2=(i-m2)+1),Ai,BM,(I:m2+(i-m2)=i),Gz a];simp
def eF(g:WF rs)(a:m<=hi)(h:zU rs.length (Dk rs m) m1)(e:zU rs.length (Dl rs hi) m2):(rs.length<=m2->EW rs m hi m1 m2 rs.length++[Dg rs m hi m1 m2]=Dd rs m hi m1 m2/\Ec rs m hi m1 m2 rs.length=Dg rs m hi m1 m2)/\(m2<rs.length->EW rs m hi m1 m2 rs.length=Dd rs m hi m1 m2):=by
 have m:=Ho g a h e;have a:=e.1;refine⟨λe=>?_,λe=>?_⟩
 .have a:m2=rs.length:=I;unfold EW Dd Ec;rw[AL I,(I:min rs.length m1=m1),(I:min rs.length m2=m2),a,List.drop_length];exact rM
 unfold EW Dd;rw[AH I,AS (l:=rs.drop m2) nl]
def Rr(rs:zE)(m hi m1 m2:Nat):Ec rs m hi m1 m2 0=(m,hi):=by
 unfold Ec Dg;rw[AH I]
def NG(m1 m2 i:Nat)(h:m<=hi):(Ec rs m hi m1 m2 i).1<=(Ec rs m hi m1 m2 i).2:=by
 unfold Ec Dg;split
 .show min m _<=max hi _;omega
 exact h
def QQ(rs:zE)(m hi m1 m2:Nat):0<(Dd rs m hi m1 m2).length:=by
 unfold Dd;simp;omega
def X0(rs:zE)(m hi m1 m2:Nat):EW rs m hi m1 m2 0=[]:=by
 unfold EW;rw[AL I];simp
def Vd(rs:zE)(m hi m1 m2 i:Nat):(EW rs m hi m1 m2 i).length<=2*rs.length+1:=by
 unfold EW;split
 .simp;omega
 simp;omega
structure Jr(w:rT)(b:Nat)(v:rU)(rs:zE)(fl most:Nat):Prop where
 obj:w.heap[b]?=some (.cells #[v,fl,[most]] 106 (0,0))
 rd:RR w v rs
 len:rs.length<=274877906944
def RM(w:rT)(v:rU):Prop:=∀g o n c,v=.slice (some ⟨g,o,none⟩) n c->w.heap.size<=g
def eE(rs:zE)(a e b lo hi:Nat)(v:rU)(w:rT)(h:Jr w b v rs a e)(m:lo<18446744073709551616)(n:hi<18446744073709551616)(q:a<18446744073709551616)(g:hi<max lo a):rH 39 #[(b,0),lo,hi] w λe w'=>e=.returned (.tuple #[])/\C9 DA w w':=by
 have c1:w (b,1)=some (.int .u64 a):=za h.obj rfl;by_cases e:lo<a
 .have m:(lo:Int)<a:=I;have n:(hi:Int)<a:=I;clear h g e;go_enter func39,ntmps39;go_wp2_with fail;exact bodyPost_ret (results_none rfl _ _ _) rfl ⟨rfl,C9.refl _ _⟩
 have m:¬(lo:Int)<a:=I;have n:(hi:Int)<lo:=I;clear h g e;go_enter func39,ntmps39;go_wp2_with fail;exact bodyPost_ret (results_none rfl _ _ _) rfl ⟨rfl,C9.refl _ _⟩
variable{base e sz:Nat}{v:rU}{w:rT}{xs:qt}
def Vc(h:w.ownsRow base e sz v n xs):∀g,v.ownBlock=some g->g<w.heap.size:=by
 intro g a;rcases h.2 with⟨rfl,rfl⟩|⟨h,e,g,rfl,_,m,n,q,_⟩
 .cases a
 simp[Value.ownBlock]at a;subst a;exact(AJ.1 m).1
variable{W2:rT}
def Oh{wr h:rT}{m:qs}{e oc:Nat}{out:zE}{pq:Nat×Nat}{n:rU}(z:Dj wr (.slice m e oc) out)(A:out.length=e)(a:∀g,(Value.slice m e oc).ownBlock=some g->w.heap.size<=g)(y:C9 DA w wr)(m2:C9 DA wr W2)
  (B:pq.1<18446744073709551616) (C:pq.2<18446744073709551616)
  (A:h.ownsRow 0 110 2 n (out++[pq]).length (zw<|out++[pq])) (D:W2.grownBy h (Value.slice m e oc).ownBlock) (E:Dh W2 (.slice m e oc) n) :
  Dj h n (out++[pq])/\(∀g,n.ownBlock=some g->w.heap.size<=g)/\C9 DA w h:=by
 have e:=y.size;have e:=m2.size;refine⟨⟨A,λi h=>?_⟩,λg G=>?_,?_⟩
 .by_cases e:i<out.length
  .obtain⟨q,u⟩:=Qr out [pq] i e;rw[q,u];exact z.2 i e
  have:i=out.length:=by simp at h;omega
  subst this;obtain⟨q,u⟩:=Mw out [pq] out.length<|AI _;rw[q,u,Cs];exact⟨B,C⟩
 .rcases E g G with x|x
  .exact a g x
  omega
 exact((y.trans m2).grown D<|λk e=>.inr<|a k e)
def P6(rs:zE)(n a b hi m m1 m2:Nat)(w:rT)(e:Ending)(w':rT):Prop :=
 e=.returned (.tuple #[])/\∃h e g,(e,g)=(if a<(Dd rs m hi m1 m2).length then((Dd rs m hi m1 m2).drop 1,DB (Dd rs m hi m1 m2) 0+1)else(Dd rs m hi m1 m2,n)) /\
  Jr w' b h e g a/\RM w h/\C9 (λk=>k=b) w w'
variable{cap g:Nat}
def Vb(h:RR w (.slice g n cap) rs)(a:0<n):RR w (.slice (g,2) (n-1) (cap-1)) (rs.drop 1):=by
 obtain⟨a,c,e,n,A,m⟩:=h;cases e;refine⟨_,_,by rw[Af],by rw[Af];omega,I,λi h=>?_⟩;have a:i+1<rs.length:=by rw[Af]at h;omega
 obtain⟨h,n,e,q,u,y,z⟩:=m (i+1) a;cases e;obtain⟨a,e⟩:=Fz rs 1 i;rw[a,e,(I:1+i=i+1)];exact⟨g,2,rfl,by rw[(I:2+i*2=0+(i+1)*2)];exact q,by rw[(I:2+i*2+1=0+(i+1)*2+1)];exact u,y,z⟩
variable{N b fl most:Nat}
def eD{y:zE}{a q:Nat}{h:rT}{z:rU}(B:Dd rs m hi m1 m2=y)(C:y.length=N)(D:N<=274877906944)(E:Dj h (.slice a N q) y)(u:∀g,(Value.slice a N q).ownBlock=some g->w.heap.size<=g)(G:C9 DA w h)(K:b<w.heap.size)
  (D:h.heap[b]?=some (.cells #[z,fl,[most]] 106 (0,0))) (z:¬most<N) :
  P6 rs fl most b hi m m1 m2 w (.returned<|.tuple #[]) (h.setCell b<|.slice a N q):=by
 have L:w.heap.size<=a:=u a rfl;have A:C9 (λk=>k=b) h (h.setCell b<|.slice a N q):=(C9.refl (λk=>k=b) _).setCell (p:=b) rO _;refine⟨rfl,.slice a N q,y,fl,?_,⟨?_,?_,I⟩,?_,?_⟩
 .rw[B,C,AH z]
 .exact zc D
 .exact E.rr.mod A (λg o n c e=>by cases e;omega)
 .intro g o n c e;cases e;exact L
 exact(G.mono rQ).then A (λi hi=>.inl hi)
def eY{a:zE}{h u:Nat}{q:rT}{z:rU}(B:Dd rs m hi m1 m2=a)(C:a.length=N)(D:N<=274877906944)(E:Dj q (.slice h N u) a)(y:∀g,(Value.slice h N u).ownBlock=some g->w.heap.size<=g)(G:C9 DA w q)(K:b<w.heap.size)
  (D:q.heap[b]?=some (.cells #[z,fl,[most]] 106 (0,0))) (z:most<N) :
  P6 rs fl most b hi m m1 m2 w (.returned<|.tuple #[]) ((q.setCell (b,1)<|.int .u64 ((DB a 0+1:Nat):Int)).setCell b<|.slice (h,2) (N-1)<|u-1):=by
 have L:w.heap.size<=h:=y h rfl;have A:C9 (λk=>k=b) q ((q.setCell (U b 1)<|.int .u64 ((DB a 0+1:Nat):Int)).setCell b<|.slice (U h 2) (N-1)<|u-1):=((C9.refl (λk=>k=b) _).setCell (p:=U b 1) rO _).setCell (p:=b) rO _;refine⟨rfl,.slice (U h 2) (N-1)<|u-1,a.drop 1,DB a 0+1,?_,⟨?_,?_,?_⟩,?_,?_⟩
 .rw[B,C,AL z]
 .exact zc (zc D)
 .exact(Vb E.rr I).mod A (λg o n c e=>by cases e;omega)
 .rw[Af];omega
 .intro g o n c e;cases e;exact L
 exact(G.mono rQ).then A (λi hi=>.inl hi)
theorem WG(rs:zE)(Z z b lo hi m1 m2:Nat)(v:rU)(w:rT)(h:Jr w b v rs Z z)(hw:WF rs)(aP:lo<18446744073709551616)(ak:hi<18446744073709551616)(aQ:Z<18446744073709551616)
  (aG:1<=z) (aF:z<=9223372036854775807) (aR:rs.length<274877906944) (aa:max lo Z<=hi) (h1:zU rs.length (Dk rs<|max lo Z) m1) (h2:zU rs.length (Dl rs hi) m2) :
  rH 39 #[(b,0),lo,hi] w (P6 rs Z z b hi (max lo Z) m1 m2 w):=by
 have aO:=h.len;have ag:=Mm hw aa ak h1 h2;have aH:=Ho hw aa h1 h2;have aq:=MH rs (max lo Z) hi m1 m2 aH h2.1;obtain⟨m,hm⟩:=nm<|max lo Z;have aS:m<18446744073709551616:=I;have HM:=zb hm;rw[hm]at aa h1 ag aq;rw[hm];have RB:=zb<|λi=>ir hw aa h1 h2 (i:=i);have RI:=zb<|λi=>X1 hw h1 h2 (i:=i);have RA:=zb<|λi=>iq hw aa ak h1 h2 (i:=i);have RE:=zb<|eF hw aa h1 h2;have aI:AA ((Dg rs m hi m1 m2).1<18446744073709551616/\(Dg rs m hi m1 m2).2<18446744073709551616):=by
  obtain⟨f1,f2,f3,_⟩:=Qe hw ak h1 h2;exact⟨I,f3⟩
 have c2:w (b,2)=some (.int .i64 z):=za h.obj rfl;have aJ:=zb c2;have aK:AA ((Dd rs m hi m1 m2).length<=rs.length+1):=by
  show _<=_;have:=h2.1;omega
 have ar:=zb ag;have H:=zb h;have aT:=h2.1;obtain⟨a,al,rfl,r1,r2,_⟩:=id h.rd;have c0:w b=some (.slice a rs.length al):=za h.obj rfl;have c1:w (b,1)=some (.int .u64 Z):=za h.obj rfl;have au:=zo c0;have aL:=zb c0;clear h ag aq h1 h2;by_cases hc:lo<Z;have d1:(lo:Int)<Z:=I;have d3:(Z:Int)=m:=I;rw[d3]at c1;have d2:¬(hi:Int)<m:=I;rotate_left;have e:m=lo:=qm HM.z;subst e;have d1:¬(m:Int)<Z:=I;have d2:¬(hi:Int)<m:=I
 all_goals
  clear hc hm;go_enter func39,ntmps39;go_wp2_with fail
  go_loopw [1,2,6,7,8] (λl h o d iv wr=>∃i:Nat,i<=rs.length/\iv=.int .i64 i/\l=.int .u64 ((Ec rs m hi m1 m2 i).1:Int)/\h=.int .u64 ((Ec rs m hi m1 m2 i).2:Int)/\(∃db,d=.bool db/\AA (db=decide (m2<i)))/\Dj wr o (EW rs m hi m1 m2 i)/\(∀g,o.ownBlock=some g->w.heap.size<=g)/\C9 DA w wr) (λ_ _ _ _ iv _=>rs.length-(intOf iv).toNat)
  case atStart =>
   refine⟨0,AK _,rfl,?_,?_,⟨false,rfl,zb nl⟩,?_,(λg hg=>by cases hg),C9.refl _ _⟩
   .rw[Rr]
   .rw[Rr]
   rw[X0];exact Dj.nil _
  case round =>
   obtain⟨i,h,rfl,rfl,rfl,⟨db,rfl,ad⟩,ac,ah,M⟩:=hrel;have h:=M.cell (a:=b) id aL.z;have h:=zb<|M.obj rP H.z.obj;have O:=zb M;obtain⟨oa,oc,rfl,_⟩:=zi ac.1;obtain⟨L,hL⟩:=nm<|(Ec rs m hi m1 m2 i).1;obtain⟨K,hH⟩:=nm<|(Ec rs m hi m1 m2 i).2;obtain⟨on,h⟩:=nm<|(EW rs m hi m1 m2 i).length;have av:Ec rs m hi m1 m2 i=(L,K):=by rw[<-hL,<-hH]
   have D:=zb av;have B:=zb h;rw[hL,hH,h];rw[h]at ac ah;have A:=zb ac;have R:=zb ah;have aU:on<=549755813889:=by
    rw[<-h];have:=Vd rs m hi m1 m2 i;omega
   clear hL hH ac ah av h;by_cases am:i<rs.length
   .obtain⟨_,_,e,_,_,rr⟩:=H.z.rd.mod M<|DN.no _;cases e;obtain⟨g,o,rfl,x1,x2,x3,x4⟩:=rr i am;obtain⟨p,h⟩:=nm<|DE rs i;obtain⟨q,hq⟩:=nm<|DB rs i;have HP:=zb h;have HQ:=zb hq;rw[h]at x1 x3;rw[hq]at x2 x4;have mr:C9 DA wr (wr.alloc<|.cells #[p,q] 110):=rS.alloc _;have ab:(wr.alloc<|.cells #[p,q] 110).heap.size=wr.heap.size+1:=nl;have ae:=zb mr;clear rr mr M h hq;obtain⟨v3,W3,y,C,G,X⟩:=Jz (wr.alloc<|.cells #[p,q] 110) (.slice oa on oc) (EW rs m hi m1 m2 i) p q (by have:=(A.z.mod ae.z<|λ_ _ x=>x).1;rw[B.z]at this;rw[B.z];exact this) (by rw[B.z];omega);rw[ab]at y;have n:=zb<|Oh (pq:=(p,q)) A.z B.z R.z O.z ae.z x3 x4 C G X;have an:p<=q:=by have:=hw.1 i am;rw[HP.z,HQ.z]at this;exact this.1
    clear C G X;by_cases h:i<m1
    .obtain⟨f1,f2,f3,f4,f5,f6⟩:=RB.z i h;rw[D.z]at f1;rw[HQ.z]at f2 f4;rw[HP.z]at f4;cases f1;have E:db=false:=by rw[ad.z];simp;omega
     subst E;have e1:(q:Int)<m:=I;have w1:=wu ((m:Int)-q) I;have e2:(1:Int)<(m:Int)-q:=I;clear ab;go_wp2_with (at_builtin;refine zm rfl _ _ _ _ rfl _ _ _ rfl rfl y ?_;clear y);go_roundw
     case rel=>exact⟨i+1,I,by go_num,by rw[f3],by rw[f3],⟨false,rfl,zb ol⟩,by rw[f4];exact n.z.1,n.z.2.1,n.z.2.2⟩
     simp[intOf];omega
    by_cases h:i<m2
    .obtain⟨f1,f2,f3,f4⟩:=RI.z i I h;rw[D.z,HQ.z]at f1;rw[D.z,HP.z]at f2;rw[D.z,HQ.z,HP.z]at f3;simp only at f1 f2 f3;have F3:=zb f3;have F4:=zb f4;have E:db=false:=by rw[ad.z];simp;omega
     subst E;have h:L<=K:=by have:=NG (rs:=rs) m1 m2 i aa;rw[D.z]at this;exact this
     clear f3 f4 ab y n;by_cases e1:(q:Int)<L<;>by_cases e2:(K:Int)<p<;>by_cases e3:(p:Int)<L<;>by_cases e4:(K:Int)<q<;>first|(exfalso;omega)|skip;all_goals
      try have w1:IntKind.u64.wrap ((L:Int)-q)=1:=by rw[IntKind.wrap_u64];omega
      try have w2:IntKind.u64.wrap ((p:Int)-K)=1:=by rw[IntKind.wrap_u64];omega
      have HF:AA (p<=q/\L<=K/\L<=q+1/\p<=K+1):=⟨an,h,f1,f2⟩;have M:=zb<|And.intro e3 e4;clear an h f1 f2;go_wp2;go_roundw
      case rel=>exact⟨i+1,I,by go_num,by rw[F3.z];show Value.int .u64 _=Value.int .u64 _;congr 1;have:=M.z;have:=HF.z;omega,by rw[F3.z];show Value.int .u64 _=Value.int .u64 _;congr 1;have:=M.z;have:=HF.z;omega,⟨false,rfl,zb ol⟩,by rw[F4.z];exact A.z.mod ae.z<|λ_ _ x=>x,R.z,O.z.trans ae.z⟩
      simp[intOf];omega
    obtain⟨f1,f2,f3,f4,f5,f6⟩:=RA.z i I am;rw[D.z]at f1;rw[<-f1]at f2 f3 f4 f5;rw[HP.z]at f3 f5 f6;rw[HQ.z]at f5 f6;simp only at f3 f4;have e1:¬(q:Int)<L:=I;have e2:(K:Int)<p:=I;have w2:=wu ((p:Int)-K) I;have e3:(1:Int)<(p:Int)-K:=I;have af:L<18446744073709551616/\K<18446744073709551616:=I;have F2:=zb f2;have F5:=zb f5;have F6:=zb f6;have aw:=zb af;clear f1 f2 f3 f4 f5 f6 an af;by_cases hC:i=m2
    .have E:db=false:=by rw[ad.z];simp;omega
     subst E;clear y n;obtain⟨v3,W3,y,C,G,X⟩:=Jz (wr.alloc<|.cells #[p,q] 110) (.slice oa on oc) (EW rs m hi m1 m2 i) L K (by have:=(A.z.mod ae.z<|λ_ _ x=>x).1;rw[B.z]at this;rw[B.z];exact this) (by rw[B.z];omega);rw[ab]at y;have u:=Oh (pq:=(L,K)) A.z B.z R.z O.z ae.z aw.z.1 aw.z.2 C G X;have ao:W3.heap[wr.heap.size]?=some (.cells #[p,q] 110 (0,0)):=by
      rw[G.block _ (by rw[ab];omega) (λe=>qm<|Vc A.z.1 _ e.symm)];exact heap_alloc_new wr _
     obtain⟨xa,xc,rfl,_⟩:=zi u.1.1;have h:(EW rs m hi m1 m2 i++[(L,K)]).length=on+1:=by rw[AF,B.z];rfl
     rw[h]at y u;obtain⟨v4,W4,ax,M,ay,aA⟩:=Jz W3 (.slice xa (on+1) xc) (EW rs m hi m1 m2 i++[(L,K)]) p q (by have:=u.1.1;rw[h]at this ⊢;exact this) (by rw[h];omega);have n:=zb<|Oh (pq:=(p,q)) u.1 h u.2.1 u.2.2 rS x3 x4 M ay aA;have z1:W3 wr=some (.int .u64 p):=za ao rfl;have z2:W3 (wr,1)=some (.int .u64 q):=za ao rfl;have HC:=zb hC;clear ab C G X M ay aA u h ao hC;go_wp2_with (at_builtin;first|(refine zm rfl _ _ _ _ rfl _ _ _ rfl rfl y ?_;clear y)|(refine zm rfl _ _ _ _ rfl _ _ _ rfl rfl ax ?_;clear ax));go_roundw
     case rel=>exact⟨i+1,I,by go_num,by rw[F2.z],by rw[F2.z],⟨true,rfl,zb (by have:=HC.z;simp;omega)⟩,by rw[F5.z HC.z];exact n.z.1,n.z.2.1,n.z.2.2⟩
     simp[intOf];omega
    have E:db=true:=by rw[ad.z];simp;omega
    subst E;clear ab;go_wp2_with (at_builtin;refine zm rfl _ _ _ _ rfl _ _ _ rfl rfl y ?_;clear y);go_roundw
    case rel=>exact⟨i+1,I,by go_num,by rw[F2.z],by rw[F2.z],⟨true,rfl,zb ol⟩,by rw[F6.z I];exact n.z.1,n.z.2.1,n.z.2.2⟩
    simp[intOf];omega
   have Y:i=rs.length:=I;have h:=zb Y;by_cases hC:rs.length<=m2;have E:db=false:=by rw[ad.z];simp;omega
   subst E;obtain⟨g1,h⟩:=RE.z.1 hC;rw[<-Y,D.z]at h;rw[<-Y,<-h]at g1;have af:L<18446744073709551616/\K<18446744073709551616:=by have:=aI.z;rw[<-h]at this;exact this
   obtain⟨v3,W3,y,C,G,X⟩:=Jz wr (.slice oa on oc) (EW rs m hi m1 m2 i) L K (by rw[B.z];have:=A.z.1;rw[B.z]at this;exact this) (by rw[B.z];omega);have u:=Oh (pq:=(L,K)) A.z B.z R.z O.z rS af.1 af.2 C G X;rw[g1]at u;clear C G X g1 h af;rotate_left;have E:db=true:=by rw[ad.z];simp;omega
   subst E;have g1:=RE.z.2 I;rw[<-Y]at g1;obtain⟨v3,ap⟩:∃v3,v3=Value.slice oa on oc:=⟨_,rfl⟩;obtain⟨W3,rfl⟩:=nn wr;have u:Dj W3 v3 (Dd rs m hi m1 m2)/\(∀g,v3.ownBlock=some g->w.heap.size<=g)/\C9 DA w W3:=by rw[ap,<-g1];exact⟨A.z,R.z,O.z⟩
   clear g1;all_goals
    have n:=zb u;obtain⟨xa,xc,e3,aB,_,aC⟩:=zi u.1.1;clear u;have HC:=zb hC;clear Y hC;obtain⟨N,hN⟩:=nm<|(Dd rs m hi m1 m2).length;have HN:=zb hN;rw[hN]at aC aB e3;have aM:0<N:=by rw[<-hN];exact QQ rs m hi m1 m2
    obtain⟨xg,rfl⟩:=aC aM;try rw[<-ap,e3]
    try clear ap
    subst e3;have g:=n.z.2.2.cell (a:=U b 2) id aJ.z;have g:W3.heap[b]?=some (.cells #[.slice a rs.length al,Z,[z]] 106 (0,0)):=n.z.2.2.obj rP H.z.obj;have h:W3.frozen? ⟨b,0,none⟩=false:=zd g;have h:W3.frozen? ⟨b,1,none⟩=false:=zd g;have h:W3 b=some (.slice a rs.length al):=za g rfl;have a:W3 (b,1)=some (.int .u64 Z):=za g rfl;have aD:=zb g;clear hN g;have aE:N<=274877906944:=by
     have:=aK.z;have:=HN.z;omega
    by_cases ai:z<N
    .have aN:(z:Int)<N:=I;obtain⟨a,aj⟩:=nm<|DB (Dd rs m hi m1 m2) 0;have g:IntKind.u64.wrap ((a:Int)+1)=(a:Int)+1:=by
      have g:=ar.z.2 0 1 I<|qm HN.z;have q2:=ar.z.1 1<|qm HN.z;rw[aj]at g;rw[IntKind.wrap_u64];omega
     have g:W3 (xg,1)=some (.int .u64 a):=by
      obtain⟨_,_,e,_,_,q⟩:=n.z.1.rr;obtain⟨a,g,e2,_,q2,_⟩:=q 0<|qm HN.z;cases e;cases e2;rw[aj]at q2;exact q2
     have e:=zb aj;have a:=zb ai;clear ai aj;have g:(1:Int)<=N:=I;have g:2<=xc:=qm aB;go_wp2_with (at_builtin;refine zm rfl _ _ _ _ rfl _ _ _ rfl rfl y ?_;clear y);all_goals first
      | (exfalso;omega)
      | (refine bodyPost_end (results_none rfl _ _ _) rfl ?_;have:=eY (rs:=rs) (m:=m) (hi:=hi) (m1:=m1) (m2:=m2) rfl HN.z aE n.z.1 n.z.2.1 n.z.2.2 au aD.z a.z;rw[e.z]at this;exact this)
    have aN:¬(z:Int)<N:=I;have a:=zb ai;clear ai;go_wp2_with (at_builtin;refine zm rfl _ _ _ _ rfl _ _ _ rfl rfl y ?_;clear y);refine bodyPost_end (results_none rfl _ _ _) rfl ?_;exact eD rfl HN.z aE n.z.1 n.z.2.1 n.z.2.2 au aD.z a.z
def DP:zE->Nat->Nat->Nat×Nat
 | [],lo,hi=>(lo,hi)
 | r::l,lo,hi=>if r.2<lo then DP l lo hi else if lo<r.1 then(lo,min hi r.1)else DP l (r.2+1) hi
variable{k:Nat}
def Rw(h:k<rs.length):rs.drop k=(DE rs k,DB rs k)::rs.drop (k+1):=by
 rw[B5 h];congr 1;have:=Gz h;rw[AG h]at this;exact Bc this
theorem Pp(rs:zE)(z e b o lo hi:Nat)(v:rU)(w:rT)(h:Ed w b o v rs z e)(q:lo<=9223372036854775808)(hb:∀k,k<rs.length->DB rs k<9223372036854775808):rH 136 #[(b,o),lo,hi] w λe w'=>e=.returned (.tuple #[.int .u64 ((DP rs lo hi).1:Int),.int .u64 ((DP rs lo hi).2:Int)])/\C9 DA w w':=by
 obtain⟨a,e,rfl,z,A,y⟩:=zi h.own;have B:=h.cl;have C:=zb h;have D:=zb y;have HB:=zb hb;unfold maxLen at A;clear h y hb;obtain⟨G,e⟩:=nm<|DP rs lo hi;rw[e];have h:=zb e;clear e;go_enter func136,ntmps136;go_wp2_with fail
 go_loopw [1,15] (λy e wr=>∃k L:Nat,k<=rs.length/\y=.int .u64 L/\e=.int .i64 k/\C9 DA w wr/\L<=9223372036854775808/\AA (DP (rs.drop k) L hi=G)) (λ_ e _=>rs.length-(intOf e).toNat)
 case atStart=>exact⟨0,lo,AK _,rfl,rfl,C9.refl _ _,q,h⟩
 case round =>
  obtain⟨k,L,e,rfl,rfl,m,E,u⟩:=hrel;have M:=zb m;by_cases n:k<rs.length
  .obtain⟨g,rfl⟩:=D.z I;obtain⟨e,h⟩:=Hp C.z.own k n;have e:=m.cell (a:=⟨g,_,none⟩) id e;have h:=m.cell (a:=⟨g,_,none⟩) id h;have g:=HB.z k n;have a:AA (DP (rs.drop k) L hi=if DB rs k<L then DP (rs.drop<|k+1) L hi else if L<DE rs k then(L,min hi<|DE rs k)else DP (rs.drop<|k+1) (DB rs k+1) hi):=by
    show _=_;rw[Rw n];rfl
   obtain⟨p,n⟩:=nm<|DE rs k;obtain⟨q,y⟩:=nm<|DB rs k;rw[n]at e a;rw[y]at h a g;clear m n y B;by_cases c1:q<L
   .have g:(q:Int)<L:=I;have e:AA (DP (rs.drop<|k+1) L hi=G):=by
     have:=a.z;rw[AL c1,u.z]at this;exact this.symm
    clear c1 a;go_wp2;go_roundw
    case rel=>exact⟨k+1,L,I,rfl,by go_num,M.z.alloc _,E,e⟩
    simp[intOf];omega
   have g:¬(q:Int)<L:=I;by_cases c2:L<p
   .have h:(L:Int)<p:=I;have e:AA (G=(L,min hi p)):=by
     have:=a.z;rw[AH c1,AL c2,u.z]at this;exact this
    clear c1 c2 a;by_cases g:p<=hi
    .have n:(p:Int)<=hi:=I;have y:AA (min hi p=p):=zb I;clear g;go_wp2;go_quiet (fail);go_wp2_with fail;all_goals first
      | (exfalso;omega)
      | (go_ret2;exact⟨by rw[e.z];(first|(rw[(I:min hi p=p)];rfl)|(rw[(I:min hi p=hi)];rfl)),(M.z.alloc _).drewN _⟩)
    have n:¬(p:Int)<=hi:=I;have y:AA (min hi p=hi):=zb I;clear g;go_wp2;go_quiet (fail);go_wp2_with fail;all_goals first
     | (exfalso;omega)
     | (go_ret2;exact⟨by rw[e.z];(first|(rw[(I:min hi p=p)];rfl)|(rw[(I:min hi p=hi)];rfl)),(M.z.alloc _).drewN _⟩)
   have h:¬(L:Int)<p:=I;have g:=wu ((q:Int)+1) I;have e:AA (DP (rs.drop<|k+1) (q+1) hi=G):=by
    have:=a.z;rw[AH c1,AH c2,u.z]at this;exact this.symm
   clear c1 c2 a;go_wp2;go_roundw
   case rel=>exact⟨k+1,q+1,I,by go_num,by go_num,M.z.alloc _,I,e⟩
   simp[intOf];omega
  have a:k=rs.length:=I;have e:AA (G=(L,hi)):=by
   have:=u.z;rw[a,List.drop_length]at this;exact this.symm
  clear m a u;go_wp2;go_ret2;exact⟨by rw[e.z];rfl,M.z⟩
end
section
open Go.RowKit Go.Proofs.Tryz Go.Shelf
attribute [local go_sem] Oper.semAt_some
def FG(rs:zE)(k:Nat):List (Nat×(Nat×Nat)):=(List.range k).map λj=>(rs.length-1-j,(DE rs (rs.length-1-j),DB rs (rs.length-1-j)))
def jE(rs:zE)(k:Nat):FG rs (k+1)=FG rs k++[(rs.length-1-k,(DE rs (rs.length-1-k),DB rs (rs.length-1-k)))]:=by simp[FG,BK]
def jm(rs:zE)(k:Nat):(FG rs k).length=k:=by simp[FG]
def Iu(x:Nat×(Nat×Nat)):Array rU:=#[.int .i64 x.1,.agg #[.int .u64 x.2.1,.int .u64 x.2.2]]
def FP(e:Nat)(a:qs)(W W':rT):Prop:=W'.heap[e]?=W.heap[e]?/\∀g o,a=some ⟨g,o,none⟩->W'.heap[g]?=W.heap[g]?
def FP.refl(e:Nat)(a:qs)(W:rT):FP e a W W:=⟨rfl,λ_ _ _=>rfl⟩
variable{a:qs}
def FP.trans{e:Nat}{A B C:rT}(h:FP e a A B)(k:FP e a B C):FP e a A C:=⟨k.1.trans h.1,λg o e=>(k.2 g o e).trans (h.2 g o e)⟩
variable{v:rU}
def FP.box{e:Nat}{A B:rT}(h:FP e a A B)(a:A e=some v):B e=some v:=(World.cell?_of_block h.1).trans a
variable{g o:Nat}
def FP.row{a x:Nat}{A B:rT}(h:FP a (some ⟨g,o,none⟩) A B)(e:A (g,x)=some v):B (g,x)=some v:=(World.cell?_of_block (h.2 g o rfl)).trans e
def YU(F:Fence)(n:Nat)(hF:F.fn 152)(K:F.round=none)(hn:1<=n)(l g cap:Nat)(a:qs)(rs:zE)(J G:List (Nat×(Nat×Nat))->rT->Prop)
  (L:∀pre x W,J pre W->pre.length<rs.length->YieldAt F (n-1) prog l (Iu x) W λe W' =>
   (e=.returned (.bool true)/\J (pre++[x]) W'/\FP g a W W')\/(e=.returned (.bool false)/\G (pre++[x]) W'))
  (W:rT) (z:W.cell? g=some (.slice a rs.length cap)) (hr:RR W (.slice a rs.length cap) rs) (h0:J [] W) :
  CallsIn F n prog 152 #[.func (.yield l) #[] #[],.pointer g] W λe W'=>(∃v,e=.returned v) /\
   ((∃n,n=FG rs rs.length/\J n W')\/(∃pre,(∃k,k<=rs.length/\pre=FG rs k)/\G pre W')):=by
 obtain⟨_,_,e,n,r2,M⟩:=hr;cases e;unfold maxLen at r2;have n:(rs.length:Int)<=9223372036854775807:=I;refine callsIn_of_wp func152 rfl hF ?_ K;simp only[ntmps152,PM,Nat.reduceAdd,Nat.reduceSub];gi_wp2
 gi_loopw [3] (λi wr=>∃k:Nat,k<=rs.length/\i=.int .i64 ((rs.length:Int)-1-k)/\J (FG rs k) wr/\FP g a W wr) (λi _=>(intOf i+1).toNat)
 case atStart=>exact⟨0,AK _,nl,h0,FP.refl _ _ _⟩
 case round =>
  obtain⟨k,a,rfl,m,h⟩:=hrel;by_cases N:k<rs.length
  .obtain⟨q,X⟩:=nm<|rs.length-1-k;have A:(rs.length:Int)-1-k=(q:Int):=I;have O:q<rs.length:=I;obtain⟨g,o,rfl,c1,c2,_,_⟩:=M q O;have u:=h.box z;have B:=h.row c1;have C:=h.row c2;obtain⟨O,g,a,body,n,K⟩:=L _ (q,(DE rs q,DB rs q)) wr m (by rw[jm];exact N);have HB:=zb<|jE rs k;have Y:=zb X;have Z:=zb m;have R:=zb A;unfold Iu at n;dsimp only at n;rw[A];clear X m M c1 c2 A;gi_wp2;refine K.mono ?_;clear K L;rintro e W3 (⟨rfl,D,E⟩|⟨rfl,y⟩)
   .have a:AA (J (FG rs<|k+1) W3):=by
     show J _ _;rw[HB.z,Y.z];exact D
    have e:=zb<|h.trans E;clear D E h u B C z;gi_wp2;go_roundw
    case rel=>exact⟨k+1,I,by rw[<-R.z];congr 1;omega,a.z,e.z⟩
    simp[intOf]
   have a:AA (G (FG rs<|k+1) W3):=by
    show G _ _;rw[HB.z,Y.z];exact y
   clear y h u B C z;gi_wp2;refine bodyPost_ret (results_none rfl _ _ _) rfl ?_;exact⟨⟨_,rfl⟩,.inr ⟨_,⟨k+1,I,rfl⟩,a.z⟩⟩
  have a:k=rs.length:=I;have Z:=zb m;have g:=zb a;have e:¬(0:Int)<=(rs.length:Int)-1-k:=I;clear m a M L;gi_wp2
  go_end0
  exact⟨⟨_,rfl⟩,.inl<|by rw[<-g.z];exact Z.z⟩
def Rj(F:Fence)(n:Nat)(h:F.fn 112)(g:F.round=none)(a:qs)(len cap:Nat)(w:rT):CallsIn F n prog 112 #[.slice a len cap] w λe w'=>e=.returned (.func (.func 152) #[] #[.pointer w])/\w'=w.alloc (.cells #[.slice a len cap] 46):=by
 refine callsIn_of_wp func112 rfl h ?_ g;simp only[ntmps112,PM,Nat.reduceAdd,Nat.reduceSub];gi_wp2;go_ret;exact rM
def fJ(F:Fence)(n:Nat)(y:F.fn 152)(m:F.round=none)(z:1<=n)(g cap:Nat)(a:qs)(rs:zE)(w:rT)(h:w g=some (.slice a rs.length cap))(A:RR w (.slice a rs.length cap) rs):SeqStopsK F n prog 152 #[.pointer g] Iu (FP g a) (λu=>u=FG rs rs.length) (λpre=>∃k,k<=rs.length/\pre=FG rs k) rs.length w:=λl J B W q _ _ C D=>by
 have u:=zo h;refine YU F n y m z l g cap a rs J B C W ((q.cell (p:=g) u).trans h) ?_ D;obtain⟨_,_,e,E,G,K⟩:=A;cases e;refine⟨_,_,rfl,E,G,λi h=>?_⟩;obtain⟨g,o,e,a,m,n,u⟩:=K i h;have h:=zo a;exact⟨g,o,e,(q.cell (p:=⟨g,_,none⟩) h).trans a,(q.cell (p:=⟨g,_,none⟩) h).trans m,n,u⟩
end
section
open Go.RowKit Go.Proofs.Tryz Go.Shelf
attribute [local go_sem] Oper.semAt_some
def V4(F:Fence)(n:Nat)(g:F.fn 81)(a:F.round=none)(b:Nat)(w:rT):CallsIn F n prog 81 #[.pointer b] w λe w'=>e=.returned (.func (.func 111) #[] #[.pointer w])/\w'=w.alloc (.cells #[(b,0)] 101):=by
 refine callsIn_of_wp func81 rfl g ?_ a;simp only[ntmps81,PM,Nat.reduceAdd,Nat.reduceSub];gi_wp2;go_ret;exact rM
def I4(lb e:Nat)(a:qs)(W:rT)(k:Nat):Prop:=k=lb\/k=e\/((∀g o,a=some ⟨g,o,none⟩->k≠g)/\∃cs fz,W.heap[k]?=some (.cells cs 110 fz))
def LU(x:Nat×Nat):Array rU:=#[.agg #[.int .u64 x.1,.int .u64 x.2]]
def YT(F:Fence)(n:Nat)(z:∀f,F.fn f)(A:F.round=none)(m:4<=n)(l K b lb cap:Nat)(a:qs)(rs:zE)(J Jx:List (Nat×Nat)->rT->Prop)(W:rT)
  (B:∀m pre x W1,J pre W1->pre.length<rs.length->YieldAt F m prog l (LU x) W1 λe W' =>
   C9 (I4 lb l a W1) W1 W'/\((e=.returned (.bool true)/\J (pre++[x]) W')\/(e=.returned (.bool false)/\Jx (pre++[x]) W')))
  (hJ:OwnFrom W.heap.size J) (m:OwnFrom W.heap.size Jx) (G:W K=some (.pointer b)) (hb:W b=some (.slice a rs.length cap)) (y:RR W (.slice a rs.length cap) rs) (an:lb<W.heap.size) (hl:l<W.heap.size) (ha:∀g o,a=some ⟨g,o,none⟩->g<W.heap.size/\g≠lb/\g≠l) (h0:J [] W) :
  CallsIn F n prog 111 #[.func (.yield l) #[] #[],.pointer K] W λe W'=>(∃v,e=.returned v) /\
   (J ((FG rs rs.length).map (·.2)) W'\/∃k,k<=rs.length/\Jx ((FG rs k).map (·.2)) W'):=by
 have HJ:=zb hJ;have aa:=zb m;have HY:=zb B;have HR:=zb y;have H0:=zb h0;have ah:(W.alloc<|.cells #[.func (.yield l) #[] #[]] 188) K=some (.pointer b):=((C9.refl DA W).alloc _).cell (a:=K) id G;have ai:(W.alloc<|.cells #[.func (.yield l) #[] #[]] 188) b=some (.slice a rs.length cap):=((C9.refl DA W).alloc _).cell (a:=b) id hb;have h1:1<=n:=I;clear hJ m B y h0;refine callsIn_of_wp_marks func111 rfl (z _) ?_ A;simp only[ntmps111,PM,Nat.reduceAdd,Nat.reduceSub]
 gi_wp2_with (gi_at_call 112;refine(Rj F (n-1) (z _) A _ _ _ _).mono ?_;rintro e w' ⟨rfl,rfl⟩)
 obtain⟨q,B⟩:=nm W.heap.size;have bY:Boxed ((W.alloc<|.cells #[.func (.yield l) #[] #[]] 188).alloc<|.cells #[.slice a rs.length cap] 46) q 188 (.func (.yield l) #[] #[]):=by
  rw[<-B];exact(Boxed.new W _ _).alloc _
 have bS:Boxed ((W.alloc<|.cells #[.func (.yield l) #[] #[]] 188).alloc<|.cells #[.slice a rs.length cap] 46) (q+1) 46 (.slice a rs.length cap):=by
  have:=Boxed.new (W.alloc<|.cells #[.func (.yield l) #[] #[]] 188) 46<|.slice a rs.length cap;rw[World.size_alloc,B]at this;exact this
 have m0:C9 DA W ((W.alloc<|.cells #[.func (.yield l) #[] #[]] 188).alloc<|.cells #[.slice a rs.length cap] 46):=(rS.alloc _).alloc _;obtain⟨w1,m⟩:=nm<|((W.alloc<|.cells #[.func (.yield l) #[] #[]] 188).alloc<|.cells #[.slice a rs.length cap] 46);have ao:w1.heap.size=q+2:=by rw[<-m];simp;omega
 have aj:J [] w1:=by rw[<-m];exact HJ.z.alloc _<|HJ.z.alloc _ H0.z
 rw[m]at bY bS m0 ⊢;rw[B];have B:=HR.z.mod m0<|DN.no _;clear m ah ai;refine wpIn_rangeFunc_ownH A h1 (gf:=152) (lb:=#[.pointer (U (q+1) 0)]) rfl (z _) (enters_of func152 kw rfl)
  (fJ F (n-1) (z _) A I (q+1) cap a rs w1 bS.cell B) (λh k=>h.trans k) ?hKb (Below.refl _ _) (λ_=>rfl)
  (λpre X=>(J (pre.map (·.2)) X/\Boxed X q 188 (.func (.yield l) #[] #[]))/\Boxed X (q+1) 46 (.slice a rs.length cap))
  (λc pre X=>c=.ret/\Jx (pre.map (·.2)) X) ?hI ?hIx ⟨⟨aj,bY⟩,bS⟩
  (λx a' X=>∃C,a'={ tmps:=#[.func (.yield l) #[] #[],.pointer K,.pointer q,undef,.pointer<|some ⟨C,0,none⟩,.pointer b,.pointer b,.pointer b,.slice a rs.length cap,.func (.func 152) #[] #[.pointer (U (q+1) 0)],.int .i64 x.1,.agg #[.int .u64 x.2.1,.int .u64 x.2.2],undef,undef,undef,undef],defers:=[] } /\
   X.heap[C]?=some (.cells #[x.2.1,x.2.2] 110 (0,0))) ?hAx ?assign ?body ?done ?stop
 case hKb =>
  intro X z o A m _ _ _;exact⟨World.putObj_heap_other I,λg o e=>World.putObj_heap_other<|qm<|(ha g o e).1⟩
 case hI =>
  exact OwnFrom.and (OwnFrom.and (λs A B row G m y=>HJ.z _ A B row G m<|λr e=>⟨qm<|(y r e).1,(y r e).2⟩)<|Own.from (boxed_own q _<|λ_=>_) _)<|Own.from (boxed_own (q+1) _<|λ_=>_) _
 case hIx =>
  intro c s A B row G m y;exact⟨G.1,aa.z _ A B row G.2 m<|λr e=>⟨qm<|(y r e).1,(y r e).2⟩⟩
 case hAx =>
  intro x a' s A B row G m y;obtain⟨C,e,L⟩:=G;refine⟨C,e,(m.block C (AJ.1 L).1<|λm=>?_).trans L⟩;obtain⟨_,o,ab,M⟩:=y C m.symm;rw[L]at ab;cases ab;cases M
 case assign =>
  intro l' pre x X K hI N;unfold Iu;gi_wp2;refine N _ _ ((KeepsOthers.alloc X _).from _) ⟨Below.heap_alloc _ _ _ hI.2.lt,λg o e=>Below.heap_alloc _ _ _ ?_⟩ ⟨⟨?_,hI.1.2.alloc _⟩,hI.2.alloc _⟩ ⟨X.heap.size,rfl,heap_alloc_new X _⟩
  .have m:=(ha g o e).1;have m:=hI.2.lt;omega
  exact HJ.z.alloc _ hI.1.1
 case body =>
  rintro l' pre x a' X y ac ⟨⟨O,hy⟩,R⟩ ⟨C,rfl,ad⟩ m;have yc:=hy.cell;have y:X C=some (.int .u64 x.2.1):=za ad rfl;have y:X (C,1)=some (.int .u64 x.2.2):=za ad rfl;obtain⟨z,tmps,assign,body,Y,y⟩:=HY.z (n-1-1-1) (pre.map (·.2)) x.2 X O<|qp m;unfold LU at Y;have m:1<=n-1-1:=I;have m:=zb O;clear O ac;have m:=zb y;clear y;gi_wp2;refine RoundIn.mono (F:=F.inRound l') (show RoundIn (F.inRound l') _ _ _ _ _ _ _ _ _ from m.z) ?_;rintro e X3 ⟨Z,ae⟩;have af:=hy.lt;have u:=R.lt;have nY:¬I4 lb l a X q:=by
   rintro(h|h|⟨_,cs,fz,h⟩)
   .omega
   .omega
   rw[show X.heap[q]?=_ from hy]at h;simp at h
  have nS:¬I4 lb l a X (q+1):=by
   rintro(h|h|⟨_,cs,fz,h⟩)
   .omega
   .omega
   rw[show X.heap[q+1]?=_ from R]at h;simp at h
  have ag:AA (KeepsFrom w1.heap.size X X3):=⟨Z.size,λk o hk L M=>by
   refine(Z.block k (AJ.1 L).1 ?_).trans L;rintro(h|h|⟨_,cs,fz,h⟩)
   .omega
   .omega
   rw[L]at h;cases h;cases M⟩
  have ak:AA (FP (q+1) a X X3):=⟨Z.block _ u nS,λg o e=>Z.block _ (qm<|(ha g o e).1) (by
   rintro(h|h|⟨h,_⟩)
   .exact(ha g o e).2.1 h
   .exact(ha g o e).2.2 h
   exact h g o e rfl)⟩
  have al:AA (Boxed X3 q 188<|.func (.yield l) #[] #[]):=(Z.block _ af nY).trans hy;have am:AA (Boxed X3 (q+1) 46<|.slice a rs.length cap):=(Z.block _ u nS).trans R;clear nY nS Z af u;rcases ae with⟨rfl,E⟩|⟨rfl,E⟩
  .have a:=zb E;clear E yc Y;gi_wp2;exact⟨ag.z,ak.z,⟨by rw[A9];exact a.z,al.z⟩,am.z⟩
  have a:=zb E;clear E yc Y;gi_wp2;exact⟨ag.z,rfl,by rw[A9];exact a.z⟩
 case done =>
  rintro D a X hD rfl ⟨⟨E,_⟩,_⟩ N;gi_wp2;refine⟨nl,.inl ⟨_,_,rfl,run_takeDeferred N,?_⟩⟩;exact⟨_,results_none rfl _ _ _,⟨_,rfl⟩,.inl<|HJ.z.putObj _ E I N rfl⟩
 case stop =>
  rintro D c pre X hD ⟨k,hk,rfl⟩ ⟨rfl,E⟩ N;gi_wp2;refine⟨nl,.inl ⟨_,_,rfl,run_takeDeferred N,?_⟩⟩;exact⟨_,results_none rfl _ _ _,⟨_,rfl⟩,.inr ⟨k,hk,aa.z.putObj _ E I N rfl⟩⟩
end
section
open Go.RowKit Go.Proofs.Tryz Go.Shelf
attribute [local go_sem] Oper.semAt_some
variable{P:Program}{Q:Exit->Act->rT->Prop}{n:Nat}{ops:Array Oper}{w w1:rT}
def j4{F:Fence}{rest:List Oper}{o:Oper}{a:Act}(g:o.guard=none)(s x:Operand)(t u:TypeId)
  (m:o.op=.call { callee:=.builtin .append,args:=#[s,x],argTypes:=#[t,u] }) (y z v':rU) (A:a.eval s=y) (B:a.eval x=z)
  (DG:∀C,(Builtin.append_ #[t,u] C #[y,z]).run P w=.ok v' w1) (h:wpListIn F n P ops Q rest (a.put o.dst v') w1):wpListIn F n P ops Q (o::rest) a w:=by
 refine wpListIn_plain g λK D=>?_
 have e:=DG o.type;unfold Oper.wpIn;refine⟨by simp[Oper.about,m,resolve,Target.leads,Sem.run_pure],?_⟩;rw[Oper.semAt_plain F _ _ (by rw[m];intro c q;cases q)];simp[execOp,m,resolve,invoke,builtin,A,B,e,Result.andThen];exact D _ _ h
variable{S:Nat->Prop}{w':rT}
def C9.putObj(h:C9 S w w'){l:Nat}(g:S l\/w.heap.size<=l)(o:Obj):C9 S w (w'.putObj l o) :=
 ⟨h.os,h.tape,h.output,qp h.size,λi m a=>(World.putObj_heap_other (λe=>by
  subst e;rcases g with x|x
  .exact a x
  omega)).trans (h.block i m a)⟩
structure JZ(w:rT)(left:Nat)(rec:Loop)(pre:zE)(v:rU)(X:rT):Prop where
 mod:C9 DA w X
 bl:Boxed X w.heap.size 3 (.int .i64 left)
 bx:Boxed X (w.heap.size+2) 46 v
 own:X.ownsRow 0 110 2 v pre.length (zw pre)
 new:∀g,v.ownBlock=some g->w.heap.size<=g
 df:X.heap[w.heap.size+3]?=some (.deferred<|some [])
 rc:X.heap[w.heap.size+4]?=some (.loop rec)
def JZ.nA{left:Nat}{g:Loop}(p:zE->Prop):OwnFrom (w.heap.size+5) (λpre X=>p pre/\∃v,JZ w left g pre v X):=by
 rintro pre A B row ⟨g,v,h⟩ n u;refine⟨g,v,?_⟩;have m:∀k,k<w.heap.size+5->some k≠row:=λk g e=>qm<|(u k e.symm).1
 have z:=rS.grown n<|λk g=>.inl g;refine⟨h.mod.then z<|λi g=>.inr<|qm<|(u i g).1,h.bl.kept n<|m _ I,h.bx.kept n<|m _ I,z.owns h.own<|λg a z=>?_,h.new,?_,?_⟩
 .obtain⟨_,o,C,y⟩:=u g z;rcases h.own.2 with⟨e,_⟩|⟨z,g,u,e,_,q,_⟩
  .rw[e]at a;cases a
  rw[e]at a;simp[Value.ownBlock]at a;subst a;rw[C]at q;cases q;cases y
 .exact(n.block _ (AJ.1 h.df).1<|m _ I).trans h.df
 exact(n.block _ (AJ.1 h.rc).1<|m _ I).trans h.rc
def Uv{F:Fence}{g:Operand}{m:Array Tmp}{assign body:Code}{a:Act}(q:F.round=none)(y:1<=n){gf:Nat}{lb:Array rU}(z:a.eval g=.func (.func gf) #[] lb)
  (u:F.fn gf) (A:∀args w,(callFunc gf args).run P w=.ok (.enter gf args) w)
  (h:∀fn,F.fn fn->CallsIn F (n-1) P gf (#[.func (.yield<|w.heap.size+1) #[] #[]]++lb) ((w.alloc<|.deferred<|some []).alloc<|.loop { state:=.ready,pending:=none,fn:=fn,tmps:=a.tmps,params:=m,assign:=assign,body:=body,defers:=w.heap.size })
   (rangePost F n P (w.heap.size+1) Q { a with defers:=[{ target:=.collected w.heap.size,args:=#[] }]++a.defers })) :
  (Code.rangeFunc g m assign body).wpIn F n P Q a w:=by
 refine wpIn_rangeFunc λfn g=>⟨_,_,_,{ target:=.fn (.func gf) lb,args:=#[.func (.yield<|w.heap.size+1) #[] #[]] },(w.alloc<|.deferred<|some []).alloc<|.loop { state:=.ready,pending:=none,fn:=fn,tmps:=a.tmps,params:=m,assign:=assign,body:=body,defers:=w.heap.size },gf,_,_,by rw[q];exact run_enterLoop_outer _ _ _ _ _,?_,?_,?_,λ_=>y,h fn g⟩
 .simp only[resolve,z];simp[go_sem]
 .intro a e;simp[Target.leads]at e;subst e;exact u
 simp[invoke,go_sem,A]
variable{base e sz:Nat}{v:rU}{xs:qt}
def Vz(h:w.ownsRow base e sz v n xs):∀g,v.ownBlock=some g->g<w.heap.size:=by
 intro g a;rcases h.2 with⟨rfl,rfl⟩|⟨h,e,g,rfl,_,m,n,q,_⟩
 .cases a
 simp[Value.ownBlock]at a;subst a;exact(AJ.1 m).1
def UW(rs:zE)(k:Nat)(a:k<=rs.length):(FG rs k).map (·.2)=rs.reverse.take k:=by
 apply List.ext_getElem
 .simp[FG,a]
 intro i a e;have e:i<rs.length:=by simp[FG]at a;omega
 simp[FG,DE,DB,AQ,List.getElem_reverse,(I:rs.length-1-i<rs.length)]
variable{X:rT}{rs:zE}
def cU{l:zE}(h:X.ownsRow 0 110 2 v l.length (zw l))(a:∀i,i<rs.length->DE rs i<18446744073709551616/\DB rs i<18446744073709551616)(e:∀x∈l,x∈rs):RR X v l:=by
 refine Dj.rr ⟨h,λi g=>?_⟩;have h:(DE l i,DB l i)∈l:=by
  have:l[i]?=some (DE l i,DB l i):=by simp[DE,DB,AQ,AG g]
  exact AZ this
 obtain⟨j,g⟩:=Cz<|e _ h;have e:=(AO.1 g).1;have:=a j e;have a:DE rs j=DE l i:=by unfold DE at *;simp[AQ,g]
 have a:DB rs j=DB l i:=by unfold DB at *;simp[AQ,g]
 omega
end
section
open Go.RowKit Go.Proofs.Tryz Go.Shelf
attribute [local go_sem] Oper.semAt_some
structure MO(w:rT)(rec:Loop)(pre:zE)(v:rU)(X:rT):Prop where
 mod:C9 DA w X
 bx:Boxed X w.heap.size 46 v
 own:X.ownsRow 0 110 2 v pre.length (zw pre)
 new:∀g,v.ownBlock=some g->w.heap.size<=g
 df:X.heap[w.heap.size+1]?=some (.deferred<|some [])
 rc:X.heap[w.heap.size+2]?=some (.loop rec)
variable{w:rT}
def MO.nA{g:Loop}:OwnFrom (w.heap.size+3) (λpre X=>∃v,MO w g pre v X):=by
 rintro pre A B row ⟨v,h⟩ q u;refine⟨v,?_⟩;have m:∀k,k<w.heap.size+3->some k≠row:=λk g e=>qm<|(u k e.symm).1
 have z:=rS.grown q<|λk g=>.inl g;refine⟨h.mod.then z<|λi g=>.inr<|qm<|(u i g).1,h.bx.kept q<|m _ I,z.owns h.own<|λg a z=>?_,h.new,?_,?_⟩
 .obtain⟨_,o,C,y⟩:=u g z;rcases h.own.2 with⟨e,_⟩|⟨z,g,u,e,_,n,_⟩
  .rw[e]at a;cases a
  rw[e]at a;simp[Value.ownBlock]at a;subst a;rw[C]at n;cases n;cases y
 .exact(q.block _ (AJ.1 h.df).1<|m _ I).trans h.df
 exact(q.block _ (AJ.1 h.rc).1<|m _ I).trans h.rc
def P5(rs:zE)(w:rT)(e:Ending)(W':rT):Prop :=
 ∃v,e=.returned v/\W'.ownsRow 0 110 2 v rs.length (zw rs.reverse)/\(∀g,v.ownBlock=some g->w.heap.size<=g)/\C9 DA w W'
def cT(F:Fence)(n:Nat)(q:∀f,F.fn f)(ah:F.round=none)(hn:7<=n)(rs:zE)(fl au b sB:Nat)(v:rU)(w:rT)(h:Ed w b 0 v rs fl au)(av:∀i,i<rs.length->DE rs i<18446744073709551616/\DB rs i<18446744073709551616)(aw:w sB=some (.pointer b)):CallsIn F n prog 153 #[.slice none 0 0,.func (.func 111) #[] #[.pointer sB]] w (P5 rs w):=by
 obtain⟨a,aO,rfl,o1,o2,o3⟩:=zi h.own;have a1:=zo h.cl;have a2:=zo aw;have ax:∀g o,a=some ⟨g,o,none⟩->g<w.heap.size:=λg o e=>Vz h.own g<|by rw[e];rfl
 have aP:=Dj.rr ⟨h.own,av⟩;have aQ:=h.cl;have a0:=h.len;clear h;have h:1<=n:=I;refine callsIn_of_wp_marks func153 rfl (q _) ?_ ah;simp only[ntmps153,PM,Nat.reduceAdd,Nat.reduceSub];gi_wp2;refine Uv ah h (gf:=111) (lb:=#[.pointer sB]) rfl (q _) (enters_of func111 kw rfl) ?_;intro fn h;generalize hrec:Loop.mk .ready none fn _ _ _ _ _=rec;have h:(w.alloc<|.cells #[rV] 46).heap.size=w.heap.size+1:=nl;rw[h]at hrec ⊢;have a3:w.heap.size+1+1=w.heap.size+2:=rfl;obtain⟨W1,m⟩:=nm<|((w.alloc<|.cells #[rV] 46).alloc<|.deferred<|some []).alloc<|.loop rec;have m1:C9 DA w W1:=by rw[<-m];exact((rS.alloc _).alloc _).alloc _
 have aR:W1.heap.size=w.heap.size+3:=by rw[<-m];simp
 have bs:=m1.cell (a:=sB) id aw;have bx:Boxed W1 w.heap.size 46 (.slice none 0 0):=by
  rw[<-m];exact((Boxed.new w _ _).alloc _).alloc _
 have aS:W1.heap[w.heap.size+1]?=some (.deferred<|some []):=by
  rw[<-m];have:=World.alloc_heap_new (w.alloc<|.cells #[rV] 46)<|.deferred<|some [];rw[h]at this;exact(Below.heap_alloc _ _ _ nl).trans this
 have aT:W1.heap[w.heap.size+2]?=some (.loop rec):=by
  rw[<-m];have:=World.alloc_heap_new ((w.alloc<|.cells #[rV] 46).alloc<|.deferred<|some [])<|.loop rec;rw[World.size_alloc,h]at this;exact this
 rw[m];have aU:MO w rec [] (.slice none 0 0) W1:=⟨m1,bx,World.ownsRow_nil _ 0 _ 2,(λg y=>by cases y),aS,aT⟩;clear m;have h:=Ax Loop.assign hrec.symm;dsimp only at h;have m:=Ax Loop.body hrec.symm;dsimp only at m;have ai:=Ax Loop.tmps hrec.symm;dsimp only at ai;have ay:rec.params=#[7]:=by rw[<-hrec]
 have aA:rec.state=.ready:=by rw[<-hrec]
 have aB:rec.pending=none:=by rw[<-hrec]
 have aC:=zb aB;have aV:=zb h;have aW:=zb m;have aX:=zb ai;have aD:=zb ay;have aj:=zb aA;clear hrec h m ai ay aA aB;refine(YT F (n-1) q ah I (w.heap.size+2) sB b w.heap.size aO a rs
  (λpre X=>∃v,MO w rec pre v X)
  (λ_ _=>False) W1 ?hY ?hJ ?hJx bs (m1.cell (a:=b) id aQ) (aP.mod m1<|DN.no _) I I (λg o e=>qm<|ax g o e) ⟨_,aU⟩).mono ?post
 case hJ=>rw[aR];exact MO.nA
 case hJx=>intro _ _ _ _ x;exact x.elim
 case hY =>
  rintro m pre x X ⟨v,K⟩ h;have h:pre.length<=1099511627776:=I;have HX:=zb K;have h:=(AJ.1 K.rc).1;refine⟨_,_,_,_,run_yield K.rc<|by rw[aD.z];rfl,roundIn_of_wpIn (q _) ?_⟩;rw[aV.z,aW.z,aX.z,aD.z];unfold LU;clear K;gi_wp2;have aE:(X.alloc<|.cells #[x.1,x.2] 110).heap[w.heap.size+2]?=some (.loop rec):=(Below.heap_alloc _ _ _ h).trans HX.z.rc;refine⟨_,run_beginRound aE aj.z,?_⟩;obtain⟨B,A⟩:∃B,(X.alloc<|.cells #[x.1,x.2] 110).putObj (w.heap.size+2) (.loop { rec with state:=.busy })=B:=⟨_,rfl⟩;have m2:C9 (λk=>k=w.heap.size\/k=w.heap.size+2\/v.ownBlock=some k) X B:=by
   rw[<-A];exact((C9.refl (λk=>k=w.heap.size\/k=w.heap.size+2\/v.ownBlock=some k) _).alloc _).putObj (.inl<|.inr rO) _
  have M:B.heap[w.heap.size+2]?=some (.loop { rec with state:=.busy }):=by
   rw[<-A];exact World.putObj_heap_same ol
  have ak:B.heap[X.heap.size]?=some (.cells #[x.1,x.2] 110 (0,0)):=by
   rw[<-A];exact(World.putObj_heap_other I).trans (heap_alloc_new X _)
  have al:∀k,k<X.heap.size->k≠w.heap.size+2->B.heap[k]?=X.heap[k]?:=λk z hn=>by
   rw[<-A];exact(World.putObj_heap_other hn).trans (Below.heap_alloc _ _ _ z)
  have aF:C9 (λk=>k=w.heap.size+2) X B:=by
   rw[<-A];exact((C9.refl (λk=>k=w.heap.size+2) X).alloc _).putObj rO _
  rw[A];have ac:Boxed B w.heap.size 46 v:=(al _ I I).trans HX.z.bx;have ad:=(al _ I I).trans HX.z.df;have L:=aF.owns HX.z.own (λg y e=>by
   have e:=e;subst e;rcases HX.z.own.2 with⟨e,_⟩|⟨g',cp,N,e,_,u,_⟩
   .rw[e]at y;cases y
   rw[e]at y;simp[Value.ownBlock]at y;rw[y,HX.z.rc]at u;cases u)
  have am:=HX.z.new;have O:∀k,v.ownBlock=some k->I4 w.heap.size (w.heap.size+2) a X k:=λk z=>by
   refine .inr<|.inr ⟨λg o e=>qn (ax g o e)<|am k z,?_⟩;rcases HX.z.own.2 with⟨e,_⟩|⟨g',cp,N,e,_,u,_⟩
   .rw[e]at z;cases z
   rw[e]at z;simp[Value.ownBlock]at z;subst z;exact⟨_,_,u⟩
  have h:=m2.size;obtain⟨va,vc,rfl,_⟩:=zi L;obtain⟨v3,W3,an,R,Y,aG⟩:=Jz B (.slice va pre.length vc) pre x.1 x.2 L I;have ae:∀k,k=w.heap.size\/k=w.heap.size+1\/k=w.heap.size+2->some k≠(Value.slice va pre.length vc).ownBlock:=λk z e=>by
   rcases L.2 with⟨D,_⟩|⟨g',cp,N,D,_,u,_⟩
   .rw[D]at e;cases e
   rw[D]at e;simp[Value.ownBlock]at e;subst e;rcases z with rfl|rfl|rfl
   .rw[show B.heap[w.heap.size]?=_ from ac]at u;simp at u
   .rw[ad]at u;cases u
   rw[M]at u;cases u
  have Z:=ac.kept Y<|ae _ rO;have ao:=(Y.block _ (AJ.1 ad).1<|ae _<|.inr rO).trans ad;have ap:=(Y.block _ (AJ.1 M).1<|ae _<|.inr<|.inr rfl).trans M;have m3:=m2.grown Y<|λk z=>.inl<|.inr<|.inr z;have m4:=m3.setCell (p:=w.heap.size) (.inl rO) v3;have aa:=Z.set v3;have ab:C9 (λk=>k=w.heap.size) W3 (W3.setCell w.heap.size v3):=(C9.refl (λk=>k=w.heap.size) W3).setCell (p:=w.heap.size) rO _;have af:=(ab.block _ (AJ.1 ap).1 I).trans ap;have ag:=(ab.block _ (AJ.1 ao).1 I).trans ao;have C:(W3.setCell w.heap.size v3).ownsRow 0 110 2 v3 (pre++[x]).length (zw<|pre++[x]):=ab.owns R (λg y e=>by
   have e:=e;subst e;rcases R.2 with⟨D,_⟩|⟨g',cp,N,D,_,u,_⟩
   .rw[D]at y;cases y
   rw[D]at y;simp[Value.ownBlock]at y;rw[y,show W3.heap[w.heap.size]?=_ from Z]at u;simp at u)
  have E:∀g,v3.ownBlock=some g->w.heap.size<=g:=λg y=>by
   rcases aG g y with q|q
   .exact am g q
   omega
  obtain⟨vb,vd,rfl,_⟩:=zi C;have G:(pre++[x]).length=pre.length+1:=nl;rw[G]at an;have h:=Z.cell;have h:=Z.frozen;have h:=aa.cell;have m:=ac.cell;have m:B X=some (.int .u64 x.1):=za ak rfl;have m:B (X,1)=some (.int .u64 x.2):=za ak rfl;rw[G]at m4 aa ab af ag C E h;obtain⟨m,n⟩:=nm<|W3.setCell w.heap.size<|.slice vb (pre.length+1) vd;rw[n]at m4 aa af ag C h;have h:AA (C9 (I4 w.heap.size (w.heap.size+2) a X) X m):=m4.mono (λk z=>.inl (by
   rcases z with z|z|z
   .exact .inl z
   .exact .inr (.inl z)
   exact O k z))
  have aq:AA (C9 DA w m):=HX.z.mod.then m4 (λk z=>.inr (by
   rcases z with z|z|z
   .omega
   .omega
   exact am k z))
  have n:=HX.z.mod.size;have aH:=zb aa;have ar:=zb af;have aY:=zb ag;have aI:=zb C;have aJ:=zb E;clear m4 aa ab af ag C E R Y aG ae O al aF m2 m3 M ad ap ao ac Z L A ak aE
  gi_wp2_with (gi_at_builtin;refine j4 rfl _ _ _ _ rfl _ _ _ rfl rfl an ?_;clear an)
  refine⟨_,_,run_endRound none ar.z,h.z.putObj (.inl<|.inr rO) _,rfl,.slice vb (pre.length+1) vd,?_⟩;have aK:=(AJ.1 ar.z).1;have mp:=λo=>(C9.refl (λk=>k=w.heap.size+2) m).putObj rO o
  have aZ:∀g,(Value.slice vb (pre.length+1) vd).ownBlock=some g->¬g=w.heap.size+2:=λg y e=>by
   subst e;rcases aI.z.2 with⟨e,_⟩|⟨g',cp,N,e,_,u,_⟩
   .rw[e]at y;cases y
   rw[e]at y;simp[Value.ownBlock]at y;rw[y,ar.z]at u;cases u
  refine⟨aq.z.putObj (.inr I) _,(World.putObj_heap_other I).trans aH.z,by rw[G];exact(mp _).owns aI.z aZ,aJ.z,(World.putObj_heap_other I).trans aY.z,?_⟩;rw[World.putObj_heap_same aK];have aL:=aC.z;have aM:=aj.z;cases rec;simp only at aL aM;subst aL;subst aM;rfl
 case post =>
  rintro e X ⟨⟨h,rfl⟩,⟨v,K⟩|⟨k,z,hx⟩⟩
  .have h:=run_endLoop (P:=prog) K.rc (by rw[aj.z];simp);rw[aC.z]at h;refine⟨none,_,h,?_⟩;clear h;obtain⟨B,A⟩:∃B,X.putObj (w.heap.size+2) (.loop { rec with state:=.exhausted,pending:=none })=B:=⟨_,rfl⟩;have hm:C9 (λk=>k=w.heap.size+2) X B:=by rw[<-A];exact(C9.refl (λk=>k=w.heap.size+2) _).putObj rO _
   have hb:=hm.cell (a:=w.heap.size) nl K.bx.cell;have hd:=hm.obj nl K.df;have ho:=hm.owns K.own (λg y e=>by
    have e:=e;subst e;rcases K.own.2 with⟨D,_⟩|⟨g',cp,N,D,_,u,_⟩
    .rw[D]at y;cases y
    rw[D]at y;simp[Value.ownBlock]at y;rw[y,K.rc]at u;cases u)
   have a:=zb A;have aq:=zb<|K.mod.then hm<|λi a=>.inr I;have HO:=zb ho;have h:=zb K.new;rw[A];clear hm K ho A;gi_wp2;refine⟨nl,.inl ⟨_,_,rfl,run_takeDeferred hd,?_⟩⟩;have a:(FG rs rs.length).map (·.2)=rs.reverse:=by rw[UW rs rs.length (AI _),AS nl]
   have M:rs.reverse.length=rs.length:=nl;rw[a]at HO;refine⟨_,results_tmp (t:=4) rfl _ _ _,v,rfl,?_,h.z,aq.z.putObj (.inr I) _⟩;have aN:=((C9.refl (λk=>k=w.heap.size+1) B).putObj rO<|.deferred none).owns HO.z (λg y e=>by
    have e:=e;subst e;rcases HO.z.2 with⟨D,_⟩|⟨g',cp,N,D,_,u,_⟩
    .rw[D]at y;cases y
    rw[D]at y;simp[Value.ownBlock]at y;rw[y,hd]at u;cases u)
   rw[M]at aN;exact aN
  exact hx.elim
def fI(F:Fence)(n:Nat)(e:∀f,F.fn f)(g:F.round=none)(D:8<=n)(rs:zE)(z a b q:Nat)(v:rU)(w:rT)(h:Ed w b 0 v rs z a)(m:∀i,i<rs.length->DE rs i<18446744073709551616/\DB rs i<18446744073709551616)(u:w q=some (.pointer b)):CallsIn F n prog 114 #[.func (.func 111) #[] #[.pointer q]] w (P5 rs w):=by
 have k:=cT F (n-1) e g I rs z a b q v w h m u;have K:=zb k;have a:1<=n:=I;clear h k;refine callsIn_of_wp func114 rfl (e _) ?_ g;simp only[ntmps114,PM,Nat.reduceAdd,Nat.reduceSub]
 gi_wp2_with (gi_at_call 153;refine K.z.mono ?_;rintro e w' ⟨A,rfl,B,y,C⟩)
 go_ret;exact⟨A,rfl,B,y,C⟩
def jD(rs:zE)(q a b g:Nat)(v:rU)(w:rT)(h:Ed w b 0 v rs q a)(e:∀i,i<rs.length->DE rs i<18446744073709551616/\DB rs i<18446744073709551616)(m:w g=some (.pointer b)):rH 114 #[.func (.func 111) #[] #[.pointer g]] w (P5 rs w) :=
 (callsIn_wide (n:=8)).1 (fI Fence.wide 8 (λ_=>trivial) rfl (AI _) rs q a b g v w h e m)
def cQ(b:Nat)(w:rT):rH 81 #[(b,0)] w λe w'=>e=.returned (.func (.func 111) #[] #[.pointer w])/\w'=w.alloc (.cells #[(b,0)] 101) :=
 (callsIn_wide (n:=8)).1 (V4 Fence.wide 8 trivial rfl b w)
end
section
open Go.RowKit Go.Proofs.Tryz Go.Shelf
attribute [local go_sem] Oper.semAt_some
def YS(F:Fence)(n:Nat)(g:F.fn 81)(a:F.round=none)(b o:Nat)(w:rT):CallsIn F n prog 81 #[.pointer (b,o)] w λe w'=>e=.returned (.func (.func 111) #[] #[.pointer w])/\w'=w.alloc (.cells #[(b,o)] 101):=by
 refine callsIn_of_wp func81 rfl g ?_ a;simp only[ntmps81,PM,Nat.reduceAdd,Nat.reduceSub];gi_wp2;go_ret;exact rM
end
section
open Go.RowKit Go.Proofs.Tryz Go.Shelf
attribute [local go_sem] Oper.semAt_some
abbrev U6(p:Nat×Nat->Prop):={r:Nat×Nat // p r}
abbrev Gt(p:Nat×Nat->Prop):={x:Nat×(Nat×Nat) // p x.2}
def Gt.rr{p:Nat×Nat->Prop}(x:Gt p):U6 p:=⟨x.1.2,x.2⟩
def FY(p:Nat×Nat->Prop)(rs:zE)(a:∀i,p (DE rs i,DB rs i))(k:Nat):List (Gt p):=(List.range k).map λj=>⟨(rs.length-1-j,(DE rs (rs.length-1-j),DB rs (rs.length-1-j))),a _⟩
def jX(p:Nat×Nat->Prop)(rs:zE)(a:∀i,p (DE rs i,DB rs i))(k:Nat):FY p rs a (k+1)=FY p rs a k++[⟨(rs.length-1-k,(DE rs (rs.length-1-k),DB rs (rs.length-1-k))),a _⟩]:=by unfold FY;rw[BK,A9];rfl
def jx(p:Nat×Nat->Prop)(rs:zE)(a:∀i,p (DE rs i,DB rs i))(k:Nat):(FY p rs a k).length=k:=by unfold FY;rw[Az,Bp]
def jC(p:Nat×Nat->Prop)(rs:zE)(a:∀i,p (DE rs i,DB rs i))(k:Nat):(FY p rs a k).map (·.1)=FG rs k:=by unfold FY FG;rw[Cu];rfl
def cP(F:Fence)(n:Nat)(hF:F.fn 152)(L:F.round=none)(hn:1<=n)(l g cap:Nat)(a:qs)(p:Nat×Nat->Prop)(rs:zE)(z:∀i,p (DE rs i,DB rs i))(J K:List (Gt p)->rT->Prop)
  (M:∀pre x W,J pre W->pre.length<rs.length->YieldAt F (n-1) prog l (Iu x.1) W λe W' =>
   (e=.returned (.bool true)/\J (pre++[x]) W'/\FP g a W W')\/(e=.returned (.bool false)/\K (pre++[x]) W'))
  (W:rT) (A:W.cell? g=some (.slice a rs.length cap)) (hr:RR W (.slice a rs.length cap) rs) (h0:J [] W) :
  CallsIn F n prog 152 #[.func (.yield l) #[] #[],.pointer g] W λe W'=>(∃v,e=.returned v) /\
   ((∃n,n=FY p rs z rs.length/\J n W')\/(∃pre,(∃k,k<=rs.length/\pre=FY p rs z k)/\K pre W')):=by
 obtain⟨_,_,e,n,r2,N⟩:=hr;cases e;unfold maxLen at r2;have n:(rs.length:Int)<=9223372036854775807:=I;refine callsIn_of_wp func152 rfl hF ?_ L;simp only[ntmps152,PM,Nat.reduceAdd,Nat.reduceSub];gi_wp2
 gi_loopw [3] (λi wr=>∃k:Nat,k<=rs.length/\i=.int .i64 ((rs.length:Int)-1-k)/\J (FY p rs z k) wr/\FP g a W wr) (λi _=>(intOf i+1).toNat)
 case atStart=>exact⟨0,AK _,nl,h0,FP.refl _ _ _⟩
 case round =>
  obtain⟨k,a,rfl,m,h⟩:=hrel;by_cases O:k<rs.length
  .obtain⟨q,Y⟩:=nm<|rs.length-1-k;have B:(rs.length:Int)-1-k=(q:Int):=I;have R:q<rs.length:=I;obtain⟨g,o,rfl,c1,c2,_,_⟩:=N q R;have u:=h.box A;have C:=h.row c1;have D:=h.row c2;obtain⟨R,g,a,body,n,L⟩:=M _ ⟨(q,(DE rs q,DB rs q)),z q⟩ wr m (by rw[jx];exact O);have HB:=zb<|jX p rs z k;have Z:=zb Y;have HJ:=zb m;have X:=zb B;unfold Iu at n;dsimp only at n;rw[B];clear Y m N c1 c2 B;gi_wp2;refine L.mono ?_;clear L M;rintro e W3 (⟨rfl,E,G⟩|⟨rfl,y⟩)
   .have a:AA (J (FY p rs z<|k+1) W3):=by
     show J _ _;rw[HB.z,Z.z];exact E
    have e:=zb<|h.trans G;clear E G h u C D A;gi_wp2;go_roundw
    case rel=>exact⟨k+1,I,by rw[<-X.z];congr 1;omega,a.z,e.z⟩
    simp[intOf]
   have a:AA (K (FY p rs z<|k+1) W3):=by
    show K _ _;rw[HB.z,Z.z];exact y
   clear y h u C D A;gi_wp2;refine bodyPost_ret (results_none rfl _ _ _) rfl ?_;exact⟨⟨_,rfl⟩,.inr ⟨_,⟨k+1,I,rfl⟩,a.z⟩⟩
  have a:k=rs.length:=I;have HJ:=zb m;have g:=zb a;have e:¬(0:Int)<=(rs.length:Int)-1-k:=I;clear m a N M;gi_wp2
  go_end0
  exact⟨⟨_,rfl⟩,.inl<|by rw[<-g.z];exact HJ.z⟩
def iH(F:Fence)(n:Nat)(z:F.fn 152)(m:F.round=none)(A:1<=n)(g cap:Nat)(a:qs)(p:Nat×Nat->Prop)(rs:zE)(q:∀i,p (DE rs i,DB rs i))(w:rT)(h:w g=some (.slice a rs.length cap))(B:RR w (.slice a rs.length cap) rs):SeqStopsK F n prog 152 #[.pointer g] (λx:Gt p=>Iu x.1) (FP g a) (λy=>y=FY p rs q rs.length) (λpre=>∃k,k<=rs.length/\pre=FY p rs q k) rs.length w:=λl J C W u _ _ D E=>by
 have y:=zo h;refine cP F n z m A l g cap a p rs q J C D W ((u.cell (p:=g) y).trans h) ?_ E;obtain⟨_,_,e,G,K,L⟩:=B;cases e;refine⟨_,_,rfl,G,K,λi h=>?_⟩;obtain⟨g,o,e,a,m,n,q⟩:=L i h;have h:=zo a;exact⟨g,o,e,(u.cell (p:=⟨g,_,none⟩) h).trans a,(u.cell (p:=⟨g,_,none⟩) h).trans m,n,q⟩
def cO(F:Fence)(n:Nat)(y:∀f,F.fn f)(z:F.round=none)(A:4<=n)(l Z b of lb cap:Nat)(a:qs)(p:Nat×Nat->Prop)(rs:zE)(hp:∀i,p (DE rs i,DB rs i))(J Jx:List (U6 p)->rT->Prop)(W:rT)
  (B:∀pre x W1,J pre W1->pre.length<rs.length->YieldAt F (n-1-1-1) prog l (LU x.1) W1 λe W' =>
   C9 (I4 lb l a W1) W1 W'/\((e=.returned (.bool true)/\J (pre++[x]) W')\/(e=.returned (.bool false)/\Jx (pre++[x]) W')))
  (hJ:OwnFrom W.heap.size J) (A:OwnFrom W.heap.size Jx) (K:W Z=some (.pointer (b,of))) (hb:W (b,of)=some (.slice a rs.length cap)) (u:RR W (.slice a rs.length cap) rs) (an:lb<W.heap.size) (hl:l<W.heap.size) (ha:∀g o,a=some ⟨g,o,none⟩->g<W.heap.size/\g≠lb/\g≠l) (h0:J [] W) :
  CallsIn F n prog 111 #[.func (.yield l) #[] #[],.pointer Z] W λe W'=>(∃v,e=.returned v) /\
   (J ((FY p rs hp rs.length).map Gt.rr) W'\/∃k,k<=rs.length/\Jx ((FY p rs hp k).map Gt.rr) W'):=by
 have HJ:=zb hJ;have aa:=zb A;have HY:=zb B;have HR:=zb u;have H0:=zb h0;have ah:(W.alloc<|.cells #[.func (.yield l) #[] #[]] 188) Z=some (.pointer (b,of)):=((C9.refl DA W).alloc _).cell (a:=Z) id K;have ai:(W.alloc<|.cells #[.func (.yield l) #[] #[]] 188) (b,of)=some (.slice a rs.length cap):=((C9.refl DA W).alloc _).cell (a:=(b,of)) id hb;have h1:1<=n:=I;clear hJ A B u h0;refine callsIn_of_wp_marks func111 rfl (y _) ?_ z;simp only[ntmps111,PM,Nat.reduceAdd,Nat.reduceSub]
 gi_wp2_with (gi_at_call 112;refine(Rj F (n-1) (y _) z _ _ _ _).mono ?_;rintro e w' ⟨rfl,rfl⟩)
 obtain⟨m,B⟩:=nm W.heap.size;have bY:Boxed ((W.alloc<|.cells #[.func (.yield l) #[] #[]] 188).alloc<|.cells #[.slice a rs.length cap] 46) m 188 (.func (.yield l) #[] #[]):=by
  rw[<-B];exact(Boxed.new W _ _).alloc _
 have bS:Boxed ((W.alloc<|.cells #[.func (.yield l) #[] #[]] 188).alloc<|.cells #[.slice a rs.length cap] 46) (m+1) 46 (.slice a rs.length cap):=by
  have:=Boxed.new (W.alloc<|.cells #[.func (.yield l) #[] #[]] 188) 46<|.slice a rs.length cap;rw[World.size_alloc,B]at this;exact this
 have m0:C9 DA W ((W.alloc<|.cells #[.func (.yield l) #[] #[]] 188).alloc<|.cells #[.slice a rs.length cap] 46):=(rS.alloc _).alloc _;obtain⟨w1,A⟩:=nm<|((W.alloc<|.cells #[.func (.yield l) #[] #[]] 188).alloc<|.cells #[.slice a rs.length cap] 46);have ao:w1.heap.size=m+2:=by rw[<-A];simp;omega
 have aj:J [] w1:=by rw[<-A];exact HJ.z.alloc _<|HJ.z.alloc _ H0.z
 rw[A]at bY bS m0 ⊢;rw[B];have B:=HR.z.mod m0<|DN.no _;clear A ah ai;refine wpIn_rangeFunc_ownH z h1 (gf:=152) (lb:=#[.pointer (U (m+1) 0)]) rfl (y _) (enters_of func152 kw rfl)
  (iH F (n-1) (y _) z I (m+1) cap a p rs hp w1 bS.cell B) (λh k=>h.trans k) ?hKb (Below.refl _ _) (λ_=>rfl)
  (λpre X=>(J (pre.map Gt.rr) X/\Boxed X m 188 (.func (.yield l) #[] #[]))/\Boxed X (m+1) 46 (.slice a rs.length cap))
  (λc pre X=>c=.ret/\Jx (pre.map Gt.rr) X) ?hI ?hIx ⟨⟨aj,bY⟩,bS⟩
  (λx a' X=>∃C,a'={ tmps:=#[.func (.yield l) #[] #[],.pointer Z,.pointer m,undef,.pointer<|some ⟨C,0,none⟩,.pointer (b,of),.pointer (b,of),.pointer (b,of),.slice a rs.length cap,.func (.func 152) #[] #[.pointer (U (m+1) 0)],.int .i64 x.1.1,.agg #[.int .u64 x.1.2.1,.int .u64 x.1.2.2],undef,undef,undef,undef],defers:=[] } /\
   X.heap[C]?=some (.cells #[x.1.2.1,x.1.2.2] 110 (0,0))) ?hAx ?assign ?body ?done ?stop
 case hKb =>
  intro X z o A y _ _ _;exact⟨World.putObj_heap_other I,λg o e=>World.putObj_heap_other<|qm<|(ha g o e).1⟩
 case hI =>
  exact OwnFrom.and (OwnFrom.and (λs A B row K y u=>HJ.z _ A B row K y<|λr e=>⟨qm<|(u r e).1,(u r e).2⟩)<|Own.from (boxed_own m _<|λ_=>_) _)<|Own.from (boxed_own (m+1) _<|λ_=>_) _
 case hIx =>
  intro c s A B row K y u;exact⟨K.1,aa.z _ A B row K.2 y<|λr e=>⟨qm<|(u r e).1,(u r e).2⟩⟩
 case hAx =>
  intro x a' s A B row K y u;obtain⟨C,e,L⟩:=K;refine⟨C,e,(y.block C (AJ.1 L).1<|λy=>?_).trans L⟩;obtain⟨_,o,ab,M⟩:=u C y.symm;rw[L]at ab;cases ab;cases M
 case assign =>
  intro l' pre x X K hI N;unfold Iu;gi_wp2;refine N _ _ ((KeepsOthers.alloc X _).from _) ⟨Below.heap_alloc _ _ _ hI.2.lt,λg o e=>Below.heap_alloc _ _ _ ?_⟩ ⟨⟨?_,hI.1.2.alloc _⟩,hI.2.alloc _⟩ ⟨X.heap.size,rfl,heap_alloc_new X _⟩
  .have u:=(ha g o e).1;have u:=hI.2.lt;omega
  exact HJ.z.alloc _ hI.1.1
 case body =>
  rintro l' pre x a' X y ac ⟨⟨O,hy⟩,R⟩ ⟨C,rfl,ad⟩ u;have yc:=hy.cell;have y:X C=some (.int .u64 x.1.2.1):=za ad rfl;have y:X (C,1)=some (.int .u64 x.1.2.2):=za ad rfl;obtain⟨z,tmps,assign,body,E,y⟩:=HY.z (pre.map Gt.rr) x.rr X O<|qp u;unfold LU Gt.rr at E;dsimp only at E;have u:1<=n-1-1:=I;have n:=zb O;clear O ac;have n:=zb y;clear y;gi_wp2;refine RoundIn.mono (F:=F.inRound l') (show RoundIn (F.inRound l') _ _ _ _ _ _ _ _ _ from n.z) ?_;rintro e X3 ⟨Y,ae⟩;have af:=hy.lt;have q:=R.lt;have nY:¬I4 lb l a X m:=by
   rintro(h|h|⟨_,cs,fz,h⟩)
   .omega
   .omega
   rw[show X.heap[m]?=_ from hy]at h;simp at h
  have nS:¬I4 lb l a X (m+1):=by
   rintro(h|h|⟨_,cs,fz,h⟩)
   .omega
   .omega
   rw[show X.heap[m+1]?=_ from R]at h;simp at h
  have ag:AA (KeepsFrom w1.heap.size X X3):=⟨Y.size,λk o hk L M=>by
   refine(Y.block k (AJ.1 L).1 ?_).trans L;rintro(h|h|⟨_,cs,fz,h⟩)
   .omega
   .omega
   rw[L]at h;cases h;cases M⟩
  have ak:AA (FP (m+1) a X X3):=⟨Y.block _ q nS,λg o e=>Y.block _ (qm<|(ha g o e).1) (by
   rintro(h|h|⟨h,_⟩)
   .exact(ha g o e).2.1 h
   .exact(ha g o e).2.2 h
   exact h g o e rfl)⟩
  have al:AA (Boxed X3 m 188<|.func (.yield l) #[] #[]):=(Y.block _ af nY).trans hy;have am:AA (Boxed X3 (m+1) 46<|.slice a rs.length cap):=(Y.block _ q nS).trans R;clear nY nS Y af q;rcases ae with⟨rfl,G⟩|⟨rfl,G⟩
  .have a:=zb G;clear G yc E;gi_wp2;exact⟨ag.z,ak.z,⟨by rw[A9];exact a.z,al.z⟩,am.z⟩
  have a:=zb G;clear G yc E;gi_wp2;exact⟨ag.z,rfl,by rw[A9];exact a.z⟩
 case done =>
  rintro D a X hD rfl ⟨⟨G,_⟩,_⟩ N;gi_wp2;refine⟨nl,.inl ⟨_,_,rfl,run_takeDeferred N,?_⟩⟩;exact⟨_,results_none rfl _ _ _,⟨_,rfl⟩,.inl<|HJ.z.putObj _ G I N rfl⟩
 case stop =>
  rintro D c pre X hD ⟨k,hk,rfl⟩ ⟨rfl,G⟩ N;gi_wp2;refine⟨nl,.inl ⟨_,_,rfl,run_takeDeferred N,?_⟩⟩;exact⟨_,results_none rfl _ _ _,⟨_,rfl⟩,.inr ⟨k,hk,aa.z.putObj _ G I N rfl⟩⟩
end
end Go.Proofs.YtddfdpbaiedcjabGreatDoor
