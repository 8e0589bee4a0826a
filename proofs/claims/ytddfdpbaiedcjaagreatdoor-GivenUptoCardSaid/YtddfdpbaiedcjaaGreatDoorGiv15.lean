/- A part of Given's proof. Conditions: none. Part 15 of 15. -/
import Derived.Test.YtddfdpbaiedcjaaGreatDoorGiv14
import Derived.ProofKit
import Derived.OpenShut
import Derived.Deep.Slices
set_option maxRecDepth 100000
set_option maxHeartbeats 16000000
set_option linter.all false
namespace Go.Proofs.YtddfdpbaiedcjaaGreatDoor
section
open Go.RowKit Go.Proofs.Tryz
def NS.some_(n:NS)(i k:Nat):Nat:=Dl (λi=>Dl (λk=>(n.e i k).wrote.length) 8) i+Dl (λk=>(n.e i k).wrote.length) k
variable{T i k:Nat}{n:NS}
theorem XW(h:n.Inv T)(hi:i<=2)(l:k<=8)(d:i<2\/k=0):n.some_ i k<=49152:=by
 have a:=GJ (f:=λi=>Dl (λk=>(n.e i k).wrote.length) 8) (g:=λ_=>16384) i<|λj a=>GJ (g:=λ_=>2048) 8<|λk l=>(h.e j I k l).wl;have b:Dl (λk=>(n.e i k).wrote.length) k<=Dl (λ_=>2048) 8:=by
  rcases d with x|x
  .have c:=GJ (f:=λk=>(n.e i k).wrote.length) (g:=λ_=>2048) k<|λj a=>(h.e i x j I).wl;have e:∀m,Dl (λ_=>2048) m=2048*m:=λm=>by
    induction m with
    | zero=>rfl
    | succ m ih=>show Dl _ m+2048=_;rw[ih];omega
   rw[e]at c ⊢;omega
  subst x;exact AN _
 have e:Dl (λ_=>2048) 8=16384:=rfl;have a:Dl (λ_=>16384) i<=32768:=by
  rcases(I:i=0\/i=1\/i=2)with rfl|rfl|rfl<;>decide
 unfold NS.some_;omega
variable{M:NV}{W w:rq}{nb:Nat}{tag:rD}
def iN(h:DZ w tag nb n M W)(hI:n.Inv T):rT 16 #[(nb,0)] W (λe W'=>e=.returned (.int .i64 n.mD)/\DO DQ W W'):=by
 obtain⟨e1,e2,-⟩:=Qy hI;have z:AA (∀i k,i<2->k<8->∀W',DO DQ W W'->∃g f q d eb,W'.cell? (nb,1)=some (.slice (some ⟨g,0,none⟩) 2 f)/\(2<=f/\f<=9223372036854775807)/\W'.cell? ⟨g,i,none⟩=some (.slice (some ⟨q,0,none⟩) 8 d)/\(8<=d/\d<=9223372036854775807)/\W'.cell? ⟨q,k,none⟩=some (.pointer<|some ⟨eb,0,none⟩)/\W'.cell? ⟨eb,0,none⟩=some (.string<|zu (n.e i k).wrote)):=zb λi k s p W' m=>by
  obtain⟨g,f,q,d,A,B,E,K,N⟩:=h.o.ny s p;have c:=(h.o.oH s p).wrote;exact⟨g,f,q,d,_,m.cell (a:=U nb 1) id A,B,m.cell (a:=(g,i)) id E,K,m.cell (a:=(q,k)) id N,m.cell (a:=U (M.eb i k) 0) id c⟩
 have O:W (nb,6)=some (.int .i64 n.lD):=h.o.obj.cell (j:=6) rfl;have X:W (nb,7)=some (.int .i64 n.total):=h.o.obj.cell (j:=7) rfl;have Y:=hI.mj;have Z:=zb λi k a b c=>XW (i:=i) (k:=k) hI a b c
 have HL:=zb λi (s:i<2) k (p:k<8)=>(hI.e i s k p).wl
 have HB:AA (n.some_ 2 0=n.bytes):=rfl;obtain⟨R,u⟩:=nm n.mD;have l:AA (R=60+2*(n.bytes / (if n.total<n.lD then n.total else n.lD)+1)+n.bytes / 16):=u.symm;rw[u];clear h hI u;go_enter func16,ntmps16;go_wp2_with fail
 go_loopw [3,4] (λv h wr=>∃i:Nat,i<=2/\v=.int .i64 (n.some_ i 0:Int)/\h=.int .i64 i/\DO DQ W wr) (λ_ h _=>2-(intOf h).toNat)
 case atStart=>exact⟨0,I,rfl,rfl,DO.refl _ _⟩
 case round =>
  obtain⟨i,s,rfl,rfl,m⟩:=hrel;by_cases o:i<2
  .have d1:(i:Int)<2:=I;have u:=zb m;clear m;go_wp2_with fail
   go_loopw [3,5] (λv h T=>∃k:Nat,k<=8/\v=.int .i64 (n.some_ i k:Int)/\h=.int .i64 k/\AA (DO DQ W T)) (λ_ h _=>8-(intOf h).toNat)
   case atStart=>exact⟨0,I,rfl,rfl,u⟩
   case round =>
    obtain⟨k,p,rfl,rfl,t⟩:=hrel;by_cases h:k<8
    .have u:(k:Int)<8:=I;obtain⟨g,f,q,d,eb,A,⟨B,E⟩,K,⟨N,d⟩,f,u⟩:=z.z i k o h wr t.z;have d:=Z.z i k s p<|.inl o;have d:=HL.z i o k h;have d:=zG (n.e i k).wrote;have e:n.some_ i (k+1)=n.some_ i k+(n.e i k).wrote.length:=(Nat.add_assoc _ _ _).symm;have d:=zb e;clear e;go_wp2_with fail;go_roundw
     case rel=>exact⟨k+1,I,by rw[d.z];congr 1,by congr 1,t⟩
     simp[intOf];omega
    have:k=8:=I;subst this;have e:n.some_ (i+1) 0=n.some_ i 8:=rfl;go_wp2_with fail;go_roundw
    case rel=>exact⟨i+1,I,by rw[e],by congr 1,t.z⟩
    simp[intOf];omega
  have:i=2:=I;subst this;have t:=zb m;have f:=m.cell (a:=U nb 6) id O;have h:=m.cell (a:=U nb 7) id X;rw[HB.z];obtain⟨B,a⟩:=nm n.bytes;obtain⟨p,d⟩:=nm n.lD;obtain⟨q,e⟩:=nm n.total;rw[a,d,e]at l;rw[a];rw[a]at e1;rw[d]at f Y;rw[e]at h Y;clear m O X a d e e2 z Z HL HB s o;obtain⟨Y,a⟩:=nm<|B / 16;have d:(B:Int) / 16=(Y:Int):=I;have d:Y<=B:=I;rw[a]at l;clear a;by_cases c:q<p
  .have d1:(q:Int)<p:=I;have l:AA (R=60+2*(B / q+1)+Y):=by show _=_;rw[l.z,AM c]
   have d:(B:Int) / q=((B / q:Nat):Int):=rfl;have le:B / q<=B:=Nat.div_le_self _ _;obtain⟨X,a⟩:=nm<|B / q;rw[a]at l d le;clear a;go_wp2_with fail;go_ret;refine⟨?_,t.z⟩;rw[l.z];show Ending.returned (.int .i64<|60+2*((X:Int)+1)+(Y:Int))=_;congr 2
  have d1:¬(q:Int)<p:=I;have l:AA (R=60+2*(B / p+1)+Y):=by show _=_;rw[l.z,AH c]
  have d:(B:Int) / p=((B / p:Nat):Int):=rfl;have le:B / p<=B:=Nat.div_le_self _ _;obtain⟨X,a⟩:=nm<|B / p;rw[a]at l d le;clear a;go_wp2_with fail;go_ret;refine⟨?_,t.z⟩;rw[l.z];show Ending.returned (.int .i64<|60+2*((X:Int)+1)+(Y:Int))=_;congr 2
def cG{o:EN}(h:o.po=true):(o.cut=true/\o.state≠0)\/(o.cut=false/\o.read=o.wrote.length/\(o.fin=true->o.state=1)):=by
 unfold EN.po at h;cases hc:o.cut<;>cases hf:o.fin<;>simp_all
def jr(h:DZ w tag nb n M W)(hI:n.Inv T)(A:∀i,i<2->∀k,k<8->(n.e i k).po=true):rT 18 #[(nb,0)] W (λe W'=>e=.returned (.bool true)/\DO DQ W W'):=by
 have Y:AA (∀i k,i<2->k<8->∀W',DO DQ W W'->∃g d q c eb,W'.cell? (nb,1)=some (.slice (some ⟨g,0,none⟩) 2 d)/\(2<=d/\d<=9223372036854775807)/\W'.cell? ⟨g,i,none⟩=some (.slice (some ⟨q,0,none⟩) 8 c)/\(8<=c/\c<=9223372036854775807)/\W'.cell? ⟨q,k,none⟩=some (.pointer<|some ⟨eb,0,none⟩)/\OI W' eb (n.e i k)/\(n.e i k).wrote.length<=2048):=zb λi k p s W' m=>by
  obtain⟨g,d,q,c,B,E,K,N,O⟩:=h.o.ny p s;obtain⟨c0,c1,c2,c3,c4,u,Z⟩:=h.o.oH p s;have f:∀j,W'.frozen? ⟨M.eb i k,j,none⟩=false:=λj=>by
   have o:=m.obj rk (h.o.en i p k s).obj;exact zg o
  exact⟨g,d,q,c,_,m.cell (a:=U nb 1) id B,E,m.cell (a:=(g,i)) id K,N,m.cell (a:=(q,k)) id O,
   ⟨m.cell (a:=U (M.eb i k) 0) id c0,m.cell (a:=U (M.eb i k) 1) id c1,m.cell (a:=U (M.eb i k) 2) id c2,m.cell (a:=U (M.eb i k) 3) id c3,m.cell (a:=U (M.eb i k) 4) id c4,m.cell (a:=U (M.eb i k) 5) id u,f⟩,(hI.e i p k s).wl⟩
 have HT:=zb A;clear h hI A;go_enter func18,ntmps18;go_wp2_with fail
 go_loopw [3] (λa wr=>∃i:Nat,i<=2/\a=.int .i64 i/\DO DQ W wr) (λa _=>2-(intOf a).toNat)
 case atStart=>exact⟨0,I,rfl,DO.refl _ _⟩
 case round =>
  obtain⟨i,p,rfl,m⟩:=hrel;by_cases t:i<2
  .have a:(i:Int)<2:=I;have e:=zb m;clear m;go_wp2_with fail
   go_loopw [4] (λa f=>∃k:Nat,k<=8/\a=.int .i64 k/\AA (DO DQ W f)) (λa _=>8-(intOf a).toNat)
   case atStart=>exact⟨0,I,rfl,e⟩
   case round =>
    obtain⟨k,s,rfl,l⟩:=hrel;by_cases a:k<8
    .have e:(k:Int)<8:=I;obtain⟨g,d,q,c,eb,B,⟨E,K⟩,N,⟨O,c⟩,d,⟨c0,c1,c2,c3,c4,u,Z⟩,e⟩:=Y.z i k t a wr l.z;have c:=cG<|HT.z i t k a;have a:=zG (n.e i k).wrote;obtain⟨o,d⟩:=nm<|n.e i k;rw[d]at c0 c1 c2 c3 c4 u c a e;clear d;rcases c with⟨v,X⟩|⟨v,X,z⟩
     .rw[v]at c2;have a:((o.state:Int)==0)=false:=AR.2 I;cases hf:o.fin;all_goals
       rw[hf]at c1;clear hf;go_wp2_with fail;go_quiet (fail);go_wp2_with fail;go_roundw
       case rel=>exact⟨k+1,I,by congr 1,zb<|l.z.drewN _⟩
       simp[intOf];omega
     rw[v]at c2;rw[X]at c4;cases hf:o.fin
     .rw[hf]at c1;clear hf z;go_wp2_with fail;go_quiet (fail);go_wp2_with fail;go_roundw
      case rel=>exact⟨k+1,I,by congr 1,zb<|l.z.drewN _⟩
      simp[intOf];omega
     rw[hf]at c1;rw[z hf]at u;clear hf z;go_wp2_with fail;go_quiet (fail);go_wp2_with fail;go_roundw
     case rel=>exact⟨k+1,I,by congr 1,zb<|l.z.drewN _⟩
     simp[intOf];omega
    have:k=8:=I;subst this;go_wp2_with fail;go_roundw
    case rel=>exact⟨i+1,I,by congr 1,l.z⟩
    simp[intOf];omega
  have:i=2:=I;subst this;have l:=zb m;clear m;go_wp2_with fail;go_ret;exact⟨rfl,l.z⟩
def cF(h:DZ w tag nb n M W)(hk:k<n.lP.length)(T:n.lP.length<=1099511627776):rT 73 #[(nb,0),[k]] W (λe W'=>e=.returned (.tuple #[])/\zw w tag nb W (n.drop k) W'):=by
 obtain⟨g,d,X,Y,u⟩:=Ub h.o.bg.own I;have E:=h.o.bg.own;have p:=h.o.bg.tag;rw[X]at E p;have K:W (nb,8)=some M.bg:=h.o.obj.cell (j:=8) rfl;rw[X]at K;have fz:=h.o.obj.fz 8;unfold maxLen at u;obtain⟨N,Z⟩:=nm n.lP.length;obtain⟨v1,W1,s,o1,g1,n1⟩:=QI W ru [] ((n.lP.drop 0).take k) ⟨g,0*2,none⟩ d (World.ownsRow_nil W 0 _ 2) (Sr E 0 k) ls;rw[Aq,B6]at o1;rw[B6,AU,BY I,CP]at s;have t:=(DO.refl DQ W).grown g1 (λq c=>by cases c);have l:=λq c=>(n1 q c).elim (λx=>by cases x) id
 have v:=t.owns E<|λ_ _ x=>x;obtain⟨u,f⟩:∃u:Addr,(if d=k+1 then(⟨g,0,none⟩:Addr)else⟨g,(k+1)*2,none⟩)=u:=⟨_,rfl⟩;obtain⟨v2,W2,o,z,g2,n2⟩:=QI W1 v1 (n.lP.take k) ((n.lP.drop<|k+1).take N) u (d-(k+1)) o1 (by
  rw[<-f];by_cases e:d=k+1
  .intro j u hu;have:(n.lP.drop<|k+1).take N=[]:=Ai ls;rw[this]at hu;cases hu
  rw[AH e];exact Sr v (k+1) N) ls
 have e2:(n.lP.drop<|k+1).take N=n.lP.drop (k+1):=Ab ls;rw[e2]at z o;have e3:(n.lP.drop<|k+1).length=N-(k+1):=by rw[Ag,Z]
 rw[e3]at o;have m2:=(DO.refl _ W1).grown g2<|λq c=>.inl c;have O:=t.then m2<|λq c=>.inr<|l q c;have A:∀q,v2.ownBlock=some q->q<W2.heap.size:=λq c=>by
  rcases z.2 with⟨e,_⟩|⟨N,c',u,e,_,x,_⟩
  .rw[e]at c;cases c
  rw[e]at c;cases c;exact(AI.1 x).1
 have F:AA (zw w tag nb W (n.drop k)<|W2.setCell (nb,8) v2):=zb (h.om O rm z (λq c=>.inr ⟨by
  rcases n2 q c with x|x
  .exact l q x
  have:=t.size;omega,A q c⟩))
 obtain⟨c,c2,B,-⟩:=zk z;have c:=t.cell (a:=U nb 8) id K;have e:=O.cell (a:=U nb 8) id K;have a:W2.frozen? ⟨nb,8,none⟩=false:=zg<|O.obj rk h.o.obj.obj;rw[Z]at hk T K c e Y;clear h E p X o1 z g1 g2 n1 n2 t m2 O l A v e2 e3 Z;obtain⟨L,a⟩:=nm<|(n.lP.take k++n.lP.drop (k+1)).length;rw[a]at B;clear a;subst B;go_enter func73,ntmps73;by_cases hc:d=k+1
 .rw[AM hc]at f;subst f;go_wp2_with (at_builtin;first|(refine zo rfl _ _ _ _ rfl _ _ _ rfl rfl s ?_;clear s)|(refine zo rfl _ _ _ _ rfl _ _ _ rfl rfl o ?_;clear o))
  go_end0
  exact⟨rfl,F.z⟩
 rw[AH hc]at f;subst f;go_wp2_with (at_builtin;first|(refine zo rfl _ _ _ _ rfl _ _ _ rfl rfl s ?_;clear s)|(refine zo rfl _ _ _ _ rfl _ _ _ rfl rfl o ?_;clear o))
 go_end0
 exact⟨rfl,F.z⟩
def K0:∀a b:Fin 256,bits .xor .u8 ((a.val:Nat):Int) ((b.val:Nat):Int)=(((UInt8.ofNat a.val) ^^^ (UInt8.ofNat b.val)).toNat:Int):=pi
variable{p:Nat}
def K3(b:rC)(y:UInt8)(a:p<b.length):bits .xor .u8 ((((zu b)[p]'(by rw[zG];exact a)).toNat:Nat):Int) (y.toNat:Int)=((b.getD p 0 ^^^ y).toNat:Int):=by
 have e:(zu b)[p]'(by rw[zG];exact a)=b.getD p 0:=by
  rw[Am,AJ a];rfl
 rw[e];have:=K0 ⟨(b.getD p 0).toNat,UInt8.toNat_lt _⟩ ⟨y.toNat,UInt8.toNat_lt _⟩;simpa using this
variable{fz:Nat×Nat}{g t:Nat}
def Nx{z:UInt8}(h:W.heap[g]?=some (.cells #[.int .u8 (z.toNat:Int)] t fz)):(convert 60 9 (.slice g 1 1)).run prog W=.ok (.string (zu [z])) W :=
 Ii ⟨_,1,rfl,AF _,lw,λi u a=>by
  have c:i<1:=(AO.1 a).1;have:i=0:=I;subst this;cases a;exact⟨g,0,rfl,za h rfl⟩⟩
def cE(b:rC)(p:Nat)(y:UInt8):(zu b).extract 0 p++zu [b.getD p 0 ^^^ y]++(zu b).extract (p+1) b.length=zu (Hy b p y):=by
 rw[PT,PT,Re,Re];congr 1;unfold Hy;rw[Ap,B6,Nat.sub_zero];congr 2;exact Ab<|by rw[Ag];exact AF _
theorem Xf(l:rC)(h:0<(zu l).size):(zu l)[0]'h=l.getD 0 0:=by
 cases l with
 | nil=>exact absurd h lc
 | cons a l=>rfl
def gN(h:DZ w tag nb n M W)(hI:n.Inv T)(hT:T+400<=Db){s:Dh}(hs:s.Ok)(hb:n.lP≠[]):rT 41 #[(nb,0),.agg s.cells] W (EX w tag nb W (n.carry s)):=by
 have N:T+400<=268435455:=hT;have z:=BM.2 hb;have aP:=hI.bl;obtain⟨W1,aj⟩:=nm<|W.alloc<|.cells s.cells 37;have h1:DZ w tag nb n M W1:=by rw[<-aj];exact h.alloc _
 have m1:=AB aj;obtain⟨sb,aK⟩:=nm W.heap.size;have N:Hh W1 sb s:=Hh.of (by rw[<-aj,<-aK];exact heap_alloc_new W _);have aL:=h.env.ok sb I;have aG:=hs.a;have ak:=hs.b;have aQ:=hs.s;obtain⟨c0,c1,c2,c3,c4⟩:=N;have hk:DR s.a n.lP.length<n.lP.length:=zU _ _ z;have hf:n.lP[DR s.a n.lP.length]?=some (n.lP.getD (DR s.a n.lP.length) (0,[])):=by simp[List.getD,hk]
 have az:=AW hf;obtain⟨f1,f2,f3⟩:=hI.lP _ az;have o:=h1.o.bg.own;obtain⟨N,aR,aE,q1,q2,q3⟩:=zk o;unfold maxLen at q2;have p8:W1 (nb,8)=some M.bg:=h1.o.obj.cell (j:=8) rfl;obtain⟨qb,rfl⟩:=q3 z;rw[aE]at o p8;obtain⟨r1,r2⟩:=Sl o rfl hf;have hc:n.carry s=n.nR s (DR s.a n.lP.length) (n.lP.getD (DR s.a n.lP.length) (0,[])):=by unfold NS.carry;rw[AH hb]
 rw[hc];have q:=zb λWx=>H4 s.a n.lP.length Wx aG.1 aG.2 z I
 have E:AA (∀ky M' Wx,DZ w ky nb n M' Wx->rT 73 #[(nb,0),.int .i64 (DR s.a n.lP.length:Int)] Wx (λe W'=>e=.returned (.tuple #[])/\zw w ky nb Wx (n.drop<|DR s.a n.lP.length) W')):=zb λtag' M' Wx N=>cF N hk I
 obtain⟨N,hN⟩:=nm n.lP.length;obtain⟨k,aM⟩:=nm<|DR s.a n.lP.length;rw[aM]at hk hf az f1 f2 f3 r1 r2 q E ⊢;rw[hN]at hk aP o p8 q1 q z;obtain⟨F,hF⟩:=nm<|n.lP.getD k (0,[]);rw[hF]at hf az f1 f2 f3 r1 r2 ⊢;obtain⟨d,b⟩:=F;simp only at f1 f2 f3 r1 r2;obtain⟨ss,aA⟩:=nm s.s;obtain⟨sa,aH⟩:=nm s.a;obtain⟨sc,z⟩:=nm s.b;obtain⟨kd,aB⟩:=nm s.kind;have aS:=zG b;have HN:=zb h1;have aN:=zb m1;have aC:=zb aj;have HI:=zb hI;have HP:AA (∀(x:Nat) Wx,0<x->x<=4096->rT 24 #[[sc],[x]] Wx (λe w'=>e=.returned (.int .i64 (DR sc x:Int))/\Wx=w')):=zb λx Wx h1 h2=>by
  rw[<-z];exact H4 s.b x Wx ak.1 ak.2 I I
 obtain⟨RR,al⟩:=nm<|n.nR s k (d,b);rw[al];unfold NS.nR at al;rw[aB,z,aA]at al;have ai:=zb al;rw[aH]at c2 q;rw[z]at c3;rw[aB]at c0;rw[aA]at c4 aQ;have s:((N:Int)==0)=false:=AR.2 I;have s:(k:Int)<(N:Int):=I;have s:(0:Int)<=(k:Int):=I;unfold Dh.cells at aC ⊢;rw[aA,aH,z,aB]at aC ⊢;have aT:=zb o;clear h h1 m1 aj hs hI hb hc hF aM hN aA aH z aB al aG ak hf az aE q3 hT o;go_enter func41,ntmps41;go_upto_region 1 with fail;rw[aC.z];go_upto_region 3 with fail;refine zn 9 (λw'=>w' (U nb 8)=some (.slice qb N aR)/\w' (U sb 2)=some (.int .i64 sa)) (⟨p8,c2⟩) ?_;refine GI 0 ?_;iterate 7
  refine GV rfl ?_;try simp only[PS]
 refine zz 7 rfl (λK hK=>?_);go_simp;refine(q.z _).mono ?_;rintro _ _ ⟨rfl,rfl⟩;refine hK.z _ _ ⟨p8,c2⟩ ?_;clear hK K;try simp only[PS]
 refine GI 8 ?_;refine GV rfl ?_;try simp only[PS]
 refine zq ?_;go_upto_region 4 with fail;go_upto_region 5 with fail;obtain⟨X,o⟩:=nm<|(W1.alloc<|.cells #[[d],.string (zu b)] 62).drew;obtain⟨B,s⟩:=nm W1.heap.size;rw[s,o];have N:DO DQ W1 X:=by rw[<-o];exact(rp.alloc _).drew
 have h2:=HN.z.free N rm;have z:X.heap[B]?=some (.cells #[[d],.string (zu b)] 62 (0,0)):=by rw[<-o,<-s];exact heap_alloc_new W1 _
 have z0:X B=some (.int .i64 d):=za z rfl;have z1:X (B,1)=some (.string<|zu b):=za z rfl;have A:=HN.z.env.ok B I;have v:AA (∀n' W',zw w tag nb X n' W'->zw w tag nb W n' W'):=zb λn' W' hh=>zw.mG (aN.z.trans N) hh
 replace c0:=N.cell (a:=sb) id c0;replace c3:=N.cell (a:=U sb 3) id c3;replace c4:=N.cell (a:=U sb 4) id c4;have Z:=zb h2;have aF:=zm c0;have am:=zm z0;have aW:(d:Int)<2:=I;have aX:(0:Int)<=(d:Int):=I;clear p8 c1 c2 r1 r2 N h2 z o s aC HN aN q aT aK;by_cases e7:kd=7
 .subst e7;have Y:rT 24 #[[sc],.int .i64 2] X (λe w'=>e=.returned (.int .i64 (DR sc 2:Int))/\X=w'):=HP.z 2 X I I;have t:=ai.z;rw[AM rfl]at t;obtain⟨p2,o⟩:=nm<|DR sc 2;rw[o]at Y t;obtain⟨m,hm⟩:=nm<|(if p2=0 then n.drop k else n);rw[hm]at t;have HR:=zb t;clear t;have an:=E.z tag M X Z.z;clear o ai;have HB:AA (m.Inv T):=by
   rw[<-hm];split
   .exact zb (HI.z.drop k)
   exact HI
  have s:∀O c M3,DZ w c nb m M3 O->(∀g,g<X.heap.size->c g=tag g)->DO (λg=>tag g≠(0,0)) X O->AA (DZ w c nb m M3 O)/\O.cell? B=some (.int .i64 d)/\O.cell? (U B 1)=some (.string<|zu b)/\c B=(0,0)/\AA (∀n' W',zw w c nb O n' W'->zw w tag nb W n' W'):=λO c M3 a o q =>
   ⟨zb a,q.cell (a:=B) (λx=>x A) z0,q.cell (a:=U B 1) (λx=>x A) z1,(o B am).trans A,zb λn' W' hh=>v.z _ _<|zw.trans o q hh⟩
  have aD:=zb s;clear s z0 z1 A v;rcases C3 p2 with hp|hp
  case' inl =>
   rw[AM hp]at hm;have q0:((p2:Int)==0)=true:=by rw[hp];rfl
   go_upto_region 9 with(first|(go_at_call 24;refine Y.mono ?_;rintro _ _ ⟨rfl,rfl⟩)|(go_at_call 73;refine an.mono ?_;rintro _ O ⟨rfl,hL⟩));rw[hm]at hL;obtain⟨c,M3,s,o,q⟩:=hL;obtain⟨u,z0,z1,A,v⟩:=aD.z O c M3 s o q;clear aD s o q an Y hm HI c0 c3 c4 Z E HP
  case' inr =>
   rw[AH I]at hm;have q0:((p2:Int)==0)=false:=AR.2 I;go_upto_region 9 with(first|(go_at_call 24;refine Y.mono ?_;rintro _ _ ⟨rfl,rfl⟩));obtain⟨O,o⟩:=nm X;obtain⟨c,e4⟩:=nm tag;obtain⟨u,z0,z1,A,v⟩:=aD.z O c M (by rw[<-o,<-e4,<-hm];exact Z.z) (λg _=>by rw[e4]) (by rw[<-o];exact DO.refl _ _);rw[o];obtain⟨M3,e5⟩:=nm M;rw[e5]at u;clear aD an Y hm HI c0 c3 c4 Z E HP aF am aL
  all_goals
   obtain⟨gx,cx,b1,⟨b2,b3⟩,b4⟩:=u.z.o.nJ (i:=d) f1;obtain⟨aU,aV,ao,_,_,ac⟩:=u.z.o.x.form I;have aI:=u.z.o.obj.tag;have aJ:c gx=(3,1):=by
    have x:O nb=some M3.x:=u.z.o.obj.cell (j:=0) rfl;rw[b1,ao]at x;cases x;exact ac
   obtain⟨cb,ae⟩:=nm<|M3.b d;have af:=zb<|u.z.free ((DO.refl DQ O).drew) rm;have kr:=QF af.z HB.z f1 b I (by unfold Db;omega);rw[ae]at b4 kr;have ap:=zb ae;have aa:=zb ((HB.z.mono (I:T<=T+400)).lS d (λhd=>((HB.z.c d hd).lM (bs:=b)<|by unfold Db;omega).mono I));have t:=HR.z;unfold NS.recv at t;simp only at t;obtain⟨RQ,aq⟩:=nm<|(m d).lM b;rw[aq]at kr t aa;obtain⟨⟨f,at_⟩,c'⟩:=RQ;simp only at kr t aa;have ab:=zb t;have KR:=zb kr;have q1:((f:Int)==0)=(f==0):=Gj f 0;have ar:AA (∀g,(c g).1=3->(c g).1=d+1->False):=zb λg a b=>I
   clear t aq kr ae ao ac HR;refine zn 16 (λw'=>w' nb=some (.slice gx 2 cx)/\w' (gx,d)=some (.pointer cb)/\w' B=some (.int .i64 d)/\w' (U B 1)=some (.string<|zu b)) (⟨b1,b4,z0,z1⟩) ?_;refine GI 0 ?_;iterate 10
    refine GV rfl ?_;try simp only[PS]
   refine zz 10 rfl (λK hK=>?_);go_simp;refine(KR.z).mono ?_;rintro _ W5 ⟨rfl,hL⟩;rw[<-ap.z]at hL;obtain⟨au,V5,N5,ad,m5⟩:=af.z.conn f1 hL;have G0:=m5.cell (a:=nb) (λx=>ar.z nb (by rw[aI]) x) b1;have G1:=m5.cell (a:=(gx,d)) (λx=>ar.z gx (by rw[aJ]) x) b4;have G2:=m5.cell (a:=B) (λx=>by have x:(c B).1=d+1:=x;rw[A]at x;simp at x) z0;have o:=m5.cell (a:=U B 1) (λx=>by have x:(c B).1=d+1:=x;rw[A]at x;simp at x) z1;refine hK.z _ _ ⟨G0,G1,G2,o⟩ ?_;clear hK K;try simp only[PS]
   refine GI 11 ?_;iterate 5
    refine GV rfl ?_;try simp only[PS]
   refine zq ?_;have av:AA (∀n' W',zw w au nb W5 n' W'->zw w tag nb W n' W'):=zb λn' W' hh=>v.z _ _<|zw.mG ((DO.refl DQ O).drew)<|zw.trans ad (m5.mono<|λg hg=>.inl<|λx=>by rw[x]at hg;simp at hg) hh
   have ag:=Qp N5 aa.z (by unfold Db;omega) f1;obtain⟨RC,aw⟩:=nm<|(m.lS d c').lC d;rw[aw]at ag ab;obtain⟨cm,N6⟩:=RC;simp only at ab;have t:=ab.z;subst t;clear N5 ad m5 aa af KR aw hL ap ab v u HB z0 b1 b4;go_upto_region 11 with(go_at_call 34;refine ag.mono ?_;rintro _ W6 ⟨rfl,ax⟩);have ay:=zb<|av.z _ _ ax;clear ag ax av;obtain⟨cz,ah⟩:=nm<|(f==0);rw[ah]at q1 ⊢;cases cz
   .go_wp2_with fail;go_ret;exact⟨by show _=Ending.returned (.bool<|(f==0)&&cm);rw[ah];rfl,ay.z⟩
   go_wp2_with fail;go_ret;exact⟨by show _=Ending.returned (.bool<|(f==0)&&cm);rw[ah];rfl,ay.z⟩
 have o:=AR.2 e7;have t:=ai.z;rw[AH e7]at t;by_cases e8:kd=8
 .subst e8;rw[AM rfl]at t;subst t;have an:=E.z tag M X Z.z;clear ai;go_wp2_with (go_at_call 73;refine an.mono ?_;rintro _ O ⟨rfl,hL⟩);go_ret;exact⟨rfl,v.z _ _ hL⟩
 have o:=AR.2 e8;rw[AH e8]at t;by_cases e9:kd=9;rotate_left
 .have o:=AR.2 e9;rw[AH e9]at t;subst t;have o:=zb<|v.z _ _ Z.z.left;clear ai E HP Z v;go_wp2_with fail;go_ret;exact⟨rfl,o.z⟩
 subst e9;rw[AM rfl]at t;obtain⟨p,hp⟩:=nm<|DR sc b.length;have aO:p<b.length:=by rw[<-hp];exact zU _ _ f2
 have Y:=HP.z b.length X f2 I;simp only at t;rw[hp]at Y t;have HR:=zb t;clear t ai hp;go_upto_region 15 with fail;rw[<-aS]at Y;go_upto_region 16 with(go_at_call 24;refine Y.mono ?_;rintro _ _ ⟨rfl,rfl⟩);go_upto_region 17 with fail;have o:=zG ss;obtain⟨y,hy⟩:=nm<|IS ss;rw[hy]at HR;have D:(y=1/\¬0<ss.length)\/(0<ss.length/\∃h:0<(zu ss).size,y=1/\((((zu ss)[0]'h).toNat:Int) != 0)=false)\/(0<ss.length/\∃h:0<(zu ss).size,(zu ss)[0]'h=y/\((y.toNat:Int) != 0)=true):=by
  by_cases s:ss.length=0
  .refine .inl ⟨?_,I⟩;rw[<-hy,List.length_eq_zero_iff.1 s];rfl
  have h:0<(zu ss).size:=I;have q:=Xf ss h;by_cases o:(zu ss)[0]'h=0
  .refine .inr (.inl ⟨I,h,?_,by rw[o];rfl⟩);rw[<-hy];unfold IS;rw[<-q,o];rfl
  have e:(zu ss)[0]'h=y:=by
   rw[<-hy];unfold IS;rw[<-q,AM o]
  refine .inr<|.inr ⟨I,h,e,Cd.2<|λq=>o<|Cu.1 ?_⟩;rw[e];simp only[UInt8.toNat_zero];omega
 clear hy;have e:p<=b.length:=I;have e:(0:Int)<=(p:Int)+1:=I;have e:(p:Int)+1<=(b.length:Int):=I;have e:=wi ((p:Int)+1) I;rcases D with⟨hy,hg⟩|⟨hg,s,hy,hz⟩|⟨hg,s,hy,hz⟩;all_goals go_upto_region 19 with fail
 all_goals try rw[show(Value.int .u8 1)=.int .u8 (y.toNat:Int)by subst hy;rfl]
 all_goals clear hy
 all_goals
  have h:=K3 b y aO;have e:=cE b p y;obtain⟨z,hz⟩:∃z:UInt8,b.getD p 0 ^^^ y=z:=⟨_,rfl⟩;rw[hz]at h e;have h:=zb e;have o:(zu [z]).size=1:=zG [z];have q:¬9223372036854775807<p+(zu [z]).size:=I;have q:¬9223372036854775807<p+(zu [z]).size+(b.length-(p+1)):=I;clear hz e o;have o:=z1;refine zn 20 (λw'=>w' (U B 1)=some (.string<|zu b)) (z1) ?_;refine GI 0 ?_;iterate 10
   refine GV rfl ?_;try simp only[PS]
  refine GI 13 ?_;iterate 5
   refine GV rfl ?_;try simp only[PS]
  refine zz 10 rfl (λK hK=>?_);go_simp;refine hK.z _ _ (((DO.refl DQ X).alloc _).cell (a:=U B 1) id o) ?_;clear hK K;try simp only[PS]
  refine zz 11 rfl (λK hK=>?_);have e:=Nx (W:=(X.alloc<|.cells #[.int .u8 (z.toNat:Int)] 5).drew)<|heap_alloc_new X _;go_simp;refine hK.z _ _ (((DO.refl DQ X).alloc _).cell (a:=U B 1) id o) ?_;clear hK K;try simp only[PS]
  refine GI 12 ?_;refine GV rfl ?_;try simp only[PS]
  refine GI 18 ?_;iterate 2
   refine GV rfl ?_;try simp only[PS]
  refine zq ?_;rw[h.z];clear h;obtain⟨SP,q⟩:=nm<|Hy b p y;have e:SP.length<=400:=by rw[<-q,Vi b y aO];exact f3
  obtain⟨O,p⟩:=nm<|(X.alloc<|.cells #[.int .u8 (z.toNat:Int)] 5).drew;rw[q]at HR ⊢;rw[p];have s:DO DQ X O:=by rw[<-p];exact((DO.refl DQ X).alloc _).drew
  obtain⟨m,hm⟩:=nm n;obtain⟨c,e4⟩:=nm tag;obtain⟨M3,e5⟩:=nm M;have u:AA (DZ w c nb m M3 O):=zb (by rw[<-hm,<-e4,<-e5];exact Z.z.free s rm);have HB:AA (m.Inv T):=by rw[<-hm];exact HI
  have e:AA (∀n' W',zw w c nb O n' W'->zw w tag nb W n' W'):=zb λn' W' hh=>v.z _ _<|zw.mG s<|by rw[e4];exact hh
  replace z0:=s.cell (a:=B) id z0;have h:c B=(0,0):=by rw[<-e4];exact A
  rw[hm]at HR;clear p s Z HI v A e4 e5 q hm z1 o c3 c4 c0 Y E HP aF am aL;have v:=e;have A:=h;clear e h;go_upto_region 20 with fail;obtain⟨gx,cx,b1,⟨b2,b3⟩,b4⟩:=u.z.o.nJ (i:=d) f1;obtain⟨aU,aV,ao,_,_,ac⟩:=u.z.o.x.form I;have aI:=u.z.o.obj.tag;have aJ:c gx=(3,1):=by
   have x:O nb=some M3.x:=u.z.o.obj.cell (j:=0) rfl;rw[b1,ao]at x;cases x;exact ac
  obtain⟨cb,ae⟩:=nm<|M3.b d;have af:=zb<|u.z.free ((DO.refl DQ O).drew) rm;have kr:=QF af.z HB.z f1 SP I (by unfold Db;omega);rw[ae]at b4 kr;have ap:=zb ae;have aa:=zb ((HB.z.mono (I:T<=T+400)).lS d (λhd=>((HB.z.c d hd).lM (bs:=SP)<|by unfold Db;omega).mono I));have t:=HR.z;unfold NS.recv at t;simp only at t;obtain⟨RQ,aq⟩:=nm<|(m d).lM SP;rw[aq]at kr t aa;obtain⟨⟨f,at_⟩,c'⟩:=RQ;simp only at kr t aa;have ab:=zb t;have KR:=zb kr;have q1:((f:Int)==7)=(f==7):=Gj f 7;have ar:AA (∀g,(c g).1=3->(c g).1=d+1->False):=zb λg a b=>I
  clear t aq kr ae ao ac HR;refine zn 15 (λw'=>w' nb=some (.slice gx 2 cx)/\w' (gx,d)=some (.pointer cb)/\w' B=some (.int .i64 d)) (⟨b1,b4,z0⟩) ?_;refine GI 0 ?_;iterate 9
   refine GV rfl ?_;try simp only[PS]
  refine zz 9 rfl (λK hK=>?_);go_simp;refine(KR.z).mono ?_;rintro _ W5 ⟨rfl,hL⟩;rw[<-ap.z]at hL;obtain⟨au,V5,N5,ad,m5⟩:=af.z.conn f1 hL;have G0:=m5.cell (a:=nb) (λx=>ar.z nb (by rw[aI]) x) b1;have G1:=m5.cell (a:=(gx,d)) (λx=>ar.z gx (by rw[aJ]) x) b4;have G2:=m5.cell (a:=B) (λx=>by have x:(c B).1=d+1:=x;rw[A]at x;simp at x) z0;refine hK.z _ _ ⟨G0,G1,G2⟩ ?_;clear hK K;try simp only[PS]
  refine GI 10 ?_;iterate 5
   refine GV rfl ?_;try simp only[PS]
  refine zq ?_;have av:AA (∀n' W',zw w au nb W5 n' W'->zw w tag nb W n' W'):=zb λn' W' hh=>v.z _ _<|zw.mG ((DO.refl DQ O).drew)<|zw.trans ad (m5.mono<|λg hg=>.inl<|λx=>by rw[x]at hg;simp at hg) hh
  have ag:=Qp N5 aa.z (by unfold Db;omega) f1;obtain⟨RC,aw⟩:=nm<|(m.lS d c').lC d;rw[aw]at ag ab;obtain⟨cm,N6⟩:=RC;simp only at ab;have t:=ab.z;subst t;clear N5 ad m5 aa af KR aw hL ap ab v u HB z0 b1 b4;go_upto_region 22 with(go_at_call 34;refine ag.mono ?_;rintro _ W6 ⟨rfl,ax⟩);have ay:=zb<|av.z _ _ ax;clear ag ax av;obtain⟨cz,ah⟩:=nm<|(f==7);rw[ah]at q1 ⊢;cases cz
  .go_wp2_with fail;go_ret;exact⟨by show _=Ending.returned (.bool<|(f==7)&&cm);rw[ah];rfl,ay.z⟩
  go_wp2_with fail;go_ret;exact⟨by show _=Ending.returned (.bool<|(f==7)&&cm);rw[ah];rfl,ay.z⟩
def iM(h:DZ w tag nb n M W)(hI:n.Inv T)(t:T<=Db)(u:n.Up){s:Dh}(v:s.Ok)(l:s.kind=6):rT 21 #[(nb,0),.agg s.cells] W (EX w tag nb W (n.flush (DR s.side 2))):=by
 obtain⟨W1,O,i,k,T,X,c,f,s,z,B,a,E,K,d,o,e,p,Y,⟨Z,b3⟩,b4⟩:=Jp h v;rw[d];obtain⟨c0,c1,c2,c3,c4⟩:=B;rw[l]at c0;have a:=zb c;have A:=PP s hI t u E;have q:=zb z;obtain⟨RR,f⟩:=nm<|n.flush i;rw[f]at A ⊢;unfold Dh.cells at a ⊢;rw[l]at a ⊢;clear h hI s z c v l d o t f u;go_enter func21,ntmps21;go_upto_region 1 with fail;rw[a.z];go_wp2_with (first|(go_at_call 24;refine e.mono ?_;rintro _ _ ⟨rfl,rfl⟩;clear e)|(go_at_call 24;refine p.mono ?_;rintro _ _ ⟨rfl,rfl⟩)|(go_at_call 22;refine A.mono ?_;rintro _ a ⟨rfl,N⟩));go_ret;exact⟨rfl,zw.mG q.z N⟩
def gM(h:DZ w tag nb n M W)(hI:n.Inv T)(B:T<=Db){s:Dh}(f:s.Ok)(v:s.kind=10):rT 21 #[(nb,0),.agg s.cells] W (EX w tag nb W (n.read (DR s.side 2) (DR s.b 8) (DR s.a 200))):=by
 obtain⟨W1,Y,i,q,Z,cx,l,e,E,K,O,d,T,u,o,z,p,t,b1,⟨b2,b3⟩,b4⟩:=Jp h f;have q:DR s.b 8<8:=zU _ _ I;have d:DR s.a 200<200:=zU _ _ I;have a:rT 24 #[[s.b],.int .i64 8] W1 (λe w'=>e=.returned (.int .i64 (DR s.b 8:Int))/\W1=w'):=H4 s.b 8 W1 f.b.1 f.b.2 I I;have c:rT 24 #[[s.a],.int .i64 200] W1 (λe w'=>e=.returned (.int .i64 (DR s.a 200:Int))/\W1=w'):=H4 s.a 200 W1 f.a.1 f.a.2 I I;obtain⟨k,e⟩:=nm<|DR s.b 8;obtain⟨m,u⟩:=nm<|DR s.a 200;rw[o];rw[e]at q a ⊢;rw[u]at d c ⊢;obtain⟨c0,c1,c2,c3,c4⟩:=O;rw[v]at c0;have d:=zb l;have N:=Ua E hI B T q (I:m<=4096);have A:=zb K;obtain⟨RR,q⟩:=nm<|n.read i k m;rw[q]at N ⊢;unfold Dh.cells at d ⊢;rw[v]at d ⊢;clear h hI E K l f v o e B q u z;go_enter func21,ntmps21;go_upto_region 1 with fail;rw[d.z];go_upto_region 39 with(first|(go_at_call 24;refine p.mono ?_;rintro _ _ ⟨rfl,rfl⟩;clear p)|(go_at_call 24;refine t.mono ?_;rintro _ _ ⟨rfl,rfl⟩));clear t;go_wp2_with (first|(go_at_call 24;refine a.mono ?_;rintro _ _ ⟨rfl,rfl⟩;clear a)|(go_at_call 24;refine c.mono ?_;rintro _ _ ⟨rfl,rfl⟩;clear c)|(go_at_call 35;refine N.mono ?_;rintro _ a ⟨rfl,X⟩));go_ret;exact⟨rfl,zw.mG A.z X⟩
def VL(h:DZ w tag nb n M W)(hI:n.Inv T)(a:T+400<=Db){s:Dh}(c:s.Ok):rT 41 #[(nb,0),.agg s.cells] W (EX w tag nb W (n.carry s)):=by
 by_cases hb:n.lP=[]
 .exact U8 h hb s
 exact gN h hI a c hb
def iL(h:DZ w tag nb n M W)(hI:n.Inv T)(v:T+400<=Db){s:Dh}(o:s.Ok)(e:s.kind≠1/\s.kind≠2/\s.kind≠3/\s.kind≠4/\s.kind≠5/\s.kind≠6/\s.kind≠10):rT 21 #[(nb,0),.agg s.cells] W (EX w tag nb W (n.carry s)):=by
 obtain⟨W1,K,i,k,N,O,c,f,z,A,B,a,T,E,p,q,d,t,X,⟨Y,Z⟩,b4⟩:=Jp h o;obtain⟨c0,c1,c2,c3,c4⟩:=B;obtain⟨B,E,K,N,O,T,X⟩:=e;have Y:=AR.2 B;have Z:=AR.2 E;have d3:=AR.2 K;have d4:=AR.2 N;have d5:=AR.2 O;have d6:=AR.2 T;have d7:=AR.2 X;have a:=zb c;have l:=VL z hI v o;have u:=zb A;obtain⟨RR,e⟩:=nm<|n.carry s;rw[e]at l ⊢;unfold Dh.cells at a l ⊢;obtain⟨kd,f⟩:=nm s.kind;rw[f]at a l c0 Y Z d3 d4 d5 d6 d7 ⊢;clear h hI z A c o p q v e B E K N O T X f;go_enter func21,ntmps21;go_upto_region 1 with fail;rw[a.z];go_wp2_with (first|(go_at_call 24;refine d.mono ?_;rintro _ _ ⟨rfl,rfl⟩;clear d)|(go_at_call 24;refine t.mono ?_;rintro _ _ ⟨rfl,rfl⟩)|(go_at_call 41;refine l.mono ?_;rintro _ a ⟨rfl,hL⟩));go_ret;exact⟨rfl,zw.mG u.z hL⟩
def Xe:(prog.info? 86).map (λi=>(i.zero,i.size,i.bytes))=some (some (.pointer none),1,8):=kw
section
variable {w:rq} {tag ky:rD} {nb mt wn tt:Nat} {R:Nat->rt} {L:Nat->List rt} {C:Nat} {b:Nat->Nat} {V:Nat->CV} {D:Nat} {er:Nat->rt} {eb:Nat->Nat} {W W':rq}
def IR(er:Nat->rt)(i K:Nat):rt:=if K=0 then .slice none 0 0 else er i
def BN.pM(h:BN w tag nb mt wn tt R L C b V D er eb W){K:Nat}(hi:i<2)(c:K<8)(hD:D=8*i+K):∃Y Z a c s ky,IR er i K=.slice Y K Z/\(∀ty,(Builtin.append_ #[87,87] ty #[.slice Y K Z,.slice (W.heap.size+1,0) 1 1]).run prog ((W.alloc (.cells (Fh EN.zero) 89)).alloc (.cells #[(W.heap.size,0)] 86))=.ok (.slice a (K+1) c) s) /\
   BN w ky nb mt wn tt R L C b V (D+1) (ze er i<|.slice a (K+1) c) (ze eb D W.heap.size) s:=by
 obtain⟨ii,aa,ab,ac,ad⟩:=info_parts Xe;obtain⟨W1,t⟩:=nm<|W.alloc<|.cells (Fh EN.zero) 89;obtain⟨E,v⟩:=nm<|W1.alloc<|.cells #[(W.heap.size,0)] 86;have c:=AB t;have N:=AB v;have m0:=c.trans N;have s1:=AC t;have s0:E.heap.size=W.heap.size+2:=by rw[<-v];simp[s1]
 have ae:=AD t;have c:E.heap[W.heap.size+1]?=some (.cells #[(W.heap.size,0)] 86 (0,0)):=by rw[<-v,<-s1];exact heap_alloc_new W1 _
 have hc:∀(j:Nat) u,[Eu W.heap.size][j]?=some u->E ((⟨W.heap.size+1,0,none⟩:Addr).add j)=some u:=λj u hj=>by
  rw[zX];refine za c ?_;rw[Aw,<-Array.getElem?_toList];exact hj
 have O:W.ownsRow 0 86 1 (IR er i K) K ((List.range K).map λk=>Eu<|eb<|8*i+k)/\∀q,(IR er i K).ownBlock=some q->tag q=(3,7+i):=by
  unfold IR;split
  .rename_i af;subst af;exact⟨World.ownsRow_nil W 0 _ 1,λq o=>by cases o⟩
  have x:=h.er i hi I;rw[(I:min 8 (D-8*i)=K)]at x;exact⟨x.own,x.tag⟩
 obtain⟨c,A⟩:=O;obtain⟨Y,Z,f1,O,f3,f4⟩:=zk c;obtain⟨v2,s,r2,o2,g2,n2⟩:=zN (P:=prog) E 87 86 ii _ 1 8 underlying87 aa ab ac ad rfl lc (IR er i K) K ((List.range K).map λk=>Eu<|eb<|8*i+k) (m0.owns c<|λ_ _ x=>x)
  ⟨W.heap.size+1,0,none⟩ 1 1 [Eu W.heap.size] rfl hc (by intro u hu;simp at hu;subst hu;rfl) lw I
 have u:=(DO.refl _ E).grown g2<|λq o=>.inl o;have T:=(m0.mono rm).then u<|λq o=>.inl<|A q o;have c:W.heap.size+2<=s.heap.size:=by rw[<-s0];exact u.size
 have ag:∀q,v2.ownBlock=some q->q<s.heap.size:=λq o=>QV o2 o
 have ah:∀q,v2.ownBlock=some q->tag q=(3,7+i)\/W.heap.size+2<=q:=λq o=>by
  rcases n2 q o with z|z
  .exact .inl (A q z)
  exact .inr I
 have c:=λq o=>h.env.ok q o
 obtain⟨ky,p⟩:=nm<|(λg=>if g=W.heap.size then(3,20+D)else if W.heap.size<=g/\v2.ownBlock=some g/\g<s.heap.size then(3,7+i)else tag g);have o:∀g,g<W.heap.size->ky g=tag g:=λg l=>by
  rw[<-p];simp only;rw[AH I,AH (λx=>I)]
 have f:∀g,tag g≠(0,0)->ky g=tag g:=λg l=>by
  by_cases q:g<W.heap.size
  .exact o g q
  exact absurd (c g I) l
 have q4:∀{x:Nat},x≠7+i->∀g,tag g=(3,7+i)->tag g≠(3,x):=λa g l y=>by
  rw[y]at l;simp at l;exact a l
 have ai:s.heap[W.heap.size]?=some (.cells (Fh EN.zero) 89 (0,0)):=by
  refine u.obj (λz=>?_)<|N.obj rk ae;have:=A _ z;rw[c _ ro]at this;simp at this
 obtain⟨a2,c2,X,-⟩:=zk o2;have B:BN w ky nb mt wn tt R L C b V (D+1) (ze er i v2) (ze eb D W.heap.size) s:=by
  refine h.build T (λg l=>.inl<|by rw[l]) ⟨o,λg l=>?_,λg l=>?_⟩ (h.obj.mod T (q4 I) f) (λx a=>(h.row x a).mod T (q4 I) f) (λd hd=>?_) (λj hj hd=>?_) I
  .rw[<-p];simp only;split
   .exact .inl rfl
   split
   .exact .inl rfl
   exact .inr<|c g l
  .rw[<-p];simp only;rw[AH I,AH (λx=>I)];exact c g I
  .by_cases y:d=D
   .subst y;rw[zf];exact⟨ai,by rw[<-p];exact AM rfl⟩
   rw[zd _ _ y];exact(h.en d I).mod T (q4 I) f
  by_cases y:j=i
  .subst y;rw[zf,(I:min 8 (D+1-8*j)=K+1)];have e:((List.range<|K+1).map λk=>Eu<|ze eb D W.heap.size<|8*j+k)=((List.range K).map λk=>Eu<|eb<|8*j+k)++[Eu W.heap.size]:=by
    rw[Bp,BX,List.map_singleton,<-hD,zf];congr 1;refine Cy λk hk=>?_
    rw[zd _ _ (pp<|Bn.1 hk)]
   rw[e];refine⟨o2,λg l=>?_⟩;rcases ah g l with z|z
   .rw[f g (by rw[z];simp),z]
   rw[<-p];simp only;rw[AH I,AM ⟨I,l,ag g l⟩]
  rw[zd _ _ y];have aj:j=0/\i=1\/j=1/\i=0:=I;rcases aj with⟨rfl,rfl⟩|⟨rfl,rfl⟩
  .rw[(I:min 8 (D+1-8*0)=8)];have x:=h.er 0 I I;rw[(I:min 8 (D-8*0)=8)]at x;have e:((List.range 8).map λk=>Eu<|ze eb D W.heap.size<|8*0+k)=((List.range 8).map λk=>Eu<|eb<|8*0+k) :=
    Cy λk hk=>by rw[zd _ _ (pp<|Bn.1 hk)]
   rw[e];exact x.mod T (q4 I) f
  exact absurd hd I
 subst X;rw[f1]at r2;exact⟨Y,Z,a2,c2,s,ky,f1,by rw[t,v];exact r2,B⟩
def BN.done{R:Nat->rt}{L:Nat->List rt}(h:BN w tag nb mt wn tt R L 2 b V 16 er eb W)(q:L 0=[Eu (b 0),Eu (b 1)])(s:L 1=[er 0,er 1])(t:L 2=[.slice none 0 0,.slice none 0 0])(u:L 3=[.int .u64 0,.int .u64 0])(v:L 4=[.int .u64 0,.int .u64 0]):DZ w tag nb (NS.new mt wn tt) ⟨R 0,R 1,R 2,R 3,.slice none 0 0,R 4,b,V,er,λi k=>eb (8*i+k),λ_=>.slice none 0 0,λ_=>[]⟩ W:=by
 have d:=h.row 0 I;have e:=h.row 1 I;have f:=h.row 2 I;have l:=h.row 3 I;have p:=h.row 4 I;rw[q]at d;rw[s]at e;rw[t]at f;rw[u]at l;rw[v]at p;exact
  {o :=
    {obj:=h.obj
     x:=d
     ev:=e
     gv:=f
     nx:=l
     ct:=p
     bg:=⟨World.ownsRow_nil W 0 _ 2,λg c=>by cases c⟩
     er:=λi a=>by
      have x:=h.er i a I;rw[(I:min 8 (16-8*i)=8)]at x;exact x
     en:=λi a k d=>by
      have x:=h.en (8*i+k) I;rw[(I:20+(8*i+k)=20+8*i+k)]at x;exact x
     gr:=λi a=>⟨World.ownsRow_nil W 0 _ 1,λg c=>by cases c⟩
     gl:=λi a=>rfl
     gn:=λi a j b s hb=>by simp at hb }
   cn:=λi a=>h.cn i a
   env:=h.env
   nd:=h.nd
   mod:=h.mod
   t1:=h.t1 }
end
def XV:(prog.info? (IA 0)).map (λi=>(i.zero,i.size,i.bytes))=some (some (.pointer none),1,8):=kw
def XU:(prog.info? (IA 1)).map (λi=>(i.zero,i.size,i.bytes))=some (some (.slice none 0 0),1,24):=kw
def XT:(prog.info? (IA 2)).map (λi=>(i.zero,i.size,i.bytes))=some (some (.slice none 0 0),1,24):=kw
def XS:(prog.info? (IA 3)).map (λi=>(i.zero,i.size,i.bytes))=some (some (.int .u64 0),1,8):=kw
def WV:(prog.info? (IA 4)).map (λi=>(i.zero,i.size,i.bytes))=some (some (.int .u64 0),1,8):=kw
variable{w1:rq}
def DZ.base(h:DZ w1 tag nb n M W)(m:DO DQ w w1):DZ w tag nb n M W :=
 ⟨h.o,h.cn,h.env,h.nd,m.trans h.mod,λg a=>AK m.size<|h.t1 g a⟩
def cD(w:rq)(n:NS)(e:Ending)(W':rq):Prop:=∃nb tag M,e=.returned (.pointer (some ⟨nb,0,none⟩))/\DZ w tag nb n M W'
structure E6(L:Nat->List rt)(b:Nat->Nat)(er:Nat->rt)(c0 c1 c2 c3 c4:Nat):Prop where
 h0:L 0=(List.range c0).map λj=>Eu<|b j
 h1:L 1=(List.range c1).map er
 h2:L 2=List.replicate c2 (.slice none 0 0)
 h3:L 3=List.replicate c3 (.int .u64 0)
 h4:L 4=List.replicate c4 (.int .u64 0)
def kZ:CV:=⟨0,.slice none 0 0,λ_=>.slice none 0 0,λ_=>.slice none 0 0,λ_=>.slice none 0 0,λ_=>.slice none 0 0,λ_=>.slice none 0 0,.slice none 0 0,[],.slice none 0 0,0,.slice none 0 0⟩
def BN.start(E:D0 1 (λ_=>(0,0)) w1)(mt wn tt:Nat):BN w1 (λg=>if g=w1.heap.size then(3,0)else(0,0)) w1.heap.size mt wn tt (λ_=>.slice none 0 0) (λ_=>[]) 0 (λ_=>0) (λ_=>kZ) 0 (λ_=>.slice none 0 0) (λ_=>0) (w1.alloc (.cells (Jb mt wn tt (λ_=>.slice none 0 0)) 48)):=by
 have m:DO DQ w1 (w1.alloc<|.cells (Jb mt wn tt<|λ_=>.slice none 0 0) 48):=rp.alloc _;have p0:=zm E.err;have p1:=E.tab.lt;exact
  {obj:=⟨heap_alloc_new w1 _,AM rfl⟩
   row:=λr e=>⟨World.ownsRow_nil _ 0 _ 1,λg a=>by cases a⟩
   en:=λd hd=>absurd hd<|A6 d
   er:=λj c hd=>absurd hd I
   cn:=λj c=>absurd c<|A6 j
   c2:=I
   d16:=I
   env:=⟨λg a=>AH<|by simp at a;omega,E.pos,(E.lK m).err,(E.lK m).tab,AH I,AH I⟩
   nd:=λj c g r e=>by
    simp only;split
    .intro x;have:=A8 Prod.fst x;simp at this;omega
    intro x;have:=A8 Prod.fst x;simp at this
   mod:=m
   t1:=λg a=>by
    by_cases x:g=w1.heap.size
    .omega
    simp only[AH x]at a;exact absurd rfl a }
section
variable {L:Nat->List rt} {b:Nat->Nat} {er:Nat->rt} {c0 c1 c2 c3 c4:Nat}
def E6.len(h:E6 L b er c0 c1 c2 c3 c4):(L 0).length=c0/\(L 1).length=c1/\(L 2).length=c2/\(L 3).length=c3/\(L 4).length=c4:=by
 rw[h.h0,h.h1,h.h2,h.h3,h.h4];simp
def E6.p0(h:E6 L b er c0 c1 c2 c3 c4)(q:Nat):E6 (ze L 0 (L 0++[.pointer q])) (ze b c0 q) er (c0+1) c1 c2 c3 c4:=by
 refine⟨?_,by rw[zd _ _ I];exact h.h1,by rw[zd _ _ I];exact h.h2,by rw[zd _ _ I];exact h.h3,by rw[zd _ _ I];exact h.h4⟩;rw[zf,Bp,BX,List.map_singleton,zf,h.h0];congr 1;refine Cy λk a=>?_
 rw[zd _ _ (pp<|Bn.1 a)]
def E6.p1(h:E6 L b er c0 c1 c2 c3 c4){u:rt}(a:er c1=u):E6 (ze L 1 (L 1++[u])) b er c0 (c1+1) c2 c3 c4:=by
 refine⟨by rw[zd _ _ I];exact h.h0,?_,by rw[zd _ _ I];exact h.h2,by rw[zd _ _ I];exact h.h3,by rw[zd _ _ I];exact h.h4⟩;rw[zf,Bp,BX,List.map_singleton,h.h1,a]
def E6.p2(h:E6 L b er c0 c1 c2 c3 c4):E6 (ze L 2 (L 2++[.slice none 0 0])) b er c0 c1 (c2+1) c3 c4:=by
 refine⟨by rw[zd _ _ I];exact h.h0,by rw[zd _ _ I];exact h.h1,?_,by rw[zd _ _ I];exact h.h3,by rw[zd _ _ I];exact h.h4⟩;rw[zf,Cq,h.h2]
def E6.p3(h:E6 L b er c0 c1 c2 c3 c4):E6 (ze L 3 (L 3++[.int .u64 0])) b er c0 c1 c2 (c3+1) c4:=by
 refine⟨by rw[zd _ _ I];exact h.h0,by rw[zd _ _ I];exact h.h1,by rw[zd _ _ I];exact h.h2,?_,by rw[zd _ _ I];exact h.h4⟩;rw[zf,Cq,h.h3]
def E6.p4(h:E6 L b er c0 c1 c2 c3 c4):E6 (ze L 4 (L 4++[.int .u64 0])) b er c0 c1 c2 c3 (c4+1):=by
 refine⟨by rw[zd _ _ I];exact h.h0,by rw[zd _ _ I];exact h.h1,by rw[zd _ _ I];exact h.h2,by rw[zd _ _ I];exact h.h3,?_⟩;rw[zf,Cq,h.h4]
def E6.qG(h:E6 L b er c0 c1 c2 c3 c4)(hi:c1<=i)(v:rt):E6 L b (ze er i v) c0 c1 c2 c3 c4:=by
 refine⟨h.h0,?_,h.h2,h.h3,h.h4⟩;rw[h.h1];refine Cy λk a=>?_
 rw[zd _ _ (pp<|Bn.1 a)]
end
def VK(a b c:Int)(ha : -9223372036854775808<=a/\a<=9223372036854775807)(hb : -9223372036854775808<=b/\b<=9223372036854775807)(hc : -9223372036854775808<=c/\c<=9223372036854775807)(w:rq)(E:D0 1 (λ_=>(0,0)) w):rT 20 #[[a],[b],[c]] w (cD w (NS.build a b c)):=by
 have f:=zU a 337 I;have h:=zU b 300 I;have u:=zU c 600 I;have l:rT 24 #[[a],.int .i64 337] w (λe w'=>e=.returned (.int .i64 (DR a 337:Int))/\w=w'):=H4 a 337 w ha.1 ha.2 I I;have o:rT 24 #[[b],.int .i64 300] w (λe w'=>e=.returned (.int .i64 (DR b 300:Int))/\w=w'):=H4 b 300 w hb.1 hb.2 I I;have p:rT 24 #[[c],.int .i64 600] w (λe w'=>e=.returned (.int .i64 (DR c 600:Int))/\w=w'):=H4 c 600 w hc.1 hc.2 I I;unfold NS.build;obtain⟨p1,e1⟩:=nm<|DR a 337;obtain⟨p2,e2⟩:=nm<|DR b 300;obtain⟨p3,e3⟩:=nm<|DR c 600;rw[e1]at l f ⊢;rw[e2]at o h ⊢;rw[e3]at p u ⊢;obtain⟨mt,u⟩:=nm<|64+p1;obtain⟨wn,v⟩:=nm<|16+p2;obtain⟨tt,z⟩:=nm<|16+p3;have c:(64:Int)+(p1:Int)=(mt:Int):=I;have c:(16:Int)+(p2:Int)=(wn:Int):=I;have c:(16:Int)+(p3:Int)=(tt:Int):=I;have c:IntKind.i64.wrap (mt:Int)=(mt:Int):=by rw[IntKind.wrap_i64];omega
 have c:IntKind.i64.wrap (wn:Int)=(wn:Int):=by rw[IntKind.wrap_i64];omega
 have c:IntKind.i64.wrap (tt:Int)=(tt:Int):=by rw[IntKind.wrap_i64];omega
 rw[u,v,z];have A:JS mt wn tt=true:=by
  unfold JS;simp only[AZ,Ah];omega
 have c:=zb E;have aa:=zb A;obtain⟨W1,f⟩:=nm<|w.alloc<|.cells #[[mt],[wn],[tt]] 45;have m1:=AB f;have c:=AD f;obtain⟨h,B⟩:=nm w.heap.size;rw[B]at c;have g0:W1 h=some (.int .i64 mt):=za c rfl;have g1:W1 (h,1)=some (.int .i64 wn):=za c rfl;have g2:W1 (h,2)=some (.int .i64 tt):=za c rfl;have HG:AA (∀B,DO DQ W1 B->B.cell? h=some (.int .i64 mt)/\B.cell? (h,1)=some (.int .i64 wn)/\B.cell? (h,2)=some (.int .i64 tt)):=zb λB m=>⟨m.cell (a:=h) id g0,m.cell (a:=U h 1) id g1,m.cell (a:=U h 2) id g2⟩
 have N:=zb m1;have ST:=zb<|BN.start (E.lK m1) mt wn tt;have ab:=zb f;obtain⟨nb,a⟩:=nm W1.heap.size;rw[a]at ST;unfold Jb at ST;obtain⟨h,a⟩:=nm<|W1.alloc<|.cells #[ru,.slice none 0 0,.slice none 0 0,.slice none 0 0,.int .u64 0,[mt],[wn],[tt],.slice none 0 0,.slice none 0 0] 48;have ac:=zb a;rw[a]at ST;clear E A m1 c f a u v z ha hb hc e1 e2 e3;go_enter func20,ntmps20;go_upto_region 2 with(first|(go_at_call 24;refine l.mono ?_;rintro _ _ ⟨rfl,rfl⟩;clear l)|(go_at_call 24;refine o.mono ?_;rintro _ _ ⟨rfl,rfl⟩;clear o)|(go_at_call 24;refine p.mono ?_;rintro _ _ ⟨rfl,rfl⟩;clear p));try rw[ab.z]
 go_wp2_with fail;try rw[ac.z]
 go_loopw [9] (λa wr=>∃(i:Nat) (tag:rD) (R:Nat->rt) (L:Nat->List rt) (bb:Nat->Nat) (V:Nat->CV) (er:Nat->rt) (eb:Nat->Nat),i<=2/\a=.int .i64 i/\AA (BN W1 tag nb mt wn tt R L i bb V (8*i) er eb wr/\E6 L bb er i i i i i)) (λa _=>2-(intOf a).toNat)
 case atStart=>exact⟨0,_,_,_,_,_,_,_,I,rfl,zb ⟨ST.z,⟨rfl,rfl,rfl,rfl,rfl⟩⟩⟩
 case round =>
  obtain⟨i,tag,R,L,bb,V,er,eb,O,rfl,HB⟩:=hrel;by_cases d:i<2;rotate_left
  .have h2:i=2:=I;subst h2;have a:=zb<|(HB.z.1.done HB.z.2.h0 HB.z.2.h1 HB.z.2.h2 HB.z.2.h3 HB.z.2.h4).base N.z;clear d;go_wp2_with fail;go_ret;exact⟨nb,tag,_,rfl,a.z⟩
  have xw:=wi ((i:Int)+1) I;have xc:((i+1:Nat):Int)=(i:Int)+1:=I;obtain⟨u0,u1,u2⟩:=HG.z wr HB.z.1.mod;have kn:=X6 tag (i+1) mt wn tt wr<|HB.z.1.env.to I;go_upto_region 9 with(go_at_call 36;refine kn.mono ?_;rintro e Wn hp;rcases hp with⟨hf,-⟩|⟨q,T,Vn,-,rfl,n1,n2,n3,n4⟩;exact absurd (aa.z.symm.trans hf) lm);simp only[Ad]at n1;have A:Dk tag (i+1) q wr (CS.new mt wn tt) Wn:=⟨T,Vn,n1,n2,n3.mono rm⟩;obtain⟨a,E,B⟩:=HB.z.1.conn d A;obtain⟨z,l1,l2,X,s⟩:=HB.z.2.len;obtain⟨c,o,p,u,f,-,v,a,e,h,T,l⟩:=B.push (r:=0) lc (.pointer q) rfl 39 8 XV rfl underlying39 lc (by rw[z];exact AK O lc);rw[z]at v a e l;have v:Wn nb=some (.slice c i o):=v;have e:f nb=some (.slice c i o):=e;have h:f.frozen? ⟨nb,0,none⟩=false:=h;obtain⟨o,c⟩:=nm<|f.setCell nb<|.slice p (i+1) u;have B0:=zb (l o (by rw[<-c];exact DO.refl _ _));have S0:=zb<|HB.z.2.p0 q;obtain⟨R0,o⟩:=nm<|ze R 0<|Value.slice p (i+1) u;obtain⟨L0,f⟩:=nm<|ze L 0<|L 0++[(.pointer q:rt)];rw[o,f]at B0;rw[f]at S0;clear l o f;clear B n1 n2 n3 n4 kn u0 u1 u2 A;go_upto_region 10 with(at_builtin;refine zo rfl _ _ _ _ rfl _ _ _ rfl rfl a ?_);try rw[c]
  clear c v a e h;clear HB z;obtain⟨c,a⟩:=nm<|ze bb i q;rw[a]at B0;rw[a]at S0;clear a;go_wp2_with fail
  go_loopw [12,13] (λe a wr=>∃(K:Nat) (tag:rD) (er:Nat->rt) (eb:Nat->Nat),K<=8/\e=IR er i K/\a=.int .i64 K/\AA (BN W1 tag nb mt wn tt R0 L0 (i+1) c E (8*i+K) er eb wr/\E6 L0 c er (i+1) i i i i)) (λ_ a _=>8-(intOf a).toNat)
  case atStart=>exact⟨0,_,_,_,I,rfl,rfl,zb ⟨B0.z,S0.z⟩⟩
  case round =>
   obtain⟨K,tag,er,eb,a,rfl,rfl,HB⟩:=hrel;by_cases Y:K<8
   .obtain⟨va,ca,c,e,h,a,t,f,l⟩:=HB.z.1.pM d Y rfl;have o:=zb<|HB.z.2.qG (AF i)<|.slice c (K+1) e;have h:=zb l;have Z:IR (ze er i<|.slice c (K+1) e) i (K+1)=.slice c (K+1) e:=by unfold IR;rw[AH I,zf]
    have c:=zb Z;rw[t];unfold Fh EN.zero at f;clear l Z t HB;go_wp2_with (at_builtin;refine zo rfl _ _ _ _ rfl _ _ _ rfl rfl f ?_;clear f);go_roundw
    case rel=>exact⟨K+1,a,_,_,I,c.z.symm,by go_num,zb ⟨h.z,o.z⟩⟩
    simp[intOf];omega
   have h8:K=8:=I;subst h8;obtain⟨_,_,_,_,_⟩:=HB.z.2.len;have a:=HB.z.1.er i d I;rw[(I:min 8 (8*i+8-8*i)=8)]at a;obtain⟨va,ca,t,-⟩:=zk a.own;have Z:IR er i 8=.slice va 8 ca:=by unfold IR;rw[AH I,t]
   rw[Z];have z:=zb t;obtain⟨-,l1,l2,X,s⟩:=HB.z.2.len;clear a Z t Y;obtain⟨c,o,p,q,f,-,u,a,e,h,t,l⟩:=HB.z.1.push (r:=1) lc (.slice va 8 ca) rfl 40 24 XU rfl underlying40 lc (by rw[l1];exact AK O lc);rw[l1]at u a e l;have u:wr (nb,1)=some (.slice c i o):=u;have e:f (nb,1)=some (.slice c i o):=e;have h:f.frozen? ⟨nb,1,none⟩=false:=h;obtain⟨o,c⟩:=nm<|f.setCell (U nb 1)<|.slice p (i+1) q;have B:=zb (l o (by rw[<-c];exact DO.refl _ _));have v:=zb<|HB.z.2.p1 z.z;obtain⟨K,t⟩:=nm<|ze R0 1<|Value.slice p (i+1) q;obtain⟨A,f⟩:=nm<|ze L0 1<|L0 1++[(.slice va 8 ca:rt)];rw[t,f]at B;rw[f]at v;clear l t f;go_upto_region 16 with(at_builtin;refine zo rfl _ _ _ _ rfl _ _ _ rfl rfl a ?_);try rw[c]
   clear c u a e h;obtain⟨-,-,l2,X,s⟩:=v.z.len;obtain⟨c,p,q,t,f,-,u,a,e,h,z,l⟩:=B.z.push (r:=2) lc ru rfl 41 24 XT rfl underlying41 lc (by rw[l2];exact AK O lc);rw[l2]at u a e l;have u:o (nb,2)=some (.slice c i p):=u;have e:f (nb,2)=some (.slice c i p):=e;have h:f.frozen? ⟨nb,2,none⟩=false:=h;obtain⟨o,c⟩:=nm<|f.setCell (U nb 2)<|.slice q (i+1) t;have E:=zb (l o (by rw[<-c];exact DO.refl _ _));have z:=zb<|v.z.p2;obtain⟨Y,p⟩:=nm<|ze K 2<|Value.slice q (i+1) t;obtain⟨T,f⟩:=nm<|ze A 2<|A 2++[(.slice none 0 0:rt)];rw[p,f]at E;rw[f]at z;clear l p f;go_upto_region 17 with(at_builtin;refine zo rfl _ _ _ _ rfl _ _ _ rfl rfl a ?_);try rw[c]
   clear c u a e h;obtain⟨-,-,-,X,s⟩:=z.z.len;obtain⟨c,p,q,t,f,-,u,a,e,h,A,l⟩:=E.z.push (r:=3) lc (.int .u64 0) rfl 42 8 XS rfl underlying42 lc (by rw[X];exact AK O lc);rw[X]at u a e l;have u:o (nb,3)=some (.slice c i p):=u;have e:f (nb,3)=some (.slice c i p):=e;have h:f.frozen? ⟨nb,3,none⟩=false:=h;obtain⟨o,c⟩:=nm<|f.setCell (U nb 3)<|.slice q (i+1) t;have K:=zb (l o (by rw[<-c];exact DO.refl _ _));have A:=zb<|z.z.p3;obtain⟨Z,p⟩:=nm<|ze Y 3<|Value.slice q (i+1) t;obtain⟨X,f⟩:=nm<|ze T 3<|T 3++[(.int .u64 0:rt)];rw[p,f]at K;rw[f]at A;clear l p f;go_upto_region 18 with(at_builtin;refine zo rfl _ _ _ _ rfl _ _ _ rfl rfl a ?_);try rw[c]
   clear c u a e h;obtain⟨-,-,-,-,s⟩:=A.z.len;obtain⟨h,l,p,q,e,-,u,a,c,t,T,f⟩:=K.z.push (r:=4) lc (.int .u64 0) rfl 42 8 WV rfl underlying42 lc (by rw[s];exact AK O lc);rw[s]at u a c f;have u:o (nb,9)=some (.slice h i l):=u;have c:e (nb,9)=some (.slice h i l):=c;have t:e.frozen? ⟨nb,9,none⟩=false:=t;obtain⟨h,c⟩:=nm<|e.setCell (U nb 9)<|.slice p (i+1) q;have l:=zb (f h (by rw[<-c];exact DO.refl _ _));have o:=zb<|A.z.p4;obtain⟨e,h⟩:=nm<|ze Z 4<|Value.slice p (i+1) q;obtain⟨p,e⟩:=nm<|ze X 4<|X 4++[(.int .u64 0:rt)];rw[h,e]at l;rw[e]at o;clear f h e;clear HB B0 S0 B E K v z A s;go_wp2_with (at_builtin;refine zo rfl _ _ _ _ rfl _ _ _ rfl rfl a ?_;clear a);try rw[c]
   clear c;go_roundw
   case rel =>
    have x:=l.z;rw[show 8*i+8=8*(i+1)from rfl]at x;exact⟨i+1,_,_,_,_,_,_,_,d,by first|rfl|(rw[xc])|(rw[xc,<-xw];rfl),zb ⟨x,o.z⟩⟩
   case measure =>
    clear HG N xw;simp only[intOf,Ad];omega
def gL:Sd=true:=pi
def iK:((NS.build 0 100 100).step I0).1=true/\(Mr.step JP).1=true/\(Kh.fair 4).1=true/\((Kh.fair 4).2.e 0 3).read=22/\((Kh.fair 4).2.e 0 3).state=1:=by
 have h:=gL;unfold Sd at h;simp only[AZ,Ce]at h;exact⟨h.1.1.1.1,h.1.1.1.2,h.1.1.2,h.1.2,h.2⟩
def VZ:I0.s=[115,111,109,101,32,98,121,116,101,115,32,111,102,32,97,32,115,116,114,101,97,109]:=pi
def NS.Inv.new{d a c:Nat}(h:64<=d/\d<=400)(e:16<=a/\a<=4096)(f:16<=c/\c<=4096):(NS.new d a c).Inv 0 :=
 ⟨h,⟨e,f⟩,λ_ _=>CS.Inv.new h e.2 f.2,λ_ _ _ _=>⟨AN _,AF _,AN _⟩,AF _,λ_ _=>AF _,λ_ _=>AF _,λ_ _=>AF _,λ_ _ s l=>(by cases l),AF _,λp o=>(by cases o)⟩
def NS.Inv.build(a b c:Int):(NS.build a b c).Inv 0:=by
 have d:=zU a 337 I;have a:=zU b 300 I;have a:=zU c 600 I;exact NS.Inv.new ⟨I,I⟩ ⟨I,I⟩ ⟨I,I⟩
def NS.Up.build(a b c:Int):(NS.build a b c).Up:=λ_ _=>rfl
def Qx(n:NS)(s:Dh)(h:s.kind=1):n.step s=n.send (DR s.side 2) (DR s.a 8) s.s:=by
 unfold NS.step;rw[AM h]
def RD(n:NS)(s:Dh)(h:s.kind=2):n.step s=n.finish (DR s.side 2) (DR s.a 8):=by
 unfold NS.step;rw[AH I,AM h]
def gK(w:rq)(E:D0 1 (λ_=>(0,0)) w):rT 14 #[] w (λe W'=>e=.returned (.bool true)/\DO DQ w W'):=by
 obtain⟨p1,p2,p3,p4,l⟩:=iK;have Y:=VK 0 100 100 I I I w E;obtain⟨o,d⟩:=nm<|NS.build 0 100 100;have p:o.Inv 0:=by rw[<-d];exact NS.Inv.build _ _ _
 have B:o.Up:=by rw[<-d];exact NS.Up.build _ _ _
 unfold Kh Mr at p3 p4 l;unfold Mr at p2;rw[d]at Y p1 p2 p3 p4 l;have a:(o.step I0).2.Inv 0:=by rw[Qx _ _ rfl];exact p.send _ _ _
 have f:(o.step I0).2.Up:=by rw[Qx _ _ rfl];exact B.send _ _ _
 obtain⟨A,c⟩:=nm<|(o.step I0).2;have q:(A.step JP).2.Inv 0:=by rw[RD _ _ rfl];rw[c]at a;exact a.finish _ _
 have u:(A.step JP).2.Up:=by rw[RD _ _ rfl];rw[c]at f;exact f.finish _ _
 rw[c]at p2 p3 p4 l a f;obtain⟨Z,v⟩:=nm<|(A.step JP).2;rw[v]at p3 p4 l q u;obtain⟨n3,z⟩:=nm<|(Z.fair 4).2;rw[z]at p4 l;have K:AA (∀tag nb M W,DZ w tag nb o M W->rT 21 #[.pointer (some ⟨nb,0,none⟩),.agg #[.int .i64 1,.int .i64 0,.int .i64 3,.int .i64 0,.string ⟨#[115,111,109,101,32,98,121,116,101,115,32,111,102,32,97,32,115,116,114,101,97,109]⟩]] W (λe W'=>e=.returned (.bool true)/\zw w tag nb W A W')):=zb λtag nb M W h=>by
  have k:=U7 h p lc (s:=I0) ⟨lc,lc,lc,lc,by rw[VZ];decide⟩ rfl;rw[<-Qx o I0 rfl]at k;unfold Dh.cells at k;rw[VZ]at k;unfold EX at k;rw[p1,c]at k;exact k
 have N:AA (∀tag nb M W,DZ w tag nb A M W->rT 21 #[.pointer (some ⟨nb,0,none⟩),.agg #[.int .i64 2,.int .i64 0,.int .i64 3,.int .i64 0,.string ⟨#[]⟩]] W (λe W'=>e=.returned (.bool true)/\zw w tag nb W Z W')):=zb λtag nb M W h=>by
  have k:=Vg h a lc (s:=JP) ⟨lc,lc,lc,lc,lc⟩ rfl;rw[<-RD A JP rfl]at k;unfold EX at k;rw[p2,v]at k;exact k
 have KF:AA (∀tag nb M W,DZ w tag nb Z M W->rT 17 #[.pointer (some ⟨nb,0,none⟩),.int .i64 4] W (λe W'=>e=.returned (.bool true)/\zw w tag nb W n3 W')):=zb λtag nb M W h=>by
  have k:=Q4 h q u (t:=4) lc;unfold EX at k;rw[p3,z]at k;exact k
 clear p a q B f u d c v z p1 p2 p3 E;go_enter func14,ntmps14;go_upto_region 2 with(go_at_call 20;refine Y.mono ?_;rintro _ W1 ⟨nb,O,M1,rfl,h1⟩);have k1:=K.z O nb M1 W1 h1;clear Y K;go_upto_region 5 with(go_at_call 21;refine k1.mono ?_;rintro _ W2 ⟨rfl,tag2,M2,h2,-,-⟩);have k2:=N.z tag2 nb M2 W2 h2;clear k1 N h1;go_upto_region 6 with(go_at_call 21;refine k2.mono ?_;rintro _ W3 ⟨rfl,T,M3,h3,-,-⟩);have k3:=KF.z T nb M3 W3 h3;clear k2 KF h2;go_upto_region 7 with(go_at_call 17;refine k3.mono ?_;rintro _ c ⟨rfl,a,d,X,-,-⟩);clear k3 h3;obtain⟨g,c,q,a,d,⟨e,f⟩,h,⟨o,p⟩,s⟩:=X.o.ny (i:=0) (k:=3) I I;obtain⟨a,c,d,e,f,h,o⟩:=X.o.oH (i:=0) (k:=3) I I;rw[p4]at f;rw[l]at h;have f:=zb X.mod;clear X a c d e p4 l;go_wp2_with fail;go_ret;exact⟨rfl,f.z⟩
def KY(w:rq)(v:rt)(l:List Dh):Prop :=
 ∃a c,v=.slice a l.length c/\l.length<=c/\c<=maxLen/\∀(i:Nat) s,l[i]?=some s->(∃g o,a=some ⟨g,o,none⟩/\∀(j:Nat) x,s.cells[j]?=some x->w ⟨g,o+i*5+j,none⟩=some x)/\s.Ok
variable{v:rt}{w':rq}
def KY.lK{l:List Dh}(h:KY w v l)(m:DO DQ w w'):KY w' v l:=by
 obtain⟨a,c,d,e,f,l⟩:=h;exact⟨a,c,d,e,f,λi s c=>by
  obtain⟨⟨g,o,d,e⟩,f⟩:=l i s c;exact⟨⟨g,o,d,λj x c=>m.cell (a:=⟨g,o+i*5+j,none⟩) id<|e j x c⟩,f⟩⟩
def MA(l:List Dh):Nat:=(l.map λs=>s.s.length).sum
def gJ{l:List Dh}{s:Dh}(h:l[k]?=some s):MA (l.drop k)=s.s.length+MA (l.drop (k+1)):=by
 rw[MT h];rfl
def OS(w:rq)(v:rt)(l:List Int):Prop :=
 ∃a c,v=.slice a l.length c/\l.length<=c/\c<=maxLen/\∀(i:Nat) s,l[i]?=some s->∃g o,a=some ⟨g,o,none⟩/\w ⟨g,o+i,none⟩=some (.int .i64 s)
def OS.lK{l:List Int}(h:OS w v l)(m:DO DQ w w'):OS w' v l:=by
 obtain⟨a,c,d,e,f,l⟩:=h;exact⟨a,c,d,e,f,λi s c=>by obtain⟨g,o,d,e⟩:=l i s c;exact⟨g,o,d,m.cell (a:=⟨g,o+i,none⟩) id e⟩⟩
def gI(l:List Dh)(v:rt)(w:rq)(h:KY w v l)(hb:l.length<=1048576/\∀s∈l,s.s.length<=1048576):rT 13 #[v] w (λe W'=>e=.returned (.bool (decide (l.length+MA l<=8192)))/\DO DQ w W'):=by
 obtain⟨a,f,rfl,Y,Z,h3⟩:=id h;obtain⟨f,q⟩:=hb;obtain⟨L,v⟩:=nm l.length;have p:=zb v;rw[v]at Y f ⊢;unfold maxLen at Z;have HS:=zb h;have HB:=zb q;obtain⟨K,f⟩:=nm<|decide<|L+MA l<=8192;rw[f];have t:=zb f;clear h h3 q f v;go_enter func13,ntmps13;go_wp2_with fail
 go_loopw [3,4] (λh f wr=>∃(k n:Nat),k<=L/\h=.int .i64 n/\f=.int .i64 k/\n<=8192+1048576+L/\AA (DO DQ w wr/\decide (n+MA (l.drop k)<=8192)=K)) (λ_ f _=>L-(intOf f).toNat)
 case atStart=>exact⟨0,L,AN _,rfl,rfl,I,zb ⟨DO.refl _ _,t.z⟩⟩
 case round =>
  obtain⟨k,n,f,rfl,rfl,h,c⟩:=hrel;clear t;by_cases u:k<L
  .by_cases f:n<=8192
   .obtain⟨s,E⟩:∃s,l[k]?=some s:=⟨l[k]'(by rw[p.z];exact u),AJ _⟩;obtain⟨N,d⟩:=c.z;obtain⟨f,h,z,_,_,O⟩:=HS.z.lK N;rw[p.z]at z;cases z;obtain⟨⟨g,o,rfl,T⟩,-⟩:=O k s E;have c4:wr (g,o+k*5+4)=some (.string<|zu s.s):=T 4 _ rfl;have o:=HB.z s<|AW E;rw[gJ E]at d;have h:=zG s.s;obtain⟨q,f⟩:=nm s.s.length;obtain⟨t,l⟩:=nm s.s;rw[f]at o d h;rw[l]at c4 h;have A:=zb d;have B:=zb N;have h:=wi ((n:Int)+(q:Int)) I;have h:=wi ((k:Int)+1) I;have X:decide ((k:Int)<(L:Int))=true:=Au I;have h:decide ((n:Int)<=8192)=true:=Au I;clear c d N O E T f l;go_wp2_with fail;all_goals first|(exfalso;omega)|skip
    go_roundw
    case rel=>exact⟨k+1,n+q,u,by congr 1,by congr 1,I,zb ⟨B.z,by rw[Nat.add_assoc];exact A.z⟩⟩
    simp[intOf];omega
   have X:decide ((k:Int)<(L:Int))=true:=Au I;have h:decide ((n:Int)<=8192)=false:=As I;have A:AA (false=K):=by
    show _=_;rw[<-c.z.2];exact(As I).symm
   have B:=zb c.z.1;have d:=A.z;subst d;clear c;go_wp2_with fail;all_goals first|(exfalso;omega)|skip
   go_ret;exact⟨rfl,B.z⟩
  have e:k=L:=I;have X:decide ((k:Int)<(L:Int))=false:=As I;have A:AA (decide (n<=8192)=K):=by
   show _=_;have a:=c.z.2;rw[e,<-p.z,CB]at a;exact a
  have B:=zb c.z.1;have d:=A.z;subst d;have a:decide ((n:Int)<=8192)=decide (n<=8192):=DA.2 I;clear c e;go_wp2_with fail;all_goals first|(exfalso;omega)|skip
  all_goals
   go_ret;exact⟨by first|rfl|(rw[a]),B.z⟩
def Xd(l:List Dh)(a:List Int)(B:Nat):Prop :=
 ∀s∈l,a.contains s.kind=false->∀(w:rq) (tag:rD) (nb:Nat) (n:NS) (M:NV) (W:rq) (T:Nat),DZ w tag nb n M W->n.Inv T->T+401<=B->n.Up->rT 21 #[(nb,0),.agg s.cells] W (EX w tag nb W<|n.step s)
def Ud(w:rq)(r:Option NS)(e:Ending)(W':rq):Prop :=
 match r with
 | none=>e=.returned (.tuple #[.pointer none,false])/\DO DQ w W'
 | some n=>∃nb tag M,e=.returned (.tuple #[.pointer (some ⟨nb,0,none⟩),true])/\DZ w tag nb n M W'
def gH(a:List Int){l:List Dh}{s:Dh}(h:l[k]?=some s)(n:NS):NS.mv a (l.drop k) n=if a.contains s.kind then NS.mv a (l.drop (k+1)) n else if (n.step s).1 then NS.mv a (l.drop (k+1)) (n.step s).2 else none:=by
 rw[MT h,NS.mv]
def ju{a:List Int}{x:Int}(h:a[k]?=some x)(c:Int):(a.take (k+1)).contains c=((a.take k).contains c||c==x):=by
 rw[BG,h];rw[Option.toList_some,List.contains_append];simp only[List.contains_cons,List.contains_nil,Bool.or_false]
variable{B:Nat}
def gE(l:List Dh)(v:rt)(e:List Int)(wv:rt)(a b c:Int)(ha : -9223372036854775808<=a/\a<=9223372036854775807)(hb : -9223372036854775808<=b/\b<=9223372036854775807)(hc : -9223372036854775808<=c/\c<=9223372036854775807)(w:rq)(E:D0 1 (λ_=>(0,0)) w)(h:KY w v l)(hw:OS w wv e)
  (ao:e.length<=8) (hB:B<=Db) (hT:401*l.length<=B) (KS:Xd l e B) :
  rT 15 #[v,wv,[a],[b],[c]] w (Ud w<|NS.mv e l<|NS.build a b c):=by
 obtain⟨B,v,rfl,h1,h2,h3⟩:=id h;obtain⟨B,v,rfl,w1,w2,w3⟩:=id hw;unfold maxLen at h2 w2;obtain⟨L,hL⟩:=nm l.length;obtain⟨WL,B⟩:=nm e.length;have A:=zb hL;have t:=zb B;rw[hL]at h1 hT ⊢;rw[B]at w1 ao ⊢;have HS:=zb h;have HW:=zb hw;have ap:=zb KS;have aq:401*L<=268435455:=AK hT hB;have v:L<=669415:=I;have HT:=zb hT;have kb:=VK a b c ha hb hc w E;have aa:=zb<|NS.Inv.build a b c;have ab:=zb<|NS.Up.build a b c;obtain⟨n0,ae⟩:=nm<|NS.build a b c;obtain⟨RP,v⟩:=nm<|NS.mv e l<|NS.build a b c;rw[v];rw[ae]at kb aa ab v;have af:=zb v;clear h hw h3 w3 hL B KS ae v E hT aq;go_enter func15,ntmps15;go_upto_region 2 with(go_at_call 20;refine kb.mono ?_;rintro _ c ⟨nb,tag,M,rfl,ag⟩);have ah:=zb ag;clear kb ag;go_wp2_with fail
 go_loopw [13] (λc wr=>∃(k:Nat) (n:NS),k<=L/\c=.int .i64 k/\AA ((∃tag M,DZ w tag nb n M wr)/\n.Inv (401*k)/\n.Up/\NS.mv e (l.drop k) n=RP)) (λc _=>L-(intOf c).toNat)
 case atStart=>exact⟨0,n0,AN _,rfl,zb ⟨⟨tag,M,ah.z⟩,aa.z,ab.z,af.z⟩⟩
 case round =>
  obtain⟨k,n,c,rfl,HK⟩:=hrel;clear aa ab ah af;have c:=wi ((k:Int)+1) I;by_cases ac:k<L
  .obtain⟨⟨tag,M,hN⟩,K,N,f⟩:=HK.z;obtain⟨s,v⟩:∃s,l[k]?=some s:=⟨l[k]'(by rw[A.z];exact ac),AJ _⟩;rw[gH e v]at f;have c:=AW v;have HN:=zb hN;have u:=zb K;have O:=zb N;have HR:=zb f;have ar:=zb c;have aj:=zb v;obtain⟨kd,h⟩:=nm s.kind;have T:=zb h;have d1:decide ((k:Int)<(L:Int))=true:=Au I;clear hN K N f v c HK h;go_wp2_with fail
   go_loopw [14,15] (λh c v=>∃(j:Nat),j<=WL/\h=.bool ((e.take j).contains kd)/\c=.int .i64 j/\AA (DO DQ wr v)) (λ_ c _=>WL-(intOf c).toNat)
   case atStart=>exact⟨0,AN _,rfl,rfl,zb rp⟩
   case round =>
    obtain⟨j,c,rfl,rfl,HM⟩:=hrel;have c:=wi ((j:Int)+1) I;by_cases c:j<WL
    .obtain⟨x,hx⟩:∃x,e[j]?=some x:=⟨e[j]'(by rw[t.z];exact c),AJ _⟩;obtain⟨a',c',p,_,_,t3⟩:=HS.z.lK<|HN.z.mod.trans HM.z;rw[A.z]at p;cases p;obtain⟨⟨g,o,rfl,d⟩,-⟩:=t3 k s aj.z;have c0:wr (g,o+k*5)=some (.int .i64 s.kind):=d 0 _ rfl;rw[T.z]at c0;obtain⟨a',c',p,_,_,ak⟩:=HW.z.lK<|HN.z.mod.trans HM.z;rw[t.z]at p;cases p;obtain⟨h,v,rfl,c⟩:=ak j x hx;have c:=ju hx kd;have d2:decide ((j:Int)<(WL:Int))=true:=Au I;obtain⟨ob,q⟩:=nm<|(e.take j).contains kd;rw[q]at c ⊢;have al:=zb c;clear t3 ak d q c hx;go_wp2_with fail;cases ob
     .go_quiet (fail);go_wp2_with fail;go_roundw
      case rel=>exact⟨j+1,I,by rw[al.z];rfl,by congr 1,zb<|HM.z.drewN _⟩
      simp[intOf];omega
     go_quiet (fail);go_wp2_with fail;go_roundw
     case rel=>exact⟨j+1,I,by rw[al.z];rfl,by congr 1,zb<|HM.z.drewN _⟩
     simp[intOf];omega
    have c:j=WL:=I;have d2:decide ((j:Int)<(WL:Int))=false:=As I;obtain⟨ob,q⟩:=nm<|e.contains kd;have e1:(e.take j).contains kd=ob:=by rw[c,<-t.z,List.take_length];exact q
    rw[e1];have am:=zb q;have X:=zb<|HN.z.free HM.z rm;clear e1 q HM c;cases ob
    .obtain⟨a',c',p,_,_,t3⟩:=HS.z.lK X.z.mod;rw[A.z]at p;cases p;obtain⟨⟨g,o,rfl,d⟩,-⟩:=t3 k s aj.z;have c0:wr (g,o+k*5)=some (.int .i64 s.kind):=d 0 _ rfl;have c1:wr (g,o+k*5+1)=some (.int .i64 s.side):=d 1 _ rfl;have c2:wr (g,o+k*5+2)=some (.int .i64 s.a):=d 2 _ rfl;have c3:wr (g,o+k*5+3)=some (.int .i64 s.b):=d 3 _ rfl;have c4:wr (g,o+k*5+4)=some (.string<|zu s.s):=d 4 _ rfl;have c:e.contains s.kind=false:=by rw[T.z];exact am.z
     have h:=AK (I:401*k+401<=401*L) HT.z;have Y:=ap.z s ar.z c w tag nb n M wr (401*k) X.z u.z h O.z;have ad:AA ((n.step s).2.Inv<|401*(k+1)):=zb<|(u.z.step s<|AK h hB).mono I;have Z:=zb<|λq=>NS.Up.step u.z O.z s (AK h hB) q;have hr:=HR.z;rw[c,AH lm]at hr;obtain⟨o,h⟩:=nm<|n.step s;rw[h]at Y ad Z hr;obtain⟨ok,n1⟩:=o;simp only at ad Z hr;have z:=zb hr;unfold Dh.cells at Y;clear t3 d hr h HR X u O HN T;obtain⟨h,d⟩:=nm s.kind;obtain⟨h,e1⟩:=nm s.side;obtain⟨o,h⟩:=nm s.a;obtain⟨p,o⟩:=nm s.b;obtain⟨q,p⟩:=nm s.s;rw[d]at c0 Y;rw[e1]at c1 Y;rw[h]at c2 Y;rw[o]at c3 Y;rw[p]at c4 Y;clear d e1 h o p c;go_upto_region 14 with(go_at_call 21;refine Y.mono ?_;rintro _ c ⟨rfl,an,M3,h3,-,-⟩);have H3:=zb h3;clear Y h3;cases ok
     .have hr:none=RP:=z.z;subst hr;go_wp2_with fail;go_ret2;exact⟨rfl,H3.z.mod⟩
     have c:AA (NS.mv e (l.drop<|k+1) n1=RP):=z.z;have d:AA n1.Up:=Z.z rfl;clear z Z;go_wp2_with fail;go_roundw
     case rel=>exact⟨k+1,n1,ac,by congr 1,zb ⟨⟨an,M3,H3.z⟩,ad.z,d.z,c.z⟩⟩
     simp[intOf];omega
    have z:AA (NS.mv e (l.drop<|k+1) n=RP):=by
     have a:=HR.z;rw[T.z,am.z,AM rfl]at a;exact a
    go_wp2_with fail;go_roundw
    case rel=>exact⟨k+1,n,ac,by congr 1,zb ⟨⟨tag,M,X.z⟩,u.z.mono I,O.z,z.z⟩⟩
    simp[intOf];omega
  have ek:k=L:=I;obtain⟨⟨tag,M,hN⟩,K,N,f⟩:=HK.z;rw[ek,<-A.z,CB]at f;have f:some n=RP:=f;subst f;have HN:=zb hN;have d1:decide ((k:Int)<(L:Int))=false:=As I;clear hN K N HK ek;go_wp2_with fail;go_ret2;exact⟨nb,tag,M,rfl,HN.z⟩
end
section
open Go.Proofs.Tryz
open Go.RowKit
end
end Go.Proofs.YtddfdpbaiedcjaaGreatDoor
