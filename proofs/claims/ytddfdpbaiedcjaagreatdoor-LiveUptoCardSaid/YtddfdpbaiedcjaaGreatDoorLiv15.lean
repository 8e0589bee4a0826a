/- A part of Live's proof. Conditions: none. Part 15 of 15. -/
import Derived.Test.YtddfdpbaiedcjaaGreatDoorLiv14
import Derived.Deep.Slices
set_option maxRecDepth 100000
set_option maxHeartbeats 16000000
set_option linter.all false
namespace Go.Proofs.YtddfdpbaiedcjaaGreatDoor
section
open Go.RowKit Go.Proofs.Tryz
def NS.some_(n:NS)(i k:Nat):Nat:=Dq (λi=>Dq (λk=>(n.e i k).wrote.length) 8) i+Dq (λk=>(n.e i k).wrote.length) k
variable{T i k:Nat}{n:NS}
theorem XU(h:n.Inv T)(hi:i<=2)(hk:k<=8)(d:i<2\/k=0):n.some_ i k<=49152:=by
 have a:=GO (f:=λi=>Dq (λk=>(n.e i k).wrote.length) 8) (g:=λ_=>16384) i (λj hj=>GO (g:=λ_=>2048) 8 (λk hk=>(h.e j I k hk).wl));have b:Dq (λk=>(n.e i k).wrote.length) k<=Dq (λ_=>2048) 8:=by
  rcases d with x|x
  .have c:=GO (f:=λk=>(n.e i k).wrote.length) (g:=λ_=>2048) k (λj hj=>(h.e i x j I).wl);have e:∀m,Dq (λ_=>2048) m=2048*m:=λm=>by
    induction m with
    | zero=>rfl
    | succ m ih=>show Dq _ m+2048=_;rw[ih];omega
   rw[e]at c ⊢;omega
  subst x;exact AM _
 have e:Dq (λ_=>2048) 8=16384:=rfl;have e2:Dq (λ_=>16384) i<=32768:=by
  rcases(I:i=0\/i=1\/i=2)with rfl|rfl|rfl<;>decide
 unfold NS.some_;omega
variable{M:NV}{W w:World}{nb:Nat}{tag:nH}
def jp(h:Dh w tag nb n M W)(hI:n.Inv T):Calls prog 16 #[(nb,0)] W (λe W'=>e=.returned (.int .i64 n.enough)/\DW DY W W'):=by
 obtain⟨e1,e2,-⟩:=Q9 hI;have E:AA (∀i k,i<2->k<8->∀W',DW DY W W'->∃g cap q cap' eb,W'.cell? (nb,1)=some (.slice (some ⟨g,0,none⟩) 2 cap)/\(2<=cap/\cap<=9223372036854775807)/\W'.cell? ⟨g,i,none⟩=some (.slice (some ⟨q,0,none⟩) 8 cap')/\(8<=cap'/\cap'<=9223372036854775807)/\W'.cell? ⟨q,k,none⟩=some (.pointer (some ⟨eb,0,none⟩))/\W'.cell? ⟨eb,0,none⟩=some (.string (zu (n.e i k).wrote))):=zb λi k hi hk W' m=>by
  obtain⟨g,cap,q,cap',F,G,H,J,K⟩:=h.o.endAt hi hk;have c:=(h.o.enAt hi hk).wrote;exact⟨g,cap,q,cap',_,m.cell (a:=U nb 1) id F,G,m.cell (a:=(g,i)) id H,J,m.cell (a:=(q,k)) id K,m.cell (a:=U (M.eb i k) 0) id c⟩
 have L:W.cell? (nb,6)=some (.int .i64 n.window):=h.o.obj.cell (j:=6) rfl;have N:W.cell? (nb,7)=some (.int .i64 n.total):=h.o.obj.cell (j:=7) rfl;have O:=hI.win;have P:=zb λi k a b c=>XU (i:=i) (k:=k) hI a b c
 have Q:=zb λi (hi:i<2) k (hk:k<8)=>(hI.e i hi k hk).wl
 have HB:AA (n.some_ 2 0=n.bytes):=rfl;obtain⟨R,u⟩:=nm n.enough;have d:AA (R=60+2*(n.bytes / (if n.total<n.window then n.total else n.window)+1)+n.bytes / 16):=u.symm;rw[u];clear h hI u;go_enter func16,ntmps16;go_wp2_with fail
 go_loopw [3,4] (λv y wr=>∃i:Nat,i<=2/\v=.int .i64 (n.some_ i 0:Int)/\y=.int .i64 i/\DW DY W wr) (λ_ y _=>2-(intOf y).toNat)
 case atStart=>exact⟨0,I,rfl,rfl,DW.refl _ _⟩
 case round =>
  obtain⟨i,hi,rfl,rfl,m⟩:=hrel;by_cases f:i<2
  .have d1:(i:Int)<2:=I;have M0:=zb m;clear m;go_wp2_with fail
   go_loopw [3,5] (λv z wq=>∃k:Nat,k<=8/\v=.int .i64 (n.some_ i k:Int)/\z=.int .i64 k/\AA (DW DY W wq)) (λ_ z _=>8-(intOf z).toNat)
   case atStart=>exact⟨0,I,rfl,rfl,M0⟩
   case round =>
    obtain⟨k,hk,rfl,rfl,l⟩:=hrel;by_cases r:k<8
    .have d2:(k:Int)<8:=I;obtain⟨g,cap,q,cap',eb,F,⟨G,H⟩,J,⟨K,a6⟩,a7,a8⟩:=E.z i k f r wr l.z;have s1:=P.z i k hi hk (.inl f);have l1:=Q.z i f k r;have hsz:=zJ (n.e i k).wrote;have e:n.some_ i (k+1)=n.some_ i k+(n.e i k).wrote.length:=(Nat.add_assoc _ _ _).symm;have hE:=zb e;clear e;go_wp2_with fail;go_roundw
     case rel=>exact⟨k+1,I,by rw[hE.z];congr 1,by congr 1,l⟩
     simp[intOf];omega
    have:k=8:=I;subst this;have e:n.some_ (i+1) 0=n.some_ i 8:=rfl;go_wp2_with fail;go_roundw
    case rel=>exact⟨i+1,I,by rw[e],by congr 1,l.z⟩
    simp[intOf];omega
  have:i=2:=I;subst this;have l:=zb m;have q6:=m.cell (a:=U nb 6) id L;have q7:=m.cell (a:=U nb 7) id N;rw[HB.z];obtain⟨B,t⟩:=nm n.bytes;obtain⟨p,A⟩:=nm n.window;obtain⟨q,C⟩:=nm n.total;rw[t,A,C]at d;rw[t];rw[t]at e1;rw[A]at q6 O;rw[C]at q7 O;clear m L N t A C e2 E P Q HB hi f;obtain⟨Y,S⟩:=nm (B / 16);have f16:(B:Int) / 16=(Y:Int):=I;have lY:Y<=B:=I;rw[S]at d;clear S;by_cases c:q<p
  .have d1:(q:Int)<p:=I;have d:AA (R=60+2*(B / q+1)+Y):=by show _=_;rw[d.z,AQ c]
   have D:(B:Int) / q=((B / q:Nat):Int):=rfl;have le:B / q<=B:=Nat.div_le_self _ _;obtain⟨X,s⟩:=nm (B / q);rw[s]at d D le;clear s;go_wp2_with fail;go_ret;refine⟨?_,l.z⟩;rw[d.z];show Ending.returned (.int .i64 (60+2*((X:Int)+1)+(Y:Int)))=_;congr 2
  have d1:¬(q:Int)<p:=I;have d:AA (R=60+2*(B / p+1)+Y):=by show _=_;rw[d.z,AI c]
  have D:(B:Int) / p=((B / p:Nat):Int):=rfl;have le:B / p<=B:=Nat.div_le_self _ _;obtain⟨X,s⟩:=nm (B / p);rw[s]at d D le;clear s;go_wp2_with fail;go_ret;refine⟨?_,l.z⟩;rw[d.z];show Ending.returned (.int .i64 (60+2*((X:Int)+1)+(Y:Int)))=_;congr 2
def fV{o:EN}(h:o.thr=true):(o.cut=true/\o.state≠0)\/(o.cut=false/\o.read=o.wrote.length/\(o.fin=true->o.state=1)):=by
 unfold EN.thr at h;cases hc:o.cut<;>cases hf:o.fin<;>simp_all
def lJ(h:Dh w tag nb n M W)(hI:n.Inv T)(u:∀i,i<2->∀k,k<8->(n.e i k).thr=true):Calls prog 18 #[(nb,0)] W (λe W'=>e=.returned (.bool true)/\DW DY W W'):=by
 have HE:AA (∀i k,i<2->k<8->∀W',DW DY W W'->∃g cap q cap' eb,W'.cell? (nb,1)=some (.slice (some ⟨g,0,none⟩) 2 cap)/\(2<=cap/\cap<=9223372036854775807)/\W'.cell? ⟨g,i,none⟩=some (.slice (some ⟨q,0,none⟩) 8 cap')/\(8<=cap'/\cap'<=9223372036854775807)/\W'.cell? ⟨q,k,none⟩=some (.pointer (some ⟨eb,0,none⟩))/\OV W' eb (n.e i k)/\(n.e i k).wrote.length<=2048):=zb λi k hi hk W' m=>by
  obtain⟨g,cap,q,cap',v,y,z,A,B⟩:=h.o.endAt hi hk;obtain⟨c0,c1,c2,c3,c4,l,cz⟩:=h.o.enAt hi hk;have f:∀j,W'.frozen? ⟨M.eb i k,j,none⟩=false:=λj=>by
   have o:=m.obj (λx=>x) (h.o.en i hi k hk).obj;exact zg o
  exact⟨g,cap,q,cap',_,m.cell (a:=U nb 1) id v,y,m.cell (a:=(g,i)) id z,A,m.cell (a:=(q,k)) id B,
   ⟨m.cell (a:=U (M.eb i k) 0) id c0,m.cell (a:=U (M.eb i k) 1) id c1,m.cell (a:=U (M.eb i k) 2) id c2,m.cell (a:=U (M.eb i k) 3) id c3,m.cell (a:=U (M.eb i k) 4) id c4,m.cell (a:=U (M.eb i k) 5) id l,f⟩,(hI.e i hi k hk).wl⟩
 have HT:=zb u;clear h hI u;go_enter func18,ntmps18;go_wp2_with fail
 go_loopw [3] (λp wr=>∃i:Nat,i<=2/\p=.int .i64 i/\DW DY W wr) (λp _=>2-(intOf p).toNat)
 case atStart=>exact⟨0,I,rfl,DW.refl _ _⟩
 case round =>
  obtain⟨i,hi,rfl,m⟩:=hrel;by_cases c:i<2
  .have d1:(i:Int)<2:=I;have M0:=zb m;clear m;go_wp2_with fail
   go_loopw [4] (λr wq=>∃k:Nat,k<=8/\r=.int .i64 k/\AA (DW DY W wq)) (λr _=>8-(intOf r).toNat)
   case atStart=>exact⟨0,I,rfl,M0⟩
   case round =>
    obtain⟨k,hk,rfl,b⟩:=hrel;by_cases d:k<8
    .have d2:(k:Int)<8:=I;obtain⟨g,cap,q,cap',eb,v,⟨y,z⟩,A,⟨B,a6⟩,a7,⟨c0,c1,c2,c3,c4,l,cz⟩,l1⟩:=HE.z i k c d wr b.z;have C:=fV (HT.z i c k d);have s:=zJ (n.e i k).wrote;obtain⟨o,D⟩:=nm (n.e i k);rw[D]at c0 c1 c2 c3 c4 l C s l1;clear D;rcases C with⟨t1,E⟩|⟨t1,E,t⟩
     .rw[t1]at c2;have t4:((o.state:Int)==0)=false:=AS.2 I;cases hf:o.fin;all_goals
       rw[hf]at c1;clear hf;go_wp2_with fail;go_quiet (fail);go_wp2_with fail;go_roundw
       case rel=>exact⟨k+1,I,by congr 1,zb (b.z.drewN _)⟩
       simp[intOf];omega
     rw[t1]at c2;rw[E]at c4;cases hf:o.fin
     .rw[hf]at c1;clear hf t;go_wp2_with fail;go_quiet (fail);go_wp2_with fail;go_roundw
      case rel=>exact⟨k+1,I,by congr 1,zb (b.z.drewN _)⟩
      simp[intOf];omega
     rw[hf]at c1;rw[t hf]at l;clear hf t;go_wp2_with fail;go_quiet (fail);go_wp2_with fail;go_roundw
     case rel=>exact⟨k+1,I,by congr 1,zb (b.z.drewN _)⟩
     simp[intOf];omega
    have:k=8:=I;subst this;go_wp2_with fail;go_roundw
    case rel=>exact⟨i+1,I,by congr 1,b.z⟩
    simp[intOf];omega
  have:i=2:=I;subst this;have b:=zb m;clear m;go_wp2_with fail;go_ret;exact⟨rfl,b.z⟩
def fU(h:Dh w tag nb n M W)(hk:k<n.bag.length)(z:n.bag.length<=1099511627776):Calls prog 73 #[(nb,0),[k]] W (λe W'=>e=.returned (.tuple #[])/\zB w tag nb W (n.drop k) W'):=by
 obtain⟨g,cap,A,B,C⟩:=UY h.o.bg.own I;have t:=h.o.bg.own;have i:=h.o.bg.tag;rw[A]at t i;have v:W.cell? (nb,8)=some M.bg:=h.o.obj.cell (j:=8) rfl;rw[A]at v;have fz:=h.o.obj.fz 8;unfold maxLen at C;obtain⟨N,D⟩:=nm n.bag.length;obtain⟨v1,W1,l,o1,g1,J⟩:=QV W (.slice none 0 0) [] ((n.bag.drop 0).take k) ⟨g,0*2,none⟩ cap (World.ownsRow_nil W 0 _ 2) (Sx t 0 k) my;rw[An,CH]at o1;rw[CH,AU,BZ I,Cd]at l;have m1:=(DW.refl DY W).grown g1 (λq b=>by cases b);have d:=λq b=>(J q b).elim (λx=>by cases x) id
 have m:=m1.owns t (λ_ _ x=>x);obtain⟨E,c⟩:∃E:Addr,(if cap=k+1 then(⟨g,0,none⟩:Addr)else⟨g,(k+1)*2,none⟩)=E:=⟨_,rfl⟩;obtain⟨K,W2,f,p,g2,O⟩:=QV W1 v1 (n.bag.take k) ((n.bag.drop (k+1)).take N) E (cap-(k+1)) o1 (by
  rw[<-c];by_cases e:cap=k+1
  .intro j u P;have:(n.bag.drop (k+1)).take N=[]:=Aj my;rw[this]at P;cases P
  rw[AI e];exact Sx m (k+1) N) my
 have Q:(n.bag.drop (k+1)).take N=n.bag.drop (k+1):=Aa my;rw[Q]at p f;have R:(n.bag.drop (k+1)).length=N-(k+1):=by rw[Ac,D]
 rw[R]at f;have S:=(DW.refl _ W1).grown g2 (λq b=>.inl b);have y:=m1.then S (λq b=>.inr (d q b));have r:∀q,K.ownBlock=some q->q<W2.heap.size:=λq b=>by
  rcases p.2 with⟨e,_⟩|⟨q',c',cur,e,_,x,_⟩
  .rw[e]at b;cases b
  rw[e]at b;cases b;exact(AH.1 x).1
 have F:AA (zB w tag nb W (n.drop k) (W2.setCell (nb,8) K)):=zb (h.bagS y (λq x=>x.elim) p (λq b=>.inr ⟨by
  rcases O q b with x|x
  .exact d q x
  have:=m1.size;omega,r q b⟩))
 obtain⟨a2,c2,s,-⟩:=zk p;have G:=m1.cell (a:=U nb 8) id v;have H:=y.cell (a:=U nb 8) id v;have fz2:W2.frozen? ⟨nb,8,none⟩=false:=zg (y.obj (λx=>x) h.o.obj.obj);rw[D]at hk z v G H B;clear h t i A o1 p g1 g2 J O m1 S y d r m Q R D;obtain⟨L,T⟩:=nm ((n.bag.take k++n.bag.drop (k+1)).length);rw[T]at s;clear T;subst s;go_enter func73,ntmps73;by_cases hc:cap=k+1
 .rw[AQ hc]at c;subst c;go_wp2_with (at_builtin;first|(refine zn rfl _ _ _ _ rfl _ _ _ rfl rfl l ?_;clear l)|(refine zn rfl _ _ _ _ rfl _ _ _ rfl rfl f ?_;clear f))
  go_end0
  exact⟨rfl,F.z⟩
 rw[AI hc]at c;subst c;go_wp2_with (at_builtin;first|(refine zn rfl _ _ _ _ rfl _ _ _ rfl rfl l ?_;clear l)|(refine zn rfl _ _ _ _ rfl _ _ _ rfl rfl f ?_;clear f))
 go_end0
 exact⟨rfl,F.z⟩
def K5:∀a b:Fin 256,bits .xor .u8 ((a.val:Nat):Int) ((b.val:Nat):Int)=(((UInt8.ofNat a.val) ^^^ (UInt8.ofNat b.val)).toNat:Int):=nA
variable{p:Nat}
def K6(b:nG)(y:UInt8)(a:p<b.length):bits .xor .u8 ((((zu b)[p]'(by rw[zJ];exact a)).toNat:Nat):Int) (y.toNat:Int)=((b.getD p 0 ^^^ y).toNat:Int):=by
 have e:(zu b)[p]'(by rw[zJ];exact a)=b.getD p 0:=by
  rw[Ak,AK a];rfl
 rw[e];have:=K5 ⟨(b.getD p 0).toNat,UInt8.toNat_lt _⟩ ⟨y.toNat,UInt8.toNat_lt _⟩;simpa using this
variable{fz:Nat×Nat}{g t:Nat}
def OI{z:UInt8}(h:W.heap[g]?=some (.cells #[.int .u8 (z.toNat:Int)] t fz)):(convert 60 9 (.slice g 1 1)).run prog W=.ok (.string (zu [z])) W :=
 Ju ⟨_,1,rfl,AF _,mz,λi u a=>by
  have hi:i<1:=(AN.1 a).1;have:i=0:=I;subst this;cases a;exact⟨g,0,rfl,za h rfl⟩⟩
def fT(b:nG)(p:Nat)(y:UInt8):(zu b).extract 0 p++zu [b.getD p 0 ^^^ y]++(zu b).extract (p+1) b.length=zu (IA b p y):=by
 rw[Pr,Pr,Ro,Ro];congr 1;unfold IA;rw[Ap,CH,Nat.sub_zero];congr 2;exact Aa (by rw[Ac];exact AF _)
theorem Y3(l:nG)(h:0<(zu l).size):(zu l)[0]'h=l.getD 0 0:=by
 cases l with
 | nil=>exact absurd h mu
 | cons a l=>rfl
def iA(h:Dh w tag nb n M W)(hI:n.Inv T)(hT:T+400<=Dg){s:Do}(hs:s.Ok)(hb:n.bag≠[]):Calls prog 41 #[(nb,0),.agg s.cells] W (E4 w tag nb W (n.carry s)):=by
 have hTb:T+400<=268435455:=hT;have V:=BM.2 hb;have aW:=hI.bl;obtain⟨W1,aa⟩:=nm (W.alloc (.cells s.cells 37));have h1:Dh w tag nb n M W1:=by rw[<-aa];exact h.alloc _
 have m1:=AB aa;obtain⟨sb,aO⟩:=nm W.heap.size;have sA:IK W1 sb s:=IK.of (by rw[<-aa,<-aO];exact heap_alloc_new W _);have aP:=h.env.ok sb I;have aE:=hs.a;have ab:=hs.b;have aX:=hs.s;obtain⟨c0,c1,c2,c3,c4⟩:=sA;have hk:Db s.a n.bag.length<n.bag.length:=En _ _ V;have hf:n.bag[Db s.a n.bag.length]?=some (n.bag.getD (Db s.a n.bag.length) (0,[])):=by simp[List.getD,hk]
 have ar:=AV hf;obtain⟨f1,f2,f3⟩:=hI.bag _ ar;have C:=h1.o.bg.own;obtain⟨ba2,aY,az,q1,q2,q3⟩:=zk C;unfold maxLen at q2;have p8:W1.cell? (nb,8)=some M.bg:=h1.o.obj.cell (j:=8) rfl;obtain⟨qb,rfl⟩:=q3 V;rw[az]at C p8;obtain⟨r1,r2⟩:=TH C rfl hf;have hc:n.carry s=n.carryK s (Db s.a n.bag.length) (n.bag.getD (Db s.a n.bag.length) (0,[])):=by unfold NS.carry;rw[AI hb]
 rw[hc];have J:=zb λWx=>JF s.a n.bag.length Wx aE.1 aE.2 V I
 have A:AA (∀tag' M' Wx,Dh w tag' nb n M' Wx->Calls prog 73 #[(nb,0),.int .i64 (Db s.a n.bag.length:Int)] Wx (λe W'=>e=.returned (.tuple #[])/\zB w tag' nb Wx (n.drop (Db s.a n.bag.length)) W')):=zb λtag' M' Wx hn=>fU hn hk I
 obtain⟨N,hN⟩:=nm n.bag.length;obtain⟨k,aQ⟩:=nm (Db s.a n.bag.length);rw[aQ]at hk hf ar f1 f2 f3 r1 r2 J A ⊢;rw[hN]at hk aW C p8 q1 J V;obtain⟨F,hF⟩:=nm (n.bag.getD k (0,[]));rw[hF]at hf ar f1 f2 f3 r1 r2 ⊢;obtain⟨d,b⟩:=F;simp only at f1 f2 f3 r1 r2;obtain⟨X,au⟩:=nm s.s;obtain⟨sa,aF⟩:=nm s.a;obtain⟨sc,ac⟩:=nm s.b;obtain⟨kd,av⟩:=nm s.kind;have aZ:=zJ b;have HN:=zb h1;have aR:=zb m1;have aw:=zb aa;have HI:=zb hI;have HP:AA (∀(x:Nat) Wx,0<x->x<=4096->Calls prog 24 #[[sc],[x]] Wx (λe w'=>e=.returned (.int .i64 (Db sc x:Int))/\Wx=w')):=zb λx Wx h1 h2=>by
  rw[<-ac];exact JF s.b x Wx ab.1 ab.2 I I
 obtain⟨RR,ad⟩:=nm (n.carryK s k (d,b));rw[ad];unfold NS.carryK at ad;rw[av,ac,au]at ad;have Z:=zb ad;rw[aF]at c2 J;rw[ac]at c3;rw[av]at c0;rw[au]at c4 aX;have hN0:((N:Int)==0)=false:=AS.2 I;have hkN:(k:Int)<(N:Int):=I;have hk0:(0:Int)<=(k:Int):=I;unfold Do.cells at aw ⊢;rw[au,aF,ac,av]at aw ⊢;have a0:=zb C;clear h h1 m1 aa hs hI hb hc hF aQ hN au aF ac av ad aE ab hf ar az q3 hT C;go_enter func41,ntmps41;go_upto_region 1 with fail;rw[aw.z];go_upto_region 3 with fail;refine zo 9 (λw'=>w'.cell? (U nb 8)=some (.slice qb N aY)/\w'.cell? (U sb 2)=some (.int .i64 sa)) (⟨p8,c2⟩) ?_;refine GI 0 ?_;iterate 7
  refine GV rfl ?_;try simp only[PS]
 refine zE 7 rfl (λK Y=>?_);go_simp;refine(J.z _).mono ?_;rintro _ _ ⟨rfl,rfl⟩;refine Y.z _ _ ⟨p8,c2⟩ ?_;clear Y K;try simp only[PS]
 refine GI 8 ?_;refine GV rfl ?_;try simp only[PS]
 refine zr ?_;go_upto_region 4 with fail;go_upto_region 5 with fail;obtain⟨W2,ax⟩:=nm ((W1.alloc (.cells #[[d],.string (zu b)] 62)).drew);obtain⟨fb,aG⟩:=nm W1.heap.size;rw[aG,ax];have m2:DW DY W1 W2:=by rw[<-ax];exact((DW.refl _ _).alloc _).drew
 have h2:=HN.z.free m2 (λ_ x=>x.elim);have aH:W2.heap[fb]?=some (.cells #[[d],.string (zu b)] 62 (0,0)):=by rw[<-ax,<-aG];exact heap_alloc_new W1 _
 have z0:W2.cell? fb=some (.int .i64 d):=za aH rfl;have z1:W2.cell? (fb,1)=some (.string (zu b)):=za aH rfl;have v:=HN.z.env.ok fb I;have u:AA (∀n' W',zB w tag nb W2 n' W'->zB w tag nb W n' W'):=zb λn' W' hh=>zB.from0 (aR.z.trans m2) hh
 replace c0:=m2.cell (a:=sb) id c0;replace c3:=m2.cell (a:=U sb 3) id c3;replace c4:=m2.cell (a:=U sb 4) id c4;have E:=zb h2;have aA:=zm c0;have ae:=zm z0;have hd2:(d:Int)<2:=I;have hd0:(0:Int)<=(d:Int):=I;clear p8 c1 c2 r1 r2 m2 h2 aH ax aG aw HN aR J a0 aO;by_cases e7:kd=7
 .subst e7;have B:Calls prog 24 #[[sc],.int .i64 2] W2 (λe w'=>e=.returned (.int .i64 (Db sc 2:Int))/\W2=w'):=HP.z 2 W2 I I;have r:=Z.z;rw[AQ rfl]at r;obtain⟨p2,aS⟩:=nm (Db sc 2);rw[aS]at B r;obtain⟨m,hm⟩:=nm ((if p2=0 then n.drop k else n));rw[hm]at r;have HR:=zb r;clear r;have af:=A.z tag M W2 E.z;clear aS Z;have HB:AA (m.Inv T):=by
   rw[<-hm];split
   .exact zb (HI.z.drop k)
   exact HI
  have HE:∀W3 tag3 M3,Dh w tag3 nb m M3 W3->(∀g,g<W2.heap.size->tag3 g=tag g)->DW (λg=>tag g≠(0,0)) W2 W3->AA (Dh w tag3 nb m M3 W3)/\W3.cell? fb=some (.int .i64 d)/\W3.cell? (U fb 1)=some (.string (zu b))/\tag3 fb=(0,0)/\AA (∀n' W',zB w tag3 nb W3 n' W'->zB w tag nb W n' W'):=λW3 tag3 M3 a o mk =>
   ⟨zb a,mk.cell (a:=fb) (λx=>x v) z0,mk.cell (a:=U fb 1) (λx=>x v) z1,(o fb ae).trans v,zb λn' W' hh=>u.z _ _ (zB.trans o mk hh)⟩
  have ay:=zb HE;clear HE z0 z1 v u;rcases C8 p2 with hp|hp
  case' inl =>
   rw[AQ hp]at hm;have q0:((p2:Int)==0)=true:=by rw[hp];rfl
   go_upto_region 9 with(first|(go_at_call 24;refine B.mono ?_;rintro _ _ ⟨rfl,rfl⟩)|(go_at_call 73;refine af.mono ?_;rintro _ W3 ⟨rfl,hL⟩));rw[hm]at hL;obtain⟨tag3,M3,N3,aB,aT⟩:=hL;obtain⟨t,z0,z1,v,u⟩:=ay.z W3 tag3 M3 N3 aB aT;clear ay N3 aB aT af B hm HI c0 c3 c4 E A HP
  case' inr =>
   rw[AI I]at hm;have q0:((p2:Int)==0)=false:=AS.2 I;go_upto_region 9 with(first|(go_at_call 24;refine B.mono ?_;rintro _ _ ⟨rfl,rfl⟩));obtain⟨W3,e3⟩:=nm W2;obtain⟨tag3,e4⟩:=nm tag;obtain⟨t,z0,z1,v,u⟩:=ay.z W3 tag3 M (by rw[<-e3,<-e4,<-hm];exact E.z) (λg _=>by rw[e4]) (by rw[<-e3];exact DW.refl _ _);rw[e3];obtain⟨M3,e5⟩:=nm M;rw[e5]at t;clear ay af B hm HI c0 c3 c4 E A HP aA ae aP
  all_goals
   obtain⟨gx,cx,b1,⟨b2,b3⟩,b4⟩:=t.z.o.connIs (i:=d) f1;obtain⟨a1,a2,ah,_,_,L⟩:=t.z.o.x.form I;have aI:=t.z.o.obj.tag;have aJ:tag3 gx=(3,1):=by
    have x:W3.cell? nb=some M3.x:=t.z.o.obj.cell (j:=0) rfl;rw[b1,ah]at x;cases x;exact L
   obtain⟨cb,P⟩:=nm (M3.b d);have Q:=zb (t.z.free ((DW.refl DY W3).drew) (λ_ x=>x.elim));have kr:=QY Q.z HB.z f1 b I (by unfold Dg;omega);rw[P]at b4 kr;have ai:=zb P;have G:=zb ((HB.z.mono (I:T<=T+400)).setC d (λhd=>((HB.z.c d hd).receive (bs:=b) (by unfold Dg;omega)).mono I));have r:=HR.z;unfold NS.recv at r;simp only at r;obtain⟨RQ,aj⟩:=nm ((m.c d).receive b);rw[aj]at kr r G;obtain⟨⟨f,at_⟩,c'⟩:=RQ;simp only at kr r G;have H:=zb r;have KR:=zb kr;have q1:((f:Int)==0)=(f==0):=IC f 0;have ak:AA (∀g,(tag3 g).1=3->(tag3 g).1=d+1->False):=zb λg a b=>I
   clear r aj kr P ah L HR;refine zo 16 (λw'=>w'.cell? nb=some (.slice gx 2 cx)/\w'.cell? (gx,d)=some (.pointer cb)/\w'.cell? fb=some (.int .i64 d)/\w'.cell? (U fb 1)=some (.string (zu b))) (⟨b1,b4,z0,z1⟩) ?_;refine GI 0 ?_;iterate 10
    refine GV rfl ?_;try simp only[PS]
   refine zE 10 rfl (λK Y=>?_);go_simp;refine(KR.z).mono ?_;rintro _ W5 ⟨rfl,hL⟩;rw[<-ai.z]at hL;obtain⟨al,V5,N5,O,m5⟩:=Q.z.conn f1 hL;have G0:=m5.cell (a:=nb) (λx=>ak.z nb (by rw[aI]) x) b1;have G1:=m5.cell (a:=(gx,d)) (λx=>ak.z gx (by rw[aJ]) x) b4;have G2:=m5.cell (a:=fb) (λx=>by have x:(tag3 fb).1=d+1:=x;rw[v]at x;simp at x) z0;have G3:=m5.cell (a:=U fb 1) (λx=>by have x:(tag3 fb).1=d+1:=x;rw[v]at x;simp at x) z1;refine Y.z _ _ ⟨G0,G1,G2,G3⟩ ?_;clear Y K;try simp only[PS]
   refine GI 11 ?_;iterate 5
    refine GV rfl ?_;try simp only[PS]
   refine zr ?_;have am:AA (∀n' W',zB w al nb W5 n' W'->zB w tag nb W n' W'):=zb λn' W' hh=>u.z _ _ (zB.from0 ((DW.refl DY W3).drew) (zB.trans O (m5.mono (λg hg=>.inl (λx=>by rw[x]at hg;simp at hg))) hh))
   have R:=Q3 N5 G.z (by unfold Dg;omega) f1;obtain⟨RC,an⟩:=nm ((m.setC d c').came d);rw[an]at R H;obtain⟨cm,N6⟩:=RC;simp only at H;have r:=H.z;subst r;clear N5 O m5 G Q KR an hL ai H u t HB z0 b1 b4;go_upto_region 11 with(go_at_call 34;refine R.mono ?_;rintro _ W6 ⟨rfl,ao⟩);have ap:=zb (am.z _ _ ao);clear R ao am;obtain⟨cz,S⟩:=nm ((f==0));rw[S]at q1 ⊢;cases cz
   .go_wp2_with fail;go_ret;exact⟨by show _=Ending.returned (.bool ((f==0)&&cm));rw[S];rfl,ap.z⟩
   go_wp2_with fail;go_ret;exact⟨by show _=Ending.returned (.bool ((f==0)&&cm));rw[S];rfl,ap.z⟩
 have h7:=AS.2 e7;have r:=Z.z;rw[AI e7]at r;by_cases e8:kd=8
 .subst e8;rw[AQ rfl]at r;subst r;have af:=A.z tag M W2 E.z;clear Z;go_wp2_with (go_at_call 73;refine af.mono ?_;rintro _ W3 ⟨rfl,hL⟩);go_ret;exact⟨rfl,u.z _ _ hL⟩
 have h8:=AS.2 e8;rw[AI e8]at r;by_cases e9:kd=9;rotate_left
 .have h9:=AS.2 e9;rw[AI e9]at r;subst r;have HF:=zb (u.z _ _ E.z.left);clear Z A HP E u;go_wp2_with fail;go_ret;exact⟨rfl,HF.z⟩
 subst e9;rw[AQ rfl]at r;obtain⟨p,hp⟩:=nm (Db sc b.length);have aU:p<b.length:=by rw[<-hp];exact En _ _ f2
 have B:=HP.z b.length W2 f2 I;simp only at r;rw[hp]at B r;have HR:=zb r;clear r Z hp;go_upto_region 15 with fail;rw[<-aZ]at B;go_upto_region 16 with(go_at_call 24;refine B.mono ?_;rintro _ _ ⟨rfl,rfl⟩);go_upto_region 17 with fail;have a4:=zJ X;obtain⟨y,hy⟩:=nm (IY X);rw[hy]at HR;have D:(y=1/\¬0<X.length)\/(0<X.length/\∃h:0<(zu X).size,y=1/\((((zu X)[0]'h).toNat:Int) != 0)=false)\/(0<X.length/\∃h:0<(zu X).size,(zu X)[0]'h=y/\((y.toNat:Int) != 0)=true):=by
  by_cases hl:X.length=0
  .refine .inl ⟨?_,I⟩;rw[<-hy,List.length_eq_zero_iff.1 hl];rfl
  have aq:0<(zu X).size:=I;have ha:=Y3 X aq;by_cases h0:(zu X)[0]'aq=0
  .refine .inr (.inl ⟨I,aq,?_,by rw[h0];rfl⟩);rw[<-hy];unfold IY;rw[<-ha,h0];rfl
  have e:(zu X)[0]'aq=y:=by
   rw[<-hy];unfold IY;rw[<-ha,AQ h0]
  refine .inr (.inr ⟨I,aq,e,Cp.2 (λq=>h0 (Cx.1 ?_))⟩);rw[e];simp only[UInt8.toNat_zero];omega
 clear hy;have hp1:p<=b.length:=I;have hp3:(0:Int)<=(p:Int)+1:=I;have hp4:(p:Int)+1<=(b.length:Int):=I;have xw:=wi ((p:Int)+1) I;rcases D with⟨hy,hg⟩|⟨hg,hl,hy,hz⟩|⟨hg,hl,hy,hz⟩;all_goals go_upto_region 19 with fail
 all_goals try rw[show(Value.int .u8 1)=.int .u8 (y.toNat:Int)by subst hy;rfl]
 all_goals clear hy
 all_goals
  have hx:=K6 b y aU;have aK:=fT b p y;obtain⟨z,hz⟩:∃z:UInt8,b.getD p 0 ^^^ y=z:=⟨_,rfl⟩;rw[hz]at hx aK;have aV:=zb aK;have a3:(zu [z]).size=1:=zJ [z];have hn1:¬9223372036854775807<p+(zu [z]).size:=I;have hn2:¬9223372036854775807<p+(zu [z]).size+(b.length-(p+1)):=I;clear hz aK a3;have aL:=z1;refine zo 20 (λw'=>w'.cell? (U fb 1)=some (.string (zu b))) (z1) ?_;refine GI 0 ?_;iterate 10
   refine GV rfl ?_;try simp only[PS]
  refine GI 13 ?_;iterate 5
   refine GV rfl ?_;try simp only[PS]
  refine zE 10 rfl (λK Y=>?_);go_simp;refine Y.z _ _ (((DW.refl DY W2).alloc _).cell (a:=U fb 1) id aL) ?_;clear Y K;try simp only[PS]
  refine zE 11 rfl (λK Y=>?_);have hcv:=OI (W:=(W2.alloc (.cells #[.int .u8 (z.toNat:Int)] 5)).drew) (heap_alloc_new W2 _);go_simp;refine Y.z _ _ (((DW.refl DY W2).alloc _).cell (a:=U fb 1) id aL) ?_;clear Y K;try simp only[PS]
  refine GI 12 ?_;refine GV rfl ?_;try simp only[PS]
  refine GI 18 ?_;iterate 2
   refine GV rfl ?_;try simp only[PS]
  refine zr ?_;rw[aV.z];clear aV;obtain⟨SP,aM⟩:=nm (IA b p y);have a5:SP.length<=400:=by rw[<-aM,Vz b y aU];exact f3
  obtain⟨W3,aN⟩:=nm ((W2.alloc (.cells #[.int .u8 (z.toNat:Int)] 5)).drew);rw[aM]at HR ⊢;rw[aN];have m3:DW DY W2 W3:=by rw[<-aN];exact((DW.refl DY W2).alloc _).drew
  obtain⟨m,hm⟩:=nm n;obtain⟨tag3,e4⟩:=nm tag;obtain⟨M3,e5⟩:=nm M;have t:AA (Dh w tag3 nb m M3 W3):=zb (by rw[<-hm,<-e4,<-e5];exact E.z.free m3 (λ_ x=>x.elim));have HB:AA (m.Inv T):=by rw[<-hm];exact HI
  have aC:AA (∀n' W',zB w tag3 nb W3 n' W'->zB w tag nb W n' W'):=zb λn' W' hh=>u.z _ _ (zB.from0 m3 (by rw[e4];exact hh))
  replace z0:=m3.cell (a:=fb) id z0;have aD:tag3 fb=(0,0):=by rw[<-e4];exact v
  rw[hm]at HR;clear aN m3 E HI u v e4 e5 aM hm z1 aL c3 c4 c0 B A HP aA ae aP;have u:=aC;have v:=aD;clear aC aD;go_upto_region 20 with fail;obtain⟨gx,cx,b1,⟨b2,b3⟩,b4⟩:=t.z.o.connIs (i:=d) f1;obtain⟨a1,a2,ah,_,_,L⟩:=t.z.o.x.form I;have aI:=t.z.o.obj.tag;have aJ:tag3 gx=(3,1):=by
   have x:W3.cell? nb=some M3.x:=t.z.o.obj.cell (j:=0) rfl;rw[b1,ah]at x;cases x;exact L
  obtain⟨cb,P⟩:=nm (M3.b d);have Q:=zb (t.z.free ((DW.refl DY W3).drew) (λ_ x=>x.elim));have kr:=QY Q.z HB.z f1 SP I (by unfold Dg;omega);rw[P]at b4 kr;have ai:=zb P;have G:=zb ((HB.z.mono (I:T<=T+400)).setC d (λhd=>((HB.z.c d hd).receive (bs:=SP) (by unfold Dg;omega)).mono I));have r:=HR.z;unfold NS.recv at r;simp only at r;obtain⟨RQ,aj⟩:=nm ((m.c d).receive SP);rw[aj]at kr r G;obtain⟨⟨f,at_⟩,c'⟩:=RQ;simp only at kr r G;have H:=zb r;have KR:=zb kr;have q1:((f:Int)==7)=(f==7):=IC f 7;have ak:AA (∀g,(tag3 g).1=3->(tag3 g).1=d+1->False):=zb λg a b=>I
  clear r aj kr P ah L HR;refine zo 15 (λw'=>w'.cell? nb=some (.slice gx 2 cx)/\w'.cell? (gx,d)=some (.pointer cb)/\w'.cell? fb=some (.int .i64 d)) (⟨b1,b4,z0⟩) ?_;refine GI 0 ?_;iterate 9
   refine GV rfl ?_;try simp only[PS]
  refine zE 9 rfl (λK Y=>?_);go_simp;refine(KR.z).mono ?_;rintro _ W5 ⟨rfl,hL⟩;rw[<-ai.z]at hL;obtain⟨al,V5,N5,O,m5⟩:=Q.z.conn f1 hL;have G0:=m5.cell (a:=nb) (λx=>ak.z nb (by rw[aI]) x) b1;have G1:=m5.cell (a:=(gx,d)) (λx=>ak.z gx (by rw[aJ]) x) b4;have G2:=m5.cell (a:=fb) (λx=>by have x:(tag3 fb).1=d+1:=x;rw[v]at x;simp at x) z0;refine Y.z _ _ ⟨G0,G1,G2⟩ ?_;clear Y K;try simp only[PS]
  refine GI 10 ?_;iterate 5
   refine GV rfl ?_;try simp only[PS]
  refine zr ?_;have am:AA (∀n' W',zB w al nb W5 n' W'->zB w tag nb W n' W'):=zb λn' W' hh=>u.z _ _ (zB.from0 ((DW.refl DY W3).drew) (zB.trans O (m5.mono (λg hg=>.inl (λx=>by rw[x]at hg;simp at hg))) hh))
  have R:=Q3 N5 G.z (by unfold Dg;omega) f1;obtain⟨RC,an⟩:=nm ((m.setC d c').came d);rw[an]at R H;obtain⟨cm,N6⟩:=RC;simp only at H;have r:=H.z;subst r;clear N5 O m5 G Q KR an hL ai H u t HB z0 b1 b4;go_upto_region 22 with(go_at_call 34;refine R.mono ?_;rintro _ W6 ⟨rfl,ao⟩);have ap:=zb (am.z _ _ ao);clear R ao am;obtain⟨cz,S⟩:=nm ((f==7));rw[S]at q1 ⊢;cases cz
  .go_wp2_with fail;go_ret;exact⟨by show _=Ending.returned (.bool ((f==7)&&cm));rw[S];rfl,ap.z⟩
  go_wp2_with fail;go_ret;exact⟨by show _=Ending.returned (.bool ((f==7)&&cm));rw[S];rfl,ap.z⟩
def jo(h:Dh w tag nb n M W)(hI:n.Inv T)(l:T<=Dg)(m:n.Up){s:Do}(o:s.Ok)(hk:s.kind=6):Calls prog 21 #[(nb,0),.agg s.cells] W (E4 w tag nb W (n.flush (Db s.side 2))):=by
 obtain⟨W1,sb,i,k,gx,cx,b,hsb,h1,m1,sA,p,hi,hk8,c,f,d,g,b1,⟨b2,b3⟩,b4⟩:=Ml h o;rw[c];obtain⟨c0,c1,c2,c3,c4⟩:=sA;rw[hk]at c0;have a:=zb b;have q:=PW h1 hI l m hi;have j:=zb m1;obtain⟨RR,e⟩:=nm (n.flush i);rw[e]at q ⊢;unfold Do.cells at a ⊢;rw[hk]at a ⊢;clear h hI h1 m1 b o hk c f l e m;go_enter func21,ntmps21;go_upto_region 1 with fail;rw[a.z];go_wp2_with (first|(go_at_call 24;refine d.mono ?_;rintro _ _ ⟨rfl,rfl⟩;clear d)|(go_at_call 24;refine g.mono ?_;rintro _ _ ⟨rfl,rfl⟩)|(go_at_call 22;refine q.mono ?_;rintro _ W5 ⟨rfl,hL⟩));go_ret;exact⟨rfl,zB.from0 j.z hL⟩
def hO(h:Dh w tag nb n M W)(hI:n.Inv T)(z:T<=Dg){s:Do}(g:s.Ok)(hk:s.kind=10):Calls prog 21 #[(nb,0),.agg s.cells] W (E4 w tag nb W (n.read (Db s.side 2) (Db s.b 8) (Db s.a 200))):=by
 obtain⟨W1,sb,i,q,gx,cx,j,hsb,h1,m1,sA,A,hi,hq8,l,x,o,p,b1,⟨b2,b3⟩,b4⟩:=Ml h g;have r:Db s.b 8<8:=En _ _ I;have hm:Db s.a 200<200:=En _ _ I;have c:Calls prog 24 #[[s.b],.int .i64 8] W1 (λe w'=>e=.returned (.int .i64 (Db s.b 8:Int))/\W1=w'):=JF s.b 8 W1 g.b.1 g.b.2 I I;have d:Calls prog 24 #[[s.a],.int .i64 200] W1 (λe w'=>e=.returned (.int .i64 (Db s.a 200:Int))/\W1=w'):=JF s.a 200 W1 g.a.1 g.a.2 I I;obtain⟨k,t⟩:=nm (Db s.b 8);obtain⟨m,u⟩:=nm (Db s.a 200);rw[l];rw[t]at r c ⊢;rw[u]at hm d ⊢;obtain⟨c0,c1,c2,c3,c4⟩:=sA;rw[hk]at c0;have f:=zb j;have B:=UX h1 hI z hi r (I:m<=4096);have y:=zb m1;obtain⟨RR,v⟩:=nm (n.read i k m);rw[v]at B ⊢;unfold Do.cells at f ⊢;rw[hk]at f ⊢;clear h hI h1 m1 j g hk l t z v u x;go_enter func21,ntmps21;go_upto_region 1 with fail;rw[f.z];go_upto_region 39 with(first|(go_at_call 24;refine o.mono ?_;rintro _ _ ⟨rfl,rfl⟩;clear o)|(go_at_call 24;refine p.mono ?_;rintro _ _ ⟨rfl,rfl⟩));clear p;go_wp2_with (first|(go_at_call 24;refine c.mono ?_;rintro _ _ ⟨rfl,rfl⟩;clear c)|(go_at_call 24;refine d.mono ?_;rintro _ _ ⟨rfl,rfl⟩;clear d)|(go_at_call 35;refine B.mono ?_;rintro _ W5 ⟨rfl,hL⟩));go_ret;exact⟨rfl,zB.from0 y.z hL⟩
def VH(h:Dh w tag nb n M W)(hI:n.Inv T)(hT:T+400<=Dg){s:Do}(hs:s.Ok):Calls prog 41 #[(nb,0),.agg s.cells] W (E4 w tag nb W (n.carry s)):=by
 by_cases hb:n.bag=[]
 .exact VU h hb s
 exact iA h hI hT hs hb
def jn(h:Dh w tag nb n M W)(hI:n.Inv T)(p:T+400<=Dg){s:Do}(g:s.Ok)(hk:s.kind≠1/\s.kind≠2/\s.kind≠3/\s.kind≠4/\s.kind≠5/\s.kind≠6/\s.kind≠10):Calls prog 21 #[(nb,0),.agg s.cells] W (E4 w tag nb W (n.carry s)):=by
 obtain⟨W1,sb,i,k,gx,cx,b,hsb,h1,m1,sA,q,hi,hk8,j,l,c,m,b1,⟨b2,b3⟩,b4⟩:=Ml h g;obtain⟨c0,c1,c2,c3,c4⟩:=sA;obtain⟨r,k2,k3,k4,k5,k6,k7⟩:=hk;have d1:=AS.2 r;have d2:=AS.2 k2;have d3:=AS.2 k3;have d4:=AS.2 k4;have d5:=AS.2 k5;have d6:=AS.2 k6;have d7:=AS.2 k7;have a:=zb b;have f:=VH h1 hI p g;have o:=zb m1;obtain⟨RR,d⟩:=nm (n.carry s);rw[d]at f ⊢;unfold Do.cells at a f ⊢;obtain⟨kd,e⟩:=nm s.kind;rw[e]at a f c0 d1 d2 d3 d4 d5 d6 d7 ⊢;clear h hI h1 m1 b g j l p d r k2 k3 k4 k5 k6 k7 e;go_enter func21,ntmps21;go_upto_region 1 with fail;rw[a.z];go_wp2_with (first|(go_at_call 24;refine c.mono ?_;rintro _ _ ⟨rfl,rfl⟩;clear c)|(go_at_call 24;refine m.mono ?_;rintro _ _ ⟨rfl,rfl⟩)|(go_at_call 41;refine f.mono ?_;rintro _ W5 ⟨rfl,hL⟩));go_ret;exact⟨rfl,zB.from0 o.z hL⟩
def Y2:(prog.info? 86).map (λi=>(i.zero,i.size,i.bytes))=some (some (.pointer none),1,8):=mr
section
variable {w:World} {tag tag':nH} {nb mt wn tt:Nat} {R:Nat->Value} {L:Nat->List Value} {C:Nat} {b:Nat->Nat} {V:Nat->CV} {D:Nat} {er:Nat->Value} {eb:Nat->Nat} {W W':World}
def IX(er:Nat->Value)(i K:Nat):Value:=if K=0 then .slice none 0 0 else er i
def BN.pushEnd(h:BN w tag nb mt wn tt R L C b V D er eb W){K:Nat}(hi:i<2)(hK:K<8)(hD:D=8*i+K):∃va ca a c W2 tag',IX er i K=.slice va K ca/\(∀ty,(Builtin.append_ #[87,87] ty #[.slice va K ca,.slice (W.heap.size+1,0) 1 1]).run prog ((W.alloc (.cells (G6 EN.zero) 89)).alloc (.cells #[(W.heap.size,0)] 86))=.ok (.slice a (K+1) c) W2) /\
   BN w tag' nb mt wn tt R L C b V (D+1) (zf er i (.slice a (K+1) c)) (zf eb D W.heap.size) W2:=by
 obtain⟨ii,J,M,N,O⟩:=info_parts Y2;obtain⟨W1,o⟩:=nm (W.alloc (.cells (G6 EN.zero) 89));obtain⟨t,p⟩:=nm (W1.alloc (.cells #[(W.heap.size,0)] 86));have m1:=AB o;have v:=AB p;have m0:=m1.trans v;have s1:=AC o;have s0:t.heap.size=W.heap.size+2:=by rw[<-p];simp[s1]
 have Q:=AD o;have S:t.heap[W.heap.size+1]?=some (.cells #[(W.heap.size,0)] 86 (0,0)):=by rw[<-p,<-s1];exact heap_alloc_new W1 _
 have hc:∀(j:Nat) u,[Fj W.heap.size][j]?=some u->t.cell? ((⟨W.heap.size+1,0,none⟩:Addr).add j)=some u:=λj u hj=>by
  rw[zZ];refine za S ?_;rw[A6,<-Array.getElem?_toList];exact hj
 have A:W.ownsRow 0 86 1 (IX er i K) K ((List.range K).map λk=>Fj (eb (8*i+k)))/\∀q,(IX er i K).ownBlock=some q->tag q=(3,7+i):=by
  unfold IX;split
  .rename_i hK0;subst hK0;exact⟨World.ownsRow_nil W 0 _ 1,λq m=>by cases m⟩
  have x:=h.er i hi I;rw[(I:min 8 (D-8*i)=K)]at x;exact⟨x.own,x.tag⟩
 obtain⟨r,s⟩:=A;obtain⟨va,ca,f1,f2,f3,f4⟩:=zk r;obtain⟨G,W2,r2,T,g2,n2⟩:=zV (P:=prog) t 87 86 ii _ 1 8 underlying87 J M N O rfl mu (IX er i K) K ((List.range K).map λk=>Fj (eb (8*i+k))) (m0.owns r (λ_ _ x=>x))
  ⟨W.heap.size+1,0,none⟩ 1 1 [Fj W.heap.size] rfl hc (by intro u hu;simp at hu;subst hu;rfl) mz I
 have X:=(DW.refl _ t).grown g2 (λq m=>.inl m);have E:=(m0.mono (λ_ x=>x.elim)).then X (λq m=>.inl (s q m));have ac:W.heap.size+2<=W2.heap.size:=by rw[<-s0];exact X.size
 have Y:∀q,G.ownBlock=some q->q<W2.heap.size:=λq m=>Qg T m
 have Z:∀q,G.ownBlock=some q->tag q=(3,7+i)\/W.heap.size+2<=q:=λq m=>by
  rcases n2 q m with z|z
  .exact .inl (s q z)
  exact .inr I
 have l:=λq m=>h.env.ok q m
 obtain⟨tag',n⟩:=nm ((λg=>if g=W.heap.size then(3,20+D)else if W.heap.size<=g/\G.ownBlock=some g/\g<W2.heap.size then(3,7+i)else tag g));have old:∀g,g<W.heap.size->tag' g=tag g:=λg hg=>by
  rw[<-n];simp only;rw[AI I,AI (λx=>I)]
 have f:∀g,tag g≠(0,0)->tag' g=tag g:=λg hg=>by
  by_cases q:g<W.heap.size
  .exact old g q
  exact absurd (l g I) hg
 have H:∀{x:Nat},x≠7+i->∀g,tag g=(3,7+i)->tag g≠(3,x):=λa g hg y=>by
  rw[y]at hg;simp at hg;exact a hg
 have aa:W2.heap[W.heap.size]?=some (.cells (G6 EN.zero) 89 (0,0)):=by
  refine X.obj (λz=>?_) (v.obj (λz=>z) Q);have:=s _ z;rw[l _ (AF _)]at this;simp at this
 obtain⟨a2,c2,F,-⟩:=zk T;have B:BN w tag' nb mt wn tt R L C b V (D+1) (zf er i G) (zf eb D W.heap.size) W2:=by
  refine h.build E (λg hg=>.inl (by rw[hg])) ⟨old,λg hg=>?_,λg hg=>?_⟩ (h.obj.mod E (H I) f) (λx hx=>(h.row x hx).mod E (H I) f) (λd hd=>?_) (λj hj hd=>?_) I
  .rw[<-n];simp only;split
   .exact .inl rfl
   split
   .exact .inl rfl
   exact .inr (l g hg)
  .rw[<-n];simp only;rw[AI I,AI (λx=>I)];exact l g I
  .by_cases y:d=D
   .subst y;rw[ze];exact⟨aa,by rw[<-n];exact AQ rfl⟩
   rw[zd _ _ y];exact(h.en d I).mod E (H I) f
  by_cases y:j=i
  .subst y;rw[ze,(I:min 8 (D+1-8*j)=K+1)];have e:((List.range (K+1)).map λk=>Fj (zf eb D W.heap.size (8*j+k)))=((List.range K).map λk=>Fj (eb (8*j+k)))++[Fj W.heap.size]:=by
    rw[Bp,Ba,List.map_singleton,<-hD,ze];congr 1;refine C3 λk hk=>?_
    rw[zd _ _ (nC (Bn.1 hk))]
   rw[e];refine⟨T,λg hg=>?_⟩;rcases Z g hg with z|z
   .rw[f g (by rw[z];simp),z]
   rw[<-n];simp only;rw[AI I,AQ ⟨I,hg,Y g hg⟩]
  rw[zd _ _ y];have ab:j=0/\i=1\/j=1/\i=0:=I;rcases ab with⟨rfl,rfl⟩|⟨rfl,rfl⟩
  .rw[(I:min 8 (D+1-8*0)=8)];have x:=h.er 0 I I;rw[(I:min 8 (D-8*0)=8)]at x;have e:((List.range 8).map λk=>Fj (zf eb D W.heap.size (8*0+k)))=((List.range 8).map λk=>Fj (eb (8*0+k))) :=
    C3 λk hk=>by rw[zd _ _ (nC (Bn.1 hk))]
   rw[e];exact x.mod E (H I) f
  exact absurd hd I
 subst F;rw[f1]at r2;exact⟨va,ca,a2,c2,W2,tag',f1,by rw[o,p];exact r2,B⟩
def BN.done{R:Nat->Value}{L:Nat->List Value}(h:BN w tag nb mt wn tt R L 2 b V 16 er eb W)(h0:L 0=[Fj (b 0),Fj (b 1)])(h1:L 1=[er 0,er 1])(h2:L 2=[.slice none 0 0,.slice none 0 0])(h3:L 3=[.int .u64 0,.int .u64 0])(h4:L 4=[.int .u64 0,.int .u64 0]):Dh w tag nb (NS.new mt wn tt) ⟨R 0,R 1,R 2,R 3,.slice none 0 0,R 4,b,V,er,λi k=>eb (8*i+k),λ_=>.slice none 0 0,λ_=>[]⟩ W:=by
 have a:=h.row 0 I;have c:=h.row 1 I;have d:=h.row 2 I;have e:=h.row 3 I;have f:=h.row 4 I;rw[h0]at a;rw[h1]at c;rw[h2]at d;rw[h3]at e;rw[h4]at f;exact
  {o :=
    {obj:=h.obj
     x:=a
     ev:=c
     gv:=d
     nx:=e
     ct:=f
     bg:=⟨World.ownsRow_nil W 0 _ 2,λg hg=>by cases hg⟩
     er:=λi hi=>by
      have x:=h.er i hi I;rw[(I:min 8 (16-8*i)=8)]at x;exact x
     en:=λi hi k hk=>by
      have x:=h.en (8*i+k) I;rw[(I:20+(8*i+k)=20+8*i+k)]at x;exact x
     gr:=λi hi=>⟨World.ownsRow_nil W 0 _ 1,λg hg=>by cases hg⟩
     gl:=λi hi=>rfl
     gn:=λi hi j b s hb=>by simp at hb }
   cn:=λi hi=>h.cn i hi
   env:=h.env
   nd:=h.nd
   mod:=h.mod
   t1:=h.t1 }
end
def XT:(prog.info? (IE 0)).map (λi=>(i.zero,i.size,i.bytes))=some (some (.pointer none),1,8):=mr
def XS:(prog.info? (IE 1)).map (λi=>(i.zero,i.size,i.bytes))=some (some (.slice none 0 0),1,24):=mr
def XR:(prog.info? (IE 2)).map (λi=>(i.zero,i.size,i.bytes))=some (some (.slice none 0 0),1,24):=mr
def XQ:(prog.info? (IE 3)).map (λi=>(i.zero,i.size,i.bytes))=some (some (.int .u64 0),1,8):=mr
def XP:(prog.info? (IE 4)).map (λi=>(i.zero,i.size,i.bytes))=some (some (.int .u64 0),1,8):=mr
variable{w1:World}
def Dh.base(h:Dh w1 tag nb n M W)(m:DW DY w w1):Dh w tag nb n M W :=
 ⟨h.o,h.cn,h.env,h.nd,m.trans h.mod,λg hg=>AJ m.size (h.t1 g hg)⟩
def fS(w:World)(n:NS)(e:Ending)(W':World):Prop:=∃nb tag M,e=.returned (.pointer (some ⟨nb,0,none⟩))/\Dh w tag nb n M W'
structure FH(L:Nat->List Value)(b:Nat->Nat)(er:Nat->Value)(c0 c1 c2 c3 c4:Nat):Prop where
 h0:L 0=(List.range c0).map λj=>Fj (b j)
 h1:L 1=(List.range c1).map er
 h2:L 2=List.replicate c2 (.slice none 0 0)
 h3:L 3=List.replicate c3 (.int .u64 0)
 h4:L 4=List.replicate c4 (.int .u64 0)
def mj:CV:=⟨0,.slice none 0 0,λ_=>.slice none 0 0,λ_=>.slice none 0 0,λ_=>.slice none 0 0,λ_=>.slice none 0 0,λ_=>.slice none 0 0,.slice none 0 0,[],.slice none 0 0,0,.slice none 0 0⟩
def BN.start(E:EC 1 (λ_=>(0,0)) w1)(mt wn tt:Nat):BN w1 (λg=>if g=w1.heap.size then(3,0)else(0,0)) w1.heap.size mt wn tt (λ_=>.slice none 0 0) (λ_=>[]) 0 (λ_=>0) (λ_=>mj) 0 (λ_=>.slice none 0 0) (λ_=>0) (w1.alloc (.cells (Jb mt wn tt (λ_=>.slice none 0 0)) 48)):=by
 have m:DW DY w1 (w1.alloc (.cells (Jb mt wn tt (λ_=>.slice none 0 0)) 48)):=(DW.refl _ _).alloc _;have p0:=zm E.err;have p1:=E.tab.lt;exact
  {obj:=⟨heap_alloc_new w1 _,AQ rfl⟩
   row:=λr hr=>⟨World.ownsRow_nil _ 0 _ 1,λg hg=>by cases hg⟩
   en:=λd hd=>absurd hd (A5 d)
   er:=λj a hd=>absurd hd I
   cn:=λj a=>absurd a (A5 j)
   c2:=I
   d16:=I
   env:=⟨λg hg=>AI (by simp at hg;omega),E.pos,(E.mod0 m).err,(E.mod0 m).tab,AI I,AI I⟩
   nd:=λj a g r hr=>by
    simp only;split
    .intro x;have:=A8 Prod.fst x;simp at this;omega
    intro x;have:=A8 Prod.fst x;simp at this
   mod:=m
   t1:=λg hg=>by
    by_cases x:g=w1.heap.size
    .omega
    simp only[AI x]at hg;exact absurd rfl hg }
section
variable {L:Nat->List Value} {b:Nat->Nat} {er:Nat->Value} {c0 c1 c2 c3 c4:Nat}
def FH.len(h:FH L b er c0 c1 c2 c3 c4):(L 0).length=c0/\(L 1).length=c1/\(L 2).length=c2/\(L 3).length=c3/\(L 4).length=c4:=by
 rw[h.h0,h.h1,h.h2,h.h3,h.h4];simp
def FH.p0(h:FH L b er c0 c1 c2 c3 c4)(q:Nat):FH (zf L 0 (L 0++[.pointer q])) (zf b c0 q) er (c0+1) c1 c2 c3 c4:=by
 refine⟨?_,by rw[zd _ _ I];exact h.h1,by rw[zd _ _ I];exact h.h2,by rw[zd _ _ I];exact h.h3,by rw[zd _ _ I];exact h.h4⟩;rw[ze,Bp,Ba,List.map_singleton,ze,h.h0];congr 1;refine C3 λk hk=>?_
 rw[zd _ _ (nC (Bn.1 hk))]
def FH.p1(h:FH L b er c0 c1 c2 c3 c4){u:Value}(hu:er c1=u):FH (zf L 1 (L 1++[u])) b er c0 (c1+1) c2 c3 c4:=by
 refine⟨by rw[zd _ _ I];exact h.h0,?_,by rw[zd _ _ I];exact h.h2,by rw[zd _ _ I];exact h.h3,by rw[zd _ _ I];exact h.h4⟩;rw[ze,Bp,Ba,List.map_singleton,h.h1,hu]
def FH.p2(h:FH L b er c0 c1 c2 c3 c4):FH (zf L 2 (L 2++[.slice none 0 0])) b er c0 c1 (c2+1) c3 c4:=by
 refine⟨by rw[zd _ _ I];exact h.h0,by rw[zd _ _ I];exact h.h1,?_,by rw[zd _ _ I];exact h.h3,by rw[zd _ _ I];exact h.h4⟩;rw[ze,Cu,h.h2]
def FH.p3(h:FH L b er c0 c1 c2 c3 c4):FH (zf L 3 (L 3++[.int .u64 0])) b er c0 c1 c2 (c3+1) c4:=by
 refine⟨by rw[zd _ _ I];exact h.h0,by rw[zd _ _ I];exact h.h1,by rw[zd _ _ I];exact h.h2,?_,by rw[zd _ _ I];exact h.h4⟩;rw[ze,Cu,h.h3]
def FH.p4(h:FH L b er c0 c1 c2 c3 c4):FH (zf L 4 (L 4++[.int .u64 0])) b er c0 c1 c2 c3 (c4+1):=by
 refine⟨by rw[zd _ _ I];exact h.h0,by rw[zd _ _ I];exact h.h1,by rw[zd _ _ I];exact h.h2,by rw[zd _ _ I];exact h.h3,?_⟩;rw[ze,Cu,h.h4]
def FH.setEr(h:FH L b er c0 c1 c2 c3 c4)(hi:c1<=i)(v:Value):FH L b (zf er i v) c0 c1 c2 c3 c4:=by
 refine⟨h.h0,?_,h.h2,h.h3,h.h4⟩;rw[h.h1];refine C3 λk hk=>?_
 rw[zd _ _ (nC (Bn.1 hk))]
end
def Vd(a b c:Int)(ha : -9223372036854775808<=a/\a<=9223372036854775807)(hb : -9223372036854775808<=b/\b<=9223372036854775807)(hc : -9223372036854775808<=c/\c<=9223372036854775807)(w:World)(E:EC 1 (λ_=>(0,0)) w):Calls prog 20 #[[a],[b],[c]] w (fS w (NS.build a b c)):=by
 have aY:=En a 337 I;have aZ:=En b 300 I;have a0:=En c 600 I;have C:Calls prog 24 #[[a],.int .i64 337] w (λe w'=>e=.returned (.int .i64 (Db a 337:Int))/\w=w'):=JF a 337 w ha.1 ha.2 I I;have D:Calls prog 24 #[[b],.int .i64 300] w (λe w'=>e=.returned (.int .i64 (Db b 300:Int))/\w=w'):=JF b 300 w hb.1 hb.2 I I;have F:Calls prog 24 #[[c],.int .i64 600] w (λe w'=>e=.returned (.int .i64 (Db c 600:Int))/\w=w'):=JF c 600 w hc.1 hc.2 I I;unfold NS.build;obtain⟨p1,e1⟩:=nm (Db a 337);obtain⟨p2,e2⟩:=nm (Db b 300);obtain⟨p3,e3⟩:=nm (Db c 600);rw[e1]at C aY ⊢;rw[e2]at D aZ ⊢;rw[e3]at F a0 ⊢;obtain⟨mt,ak⟩:=nm (64+p1);obtain⟨wn,al⟩:=nm (16+p2);obtain⟨tt,am⟩:=nm (16+p3);have z1:(64:Int)+(p1:Int)=(mt:Int):=I;have z2:(16:Int)+(p2:Int)=(wn:Int):=I;have z3:(16:Int)+(p3:Int)=(tt:Int):=I;have y1:IntKind.i64.wrap (mt:Int)=(mt:Int):=by rw[IntKind.wrap_i64];omega
 have y2:IntKind.i64.wrap (wn:Int)=(wn:Int):=by rw[IntKind.wrap_i64];omega
 have y3:IntKind.i64.wrap (tt:Int)=(tt:Int):=by rw[IntKind.wrap_i64];omega
 rw[ak,al,am];have an:JS mt wn tt=true:=by
  unfold JS;simp only[AZ,Ah];omega
 have HE:=zb E;have a1:=zb an;obtain⟨W1,v⟩:=nm (w.alloc (.cells #[[mt],[wn],[tt]] 45));have m1:=AB v;have d:=AD v;obtain⟨cb,ao⟩:=nm w.heap.size;rw[ao]at d;have g0:W1.cell? cb=some (.int .i64 mt):=za d rfl;have g1:W1.cell? (cb,1)=some (.int .i64 wn):=za d rfl;have g2:W1.cell? (cb,2)=some (.int .i64 tt):=za d rfl;have HG:AA (∀Wx,DW DY W1 Wx->Wx.cell? cb=some (.int .i64 mt)/\Wx.cell? (cb,1)=some (.int .i64 wn)/\Wx.cell? (cb,2)=some (.int .i64 tt)):=zb λWx m=>⟨m.cell (a:=cb) id g0,m.cell (a:=U cb 1) id g1,m.cell (a:=U cb 2) id g2⟩
 have ap:=zb m1;have ST:=zb (BN.start (E.mod0 m1) mt wn tt);have a2:=zb v;obtain⟨nb,a3⟩:=nm W1.heap.size;rw[a3]at ST;unfold Jb at ST;obtain⟨W2,G⟩:=nm (W1.alloc (.cells #[.slice none 0 0,.slice none 0 0,.slice none 0 0,.slice none 0 0,.int .u64 0,[mt],[wn],[tt],.slice none 0 0,.slice none 0 0] 48));have a4:=zb G;rw[G]at ST;clear E an m1 d v G ak al am ha hb hc e1 e2 e3;go_enter func20,ntmps20;go_upto_region 2 with(first|(go_at_call 24;refine C.mono ?_;rintro _ _ ⟨rfl,rfl⟩;clear C)|(go_at_call 24;refine D.mono ?_;rintro _ _ ⟨rfl,rfl⟩;clear D)|(go_at_call 24;refine F.mono ?_;rintro _ _ ⟨rfl,rfl⟩;clear F));try rw[a2.z]
 go_wp2_with fail;try rw[a4.z]
 go_loopw [9] (λiv wr=>∃(i:Nat) (tag:nH) (R:Nat->Value) (L:Nat->List Value) (bb:Nat->Nat) (V:Nat->CV) (er:Nat->Value) (eb:Nat->Nat),i<=2/\iv=.int .i64 i/\AA (BN W1 tag nb mt wn tt R L i bb V (8*i) er eb wr/\FH L bb er i i i i i)) (λiv _=>2-(intOf iv).toNat)
 case atStart=>exact⟨0,_,_,_,_,_,_,_,I,rfl,zb ⟨ST.z,⟨rfl,rfl,rfl,rfl,rfl⟩⟩⟩
 case round =>
  obtain⟨i,tag,R,L,bb,V,er,eb,hi,rfl,HB⟩:=hrel;by_cases f:i<2;rotate_left
  .have h2:i=2:=I;subst h2;have HN:=zb ((HB.z.1.done HB.z.2.h0 HB.z.2.h1 HB.z.2.h2 HB.z.2.h3 HB.z.2.h4).base ap.z);clear f;go_wp2_with fail;go_ret;exact⟨nb,tag,_,rfl,HN.z⟩
  have xw:=wi ((i:Int)+1) I;have xc:((i+1:Nat):Int)=(i:Int)+1:=I;obtain⟨u0,u1,u2⟩:=HG.z wr HB.z.1.mod;have kn:=YS tag (i+1) mt wn tt wr (HB.z.1.env.to I);go_upto_region 9 with(go_at_call 36;refine kn.mono ?_;rintro e Wn hp;rcases hp with⟨hf,-⟩|⟨q,aq,Vn,-,rfl,n1,n2,n3,n4⟩;exact absurd (a1.z.symm.trans hf) mv);simp only[Ae]at n1;have hL:Ds tag (i+1) q wr (CS.new mt wn tt) Wn:=⟨aq,Vn,n1,n2,n3.mono (λ_ x=>x.elim)⟩;obtain⟨ba,V1,C1⟩:=HB.z.1.conn f hL;obtain⟨l0,l1,l2,l3,H⟩:=HB.z.2.len;obtain⟨ar,au,av,aw,J,-,x0,g,y,M,tg0,N⟩:=C1.push (r:=0) mu (.pointer q) rfl 39 8 XT rfl underlying39 mu (by rw[l0];exact AJ hi mu);rw[l0]at x0 g y N;have x0:Wn.cell? nb=some (.slice ar i au):=x0;have y:J.cell? nb=some (.slice ar i au):=y;have M:J.frozen? ⟨nb,0,none⟩=false:=M;obtain⟨a6,h⟩:=nm (J.setCell nb (.slice av (i+1) aw));have B0:=zb (N a6 (by rw[<-h];exact DW.refl _ _));have S0:=zb (HB.z.2.p0 q);obtain⟨R0,ax⟩:=nm (zf R 0 (Value.slice av (i+1) aw));obtain⟨L0,O⟩:=nm (zf L 0 (L 0++[(.pointer q:Value)]));rw[ax,O]at B0;rw[O]at S0;clear N ax O;clear C1 n1 n2 n3 n4 kn u0 u1 u2 hL;go_upto_region 10 with(at_builtin;refine zn rfl _ _ _ _ rfl _ _ _ rfl rfl g ?_);try rw[h]
  clear h x0 g y M;clear HB l0;obtain⟨b0,P⟩:=nm (zf bb i q);rw[P]at B0;rw[P]at S0;clear P;go_wp2_with fail
  go_loopw [12,13] (λlv kv wr=>∃(K:Nat) (tag:nH) (er:Nat->Value) (eb:Nat->Nat),K<=8/\lv=IX er i K/\kv=.int .i64 K/\AA (BN W1 tag nb mt wn tt R0 L0 (i+1) b0 V1 (8*i+K) er eb wr/\FH L0 b0 er (i+1) i i i i)) (λ_ kv _=>8-(intOf kv).toNat)
  case atStart=>exact⟨0,_,_,_,I,rfl,rfl,zb ⟨B0.z,S0.z⟩⟩
  case round =>
   obtain⟨K,tag,er,eb,hK,rfl,rfl,HB⟩:=hrel;by_cases ay:K<8
   .obtain⟨va,ca,a5,c5,W5,az,f5,r5,B5⟩:=HB.z.1.pushEnd f ay rfl;have S5:=zb (HB.z.2.setEr (AF i) (.slice a5 (K+1) c5));have a7:=zb B5;have e5:IX (zf er i (.slice a5 (K+1) c5)) i (K+1)=.slice a5 (K+1) c5:=by unfold IX;rw[AI I,ze]
    have E5:=zb e5;rw[f5];unfold G6 EN.zero at r5;clear B5 e5 f5 HB;go_wp2_with (at_builtin;refine zn rfl _ _ _ _ rfl _ _ _ rfl rfl r5 ?_;clear r5);go_roundw
    case rel=>exact⟨K+1,az,_,_,I,E5.z.symm,by go_num,zb ⟨a7.z,S5.z⟩⟩
    simp[intOf];omega
   have h8:K=8:=I;subst h8;obtain⟨_,_,_,_,_⟩:=HB.z.2.len;have j:=HB.z.1.er i f I;rw[(I:min 8 (8*i+8-8*i)=8)]at j;obtain⟨va,ca,f5,-⟩:=zk j.own;have e5:IX er i 8=.slice va 8 ca:=by unfold IX;rw[AI I,f5]
   rw[e5];have a8:=zb f5;obtain⟨-,l1,l2,l3,H⟩:=HB.z.2.len;clear j e5 f5 ay;obtain⟨aA,aB,aC,aD,Q,-,x1,k,z,S,tg1,T⟩:=HB.z.1.push (r:=1) mu (.slice va 8 ca) rfl 40 24 XS rfl underlying40 mu (by rw[l1];exact AJ hi mu);rw[l1]at x1 k z T;have x1:wr.cell? (nb,1)=some (.slice aA i aB):=x1;have z:Q.cell? (nb,1)=some (.slice aA i aB):=z;have S:Q.frozen? ⟨nb,1,none⟩=false:=S;obtain⟨aE,l⟩:=nm (Q.setCell (U nb 1) (.slice aC (i+1) aD));have B1:=zb (T aE (by rw[<-l];exact DW.refl _ _));have S1:=zb (HB.z.2.p1 a8.z);obtain⟨R1,aF⟩:=nm (zf R0 1 (Value.slice aC (i+1) aD));obtain⟨L1,W⟩:=nm (zf L0 1 (L0 1++[(.slice va 8 ca:Value)]));rw[aF,W]at B1;rw[W]at S1;clear T aF W;go_upto_region 16 with(at_builtin;refine zn rfl _ _ _ _ rfl _ _ _ rfl rfl k ?_);try rw[l]
   clear l x1 k z S;obtain⟨-,-,l2,l3,H⟩:=S1.z.len;obtain⟨aG,aH,aI,aJ,X,-,x2,n,A,Y,tg2,Z⟩:=B1.z.push (r:=2) mu (.slice none 0 0) rfl 41 24 XR rfl underlying41 mu (by rw[l2];exact AJ hi mu);rw[l2]at x2 n A Z;have x2:aE.cell? (nb,2)=some (.slice aG i aH):=x2;have A:X.cell? (nb,2)=some (.slice aG i aH):=A;have Y:X.frozen? ⟨nb,2,none⟩=false:=Y;obtain⟨aK,o⟩:=nm (X.setCell (U nb 2) (.slice aI (i+1) aJ));have B2:=zb (Z aK (by rw[<-o];exact DW.refl _ _));have S2:=zb (S1.z.p2);obtain⟨R2,aL⟩:=nm (zf R1 2 (Value.slice aI (i+1) aJ));obtain⟨L2,aa⟩:=nm (zf L1 2 (L1 2++[(.slice none 0 0:Value)]));rw[aL,aa]at B2;rw[aa]at S2;clear Z aL aa;go_upto_region 17 with(at_builtin;refine zn rfl _ _ _ _ rfl _ _ _ rfl rfl n ?_);try rw[o]
   clear o x2 n A Y;obtain⟨-,-,-,l3,H⟩:=S2.z.len;obtain⟨aM,aN,aO,aP,ab,-,x3,p,B,ac,tg3,ad⟩:=B2.z.push (r:=3) mu (.int .u64 0) rfl 42 8 XQ rfl underlying42 mu (by rw[l3];exact AJ hi mu);rw[l3]at x3 p B ad;have x3:aK.cell? (nb,3)=some (.slice aM i aN):=x3;have B:ab.cell? (nb,3)=some (.slice aM i aN):=B;have ac:ab.frozen? ⟨nb,3,none⟩=false:=ac;obtain⟨aQ,s⟩:=nm (ab.setCell (U nb 3) (.slice aO (i+1) aP));have B3:=zb (ad aQ (by rw[<-s];exact DW.refl _ _));have S3:=zb (S2.z.p3);obtain⟨R3,aR⟩:=nm (zf R2 3 (Value.slice aO (i+1) aP));obtain⟨L3,ae⟩:=nm (zf L2 3 (L2 3++[(.int .u64 0:Value)]));rw[aR,ae]at B3;rw[ae]at S3;clear ad aR ae;go_upto_region 18 with(at_builtin;refine zn rfl _ _ _ _ rfl _ _ _ rfl rfl p ?_);try rw[s]
   clear s x3 p B ac;obtain⟨-,-,-,-,H⟩:=S3.z.len;obtain⟨aS,aT,aU,aV,af,-,x4,t,ah,aW,tg4,ai⟩:=B3.z.push (r:=4) mu (.int .u64 0) rfl 42 8 XP rfl underlying42 mu (by rw[H];exact AJ hi mu);rw[H]at x4 t ah ai;have x4:aQ.cell? (nb,9)=some (.slice aS i aT):=x4;have ah:af.cell? (nb,9)=some (.slice aS i aT):=ah;have aW:af.frozen? ⟨nb,9,none⟩=false:=aW;obtain⟨a9,u⟩:=nm (af.setCell (U nb 9) (.slice aU (i+1) aV));have B4:=zb (ai a9 (by rw[<-u];exact DW.refl _ _));have S4:=zb (S3.z.p4);obtain⟨R4,aX⟩:=nm (zf R3 4 (Value.slice aU (i+1) aV));obtain⟨L4,aj⟩:=nm (zf L3 4 (L3 4++[(.int .u64 0:Value)]));rw[aX,aj]at B4;rw[aj]at S4;clear ai aX aj;clear HB B0 S0 B1 B2 B3 S1 S2 S3 H;go_wp2_with (at_builtin;refine zn rfl _ _ _ _ rfl _ _ _ rfl rfl t ?_;clear t);try rw[u]
   clear u;go_roundw
   case rel =>
    have x:=B4.z;rw[show 8*i+8=8*(i+1)from rfl]at x;exact⟨i+1,_,_,_,_,_,_,_,f,by first|rfl|(rw[xc])|(rw[xc,<-xw];rfl),zb ⟨x,S4.z⟩⟩
   case measure =>
    clear HG ap xw;simp only[intOf,Ae];omega
def g9:Si=true:=nA
def jm:((NS.build 0 100 100).step I4).1=true/\(Mz.step JN).1=true/\(Km.fair 4).1=true/\((Km.fair 4).2.e 0 3).read=22/\((Km.fair 4).2.e 0 3).state=1:=by
 have h:=g9;unfold Si at h;simp only[AZ,Ci]at h;exact⟨h.1.1.1.1,h.1.1.1.2,h.1.1.2,h.1.2,h.2⟩
def Vm:I4.s=[115,111,109,101,32,98,121,116,101,115,32,111,102,32,97,32,115,116,114,101,97,109]:=nA
def NS.Inv.new{mtu window total:Nat}(h:64<=mtu/\mtu<=400)(a:16<=window/\window<=4096)(b:16<=total/\total<=4096):(NS.new mtu window total).Inv 0 :=
 ⟨h,⟨a,b⟩,λ_ _=>CS.Inv.new h a.2 b.2,λ_ _ _ _=>⟨AM _,AF _,AM _⟩,AF _,λ_ _=>AF _,λ_ _=>AF _,λ_ _=>AF _,λ_ _ s hs=>(by cases hs),AF _,λp hp=>(by cases hp)⟩
def NS.Inv.build(a b c:Int):(NS.build a b c).Inv 0:=by
 have h1:=En a 337 I;have h2:=En b 300 I;have h3:=En c 600 I;exact NS.Inv.new ⟨I,I⟩ ⟨I,I⟩ ⟨I,I⟩
def NS.Up.build(a b c:Int):(NS.build a b c).Up:=λ_ _=>rfl
def Q8(n:NS)(s:Do)(h:s.kind=1):n.step s=n.send (Db s.side 2) (Db s.a 8) s.s:=by
 unfold NS.step;rw[AQ h]
def SA(n:NS)(s:Do)(h:s.kind=2):n.step s=n.finish (Db s.side 2) (Db s.a 8):=by
 unfold NS.step;rw[AI I,AQ h]
def gz(w:World)(E:EC 1 (λ_=>(0,0)) w):Calls prog 14 #[] w (λe W'=>e=.returned (.bool true)/\DW DY w W'):=by
 obtain⟨p1,p2,p3,p4,f⟩:=jm;have B:=Vd 0 100 100 I I I w E;obtain⟨j,c⟩:=nm (NS.build 0 100 100);have l:j.Inv 0:=by rw[<-c];exact NS.Inv.build _ _ _
 have v:j.Up:=by rw[<-c];exact NS.Up.build _ _ _
 unfold Km Mz at p3 p4 f;unfold Mz at p2;rw[c]at B p1 p2 p3 p4 f;have a:(j.step I4).2.Inv 0:=by rw[Q8 _ _ rfl];exact l.send _ _ _
 have d:(j.step I4).2.Up:=by rw[Q8 _ _ rfl];exact v.send _ _ _
 obtain⟨u,b⟩:=nm ((j.step I4).2);have m:(u.step JN).2.Inv 0:=by rw[SA _ _ rfl];rw[b]at a;exact a.finish _ _
 have n:(u.step JN).2.Up:=by rw[SA _ _ rfl];rw[b]at d;exact d.finish _ _
 rw[b]at p2 p3 p4 f a d;obtain⟨C,p⟩:=nm ((u.step JN).2);rw[p]at p3 p4 f m n;obtain⟨n3,r⟩:=nm ((C.fair 4).2);rw[r]at p4 f;have x:AA (∀tag nb M W,Dh w tag nb j M W->Calls prog 21 #[.pointer (some ⟨nb,0,none⟩),.agg #[.int .i64 1,.int .i64 0,.int .i64 3,.int .i64 0,.string ⟨#[115,111,109,101,32,98,121,116,101,115,32,111,102,32,97,32,115,116,114,101,97,109]⟩]] W (λe W'=>e=.returned (.bool true)/\zB w tag nb W u W')):=zb λtag nb M W h=>by
  have k:=VT h l mu (s:=I4) ⟨mu,mu,mu,mu,by rw[Vm];decide⟩ rfl;rw[<-Q8 j I4 rfl]at k;unfold Do.cells at k;rw[Vm]at k;unfold E4 at k;rw[p1,b]at k;exact k
 have y:AA (∀tag nb M W,Dh w tag nb u M W->Calls prog 21 #[.pointer (some ⟨nb,0,none⟩),.agg #[.int .i64 2,.int .i64 0,.int .i64 3,.int .i64 0,.string ⟨#[]⟩]] W (λe W'=>e=.returned (.bool true)/\zB w tag nb W C W')):=zb λtag nb M W h=>by
  have k:=Vw h a mu (s:=JN) ⟨mu,mu,mu,mu,mu⟩ rfl;rw[<-SA u JN rfl]at k;unfold E4 at k;rw[p2,p]at k;exact k
 have D:AA (∀tag nb M W,Dh w tag nb C M W->Calls prog 17 #[.pointer (some ⟨nb,0,none⟩),.int .i64 4] W (λe W'=>e=.returned (.bool true)/\zB w tag nb W n3 W')):=zb λtag nb M W h=>by
  have k:=Q1 h m n (t:=4) mu;unfold E4 at k;rw[p3,r]at k;exact k
 clear l a m v d n c b p r p1 p2 p3 E;go_enter func14,ntmps14;go_upto_region 2 with(go_at_call 20;refine B.mono ?_;rintro _ W1 ⟨nb,z,M1,rfl,h1⟩);have F:=x.z z nb M1 W1 h1;clear B x;go_upto_region 5 with(go_at_call 21;refine F.mono ?_;rintro _ W2 ⟨rfl,tag2,M2,h2,-,-⟩);have k2:=y.z tag2 nb M2 W2 h2;clear F y h1;go_upto_region 6 with(go_at_call 21;refine k2.mono ?_;rintro _ W3 ⟨rfl,A,M3,h3,-,-⟩);have k3:=D.z A nb M3 W3 h3;clear k2 D h2;go_upto_region 7 with(go_at_call 17;refine k3.mono ?_;rintro _ W4 ⟨rfl,G,M4,h4,-,-⟩);clear k3 h3;obtain⟨g,cap,q,H,a1,⟨a2,a3⟩,a4,⟨a5,a6⟩,a7⟩:=h4.o.endAt (i:=0) (k:=3) I I;obtain⟨e0,e1,e2,e3,e4,e5,ez⟩:=h4.o.enAt (i:=0) (k:=3) I I;rw[p4]at e4;rw[f]at e5;have HM:=zb h4.mod;clear h4 e0 e1 e2 e3 p4 f;go_wp2_with fail;go_ret;exact⟨rfl,HM.z⟩
def Kc(w:World)(v:Value)(l:List Do):Prop :=
 ∃a cap,v=.slice a l.length cap/\l.length<=cap/\cap<=maxLen/\∀(i:Nat) s,l[i]?=some s->(∃g o,a=some ⟨g,o,none⟩/\∀(j:Nat) x,s.cells[j]?=some x->w.cell? ⟨g,o+i*5+j,none⟩=some x)/\s.Ok
variable{v:Value}{w':World}
def Kc.mod0{l:List Do}(h:Kc w v l)(m:DW DY w w'):Kc w' v l:=by
 obtain⟨a,cap,e1,e2,e3,e4⟩:=h;exact⟨a,cap,e1,e2,e3,λi s hi=>by
  obtain⟨⟨g,o,f1,f2⟩,f3⟩:=e4 i s hi;exact⟨⟨g,o,f1,λj x hx=>m.cell (a:=⟨g,o+i*5+j,none⟩) id (f2 j x hx)⟩,f3⟩⟩
def MG(l:List Do):Nat:=(l.map λs=>s.s.length).sum
def gy{l:List Do}{s:Do}(h:l[k]?=some s):MG (l.drop k)=s.s.length+MG (l.drop (k+1)):=by
 rw[Mc h];rfl
def OZ(w:World)(v:Value)(l:List Int):Prop :=
 ∃a cap,v=.slice a l.length cap/\l.length<=cap/\cap<=maxLen/\∀(i:Nat) s,l[i]?=some s->∃g o,a=some ⟨g,o,none⟩/\w.cell? ⟨g,o+i,none⟩=some (.int .i64 s)
def OZ.mod0{l:List Int}(h:OZ w v l)(m:DW DY w w'):OZ w' v l:=by
 obtain⟨a,cap,e1,e2,e3,e4⟩:=h;exact⟨a,cap,e1,e2,e3,λi s hi=>by obtain⟨g,o,f1,f2⟩:=e4 i s hi;exact⟨g,o,f1,m.cell (a:=⟨g,o+i,none⟩) id f2⟩⟩
def gw(l:List Do)(v:Value)(w:World)(h:Kc w v l)(hb:l.length<=1048576/\∀s∈l,s.s.length<=1048576):Calls prog 13 #[v] w (λe W'=>e=.returned (.bool (decide (l.length+MG l<=8192)))/\DW DY w W'):=by
 obtain⟨a,cap,rfl,h1,h2,h3⟩:=id h;obtain⟨z,j⟩:=hb;obtain⟨L,A⟩:=nm l.length;have f:=zb A;rw[A]at h1 z ⊢;unfold maxLen at h2;have HS:=zb h;have HB:=zb j;obtain⟨B,i⟩:=nm (decide (L+MG l<=8192));rw[i];have m:=zb i;clear h h3 j i A;go_enter func13,ntmps13;go_wp2_with fail
 go_loopw [3,4] (λnv C wr=>∃(k n:Nat),k<=L/\nv=.int .i64 n/\C=.int .i64 k/\n<=8192+1048576+L/\AA (DW DY w wr/\decide (n+MG (l.drop k)<=8192)=B)) (λ_ C _=>L-(intOf C).toNat)
 case atStart=>exact⟨0,L,AM _,rfl,rfl,I,zb ⟨DW.refl _ _,m.z⟩⟩
 case round =>
  obtain⟨k,n,hk,rfl,rfl,hn,b⟩:=hrel;clear m;by_cases p:k<L
  .by_cases hn8:n<=8192
   .obtain⟨s,y⟩:∃s,l[k]?=some s:=⟨l[k]'(by rw[f.z];exact p),AK _⟩;obtain⟨D,c⟩:=b.z;obtain⟨a',c',q,_,_,F⟩:=HS.z.mod0 D;rw[f.z]at q;cases q;obtain⟨⟨g,o,rfl,hc⟩,-⟩:=F k s y;have c4:wr.cell? (g,o+k*5+4)=some (.string (zu s.s)):=hc 4 _ rfl;have E:=HB.z s (AV y);rw[gy y]at c;have r:=zJ s.s;obtain⟨sl,d⟩:=nm s.s.length;obtain⟨ss,t⟩:=nm s.s;rw[d]at E c r;rw[t]at c4 r;have u:=zb c;have x:=zb D;have x1:=wi ((n:Int)+(sl:Int)) I;have x2:=wi ((k:Int)+1) I;have d1:decide ((k:Int)<(L:Int))=true:=Ax I;have d2:decide ((n:Int)<=8192)=true:=Ax I;clear b c D F y hc d t;go_wp2_with fail;all_goals first|(exfalso;omega)|skip
    go_roundw
    case rel=>exact⟨k+1,n+sl,p,by congr 1,by congr 1,I,zb ⟨x.z,by rw[Nat.add_assoc];exact u.z⟩⟩
    simp[intOf];omega
   have d1:decide ((k:Int)<(L:Int))=true:=Ax I;have d2:decide ((n:Int)<=8192)=false:=Aw I;have u:AA (false=B):=by
    show _=_;rw[<-b.z.2];exact(Aw I).symm
   have x:=zb b.z.1;have c:=u.z;subst c;clear b;go_wp2_with fail;all_goals first|(exfalso;omega)|skip
   go_ret;exact⟨rfl,x.z⟩
  have e:k=L:=I;have d1:decide ((k:Int)<(L:Int))=false:=Aw I;have u:AA (decide (n<=8192)=B):=by
   show _=_;have a:=b.z.2;rw[e,<-f.z,CE]at a;exact a
  have x:=zb b.z.1;have c:=u.z;subst c;have q8:decide ((n:Int)<=8192)=decide (n<=8192):=decide_eq_decide.2 I;clear b e;go_wp2_with fail;all_goals first|(exfalso;omega)|skip
  all_goals
   go_ret;exact⟨by first|rfl|(rw[q8]),x.z⟩
def Xk(l:List Do)(wo:List Int)(B:Nat):Prop :=
 ∀s∈l,wo.contains s.kind=false->∀(w:World) (tag:nH) (nb:Nat) (n:NS) (M:NV) (W:World) (T:Nat),Dh w tag nb n M W->n.Inv T->T+401<=B->n.Up->Calls prog 21 #[(nb,0),.agg s.cells] W (E4 w tag nb W (n.step s))
def Ui(w:World)(r:Option NS)(e:Ending)(W':World):Prop :=
 match r with
 | none=>e=.returned (.tuple #[.pointer none,false])/\DW DY w W'
 | some n=>∃nb tag M,e=.returned (.tuple #[.pointer (some ⟨nb,0,none⟩),true])/\Dh w tag nb n M W'
def gu(a:List Int){l:List Do}{s:Do}(h:l[k]?=some s)(n:NS):NS.plays a (l.drop k) n=if a.contains s.kind then NS.plays a (l.drop (k+1)) n else if (n.step s).1 then NS.plays a (l.drop (k+1)) (n.step s).2 else none:=by
 rw[Mc h,NS.plays]
def lT{a:List Int}{x:Int}(h:a[k]?=some x)(b:Int):(a.take (k+1)).contains b=((a.take k).contains b||b==x):=by
 rw[BG,h];rw[Option.toList_some,List.contains_append];simp only[List.contains_cons,List.contains_nil,Bool.or_false]
variable{B:Nat}
def gq(l:List Do)(v:Value)(e:List Int)(wv:Value)(a b c:Int)(ha : -9223372036854775808<=a/\a<=9223372036854775807)(hb : -9223372036854775808<=b/\b<=9223372036854775807)(hc : -9223372036854775808<=c/\c<=9223372036854775807)(w:World)(E:EC 1 (λ_=>(0,0)) w)(h:Kc w v l)(hw:OZ w wv e)
  (an:e.length<=8) (hB:B<=Dg) (hT:401*l.length<=B) (KS:Xk l e B) :
  Calls prog 15 #[v,wv,[a],[b],[c]] w (Ui w (NS.plays e l (NS.build a b c))):=by
 obtain⟨va,cap,rfl,h1,h2,h3⟩:=id h;obtain⟨wa,av,rfl,w1,w2,w3⟩:=id hw;unfold maxLen at h2 w2;obtain⟨L,hL⟩:=nm l.length;obtain⟨T,J⟩:=nm e.length;have u:=zb hL;have p:=zb J;rw[hL]at h1 hT ⊢;rw[J]at w1 an ⊢;have HS:=zb h;have HW:=zb hw;have ao:=zb KS;have ap:401*L<=268435455:=AJ hT hB;have hLb:L<=669415:=I;have HT:=zb hT;have kb:=Vd a b c ha hb hc w E;have K:=zb (NS.Inv.build a b c);have N:=zb (NS.Up.build a b c);obtain⟨n0,X⟩:=nm (NS.build a b c);obtain⟨Y,y⟩:=nm (NS.plays e l (NS.build a b c));rw[y];rw[X]at kb K N y;have Z:=zb y;clear h hw h3 w3 hL J KS X y E hT ap;go_enter func15,ntmps15;go_upto_region 2 with(go_at_call 20;refine kb.mono ?_;rintro _ W2 ⟨nb,tag,M,rfl,aa⟩);have ab:=zb aa;clear kb aa;go_wp2_with fail
 go_loopw [13] (λkv wr=>∃(k:Nat) (n:NS),k<=L/\kv=.int .i64 k/\AA ((∃tag M,Dh w tag nb n M wr)/\n.Inv (401*k)/\n.Up/\NS.plays e (l.drop k) n=Y)) (λkv _=>L-(intOf kv).toNat)
 case atStart=>exact⟨0,n0,AM _,rfl,zb ⟨⟨tag,M,ab.z⟩,K.z,N.z,Z.z⟩⟩
 case round =>
  obtain⟨k,n,hk,rfl,HK⟩:=hrel;clear K N ab Z;have x2:=wi ((k:Int)+1) I;by_cases O:k<L
  .obtain⟨⟨tag,M,hN⟩,z,A,f⟩:=HK.z;obtain⟨s,hs⟩:∃s,l[k]?=some s:=⟨l[k]'(by rw[u.z];exact O),AK _⟩;rw[gu e hs]at f;have ac:=AV hs;have V:=zb hN;have r:=zb z;have C:=zb A;have HR:=zb f;have aq:=zb ac;have ad:=zb hs;obtain⟨kd,ae⟩:=nm s.kind;have D:=zb ae;have d1:decide ((k:Int)<(L:Int))=true:=Ax I;clear hN z A f hs ac HK ae;go_wp2_with fail
   go_loopw [14,15] (λov jv wq=>∃(j:Nat),j<=T/\ov=.bool ((e.take j).contains kd)/\jv=.int .i64 j/\AA (DW DY wr wq)) (λ_ jv _=>T-(intOf jv).toNat)
   case atStart=>exact⟨0,AM _,rfl,rfl,zb (DW.refl _ _)⟩
   case round =>
    obtain⟨j,hj,rfl,rfl,W⟩:=hrel;have x3:=wi ((j:Int)+1) I;by_cases ar:j<T
    .obtain⟨x,hx⟩:∃x,e[j]?=some x:=⟨e[j]'(by rw[p.z];exact ar),AK _⟩;obtain⟨a',c',i,_,_,t3⟩:=HS.z.mod0 (V.z.mod.trans W.z);rw[u.z]at i;cases i;obtain⟨⟨g,o,rfl,d⟩,-⟩:=t3 k s ad.z;have c0:wr.cell? (g,o+k*5)=some (.int .i64 s.kind):=d 0 _ rfl;rw[D.z]at c0;obtain⟨a',c',i,_,_,af⟩:=HW.z.mod0 (V.z.mod.trans W.z);rw[p.z]at i;cases i;obtain⟨g2,o2,rfl,hc2⟩:=af j x hx;have ht:=lT hx kd;have d2:decide ((j:Int)<(T:Int))=true:=Ax I;obtain⟨ob,m⟩:=nm ((e.take j).contains kd);rw[m]at ht ⊢;have ah:=zb ht;clear t3 af d m ht hx;go_wp2_with fail;cases ob
     .go_quiet (fail);go_wp2_with fail;go_roundw
      case rel=>exact⟨j+1,I,by rw[ah.z];rfl,by congr 1,zb (W.z.drewN _)⟩
      simp[intOf];omega
     go_quiet (fail);go_wp2_with fail;go_roundw
     case rel=>exact⟨j+1,I,by rw[ah.z];rfl,by congr 1,zb (W.z.drewN _)⟩
     simp[intOf];omega
    have ej:j=T:=I;have d2:decide ((j:Int)<(T:Int))=false:=Aw I;obtain⟨ob,m⟩:=nm (e.contains kd);have e1:(e.take j).contains kd=ob:=by rw[ej,<-p.z,List.take_length];exact m
    rw[e1];have aj:=zb m;have F:=zb (V.z.free W.z (λ_ x=>x.elim));clear e1 m W ej;cases ob
    .obtain⟨a',c',i,_,_,t3⟩:=HS.z.mod0 F.z.mod;rw[u.z]at i;cases i;obtain⟨⟨g,o,rfl,d⟩,-⟩:=t3 k s ad.z;have c0:wr.cell? (g,o+k*5)=some (.int .i64 s.kind):=d 0 _ rfl;have c1:wr.cell? (g,o+k*5+1)=some (.int .i64 s.side):=d 1 _ rfl;have c2:wr.cell? (g,o+k*5+2)=some (.int .i64 s.a):=d 2 _ rfl;have c3:wr.cell? (g,o+k*5+3)=some (.int .i64 s.b):=d 3 _ rfl;have c4:wr.cell? (g,o+k*5+4)=some (.string (zu s.s)):=d 4 _ rfl;have P:e.contains s.kind=false:=by rw[D.z];exact aj.z
     have Q:=AJ (I:401*k+401<=401*L) HT.z;have G:=ao.z s aq.z P w tag nb n M wr (401*k) F.z r.z Q C.z;have R:AA ((n.step s).2.Inv (401*(k+1))):=zb ((r.z.step s (AJ Q hB)).mono I);have H:=zb (λq=>NS.Up.step r.z C.z s (AJ Q hB) q);have S:=HR.z;rw[P,AI mv]at S;obtain⟨R1,ak⟩:=nm (n.step s);rw[ak]at G R H S;obtain⟨ok,n1⟩:=R1;simp only at R H S;have t:=zb S;unfold Do.cells at G;clear t3 d S ak HR F r C V D;obtain⟨ki,e0⟩:=nm s.kind;obtain⟨si,e1⟩:=nm s.side;obtain⟨ai,e2⟩:=nm s.a;obtain⟨bi,e3⟩:=nm s.b;obtain⟨ssi,e4⟩:=nm s.s;rw[e0]at c0 G;rw[e1]at c1 G;rw[e2]at c2 G;rw[e3]at c3 G;rw[e4]at c4 G;clear e0 e1 e2 e3 e4 P;go_upto_region 14 with(go_at_call 21;refine G.mono ?_;rintro _ W3 ⟨rfl,al,M3,h3,-,-⟩);have H3:=zb h3;clear G h3;cases ok
     .have S:none=Y:=t.z;subst S;go_wp2_with fail;go_ret2;exact⟨rfl,H3.z.mod⟩
     have am:AA (NS.plays e (l.drop (k+1)) n1=Y):=t.z;have au:AA n1.Up:=H.z rfl;clear t H;go_wp2_with fail;go_roundw
     case rel=>exact⟨k+1,n1,O,by congr 1,zb ⟨⟨al,M3,H3.z⟩,R.z,au.z,am.z⟩⟩
     simp[intOf];omega
    have t:AA (NS.plays e (l.drop (k+1)) n=Y):=by
     have a:=HR.z;rw[D.z,aj.z,AQ rfl]at a;exact a
    go_wp2_with fail;go_roundw
    case rel=>exact⟨k+1,n,O,by congr 1,zb ⟨⟨tag,M,F.z⟩,r.z.mono I,C.z,t.z⟩⟩
    simp[intOf];omega
  have ek:k=L:=I;obtain⟨⟨tag,M,hN⟩,z,A,f⟩:=HK.z;rw[ek,<-u.z,CE]at f;have f:some n=Y:=f;subst f;have V:=zb hN;have d1:decide ((k:Int)<(L:Int))=false:=Aw I;clear hN z A HK ek;go_wp2_with fail;go_ret2;exact⟨nb,tag,M,rfl,V.z⟩
def Xj(h:Dh w tag nb n M W)(hI:n.Inv T)(e:T+401<=Dg)(hU:n.Up){s:Do}(c:s.Ok)(h3:s.kind≠3)(h4:s.kind≠4):Calls prog 21 #[(nb,0),.agg s.cells] W (E4 w tag nb W (n.step s)):=by
 have a:=AJ (DU T 401) e;unfold NS.step;by_cases d:s.kind=1
 .rw[AQ d];exact VT h hI a c d
 rw[AI d];by_cases k2:s.kind=2
 .rw[AQ k2];exact Vw h hI a c k2
 rw[AI k2,AI h3,AI h4];by_cases k5:s.kind=5
 .rw[AQ k5];exact VS h hI a c k5 (λtag' M' W' hn=>VH hn hI.tick e c)
 rw[AI k5];by_cases k6:s.kind=6
 .rw[AQ k6];exact jo h hI a hU c k6
 rw[AI k6];by_cases b:s.kind=10
 .rw[AQ b];exact hO h hI a c b
 rw[AI b];exact jn h hI (AJ (Bv _) e) c ⟨d,k2,h3,h4,k5,k6,b⟩
def Px{k:Int}(a:([3,4]:List Int).contains k=false):k≠3/\k≠4:=by
 simp only[List.contains_cons,List.contains_nil,Bool.or_false,BU,AS]at a;exact a
def gp{s d:NS}{u:Nat}(q:Om n s d t u)(h:Dh w tag nb s M W)(p:u+t*fairC+12*fairC+1<=Dg):Calls prog 19 #[(nb,0)] W (λe W'=>e=.returned (.bool true)/\∃n',zB w tag nb W n' W'):=by
 have a:=AJ (Bv _) p;have kf:=Q1 h q.inv1 q.up1 (t:=12) a;rw[q.quiet]at kf;have m:=q.inv2;have r:=q.up2;have v:=m.flush a (I:0<2);have x:=NS.Up.flush a m r (I:0<2);have c:AA (∀tag M W,Dh w tag nb d M W->Calls prog 22 #[(nb,0),.int .i64 0] W (E4 w tag nb W (d.flush 0))):=zb λtag M W h=>PW h m a r (i:=0) I
 have b:AA (∀tag M W,Dh w tag nb (d.flush 0).2 M W->Calls prog 22 #[(nb,0),.int .i64 1] W (E4 w tag nb W ((d.flush 0).2.flush 1))):=zb λtag M W h=>PW h v p x (i:=1) I
 have f0:=q.f0;have f1:=q.f1;have bg:=q.bag;clear q h m r v x p a;obtain⟨R0,f⟩:=nm (d.flush 0);rw[f]at c b f0 f1 bg;obtain⟨r0,n3⟩:=R0;obtain⟨R1,g⟩:=nm (n3.flush 1);simp only at b f0 f1 bg;rw[g]at b f1 bg;obtain⟨r1,y⟩:=R1;simp only at f1 bg;subst f0 f1;clear f g;go_enter func19,ntmps19;go_upto_region 2 with(go_at_call 17;refine kf.mono ?_;rintro _ W1 ⟨rfl,t1,M1,h1,o1,m1⟩);have z:=c.z _ _ _ h1;have A:=zb o1;have B:=zb m1;clear kf h1 o1 m1 c;go_upto_region 5 with(go_at_call 22;refine z.mono ?_;rintro _ W2 ⟨rfl,t2,M2,h2,C,D⟩);have E:=b.z _ _ _ h2;have F:AA (∀n' W',zB w t2 nb W2 n' W'->zB w tag nb W n' W'):=zb λn' W' l=>zB.trans A.z B.z (zB.trans C D l)
 clear z h2 C D b A B;go_upto_region 6 with(go_at_call 22;refine E.mono ?_;rintro _ G ⟨rfl,t3,H,h3,J,K⟩);obtain⟨ba,bc,k,-⟩:=zk h3.o.bg.own;have p8:G.cell? (nb,8)=some H.bg:=h3.o.obj.cell (j:=8) rfl;rw[k,bg]at p8;have X3:=zb (F.z y G ⟨t3,H,h3,J,K⟩);clear E h3 J K F k;go_wp2_with fail;go_ret;exact⟨rfl,y,X3.z⟩
def jl(d:List Int)(l:List Do)(a b c:Int)(hl:l.length<=8192)(HS:Us d l):∃n' n1 n2,NS.plays d l (NS.build a b c)=some n'/\n'.Inv 3284992/\n'.Up/\Om n' n1 n2 n'.enough 3284992:=by
 have h1:=En a 337 I;have h2:=En b 300 I;obtain⟨n',e,s,i,k⟩:=Vo d l (T:=0) (B:=3284992) HS (NS.Safe.new ⟨I,I⟩) (NS.Inv.build a b c) (NS.Links.new I) I mu;obtain⟨n1,n2,q⟩:=jq s i k;exact⟨n',n1,n2,e,i,s.up,q⟩
structure SO(w:World)(nb:Nat)(n:NS)(e:Nat):Prop where
 enough:∀tag M W,Dh w tag nb n M W->Calls prog 16 #[(nb,0)] W (λx W'=>x=.returned (.int .i64 e)/\DW DY W W')
 fair:∀tag M W W',Dh w tag nb n M W->DW DY W W'->Calls prog 17 #[(nb,0),[e]] W' (λx W'=>x=.returned (.bool true)/\DW DY w W'/\Calls prog 18 #[.pointer nb] W' (λx W2=>x=.returned (.bool true)/\DW DY w W2/\Calls prog 19 #[.pointer nb] W2 (λx W3=>x=.returned (.bool true)/\DW DY w W3)))
def Xi{n1 n2:NS}(hI:n.Inv 3284992)(hU:n.Up)(q:Om n n1 n2 n.enough 3284992):SO w nb n n.enough:=by
 have b:3284992+n.enough*fairC+12*fairC+1<=Dg:=by
  have:=(Q9 hI).2.2;have:n.enough*fairC<=6206*fairC:=B8 _ this;unfold fairC Dg at *;omega
 have a:3284992+n.enough*fairC<=Dg:=AJ I b;refine⟨λtag M W h=>jp h hI,λtag M W W' h m=>?_⟩;have h':=h.free m (λg x=>x.elim);have kf:=Q1 h' hI hU a;rw[q.fair]at kf;refine kf.mono ?_;rintro _ W1 ⟨rfl,t1,M1,h1,_,_⟩;refine⟨rfl,h1.mod,(lJ h1 q.inv1 q.thr).mono ?_⟩;rintro _ W2 ⟨rfl,m2⟩;have h2:=h1.free m2 (λg x=>x.elim);refine⟨rfl,h2.mod,(gp q h2 b).mono ?_⟩;rintro _ W3 ⟨rfl,n',t3,M3,h3,_⟩;exact⟨rfl,h3.mod⟩
def klive_any(l:List Do)(v:Value)(a b c:Int)(ha : -9223372036854775808<=a/\a<=9223372036854775807)(hb : -9223372036854775808<=b/\b<=9223372036854775807)(hc : -9223372036854775808<=c/\c<=9223372036854775807)(w:World)(E:EC 1 (λ_=>(0,0)) w)(h:Kc w v l)(f:l.length<=1048576/\∀s∈l,s.s.length<=1048576):Calls prog 6 #[v,[a],[b],[c]] w (Iz w true):=by
 have j:=gw l v w h f;have d:=zb λW1 m=>gz W1 (E.mod0 m)
 by_cases e:l.length+MG l<=8192;rotate_left
 .have ds:=Aw e;rw[ds]at j;go_enter func6,ntmps6;go_upto_region 2 with(go_at_call 13;refine j.mono ?_;rintro _ W1 ⟨rfl,m1⟩);have r:=d.z W1 m1;have u:=zb m1;go_wp2_with (go_at_call 14;refine r.mono ?_;rintro _ W2 ⟨rfl,x⟩);go_ret;exact⟨rfl,u.z.trans x⟩
 have ds:=Ax e;rw[ds]at j;obtain⟨n',n1,n2,F,hI,y,q⟩:=jl [3,4] l a b c I (λs _ z T n a b c=>a.step34 b c s (Px z).1 (Px z).2);have k:AA (∀W1 g,DW DY w W1->W1.heap[g]?=some (.cells #[.int .i64 3,.int .i64 4] 3 (0,0))->Calls prog 15 #[v,.slice (some ⟨g,0,none⟩) 2 2,.int .i64 a,.int .i64 b,.int .i64 c] W1 (Ui W1 (some n'))):=zb λW1 g m hg=>by
  rw[<-F];refine gq l v [3,4] _ a b c ha hb hc W1 (E.mod0 m) (h.mod0 m) ⟨some ⟨g,0,none⟩,2,rfl,AF _,mz,λi s hi=>?_⟩ mu (B:=3284992) mu I (λs hs z w tag nb n M W T o hI hT y=>?_)
  .have hi2:i<2:=(AN.1 hi).1;refine⟨g,0,rfl,?_⟩;rcases(I:i=0\/i=1)with rfl|rfl
   .cases hi;exact za hg rfl
   cases hi;exact za hg rfl
  have p:=Px z;obtain⟨_,_,_,_,_,q⟩:=h;obtain⟨i,hi⟩:=Cw hs;exact Xj o hI (AJ hT mu) y (q i s hi).2 p.1 p.2
 have A:=zb fun(w:World) nb=>Xi (w:=w) (nb:=nb) hI y q
 obtain⟨t,G⟩:=nm n'.enough;rw[G]at A;clear F h f e ds hI y q G;go_enter func6,ntmps6;go_upto_region 2 with(go_at_call 13;refine j.mono ?_;rintro _ W1 ⟨rfl,m1⟩);have r:=d.z W1 m1;have u:=zb m1;clear j d m1;go_upto_region 5 with(go_at_call 14;refine r.mono ?_;rintro _ W2 ⟨rfl,x⟩);have C:=zb (u.z.trans x);clear r x u;have H:=k.z (W2.alloc (.cells #[.int .i64 3,.int .i64 4] 3)) W2.heap.size (C.z.alloc _) (heap_alloc_new W2 _);have M3:=zb (C.z.alloc (.cells #[.int .i64 3,.int .i64 4] 3));clear k C;go_upto_region 8 with(go_at_call 15;refine H.mono ?_;rintro _ J ⟨nb,tag,M,rfl,o⟩);have D:=A.z (W2.alloc (.cells #[.int .i64 3,.int .i64 4] 3)) nb;have ke:=D.enough tag M J o;have K:=zb λW' m=>D.fair tag M J W' o m
 clear H A D o;go_upto_region 9 with(go_at_call 16;refine ke.mono ?_;rintro _ W4 ⟨rfl,L⟩);have kf:=K.z W4 L;clear ke K L;go_upto_region 12 with(go_at_call 17;refine kf.mono ?_;rintro _ W5 ⟨rfl,m5,N⟩);clear kf m5;go_upto_region 13 with(go_at_call 18;refine N.mono ?_;rintro _ W6 ⟨rfl,m6,kq⟩);clear N m6;go_wp2_with (go_at_call 19;refine kq.mono ?_;rintro _ W7 ⟨rfl,m7⟩);go_ret;exact⟨rfl,M3.z.trans m7⟩
end
section
open Go.ChangeShapes Go.WideShapes Go.ChangeAt Go.RowKit Go.Deep
open Go.Proofs.Tryz
def Vl:prog.cellsOf 37=5:=mr
section
variable {H:Type} {enc:TypeId×Value->H} {W:World} {base:Nat} {spare:Nat->Bool} {held:Bool} {fuel:Nat} {cs:nJ} {x:DataW H×List MemPlace}
theorem fR(d:DataW H):1<=Rows.uptoBulk d:=by
 cases d with
 | lit l=>cases l<;>simp[Rows.uptoBulk]
 | nil=>simp[Rows.uptoBulk]
 | ptr d=>simp[Rows.uptoBulk]
 | slice elems spare=>simp[Rows.uptoBulk]
 | agg parts=>simp[Rows.uptoBulk]
 | iface t d=>simp[Rows.uptoBulk]
 | map entries=>simp[Rows.uptoBulk]
 | held h=>simp[Rows.uptoBulk]
def PN{c:Value}{t:TypeId}(ht:prog.underlying t=some (.int .i64))(h:DataW.trod enc prog W base spare held fuel t [c]=some x):∃n:Int,c=.int .i64 n /\ -9223372036854775808<=n/\n<=9223372036854775807:=by
 obtain⟨n,e,_,hw⟩:=DataW.trod_int ht h;cases e;have a:(decide ((-9223372036854775808:Int)<=n)&&decide (n<=9223372036854775807))=true:=hw;simp only[AZ,Ah]at a;exact⟨n,rfl,a.1,a.2⟩
variable{k:Nat}{v:Value}
def jk{a:Addr}(h:W.cell? ((a.add (0*k)).add 0)=some v):∃g o,a=⟨g,o,none⟩:=by
 obtain⟨b,off,c⟩:=a;have hs:c=none:=by simpa [Addr.add]using World.cell?_spot h
 subst hs;exact⟨b,off,rfl⟩
variable{base:Nat}
def Sr{a:Addr}{n:Nat}{cs:nJ}(h:W.cells? base a n=some cs):cs.length=n/\∀i,i<n->W.cell? (a.add i)=cs[i]?:=by
 obtain⟨_,h1,h2⟩:=World.cells?_some h;exact⟨h1,h2⟩
theorem ie(h:DataW.trod enc prog W base spare held fuel 37 cs=some x)(hb:Rows.uptoBulk x.1<=1048576):∃o:Do,cs=o.cells.toList/\o.Ok/\o.s.length<=Rows.uptoBulk x.1:=by
 obtain⟨xs,n,_,rfl,hl,g,hf⟩:=DataW.trod_struct underlying37 h;rw[Vl]at hl;have f:prog.cellsOf 3=1:=mr;have cS:prog.cellsOf 9=1:=mr
 match cs,hl,xs,g with
 | [c0,c1,c2,c3,c4],_,[x0,x1,x2,x3,x4],_ =>
  have f0:DataW.trod enc prog W base spare held n 3 [c0]=some x0:=by
   have q:DataW.trod enc prog W base spare held n 3 (([c0,c1,c2,c3,c4].drop 0).take (prog.cellsOf 3))=some x0:=hf 0 _ rfl;rw[f]at q;exact q
  have f1:DataW.trod enc prog W base spare held n 3 [c1]=some x1:=by
   have q:DataW.trod enc prog W base spare held n 3 (([c0,c1,c2,c3,c4].drop 1).take (prog.cellsOf 3))=some x1:=hf 1 _ rfl;rw[f]at q;exact q
  have f2:DataW.trod enc prog W base spare held n 3 [c2]=some x2:=by
   have q:DataW.trod enc prog W base spare held n 3 (([c0,c1,c2,c3,c4].drop 2).take (prog.cellsOf 3))=some x2:=hf 2 _ rfl;rw[f]at q;exact q
  have f3:DataW.trod enc prog W base spare held n 3 [c3]=some x3:=by
   have q:DataW.trod enc prog W base spare held n 3 (([c0,c1,c2,c3,c4].drop 3).take (prog.cellsOf 3))=some x3:=hf 3 _ rfl;rw[f]at q;exact q
  have f4:DataW.trod enc prog W base spare held n 9 [c4]=some x4:=by
   have q:DataW.trod enc prog W base spare held n 9 (([c0,c1,c2,c3,c4].drop 4).take (prog.cellsOf 9))=some x4:=hf 4 _ rfl;rw[cS]at q;exact q
  obtain⟨k,rfl,k1,k2⟩:=PN underlying3 f0;obtain⟨j,rfl,s1,s2⟩:=PN underlying3 f1;obtain⟨a,rfl,a1,a2⟩:=PN underlying3 f2;obtain⟨b,rfl,b1,b2⟩:=PN underlying3 f3;obtain⟨d,e4,i,_⟩:=DataW.trod_string underlying9 f4;cases e4;have c:x4=(.lit (.string d.data.toList),[]):=nF i;have e:d.data.toList.length<=Rows.uptoBulk (DataW.agg (([x0,x1,x2,x3,x4]:List (DataW H×List MemPlace)).map (·.1))):=by
   subst c;simp only[Bq,C4,Rows.uptoBulk,Rows.uptoBulkAll];omega
  have hb':Rows.uptoBulk (DataW.agg (([x0,x1,x2,x3,x4]:List (DataW H×List MemPlace)).map (·.1)))<=1048576:=hb;refine⟨⟨k,j,a,b,d.data.toList⟩,?_,⟨⟨k1,k2⟩,⟨s1,s2⟩,⟨a1,a2⟩,⟨b1,b2⟩,by show d.data.toList.length<=_;omega⟩,e⟩;have hd:zu d.data.toList=d:=by simp[zu]
  show _=[Value.int .i64 k,.int .i64 j,.int .i64 a,.int .i64 b,.string (zu d.data.toList)];rw[hd]
instance:Inhabited Do:=⟨⟨0,0,0,0,[]⟩⟩
theorem Td{x:DataW H}:∀{l:List (DataW H)},x∈l->Rows.uptoBulk x<=Rows.uptoBulkAll l
 | y::l,h=>by
  simp only[Rows.uptoBulkAll];rcases Av.1 h with rfl|h
  .omega
  have:=Td h;omega
theorem Vc:∀(l:List (DataW H)),l.length<=Rows.uptoBulkAll l
 | []=>AM _
 | x::l=>by
  have:=Vc l;have:=fR x;simp only[Rows.uptoBulkAll,AR];omega
def open_kscript(h:DataW.trod enc prog W base spare held fuel 26 cs=some x)(hb:Rows.uptoBulk x.1<=1048576):∃v l,cs=[v]/\Kc W v l/\l.length<=1048576/\∀s∈l,s.s.length<=1048576:=by
 rcases open_slice underlying26 h with⟨rfl,rfl⟩|⟨a,len,cap,m,n,D,Pl,rfl,hb2,hl,hm,f,rfl,hx⟩
 .exact⟨_,[],rfl,⟨none,0,rfl,AF _,AM _,λi fr hi=>by simp at hi⟩,AM _,λs k=>(by cases k)⟩
 have hle:len<=m:=by rw[f];split<;>omega
 have b:Rows.uptoBulkAll ((List.range len).map D)<=1048576:=by
  simp only[Rows.uptoBulk]at hb;omega
 have c:=Vc ((List.range len).map D);rw[BB,CO]at c;have key:∀i,i<len->∃o:Do,(∃g off,a=⟨g,off,none⟩/\∀(j:Nat) y,o.cells[j]?=some y->W.cell? ⟨g,off+i*5+j,none⟩=some y)/\o.Ok/\o.s.length<=1048576:=by
  intro i hi;obtain⟨cs',h1,h2⟩:=hx i I;obtain⟨c0',u,_⟩:=hx 0 I;rw[Vl]at h1 u;obtain⟨w,hc⟩:=Sr h1;obtain⟨p,q⟩:=Sr u;obtain⟨g,off,rfl⟩:∃g off,a=⟨g,off,none⟩:=by
   have h0:=q 0 I;rw[AK I]at h0;exact jk h0
  have d:=AJ (Td (BQ.2 ⟨i,Bn.2 hi,rfl⟩)) b;obtain⟨o,rfl,hw,r⟩:=ie h2 d;refine⟨o,⟨g,off,rfl,λj y z=>?_⟩,hw,AJ r d⟩;have hj:j<5:=(AH.1 z).1;have:=hc j hj;rw[zZ,zZ,Bl]at this;rw[this];exact z
 obtain⟨F,A⟩:=choose_lt (α := Do) key;refine⟨_,(List.range len).map F,rfl,⟨some a,cap,mv,nF hl,hm,λi o hi=>?_⟩,my,λs k=>?_⟩
 .have e:i<len:=by
   have:=(AN.1 hi).1;simpa using this
  have t:o=F i:=by
   simp[e]at hi;exact hi.symm
  subst t;obtain⟨⟨g,off,rfl,q1⟩,q2,_⟩:=A i e;exact⟨⟨g,off,rfl,q1⟩,q2⟩
 obtain⟨i,hi,rfl⟩:=BQ.1 k;exact(A i (Bn.1 hi)).2.2
end
end
end Go.Proofs.YtddfdpbaiedcjaaGreatDoor
