/- Streamed. Part 7 of 17. -/
import Derived.Test.YtddfdpbaiedcjabGreatDoorStr6
set_option maxRecDepth 100000
set_option maxHeartbeats 16000000
set_option linter.all false
namespace Go.Proofs.YtddfdpbaiedcjabGreatDoor
section
open Go.RowKit Go.Proofs.Tryz
structure DJ where
 b:qq
 fs:List DF
 room:Nat
 kX:Bool
 full:Bool
def DJ.add(d:DJ)(f:DF):Option DJ :=
 if d.room<(d.b++zC f).length+4 then none else some { d with b:=d.b++zC f,fs:=d.fs++[f],kX:=d.kX||f.kind != 2 }
structure EZ(tag:qr)(i db:Nat)(d:DJ)(bv fv:rU)(l:List (DF×rU))(W:rT):Prop where
 obj:W.heap[db]?=some (.cells #[bv,fv,[d.room],d.kX,d.full] 162 (0,0))
 tb:tag db=(i,90)
 ob:OB W bv d.b
 mU:∀g,bv.ownBlock=some g->tag g=(i,91)
 own:W.ownsRow 0 48 10 fv l.length (E0 l)
 lf:l.map (·.1)=d.fs
 rr:∀x∈l,RR W x.2 x.1.kC/\∀g,Value.kr x.2=some g->tag g=(i,5)
 nD:∀g,fv.ownBlock=some g->tag g=(i,92)
structure Is(i:Nat)(tag tag':qr)(W W':rT):Prop where
 lH:∀g,g<W.heap.size->tag' g=tag g
 new:∀g,W.heap.size<=g->(∃r,90<=r/\tag' g=(i,r))\/tag' g=(0,0)
 z:zL tag' W'
def I2(i:Nat)(tag:qr)(g:Nat):Prop:=∃r,90<=r/\tag g=(i,r)
variable{V:CV}{W W':rT}{b i:Nat}{c:CS}{tag tag':qr}
def zn.nj(h:zn tag i b c V W)(a:zL tag W)(hi:0<i)(m:C9 (I2 i tag) W W')(e:∀g,g<W.heap.size->tag' g=tag g):zn tag' i b c V W':=by
 refine h.build (R:=λr=>90<=r) m (λg n=>n) (λg n=>e g<|Ds a (i:=i) (r:=(tag g).2) (by rw[<-n]) hi) (m.obj (λ⟨r,hr,hx⟩=>?_) h.obj) rL (λk a=>.inl rK) (λk a=>.inl rK) (λk a=>.inl rK) (λk a=>.inl rK) (λk a=>.inl rK) rL rJ rJ rJ;rw[h.tb]at hx;simp at hx;omega
def Iv(tag:qr)(i g:Nat)(W:rT)(d:DJ)(f:DF)(e:Ending)(W':rT):Prop :=
 e=.returned (.bool (d.add f).isSome)/\∃tag' a e h,EZ tag' i g ((d.add f).getD d) a e h W'/\Is i tag tag' W W'/\C9 (I2 i tag) W W'
variable{W1 W2:rT}{bv fv v':rU}{d:DJ}{db:Nat}{f:DF}
def V8{l:List (DF×rU)}(h:EZ tag i db d bv fv l W)(u:zL tag W)(hi:0<i)(m1:C9 DA W W1)(q:DX W1 bv d.b (zC f) v' W2)(m:d.add f=none):Iv tag i db W d f (.returned (.bool false)) W2:=by
 have n:=((m1.mono rQ).then ((C9.refl (λg=>bv.ownBlock=some g) W1).grown q.grown<|λg a=>.inl a)<|λg a=>.inl a);have e:∀{g r:Nat},tag g=(i,r)->g<W.heap.size:=λa=>Ds u a hi
 refine⟨by rw[m];rfl,zT tag W W2 (i,91),bv,fv,l,?_,⟨λg a=>zx a,λg a=>?_,λg a=>?_⟩,n.mono<|λg a=>.inl ⟨91,lc,h.mU g a⟩⟩
 .rw[m];show EZ _ i db d bv fv l W2;exact⟨n.obj (λx=>zn.apart h.tb (h.mU _ x) lc rfl) h.obj,by rw[zx (e h.tb),h.tb],q.lH,λg a=>by rw[zx (e<|h.mU g a),h.mU g a],n.owns h.own<|λg a x=>zn.apart (h.nD g a) (h.mU g x) lc rfl,h.lf,
   λx m=>⟨(h.rr x m).1.mod n<|GB λg a y=>zn.apart ((h.rr x m).2 g a) (h.mU g y) lc rfl,λg a=>by rw[zx (e<|(h.rr x m).2 g a),(h.rr x m).2 g a]⟩,λg a=>by rw[zx (e<|h.nD g a),h.nD g a]⟩
 .by_cases q:g<W2.heap.size
  .exact .inl ⟨91,lc,FH a q⟩
  exact .inr<|by simp only[zT,(I:¬g<W.heap.size),q,AH,Ae]
 have:=n.size;simp only[zT,(I:¬g<W.heap.size),(I:¬g<W2.heap.size),AH,Ae]
variable{d':DJ}{rv:rU}
def YV{l:List (DF×rU)}{y B z:rT}{C:rU}(h:EZ tag i db d bv fv l W)(N:zL tag W)(hi:0<i)(m1:C9 DA W W1)(D:DX W1 bv d.b (zC f) v' W2)(hd:d.add f=some d')
  (Y:RR W rv f.kC) (E:∀g,Value.kr rv=some g->tag g=(i,5)) (R:C9 (λg=>g=db) W2 y) (u:B.ownsRow 0 48 10 C (l.length+1) (E0<|l++[(f,rv)])) (K:y.grownBy B fv.ownBlock) (G:Dh y fv C) (M:C9 (λg=>g=db) B z)
  (Z:z.heap[db]?=some (.cells #[v',C,[d.room],d'.kX,d.full] 162 (0,0))) (X:y.heap.size=W2.heap.size) (aa:z.heap.size=B.heap.size) :
  Iv tag i db W d f (.returned<|.bool true) z:=by
 have e:∀{g r:Nat},tag g=(i,r)->g<W.heap.size:=λa=>Ds N a hi
 have X:=(C9.refl (λg=>bv.ownBlock=some g) W1).grown D.grown<|λg a=>.inl a;have m2:=(m1.mono rQ).then X<|λg a=>.inl a;have N:=(C9.refl (λg=>fv.ownBlock=some g) y).grown K<|λg a=>.inl a;have m:C9 (λg=>g=db\/bv.ownBlock=some g\/fv.ownBlock=some g) W z:=(((m2.mono<|λg a=>.inl<|.inr<|.inl a).then R<|λg a=>.inl<|.inl a).then N<|λg a=>.inl<|.inr<|.inr a).then M<|λg a=>.inl<|.inl a;have O:C9 (λg=>g=db\/fv.ownBlock=some g) W2 z:=((R.mono<|λg a=>.inl<|.inl a).then N<|λg a=>.inl<|.inr a).then M<|λg a=>.inl<|.inl a;have y:=m1.size;have y:=X.size;have y:=N.size;have A:d'={ d with b:=d.b++zC f,fs:=d.fs++[f],kX:=d.kX||f.kind != 2 }:=by
  unfold DJ.add at hd;split at hd
  .cases hd
  exact(Bc hd).symm
 have K:=λx n=>(h.rr x n).1.mod m (GB λg a y=>by
  rcases y with y|y|y
  .exact zn.apart ((h.rr x n).2 g a) (y ▸ h.tb) lc rfl
  .exact zn.apart ((h.rr x n).2 g a) (h.mU g y) lc rfl
  exact zn.apart ((h.rr x n).2 g a) (h.nD g y) lc rfl)
 have L:=Y.mod m (GB λg a y=>by
  rcases y with y|y|y
  .exact zn.apart (E g a) (y ▸ h.tb) lc rfl
  .exact zn.apart (E g a) (h.mU g y) lc rfl
  exact zn.apart (E g a) (h.nD g y) lc rfl)
 refine⟨by rw[hd];rfl,λg=>if g<W.heap.size then tag g else if g<W2.heap.size then(i,91)else if g<B.heap.size then(i,92)else(0,0),v',C,l++[(f,rv)],?_,⟨λg a=>AL a,λg a=>?_,λg a=>?_⟩,m.mono<|λg a=>.inl ?_⟩
 .rw[hd];show EZ _ i db d' v' C _ z;refine⟨by rw[Z,A],by rw[AL (e h.tb),h.tb],?_,λg a=>?_,?_,by rw[A,A9,h.lf];rfl,λx n=>?_,λg a=>?_⟩
  .rw[A];refine O.owns D.own<|λg a y=>?_;rcases D.at_ g a with q|q
   .rcases y with y|y
    .exact zn.apart (h.mU g q) (y ▸ h.tb) lc rfl
    exact zn.apart (h.mU g q) (h.nD g y) lc rfl
   rcases y with y|y
   .have:=e h.tb;omega
   have:=e<|h.nD g y;omega
  .rcases D.at_ g a with q|q
   .rw[AL (e<|h.mU g q),h.mU g q]
   have:=zI D.own g a;simp only[(I:¬g<W.heap.size),AH,Ae,AL this]
  .rw[AF];refine M.owns u<|λg a y=>?_;have y:=y;rcases G g a with q|q
   .exact zn.apart (h.nD g q) (y ▸ h.tb) lc rfl
   have:=e h.tb;omega
  .rw[Ap]at n;rcases n with n|n
   .exact⟨K x n,λg a=>by rw[AL (e<|(h.rr x n).2 g a),(h.rr x n).2 g a]⟩
   rw[As]at n;subst n;exact⟨L,λg a=>by rw[AL (e<|E g a),E g a]⟩
  rcases G g a with q|q
  .rw[AL (e<|h.nD g q),h.nD g q]
  have:=zI u g a;simp only[(I:¬g<W.heap.size),(I:¬g<W2.heap.size),AH,Ae,AL this]
 .simp only[(I:¬g<W.heap.size),AH,Ae];split
  .exact .inl ⟨91,lc,rfl⟩
  split
  .exact .inl ⟨92,lc,rfl⟩
  exact .inr rfl
 .simp only[(I:¬g<W.heap.size),(I:¬g<W2.heap.size),(I:¬g<B.heap.size),AH,Ae]
 rcases a with a|a|a
 .exact⟨90,lc,by rw[a,h.tb]⟩
 .exact⟨91,lc,h.mU g a⟩
 exact⟨92,lc,h.nD g a⟩
def OE{l:List (DF×rU)}(h:EZ tag i db d bv fv l W)(D:zL tag W)(hi:0<i)(f:DF)(M:qs)(X rc:Nat)(hs:zH f=true)(L:RR W (.slice M X rc) f.kC)(N:∀g,Value.kr (.slice M X rc)=some g->tag g=(i,5))
  (E:f.kC.length<=1099511627776) (G:f.data.length<=35184372088832) (aq:d.b.length<=35184372088832) (a:(zC f).length<=35184372088832) (ar:l.length<=1099511627776) :
  rH 113 #[(db,0),.agg (ze f<|.slice M X rc)] W (Iv tag i db W d f):=by
 obtain⟨y,e⟩:=nm<|Value.slice M X rc;rw[e]at L N ⊢;obtain⟨W0,a⟩:=nm<|W.alloc<|.cells (ze f y) 48;have Z:=AB a;have o0:zp W0 W.heap.size f y:=by rw[<-a];exact heap_alloc_new W _
 have A:=Z.drew;have oD:=Z.obj rP h.obj;have aC:=Ds D h.tb hi;have ka:=QX bv d.b f y W0.drew (A.owns h.ob<|λ_ _ x=>x) (λ_=>GB λg m x=>zn.apart (N g m) (h.mU g x) lc rfl) (L.mod A<|DN.no _) E G aq;rw[hs]at ka;have q:¬bv.ownBlock=some db:=λx=>zn.apart h.tb (h.mU _ x) lc rfl
 have u:¬bv.ownBlock=some W.heap.size:=λx=>qm<|Ds D (h.mU _ x) hi
 have ac:¬fv.ownBlock=some db:=λx=>zn.apart h.tb (h.nD _ x) lc rfl
 have ad:¬fv.ownBlock=some W.heap.size:=λx=>qm<|Ds D (h.nD _ x) hi
 obtain⟨ba,bc,E,G,aE,_⟩:=zi h.ob;obtain⟨fa,fc,G,aF,aG,_⟩:=zi h.own;have O:=zb h;have HK:=zb D;have HR:=zb L;have HT:=zb N;have KA:=zb ka;have M0:=zb Z;have B:=zb oD;have C:=zb o0;have au:=zb a;have ae:¬W.heap.size=db:=I;have aD:¬db=W.heap.size:=I;clear h D L N ka Z oD o0 a A hs;obtain⟨dw,a⟩:=nm d.kX;have af:=zb a;have av:=zb E;have h:=zb G;have aw:=zb e;clear a E G e;go_enter func113,ntmps113;go_wp2_with fail;rw[au.z];refine zr 7 (λw'=>zp w' W.heap.size f y/\w'.heap[db]?=some (.cells #[bv,fv,[d.room],d.kX,d.full] 162 (0,0))) (⟨C.z,B.z⟩) ?_;refine GI 0 ?_;iterate 5
  refine GS rfl ?_ ?_ ?_;rotate_left
  ·(intro wx n;obtain⟨R,hd⟩:=n;obtain⟨y0,y1,y2,y3,y4,y5,y6,y7,y8,y9⟩:=R.cells;have d0:=za (o:=0) hd rfl;have d1:=za (o:=1) hd rfl;go_simp;try with_reducible rfl)
  try simp only[PS]
 refine zD 5 rfl (λK z=>?_);go_simp;refine KA.z.mono ?_;rintro e W2 (⟨_,Y,rfl,hA⟩|⟨hx,_⟩);rotate_left
 .cases hx
 have e:=(C9.refl (λg=>bv.ownBlock=some g) W0.drew).grown hA.grown<|λg m=>.inl m;have a:zp W2 W.heap.size f y/\W2.heap[db]?=some (.cells #[bv,fv,[d.room],d.kX,d.full] 162 (0,0)):=⟨e.obj u C.z,e.obj q B.z⟩;refine z.z _ _ a ?_;clear z K;try simp only[PS]
 refine GI 6 ?_;refine GS rfl ?_ ?_ ?_;rotate_left
 ·(intro wx n;obtain⟨R,hd⟩:=n;obtain⟨y0,y1,y2,y3,y4,y5,y6,y7,y8,y9⟩:=R.cells;have d0:=za (o:=0) hd rfl;have d1:=za (o:=1) hd rfl;go_simp;try with_reducible rfl)
 try simp only[PS]
 refine zt ?_;obtain⟨A,D,h,E,G,_⟩:=zi hA.own;have HA:=zb hA;have D:=zb e;have A:=zb a;have L:W2 (db,2)=some (.int .i64 d.room):=za a.2 rfl;obtain⟨N,Z⟩:=nm<|(d.b++zC f).length;rw[Z]at h E;have E:N<=70368744177664:=by rw[<-Z,AF];omega
 unfold maxLen at G;have ag:=zb h;clear hA e a A;rw[ag.z];by_cases e:d.room<N+4
 .have a:d.add f=none:=by unfold DJ.add;rw[Z,AL e]
  have H:=zb<|V8 O.z HK.z hi M0.z.drew HA.z a;have A:(d.room:Int)<(N:Int)+4:=I;clear Z e a h;go_wp2;go_ret;exact H.z
 have A:¬(d.room:Int)<(N:Int)+4:=I;obtain⟨h,a⟩:∃h,d.add f=some h:=by unfold DJ.add;rw[Z,AH e];exact⟨_,rfl⟩
 have ah:h.kX=(d.kX||f.kind != 2):=by
  unfold DJ.add at a;rw[Z,AH e]at a;rw[<-Option.some.inj a]
 have HW:=zb ah;have ai:=zb a;have E:=D.z.obj q B.z;have aj:=D.z.obj u C.z;have ax:W2 db=some bv:=za E rfl;have h:∀j,W2.frozen? ⟨db,j,none⟩=false:=λj=>zd E
 obtain⟨u,A⟩:=nm<|W2.setCell db Y;have m3:C9 (λg=>g=db) W2 u:=by rw[<-A];exact(C9.refl (λg=>g=db) _).setCell (p:=db) rO _
 have ak:u.heap.size=W2.heap.size:=by rw[<-A];simp
 have G:u.heap[db]?=some (.cells #[Y,fv,[d.room],d.kX,d.full] 162 (0,0)):=by rw[<-A];exact zc E
 have L:zp u W.heap.size f y:=m3.obj ae aj;have al:=(M0.z.drew.mono rQ).then D.z<|λg m=>.inl m;have am:=m3.owns (al.owns O.z.own<|λg m x=>zn.apart (O.z.nD g m) (O.z.mU g x) lc rfl)<|λg m x=>zn.apart (O.z.nD g m) (x ▸ O.z.tb) lc rfl;obtain⟨v5,N,aa,h,q,an⟩:=P7 u.drew fv l f M X rc am ar;rw[aw.z]at aa h;obtain⟨B,C,ao,_⟩:=zi h;have B:u.grownBy N fv.ownBlock:=⟨q.os,q.tape,q.output,q.size,q.block⟩;have M:Dh u fv v5:=an;have m5:=(C9.refl (λg=>fv.ownBlock=some g) u).grown B<|λg m=>.inl m;have C:=m5.obj ac G;have ab:=m5.obj ad L;have m:∀j,N.frozen? ⟨db,j,none⟩=false:=λj=>zd C
 have m:N (db,1)=some fv:=za C rfl;obtain⟨m,D⟩:=nm<|N.setCell (U db 1) v5;have m6:C9 (λg=>g=db) N m:=by rw[<-D];exact(C9.refl (λg=>g=db) _).setCell (p:=U db 1) rO _
 have g:m.heap[db]?=some (.cells #[Y,v5,[d.room],d.kX,d.full] 162 (0,0)):=by rw[<-D];exact zc C
 have ap:zp m W.heap.size f y:=m6.obj ae ab;have X:m (db,3)=some (.bool dw):=by rw[<-af.z];exact za g rfl
 have X:=ap.cells.1;have X:∀j,m.frozen? ⟨db,j,none⟩=false:=λj=>zd g
 have H:∀x,m.setCell (db,3) (.bool x)=m.setCell (db,3) (.bool x)->x=(dw||f.kind != 2)->Iv tag i db W d f (.returned<|.bool true) (m.setCell (db,3)<|.bool x):=λx _ hx=>by
  refine YV O.z HK.z hi M0.z.drew HA.z ai.z HR.z HT.z m3 h B M (m6.setCell (p:=U db 3) rO _) ?_ ak (by rw[<-D];simp);rw[zc g,HW.z,af.z,<-hx];rfl
 have HH:=zb H;have O:AA (zp u.drew W.heap.size f y/\u.drew.heap[db]?=some (.cells #[Y,fv,[d.room],d.kX,d.full] 162 (0,0))):=⟨L,G⟩;have ay:AA (∀X,C9 DA u X->zp X W.heap.size f y/\X.heap[db]?=some (.cells #[Y,fv,[d.room],d.kX,d.full] 162 (0,0))):=λX m=>⟨m.obj rP L,m.obj rP G⟩
 have X:AA (zp N W.heap.size f y/\N.heap[db]?=some (.cells #[Y,fv,[d.room],d.kX,d.full] 162 (0,0))):=⟨ab,C⟩;have aA:=zb A;have aB:=zb D;have m:=zb ao;have N:=zb aa;clear H Z e a ah E aj A m3 ak G L al am aa h q B an M m5 C ab D m6 g ap ao;have a:=av.z;rw[a]at ax;go_wp2_with fail;rw[<-ag.z,aA.z];refine zr 10 (λw'=>zp w' W.heap.size f y/\w'.heap[db]?=some (.cells #[Y,fv,[d.room],d.kX,d.full] 162 (0,0))) (O.z) ?_;refine GI 0 ?_;iterate 6
  refine GS rfl ?_ ?_ ?_;rotate_left
  ·(intro wx n;obtain⟨R,hd⟩:=n;obtain⟨y0,y1,y2,y3,y4,y5,y6,y7,y8,y9⟩:=R.cells;have d0:=za (o:=0) hd rfl;have d1:=za (o:=1) hd rfl;go_simp;try with_reducible rfl)
  try simp only[PS]
 refine zD 6 rfl (λK z=>?_);go_simp;refine z.z _ _ (ay.z _<|(C9.refl DA u).drew.alloc _) ?_;clear z K;try simp only[PS]
 refine zD 7 rfl (λK z=>?_);refine zO rfl _ _ _ _ rfl _ _ _ rfl rfl N.z ?_;refine z.z _ _ X.z ?_;clear z K;try simp only[PS]
 refine GI 8 ?_;iterate 2
  refine GS rfl ?_ ?_ ?_;rotate_left
  ·(intro wx n;obtain⟨R,hd⟩:=n;obtain⟨y0,y1,y2,y3,y4,y5,y6,y7,y8,y9⟩:=R.cells;have d0:=za (o:=0) hd rfl;have d1:=za (o:=1) hd rfl;go_simp;try with_reducible rfl)
  try simp only[PS]
 rw[m.z];refine Dt rfl (λK z=>?_);go_simp;refine z.z _ _ ?_;clear z K;try simp only[PS]
 refine zt ?_;rw[<-m.z,aB.z];clear N;cases dw
 .have a:=zb<|HH.z (f.kind != 2) trivial nl;go_wp2;go_ret;exact a.z
 have a:=zb<|HH.z true trivial nl;go_wp2;go_ret;exact a.z
def Da(i:Nat)(tag:qr)(g:Nat):Prop:=(tag g).1=i/\(tag g).2≠5
variable{g r:Nat}
def EM(h:tag g=(i,r))(a:r≠5):Da i tag g:=⟨by rw[h],by rw[h];exact a⟩
def C9.pF(m:C9 (Da i tag) W W'):C9 (λg=>(tag g).1=i) W W':=m.mono (λ_ h=>.inl h.1)
def GK(tag:qr)(i b g:Nat)(W:rT)(c':CS)(h:DJ)(r:Bool)(e:Ending)(W':rT):Prop :=
 e=.returned (.bool r)/\∃tag' V' a e m,zn tag' i b c' V' W'/\EZ tag' i g h a e m W'/\DK i tag tag' W W'/\C9 (Da i tag) W W'
def Is.ext(h:Is i tag tag' W W'):DK i tag tag' W W' :=
 ⟨h.lH,λg a=>by
  rcases h.new g a with⟨r,_,e⟩|e
  .exact .inl (by rw[e])
  exact .inr e,h.z⟩
def L5(m:C9 (I2 i tag) W W'):C9 (Da i tag) W W':=m.mono (λg ⟨r,hr,e⟩=>.inl (EM e I))
variable{S:Nat->Prop}
def EZ.pG{l:List (DF×rU)}(h:EZ tag i db d bv fv l W)(m:C9 S W W')(u:∀g,S g->∃r,r<90/\r≠5/\tag g=(i,r))(e:∀g,(tag g).1=i->tag' g=tag g):EZ tag' i db d bv fv l W':=by
 have q:∀{g r:Nat},tag g=(i,r)->(90<=r\/r=5)->¬S g:=λa n x=>by
  obtain⟨y,z,A,n⟩:=u _ x;rw[a]at n;simp at n;omega
 have t:∀{g r:Nat},tag g=(i,r)->tag' g=(i,r):=λa=>(e _<|by rw[a]).trans a
 exact⟨m.obj (q h.tb<|.inl lc) h.obj,t h.tb,m.owns h.ob<|λg a=>q (h.mU g a)<|.inl lc,λg a=>t<|h.mU g a,m.owns h.own<|λg a=>q (h.nD g a)<|.inl lc,h.lf,
  λx e=>⟨(h.rr x e).1.mod m<|GB λg a=>q ((h.rr x e).2 g a)<|.inr rfl,λg a=>t<|(h.rr x e).2 g a⟩,λg a=>t<|h.nD g a⟩
def cW{e:Ending}(h:zn tag i b c V W)(y:zL tag W)(hi:0<i)(hd:Iv tag i db W d f e W')(a:d.add f=none):GK tag i b db W c d false e W':=by
 obtain⟨rfl,tag',g,m,z,n,q,u⟩:=hd;rw[a]at n ⊢;exact⟨rfl,tag',V,g,m,z,h.nj y hi u q.lH,n,q.ext,L5 u⟩
def CS.kU(c:CS)(d:DJ):Option (CS×DJ) :=
 match c.waits with
 | []=>none
 | f::l=>(d.add f).map λa=>({ c with waits:=l },a)
structure DF.Fits(f:DF):Prop where
 sound:zH f=true
 rn:f.kC=[]
 data:f.data.length<=1048576
 len:(zC f).length<=1073741824
variable{v:rU}
def jH{l:List DF}(h:EI W 48 10 v (f::l).length (zs (f::l))):∃g o a,v=.slice (some ⟨g,o*10,none⟩) (l.length+1) a/\l.length+1<=a/\a<=maxLen/\(∀j x,(ze f rV)[j]?=some x->W ⟨g,o*10+j,none⟩=some x)/\EI W 48 10 (.slice (some ⟨g,(o+1)*10,none⟩) l.length (a-1)) l.length (zs l)/\(a-1=0->EI W 48 10 (.slice (some ⟨g,o*10,none⟩) l.length 0) l.length (zs l)):=by
 rcases h.2 with⟨_,e⟩|⟨g,o,a,m,rfl,q,y,B,z,A⟩
 .simp at e
 have n:(zs l).length=l.length*10:=by
  have:=h.1;simp only[zs,CQ,AF,Aa]at this ⊢;have e:(ze f rV).toList.length=10:=rfl;omega
 have h:zs (f::l)=(ze f rV).toList++zs l:=rfl;have e:l.length+1<=a:=qp y;refine⟨g,o,a,rfl,y,B,λj x e=>?_,⟨n,.inr ⟨g,o+1,a-1,m,rfl,q,I,I,?_,?_⟩⟩,λn=>?_⟩
 .have n:j<10:=(AJ.1 e).1;refine za q ?_;have:((m.toList.drop<|o*10).take<|(f::l).length*10)[j]?=some x:=by
   rw[A,h,Ag<|by exact n,Ba];exact e
  rw[B2]at this;split at this
  .rw[BM]at this;simpa using this
  cases this
 .rw[(I:o+1+(a-1)=o+a)];exact z
 .have a:(m.toList.drop<|o*10).take ((l.length+1)*10)=(ze f rV).toList++zs l:=A;have:((m.toList.drop<|o*10).take<|(l.length+1)*10).drop 10=zs l:=by
   rw[a];exact List.drop_left' rfl
  rw[<-this,Ci,CK];congr 1
  .omega
  congr 1;omega
 have u:l=[]:=Aj I;subst u;exact⟨rfl,.inr ⟨g,o,0,m,rfl,q,AI _,AK _,AR (B7 10 I) z,by simp[zs]⟩⟩
theorem jy{l:List (DF×rU)}(h:zn tag i b c V W)(L:EZ tag i db d bv fv l W)(E:Dn i tag W)(O:∀f∈c.waits,f.Fits)(a:d.b.length<=1073741824)(m:l.length<=1073741824):rH 117 #[(b,0),(db,0)] W (GK tag i b db W ((c.kU d).getD (c,d)).1 ((c.kU d).getD (c,d)).2 (c.kU d).isSome):=by
 have c5:W (b,238)=some V.wt:=h.tl (j:=5) rfl;cases hwt:c.waits with
 | nil =>
  have y:c.kU d=none:=by unfold CS.kU;rw[hwt]
  rw[y];have D:V.wt=.slice none 0 0\/∃a m,V.wt=.slice (some a) 0 m:=by
   have:=h.wt;rw[hwt]at this;rcases this.2 with⟨e,_⟩|⟨g,o,m,q,e,_⟩
   .exact .inl e
   exact .inr ⟨_,m,e⟩
  have H:AA (GK tag i b db W c d false (.returned<|.bool false) W):=⟨rfl,tag,V,bv,fv,l,h,L,DK.same E.ok<|C9.refl DA _,C9.refl _ _⟩;clear h L E O hwt y;rcases D with e|⟨a,m,e⟩;all_goals
   rw[e]at c5;clear e;go_enter func117,ntmps117;go_wp2;go_ret;exact H.z
 | cons f ws =>
  have G:=O f (by rw[hwt];exact BB);have A:=h.wt;rw[hwt]at A;obtain⟨g,o,m,D,n1,n2,a,q,m⟩:=jH A;have M:=h.nE g (by rw[D];rfl);have X:=OE L E.ok E.pos f none 0 0 G.sound (by rw[G.rn];exact⟨none,0,rfl,AI _,AK _,λi hi=>absurd hi<|Al i⟩) (λg hg=>by simp[Value.kr]at hg) (by rw[G.rn];simp) (qm G.data) I (qm G.len) I;have y0:W ⟨g,o*10,none⟩=some (.int .i64 f.kind):=a 0 _ rfl;have y1:=a 1 _ rfl;have y2:=a 2 _ rfl;have y3:=a 3 _ rfl;have y4:=a 4 _ rfl;have y5:=a 5 _ rfl;have y6:=a 6 _ rfl;have y7:=a 7 _ rfl;have y8:=a 8 _ rfl;have y9:=a 9 _ rfl;rw[D]at c5;unfold maxLen at n2;have Y:=zb h;have HD:=zb L;have K:=zb E;have N:=zb hwt;have HV:=zb D;have B:=zb M;have HR:=zb q;have Z:=zb m;clear h L E O hwt D a G A M q m;unfold ze at X;have KA:=zb X;clear X;cases hadd:d.add f with
  | none =>
   have y:c.kU d=none:=by unfold CS.kU;rw[N.z];simp[hadd]
   rw[y];have n:=zb hadd;clear y hadd;go_enter func117,ntmps117;go_wp2_with (go_at_call 113;refine KA.z.mono ?_;intro e W1 hd;have H:=zb<|cW Y.z K.z.ok K.z.pos hd n.z;obtain⟨rfl,_⟩:=hd;simp only[n.z,Option.isSome_none]at H ⊢);go_ret;exact H.z
  | some d' =>
   have y:c.kU d=some ({ c with waits:=ws },d'):=by unfold CS.kU;rw[N.z];simp[hadd]
   rw[y];have n:=zb hadd;clear y hadd;go_enter func117,ntmps117;go_wp2_with fail;refine KA.z.mono ?_;rintro e W1 ⟨rfl,tag',aa,ab,l',C,u,z⟩;rw[n.z]at C ⊢;have a:=Y.z.nj K.z.ok K.z.pos z u.lH;have e:W1 (b,238)=some V.wt:=a.tl (j:=5) rfl;have h:=a.fz 238;have h:tag' g=(i,6):=by rw[u.lH g (Ds K.z.ok B.z K.z.pos),B.z]
   rw[HV.z]at e;have E:AA (∀m,EI W 48 10 m ws.length (zs ws)->(∀q,Value.kr m=some q->q=g)->GK tag i b db W { c with waits:=ws } d' true (.returned<|.bool true) (W1.setCell (U b 238) m)):=by
    intro m D g;have n:C9 (λq=>q=b) W1 (W1.setCell (U b 238) m):=(C9.refl (λq=>q=b) _).setCell (p:=U b 238) rO _;refine⟨rfl,tag',{ V with wt:=m },aa,ab,l',?_,?_,⟨u.ext.lH,u.ext.new,u.z.mod n⟩,?_⟩
    .refine a.build (R:=λr=>r=1\/r=6) n (λq e=>⟨1,.inl rfl,by rw[e,a.tb]⟩) (λ_ _=>rfl) ?_ rL (λk A=>.inl rK) (λk A=>.inl rK) (λk A=>.inl rK) (λk A=>.inl rK) (λk A=>.inl rK) rL (.inr ⟨?_,λq e=>?_⟩) rJ rJ
     .rw[zc a.obj,Ab];rw[show(238:Nat)=233+5 from rfl,Fv c { c with waits:=ws } V { V with wt:=m } _ rfl rfl rfl rfl]
     .refine(D.mod z<|λq e ⟨r,y,hx⟩=>?_).mod n (λq e x=>?_)
      .rw[g q e,B.z]at hx;simp at hx;omega
      have x:=x;rw[g q e]at x;exact zn.apart h (x ▸ a.tb) lc rfl
     rw[g q e,h]
    .exact C.pG n (λq e=>⟨1,lc,lc,by rw[e,a.tb]⟩) (λ_ _=>rfl)
    exact(L5 z).then n (λq e=>.inl (by
     have e:=e;exact EM (by rw[e,Y.z.tb]) lc))
   clear C u z a h y0 y1 y2 y3 y4 y5 y6 y7 y8 y9;go_wp2_with fail;all_goals go_ret
   .exact E.z _ (Z.z I) (λq e=>by simpa [Value.kr]using e.symm)
   have:=HR.z;rw[(I:(o+1)*10=o*10+10)]at this;exact E.z _ this<|λq e=>by simpa [Value.kr]using e.symm
def zG:Nat:=4611686018427387903
def Ef(k n:Nat):DF:=⟨6,(k:Int),0,0,n,false,0,0,[],[]⟩
def FD(n:Nat):DF:=⟨5,0,0,0,n,false,0,0,[],[]⟩
def FJ(k a kD:Nat):DF:=⟨3,(k:Int),a,kD,0,false,0,0,[],[]⟩
def FB(c:CS)(d:DJ):Nat->Nat->Nat->Option (CS×DJ)×Nat
 | 0,_,t=>(none,t)
 | n+1,k,t =>
  if (decide ((c.rs k).kE<max (c.rs k).kE ((c.rs k).used+c.kT))||(c.rs k).ky)&&(c.rs k).lu then
   match d.add (Ef k<|max (c.rs k).kE<|(c.rs k).used+c.kT)with
   | some d'=>(some ({ c with rs:=zh c.rs k { c.rs k with kE:=max (c.rs k).kE<|(c.rs k).used+c.kT,ky:=false } },d'),min (t+(c.rs k).used) zG)
   | none=>FB c d n (k+1)<|min (t+(c.rs k).used) zG
  else FB c d n (k+1) (min (t+(c.rs k).used) zG)
def Ew(c:CS)(d:DJ):Nat->Nat->Option (CS×DJ)
 | 0,_=>none
 | n+1,k =>
  if (c k).cut && !(c k).kQ then
   match d.add (FJ k (c k).final (c k).kD)with
   | some d'=>some ({ c with ws:=zh c.ws k { c.ws k with kQ:=true } },d')
   | none=>Ew c d n<|k+1
  else Ew c d n (k+1)
def LV(c:CS)(d:DJ)(t:Nat):Option (CS×DJ) :=
 if decide (c.kE<max t c.kE)||c.ky then
  match d.add (FD<|max t c.kE)with
  | some d'=>some ({ c with kE:=max t c.kE,ky:=false },d')
  | none=>Ew c d 8 0
 else Ew c d 8 0
def CS.control(c:CS)(d:DJ):Option (CS×DJ) :=
 match (FB c d 8 0 c.total).1 with
 | some x=>some x
 | none=>LV c d (FB c d 8 0 c.total).2
def KK(f:DF)(a:f.kC=[]):(zC f).length<=64+f.data.length:=by
 have e:=zK f.stream.toNat;have e:=zK f.off;have e:=zK f.rel;have e:=zK f.lF;have e:=zK f.id;have e:=zK f.dl;have e:=zK f.data.length;unfold zC IG IF ID IK IE Fy;split
 .simp;omega
 split
 .unfold Fa;rw[a];have a:=zK<|DB [] 0;have a:=zK<|([]:zE).length-1;have e:=zK<|DB [] 0-DE [] 0;simp only[AF,Aa,Aw];have:(Di []<|0-1).length=0:=rfl;simp only[Aw]at a;omega
 split
 .simp only[AF,Aa,Aw];omega
 split
 .split
  .simp only[AF,Aa,Aw];omega
  simp only[AF,Aa,Aw];omega
 split
 .simp only[AF,Aa,Aw];omega
 split
 .simp only[AF,Aa,Aw];omega
 split
 .simp only[AF,Aa,Aw];omega
 simp only[AF,Aa,Aw];omega
variable{k n:Nat}
def N3(e:k<8)(a:n<=zG):(Ef k n).Fits:=by
 refine⟨?_,rfl,by simp[Ef],AR (KK _ rfl)<|by simp[Ef]⟩;unfold zG at a;simp[zH,D8,nums,D6,zP,Ef]
 and_intros<;>first|omega|exact Ah I
def Po(a:n<=zG):(FD n).Fits:=by
 refine⟨?_,rfl,by simp[FD],AR (KK _ rfl)<|by simp[FD]⟩;simp[zH,D8,nums,D6,zP,FD];unfold zG at a;omega
def Pn{a kD:Nat}(h:k<8)(e:a<=zG)(g:kD<=a):(FJ k a kD).Fits:=by
 refine⟨?_,rfl,by simp[FJ],AR (KK _ rfl)<|by simp[FJ]⟩;unfold zG at e;simp[zH,D8,nums,D6,zP,FJ]
 and_intros<;>first|omega|exact Ah I
def Lz{l:List (DF×rU)}(h:EZ tag i db d bv fv l W)(e:zL tag W)(hi:0<i)(f:DF)(a:f.Fits)(g:d.b.length<=1073741824)(m:d.fs.length<=1073741824):rH 113 #[(db,0),.agg (ze f rV)] W (Iv tag i db W d f):=by
 have g:l.length=d.fs.length:=by rw[<-h.lf,Az]
 exact OE h e hi f none 0 0 a.sound (by rw[a.rn];exact⟨none,0,rfl,AI _,AK _,λi hi=>absurd hi<|Al i⟩) (λg e=>by simp[Value.kr]at e) (by rw[a.rn];simp) (qm a.data) I (qm a.len) I
structure zW(tag:qr)(i b db:Nat)(W:rT)(c:CS)(d:DJ)(tag':qr)(V':CV)(mS mV:rU)(l':List (DF×rU))(W':rT):Prop where
 c:zn tag' i b c V' W'
 d:EZ tag' i db d mS mV l' W'
 e:DK i tag tag' W W'
 m:C9 (Da i tag) W W'
 p:0<i
variable{V':CV}{mS mV:rU}{l':List (DF×rU)}
def zW.ok(h:zW tag i b db W c d tag' V' mS mV l' W'):zL tag' W':=h.e.z
def zW.post(h:zW tag i b db W c d tag' V' mS mV l' W')(r:Bool):GK tag i b db W c d r (.returned (.bool r)) W':=⟨rfl,tag',V',mS,mV,l',h.c,h.d,h.e,h.m⟩
variable{W'':rT}
def Ek(e:DK i tag tag' W W')(m:C9 (Da i tag) W W')(a:C9 (Da i tag') W' W''):C9 (Da i tag) W W'':=by
 refine m.then a<|λg a=>?_;by_cases q:g<W.heap.size
 .exact .inl (by unfold Da at a ⊢;rw[e.lH g q]at a;exact a)
 exact .inr I
def zW.add{e:Ending}(h:zW tag i b db W c d tag' V' mS mV l' W')(hd:Iv tag' i db W' d f e W''):e=.returned (.bool (d.add f).isSome)/\∃a g m n,zW tag i b db W c ((d.add f).getD d) a V' g m n W'':=by
 obtain⟨rfl,a,g,m,n,y,q,u⟩:=hd;exact⟨rfl,a,g,m,n,h.c.nj h.e.z h.p u q.lH,y,h.e.trans q.ext h.m.size,Ek h.e h.m<|L5 u,h.p⟩
variable{c':CS}
def zW.store(h:zW tag i b db W c d tag' V' mS mV l' W')(j:Nat)(v:rU)(e:(zA c V').set j v=zA c' V')(s:Ib c c'):zW tag i b db W c' d tag' V' mS mV l' (W'.setCell (b,j) v):=by
 have a:C9 (λq=>q=b) W' (W'.setCell (b,j) v):=(C9.refl (λq=>q=b) _).setCell (p:=(b,j)) rO _;exact⟨h.c.store j v e s,h.d.pG a (λq e=>⟨1,lc,lc,by rw[e,h.c.tb]⟩)<|λ_ _=>rfl,⟨h.e.lH,h.e.new,h.e.z.mod a⟩,Ek h.e h.m<|a.mono<|λq e=>.inl<|EM (r:=1) (by rw[show q=b from e];exact h.c.tb) lc,h.p⟩
def zW.kI(h:zW tag i b db W c d tag' V' mS mV l' W')(m:C9 DA W' W''):zW tag i b db W c d tag' V' mS mV l' W'' :=
 ⟨h.c.kI m,h.d.pG m rQ<|λ_ _=>rfl,⟨h.e.lH,h.e.new,h.e.z.mod m⟩,h.m.trans<|m.mono rQ,h.p⟩
def Lq{α : Type}(f:Nat -> α)(k:Nat)(x y : α):zh (zh f k x) k y=zh f k y:=by
 funext j;by_cases h:j=k
 .rw[h,zf,zf]
 rw[zl _ _ h,zl _ _ h,zl _ _ h]
def Kn(c:CS)(k:Nat)(x:RS)(e:x.b=(c.rs k).b)(g:x.kG.rs=(c.rs k).kG.rs):Ib c { c with rs:=zh c.rs k x } :=
 ⟨rfl,λ_ _=>⟨rfl,rfl,rfl⟩,λq _=>by
  by_cases a:q=k
  .subst a;simp only[zf];exact⟨e,g⟩
  simp[zl _ _ a],rfl,rfl,rfl,rfl⟩
def zW.lZ(h:zW tag i b db W c d tag' V' mS mV l' W')(e:k<8)(j:Nat)(g:j<13)(v:rU)(x:RS)(m:GH x (V'.rb k) (V'.rc k)=(GH (c.rs k) (V'.rb k) (V'.rc k)).set j v)(n:x.b=(c.rs k).b)(u:x.kG.rs=(c.rs k).kG.rs):zW tag i b db W { c with rs:=zh c.rs k x } d tag' V' mS mV l' (W'.setCell (b,129+13*k+j) v):=by
 refine h.store _ _ (KX _ _ _ _ _ e g (λq _=>?_) rfl rfl rfl)<|Kn c k x n u;by_cases a:q=k
 .subst a;simp only[zf,Aq];exact m
 simp only[zl _ _ a,AH a]
def zW.granted(h:zW tag i b db W c d tag' V' mS mV l' W')(a:k<8)(m:Nat):zW tag i b db W { c with rs:=zh c.rs k { c.rs k with kE:=m,ky:=false } } d tag' V' mS mV l' ((W'.setCell (b,129+13*k+11) (.int .u64 m)).setCell (b,129+13*k+12) (.bool false)):=by
 have g:=h.lZ a 11 lc (.int .u64 m) { c.rs k with kE:=m } rfl rfl rfl;have e:=g.lZ a 12 lc (.bool false) { c.rs k with kE:=m,ky:=false } (by simp only[zf];rfl) (by simp only[zf]) (by simp only[zf]);simp only[Lq]at e;exact e
def zW.nk(h:zW tag i b db W c d tag' V' mS mV l' W')(m:Nat):zW tag i b db W { c with kE:=m,ky:=false } d tag' V' mS mV l' ((W'.setCell (b,234) (.int .u64 m)).setCell (b,235) (.bool false)):=by
 have a:zW tag i b db W { c with kE:=m } d tag' V' mS mV l' (W'.setCell (U b 234)<|.int .u64 m):=h.store (233+1) _ (Fv c { c with kE:=m } V' V' _ rfl rfl rfl rfl) ⟨rfl,λ_ _=>⟨rfl,rfl,rfl⟩,λ_ _=>⟨rfl,rfl⟩,rfl,rfl,rfl,rfl⟩;exact a.store (233+2) _ (Fv { c with kE:=m } { c with kE:=m,ky:=false } V' V' _ rfl rfl rfl rfl) ⟨rfl,λ_ _=>⟨rfl,rfl,rfl⟩,λ_ _=>⟨rfl,rfl⟩,rfl,rfl,rfl,rfl⟩
def EY(p:Nat->Bool)(n:Nat):Nat:=(List.range n).findIdx p
variable{m:Nat}
def UY{p:Nat->Bool}(h:zU n p m)(e:∀i j,i<=j->j<n->p i=true->p j=true):EY p n=m:=by
 obtain⟨y,g,q⟩:=h;unfold EY;by_cases u:m=n
 .subst u;have:∀x∈List.range m,p x=false:=λx a=>by
   have a:x<m:=qp a;cases hq:p x
   .rfl
   have:=e x (m-1) I I hq;rw[g I]at this;cases this
  rw[List.findIdx_eq_length.2 (λx a=>by rw[this x a])];simp
 refine(List.findIdx_eq<|by rw[Bp];omega).2 ⟨by rw[List.getElem_range];exact q I,λj a=>?_⟩;simp only[List.getElem_range];cases hq:p j
 .rfl
 have:=e j (m-1) I I hq;rw[g I]at this;cases this
def DO.add(s:DO)(lo hi:Nat):DO :=
 if hi<max lo s.fl then s else
 if s.most<(Dd s.rs (max lo s.fl) hi (EY (Dk s.rs<|max lo s.fl) s.rs.length)<|EY (Dl s.rs hi) s.rs.length).length then
  ⟨(Dd s.rs (max lo s.fl) hi (EY (Dk s.rs<|max lo s.fl) s.rs.length)<|EY (Dl s.rs hi) s.rs.length).drop 1,DB (Dd s.rs (max lo s.fl) hi (EY (Dk s.rs<|max lo s.fl) s.rs.length)<|EY (Dl s.rs hi) s.rs.length) 0+1,s.most⟩
 else⟨Dd s.rs (max lo s.fl) hi (EY (Dk s.rs<|max lo s.fl) s.rs.length)<|EY (Dl s.rs hi) s.rs.length,s.fl,s.most⟩
variable{rs:zE}
def cV(e:WF rs):∀i j,i<=j->j<rs.length->Dk rs m i=true->Dk rs m j=true:=by
 intro i j a g h;have m:=(IB e a g).2;simp only[Dk,Br,AW]at h ⊢;omega
def jG(e:WF rs):∀i j,i<=j->j<rs.length->Dl rs m i=true->Dl rs m j=true:=by
 intro i j a g h;have m:=(IB e a g).1;simp only[Dl,AV,AW]at h ⊢;omega
def PB(s:DO)(b o lo hi:Nat)(v:rU)(w:rT)(e:Ending)(w':rT):Prop :=
 ∃a,e=.returned (.tuple #[])/\w'.ownsRow 0 110 2 a (s.add lo hi).rs.length (zw (s.add lo hi).rs)/\w'.heap[b]?=((w.setCell (b,o) a).setCell (b,o+1)<|.int .u64 ((s.add lo hi).fl:Int)).heap[b]? /\
  C9 (λk=>k=b\/v.ownBlock=some k) w w'/\Dh w v a
def Jw(s:DO)(b o lo hi:Nat)(v:rU)(w:rT)(h:Ed w b o v s.rs s.fl s.most)(a:WF s.rs)(E:lo<18446744073709551616)(y:hi<18446744073709551616)(G:s.fl<18446744073709551616)
  (K:v.ownBlock≠some b) (n:1<=s.most) (g:s.most<=9223372036854775807) :
  rH 38 #[(b,o),lo,hi] w (PB s b o lo hi v w):=by
 have Y:=zI h.own;by_cases z:max lo s.fl<=hi
 .refine(LG s.rs s.fl s.most b o lo hi v w h a E y G Y K z n g<|λZ m2 L M=>Mm a z y L M).mono ?_;rintro e w' ⟨Z,m2,v',N,O,L,M,q,rfl,A,u,B,R⟩;have D:=UY L<|cV a;have g:=UY M<|jG a;have C:s.add lo hi=⟨N,O,s.most⟩:=by
   unfold DO.add;rw[AH I,D,g];split at q
   .rename_i X;rw[AL X];cases q;rfl
   rename_i X;rw[AH X];cases q;rfl
  refine⟨v',rfl,?_,?_,B,R⟩
  .rw[C];exact A
  rw[C];exact u
 have C:s.add lo hi=s:=by
  unfold DO.add;rw[AL I]
 refine(VU s.rs s.fl s.most b o lo hi v w h Y I).mono ?_;rintro e w' ⟨rfl,m⟩;have hb:=zo h.cl;refine⟨v,rfl,?_,?_,m.mono rQ,λg a=>.inl a⟩
 .rw[C];exact m.owns h.own<|λ_ _ x=>x
 rw[C,m.block b hb rP];have D:=M9 h.cl;have c2:=(World.cell?_of_block D).trans h.cf;rw[M9 c2,D]
def Do(k lo:Nat)(fin:Bool)(s:qq):DF:=⟨4,(k:Int),lo,0,0,fin,0,0,s,[]⟩
def CS.nt(c:CS)(k:Nat):Nat:=min (min (c k).b.length (c k).kF) ((c k).high+c.kF-min c.kF c.me)
def CS.lU(c:CS)(k:Nat):Nat:=if (c k).cut then min (c.nt k) (c k).kD else c.nt k
def OC(c:CS)(k:Nat):c.lU k<=c.nt k:=by
 unfold CS.lU;split
 .exact Bq _ _
 exact AI _
def WS.fin(x:WS):Bool:=x.finished && !x.cut
def CS.lA(c:CS)(d:DJ)(k lo hi:Nat)(fin:Bool):Bool×CS×DJ :=
 match d.add (Do k lo fin<|((c k).b.drop lo).take<|hi-lo)with
 | none=>(false,c,{ d with full:=true })
 | some d'=>(true,{ c with ws:=zh c.ws k { c.ws k with kH:=if lo<hi then(c k).kH.add lo (hi-1)else(c k).kH,ending:=(c k).ending||fin,high:=max (c k).high hi } },d')
def CS.nZ(c:CS)(d:DJ)(k lo hi:Nat)(fin:Bool):Option DJ->Bool×CS×DJ
 | none=>(false,c,{ d with full:=true })
 | some d'=>(true,{ c with ws:=zh c.ws k { c.ws k with kH:=if lo<hi then(c k).kH.add lo (hi-1)else(c k).kH,ending:=(c k).ending||fin,high:=max (c k).high hi } },d')
def jF(c:CS)(d:DJ)(k lo hi:Nat)(fin:Bool):c.lA d k lo hi fin=c.nZ d k lo hi fin (d.add (Do k lo fin (((c k).b.drop lo).take (hi-lo)))):=by
 unfold CS.lA;cases d.add (Do k lo fin<|((c k).b.drop lo).take<|hi-lo)<;>rfl
def I5(c:CS)(d:DJ)(k lo hi:Nat):Int :=
 (d.room:Int)-4-d.b.length-(((zC<|Do k lo false<|((c k).b.drop lo).take<|hi-lo).length:Int)-((hi:Int)-lo))
def CS.lI(c:CS)(d:DJ)(k lo hi:Nat):Bool×CS×DJ :=
 if I5 c d k lo hi<(hi:Int)-lo then
  if I5 c d k lo hi<1 then(false,c,{ d with full:=true })
  else c.lA d k lo (lo+(I5 c d k lo hi).toNat) false
 else c.lA d k lo hi ((c k).fin&&hi==(c k).b.length)
def CS.bytes(c:CS)(d:DJ)(k:Nat):Bool×CS×DJ :=
 if c.waits≠[]\/d.full=true then(false,c,d)else
 if (DP (c k).kH.rs 0<|c.lU k).2<=(DP (c k).kH.rs 0<|c.lU k).1 then
  if (!(c k).fin||(c k).ending)||decide (c.lU k<(c k).b.length)then(false,c,d)
  else c.lI d k (c k).b.length (c k).b.length
 else c.lI d k (DP (c k).kH.rs 0<|c.lU k).1 (DP (c k).kH.rs 0<|c.lU k).2
def EZ.qL{l:List (DF×rU)}(h:EZ tag i db d bv fv l W)(m:C9 S W W')(e:∀g,S g->(tag g).1≠i):EZ tag i db d bv fv l W':=by
 have q:∀{g r:Nat},tag g=(i,r)->¬S g:=λa x=>e _ x<|by rw[a]
 exact⟨m.obj (q h.tb) h.obj,h.tb,m.owns h.ob<|λg a=>q<|h.mU g a,h.mU,m.owns h.own<|λg a=>q<|h.nD g a,h.lf,λx e=>⟨(h.rr x e).1.mod m<|GB λg a=>q<|(h.rr x e).2 g a,(h.rr x e).2⟩,h.nD⟩
def zW.free(h:zW tag i b db W c d tag' V' mS mV l' W')(m:C9 S W' W'')(e:∀g,S g->tag' g=(0,0)/\W.heap.size<=g):zW tag i b db W c d tag' V' mS mV l' W'':=by
 have a:=h.p;have q:∀g,S g->(tag' g).1≠i:=λg a=>by rw[(e g a).1];simp;omega
 exact⟨h.c.mod m q<|λ_ _=>rfl,h.d.qL m q,⟨h.e.lH,h.e.new,h.e.z.mod m⟩,h.m.then m<|λg a=>.inr (e g a).2,h.p⟩
def zW.ny(h:zW tag i b db W c d tag' V' mS mV l' W'):zW tag i b db W c { d with full:=true } tag' V' mS mV l' (W'.setCell (db,4) (.bool true)):=by
 have m:C9 (λg=>g=db) W' (W'.setCell (U db 4)<|.bool true):=(C9.refl (λg=>g=db) _).setCell (p:=U db 4) rO _;have n:C9 (I2 i tag') W' (W'.setCell (db,4)<|.bool true):=m.mono (λg a=>.inl ⟨90,lc,by rw[a,h.d.tb]⟩);refine⟨h.c.nj h.e.z h.p n<|λ_ _=>rfl,⟨?_,h.d.tb,m.owns h.d.ob<|λg a x=>?_,h.d.mU,m.owns h.d.own<|λg a x=>?_,h.d.lf,λx e=>⟨(h.d.rr x e).1.mod m<|GB λg a y=>?_,(h.d.rr x e).2⟩,h.d.nD⟩,⟨h.e.lH,h.e.new,h.e.z.mod m⟩,Ek h.e h.m<|L5 n,h.p⟩
 .rw[zc h.d.obj];rfl
 .exact zn.apart (h.d.mU g a) (x ▸ h.d.tb) lc rfl
 .exact zn.apart (h.d.nD g a) (x ▸ h.d.tb) lc rfl
 exact zn.apart ((h.d.rr x e).2 g a) (y ▸ h.d.tb) lc rfl
def Km(c:CS)(k:Nat)(x:WS)(e:x.b=(c k).b)(g:x.kH.rs=(c k).kH.rs)(h:x.kG.rs=(c k).kG.rs):Ib c { c with ws:=zh c.ws k x } :=
 ⟨rfl,λq _=>by
  by_cases a:q=k
  .subst a;simp only[zf];exact⟨e,g,h⟩
  simp[zl _ _ a],λ_ _=>⟨rfl,rfl⟩,rfl,rfl,rfl,rfl⟩
def zW.mN(h:zW tag i b db W c d tag' V' mS mV l' W')(e:k<8)(j:Nat)(g:j<15)(v:rU)(x:WS)(m:Fl x (V'.wb k) (V' k) (V'.wc k)=(Fl (c k) (V'.wb k) (V' k) (V'.wc k)).set j v)(n:x.b=(c k).b)(u:x.kH.rs=(c k).kH.rs)(y:x.kG.rs=(c k).kG.rs):zW tag i b db W { c with ws:=zh c.ws k x } d tag' V' mS mV l' (W'.setCell (b,9+15*k+j) v):=by
 refine h.store _ _ (Gn _ _ _ _ _ e g (λq _=>?_) rfl rfl rfl)<|Km c k x n u y;by_cases a:q=k
 .subst a;simp only[zf,Aq];exact m
 simp only[zl _ _ a,AH a]
def zW.oJ(h:zW tag i b db W c d tag' V' mS mV l' W')(a:k<8)(e:Bool)(m:Nat):zW tag i b db W { c with ws:=zh c.ws k { c.ws k with ending:=e,high:=m } } d tag' V' mS mV l' ((W'.setCell (b,9+15*k+9) (.bool e)).setCell (b,9+15*k+7) (.int .u64 m)):=by
 have n:=h.mN a 9 lc (.bool e) { c.ws k with ending:=e } rfl rfl rfl rfl;have g:=n.mN a 7 lc (.int .u64 m) { c.ws k with ending:=e,high:=m } (by simp only[zf];rfl) (by simp only[zf]) (by simp only[zf]) (by simp only[zf]);simp only[Lq]at g;exact g
variable{hi lo:Nat}
def zW.pB{e:Ending}(h:zW tag i b db W c d tag' V' mS mV l' W')(A:k<8)(K:PB (c k).kH b (9+15*k+1) lo hi (V' k) W' e W'')(L:((c k).kH.add lo hi).most=(c k).kH.most):e=.returned (.tuple #[])/\∃B M,zW tag i b db W { c with ws:=zh c.ws k { c.ws k with kH:=(c k).kH.add lo hi } } d B M mS mV l' W'':=by
 obtain⟨C,rfl,u,y,n,E⟩:=K;have B:=h.p;have D:∀{g r:Nat},tag' g=(i,r)->g<W'.heap.size:=λm=>Ds h.e.z m B
 have z:∀g,(tag' g).1=i->zT tag' W' W'' (i,20+k) g=tag' g:=λg m=>zx<|D (r:=(tag' g).2)<|by rw[<-m]
 have G:∀g,(g=b\/(V' k).ownBlock=some g)->∃r,(r=1\/r=20+k)/\tag' g=(i,r):=λg m=>by
  rcases m with m|m
  .exact⟨1,.inl rfl,by rw[m,h.c.tb]⟩
  exact⟨20+k,.inr rfl,h.c.nC k A g m⟩
 refine⟨rfl,zT tag' W' W'' (i,20+k),{ V' with ws:=zh V'.ws k C },?_,?_,h.e.trans (Gf n.size) h.m.size,Ek h.e h.m<|n.mono<|λg m=>.inl ?_,B⟩
 .refine h.c.build (R:=λr=>r=1\/r=20+k) n G z ?_ rL (λq B=>.inl ⟨?_,rfl,I⟩) (λq B=>?_) (λq B=>.inl ⟨?_,rfl,I⟩) (λq B=>.inl rK) (λq B=>.inl rK) rL rJ rJ rJ
  .rw[y,zc (zc h.c.obj)];simp only[Ab];have N:=Gn c c V' { V' with ws:=zh V'.ws k C } (k:=k) (j:=1) C A lc (λq _=>by
    by_cases a:q=k
    .subst a;simp only[zf,Aq];rfl
    simp only[zl _ _ a,AH a]) rfl rfl rfl
   rw[N];have O:=Gn c { c with ws:=zh c.ws k { c.ws k with kH:=(c k).kH.add lo hi } } { V' with ws:=zh V'.ws k C } { V' with ws:=zh V'.ws k C } (k:=k) (j:=2) (.int .u64 (((c k).kH.add lo hi).fl:Int)) A lc (λq _=>by
    by_cases a:q=k
    .subst a;simp only[zf,Aq,Fl,L];rfl
    simp only[zl _ _ a,AH a]) rfl rfl rfl
   rw[show 9+15*k+1+1=9+15*k+2 from rfl,O]
  .by_cases a:q=k
   .subst a;simp only[zf]
   simp only[zl _ _ a]
  .by_cases a:q=k
   .subst a;simp only[zf];refine .inr ⟨u,λg m=>?_⟩;rcases E g m with y|y
    .rw[zx (D<|h.c.nC q A g y),h.c.nC q A g y]
    exact FH y<|zI u g m
   exact .inl ⟨by simp only[zl _ _ a],by simp only[zl _ _ a],I⟩
  by_cases a:q=k
  .subst a;simp only[zf]
  simp only[zl _ _ a]
 .exact h.d.pG n (λg m=>by
   obtain⟨r,a,e⟩:=G g m;exact⟨r,I,I,e⟩) z
 obtain⟨r,a,e⟩:=G g m;exact EM e I
def Hl(s:DO)(lo hi:Nat):(s.add lo hi).most=s.most:=by
 unfold DO.add;split
 .rfl
 split<;>rfl
def QP{fin:Bool}{s:qq}(g:k<8)(e:s.length<=1048576)(a:lo+s.length<=zG):(Do k lo fin s).Fits:=by
 have hb:=KK (Do k lo fin s) rfl;have hd:(Do k lo fin s).data.length=s.length:=rfl;refine⟨?_,rfl,by rw[hd];exact e,by rw[hd]at hb;omega⟩;unfold zG at a;simp[zH,D8,nums,D6,zP,Do]
 and_intros<;>first|omega|exact Ah I
def zW.pK{e:Ending}(h:zW tag i b db W c d tag' V' mS mV l' W')(hd:Iv tag' i db W' d f e W''):e=.returned (.bool (d.add f).isSome)/\∃a m n q,zW tag i b db W c ((d.add f).getD d) a V' m n q W''/\(∀g,g<W'.heap.size->a g=tag' g)/\C9 (I2 i tag') W' W'':=by
 obtain⟨rfl,a,m,n,q,z,u,y⟩:=hd;exact⟨rfl,a,m,n,q,⟨h.c.nj h.e.z h.p y u.lH,z,h.e.trans u.ext h.m.size,Ek h.e h.m<|L5 y,h.p⟩,u.lH,y⟩
structure Ja(c:CS):Prop where
 ln:c.kT<=4096
 lr:c.total<=4096
 kE:c.kE<=zG
 used:∀k,k<8->(c.rs k).used<=zG/\(c.rs k).kE<=zG
 lu:∀k,k<8->(c.rs k).lu=true->(c.rs k).used+c.kT<=zG
 cut:∀k,k<8->(c k).kD<=(c k).final/\(c k).final<=zG
def zW.kQ(h:zW tag i b db W c d tag' V' mS mV l' W')(e:k<8):zW tag i b db W { c with ws:=zh c.ws k { c.ws k with kQ:=true } } d tag' V' mS mV l' (W'.setCell (b,9+15*k+13) (.bool true)):=by
 refine h.store _ _ (Gn _ _ _ _ _ e lc (λq _=>?_) rfl rfl rfl) ⟨rfl,λq _=>?_,λ_ _=>⟨rfl,rfl⟩,rfl,rfl,rfl,rfl⟩
 .by_cases a:q=k
  .subst a;simp only[zf,Aq];rfl
  simp only[zl _ _ a,AH a]
 by_cases a:q=k
 .subst a;simp[zf]
 simp[zl _ _ a]
def Vy(c:CS)(d:DJ)(k n:Nat)(x:WS):Option DJ->Option (CS×DJ)
 | some d'=>some ({ c with ws:=zh c.ws k { x with kQ:=true } },d')
 | none=>Ew c d n<|k+1
def RJ(c:CS)(d:DJ)(m:Nat):Option DJ->Option (CS×DJ)
 | some d'=>some ({ c with kE:=m,ky:=false },d')
 | none=>Ew c d 8 0
theorem iG{l:List (DF×rU)}(h:zn tag i b c V W)(hD:EZ tag i db d bv fv l W)(E:Dn i tag W)(ok:Ja c)(am:d.b.length<=1073741824)(ao:d.fs.length<=1073741824):rH 116 #[(b,0),(db,0)] W (GK tag i b db W ((c.control d).getD (c,d)).1 ((c.control d).getD (c,d)).2 (c.control d).isSome):=by
 have S0:AA (zW tag i b db W c d tag V bv fv l W):=zb ⟨h,hD,DK.same E.ok<|C9.refl DA _,C9.refl _ _,E.pos⟩;have c2:=h.hd (j:=2) rfl;obtain⟨R,hR⟩:=nm<|c.control d;rw[hR];have HR:=zb hR;have OK:=zb ok;have u:=ok.lr;have aN:IntKind.u64.wrap (c.total:Int)=(c.total:Int):=by rw[IntKind.wrap_u64];omega
 obtain⟨T,hT⟩:=nm c.total;rw[hT]at c2 aN;have HT:=zb hT;obtain⟨RR,aO⟩:=nm<|FB c d 8 0 c.total;have ay:=zb aO;clear h hD E ok hR u hT aO;go_enter func116,ntmps116;go_wp2_with fail;clear c2 aN
 go_loopw [5,17] (λtv kv wr=>∃k t tag' V' ae af l',k<=8/\tv=.int .u64 ((t:Nat):Int)/\kv=.int .i64 ((k:Nat):Int)/\t<=zG/\AA (zW tag i b db W c d tag' V' ae af l' wr)/\AA (FB c d (8-k) k t=RR)) (λ_ kv _=>8-(intOf kv).toNat)
 case atStart=>exact⟨0,T,tag,V,bv,fv,l,I,rfl,rfl,by have:=OK.z.lr;have:=HT.z;unfold zG;omega,S0,zb<|by rw[<-ay.z,HT.z]⟩
 case round =>
  obtain⟨k,t,tag',V',ae,af,l',hk,rfl,rfl,ht,HS,HC⟩:=hrel;by_cases a:k<8
  .obtain⟨n,hn⟩:∃n,8-k=n+1:=⟨7-k,I⟩;have ag:8-(k+1)=n:=I;have z:=HC.z;rw[hn]at z;unfold FB at z;obtain⟨m,hm⟩:=nm<|max (c.rs k).kE<|(c.rs k).used+c.kT;rw[hm]at z;have ku:=SP HS.z.c a;have kh:=TS HS.z.c a;have aA:=SP (HS.z.c.kI (C9.refl DA wr).drew) a;have ap:=TS (HS.z.c.kI (C9.refl DA wr).drew) a;have aB:wr (b,129+k*13+11)=some (.int .u64 ((c.rs k).kE:Int)):=by rw[AN];exact HS.z.c.r (j:=11) a rfl
   have aC:wr (b,129+k*13+12)=some (.bool (c.rs k).ky):=by rw[AN];exact HS.z.c.r (j:=12) a rfl
   have r1:=HS.z.c.hd (j:=1) rfl;obtain⟨q1,q2⟩:=OK.z.used k a;have q3:=OK.z.lu k a;have q4:=OK.z.ln;obtain⟨u,hu⟩:=nm<|(c.rs k).used;obtain⟨g,hg⟩:=nm<|(c.rs k).kE;obtain⟨an,aa⟩:=nm<|(c.rs k).ky;obtain⟨hp,aD⟩:=nm<|(c.rs k).lu;obtain⟨aE,E⟩:=nm c.kT;rw[hu]at ku aA q1 q3 z;rw[hg]at aB q2 z;rw[aa]at aC z;rw[aD]at kh ap q3 z;rw[E]at r1 q3 q4;rw[hu,hg,E]at hm;have aq:=zb hm;have z:=zb z;have HX:=zb<|And.intro hu<|And.intro hg<|And.intro aa<|And.intro aD E;have HN:=zb<|And.intro hn ag;unfold zG at ht q1 q2 q3;have a1:=wu ((t:Int)+u) I;have a2:IntKind.u64.wrap (aE:Int)=(aE:Int):=by rw[IntKind.wrap_u64];omega
   have a3:=wu ((u:Int)+aE) I;obtain⟨t2,aF⟩:=nm<|min (t+u) zG;have aP:=zb aF;have ah:t2<=4611686018427387903:=by rw[<-aF];exact Nat.min_le_right _ _
   have ai:=zb q3;clear hu hg aa aD E hn ag aF q3 hm;go_upto_region 6 with fail
   go_cut [5] (λtv Z=>tv=.int .u64 t2/\Z=wr)
   case first =>
    go_wp2_with (go_at_call 154;refine ku.mono ?_;rintro _ _ ⟨rfl,rfl⟩);all_goals
     go_meet;have aQ:=aP.z;unfold zG at aQ;exact⟨by congr 1;omega,rfl⟩
   case rest =>
   obtain⟨rfl,hw⟩:=hcut;have hw:=hw.symm;subst hw;go_upto_region 7 with fail
   go_cut [8] (λu Z=>u=.int .u64 m/\Z=wr.drew)
   case first =>
    refine zr 15 (λw'=>w'=wr.drew) (rfl) ?_;refine GI 0 ?_;iterate 5
     refine GV rfl ?_;try simp only[PS]
    refine GI 6 ?_;iterate 6
     refine GV rfl ?_;try simp only[PS]
    refine zD 5 rfl (λK hK=>?_);go_simp;refine aA.mono ?_;rintro _ _ ⟨rfl,rfl⟩;refine hK.z _ _ rfl ?_;clear hK K;try simp only[PS]
    refine GI 12 ?_;refine GV rfl ?_;try simp only[PS]
    refine Gl (i:=13) (v:=.int .u64 m) rfl kw (λ_ _ _ h=>h) (Or.inl ⟨by rfl,?_⟩) ?_
    .intro Z q;subst q;go_simp;have:=aq.z;split<;>omega
    try simp only[PS]
    refine GI 14 ?_;refine GV rfl ?_;try simp only[PS]
    refine zt ?_;go_wp2;go_meet;exact rM
   case rest =>
   obtain⟨rfl,hw⟩:=hcut;subst hw;have ar:=zb<|HS.z.kI<|(C9.refl DA wr).drew;have aR:m<=4611686018427387903\/hp=false:=by
    cases hp
    .exact .inr rfl
    have:=aq.z;have:=ai.z rfl;exact .inl I
   obtain⟨dn,B⟩:=nm<|d.add<|Ef k m;have D:=zb B;have h:=z.z;rw[B,aP.z]at h;have X:=zb h;have u:wr.drew (b,129+k*13+11)=some (.int .u64 g):=aB;have u:wr.drew (b,129+k*13+12)=some (.bool an):=aC;clear B h z ku kh aA r1 q1 q2 a1 a2 a3 aB aC;have O:g<m\/(¬g<m/\an=true)\/(¬g<m/\an=false):=by
    by_cases e:g<m
    .exact .inl e
    cases an
    .exact .inr (.inr ⟨e,rfl⟩)
    exact .inr<|.inl ⟨e,rfl⟩
   rcases O with hA|⟨hA,rfl⟩|⟨hA,rfl⟩;rotate_left;rotate_left
   .have Y:AA (FB c d (8-(k+1)) (k+1) t2=RR):=by
     show _=_;rw[HN.z.2,<-X.z];simp[hA]
    clear X;go_wp2;go_roundw
    case rel=>exact⟨k+1,t2,tag',V',ae,af,l',I,rfl,by go_num,ah,ar,Y⟩
    simp[intOf];omega
   all_goals
    cases hp
    .have Y:AA (FB c d (8-(k+1)) (k+1) t2=RR):=by
      show _=_;rw[HN.z.2,<-X.z];simp
     clear X;go_wp2_with (go_at_call 155;refine ap.mono ?_;rintro _ W9 ⟨rfl,mh⟩);have S9:=zb<|ar.z.kI mh;go_roundw
     case rel=>exact⟨k+1,t2,tag',V',ae,af,l',I,rfl,by go_num,ah,S9,Y⟩
     simp[intOf];omega
    have aj:m<=zG:=by
     rcases aR with e|e
     .exact e
     cases e
    have au:=zb aj;clear aR aj;cases dn with
    | none =>
     have Y:AA (FB c d (8-(k+1)) (k+1) t2=RR):=by
      show _=_;rw[HN.z.2,<-X.z];simp
     clear X;go_wp2_with (first|(go_at_call 155;refine ap.mono ?_;rintro _ W9 ⟨rfl,mh⟩;have S9:=zb<|ar.z.kI mh;clear mh)|(go_at_call 113;refine(Lz S9.z.d S9.z.ok S9.z.p (Ef k m) (N3 a au.z) am ao).mono ?_;intro e W1 hd;obtain⟨rfl,y,L,M,l2,A⟩:=S9.z.add hd;rw[D.z]at A;rw[D.z];have A:=zb A;clear hd));go_roundw
     case rel=>exact⟨k+1,t2,y,V',L,M,l2,I,rfl,by go_num,ah,A,Y⟩
     simp[intOf];omega
    | some d1 =>
     have aS:AA (R=some ({ c with rs:=zh c.rs k { c.rs k with kE:=m,ky:=false } },d1)):=by
      show _=_;have e1:=X.z;rw[AL (by simp[hA])]at e1;rw[<-HR.z,CS.control,ay.z,<-e1]
     clear X;go_wp2_with (go_at_call 155;refine ap.mono ?_;rintro _ W9 ⟨rfl,mh⟩;have S9:=zb<|ar.z.kI mh;clear mh);refine(Lz S9.z.d S9.z.ok S9.z.p (Ef k m) (N3 a au.z) am ao).mono ?_;intro e W1 hd;obtain⟨rfl,y,L,M,l2,A⟩:=S9.z.add hd;rw[D.z]at A;rw[D.z];clear hd;have h:W1 (b,129+k*13+11)=some (.int .u64 ((c.rs k).kE:Int)):=by
      rw[AN k 13];exact A.c.r (j:=11) a rfl
     have h:W1 (b,129+k*13+12)=some (.bool (c.rs k).ky):=by
      rw[AN k 13];exact A.c.r (j:=12) a rfl
     have wf:=λp=>A.c.fz p
     have A:=zb A;go_wp2;go_ret;rw[aS.z];have G:=A.z.granted a m;rw[AN 13 k]at G;exact G.post true
  have aG:k=8:=I;subst aG;have ak:AA (RR=(none,t)):=zb HC.z.symm;have aT:AA (R=LV c d t):=by
   show _=_;rw[<-HR.z,CS.control,ay.z,ak.z]
  clear HC;have aU:wr (b,234)=some (.int .u64 c.kE):=HS.z.c.tl (j:=1) rfl;have aV:wr (b,235)=some (.bool c.ky):=HS.z.c.tl (j:=2) rfl;have a4:=OK.z.kE;obtain⟨m,hm⟩:=nm<|max t c.kE;have aj:m<=zG:=I;have au:=zb aj;have N:AA (R=if decide (c.kE<m)||c.ky then RJ c d m (d.add<|FD m)else Ew c d 8 0):=by
   show _=_;rw[aT.z];unfold LV;rw[hm];cases d.add (FD m)<;>rfl
  obtain⟨dn,B⟩:=nm<|d.add<|FD m;have D:=zb B;rw[B]at N;obtain⟨g,hg⟩:=nm c.kE;obtain⟨an,aa⟩:=nm c.ky;have HG:=zb hg;have aW:=zb aa;rw[hg]at aU hm;rw[aa]at aV;have aq:=zb hm;clear hg aa hm B aj a4 aT ak;go_upto_region 12 with fail
  go_cut [5] (λtv Z=>tv=.int .u64 m/\Z=wr)
  case first =>
   go_wp2_with fail;all_goals
    go_meet;have aQ:=aq.z;exact⟨by congr 1;omega,rfl⟩
  case rest =>
  obtain⟨rfl,hw⟩:=hcut;have hw:=hw.symm;subst hw;go_upto_region 13 with fail
  go_cut [98] (λrv Z=>∃(r:Bool) (d2:DJ) (y:qr) (L M:rU) (l2:List (DF×rU)),rv=.bool r/\AA (zW tag i b db W c d2 y V' L M l2 Z)/\AA ((r=true/\R=some ({ c with kE:=m,ky:=false },d2))\/(r=false/\d2=d/\R=Ew c d 8 0)))
  case first =>
   have O:g<m\/(¬g<m/\an=true)\/(¬g<m/\an=false):=by
    by_cases e:g<m
    .exact .inl e
    cases an
    .exact .inr (.inr ⟨e,rfl⟩)
    exact .inr<|.inl ⟨e,rfl⟩
   rcases O with hA|⟨hA,rfl⟩|⟨hA,rfl⟩;rotate_left;rotate_left
   .have Y:AA (R=Ew c d 8 0):=by
     show _=_;rw[N.z,HG.z,aW.z];simp[hA]
    clear N;go_wp2;go_meet;exact⟨false,d,tag',ae,af,l',rfl,HS,zb<|.inr ⟨rfl,rfl,Y.z⟩⟩
   all_goals
    have aX:AA (R=RJ c d m dn):=by
     show _=_;rw[N.z,AL (by rw[HG.z,aW.z];simp[hA])]
    clear N;go_wp2_with fail;refine(Lz HS.z.d HS.z.ok HS.z.p (FD m) (Po au.z) am ao).mono ?_;intro e W1 hd;obtain⟨rfl,y,L,M,l2,A⟩:=HS.z.add hd;rw[D.z]at A;rw[D.z];have A:=zb A;clear hd;cases dn with
    | none =>
     go_wp2;go_meet;exact⟨false,d,y,L,M,l2,rfl,A,zb<|.inr ⟨rfl,rfl,aX.z⟩⟩
    | some d1 =>
     go_wp2;go_meet;exact⟨true,d1,y,L,M,l2,rfl,A,zb<|.inl ⟨rfl,aX.z⟩⟩
  case rest =>
  obtain⟨r,d2,y,L,M,l2,rfl,A,HQ⟩:=hcut;have aY:wc (b,234)=some (.int .u64 c.kE):=A.z.c.tl (j:=1) rfl;have aZ:wc (b,235)=some (.bool c.ky):=A.z.c.tl (j:=2) rfl;have wf:=λp=>A.z.c.fz p
  clear aU aV N;cases r
  .have HN:AA (d2=d/\R=Ew c d 8 0):=by
    rcases HQ.z with⟨e,_⟩|⟨_,e1,e2⟩
    .cases e
    exact⟨e1,e2⟩
   clear HQ aY aZ wf;go_wp2_with fail;have g:AA (zW tag i b db W c d y V' L M l2 wc):=by
    have:=A.z;rw[HN.z.1]at this;exact this
   have h:=zb HN.z.2.symm;clear HN A
   go_loopw [106] (λkv u=>∃(k:Nat) (ad:qr) (av aw:rU) (l3:List (DF×rU)),k<=8/\kv=.int .i64 k/\AA (zW tag i b db W c d ad V' av aw l3 u)/\AA (Ew c d (8-k) k=R)) (λkv _=>8-(intOf kv).toNat)
   case atStart=>exact⟨0,y,L,M,l2,I,rfl,g,h⟩
   case round =>
    obtain⟨k,ad,av,aw,l3,hk,rfl,SY,HC⟩:=hrel;by_cases a:k<8
    .obtain⟨n,hn⟩:∃n,8-k=n+1:=⟨7-k,I⟩;have ag:8-(k+1)=n:=I;have z:=HC.z;rw[hn]at z;unfold Ew at z;obtain⟨M,N⟩:=OK.z.cut k a;have h:=Pn a N M;obtain⟨x,L⟩:=nm<|c k;have aH:wr (b,9+k*15+10)=some (.bool (c k).cut):=by rw[AN k 15];exact SY.z.c.w (j:=10) a rfl
     have aI:wr (b,9+k*15+13)=some (.bool (c k).kQ):=by rw[AN k 15];exact SY.z.c.w (j:=13) a rfl
     have aJ:wr (b,9+k*15+12)=some (.int .u64 ((c k).final:Int)):=by rw[AN k 15];exact SY.z.c.w (j:=12) a rfl
     have aK:wr (b,9+k*15+11)=some (.int .u64 ((c k).kD:Int)):=by rw[AN k 15];exact SY.z.c.w (j:=11) a rfl
     have g:=λWd (md:C9 DA wr Wd)=>Lz (SY.z.kI md).d (SY.z.kI md).ok SY.z.p (FJ k (c k).final (c k).kD) h am ao
     have HX:=zb L;rw[L]at aH aK aJ aI g;rw[L]at z;obtain⟨cu,n⟩:=nm x.cut;obtain⟨te,u⟩:=nm x.kQ;obtain⟨fn,y⟩:=nm x.final;obtain⟨kp,E⟩:=nm x.kD;rw[n]at aH z;rw[u]at aI z;rw[y]at aJ g z;rw[E]at aK g z;have a0:=zb<|And.intro y E;have al:=zb g;obtain⟨dn,B⟩:=nm<|d.add<|FJ k fn kp;rw[B]at z;have D:=zb B;have ak:=zb<|And.intro n u;have z:=zb z;have aL:=zb ag;clear HC hn ag M N h L g B n u y E;cases cu
     .have Y:AA (Ew c d (8-(k+1)) (k+1)=R):=by
       show _=_;rw[aL.z,<-z.z];rfl
      clear z;clear al;go_wp2;go_quiet (fail);go_wp2;go_roundw
      case rel=>exact⟨k+1,ad,av,aw,l3,I,by go_num,zb<|SY.z.kI<|(C9.refl DA wr).drewN _,Y⟩
      simp[intOf];omega
     cases te
     .have Y:AA (Vy c d k (8-(k+1)) x dn=R):=by
       show _=_;rw[aL.z,<-z.z];cases dn<;>rfl
      clear z;go_upto_region 20 with fail
      go_cut [138] (λrv Z=>∃(r:Bool) (d2:DJ) (C:qr) (ab ac:rU) (l4:List (DF×rU)),rv=.bool r/\AA (zW tag i b db W c d2 C V' ab ac l4 Z)/\AA ((r=true/\dn=some d2)\/(r=false/\d2=d/\dn=none)))
      case first =>
       clear Y;refine zr 25 (λw'=>w' (b,9+k*15+10)=some (.bool true)/\w' (b,9+k*15+13)=some (.bool false)/\w' (b,9+k*15+12)=some (.int .u64 fn)/\w' (b,9+k*15+11)=some (.int .u64 kp)) (⟨aH,aI,aJ,aK⟩) ?_;refine GI 0 ?_;iterate 23
        refine GV rfl ?_;try simp only[PS]
       refine zD 23 rfl (λK hK=>?_);go_simp;refine(al.z _<|(C9.refl DA wr).drew).mono ?_;intro e W1 hd;obtain⟨rfl,C,ab,ac,l4,S4⟩:=(SY.z.kI<|(C9.refl DA wr).drew).add hd;rw[D.z]at S4;rw[D.z];clear hd;have g:W1 (b,9+k*15+10)=some (.bool true)/\W1 (b,9+k*15+13)=some (.bool false)/\W1 (b,9+k*15+12)=some (.int .u64 fn)/\W1 (b,9+k*15+11)=some (.int .u64 kp):=by
        rw[<-ak.z.1,<-ak.z.2,<-a0.z.1,<-a0.z.2,<-HX.z,AN k 15];exact⟨S4.c.w (j:=10) a rfl,S4.c.w (j:=13) a rfl,S4.c.w (j:=12) a rfl,S4.c.w (j:=11) a rfl⟩
       have S4:=zb S4;refine hK.z _ _ g ?_;clear hK K;try simp only[PS]
       refine GI 24 ?_;refine GV rfl ?_;try simp only[PS]
       refine zt ?_;go_wp2;go_meet;cases dn with
       | none=>exact⟨false,d,C,ab,ac,l4,rfl,S4,zb<|.inr ⟨rfl,rfl,rfl⟩⟩
       | some d1=>exact⟨true,d1,C,ab,ac,l4,rfl,S4,zb<|.inl ⟨rfl,rfl⟩⟩
      case rest =>
      obtain⟨r,d2,C,ab,ac,l4,rfl,S4,ax⟩:=hcut;cases r
      .have ai:AA (d2=d/\dn=none):=by
        rcases ax.z with⟨e,_⟩|⟨_,e1,e2⟩
        .cases e
        exact⟨e1,e2⟩
       have g:AA (zW tag i b db W c d C V' ab ac l4 wc):=by
        rw[<-ai.z.1];exact S4
       have aM:AA (Ew c d (8-(k+1)) (k+1)=R):=by
        have:=Y.z;rw[ai.z.2]at this;exact this
       clear Y ax ai S4;go_wp2;go_roundw
       case rel=>exact⟨k+1,C,ab,ac,l4,I,by go_num,g,aM⟩
       simp[intOf];omega
      have aM:AA (some ({ c with ws:=zh c.ws k { x with kQ:=true } },d2)=R):=by
       have:=Y.z;rcases ax.z with⟨_,e⟩|⟨e,_⟩
       .rw[e]at this;exact this
       cases e
      have wf:=λp=>S4.z.c.fz p
      have g:wc (b,9+k*15+13)=some (.bool (c k).kQ):=by rw[AN k 15];exact S4.z.c.w (j:=13) a rfl
      clear Y ax;go_wp2;go_ret;rw[<-aM.z];have G:=S4.z.kQ a;rw[HX.z,AN 15 k]at G;exact G.post true
     have Y:AA (Ew c d (8-(k+1)) (k+1)=R):=by
      show _=_;rw[aL.z,<-z.z];rfl
     clear z al;go_wp2;go_quiet (fail);go_wp2;go_roundw
     case rel=>exact⟨k+1,ad,av,aw,l3,I,by go_num,zb<|SY.z.kI<|(C9.refl DA wr).drewN _,Y⟩
     simp[intOf];omega
    have aG:k=8:=I;subst aG;have a:AA (R=none):=zb HC.z.symm;clear HC;go_wp2;go_ret;rw[a.z];exact SY.z.post false
  have HN:AA (R=some ({ c with kE:=m,ky:=false },d2)):=by
   rcases HQ.z with⟨_,e⟩|⟨e,_⟩
   .exact e
   cases e
  clear HQ;go_wp2;go_ret;rw[HN.z];exact(A.z.nk m).post true
structure Pg(c:CS)(k:Nat):Prop where
 lt:k<8
 cut:(c k).kD<=zG
 len:(c k).b.length<=1048576
 kF:(c k).kF<=zG
 high:(c k).high<=zG
 all:c.kF<=zG
 me:c.me<=zG
 wf:WF (c k).kH.rs
 hi:∀j,j<(c k).kH.rs.length->DB (c k).kH.rs j<9223372036854775808
 fl:(c k).kH.fl<=zG
 most:1<=(c k).kH.most/\(c k).kH.most<=1099511627776
 rl:(c k).kH.rs.length<=1099511627776
theorem Lp(rs:zE):∀e a,(DP rs e a).2<=a:=by
 induction rs with
 | nil=>intro e a;exact AI _
 | cons r l ih =>
  intro e a;unfold DP;split
  .exact ih e a
  split
  .exact Bq _ _
  exact ih _ _
theorem Ri(rs:zE)(h:∀r∈rs,r.2<9223372036854775808):∀a g,a<=9223372036854775808->(DP rs a g).1<=9223372036854775808:=by
 induction rs with
 | nil=>intro a g m;exact m
 | cons r l ih =>
  intro a g m;have e:=h r BB;have e:=ih<|λx n=>h x<|BA _ n;unfold DP;split
  .exact e a g m
  split
  .exact m
  exact e _ _ I
variable{xs:qt}
def Tn(h:EI W 48 10 v n xs):∃a m,v=.slice a n m:=by
 rcases h.2 with⟨e,a⟩|⟨g,o,m,h,e,_⟩
 .exact⟨none,0,by rw[e,a]⟩
 exact⟨_,m,e⟩
variable{N:Nat}{new:qq}{w w':rT}
def Uw{e:Ending}(h:OM w rV [] true new e w')(m:new.length=N):∃a c,e=.returned (.slice a N c)/\C9 DA w w':=by
 rcases h with⟨_,h,rfl,g⟩|⟨n,_⟩
 .obtain⟨a,c,e,_⟩:=zi g.own;rw[BV,m]at e;exact⟨a,c,by rw[e],(C9.refl DA w).grown g.grown<|λg a=>by simp[Value.ownBlock]at a⟩
 cases n
def zn.nP(h:zn tag i b c V W)(a:k<8)(e:(c k).kH.rs.length<=1099511627776):Ed W b (9+15*k+1) (V k) (c k).kH.rs (c k).kH.fl (c k).kH.most :=
 ⟨h.w (j:=1) a rfl,h.w (j:=2) a rfl,h.w (j:=3) a rfl,h.ws k a,e,λj=>h.fz j⟩
theorem cN{l:List (DF×rU)}(h:zn tag i b c V W)(hD:EZ tag i db d bv fv l W)(E:Dn i tag W)(k:Nat)(ok:Pg c k)(bp:d.b.length<=1073741824)(bq:d.fs.length<=1073741824)(bs:d.room<=1073741824):rH 120 #[(b,0),(db,0),[k]] W (GK tag i b db W (c.bytes d k).2.1 (c.bytes d k).2.2 (c.bytes d k).1):=by
 have S0:AA (zW tag i b db W c d tag V bv fv l W):=zb ⟨h,hD,DK.same E.ok<|C9.refl DA _,C9.refl _ _,E.pos⟩;have y:=ok.lt;have bO:(0:Int)<=k:=I;have bP:(k:Int)<8:=I;have c5:W (b,238)=some V.wt:=h.tl (j:=5) rfl;obtain⟨bQ,bR,aY⟩:=Tn h.wt;rw[aY]at c5;have e4:W (db,4)=some (.bool d.full):=za hD.obj rfl;have w0:W (b,9+k*15)=some (V.wb k):=by rw[AN];exact h.w (j:=0) y rfl
 obtain⟨wa,n,al,_⟩:=zi<|h.wb k y;rw[al]at w0;have w7:W (b,9+k*15+7)=some (.int .u64 ((c k).high:Int)):=by rw[AN];exact h.w (j:=7) y rfl
 have am:W (b,9+k*15+14)=some (.int .u64 ((c k).kF:Int)):=by rw[AN];exact h.w (j:=14) y rfl
 have ae:W (b,9+k*15+10)=some (.bool (c k).cut):=by rw[AN];exact h.w (j:=10) y rfl
 have an:W (b,9+k*15+11)=some (.int .u64 ((c k).kD:Int)):=by rw[AN];exact h.w (j:=11) y rfl
 have g0:W (b,233)=some (.int .u64 c.kF):=h.tl (j:=0) rfl;have ks:=cX (h.kI<|(C9.refl DA W).drew) (by have:=ok.me;unfold zG at this;omega);obtain⟨R,hR⟩:=nm<|c.bytes d k;rw[hR];have HR:=zb hR;have OK:=zb ok;obtain⟨L,hL⟩:=nm<|(c k).b.length;obtain⟨hh,aI⟩:=nm<|(c k).high;obtain⟨cr,aJ⟩:=nm<|(c k).kF;obtain⟨cc,aK⟩:=nm c.kF;obtain⟨cu,ao⟩:=nm<|(c k).cut;obtain⟨kp,aL⟩:=nm<|(c k).kD;obtain⟨sp,aM⟩:=nm c.me;obtain⟨nw,aN⟩:=nm c.waits.length;obtain⟨df,aO⟩:=nm d.full;have b1:=ok.len;have b2:=ok.kF;have b3:=ok.high;have b4:=ok.all;have b5:=ok.me;have b6:=ok.cut;unfold zG at b2 b3 b4 b5 b6;have HE:AA (c.lU k=if cu=true then min (min (min L cr)<|hh+cc-min cc sp) kp else min (min L cr) (hh+cc-min cc sp)):=by
  show _=_;rw[CS.lU,CS.nt,hL,aI,aJ,aK,aM,ao,aL]
 rw[hL]at w0 b1;rw[aI]at w7 b3;rw[aJ]at am b2;rw[aK]at g0 b4;rw[ao]at ae;rw[aL]at an b6;have bt:=zb ao;rw[aM]at ks b5;rw[aN]at c5;rw[aO]at e4;have HL:=zb hL;have af:AA (V.wb k=.slice wa L n):=by rw[hL]at al;exact al
 have aZ:=zb aN;have a0:=zb aO;have ap:0<nw\/(nw=0/\df=true)\/(nw=0/\df=false):=by
  cases df
  .by_cases e:nw=0
   .exact .inr (.inr ⟨e,rfl⟩)
   exact .inl I
  by_cases e:nw=0
  .exact .inr (.inl ⟨e,rfl⟩)
  exact .inl I
 clear h hD E ok hR aY al hL aI aJ aK aM aN aO ao aL;rcases ap with hA|⟨rfl,rfl⟩|⟨rfl,rfl⟩
 .have M:AA (R=(false,c,d)):=by
   show _=_;rw[<-HR.z,CS.bytes,AL (.inl (λe=>by have:=aZ.z;rw[e]at this;simp at this;omega))]
  have d1:(0:Int)<nw:=I;clear hA ks w0 w7 am ae an g0;go_enter func120,ntmps120;go_wp2;go_ret;rw[M.z];exact S0.z.post false
 .have M:AA (R=(false,c,d)):=by
   show _=_;rw[<-HR.z,CS.bytes,AL (.inr a0.z)]
  clear ks w0 w7 am ae an g0;go_enter func120,ntmps120;go_wp2;go_ret;rw[M.z];exact S0.z.post false
 have a1:AA (R=if (DP (c k).kH.rs 0<|c.lU k).2<=(DP (c k).kH.rs 0<|c.lU k).1 then
  if (!(c k).fin||(c k).ending)||decide (c.lU k<(c k).b.length)then(false,c,d)
  else c.lI d k (c k).b.length (c k).b.length
 else c.lI d k (DP (c k).kH.rs 0<|c.lU k).1 (DP (c k).kH.rs 0<|c.lU k).2):=by
  show _=_;rw[<-HR.z,CS.bytes,AH];rintro(e|e)
  .exact e (Aj aZ.z)
  rw[a0.z]at e;cases e
 obtain⟨q1,E⟩:=nm<|min cc sp;obtain⟨A,aP⟩:=nm<|min (min L cr)<|hh+cc-q1;obtain⟨Z,aQ⟩:=nm<|(if cu=true then min A kp else A);have bu:AA (c.lU k=Z):=by
  show _=_;rw[HE.z,E,aP,aQ]
 have a2:=zb E;have ag:=zb aQ;have a3:=zb aP;have x1:IntKind.u64.wrap (L:Int)=(L:Int):=by rw[IntKind.wrap_u64];omega
 have x2:=wu ((hh:Int)+cc) I;have x3:=wu ((hh:Int)+cc-q1) I;clear E aQ aP HE HR;go_enter func120,ntmps120;go_upto_region 4 with fail
 go_cut [8] (λev q=>ev=.int .u64 A/\q=W.drew)
 case first=>as_aux_lemma =>
  refine zr 29 (λw'=>w'=W.drew) (rfl) ?_;refine GI 0 ?_;iterate 24
   refine GV rfl ?_;try simp only[PS]
  refine zD 24 rfl (λK hK=>?_);go_simp;refine ks.mono ?_;rintro _ _ ⟨rfl,rfl⟩;refine hK.z _ _ rfl ?_;clear hK K;try simp only[PS]
  refine Gl (i:=25) (v:=.int .u64 q1) rfl kw (λ_ _ _ h=>h) (Or.inl ⟨by rfl,?_⟩) ?_
  .intro q u;subst u;go_simp;have:=a2.z;split<;>omega
  try simp only[PS]
  refine GI 26 ?_;refine GV rfl ?_;try simp only[PS]
  refine Gl (i:=27) (v:=.int .u64 A) rfl kw (λ_ _ _ h=>h) (Or.inl ⟨by rfl,?_⟩) ?_
  .intro q u;subst u;go_simp;have h1:=a2.z;have h2:=a3.z
   (repeat' split)<;>omega
  try simp only[PS]
  refine GI 28 ?_;refine GV rfl ?_;try simp only[PS]
  refine zt ?_;go_wp2;go_meet;exact rM
 case rest =>
 obtain⟨rfl,hw⟩:=hcut;subst hw;go_upto_if 64 with fail
 go_cut [8] (λev q=>ev=.int .u64 Z/\q=W.drew)
 case first=>as_aux_lemma =>
  cases cu
  .have h2:A=Z:=ag.z;subst h2;go_wp2;go_meet;exact rM
  go_wp2_with fail;all_goals
   go_meet;have h2:min A kp=Z:=ag.z;exact⟨by congr 1;omega,rfl⟩
 case rest =>
 obtain⟨rfl,hw⟩:=hcut;subst hw;have a4:Z<=L:=by
  have h1:(if cu=true then min A kp else A)=Z:=ag.z;have h2:min (min L cr) (hh+cc-q1)=A:=a3.z;have u:A<=L:=by rw[<-h2];exact AR (Bq _ _)<|Bq _ _
  clear h2;split at h1
  .have:=Bq A kp;omega
  omega
 have S1:=zb<|S0.z.kI (C9.refl DA W).drew;have kg:=Pp (c k).kH.rs (c k).kH.fl (c k).kH.most b (9+15*k+1) 0 Z (V k) W.drew (S1.z.c.nP y OK.z.rl) I OK.z.hi;rw[AN 15 k]at kg;have aE:=Ri (c k).kH.rs (λr hr=>by
  obtain⟨j,u⟩:=Cz hr;have a5:=(AO.1 u).1;have e:=Gz a5;rw[u]at e;cases e;exact OK.z.hi j a5) 0 Z I
 have aF:=Lp (c k).kH.rs 0 Z;obtain⟨z,u⟩:=nm<|(DP (c k).kH.rs 0 Z).1;obtain⟨B,E⟩:=nm<|(DP (c k).kH.rs 0 Z).2;rw[u]at aE;rw[E]at aF;have a6:AA (R=if B<=z then(if (!(c k).fin||(c k).ending)||decide (Z<L)then(false,c,d)else c.lI d k L L)else c.lI d k z B):=by
  show _=_;rw[a1.z,bu.z,u,E,HL.z]
 rw[u,E]at kg;have K:=zb kg;clear kg u E a1 ks x1 x2 x3 w0 w7 am an g0 c5 e4;go_upto_region 7 with fail
 go_cut [9,10] (λlv hv q=>lv=.int .u64 z/\hv=.int .u64 B/\AA (C9 DA W.drew q))
 case first=>as_aux_lemma =>
  go_wp2_with (go_at_call 136;refine K.z.mono ?_;rintro _ W2 ⟨rfl,m2⟩);go_meet;exact⟨rfl,rfl,m2⟩
 case rest =>
 obtain⟨rfl,rfl,m2⟩:=hcut;obtain⟨W2,aR⟩:=nn wc;subst aR;have S2:=zb<|S1.z.kI m2.z;have w0:W2 (b,9+k*15)=some (.slice wa L n):=by
  rw[AN k 15,<-af.z];exact S2.z.c.w (j:=0) y rfl
 have w8:W2 (b,9+k*15+8)=some (.bool (c k).finished):=by
  rw[AN k 15];exact S2.z.c.w (j:=8) y rfl
 have w9:W2 (b,9+k*15+9)=some (.bool (c k).ending):=by
  rw[AN k 15];exact S2.z.c.w (j:=9) y rfl
 have a7:W2 (b,9+k*15+10)=some (.bool cu):=m2.z.cell (a:=⟨b,_,none⟩) id ae;obtain⟨fi,u⟩:=nm<|(c k).fin;obtain⟨fq,K⟩:=nm<|(c k).finished;have bw:AA ((fq && !cu)=fi):=by
  show _=_;rw[<-K,<-bt.z,<-u];rfl
 obtain⟨eg,E⟩:=nm<|(c k).ending;have bx:=zb u;have aq:=zb E;have O:=a6.z;rw[u,E]at O;rw[K]at w8;rw[E]at w9;replace O:=zb O;have M2:=zb m2.z;have x1:IntKind.u64.wrap (L:Int)=(L:Int):=by rw[IntKind.wrap_u64];omega
 clear u K E a6 m2 ae;go_upto_region 9 with fail
 go_cut [12] (λfv q=>fv=.bool fi/\q=W2)
 case first=>as_aux_lemma =>
  cases fq;all_goals
   cases cu;all_goals
    have a8:=bw.z;subst a8;go_wp2;go_meet;exact rM
 case rest =>
 obtain⟨rfl,hw⟩:=hcut;obtain⟨W2,aR⟩:=nn wc;subst aR;subst hw;go_upto_if 98 with fail
 go_cut [9,10] (λlv hv q=>∃lo hi:Nat,lv=.int .u64 lo/\hv=.int .u64 hi/\q=W2/\lo<=hi/\hi<=L/\AA (R=c.lI d k lo hi))
 case first=>as_aux_lemma =>
  by_cases ar:B<=z
  .have X:AA (R=if (!fi||eg)||decide (Z<L)then(false,c,d)else c.lI d k L L):=by
    show _=_;rw[O.z,AL ar]
   have d1:(B:Int)<=z:=I;clear ar O;cases fi
   .have M:AA (R=(false,c,d)):=by
     show _=_;rw[X.z];simp
    clear X;go_wp2;go_ret;rw[M.z];exact S2.z.post false
   cases eg
   .by_cases u:Z<L
    .have M:AA (R=(false,c,d)):=by
      show _=_;rw[X.z];simp[u]
     have E:(Z:Int)<L:=I;clear X u;go_wp2;go_ret;rw[M.z];exact S2.z.post false
    have M:AA (R=c.lI d k L L):=by
     show _=_;rw[X.z];simp[u]
    have E:¬(Z:Int)<L:=I;clear X u;go_wp2;go_meet;exact⟨L,L,rfl,rfl,rfl,AI _,AI _,M⟩
   have M:AA (R=(false,c,d)):=by
    show _=_;rw[X.z];simp
   clear X;go_wp2;go_ret;rw[M.z];exact S2.z.post false
  have M:AA (R=c.lI d k z B):=by
   show _=_;rw[O.z,AH ar]
  have d1:¬(B:Int)<=z:=I;have u:z<=B:=I;clear ar O;go_wp2;go_meet;exact⟨z,B,rfl,rfl,rfl,u,I,M⟩
 case rest =>
 obtain⟨lo,hi,rfl,rfl,hw,bz,u,a9⟩:=hcut;clear O;have hw:=hw.symm;subst hw;obtain⟨f0,u⟩:=nm<|(fi&&hi==L);have au:=zb u;clear u;obtain⟨u,av⟩:=nm<|W2.alloc<|.cells (ze (Do k lo f0 [])<|.slice none 0 0) 48;go_upto_region 14 with fail
 go_cut [13] (λz q=>z=.pointer W2/\q=u)
 case first=>as_aux_lemma =>
  have hd:u=W2.alloc (.cells #[.int .i64 4,[k],lo,.int .u64 0,.int .u64 0,f0,.int .u64 0,.int .u64 0,.string ⟨#[]⟩,.slice none 0 0] 48):=av.symm;have aS:=zb hd;clear hd;cases fi
  .have A:f0=false:=by rw[<-au.z];rfl
   subst A;go_wp2;go_meet;exact⟨rfl,aS.z.symm⟩
  by_cases e:hi=L
  .have A:f0=true:=by rw[<-au.z,e];simp
   have e1:((hi:Int)==(L:Int))=true:=by rw[e];simp
   subst A;clear e;go_wp2;go_meet;exact⟨rfl,aS.z.symm⟩
  have A:f0=false:=by rw[<-au.z];simp[e]
  have e1:((hi:Int)==(L:Int))=false:=AM.2 I;subst A;clear e;go_wp2;go_meet;exact⟨rfl,aS.z.symm⟩
 case rest =>
 obtain⟨rfl,hw⟩:=hcut;obtain⟨W4,bA⟩:=nn wc;subst bA;subst hw;have bb:=AB av;have oF:=AD av;have S4:=zb<|S2.z.kI bb;have OF:=zb oF;obtain⟨s,hs⟩:=nm<|((c k).b.drop lo).take<|hi-lo;have bB:s.length=hi-lo:=by
  rw[<-hs,AU,Af,HL.z];omega
 have Y:BR W4 (.slice wa L n) (c k).b:=by
  have:=(S4.z.c.wb k y).br;rw[af.z]at this;exact this
 have be:L<=n/\n<=9223372036854775807:=by
  obtain⟨u,z,e,q1,q2,_⟩:=Y;cases e;rw[HL.z]at q1;unfold maxLen at q2;exact⟨q1,I⟩
 obtain⟨u,z⟩:=be;rw[<-HL.z]at Y;have ah:(convert 44 9<|.slice (wa.map λx=>x.add lo) (hi-lo)<|n-lo).run prog W4=.ok (.string<|zy s) W4:=by
  rw[<-hs];exact FZ<|Y.sub<|by rw[HL.z];omega
 have ai:∀a,(convert 44 9<|.slice a 0 0).run prog W4=.ok (.string<|zy []) W4:=λa=>FZ<|BR.nil _ a 0 pi
 have B:zH (Do k lo false s)=true:=by
  have e1:decide ((k:Int)<8)=true:=Ah I;simp[zH,D8,nums,D6,zP,Do]
  and_intros<;>first|omega|exact Ah I
 have E:=KK (Do k lo false s) rfl;have u:(Do k lo false s).data.length=hi-lo:=bB;rw[u]at E;have z:=QX rV [] (Do k lo false s) (.slice none 0 0) W4 (OB.nil W4) (λh=>absurd h<|Al _) ⟨none,0,rfl,AI _,AK _,λi hi=>absurd hi<|Al i⟩ (AK _) (by rw[u];omega)<|AK _;rw[B]at z;obtain⟨N,K⟩:=nm<|(zC<|Do k lo false s).length;rw[K]at E;have M:=zb K;have bC:=zb hs;have bf:=zb z;have w0:W4 (b,9+k*15)=some (.slice wa L n):=by
  rw[AN k 15,<-af.z];exact S4.z.c.w (j:=0) y rfl
 have x1:=wu ((hi:Int)-lo) I;have x2:IntKind.i64.wrap ((hi:Int)-lo)=(hi:Int)-lo:=IntWalk.i64_in _ I;have x3:IntKind.i64.wrap ((N:Int)-((hi:Int)-lo))=(N:Int)-((hi:Int)-lo):=IntWalk.i64_in _ I;clear hs K z Y w8 w9 a7 av oF aE aF b2 b3 b4 b5 a4 B u bb;go_upto_region 15 with fail
 go_cut [14] (λhv q=>hv=.int .i64 ((N:Int)-((hi:Int)-lo))/\AA (C9 DA W4 q))
 case first=>as_aux_lemma =>
  by_cases hc:lo=n
  .have aT:hi=lo:=I;subst aT;have aU:s=[]:=Aj I;subst aU;subst hc;go_wp2_with (go_at_call 115;refine bf.z.mono ?_;intro e W5 aj;obtain⟨va,vc,rfl,m5⟩:=Uw aj M.z;have M5:=zb m5;clear aj m5);all_goals
    go_meet;exact⟨by congr 1;omega,M5⟩
  have bD:¬n=lo:=λh=>hc h.symm
  go_wp2_with (go_at_call 115;refine bf.z.mono ?_;intro e W5 aj;obtain⟨va,vc,rfl,m5⟩:=Uw aj M.z;have M5:=zb m5;clear aj m5);all_goals
   go_meet;exact⟨rfl,M5⟩
 case rest =>
 obtain⟨rfl,m4⟩:=hcut;obtain⟨W5,bE⟩:=nn wc;subst bE;have S5:=zb<|S4.z.kI m4.z;have bF:=zb<|m4.z.obj rP OF.z;obtain⟨E,u,z,K,B⟩:∃(O:qr) (u z:rU) (K:List (DF×rU)),AA (EZ O i db d u z K W5):=⟨_,_,_,_,S5.z.d⟩;have A:W5 db=some u:=za B.z.obj rfl;have e2:W5 (db,2)=some (.int .i64 d.room):=za B.z.obj rfl;obtain⟨u,z,E,_⟩:=zi B.z.ob;rw[E]at A;obtain⟨B,K⟩:=nm d.b.length;obtain⟨z,u⟩:=nm d.room;have aa:AA (I5 c d k lo hi=(z:Int)-4-B-((N:Int)-((hi:Int)-lo))):=by
  show _=_;rw[I5,bC.z,M.z,K,u]
 rw[K]at A bp;rw[u]at e2 bs;have HB:=zb K;have M:=zb u;have y1:IntKind.i64.wrap ((z:Int)-4)=(z:Int)-4:=IntWalk.i64_in _ I;have y2:IntKind.i64.wrap ((z:Int)-4-B)=(z:Int)-4-B:=IntWalk.i64_in _ I;have y3:IntKind.i64.wrap ((z:Int)-4-B-((N:Int)-((hi:Int)-lo)))=(z:Int)-4-B-((N:Int)-((hi:Int)-lo)):=IntWalk.i64_in _ I;clear E K u w0 ai ah x3;go_upto_region 16 with fail
 go_cut [15] (λu q=>u=.int .i64 (I5 c d k lo hi)/\AA (C9 DA W5 q))
 case first=>as_aux_lemma =>
  go_quiet (fail);go_wp2;go_meet;exact⟨by rw[aa.z],(C9.refl DA W5).drewN _⟩
 case rest =>
 obtain⟨rfl,m5⟩:=hcut;obtain⟨W6,bG⟩:=nn wc;subst bG;have S6:=zb<|S5.z.kI m5.z;have u:=zb<|m5.z.obj rP bF.z;obtain⟨z,B⟩:=nm<|I5 c d k lo hi;have E:=zb B;have E : -2199023255552<=z/\z<=2199023255552:=by
  have:=aa.z;rw[B]at this;omega
 rw[B];have ab:AA (R=if z<(hi:Int)-lo then(if z<1 then(false,c,{ d with full:=true })else c.lA d k lo (lo+z.toNat) false)else c.lA d k lo hi f0):=by
  show _=_;rw[a9.z,CS.lI,B,bx.z,HL.z,au.z]
 have bg:W.heap.size<=W2.heap.size:=S2.z.m.size;have e4:W6 (db,4)=some (.bool d.full):=za S6.z.d.obj rfl;have bh:∀j,W6.frozen? ⟨db,j,none⟩=false:=λj=>zd S6.z.d.obj
 have bH:W6 (W2,5)=some (.bool f0):=za u.z rfl;have bI:∀j,W6.frozen? ⟨W2.heap.size,j,none⟩=false:=λj=>zd u.z
 have aw:AA (tag W2.heap.size=(0,0)):=zb<|S2.z.e.z _<|AI _;clear B a9 m5 A e2 y1 y2 y3 aa;go_upto_if 159 with fail
 go_cut [10] (λhv q=>∃(m:Nat) (f2:Bool),hv=.int .u64 m/\lo<=m/\m<=hi/\AA (R=c.lA d k lo m f2)/\AA (q.heap[W2.heap.size]?=some (.cells (ze (Do k lo f2 [])<|.slice none 0 0) 48 (0,0)))/\AA (C9 (λg=>g=W2.heap.size) W6 q))
 case first=>as_aux_lemma =>
  by_cases A:z<(hi:Int)-lo
  .by_cases B:z<1
   .have D:AA (R=(false,c,{ d with full:=true })):=by
     show _=_;rw[ab.z,AL A,AL B]
    clear ab;go_wp2;go_ret;rw[D.z];exact S6.z.ny.post false
   have D:AA (R=c.lA d k lo (lo+z.toNat) false):=by
    show _=_;rw[ab.z,AL A,AH B]
   have B:IntKind.u64.wrap z=z:=by rw[IntKind.wrap_u64];omega
   have B:=wu ((lo:Int)+z) I;have B':AA ((W6.setCell (W2.heap.size,5)<|.bool false).heap[W2.heap.size]?=some (.cells (ze (Do k lo false [])<|.slice none 0 0) 48 (0,0))):=by
    show _=_;rw[zc u.z];rfl
   clear ab;go_wp2;go_meet;exact⟨lo+z.toNat,false,by congr 1;omega,I,I,D,B',(C9.refl (λg=>g=W2.heap.size) _).setCell (p:=U W2.heap.size 5) rO _⟩
  have D:AA (R=c.lA d k lo hi f0):=by
   show _=_;rw[ab.z,AH A]
  clear ab;go_wp2;go_meet;exact⟨hi,f0,rfl,bz,AI _,D,u,C9.refl _ _⟩
 case rest =>
 obtain⟨m,f2,rfl,u,z,bi,aV,m7⟩:=hcut;obtain⟨W7,bJ⟩:=nn wc;subst bJ;have A:=zb (S6.z.free m7.z (λg z=>by
  have z:g=W2.heap.size:=z;rw[z];exact⟨aw.z,bg⟩))
 obtain⟨s2,u⟩:=nm<|((c k).b.drop lo).take<|m-lo;have bj:s2.length=m-lo:=by
  rw[<-u,AU,Af,HL.z];omega
 have Y:BR W7 (.slice wa L n) (c k).b:=by
  have:=(A.z.c.wb k y).br;rw[af.z]at this;exact this
 rw[<-HL.z]at Y;have ah:(convert 44 9<|.slice (wa.map λx=>x.add lo) (m-lo)<|n-lo).run prog W7=.ok (.string<|zy s2) W7:=by
  rw[<-u];exact FZ<|Y.sub<|by rw[HL.z];omega
 have ai:∀a,(convert 44 9<|.slice a 0 0).run prog W7=.ok (.string<|zy []) W7:=λa=>FZ<|BR.nil _ a 0 pi
 have w0:W7 (b,9+k*15)=some (.slice wa L n):=by
  rw[AN k 15,<-af.z];exact A.z.c.w (j:=0) y rfl
 have v8:W7 (W2,8)=some (.string ⟨#[]⟩):=za aV.z rfl;have bK:∀j,W7.frozen? ⟨W2.heap.size,j,none⟩=false:=λj=>zd aV.z
 obtain⟨W8,a⟩:=nm<|W7.setCell (U W2 8)<|.string<|zy s2;have aW:AA (zp W8 W2.heap.size (Do k lo f2 s2)<|.slice none 0 0):=by
  show _=_;rw[<-a,zc aV.z];rfl
 have S8:=zb (A.z.free (show C9 (λg=>g=W2.heap.size) W7 W8 by rw[<-a];exact(C9.refl (λg=>g=W2.heap.size) _).setCell (p:=U W2.heap.size 8) rO _) (λg z=>by
  have z:g=W2.heap.size:=z;rw[z];exact⟨aw.z,bg⟩))
 have bL:=zb u;have bk:=zb a;clear u Y a bH bI e4 bh ab;go_upto_region 23 with fail
 go_cut [] (λq=>q=W8)
 case first=>as_aux_lemma =>
  by_cases hc:lo=n
  .have aT:m=lo:=I;subst aT;have aU:s2=[]:=Aj I;subst aU;subst hc;go_wp2_with fail;all_goals
    go_meet;exact bk.z
  have bD:¬n=lo:=λh=>hc h.symm
  go_wp2_with fail;all_goals
   go_meet;exact bk.z
 case rest =>
 have hw:=hcut.symm;subst hw;clear ai ah w0 v8 bK hcut;have g:(Do k lo f2 s2).Fits:=QP y I (by rw[bj];unfold zG;omega);have a:=Lz S8.z.d S8.z.ok S8.z.p (Do k lo f2 s2) g (by rw[HB.z];omega) bq;obtain⟨dn,g⟩:=nm<|d.add<|Do k lo f2 s2;have ax:=zb g;have ay:AA (R=c.nZ d k lo m f2 dn):=by
  show _=_;rw[bi.z,jF,bL.z,g]
 have aG:=zb a;obtain⟨y0,y1,y2,y3,y4,y5,y6,y7,y8,y9⟩:=aW.z.cells;have bM:W2.heap.size<W8.heap.size:=(AJ.1 aW.z).1;clear a g bi;cases dn with
 | none=>as_aux_lemma =>
  go_wp2_with fail;refine aG.z.mono ?_;intro e W9 hd;obtain⟨rfl,ak,bl,bm,l9,C,_,_⟩:=S8.z.pK hd;rw[ax.z]at C;rw[ax.z];clear hd;have e4:W9 (db,4)=some (.bool d.full):=za C.d.obj rfl;have bh:∀j,W9.frozen? ⟨db,j,none⟩=false:=λj=>zd C.d.obj
  have C:=zb C;have D:AA (R=(false,c,{ d with full:=true })):=ay.z;clear ay y0 y1 y2 y3 y4 y5 y6 y7 y8 y9;go_wp2;go_ret;rw[D.z];exact C.z.ny.post false
 | some d1 =>
  go_wp2_with fail;refine aG.z.mono ?_;intro e W9 hd;obtain⟨rfl,ak,bl,bm,l9,C,bn,bo⟩:=S8.z.pK hd;rw[ax.z]at C;rw[ax.z];have a:=S8.z.p;have aA:zp W9 W2.heap.size (Do k lo f2 s2) (.slice none 0 0):=bo.obj (λ⟨r,hr,hx⟩=>by
   rw[aw.z]at hx;simp at hx;omega) aW.z
  have aB:ak W2.heap.size=(0,0):=by rw[bn _ bM,aw.z]
  have D:AA (R=(true,{ c with ws:=zh c.ws k { c.ws k with kH:=if lo<m then(c k).kH.add lo (m-1)else(c k).kH,ending:=(c k).ending||f2,high:=max (c k).high m } },d1)):=ay.z;clear hd ay y0 y1 y2 y3 y4 y5 y6 y7 y8 y9 bo bn;have a:∀(tx:qr) (Vx:CV) (g:rT) (h:DO),h=(if lo<m then(c k).kH.add lo (m-1)else(c k).kH)->zW tag i b db W { c with ws:=zh c.ws k { c.ws k with kH:=h } } d1 tx Vx bl bm l9 g->GK tag i b db W R.2.1 R.2.2 R.1 (.returned<|.bool true) ((g.setCell (b,9+k*15+9)<|.bool<|(c k).ending||f2).setCell (b,9+k*15+7)<|.int .u64 ((max (c k).high m:Nat):Int)):=λtx Vx g h g SX=>by
   have G:=SX.oJ y ((c k).ending||f2)<|max (c k).high m;simp only[Lq,zf]at G;rw[D.z];rw[AN 15 k]at G;rw[g]at G;exact G.post true
  have aH:=zb a;have C:=zb C;have aA:=zb aA;clear a;obtain⟨h7,a⟩:=nm<|(c k).high;have aC:=zb a;clear a;by_cases aD:lo<m
  .as_aux_lemma =>
   have a:=Jw (c k).kH b (9+15*k+1) lo (m-1) (V k) W9 (C.z.c.nP y OK.z.rl) OK.z.wf I I (by have:=OK.z.fl;unfold zG at this;omega) (λx=>zn.apart C.z.c.tb (C.z.c.nC k y b x) I rfl) OK.z.most.1<|qm OK.z.most.2;rw[AN 15 k]at a;have g:=zb a;have d1:(lo:Int)<m:=I;have y1:IntKind.u64.wrap ((m:Int)-1)=((m-1:Nat):Int):=by rw[IntKind.wrap_u64];omega
   have bN:=zb aD;clear a aD;go_wp2_with fail;refine g.z.mono ?_;intro e ad ha;have aX:=ha;rw[AN k 15]at aX;obtain⟨rfl,tx,Vx,SX⟩:=C.z.pB y aX<|Hl _ _ _;obtain⟨g,_,_,_,a,_⟩:=ha;have h:¬(W2.heap.size=b\/(V k).ownBlock=some W2.heap.size):=by
    rintro(x|x)
    .rw[x,C.z.c.tb]at aB;simp at aB
    rw[C.z.c.nC k y _ x]at aB;simp at aB
   have g:zp ad W2.heap.size (Do k lo f2 s2) (.slice none 0 0):=a.obj h aA.z;have w9:ad (b,9+k*15+9)=some (.bool eg):=by
    rw[AN k 15,<-aq.z];exact SX.c.w (j:=9) y<|by simp only[zf];rfl
   have w7:ad (b,9+k*15+7)=some (.int .u64 h7):=by
    rw[AN k 15,<-aC.z];exact SX.c.w (j:=7) y<|by simp only[zf];rfl
   have wf:∀p,ad.frozen? ⟨b,p,none⟩=false:=λp=>SX.c.fz p
   have v5:ad (W2,5)=some (.bool f2):=g.cells.2.2.2.2.2.1;have G:=aH.z tx Vx ad _ (by rw[AL bN.z]) SX;rw[aq.z,aC.z]at G;clear aX SX a g h;rcases Bo h7 m with hx|hx|hx;all_goals
    first
     | (have ac:max h7 m=m:=by omega)
     | (have ac:max h7 m=h7:=by omega)
    rw[ac]at G;have HG:=zb G;clear G ac;cases eg;all_goals
     go_wp2_with fail;all_goals first
      | (exfalso;omega)
      | (go_ret;exact HG.z)
      | (go_ret;subst hx;exact HG.z)
  as_aux_lemma =>
  have d1:¬(lo:Int)<m:=I;have w9:W9 (b,9+k*15+9)=some (.bool eg):=by
   rw[AN k 15,<-aq.z];exact C.z.c.w (j:=9) y rfl
  have w7:W9 (b,9+k*15+7)=some (.int .u64 h7):=by
   rw[AN k 15,<-aC.z];exact C.z.c.w (j:=7) y rfl
  have wf:∀p,W9.frozen? ⟨b,p,none⟩=false:=λp=>C.z.c.fz p
  have v5:W9 (W2,5)=some (.bool f2):=aA.z.cells.2.2.2.2.2.1;have G:=aH.z ak V W9 _ (by rw[AH aD]) (by
   have:=C.z;have e:{ c with ws:=zh c.ws k { c.ws k with kH:=(c k).kH } }=c:=by
    show{ c with ws:=zh c.ws k (c k) }=c;rw[Fx]
   rw[e];exact this)
  rw[aq.z,aC.z]at G;clear aD;rcases Bo h7 m with hx|hx|hx;all_goals
   first
    | (have ac:max h7 m=m:=by omega)
    | (have ac:max h7 m=h7:=by omega)
   rw[ac]at G;have HG:=zb G;clear G ac;cases eg;all_goals
    go_wp2_with fail;all_goals first
     | (exfalso;omega)
     | (go_ret;exact HG.z)
     | (go_ret;subst hx;exact HG.z)
def IL(p:Nat->Bool)(n:Nat):zU n p (EY p n):=by
 have a:=List.findIdx_le_length (xs:=List.range n) (p:=p);rw[Bp]at a;refine⟨a,λh=>?_,λh=>?_⟩
 .have:=List.not_of_lt_findIdx (p:=p) (xs:=List.range n) (i:=EY p n-1) (by unfold EY at h ⊢;omega);simpa using this
 have:=List.findIdx_getElem (xs:=List.range n) (p:=p) (w:=by rw[Bp];exact h);simpa [EY]using this
structure DO.Ok(s:DO):Prop where
 wf:WF s.rs
 hi:∀j,j<s.rs.length->DB s.rs j<=zG
 fl:s.fl<=zG
 most:1<=s.most/\s.most<=1099511627776
 rl:s.rs.length<=s.most
variable{m1 m2:Nat}
def Tm{B:Nat}(e:m1<=m2)(g:m2<=rs.length)(h:∀j,j<rs.length->DB rs j<=B)(hb:hi<=B):∀i,i<(Dd rs m hi m1 m2).length->DB (Dd rs m hi m1 m2) i<=B:=by
 intro i n;rw[MH rs m hi m1 m2 e g]at n;rcases Bo i m1 with a|a|a
 .rw[(Lt rs m hi m1 m2 i e g a).2];exact h i I
 .subst a;rw[(QR rs m hi i m2 e g).2];unfold Dg;split
  .have:=h (m2-1) I;exact Nat.max_le.2 ⟨hb,this⟩
  exact hb
 rw[(JB rs m hi m1 m2 i e g a).2];exact h _ I
def Rh(h:WF rs)(k:Nat):WF (rs.drop k):=by
 refine⟨λi a=>?_,λi j e g=>?_⟩
 .rw[(Fz rs k i).1,(Fz rs k i).2];exact h.1 _<|by rw[Af]at a;omega
 rw[(Fz rs k i).2,(Fz rs k j).1];exact h.2 _ _ I<|by rw[Af]at g;omega
def DO.Ok.add{s:DO}(h:s.Ok)(lo:Nat)(q:hi<=zG):(s.add lo hi).Ok:=by
 have hb:hi<18446744073709551616:=by unfold zG at q;omega
 unfold DO.add;split
 .exact h
 rename_i a;have n:=IL (Dk s.rs<|max lo s.fl) s.rs.length;have a:=IL (Dl s.rs hi) s.rs.length;have e:=Ho h.wf I n a;have g:=Mm h.wf I hb n a;have u:=MH s.rs (max lo s.fl) hi _ _ e a.1;have n:=Tm (m:=max lo s.fl) e a.1 h.hi q;have m:=h.rl;have q:=h.most;have e:=a.1;have y:(Dd s.rs (max lo s.fl) hi (EY (Dk s.rs<|max lo s.fl) s.rs.length)<|EY (Dl s.rs hi) s.rs.length).length<=s.rs.length+1:=by
  rw[u];omega
 split
 .rename_i e;refine⟨Rh g 1,λj a=>?_,?_,q,?_⟩
  .rw[(Fz _ 1 j).2];exact n _<|by rw[Af]at a;omega
  .have a:=g.2 0 1 I I;have b:=g.1 1 I;have c:=n 1 I;show _+1<=zG;omega
  rw[Af];exact AR (Nat.sub_le_of_le_add y) m
 rename_i e;exact⟨g,n,h.fl,q,Bl e⟩
structure WS.Ok(x:WS):Prop where
 kH:x.kH.Ok
 kG:x.kG.Ok
 cut:x.kD<=x.final/\x.final<=zG/\x.kD<=zG
 len:x.b.length<=1048576
 kF:x.kF<=zG
 high:x.high<=x.b.length
structure CS.Ok(c:CS):Prop where
 kj:c.kj<=65536
 ln:c.kT<=4096
 lr:c.total<=4096
 kE:c.kE<=zG
 kF:c.kF<=zG
 ws:∀k,k<8->(c k).Ok
 rs:∀k,k<8->((c.rs k).used<=zG/\(c.rs k).kE<=zG)/\((c.rs k).lu=true->(c.rs k).used<=2305843009213693951)
 waits:∀f∈c.waits,f.Fits
def CS.Ok.qk(h:c.Ok):Ja c :=
 ⟨h.ln,h.lr,h.kE,λk a=>(h.rs k a).1,λk a q=>by have:=(h.rs k a).2 q;have:=h.ln;unfold zG;omega,λk a=>⟨(h.ws k a).cut.1,(h.ws k a).cut.2.1⟩⟩
theorem fG{f:Nat->WS}{B:Nat}:∀n,(∀k,k<n->(f k).high<=B)->zR f n<=n*B:=by
 intro n
 induction n with
 | zero=>intro _;simp[zR]
 | succ n ih =>
  intro h;have a:=ih<|λk a=>h k I;have a:=h n I;have:zR f (n+1)=zR f n+(f n).high:=rfl;rw[this,Cy];omega
def CS.Ok.ql(h:c.Ok)(e:k<8):Pg c k:=by
 have w:=h.ws k e;have a:=w.high;have a:=w.len;refine⟨e,w.cut.2.2,a,w.kF,by unfold zG;omega,h.kF,?_,w.kH.wf,λj a=>by have:=w.kH.hi j a;unfold zG at this;omega,w.kH.fl,w.kH.most,AR w.kH.rl w.kH.most.2⟩;have:=fG (f:=c.ws) (B:=1048576) 8 (λk e=>by have a:=(h.ws k e).high;have b:=(h.ws k e).len;omega);show zR c.ws 8<=zG;unfold zG;omega
def CS.put(c:CS)(d:DJ):Nat->Bool×CS×DJ
 | 0=>((c.control d).isSome,((c.control d).getD (c,d)).1,((c.control d).getD (c,d)).2)
 | 1=>((c.kU d).isSome,((c.kU d).getD (c,d)).1,((c.kU d).getD (c,d)).2)
 | k+2=>c.bytes d k
structure Gb(c:CS)(d:DJ)(r:Bool)(c':CS)(d':DJ):Prop where
 ok:c'.Ok
 yes:r=true->∃f,f.Fits/\f.kind≠2/\d.add f=some d'
 no:r=false->c'=c/\(d'=d\/d'={ d with full:=true })
 next:c'.next=c.next/\c'.now=c.now/\c'.closed=c.closed/\c'.kB=c.kB/\c'.kj=c.kj/\c'.answer=c.answer/\c'.kN=c.kN
theorem Rg(h:c.Ok):∀n k t,n+k=8->t<=zG->(FB c d n k t).2<=zG/\∀x,(FB c d n k t).1=some x->Gb c d true x.1 x.2:=by
 intro n
 induction n with
 | zero=>intro k t _ u;exact⟨u,λx q=>by cases q⟩
 | succ n ih =>
  intro k t n u;have g:k<8:=I;have n:min (t+(c.rs k).used) zG<=zG:=Nat.min_le_right _ _;have m:=ih (k+1) (min (t+(c.rs k).used) zG) I n;unfold FB;split
  .rename_i a;simp only[AV]at a;split
   .rename_i u hd;refine⟨n,λx q=>?_⟩;cases q;have z:=(h.rs k g).2 a.2;have A:=(h.rs k g).1.1;have a:=(h.rs k g).1.2;have n:=h.ln;have y:max (c.rs k).kE ((c.rs k).used+c.kT)<=zG:=by unfold zG at a ⊢;omega
    refine⟨⟨h.kj,h.ln,h.lr,h.kE,h.kF,h.ws,λj B=>?_,h.waits⟩,λ_=>⟨_,N3 g y,by simp[Ef],hd⟩,pu,⟨rfl,rfl,rfl,rfl,rfl,rfl,rfl⟩⟩;by_cases e:j=k
    .subst e;show(((zh c.rs j _) j).used<=_/\((zh c.rs j _) j).kE<=_)/\(((zh c.rs j _) j).lu=true->((zh c.rs j _) j).used<=_);rw[zf];exact⟨⟨A,y⟩,λ_=>z⟩
    show(((zh c.rs k _) j).used<=_/\((zh c.rs k _) j).kE<=_)/\(((zh c.rs k _) j).lu=true->((zh c.rs k _) j).used<=_);rw[zl _ _ e];exact h.rs j B
   exact m
  exact m
theorem Vw(h:c.Ok):∀n k,n+k=8->∀x,Ew c d n k=some x->Gb c d true x.1 x.2:=by
 intro n
 induction n with
 | zero=>intro k _ x a;cases a
 | succ n ih =>
  intro k n x a;have g:k<8:=I;have m:=ih (k+1) I;unfold Ew at a;split at a
  .split at a
   .rename_i n hd;cases a;have w:=h.ws k g;refine⟨⟨h.kj,h.ln,h.lr,h.kE,h.kF,λj q=>?_,h.rs,h.waits⟩,λ_=>⟨_,Pn g w.cut.2.1 w.cut.1,by simp[FJ],hd⟩,pu,⟨rfl,rfl,rfl,rfl,rfl,rfl,rfl⟩⟩;by_cases e:j=k
    .subst e;show(zh c.ws j _ j).Ok;rw[zf];exact⟨w.kH,w.kG,w.cut,w.len,w.kF,w.high⟩
    show(zh c.ws k _ j).Ok;rw[zl _ _ e];exact h.ws j q
   exact m x a
  exact m x a
def fF(h:c.Ok):∀x,c.control d=some x->Gb c d true x.1 x.2:=by
 intro x a;have e:=Rg (d:=d) h 8 0 c.total rfl (by have:=h.lr;unfold zG;omega);unfold CS.control at a;split at a
 .rename_i y m;cases a;exact e.2 _ m
 unfold LV at a;have g:=Vw (d:=d) h 8 0 rfl;split at a
 .split at a
  .rename_i m hd;cases a;have m:=Nat.max_le.2 ⟨e.1,h.kE⟩;exact⟨⟨h.kj,h.ln,h.lr,m,h.kF,h.ws,h.rs,h.waits⟩,λ_=>⟨_,Po m,by simp[FD],hd⟩,pu,⟨rfl,rfl,rfl,rfl,rfl,rfl,rfl⟩⟩
  exact g x a
 exact g x a
def Ut{fin:Bool}(h:c.Ok)(a:k<8)(g:lo<=(c k).b.length)(m:hi<=(c k).b.length):Gb c d (c.lA d k lo hi fin).1 (c.lA d k lo hi fin).2.1 (c.lA d k lo hi fin).2.2:=by
 have w:=h.ws k a;have g:=w.len;unfold CS.lA;split
 .exact⟨h,pu,λ_=>⟨rfl,.inr rfl⟩,⟨rfl,rfl,rfl,rfl,rfl,rfl,rfl⟩⟩
 rename_i g hd;refine⟨⟨h.kj,h.ln,h.lr,h.kE,h.kF,λj n=>?_,h.rs,h.waits⟩,λ_=>⟨_,QP a ?_ ?_,by simp[Do],hd⟩,pu,⟨rfl,rfl,rfl,rfl,rfl,rfl,rfl⟩⟩
 .by_cases e:j=k
  .subst e;show(zh c.ws j _ j).Ok;rw[zf];refine⟨?_,w.kG,w.cut,w.len,w.kF,Nat.max_le.2 ⟨w.high,m⟩⟩;split
   .exact w.kH.add lo (by unfold zG;omega)
   exact w.kH
  show(zh c.ws k _ j).Ok;rw[zl _ _ e];exact h.ws j n
 .rw[AU,Af];omega
 rw[AU,Af];unfold zG;omega
def Tl(h:c.Ok)(e:k<8)(a:lo<=(c k).b.length)(g:hi<=(c k).b.length):Gb c d (c.lI d k lo hi).1 (c.lI d k lo hi).2.1 (c.lI d k lo hi).2.2:=by
 unfold CS.lI;split
 .rename_i m;split
  .exact⟨h,pu,λ_=>⟨rfl,.inr rfl⟩,⟨rfl,rfl,rfl,rfl,rfl,rfl,rfl⟩⟩
  exact Ut h e a I
 exact Ut h e a g
def YR(h:c.Ok)(a:k<8):Gb c d (c.bytes d k).1 (c.bytes d k).2.1 (c.bytes d k).2.2:=by
 have e:=Lp (c k).kH.rs 0<|c.lU k;have e:=AR (OC c k)<|AR (Bq _ _)<|Bq _ _;have no:Gb c d false c d:=⟨h,pu,λ_=>⟨rfl,.inl rfl⟩,⟨rfl,rfl,rfl,rfl,rfl,rfl,rfl⟩⟩;unfold CS.bytes;split
 .exact no
 split
 .split
  .exact no
  exact Tl h a (AI _)<|AI _
 exact Tl h a I I
def cG(h:f.Fits)(a:f.kind=2):False:=by
 have e:=h.sound;have g:=h.rn
 revert e
 simp[zH,a,g,zP];intro _ _;rfl
variable{q:Nat}
theorem Nt(h:c.Ok)(a:q<10):Gb c d (c.put d q).1 (c.put d q).2.1 (c.put d q).2.2:=by
 have no:Gb c d false c d:=⟨h,pu,λ_=>⟨rfl,.inl rfl⟩,⟨rfl,rfl,rfl,rfl,rfl,rfl,rfl⟩⟩
 match q,a with
 | 0,_ =>
  show Gb c d (c.control d).isSome ((c.control d).getD (c,d)).1 ((c.control d).getD (c,d)).2;cases hc:c.control d with
  | none=>exact no
  | some x=>exact fF h x hc
 | 1,_ =>
  show Gb c d (c.kU d).isSome ((c.kU d).getD (c,d)).1 ((c.kU d).getD (c,d)).2;unfold CS.kU;cases hw:c.waits with
  | nil=>exact no
  | cons f l =>
   cases hd:d.add f with
   | none=>simp only[hd,Option.map_none];exact no
   | some d' =>
    simp only[hd,BP];have a:=h.waits f (by rw[hw];exact BB);exact⟨⟨h.kj,h.ln,h.lr,h.kE,h.kF,h.ws,h.rs,λg e=>h.waits g<|by rw[hw];exact BA _ e⟩,λ_=>⟨f,a,λe=>cG a e,hd⟩,pu,⟨rfl,rfl,rfl,rfl,rfl,rfl,rfl⟩⟩
 | k+2,hk =>
  exact YR h (I:k<8)
structure DJ.Ok(d:DJ):Prop where
 b:d.b.length<=65536
 fs:d.fs.length<=d.b.length
 room:d.room<=65536
def UV(f:DF):1<=(zC f).length:=by
 unfold zC IG IF ID IK IE Fy Fa;repeat' split
 all_goals simp
def DJ.lz(h:d.add f=some d'):d'.b=d.b++zC f/\d'.fs=d.fs++[f]/\d'.room=d.room/\d'.full=d.full/\d'.kX=(d.kX||f.kind != 2)/\d'.b.length+4<=d.room:=by
 unfold DJ.add at h;split at h
 .cases h
 rename_i a;cases h;exact⟨rfl,rfl,rfl,rfl,rfl,by simp only;omega⟩
theorem Gb.qh{r:Bool}(h:Gb c d r c' d')(hd:d.Ok):d'.Ok/\d'.room=d.room/\(r=true->d.b.length<d'.b.length/\d'.b.length+4<=d.room)/\d.b.length<=d'.b.length:=by
 cases r with
 | true =>
  obtain⟨f,g,_,a⟩:=h.yes rfl;obtain⟨g,m,n,_,_,q⟩:=DJ.lz a;have hb:=UV f;have a:d'.b.length=d.b.length+(zC f).length:=by rw[g,AF]
  have a:=hd.room;have a:=hd.fs;exact⟨⟨I,by rw[m,AF,Ak];omega,I⟩,n,λ_=>⟨I,q⟩,I⟩
 | false =>
  obtain⟨_,e|e⟩:=h.no rfl
  .rw[e];exact⟨hd,rfl,pu,AI _⟩
  rw[e];exact⟨⟨hd.b,hd.fs,hd.room⟩,rfl,pu,AI _⟩
def CS.lP(q:Nat):Nat->CS->DJ->CS×DJ
 | 0,c,d=>(c,d)
 | n+1,c,d=>if (c.put d q).1=true then CS.lP q n (c.put d q).2.1 (c.put d q).2.2 else((c.put d q).2.1,(c.put d q).2.2)
def CS.lB:Nat->CS->DJ->CS×DJ
 | 0,c,d=>(c,d)
 | n+1,c,d=>CS.lB n (CS.lP (9-n) (d.room+1) c d).1 (CS.lP (9-n) (d.room+1) c d).2
def CS.fill(c:CS)(d:DJ):CS×DJ:=CS.lB 10 c d
def Qs(l:List Nat):List Nat:=(GW (l.length-1) (FX l 0 (l.length-1)) 0 (l.length-1)).take (l.length-1)
def Ga:Nat->List Nat
 | 0=>List.range 10
 | n+1=>Qs<|Ga n
def Ui:∀n,n<=10->(Ga n).length=10-n:=lc
def cF:∀n,n<10->GW ((Ga n).length-1) (FX (Ga n) 0 ((Ga n).length-1)) 0 ((Ga n).length-1)=Ga (n+1)++[n]:=lc
def FR(tag:qr)(t:Nat×Nat)(W:rT)(v:rU)(l:zE):Prop:=RR W v l/\∀g,Value.kr v=some g->tag g=t
def FR.mod{t:Nat×Nat}{l:zE}(h:FR tag t W v l)(m:C9 S W W')(e:∀g,S g->tag g≠t)(n:∀g,tag g=t->tag' g=t):FR tag' t W' v l :=
 ⟨h.1.mod m<|GB λg a x=>e g x<|h.2 g a,λg a=>n g<|h.2 g a⟩
def FR.nil(tag:qr)(t:Nat×Nat)(W:rT):FR tag t W rV [] :=
 ⟨⟨none,0,rfl,AI _,AK _,λi a=>absurd a<|Al i⟩,λg a=>by simp[Value.kr]at a⟩
def CS.lK(c:CS):zE×CS:=if c.answer then(c.kN.rs.reverse,{ c with answer:=false })else([],c)
def YQ(tag:qr)(i b:Nat)(W:rT)(l:zE)(c':CS)(e:Ending)(W':rT):Prop :=
 ∃v tag' V',e=.returned v/\FR tag' (i,5) W' v l/\zn tag' i b c' V' W'/\DK i tag tag' W W'/\C9 (Da i tag) W W'
variable{e sz:Nat}
def Pf(h:w.ownsRow 0 e sz v n xs)(a:Value.kr v=some g):v.ownBlock=some g:=by
 rcases h.2 with⟨rfl,_⟩|⟨h,e,g,rfl,_⟩
 .simp[Value.kr]at a
 simpa [Value.kr,Value.ownBlock]using a
theorem YP(h:zn tag i b c V W)(E:Dn i tag W)(a:c.kN.Ok):rH 83 #[(b,0)] W (YQ tag i b W c.lK.1 c.lK.2):=by
 have A:=h.hd (j:=8) rfl;have Y:=h.hd (j:=7) rfl;have m:=zb h;have B:=zb E;have Z:=zb a;cases ha:c.answer with
 | false =>
  rw[ha]at A;have n:c.lK=([],c):=by simp[CS.lK,ha]
  rw[n];clear h E a n ha;go_enter func83,ntmps83;go_wp2;go_ret;exact⟨_,tag,V,rfl,FR.nil _ _ _,m.z,DK.same B.z.ok<|C9.refl DA _,C9.refl _ _⟩
 | true =>
  rw[ha]at A;have n:c.lK=(c.kN.rs.reverse,{ c with answer:=false }):=by simp[CS.lK,ha]
  rw[n];have C:V.g≠b:=λe=>by
   have D:=h.tg;have G:=h.tb;rw[e,G]at D;simp at D
  obtain⟨W1,q⟩:=nm<|W.setCell (U b 8)<|.bool false;have z:zn tag i b { c with answer:=false } V W1:=by
   rw[<-q];exact h.store 8 (.bool false) (IN c { c with answer:=false } V V (j:=8) (.bool false) lc rfl rfl rfl rfl) ⟨rfl,λ_ _=>⟨rfl,rfl,rfl⟩,λ_ _=>⟨rfl,rfl⟩,rfl,rfl,rfl,rfl⟩
  have K:C9 (λg=>g=b) W W1:=by rw[<-q];exact(C9.refl (λg=>g=b) _).setCell rO _
  have u:C9 (Da i tag) W W1:=K.mono (λg a=>.inl (EM (r:=1) (by rw[show g=b from a];exact h.tb) lc));have R:=λW2 (m:C9 DA W1 W2) (X:Nat) (L:W2 X=some (.pointer V.g))=>jD c.kN.rs c.kN.fl c.kN.most V.g X V.gv W2 (z.kI m).kN (λj M=>qm<|a.wf.1 j M) L
  have m:=cQ V.g W1;have L:=z.hd (j:=7) rfl;have fz:=h.fz 8;have H1:=zb z;have M1:=zb K;have N:=zb u;have KC:=zb R;have L:=zb m;clear h E a n ha z K u R m C;go_enter func83,ntmps83;go_upto_region 4 with fail;clear q A Y;go_wp2_with (first|(go_at_call 81;refine L.z.mono ?_;rintro e h ⟨rfl,rfl⟩)|(go_at_call 114;refine(KC.z _ ((C9.refl DA W1).alloc _) _<|za (heap_alloc_new W1 _) rfl).mono ?_;rintro e y ⟨v,rfl,O,hn,hm⟩));go_ret;have m:=((C9.refl DA W1).alloc<|.cells #[(V.g,0)] 101).trans hm;have h:=zI O;have e:=M1.z.size;have u:=N.z.trans<|m.mono rQ;have e:∀g,(tag g).1=i->zT tag W y (i,5) g=tag g:=λg a=>zx (by
   by_cases q:g<W.heap.size
   .exact q
   have:=B.z.ok g I;rw[this]at a;have:=B.z.pos;have a:(0:Nat)=i:=a;omega)
  refine⟨v,zT tag W y (i,5),V,rfl,⟨?_,λg a=>?_⟩,H1.z.mod m rQ e,⟨λg a=>zx a,λg a=>?_,λg a=>?_⟩,u⟩
  .have e:c.kN.rs.reverse.length=c.kN.rs.length:=nl;have m:y.ownsRow 0 110 2 v c.kN.rs.reverse.length (zw c.kN.rs.reverse):=by rw[e];exact O
   exact cU (rs:=c.kN.rs) m (λj M=>qm<|Z.z.wf.1 j M)<|λx n=>List.mem_reverse.1 n
  .have hb:=Pf O a;have D:=hn g hb;have G:=h g hb;have e:(W1.alloc<|.cells #[(V.g,0)] 101).heap.size=W1.heap.size+1:=nl;exact FH I G
  .by_cases q:g<y.heap.size
   .exact .inl (by rw[FH a q])
   exact .inr<|by simp only[zT,(I:¬g<W.heap.size),q,AH,Ae]
  have:=u.size;simp only[zT,(I:¬g<W.heap.size),(I:¬g<y.heap.size),AH,Ae]
def kP(rs:zE):DF:=⟨2,0,0,0,0,false,0,0,[],rs⟩
def Ep(d:DJ)(l:zE):Nat->Nat
 | 0=>0
 | n+1=>if 1<n+1/\d.room<(d.b++zC (kP<|l.take<|n+1)).length+4 then Ep d l n else n+1
def Gx(d:DJ)(l:zE):DJ×zE:=((d.add (kP (l.take (Ep d l l.length)))).getD d,l.drop (Ep d l l.length))
theorem SN(d:DJ)(l:zE):∀n,Ep d l n<=n
 | 0=>AI _
 | n+1=>by
  unfold Ep;split
  .exact AR (SN d l n) (Ar n)
  exact AI _
theorem QO(d:DJ)(l:zE):∀n,1<=n->1<=Ep d l n
 | 0,h=>h
 | n+1,_=>by
  unfold Ep;split
  .rename_i h;exact QO d l n I
  omega
def RH(l:zE):Prop:=∀n,1<=n->n<=l.length->zH (kP (l.take n))=true
def P3(l:zE):(zC (kP l)).length<=64+16*l.length:=by
 have e:zC (kP l)=Fa (kP l):=rfl;have a:=zK<|DB l 0;have a:=zK<|l.length-1;have a:=zK<|DB l 0-DE l 0;have a:=Mu l<|l.length-1;have a:(kP l).kC=l:=rfl;rw[e];unfold Fa;rw[a];simp only[AF,Aa,Aw];omega
variable{a:qs}{cap:Nat}
def Pe{l:zE}(h:RR w (.slice a l.length cap) l)(g:n<=l.length)(c2:Nat)(u:n<=c2)(m:c2<=maxLen):RR w (.slice a n c2) (l.take n):=by
 obtain⟨u,g,e,_,_,q⟩:=h;cases e;have g:(l.take n).length=n:=by rw[AU];omega
 refine⟨a,c2,by rw[g],I,m,λi a=>?_⟩;obtain⟨g,o,e,h,m,u⟩:=q i I;have a:=Mk l n i I;rw[a.1,a.2];exact⟨g,o,e,h,m,u⟩
variable{o:Nat}
def Rf{l:zE}(h:RR w (.slice (g,o) l.length cap) l)(a:n<=l.length):RR w (.slice (g,o+n*2) (l.length-n) (cap-n)) (l.drop n):=by
 obtain⟨z,a,e,A,B,m⟩:=h;cases e;refine⟨_,cap-n,by rw[Af],by rw[Af];omega,I,λi a=>?_⟩;rw[Af]at a;obtain⟨a,h,e,q,u,y⟩:=m (n+i) I;cases e;have a:=Fz l n i;rw[a.1,a.2];refine⟨g,o+n*2,rfl,?_,?_,y⟩
 .rw[(I:o+n*2+i*2=o+(n+i)*2)];exact q
 rw[(I:o+n*2+i*2+1=o+(n+i)*2+1)];exact u
def Re{l:zE}(e:l.length-n=0):RR w (.slice a (l.length-n) 0) (l.drop n):=by
 refine⟨a,0,by rw[Af],by rw[Af];omega,AK _,λi a=>?_⟩;rw[Af]at a;omega
def zW.qG(h:zW tag i b db W c d tag' V' mS mV l' W1)(q:DX W1 mS d.b new v' W2):zW tag i b db W c d (zT tag' W1 W2 (i,91)) V' mS mV l' W2/\DK i tag' (zT tag' W1 W2 (i,91)) W1 W2/\C9 (I2 i tag') W1 W2:=by
 have u:=h.ok;have e:=h.d;have n:=(C9.refl (λg=>mS.ownBlock=some g) W1).grown q.grown<|λg a=>.inl a;have m:∀{g r:Nat},tag' g=(i,r)->g<W1.heap.size:=λa=>Ds u a h.p
 have z:EZ (zT tag' W1 W2 (i,91)) i db d mS mV l' W2 :=
  ⟨n.obj (λx=>zn.apart e.tb (e.mU _ x) lc rfl) e.obj,by rw[zx (m e.tb),e.tb],q.lH,λg a=>by rw[zx (m<|e.mU g a),e.mU g a],n.owns e.own<|λg a x=>zn.apart (e.nD g a) (e.mU g x) lc rfl,e.lf,
   λx q=>⟨(e.rr x q).1.mod n<|GB λg a y=>zn.apart ((e.rr x q).2 g a) (e.mU g y) lc rfl,λg a=>by rw[zx (m<|(e.rr x q).2 g a),(e.rr x q).2 g a]⟩,λg a=>by rw[zx (m<|e.nD g a),e.nD g a]⟩
 have md:C9 (I2 i tag') W1 W2:=n.mono<|λg a=>.inl ⟨91,lc,e.mU g a⟩;have e:Is i tag' (zT tag' W1 W2 (i,91)) W1 W2:=by
  refine⟨λg a=>zx a,λg a=>?_,λg a=>?_⟩
  .by_cases q:g<W2.heap.size
   .exact .inl ⟨91,lc,FH a q⟩
   exact .inr<|by simp only[zT,(I:¬g<W1.heap.size),q,AH,Ae]
  have:=n.size;simp only[zT,(I:¬g<W1.heap.size),(I:¬g<W2.heap.size),AH,Ae]
 exact⟨⟨h.c.nj u h.p md e.lH,z,h.e.trans e.ext h.m.size,Ek h.e h.m<|L5 md,h.p⟩,e.ext,md⟩
def OA(tag:qr)(i b m:Nat)(W:rT)(c:CS)(n:DJ)(q:zE)(e:Ending)(W':rT):Prop :=
 ∃v tag' V' a g h,e=.returned v/\FR tag' (i,5) W' v q/\zW tag i b m W c n tag' V' a g h W'
def FR.om{l:zE}(h:FR tag (i,5) W v l)(n:zL tag W)(hi:0<i)(m:C9 (I2 i tag) W W')(e:∀g,g<W.heap.size->tag' g=tag g):FR tag' (i,5) W' v l :=
 h.mod m (λg ⟨r,hr,hx⟩ x=>by rw[hx]at x;simp at x;omega) (λg a=>by rw[e g (Ds n a hi),a])
def YO{lv:rU}{l:List (DF×rU)}{m:zE}(h:zn tag i b c V W)(hD:EZ tag i db d bv fv l W)(E:Dn i tag W)(hl:FR tag (i,5) W lv m)(aj:1<=m.length)(af:RH m)(an:m.length<=1048576)(ao:d.b.length<=1073741824)(ap:d.fs.length<=1073741824)(aq:d.room<=1073741824):rH 85 #[(b,0),(db,0),lv] W (OA tag i b db W c (Gx d m).1 (Gx d m).2):=by
 have S0:AA (zW tag i b db W c d tag V bv fv l W):=zb ⟨h,hD,DK.same E.ok (C9.refl DA _),C9.refl _ _,E.pos⟩;have aa:l.length=d.fs.length:=by rw[<-hD.lf,Az]
 obtain⟨ba,C,ak,_⟩:=zi hD.ob;subst ak;obtain⟨a,B,e,n1,n2,n3⟩:=hl.1;subst e;obtain⟨g,o,ea,_⟩:=n3 0 I;subst ea;obtain⟨N,hN⟩:=nm (Ep d m m.length);have hT:Gx d m=((d.add (kP (m.take N))).getD d,m.drop N):=by unfold Gx;rw[hN]
 rw[hT];have R0:=zb hl;have HN:=zb hN;have ac:=zb af;have ag:=zb aa;have al:=n2;unfold maxLen at al;clear h hD E hl n3 af hT hN aa;go_enter func85,ntmps85;go_wp2_with fail
 go_loopw [7] (λh wr=>∃(n:Nat) (tag':qr),h=.int .i64 n/\1<=n/\n<=m.length/\AA (Ep d m n=N)/\AA (zW tag i b db W c d tag' V (.slice ba d.b.length C) fv l wr)/\AA (FR tag' (i,5) wr (.slice (g,o) m.length B) m)) (λh _=>(intOf h).toNat)
 case atStart=>exact⟨m.length,tag,rfl,aj,AI _,HN,S0,R0⟩
 case round =>
  clear S0 R0 HN;obtain⟨n,tag',rfl,h1,h2,HN,SS,ah⟩:=hrel;have h:(0:Int)<=n:=I
  have h:(n:Int)<=B:=I
  have h:((n:Int)).toNat=n:=I
  by_cases ai:1<n
  .have d3:(1:Int)<n:=I
   have ht:(m.take n).length=n:=by rw[AU];omega
   have am:=P3 (m.take n);have sd:=SS.z.kI ((C9.refl DA wr).drew);have rd:=ah.z.mod ((C9.refl DA wr).drew) rQ (λ_ x=>x);have od:=sd.d.obj;have ka:=QX (.slice ba d.b.length C) d.b (kP (m.take n)) (.slice (g,o) n B) wr.drew sd.d.ob (λ_=>GB λq D x=>zn.apart (rd.2 q D) (sd.d.mU q x) lc rfl) (Pe rd.1 h2 B I n2) (by show(m.take n).length<=_;omega) (by show(0:Nat)<=_;omega) I;rw [show ze (kP (m.take n)) (.slice (some ⟨g, o, none⟩) n B) = #[.int .i64 2, .int .i64 0, .int .u64 0, .int .u64 0, .int .u64 0, .bool false, .int .u64 0, .int .u64 0, .string "".toUTF8, .slice (some ⟨g, o, none⟩) n B] from rfl] at ka;have kb:∀e w2,OM wr.drew (.slice ba d.b.length C) d.b (zH (kP (m.take n))) (zC (kP (m.take n))) e w2->∃a2 c2 O,e=.returned (.slice a2 (d.b++zC (kP (m.take n))).length c2)/\AA (zW tag i b db W c d O V (.slice ba d.b.length C) fv l w2)/\AA (FR O (i,5) w2 (.slice (g,o) m.length B) m):=by
    rintro e w2 (⟨_,h,rfl,hA⟩|⟨hx,_⟩)
    .obtain⟨h,E,m2⟩:=sd.qG hA;obtain⟨a2,c2,e3,_⟩:=zi hA.own;exact⟨a2,c2,_,by rw[e3],h,rd.om sd.ok sd.p m2 E.lH⟩
    .rw[ac.z n h1 h2]at hx;cases hx
   obtain⟨L,h⟩:=nm ((d.b++zC (kP (m.take n))).length);rw[h]at kb;have E:L<=2147483648:=by rw[<-h,AF];omega
   have E:IntKind.i64.wrap ((L:Int)+4)=(L:Int)+4:=IntWalk.i64_in _ I;have KA:=zb (ka.mono kb);have HL:=zb h;have E:=zb od;clear ka kb am h ht sd rd od;go_wp2_with fail;refine zr 20 (λw'=>w'.heap[db]?=some (.cells #[.slice ba d.b.length C,fv,[d.room],d.kX,d.full] 162 (0,0))) (E.z) ?_;refine GI 0 ?_;iterate 11
    refine GS rfl ?_ ?_ ?_;rotate_left
    ·(intro wx y;(try dsimp only at y);have c0:=za (o:=0) y rfl;have c2:=za (o:=2) y rfl;go_simp;try with_reducible rfl)
    try simp only[PS]
   refine GI 14 ?_;iterate 4
    refine GS rfl ?_ ?_ ?_;rotate_left
    ·(intro wx y;(try dsimp only at y);have c0:=za (o:=0) y rfl;have c2:=za (o:=2) y rfl;go_simp;try with_reducible rfl)
    try simp only[PS]
   refine zD 11 rfl (λK hK=>?_);go_simp;refine KA.z.mono ?_;rintro e w2 ⟨a2,c2,O,rfl,G,Z⟩;refine hK.z _ _ G.z.d.obj ?_;clear hK K;try simp only[PS]
   refine GI 12 ?_;iterate 2
    refine GS rfl ?_ ?_ ?_;rotate_left
    ·(intro wx y;(try dsimp only at y);have c0:=za (o:=0) y rfl;have c2:=za (o:=2) y rfl;go_simp;try with_reducible rfl)
    try simp only[PS]
   refine GI 18 ?_;iterate 2
    refine GS rfl ?_ ?_ ?_;rotate_left
    ·(intro wx y;(try dsimp only at y);have c0:=za (o:=0) y rfl;have c2:=za (o:=2) y rfl;go_simp;try with_reducible rfl)
    try simp only[PS]
   refine zt ?_;by_cases ab:d.room<L+4
   .have d4:(d.room:Int)<(L:Int)+4:=I
    have h:IntKind.i64.wrap ((n:Int)-1)=((n-1:Nat):Int):=by rw[IntWalk.i64_in _ I];omega
    go_wp2;go_roundw
    case rel =>
     have hl:=HL.z;have hn:=HN.z;refine⟨n-1,O,rfl,I,I,zb ?_,G,Z⟩;obtain⟨k,rfl⟩:∃k,n=k+1:=⟨n-1,I⟩;rw[<-hn,Bz]
     conv=>rhs;unfold Ep
     rw[AL ⟨ai,by rw[hl];exact ab⟩]
    case measure =>
     simp[intOf];omega
   .have d4:¬(d.room:Int)<(L:Int)+4:=I
    have ad:N=n:=by
     have hl:=HL.z;rw[<-HN.z];obtain⟨k,rfl⟩:∃k,n=k+1:=⟨n-1,I⟩;unfold Ep;rw[AH (λx=>ab (by have:=x.2;rw[hl]at this;exact this))]
    subst ad;go_upto_region 4 with fail;have kd:=OE G.z.d G.z.ok G.z.p (kP (m.take N)) (some ⟨g,o,none⟩) N N (ac.z N h1 h2) (Pe Z.z.1 h2 N (AI _) I) (λq D=>Z.z.2 q (by simpa [Value.kr]using D)) (by show(m.take N).length<=_;rw[AU];omega) (by show(0:Nat)<=_;omega) I (by have:=P3 (m.take N);rw[AU]at this;omega) (by rw[ag.z];omega);rw [show ze (kP (m.take N)) (.slice (some ⟨g, o, none⟩) N N) = #[.int .i64 2, .int .i64 0, .int .u64 0, .int .u64 0, .int .u64 0, .bool false, .int .u64 0, .int .u64 0, .string "".toUTF8, .slice (some ⟨g, o, none⟩) N N] from rfl] at kd;have KD:=zb (kd.mono (R':=λe R=>∃x u z A X,e=.returned (.bool x)/\AA (zW tag i b db W c ((d.add (kP (m.take N))).getD d) u V z A X R)/\AA (FR u (i,5) R (.slice (g,o) m.length B) m)) (λe R ae=>by
     obtain⟨e1,u,z,A,X,s3,M,m3⟩:=G.z.pK ae;exact⟨_,u,z,A,X,e1,s3,Z.z.om G.z.ok G.z.p m3 M⟩))
    clear kd;go_upto_region 5 with(go_at_call 113;refine KD.z.mono ?_;rintro e R ⟨x,u,z,A,X,rfl,S3,R3⟩);have HF:AA (∀Y,RR R Y (m.drop N)->(∀q,Value.kr Y=some q->q=g)->OA tag i b db W c ((d.add (kP (m.take N))).getD d) (m.drop N) (.returned Y) R):=zb λY hv D=>⟨Y,u,V,z,A,X,rfl,⟨hv,λq hb=>by rw[D q hb];exact R3.z.2 g rfl⟩,S3.z⟩
    have d5:(N:Int)<=m.length:=I
    go_wp2_with fail;all_goals go_ret
    .exact HF.z _ (Re I) (λq D=>by simpa [Value.kr]using D.symm)
    .exact HF.z _ (Rf R3.z.1 h2) (λq D=>by simpa [Value.kr]using D.symm)
  .have d3:¬(1:Int)<n:=I
   have ad:N=n:=by
    rw[<-HN.z];obtain⟨k,rfl⟩:∃k,n=k+1:=⟨n-1,I⟩;unfold Ep;rw[AH (λx=>ai x.1)]
   subst ad;have hd:decide ((1:Int)<N)=false:=qp d3
   go_wp2;go_quiet (fail);have G:=λa=>zb (SS.z.kI ((C9.refl DA wr).drewN a))
   have Z:=λa=>zb (ah.z.mod ((C9.refl DA wr).drewN a) rQ (λ_ x=>x))
   replace G:=G ‹Nat›;replace Z:=Z ‹Nat›;go_upto_region 4 with fail;have kd:=OE G.z.d G.z.ok G.z.p (kP (m.take N)) (some ⟨g,o,none⟩) N N (ac.z N h1 h2) (Pe Z.z.1 h2 N (AI _) I) (λq D=>Z.z.2 q (by simpa [Value.kr]using D)) (by show(m.take N).length<=_;rw[AU];omega) (by show(0:Nat)<=_;omega) I (by have:=P3 (m.take N);rw[AU]at this;omega) (by rw[ag.z];omega);rw [show ze (kP (m.take N)) (.slice (some ⟨g, o, none⟩) N N) = #[.int .i64 2, .int .i64 0, .int .u64 0, .int .u64 0, .int .u64 0, .bool false, .int .u64 0, .int .u64 0, .string "".toUTF8, .slice (some ⟨g, o, none⟩) N N] from rfl] at kd;have KD:=zb (kd.mono (R':=λe R=>∃x u z A X,e=.returned (.bool x)/\AA (zW tag i b db W c ((d.add (kP (m.take N))).getD d) u V z A X R)/\AA (FR u (i,5) R (.slice (g,o) m.length B) m)) (λe R ae=>by
    obtain⟨e1,u,z,A,X,s3,M,m3⟩:=G.z.pK ae;exact⟨_,u,z,A,X,e1,s3,Z.z.om G.z.ok G.z.p m3 M⟩))
   clear kd;go_upto_region 5 with(go_at_call 113;refine KD.z.mono ?_;rintro e R ⟨x,u,z,A,X,rfl,S3,R3⟩);have HF:AA (∀Y,RR R Y (m.drop N)->(∀q,Value.kr Y=some q->q=g)->OA tag i b db W c ((d.add (kP (m.take N))).getD d) (m.drop N) (.returned Y) R):=zb λY hv D=>⟨Y,u,V,z,A,X,rfl,⟨hv,λq hb=>by rw[D q hb];exact R3.z.2 g rfl⟩,S3.z⟩
   have d5:(N:Int)<=m.length:=I
   go_wp2_with fail;all_goals go_ret
   .exact HF.z _ (Re I) (λq D=>by simpa [Value.kr]using D.symm)
   .exact HF.z _ (Rf R3.z.1 h2) (λq D=>by simpa [Value.kr]using D.symm)
variable{fn:Nat->rU}
theorem jw{a:Nat->rU}:∀{l:List Nat},(∀x∈l,fn x=a x)->EK fn l=EK a l:=by
 intro l
 induction l with
 | nil=>intro _;rfl
 | cons x l ih =>
  intro h;have e:=ih<|λy g=>h y<|BA _ g;show [Value.int .i64 x,fn x]++EK fn l=[Value.int .i64 x,a x]++EK a l;rw[e,h x BB]
variable{sb:Nat}
def EA.congr{e:Nat->rU}{l:List Nat}(h:EA sb fn l g cap W)(m:∀x∈l,fn x=e x)(n:∀c,∃f a b,e c=.func f a b):EA sb e l g cap W :=
 {h with own:=by rw[<-jw m];exact h.own,fns:=n }
def Jq(b a:Nat)(e:Nat->Nat):Nat->rU
 | 0=>.func (.func 116) #[.pointer b] #[]
 | 1=>.func (.func 117) #[.pointer b] #[]
 | k+2=>.func (.func 119) #[] #[.pointer a,.pointer (U (e k) 0)]
theorem Qk(b e:Nat)(g:Nat->Nat):∀c,∃f a x,Jq b e g c=.func f a x
 | 0=>⟨_,_,_,rfl⟩
 | 1=>⟨_,_,_,rfl⟩
 | _+2=>⟨_,_,_,rfl⟩
def zW.then{r:Bool}{e:Ending}(h:zW tag i b db W c d tag' V' mS mV l' W')(z:GK tag' i b db W' c' d' r e W''):e=.returned (.bool r)/\∃a n g m q,zW tag i b db W c' d' a n g m q W''/\DK i tag' a W' W''/\C9 (Da i tag') W' W'':=by
 obtain⟨rfl,a,n,g,m,q,A,B,u,y⟩:=z;exact⟨rfl,a,n,g,m,q,⟨A,B,h.e.trans u h.m.size,Ek h.e h.m y,h.p⟩,u,y⟩
variable{W0:rT}
def GK.lJ{r:Bool}{e:Ending}(q:zL tag W)(g:C9 DA W W0)(h:GK tag i b db W0 c d r e W'):GK tag i b db W c d r e W':=by
 obtain⟨rfl,a,u,m,n,y,z,A,B,C⟩:=h;refine⟨rfl,a,u,m,n,y,z,A,(DK.same q g).trans B g.size,(g.mono rQ).trans C⟩
structure Er(tag:qr)(i b db:Nat)(W0:rT)(cb:Nat)(kb:Nat->Nat)(n:Nat)(l:List Nat)(sb g cap:Nat)(tag':qr)(W:rT):Prop where
 heap:EA sb (Jq b cb kb) l g cap W
 hc:W cb=some (.pointer b)
 hk:∀k,k<n->W ⟨kb k,0,none⟩=some (.int .i64 k)
 fr:∀q,(q=sb\/q=g\/q=cb\/∃k,k<n/\q=kb k)->W0.heap.size<=q/\tag' q=(0,0)
 ne:∀q,(q=cb\/∃k,k<n/\q=kb k)->q≠sb/\q≠g
variable{cb:Nat}
def Er.mod{u:Nat->Nat}{l:List Nat}{a:qr}(h:Er tag i b db W0 cb u n l sb g cap tag' W)(m:C9 S W W')(A:∀q,S q->W0.heap.size<=q->tag' q≠(0,0))(B:∀q,q<W.heap.size->a q=tag' q):Er tag i b db W0 cb u n l sb g cap a W':=by
 have q:∀{q:Nat},(q=sb\/q=g\/q=cb\/∃k,k<n/\q=u k)->¬S q:=λa x=>A _ x (h.fr _ a).1 (h.fr _ a).2
 have y:=zo h.heap.c0;have C:=zI h.heap.own g rfl;refine⟨h.heap.mod m (q rO)<|q<|.inr rO,m.cell (q<|.inr<|.inr rO) h.hc,λk e=>m.cell (q<|.inr<|.inr<|.inr ⟨k,e,rfl⟩)<|h.hk k e,λx z=>⟨(h.fr x z).1,?_⟩,h.ne⟩;rw[B x ?_]
 .exact(h.fr x z).2
 rcases z with rfl|rfl|rfl|⟨k,e,rfl⟩
 .exact y
 .exact C
 .exact zo h.hc
 exact zo<|h.hk k e
def Er.src{q:Nat->Nat}{l:List Nat}{a:qr}(h:Er tag i b db W0 cb q n l sb g cap tag' W)(hi:0<i)(e:DK i tag' a W W')(m:C9 (Da i tag') W W'):Er tag i b db W0 cb q n l sb g cap a W' :=
 h.mod m.pF (λq a _ x=>by rw[x]at a;simp at a;omega) (λq a=>e.lH q a)
def Er.kI{a:Nat->Nat}{l:List Nat}(h:Er tag i b db W0 cb a n l sb g cap tag' W)(m:C9 DA W W'):Er tag i b db W0 cb a n l sb g cap tag' W' :=
 h.mod m rQ (λ_ _=>rfl)
def Er.oW{y:Nat->Nat}{l D:List Nat}{A a:Nat}(h:Er tag i b db W0 cb y n l sb g cap tag' W)(E:zL tag' W)(K:W0.heap.size<=W.heap.size)(G:EA sb (Jq b cb y) D A a W')(z:A=g\/W.heap.size<=A)(m:C9 (λq=>q=sb\/q=g) W W'):Er tag i b db W0 cb y n D sb A a tag' W':=by
 have q:∀{q:Nat},(q=cb\/∃k,k<n/\q=y k)->¬(q=sb\/q=g):=λC x=>by
  have:=h.ne _ C;rcases x with x|x
  .exact this.1 x
  exact this.2 x
 have lt:∀{q:Nat},(q=cb\/∃k,k<n/\q=y k)->q<W.heap.size:=λC=>by
  rcases C with rfl|⟨k,B,rfl⟩
  .exact zo h.hc
  exact zo<|h.hk k B
 refine⟨G,m.cell (q rO) h.hc,λk B=>m.cell (q<|.inr ⟨k,B,rfl⟩)<|h.hk k B,λx u=>?_,λx u=>⟨(h.ne x u).1,λe=>?_⟩⟩
 .rcases u with rfl|rfl|u
  .exact h.fr _ rO
  .rcases z with rfl|z
   .exact h.fr _ (.inr rO)
   exact⟨I,E _ z⟩
  exact h.fr _<|.inr<|.inr u
 rcases z with rfl|z
 .exact(h.ne x u).2 e
 have:=lt u;omega
def zW.own(h:zW tag i b db W c d tag' V' mS mV l' W')(m:C9 S W' W'')(a:∀g,S g->W.heap.size<=g/\tag' g=(0,0)):zW tag i b db W c d tag' V' mS mV l' W'':=h.free m (λg e=>⟨(a g e).2,(a g e).1⟩)
def dP{g:Nat}{l:List (DF×rU)}(h:zn tag i b c V W)(n:EZ tag i db d bv fv l W)(E:Dn i tag W)(k:Nat)(ok:Pg c k)(hd:d.Ok)
  (m:W cb=some (.pointer b)) (q:W g=some (.int .i64 k)) :
  rH 119 #[(db,0),(cb,0),(g,0)] W (GK tag i b db W (c.bytes d k).2.1 (c.bytes d k).2.2 (c.bytes d k).1):=by
 have g:∀W1,C9 DA W W1->rH 120 #[(b,0),(db,0),[k]] W1 (GK tag i b db W (c.bytes d k).2.1 (c.bytes d k).2.2 (c.bytes d k).1):=λW1 m =>
  (cN (h.kI m) (n.qL m rQ) (E.kI m) k ok (qm hd.b) (qn hd.fs hd.b)<|qm hd.room).mono λe W' a=>a.lJ E.ok m
 have m:=zb g;obtain⟨r,q⟩:=nm<|(c.bytes d k).1;rw[q]at m ⊢;clear h n E ok hd g q;go_enter func119,ntmps119;go_wp2_with (go_at_call 120;refine(m.z _ rS).mono ?_;rintro e e ⟨rfl,a⟩;have e:=zb a;clear a);go_ret;exact⟨rfl,e.z⟩
def Jg(a:Nat)(w:rT):Nat:=match w a with|some (.slice _ n _)=>n|_=>0
def EA.lT{l:List Nat}(h:EA sb fn l g cap W):Jg sb W=l.length:=by
 unfold Jg;rw[h.c0]
def EZ.lT{l:List (DF×rU)}(h:EZ tag i db d bv fv l W):Jg db W=d.b.length:=by
 obtain⟨a,g,e,_⟩:=zi h.ob;have c0:W db=some bv:=za h.obj rfl;unfold Jg;rw[c0,e]
def fE(v:rU)(w:rT):(Instr.typeAssert (.iface 196 v) 20 196 false).run prog w=.ok v w:=kw
def QN{a:Nat}{x y:rU}{t:TypeId}(h:w.heap[a]?=some (.cells #[x,y] t (0,0)))(m:∃o,w'.heap[a]?=some o/\w.heap[a]?=some o):w' a=some x/\w' (a,1)=some y:=by
 obtain⟨o,e,g⟩:=m;rw[h]at g;cases g;exact⟨za e rfl,za e rfl⟩
def YN(b a e:Nat)(g:Nat->Nat)(q:Nat)(W:rT)(Q:Ending->rT->Prop):Prop :=
 match q with
 | 0=>rH 116 #[(b,0),(a,0)] W Q
 | 1=>rH 117 #[(b,0),(a,0)] W Q
 | k+2=>rH 119 #[(a,0),(e,0),.pointer (U (g k) 0)] W Q
theorem Vv{e:Nat->Nat}{l:List (DF×rU)}(h:zn tag i b c V W)(a:EZ tag i db d bv fv l W)(E:Dn i tag W)(ok:c.Ok)(hd:d.Ok)(g:q<10)
  (m:W cb=some (.pointer b)) (n:∀k,k<8->W ⟨e k,0,none⟩=some (.int .i64 k)) :
  YN b db cb e q W (GK tag i b db W (c.put d q).2.1 (c.put d q).2.2 (c.put d q).1):=by
 have b1:=hd.b;have b2:=hd.fs;have e:l.length=d.fs.length:=by rw[<-a.lf,Az]
 match q,g with
 | 0,_=>exact iG h a E ok.qk I I
 | 1,_=>exact jy h a E ok.waits I I
 | k+2,hk=>exact dP h a E k (ok.ql I) hd m<|n k I
def SM(tag:qr)(i b g:Nat)(W:rT)(c':CS)(h:DJ)(e:Ending)(W':rT):Prop :=
 e=.returned (.tuple #[])/\∃tag' V' a e m,zW tag i b g W c' h tag' V' a e m W'
def fD{l:List (DF×rU)}(A:zW tag i b db W c d tag V bv fv l W)(a:Nat->Nat){t:TypeId}:zW tag i b db W c d tag V bv fv l (((W.alloc (.cells #[(b,0)] t)).alloc (.cells #[.int .i64 0,.func (.func 116) #[.pointer b] #[],.int .i64 1,.func (.func 117) #[.pointer b] #[]] 196)).alloc (.cells #[.slice (W.heap.size+1,0) 2 2] 198)) /\
  Er tag i b db W W.heap.size a 0 (List.range 2) (W.heap.size+1+1) (W.heap.size+1) 2 tag (((W.alloc<|.cells #[(b,0)] t).alloc<|.cells #[.int .i64 0,.func (.func 116) #[.pointer b] #[],.int .i64 1,.func (.func 117) #[.pointer b] #[]] 196).alloc<|.cells #[.slice (W.heap.size+1,0) 2 2] 198):=by
 obtain⟨a,n⟩:=nm<|Obj.cells #[(b,0)] t;obtain⟨e,g⟩:=nm<|Obj.cells #[.int .i64 0,.func (.func 116) #[.pointer b] #[],.int .i64 1,.func (.func 117) #[.pointer b] #[]] 196;obtain⟨h,u⟩:=nm<|Obj.cells #[.slice (U (W.heap.size+1) 0) 2 2] 198;rw[n,g,u];have m:(W.alloc a).heap.size=W.heap.size+1:=nl;have q:((W.alloc a).alloc e).heap.size=W.heap.size+1+1:=nl;have B:(((W.alloc a).alloc e).alloc h).heap[W.heap.size+1+1]?=some h:=by
  have:=heap_alloc_new ((W.alloc a).alloc e) h;rw[q]at this;exact this
 have q:(((W.alloc a).alloc e).alloc h).heap[W.heap.size+1]?=some e:=by
  have:=heap_alloc_new (W.alloc a) e;rw[m]at this;rw[Below.heap_alloc _ _ _ I];exact this
 have C:(((W.alloc a).alloc e).alloc h).heap[W.heap.size]?=some a:=by
  rw[Below.heap_alloc _ _ _ I,Below.heap_alloc _ _ _ I];exact heap_alloc_new W a
 have m:C9 DA W (((W.alloc a).alloc e).alloc h):=((rS.alloc _).alloc _).alloc _;rw[<-g]at q;refine⟨A.kI m,⟨⟨?_,⟨rfl,.inr ⟨_,_,_,rfl,AK _,by rw[<-g];exact q,AI _,lc,rfl,rfl⟩⟩,I,lc,Qk _ _ _⟩,?_,λk y=>absurd y<|Al k,λq z=>?_,λq z=>?_⟩⟩
 .rw[B,<-u];rfl
 .exact za (C.trans<|Ax some n.symm) rfl
 .have:W.heap.size<=q:=by
   rcases z with rfl|rfl|rfl|⟨k,y,_⟩
   .omega
   .omega
   .omega
   omega
  exact⟨this,A.ok _ this⟩
 rcases z with rfl|⟨k,y,_⟩
 .omega
 omega
theorem Er.count{u:Nat->Nat}(h:Er tag i b db W0 cb u n (List.range (n+2)) sb g cap tag' W)(z:zL tag' W)(A:W0.heap.size<=W.heap.size)(m:C9 DA W W')(B:W' W=some (.int .i64 n)):Er tag i b db W0 cb (zh u n W.heap.size) (n+1) (List.range (n+2)) sb g cap tag' W':=by
 have y:=h.kI m;have e:∀k,k<n->zh u n W.heap.size k=u k:=λk m=>zl _ _ I
 have a:=zo h.heap.c0;have a:=zI h.heap.own g rfl;refine⟨y.heap.congr (λx g=>?_)<|Qk _ _ _,y.hc,λk m=>?_,λq a=>?_,λq a=>?_⟩
 .have g:=CJ.1 g
  match x,g with
  | 0,_=>rfl
  | 1,_=>rfl
  | k+2,m =>
   show Value.func _ #[] #[.pointer cb,.pointer (U (u k) 0)]=Value.func _ #[] #[.pointer cb,.pointer (U (zh u n W.heap.size k) 0)];rw[e k I]
 .by_cases a:k=n
  .rw[a,zf];exact B
  rw[e k I];exact y.hk k I
 .rcases a with a|a|a|⟨k,m,a⟩
  .exact h.fr q (.inl a)
  .exact h.fr q (.inr<|.inl a)
  .exact h.fr q (.inr<|.inr<|.inl a)
  by_cases g:k=n
  .rw[g,zf]at a;rw[a];exact⟨A,z _<|AI _⟩
  rw[e k I]at a;exact h.fr q<|.inr<|.inr<|.inr ⟨k,I,a⟩
 rcases a with a|⟨k,m,a⟩
 .exact h.ne q (.inl a)
 by_cases g:k=n
 .rw[g,zf]at a;omega
 rw[e k I]at a;exact h.ne q<|.inr ⟨k,I,a⟩
theorem YM{l:List (DF×rU)}(h:zn tag i b c V W)(hD:EZ tag i db d bv fv l W)(E:Dn i tag W)(ok:c.Ok)(hd:d.Ok):rH 86 #[(b,0),(db,0)] W (SM tag i b db W (c.fill d).1 (c.fill d).2):=by
 have S0:AA (zW tag i b db W c d tag V bv fv l W):=zb ⟨h,hD,DK.same E.ok<|C9.refl DA _,C9.refl _ _,E.pos⟩;obtain⟨R,hR⟩:=nm<|c.fill d;rw[hR];have HR:=zb hR;have OK:=zb ok;have HD:=zb hd;have EE:=zb E;clear h hD E ok hd hR;go_enter func86,ntmps86;go_upto_region 2 with fail;have st:=fD (t:=57) S0.z id;obtain⟨E,h⟩:=nm<|(((W.alloc<|.cells #[(b,0)] 57).alloc<|.cells #[.int .i64 0,.func (.func 116) #[.pointer b] #[],.int .i64 1,.func (.func 117) #[.pointer b] #[]] 196).alloc<|.cells #[.slice (U (W.heap.size+1) 0) 2 2] 198);rw[h]at st ⊢;clear h;obtain⟨cb,h⟩:=nm W.heap.size;have E:=zb h;obtain⟨sb,E⟩:=nm<|W.heap.size+1+1;have F0:=zb st.2;have C:=zb st.1;rw[E]at F0 ⊢;obtain⟨g0,ag⟩:=nm<|W.heap.size+1;rw[ag]at F0 ⊢;rw[h]at F0 ⊢;clear h E ag st;go_wp2_with fail
 go_loopw [15] (λh wr=>∃(k:Nat) (M:Nat->Nat) (g z:Nat),h=.int .i64 k/\k<=8/\AA (zW tag i b db W c d tag V bv fv l wr)/\AA (Er tag i b db W cb M k (List.range<|k+2) sb g z tag wr)) (λh _=>8-(intOf h).toNat)
 case atStart=>exact⟨0,id,g0,2,rfl,I,C,F0⟩
 case round =>
  obtain⟨k,M,g,z,rfl,hk,HS,HF⟩:=hrel;by_cases ao:k<8
  .have h:IntKind.i64.wrap (2+(k:Int))=((k+2:Nat):Int):=by rw[IntWalk.i64_in _ I];omega
   have h:IntKind.i64.wrap ((k:Int)+1)=((k+1:Nat):Int):=by rw[IntWalk.i64_in _ I];omega
   have d1:(k:Int)<8:=I;go_upto_region 5 with fail;obtain⟨W4,h⟩:=nm<|wr.alloc<|.cells #[[k]] 3;have E:=AB h;have c4:W4 wr=some (.int .i64 k):=by rw[<-h];exact za (heap_alloc_new wr _) rfl
   have fc:=HF.z.count HS.z.ok HS.z.m.size E c4;have N:=fH fc.heap (k+2) (by rw[Bp];omega) (by rw[Bp];omega)<|λx hx=>Nat.le_of_lt<|CJ.1 hx;rw[show Jq b cb (zh M k wr.heap.size) (k+2)=.func (.func 119) #[] #[.pointer cb,.pointer (U (zh M k wr.heap.size k) 0)]from rfl,zf]at N;have S4:=zb<|HS.z.kI E;have FC:=zb fc;have KP:=zb N;unfold hI at KP;rw[h];have HW:=E.size;have ar:=zb HW;clear fc N E h HW;go_wp2_with (go_at_call 118;refine KP.z.mono ?_;rintro e h ⟨rfl,g',ah,h5,hg,m5⟩;have E:=zb h5;have HG:=zb hg;have h:=zb m5;clear h5 hg m5);go_roundw
   case rel =>
    have L:∀q,(q=sb\/q=g)->W.heap.size<=q/\tag q=(0,0):=λq L=>FC.z.fr q (by
     rcases L with L|L
     .exact .inl L
     exact .inr<|.inl L)
    refine⟨k+1,zh M k wr.heap.size,g',ah,rfl,I,zb<|S4.z.own h.z L,zb ?_⟩;have h5:=E.z;rw[<-List.range_succ]at h5;exact FC.z.oW S4.z.ok S4.z.m.size h5 HG.z h.z
   case measure =>
    simp[intOf];omega
  have d1:¬(k:Int)<8:=I;have h:k=8:=I;rw[h]at HF;have n0:AA (zW tag i b db W c d tag V bv fv l wr/\Er tag i b db W cb M 8 (Ga 0) sb g z tag wr):=zb ⟨HS.z,HF.z⟩;clear HS HF hk ao C F0 S0 h;go_wp2_with fail;clear d1
  go_loopw [6] (λ_ wr=>∃(n:Nat) (c':CS) (O:DJ) (g z:Nat) (tag':qr) (V':CV) (ad ae:rU) (l':List (DF×rU)),n<=10/\AA (zW tag i b db W c' O tag' V' ad ae l' wr)/\AA (Er tag i b db W cb M 8 (Ga<|10-n) sb g z tag' wr)/\AA (c'.Ok/\O.Ok/\CS.lB n c' O=R)) (λ_ wr=>Jg sb wr)
  case atStart=>exact⟨10,c,d,g,z,tag,V,bv,fv,l,AI _,zb n0.z.1,zb n0.z.2,zb ⟨OK.z,HD.z,HR.z⟩⟩
  case round =>
   clear n0;obtain⟨n,c',O,g,z,tag',V',ad,ae,l',h,HS,HF,aa⟩:=hrel;have h:=Ui (10-n) I;rw[(I:10-(10-n)=n)]at h;have c0:=HF.z.heap.c0;rw[h]at c0;have E:=P4 (some ⟨g,0,none⟩) n z wr;have KL:=zb E;have af:=zb h;clear E h;cases n with
   | zero =>
    go_wp2_with (go_at_call 121;refine KL.z.mono ?_;rintro e w2 ⟨rfl,rfl⟩);refine bodyPost_end (results_none rfl _ _ _) rfl ⟨rfl,tag',V',ad,ae,l',?_⟩;have e:(c',O)=R:=aa.z.2.2;rw[<-e];exact HS.z
   | succ n =>
    obtain⟨q,L⟩:∃q,q+n=9:=⟨9-n,I⟩;have e1:10-(n+1)=q:=I;have e2:10-n=q+1:=I;rw[e1]at HF af;have E:=cH HF.z.heap (by rw[af.z];omega)<|cF q I;have h:CS.lB n (CS.lP q (O.room+1) c' O).1 (CS.lP q (O.room+1) c' O).2=R:=by
     have:=aa.z.2.2;have e9:9-n=q:=I;rw[<-this,CS.lB,e9]
    obtain⟨f,fa,fx,hf⟩:=Qk b cb M q;rw[hf]at E;have ai:=zb h;have HP:=zb E;have ap:=zb hf;have HQ:=zb L;have E2:=zb e2;have au:AA (∃r,r=O.room):=zb ⟨_,rfl⟩;unfold hI at HP;have d1:(0:Int)<(n:Int)+1:=I;clear E h hf e1 e2 L;go_upto_region 8 with(go_at_call 121;refine KL.z.mono ?_;rintro e w2 ⟨rfl,rfl⟩);go_upto_region 9 with(go_at_call 122;refine HP.z.mono ?_;rintro e w2 ⟨rfl,h2,m2⟩;have H2:=zb h2;have M2:=zb m2;have aq:=fE (.agg #[.int .i64 q,.func f fa fx]) w2;clear h2 m2);have aj:∀q,(q=sb\/q=g)->W.heap.size<=q/\tag' q=(0,0):=λq L=>HF.z.fr q (by
     rcases L with L|L
     .exact .inl L
     exact .inr<|.inl L)
    have s2:=HS.z.own M2.z aj;have f2:=HF.z.oW HS.z.ok HS.z.m.size H2.z rO M2.z;obtain⟨W5,h⟩:=nm<|w2.alloc<|.cells #[[q],.func f fa fx] 196;have m5:=AB h;have L:=AD h;have S5:=zb<|s2.kI m5;have F5:=zb<|f2.kI m5;have E:W.heap.size<=w2.heap.size/\tag' w2.heap.size=(0,0):=⟨s2.m.size,s2.ok _<|AI _⟩;have X5:AA (W5.heap[w2.heap.size]?=some (.cells #[[q],.func f fa fx] 196 (0,0))/\W.heap.size<=w2.heap.size/\tag' w2.heap.size=(0,0)):=⟨L,E.1,E.2⟩;rw[h];have HL:AA (Jg sb wr=n+1):=HF.z.heap.lT.trans af.z;have ab:AA ((Ga<|q+1).length=n):=by
     have:=Ui (q+1)<|qm HQ.z;have:=HQ.z;show _=n;omega
    clear aj s2 f2 h m5 L E aq c0 d1
    go_loopw [6] (λE h=>∃(xb m:Nat) (c2:CS) (K:DJ) (X:qr) (V2:CV) (ak al:rU) (l2:List (DF×rU)),E=.pointer xb/\AA (zW tag i b db W c2 K X V2 ak al l2 h)/\AA (Er tag i b db W cb M 8 (Ga<|q+1) sb g z X h) /\
      AA (h.heap[xb]?=some (.cells #[[q],.func f fa fx] 196 (0,0))/\W.heap.size<=xb/\X xb=(0,0))/\AA (c2.Ok/\K.Ok/\1<=m/\K.room=O.room/\K.room<K.b.length+m/\CS.lB n (CS.lP q m c2 K).1 (CS.lP q m c2 K).2=R)) (λ_ h=>O.room+1-Jg db h)
    case atStart=>exact⟨w2,O.room+1,c',O,tag',V',ad,ae,l',rfl,S5,F5,X5,zb ⟨aa.z.1,aa.z.2.1,I,rfl,I,ai.z⟩⟩
    case round =>
     clear X5 S5 F5 HS HF aa ai KL HP M2 H2;obtain⟨xb,m,c2,K,X,V2,ak,al,l2,rfl,SS,FF,Y,RR⟩:=hrel;have h:q<10:=qm HQ.z;have N:=Vv SS.z.c SS.z.d (EE.z.left SS.z.e SS.z.m.pF) RR.z.1 RR.z.2.1 h FF.z.hc FF.z.hk;have O:=Nt (d:=K) RR.z.1 h;have R:=O.qh RR.z.2.1;have h:wr xb=some (.int .i64 q):=za Y.z.1 rfl;have h:wr (xb,1)=some (.func f fa fx):=za Y.z.1 rfl;obtain⟨m',E⟩:∃m',m=m'+1:=⟨m-1,qm RR.z.2.2.1⟩;have h:CS.lP q m c2 K=if (c2.put K q).1=true then CS.lP q m' (c2.put K q).2.1 (c2.put K q).2.2 else((c2.put K q).2.1,(c2.put K q).2.2):=by rw[E];rfl
     have hf:=ap.z;obtain⟨r,hr⟩:=nm<|(c2.put K q).1;obtain⟨c3,L⟩:=nm<|(c2.put K q).2.1;obtain⟨d3,m⟩:=nm<|(c2.put K q).2.2;rw[hr,m]at R;rw[hr,L,m]at N h O;have PK:=zb O;have PD:=zb R;have HM:=zb E;have G:=zb h;clear O R E h hr L m;obtain hq0|hq1|⟨k,hqk⟩:q=0\/q=1\/∃k,q=k+2:=by
      rcases q with _|_|k
      .exact .inl rfl
      .exact .inr rO
      exact .inr<|.inr ⟨k,rfl⟩
     .rw[hq0]at N hf;have KP:AA (rH 116 #[(b,0),(db,0)] wr _):=N;simp only[Jq,Value.func.injEq]at hf;obtain⟨rfl,rfl,rfl⟩:=hf;clear N hq0;have KQ:AA (rH 116 #[(b,0),(db,0)] wr λe A=>e=.returned (.bool r)/\∃(a:qr) (D:CV) (u y:rU) (B:List (DF×rU)),AA (zW tag i b db W c3 d3 a D u y B A)/\AA (Er tag i b db W cb M 8 (Ga<|q+1) sb g z a A) /\
        AA (∃o,A.heap[xb]?=some o/\wr.heap[xb]?=some o)):=zb (KP.z.mono (by
       intro e A ac;obtain⟨rfl,a,D,u,y,B,s3,e3,m3⟩:=SS.z.then ac;exact⟨rfl,a,D,u,y,B,s3,FF.z.src SS.z.p e3 m3,⟨_,m3.obj (λx=>by
        have h1:=Y.z.2.2;have h2:=SS.z.p;have x:=x.1;rw[h1]at x;have x:(0:Nat)=i:=x;omega) Y.z.1,Y.z.1⟩⟩))
      clear KP;cases r with
      | true =>
       go_wp2_with (go_at_call 116;refine KQ.z.mono ?_;rintro e A ⟨rfl,a,D,u,y,B,C,Z,X3⟩;obtain⟨am,an⟩:=QN Y.z.1 X3.z);go_roundw
       case rel =>
        have hh:=RR.z;have hd:=PD.z;have hm:=HM.z;have hl:=(hd.2.2.1 pm);refine⟨A.heap.size,m',c3,d3,a,D,u,y,B,rfl,zb<|C.z.kI<|rS.alloc _,zb<|Z.z.kI<|rS.alloc _,zb ⟨heap_alloc_new A _,C.z.m.size,C.z.ok _<|AI _⟩,zb ⟨PK.z.ok,hd.1,I,I,I,?_⟩⟩;have e:=G.z;rw[AL pm]at e;rw[<-e];exact hh.2.2.2.2.2
       case measure =>
        have l1:=SS.z.d.lT;have l2:=λo=>(C.z.kI<|(C9.refl DA A).alloc o).d.lT
        have hl:=(PD.z.2.2.1 pm);have hr:=RR.z.2.2.2.1;rw[l1,l2];omega
      | false =>
       go_wp2_with (go_at_call 116;refine KQ.z.mono ?_;rintro e A ⟨rfl,a,D,u,y,B,C,Z,X3⟩);go_roundw
       case rel =>
        refine⟨n,c3,d3,g,z,a,D,u,y,B,I,C,by rw[E2.z];exact Z,zb ⟨PK.z.ok,PD.z.1,?_⟩⟩;have e:=G.z;rw[AH nl]at e;have hh:=RR.z.2.2.2.2.2;rw[e]at hh;exact hh
       case measure =>
        have l1:=Z.z.heap.lT;have l2:=HL.z;have B:=ab.z;omega
     .rw[hq1]at N hf;have KP:AA (rH 117 #[(b,0),(db,0)] wr _):=N;simp only[Jq,Value.func.injEq]at hf;obtain⟨rfl,rfl,rfl⟩:=hf;clear N hq1;have KQ:AA (rH 117 #[(b,0),(db,0)] wr λe A=>e=.returned (.bool r)/\∃(a:qr) (D:CV) (u y:rU) (B:List (DF×rU)),AA (zW tag i b db W c3 d3 a D u y B A)/\AA (Er tag i b db W cb M 8 (Ga<|q+1) sb g z a A) /\
        AA (∃o,A.heap[xb]?=some o/\wr.heap[xb]?=some o)):=zb (KP.z.mono (by
       intro e A ac;obtain⟨rfl,a,D,u,y,B,s3,e3,m3⟩:=SS.z.then ac;exact⟨rfl,a,D,u,y,B,s3,FF.z.src SS.z.p e3 m3,⟨_,m3.obj (λx=>by
        have h1:=Y.z.2.2;have h2:=SS.z.p;have x:=x.1;rw[h1]at x;have x:(0:Nat)=i:=x;omega) Y.z.1,Y.z.1⟩⟩))
      clear KP;cases r with
      | true =>
       go_wp2_with (go_at_call 117;refine KQ.z.mono ?_;rintro e A ⟨rfl,a,D,u,y,B,C,Z,X3⟩;obtain⟨am,an⟩:=QN Y.z.1 X3.z);go_roundw
       case rel =>
        have hh:=RR.z;have hd:=PD.z;have hm:=HM.z;have hl:=(hd.2.2.1 pm);refine⟨A.heap.size,m',c3,d3,a,D,u,y,B,rfl,zb<|C.z.kI<|rS.alloc _,zb<|Z.z.kI<|rS.alloc _,zb ⟨heap_alloc_new A _,C.z.m.size,C.z.ok _<|AI _⟩,zb ⟨PK.z.ok,hd.1,I,I,I,?_⟩⟩;have e:=G.z;rw[AL pm]at e;rw[<-e];exact hh.2.2.2.2.2
       case measure =>
        have l1:=SS.z.d.lT;have l2:=λo=>(C.z.kI<|(C9.refl DA A).alloc o).d.lT
        have hl:=(PD.z.2.2.1 pm);have hr:=RR.z.2.2.2.1;rw[l1,l2];omega
      | false =>
       go_wp2_with (go_at_call 117;refine KQ.z.mono ?_;rintro e A ⟨rfl,a,D,u,y,B,C,Z,X3⟩);go_roundw
       case rel =>
        refine⟨n,c3,d3,g,z,a,D,u,y,B,I,C,by rw[E2.z];exact Z,zb ⟨PK.z.ok,PD.z.1,?_⟩⟩;have e:=G.z;rw[AH nl]at e;have hh:=RR.z.2.2.2.2.2;rw[e]at hh;exact hh
       case measure =>
        have l1:=Z.z.heap.lT;have l2:=HL.z;have B:=ab.z;omega
     rw[hqk]at N hf;have KP:AA (rH 119 #[(db,0),(cb,0),(M k,0)] wr _):=N;simp only[Jq,Value.func.injEq]at hf;obtain⟨rfl,rfl,rfl⟩:=hf;clear N hqk;have KQ:AA (rH 119 #[(db,0),(cb,0),(M k,0)] wr λe A=>e=.returned (.bool r)/\∃(a:qr) (D:CV) (u y:rU) (B:List (DF×rU)),AA (zW tag i b db W c3 d3 a D u y B A)/\AA (Er tag i b db W cb M 8 (Ga<|q+1) sb g z a A) /\
       AA (∃o,A.heap[xb]?=some o/\wr.heap[xb]?=some o)):=zb (KP.z.mono (by
      intro e A ac;obtain⟨rfl,a,D,u,y,B,s3,e3,m3⟩:=SS.z.then ac;exact⟨rfl,a,D,u,y,B,s3,FF.z.src SS.z.p e3 m3,⟨_,m3.obj (λx=>by
       have h1:=Y.z.2.2;have h2:=SS.z.p;have x:=x.1;rw[h1]at x;have x:(0:Nat)=i:=x;omega) Y.z.1,Y.z.1⟩⟩))
     clear KP;cases r with
     | true =>
      go_wp2_with (go_at_call 119;refine KQ.z.mono ?_;rintro e A ⟨rfl,a,D,u,y,B,C,Z,X3⟩;obtain⟨am,an⟩:=QN Y.z.1 X3.z);go_roundw
      case rel =>
       have hh:=RR.z;have hd:=PD.z;have hm:=HM.z;have hl:=(hd.2.2.1 pm);refine⟨A.heap.size,m',c3,d3,a,D,u,y,B,rfl,zb<|C.z.kI<|rS.alloc _,zb<|Z.z.kI<|rS.alloc _,zb ⟨heap_alloc_new A _,C.z.m.size,C.z.ok _<|AI _⟩,zb ⟨PK.z.ok,hd.1,I,I,I,?_⟩⟩;have e:=G.z;rw[AL pm]at e;rw[<-e];exact hh.2.2.2.2.2
      case measure =>
       have l1:=SS.z.d.lT;have l2:=λo=>(C.z.kI<|(C9.refl DA A).alloc o).d.lT
       have hl:=(PD.z.2.2.1 pm);have hr:=RR.z.2.2.2.1;rw[l1,l2];omega
     | false =>
      go_wp2_with (go_at_call 119;refine KQ.z.mono ?_;rintro e A ⟨rfl,a,D,u,y,B,C,Z,X3⟩);go_roundw
      case rel =>
       refine⟨n,c3,d3,g,z,a,D,u,y,B,I,C,by rw[E2.z];exact Z,zb ⟨PK.z.ok,PD.z.1,?_⟩⟩;have e:=G.z;rw[AH nl]at e;have hh:=RR.z.2.2.2.2.2;rw[e]at hh;exact hh
      case measure =>
       have l1:=Z.z.heap.lT;have l2:=HL.z;have B:=ab.z;omega
end
end Go.Proofs.YtddfdpbaiedcjabGreatDoor
