/- Streamed. Part 6 of 17. -/
import Derived.Test.YtddfdpbaiedcjabGreatDoorStr5
set_option maxRecDepth 100000
set_option maxHeartbeats 16000000
set_option linter.all false
namespace Go.Proofs.YtddfdpbaiedcjabGreatDoor
section
open Go.RowKit Go.Proofs.Tryz
def RS.used(x:RS):Nat:=if x.state=2 then x.fin else x.read
def RS.lu(x:RS):Bool:=if x.cut then decide (x.kE<x.kD)||(x.ky&&x.state==0)else !x.ended
variable{V:CV}{W:rT}{b i k:Nat}{c:CS}{tag:qr}
def SP(h:zn tag i b c V W)(a:k<8):rH 154 #[(b,129+k*13)] W λe W'=>e=.returned (.int .u64 ((c.rs k).used:Int))/\W=W':=by
 have e:W (b,129+k*13+10)=some (.int .i64 ((c.rs k).state:Int)):=by rw[AN];exact h.r (j:=10) a rfl
 have g:W (b,129+k*13+5)=some (.int .u64 ((c.rs k).fin:Int)):=by rw[AN];exact h.r (j:=5) a rfl
 have m:W (b,129+k*13+9)=some (.int .u64 ((c.rs k).read:Int)):=by rw[AN];exact h.r (j:=9) a rfl
 obtain⟨x,a⟩:=nm<|c.rs k;rw[a]at e g m ⊢;clear h a;unfold RS.used;by_cases a:x.state=2
 .have d:((x.state:Int)==2)=true:=by rw[a];rfl
  rw[AL a];clear a;go_enter func154,ntmps154;go_wp2;go_ret;exact rM
 have d:((x.state:Int)==2)=false:=AM.2 I;rw[AH a];clear a;go_enter func154,ntmps154;go_wp2;go_ret;exact rM
def TS(h:zn tag i b c V W)(g:k<8):rH 155 #[(b,129+k*13)] W λe W'=>e=.returned (.bool (c.rs k).lu)/\C9 DA W W':=by
 have m:W (b,129+k*13+10)=some (.int .i64 ((c.rs k).state:Int)):=by rw[AN];exact h.r (j:=10) g rfl
 have u:W (b,129+k*13+6)=some (.bool (c.rs k).ended):=by rw[AN];exact h.r (j:=6) g rfl
 have y:W (b,129+k*13+7)=some (.bool (c.rs k).cut):=by rw[AN];exact h.r (j:=7) g rfl
 have z:W (b,129+k*13+8)=some (.int .u64 ((c.rs k).kD:Int)):=by rw[AN];exact h.r (j:=8) g rfl
 have n:W (b,129+k*13+11)=some (.int .u64 ((c.rs k).kE:Int)):=by rw[AN];exact h.r (j:=11) g rfl
 have a:W (b,129+k*13+12)=some (.bool (c.rs k).ky):=by rw[AN];exact h.r (j:=12) g rfl
 obtain⟨x,g⟩:=nm<|c.rs k;rw[g]at m u y z n a ⊢;clear h g;unfold RS.lu;obtain⟨A,g⟩:=nm x.cut;obtain⟨B,h⟩:=nm x.ky;obtain⟨C,q⟩:=nm x.ended;rw[g]at y ⊢;rw[h]at a ⊢;rw[q]at u ⊢;clear g h q;cases A
 .clear z m n a;cases C
  .go_enter func155,ntmps155;go_wp2;go_ret;exact⟨rfl,C9.refl _ _⟩
  go_enter func155,ntmps155;go_wp2;go_ret;exact⟨rfl,C9.refl _ _⟩
 by_cases a:x.kE<x.kD
 .have d:decide (x.kE<x.kD)=true:=by simp[a]
  have g:AA (decide (x.kE<x.kD)=true):=zb (by simp[a]);clear a;go_enter func155,ntmps155;go_wp2;go_quiet (fail);go_wp2;go_ret;exact⟨rfl,(C9.refl DA _).drewN _⟩
 have d:decide (x.kE<x.kD)=false:=by simp[a]
 have g:AA (decide (x.kE<x.kD)=false):=zb (by simp[a]);clear a;cases B
 .go_enter func155,ntmps155;go_wp2;go_quiet (fail);go_wp2;go_ret;exact⟨rfl,(C9.refl DA _).drewN _⟩
 by_cases a:x.state=0
 .have e:((x.state:Int)==0)=true:=by rw[a];rfl
  have g:AA ((x.state==0)=true):=zb (by rw[a];rfl);clear a;go_enter func155,ntmps155;go_wp2;go_quiet (fail);go_wp2;go_ret;exact⟨by rw[g.z];rfl,(C9.refl DA _).drewN _⟩
 have e:((x.state:Int)==0)=false:=AM.2 I;have g:=zb<|AM.2 a;clear a;go_enter func155,ntmps155;go_wp2;go_quiet (fail);go_wp2;go_ret;exact⟨by rw[g.z];rfl,(C9.refl DA _).drewN _⟩
def zR(a:Nat->WS):Nat->Nat
 | 0=>0
 | k+1=>zR a k+(a k).high
def CS.me(c:CS):Nat:=zR c.ws 8
variable{m:Nat}
theorem jZ(a:Nat->WS)(h:k<=m):zR a k<=zR a m:=by
 induction m with
 | zero=>rw[Nat.le_zero.1 h];exact AI _
 | succ m ih =>
  by_cases e:k=m+1
  .rw[e];exact AI _
  have:=ih I;simp only[zR];omega
def cX(h:zn tag i b c V W)(a:c.me<18446744073709551616):rH 157 #[(b,0)] W λe W'=>e=.returned (.int .u64 c.me)/\W=W':=by
 have m:=zb h;have n:=zb a;clear h a;go_enter func157,ntmps157;go_wp2_with fail
 go_loopw [3,5] (λe a wr=>∃k:Nat,k<=8/\e=.int .u64 (zR c.ws k:Int)/\a=.int .i64 k/\W=wr) (λ_ a _=>8-(intOf a).toNat)
 case atStart=>exact⟨0,I,rfl,rfl,rfl⟩
 case round =>
  obtain⟨k,a,rfl,rfl,rfl⟩:=hrel;by_cases a:k<8
  .have h:W (b,9+k*15+7)=some (.int .u64 ((c k).high:Int)):=by rw[AN];exact m.z.w (j:=7) a rfl
   have hb:zR c.ws k+(c k).high<18446744073709551616:=by
    have a:zR c.ws (k+1)<=zR c.ws 8:=jZ _ I;have a:zR c.ws 8<18446744073709551616:=n.z;have a:zR c.ws (k+1)=zR c.ws k+(c k).high:=rfl;omega
   obtain⟨n,a⟩:=nm<|zR c.ws k;obtain⟨m,e⟩:=nm<|(c k).high;have q:AA (zR c.ws (k+1)=n+m):=by
    show _=_;rw[<-a,<-e];rfl
   rw[a,e]at hb;rw[a];rw[e]at h;have h:=wu ((n:Int)+m) I;clear a e;go_wp2;go_roundw
   case rel=>exact⟨k+1,I,by rw[q.z];rfl,by go_num,trivial⟩
   simp[intOf];omega
  have g:k=8:=I;subst g;go_wp2;go_ret;exact rM
def EK(a:Nat->rU)(l:List Nat):List rU:=l.flatMap fun(c:Nat)=>[Value.int .i64 c,a c]
theorem iF(a:Nat->rU)(l:List Nat){c:Nat}(h:l[i]?=some c):(EK a l)[i*2]?=some (.int .i64 c)/\(EK a l)[i*2+1]?=some (a c):=by
 induction l generalizing i with
 | nil=>cases h
 | cons x l ih =>
  have e:EK a (x::l)=.int .i64 x::a x::EK a l:=rfl;cases i with
  | zero =>
   cases h;exact rM
  | succ i =>
   have:=ih (i:=i) h;rw[e,(I:(i+1)*2=i*2+1+1)];exact this
theorem Qp(a:Nat->rU)(l:List Nat):(EK a l).length=l.length*2:=by
 induction l with
 | nil=>rfl
 | cons x l ih =>
  have e:EK a (x::l)=.int .i64 x::a x::EK a l:=rfl;rw[e,Aa,Aa,ih,Aa];omega
structure EA(sb:Nat)(fn:Nat->rU)(l:List Nat)(g cap:Nat)(W:rT):Prop where
 obj:W.heap[sb]?=some (.cells #[.slice g l.length cap] 198 (0,0))
 own:W.ownsRow 0 196 2 (.slice g l.length cap) l.length (EK fn l)
 ne:g≠sb
 small:l.length<=1024
 fns:∀c,∃f a b,fn c=.func f a b
variable{cap g sb:Nat}{fn:Nat->rU}
def EA.at_{l:List Nat}(h:EA sb fn l g cap W){c:Nat}(hi:l[i]?=some c):W (g,i*2)=some (.int .i64 c)/\W (g,i*2+1)=some (fn c):=by
 obtain⟨e,m⟩:=iF fn l hi;have a:=h.own.cells (g:=g) rfl _ _ e;have b:=h.own.cells (g:=g) rfl _ _ m;rw[EU,An]at a b;exact⟨a,b⟩
variable{S:Nat->Prop}{W':rT}
def EA.mod{l:List Nat}(h:EA sb fn l g cap W)(m:C9 S W W')(a:¬S sb)(e:¬S g):EA sb fn l g cap W' :=
 ⟨m.obj a h.obj,m.owns h.own (λq a x=>by
  have a:g=q:=by simpa [Value.ownBlock]using a
  rw[<-a]at x;exact e x),h.ne,h.small,h.fns⟩
def P4(a:qs)(n cap:Nat)(w:rT):rH 121 #[.slice a n cap] w λe w'=>e=.returned (.int .i64 n)/\w=w':=by
 go_enter func121,ntmps121;go_wp2;go_ret;exact rM
def Mq{l:List Nat}(h:EA sb fn l g cap W){x y:Nat}(hi:l[i]?=some x)(a:l[k]?=some y):rH 214 #[.slice g l.length cap,[i],[k]] W λe w'=>e=.returned (.bool (decide (x<y)))/\C9 DA W w':=by
 obtain⟨e,_⟩:=h.at_ hi;obtain⟨b1,_⟩:=h.at_ a;have e:(i:Int)<l.length:=qm<|(AO.1 hi).1;have e:(k:Int)<l.length:=qm<|(AO.1 a).1;have e:(0:Int)<=i:=I;have e:(0:Int)<=k:=I;clear h hi a;go_enter func214,ntmps214;go_wp2;go_quiet (fail);go_wp2;go_ret;exact⟨nl,(C9.refl DA _).drewN _⟩
variable{e j n sz:Nat}{w:rT}{xs:qt}
def N0(h:w.ownsRow 0 e sz (.slice g n cap) n xs)(a:j<xs.length)(u:rU):(w.setCell (g,j) u).ownsRow 0 e sz (.slice g n cap) n (xs.set j u):=by
 obtain⟨a,e⟩:=h;refine⟨by rw[BL];exact a,?_⟩;rcases e with⟨m,_⟩|⟨h,a,e,q,hb,y,z,A,B,C⟩
 .cases m
 cases q;refine .inr ⟨g,cap,_,rfl,hb,zc y,z,A,qp B,?_⟩;rw[Array.toList_setIfInBounds,Cn,C]
theorem Uk(a:Nat->rU)(l:List Nat)(i y:Nat):((EK a l).set (i*2) (.int .i64 y)).set (i*2+1) (a y)=EK a (l.set i y):=by
 induction l generalizing i with
 | nil=>rfl
 | cons x l ih =>
  have e:∀x l,EK a (x::l)=.int .i64 x::a x::EK a l:=λ_ _=>rfl
  cases i with
  | zero=>rfl
  | succ i =>
   rw[e,(I:(i+1)*2=i*2+1+1)];simp only[CE];rw[e,ih i]
def FX(l:List Nat)(i k:Nat):List Nat:=(l.set i (l.getD k 0)).set k (l.getD i 0)
def ON{l:List Nat}(h:EA sb fn l g cap W){x y:Nat}(hi:l[i]?=some x)(m:l[k]?=some y):rH 217 #[.slice g l.length cap,[i],[k]] W λe w'=>e=.returned (.tuple #[])/\EA sb fn (FX l i k) g cap w'/\C9 (λq=>q=g) W w':=by
 have a:=zb h;obtain⟨C,M⟩:=h.at_ hi;obtain⟨b1,b2⟩:=h.at_ m;have C:(i:Int)<l.length:=qm<|(AO.1 hi).1;have A:(k:Int)<l.length:=qm<|(AO.1 m).1;have C:(0:Int)<=i:=I;have B:(0:Int)<=k:=I;have C:∀j,W.frozen? ⟨g,j,none⟩=false:=λj=>by
  rcases h.own.2 with⟨D,_⟩|⟨X,C,N,O,_,R,_⟩
  .cases D
  cases O;exact zd R
 obtain⟨D,N,O,C⟩:=h.fns x;obtain⟨N,O,R,D⟩:=h.fns y;rw[C]at M;rw[D]at b2;have E:=zb C;have z:=zb D;have M:=hi;have N:=m;have G:=zb M;have K:=zb N;clear h hi m M N C D;have fin:∀W',W'=(((W.setCell (g,i*2)<|.int .i64 y).setCell (g,i*2+1)<|fn y).setCell (g,k*2)<|.int .i64 x).setCell (g,k*2+1) (fn x)->EA sb fn (FX l i k) g cap W'/\C9 (λq=>q=g) W W':=by
  rintro W' rfl;have h:(FX l i k).length=l.length:=by simp[FX]
  have m:C9 (λq=>q=g) W ((((W.setCell (g,i*2)<|.int .i64 y).setCell (g,i*2+1)<|fn y).setCell (g,k*2)<|.int .i64 x).setCell (g,k*2+1)<|fn x) :=
   ((((C9.refl (λq=>q=g) W).setCell (p:=(g,i*2)) rO _).setCell (p:=(g,i*2+1)) rO _).setCell (p:=(g,k*2)) rO _).setCell (p:=(g,k*2+1)) rO _
  have g:=(AO.1 G.z).1;have g:=(AO.1 K.z).1;have g:=Qp fn l;have g:=N0 a.z.own (j:=i*2) I<|.int .i64 y;have q:=N0 g (j:=i*2+1) (by rw[BL];omega)<|fn y;rw[Uk]at q;have g:=Qp fn<|l.set i y;rw[BL]at g;have C:=N0 q (j:=k*2) I<|.int .i64 x;have g:=N0 C (j:=k*2+1) (by rw[BL];omega)<|fn x;rw[Uk]at g;have e:FX l i k=(l.set i y).set k x:=by
   simp[FX,AQ,G.z,K.z]
  refine⟨⟨?_,?_,a.z.ne,by rw[h];exact a.z.small,a.z.fns⟩,m⟩
  .rw[h];exact m.obj (λx=>a.z.ne x.symm) a.z.obj
  rw[h,e];exact g
 have n:=zb fin;clear fin;by_cases u:i=k
 .subst u;have L:x=y:=by
   have:=G.z;rw[K.z]at this;exact(Bc this).symm
  subst L;rw[E.z]at z;have a:=z;clear b1 b2 A B z;go_enter func217,ntmps217;go_wp2_with fail
  go_region
  go_wp2_with fail;refine bodyPost_end (results_none rfl _ _ _) rfl ⟨rfl,?_⟩;have F:=n.z _ rfl;rw[E.z]at F;exact⟨F.1.mod ((C9.refl DA _).drew) rP rP,F.2.drew⟩
 have n1:¬i*2=k*2:=I;have n2:¬k*2=i*2:=I;have n3:¬i*2+1=k*2:=I;have a:¬k*2=i*2+1:=I;have a:¬k*2+1=i*2:=I;have a:¬i*2=k*2+1:=I;clear u;go_enter func217,ntmps217;go_wp2_with fail
 go_region
 go_wp2_with fail;refine bodyPost_end (results_none rfl _ _ _) rfl ⟨rfl,?_⟩;have F:=n.z _ rfl;rw[E.z,z.z]at F;exact⟨F.1.mod ((C9.refl DA _).drew) rP rP,F.2.drew⟩
def hI(a:Nat):rU:=.iface 193 (.pointer a)
variable{v:rU}
def MN(c0:w sb=some v)(f:FuncId):(do let v <-loadVar 198 ⟨sb,0,none⟩;pure (f,v):Sem (FuncId×rU)).run prog w=.ok (f,v) w:=by
 have a:(isAgg 198).run prog w=.ok false w:=kw;simp[loadVar,a,c0,Result.andThen]
def Ma(c0:w sb=some v):(method 409 193 (.pointer (some ⟨sb, 0, none⟩)) "Less").run prog w=.ok (214, v) w :=
 Eq.trans (show _=(do let v <-loadVar 198 ⟨sb,0,none⟩;pure (214,v):Sem (FuncId×rU)).run prog w by kernel_rfl) (MN c0 _)
def Nu(c0:w sb=some v):(method 409 193 (.pointer (some ⟨sb, 0, none⟩)) "Swap").run prog w=.ok (217, v) w :=
 Eq.trans (show _=(do let v <-loadVar 198 ⟨sb,0,none⟩;pure (217,v):Sem (FuncId×rU)).run prog w by kernel_rfl) (MN c0 _)
def JP(c0:w sb=some v):(method 409 193 (.pointer (some ⟨sb, 0, none⟩)) "Len").run prog w=.ok (121, v) w :=
 Eq.trans (show _=(do let v <-loadVar 198 ⟨sb,0,none⟩;pure (121,v):Sem (FuncId×rU)).run prog w by kernel_rfl) (MN c0 _)
def Kv(a:Nat)(w:rT):(method 409 193 (.pointer (some ⟨a, 0, none⟩)) "Push").run prog w=.ok (216, .pointer (some ⟨a, 0, none⟩)) w := kw
def NV(a:Nat)(w:rT):(method 409 193 (.pointer (some ⟨a, 0, none⟩)) "Pop").run prog w=.ok (215, .pointer (some ⟨a, 0, none⟩)) w := kw
def EA.c0{l:List Nat}(h:EA sb fn l g cap W):W sb=some (.slice g l.length cap):=za h.obj rfl
def iE:(prog.info? 196).map (λi=>(i.zero,i.size,i.bytes))=some (some (.agg #[.int .i64 0,.nilFunc]),2,16):=kw
def DG{l:List Nat}(h:EA sb fn l g cap w)(c:Nat)(L:l.length<1024):∃n w' e a,(∀L,(Builtin.append_ #[198,198] L #[.slice g l.length cap,.slice w 1 1]).run prog (w.alloc (.cells #[[c],fn c] 196))=.ok n w') /\
   n=.slice (some ⟨e,0,none⟩) (l.length+1) a/\w'.ownsRow 0 196 2 n (l.length+1) (EK fn<|l++[c])/\w.grownBy w' (some g)/\(e=g\/w.heap.size<=e):=by
 obtain⟨i,z,M,A,B⟩:=info_parts iE;have L:=Qp fn l;obtain⟨L,Y,b1,N⟩:=h.fns c;have O:EK fn [c]=[.int .i64 c,fn c]:=rfl;have m:∀(j:Nat) u,(EK fn [c])[j]?=some u->(w.alloc<|.cells #[[c],fn c] 196) ((⟨w.heap.size,0,none⟩:Addr).add j)=some u:=by
  intro j u L;rw[EU];refine za (heap_alloc_new w _) ?_;rw[An,<-Array.getElem?_toList];exact L
 have E:g<w.heap.size:=by
  rcases h.own.2 with⟨G,_⟩|⟨e,a,C,y,_,E,_⟩
  .cases G
  cases y;exact(AJ.1 E).1
 obtain⟨n,w',R,D,q,X,E⟩:=KZ (P:=prog) (w.alloc<|.cells #[[c],fn c] 196) 198 196 i _ 2 16 underlying198 z M A B rfl lc (.slice g l.length cap) l.length (EK fn l) (World.ownsRow.alloc h.own _)
  ⟨w.heap.size,0,none⟩ 1 1 (EK fn [c]) rfl m (by rw[O,N];intro u K;simp at K;rcases K with rfl|rfl<;>rfl) pi I
 have h:EK fn l++EK fn [c]=EK fn (l++[c]):=by simp[EK]
 rw[h]at D;rcases D.2 with⟨G,m⟩|⟨e,a,C,y,hb,u,h,z,A,B⟩
 .exact absurd m I
 refine⟨n,w',e,a,R,y,D,⟨q.os,q.tape,q.output,AR nl q.size,λk a h=>(q.block k ol h).trans<|Below.heap_alloc w _ k a⟩,?_⟩;rcases X e (by rw[y];rfl)with x|x
 .left;have:g=e:=by simpa [Value.ownBlock]using x
  exact this.symm
 right;simp at x;omega
def PN(h:Nat)(m:Nat->rU)(l:List Nat)(c g:Nat)(W:rT)(e:Ending)(w':rT):Prop :=
 e=.returned (.tuple #[])/\∃e a,EA h m (l++[c]) e a w'/\(e=g\/W.heap.size<=e)/\C9 (λq=>q=h\/q=g) W w'
def cM{l:List Nat}(h:EA sb fn l g cap W)(c:Nat)(m:l.length<1024):rH 216 #[(sb,0),.iface 196 (.agg #[.int .i64 c,fn c])] W (PN sb fn l c g W):=by
 obtain⟨u,w',z,a,C,q,n,A,e⟩:=DG (h.mod ((C9.refl DA W).drew) rP rP) c m;subst q;have m:=((C9.refl (λq=>q=g) W).drew).grown A<|λq u=>.inl<|qp u.symm;have B:=m.obj (λx=>h.ne x.symm) h.obj;have y:=(AJ.1 h.obj).1;have y:z≠sb:=by
  rcases e with x|x
  .rw[x];exact h.ne
  simp at x;omega
 have fin:PN sb fn l c g W (.returned<|.tuple #[]) (w'.setCell sb<|.slice z (l.length+1) a):=by
  have D:C9 (λq=>q=sb) w' (w'.setCell sb<|.slice z (l.length+1) a):=(C9.refl (λq=>q=sb) _).setCell (p:=sb) rO _;refine⟨rfl,z,a,⟨?_,?_,y,by rw[AF,Ak];omega,h.fns⟩,qp e,(m.mono<|λ_ x=>.inl<|.inr x).then D<|λ_ u=>.inl<|.inl u⟩
  .rw[zc B,AF,Ak];rfl
  rw[AF,Ak];exact D.owns n (λq u x=>by
   have u:z=q:=by simpa [Value.ownBlock]using u
   exact y<|u.trans x)
 have u:=zb fin;have D:=zb C;have c0:=h.c0;have z:=zb h;have c1:w' sb=some (.slice g l.length cap):=za B rfl;have q:=zb B;have a:∀j,w'.frozen? ⟨sb,j,none⟩=false:=λj=>zd B
 obtain⟨E,G,K,a⟩:=h.fns c;have E:=zb a;clear fin C m B h n A e y c1 a;have a:∀(v:rU) (w:rT),(Instr.typeAssert (.iface 196 v) 20 196 false).run prog w=.ok v w:=λ_ _=>kw
 go_enter func216,ntmps216;go_wp2_with fail;refine zr 9 (λw'=>w'.heap[sb]?=some (.cells #[.slice g l.length cap] 198 (0,0))) (z.z.obj) ?_;refine GI 0 ?_;iterate 6
  refine GS rfl ?_ ?_ ?_;rotate_left
  ·(intro h a;(try dsimp only at a);have c0:=za (o:=0) a rfl;go_simp;try with_reducible rfl)
  try simp only[PS]
 refine zD 6 rfl (λK e=>?_);go_simp;refine e.z _ _ (((C9.refl DA W).drew.alloc _).obj rP z.z.obj) ?_;clear e K;try simp only[PS]
 refine zD 7 rfl (λK e=>?_);refine zO rfl _ _ _ _ rfl _ _ _ rfl rfl D.z ?_;refine e.z _ _ q.z ?_;clear e K;try simp only[PS]
 refine GI 8 ?_;refine GS rfl ?_ ?_ ?_;rotate_left
 ·(intro h a;(try dsimp only at a);have c0:=za (o:=0) a rfl;go_simp;try with_reducible rfl)
 try simp only[PS]
 have c1:w' sb=some (.slice g l.length cap):=za q.z rfl;refine Dt rfl (λK e=>?_);go_simp;refine e.z _ _ ?_;clear e K;try simp only[PS]
 refine zt ?_;exact bodyPost_end (results_none rfl _ _ _) rfl u.z
variable{p:Nat}
def cL{l:List Nat}(h:EA sb fn l g cap W){x y:Nat}(a:l[j]?=some y)(B:(j-1) / 2=p)(g:l[p]?=some x)(q:x<=y)(C:1<=j):rH 156 #[hI sb,[j]] W λe W'=>e=.returned (.tuple #[])/\C9 DA W W':=by
 have q:=(AO.1 a).1;have q:=h.small;have q:IntKind.i64.wrap ((j:Int)-1)=(j:Int)-1:=IntWalk.i64_in _ I;have q:((j:Int)-1).tdiv 2=(p:Int):=by
  rw[Int.tdiv_eq_ediv_of_nonneg I];omega
 have q:((p:Int)==(j:Int))=false:=AM.2 I;have u:=zb h;have z:=zb a;have A:=zb g;clear h a g;unfold hI;go_enter func156,ntmps156;go_wp2_with fail
 go_loopw [1] (λa wr=>a=.int .i64 j/\C9 DA W wr) (λ_ _=>0)
 case atStart=>exact⟨rfl,C9.refl _ _⟩
 case round =>
  obtain⟨rfl,m⟩:=hrel;have h:=u.z.mod m rP rP;have a:=Ma h.c0;have a:=Mq h z.z A.z;have g:decide (y<x)=false:=ol;rw[g]at a;have q:=zb a;have M:=zb m;clear h a g m;go_wp2_with (refine q.z.mono ?_;rintro e a ⟨rfl,n⟩;have a:=zb n;clear n);exact bodyPost_end (results_none rfl _ _ _) rfl ⟨rfl,M.z.trans a.z⟩
def fH{l:List Nat}(h:EA sb fn l g cap W)(c:Nat)(E:l.length<1024)(G:1<=l.length)(m:∀x∈l,x<=c):rH 118 #[hI sb,.iface 196 (.agg #[.int .i64 c,fn c])] W (PN sb fn l c g W):=by
 have K:=Kv sb W;have g:=cM h c E;have E:=zb g;have n:=zb m;clear h g m;unfold hI;go_enter func118,ntmps118;go_upto_region 1 with(refine E.z.mono ?_;rintro e L ⟨rfl,u,a,z,A,B⟩;have q:=zb z;have M:=zb A;have N:=zb B;clear z A B);have h:=JP q.z.c0;have z:=P4 (some ⟨u,0,none⟩) (l++[c]).length a L;have m:(l++[c]).length=l.length+1:=nl;have g:=zb m;have g:(l.length-1) / 2<l.length:=I;have A:=cL q.z (j:=l.length) (p:=(l.length-1) / 2) (x:=(l[(l.length-1) / 2]'g)) (y:=c) nl rfl (by rw[Ag g,AG g]) (n.z _<|Cq g) G;have O:IntKind.i64.wrap (((l.length+1:Nat):Int)-1)=(l.length:Int):=by rw[IntWalk.i64_in _ I];omega
 have C:=zb A;unfold hI at C;rw[m]at h z;clear A K m n;go_wp2_with (first|(refine z.mono ?_;rintro _ _ ⟨rfl,rfl⟩;(try simp only[O]))|(refine C.z.mono ?_;rintro e e ⟨rfl,D⟩));exact bodyPost_end (results_none rfl _ _ _) rfl ⟨rfl,u,a,q.z.mod D rP rP,M.z,N.z.trans<|D.mono rQ⟩
def cK(h:w.ownsRow 0 e sz (.slice g n cap) n xs)(y:m<=n):w.ownsRow 0 e sz (.slice g m cap) m (xs.take (m*sz)):=by
 obtain⟨E,e⟩:=h;have a:m*sz<=n*sz:=B7 _ y;refine⟨by rw[AU];omega,?_⟩;rcases e with⟨z,_⟩|⟨h,e,q,A,hb,B,m,u,C,D⟩
 .cases z
 cases A;exact .inr ⟨g,cap,q,rfl,hb,B,I,u,C,by rw[<-D,BY,BU a]⟩
theorem jl(a:Nat->rU)(l:List Nat)(m:Nat):(EK a l).take (m*2)=EK a (l.take m):=by
 induction l generalizing m with
 | nil=>simp[EK]
 | cons x l ih =>
  have e:∀x l,EK a (x::l)=.int .i64 x::a x::EK a l:=λ_ _=>rfl
  cases m with
  | zero=>simp[EK]
  | succ m =>
   rw[e,(I:(m+1)*2=m*2+1+1)];simp only[Bt];rw[e,ih m]
def cJ{l:List Nat}{c:Nat}(h:EA sb fn (l++[c]) g cap W):rH 215 #[(sb,0)] W λe w'=>e=.returned (.iface 196 (.agg #[.int .i64 c,fn c]))/\EA sb fn l g cap w'/\C9 (λq=>q=sb) W w':=by
 have n:(l++[c]).length=l.length+1:=nl;have c0:=h.c0;obtain⟨e,B⟩:=h.at_ (i:=l.length) (c:=c) nl;have e:=h.small;rw[n]at c0 e;have e:=(AJ.1 h.obj).1;have m:g<W.heap.size:=by
  rcases h.own.2 with⟨u,_⟩|⟨C,a,y,z,_,m,_⟩
  .cases u
  cases z;exact(AJ.1 m).1
 have e:l.length+1<=cap:=by
  rcases h.own.2 with⟨u,_⟩|⟨C,a,y,z,_,m,A,_⟩
  .cases u
  cases z;rw[n]at A;exact A
 obtain⟨e,m,b1,a⟩:=h.fns c;have fin:∀w':rT,C9 DA W w'->EA sb fn l g cap (w'.setCell sb<|.slice g l.length cap)/\C9 (λq=>q=sb) W (w'.setCell sb<|.slice g l.length cap):=λw' m=>by
  have e:=h.mod m rP rP;have u:C9 (λq=>q=sb) w' (w'.setCell sb<|.slice g l.length cap):=(C9.refl (λq=>q=sb) _).setCell (p:=sb) rO _;refine⟨⟨by rw[zc e.obj];rfl,?_,h.ne,I,h.fns⟩,(m.mono rQ).trans u⟩;have o:=cK (m:=l.length) e.own (by rw[n];omega);rw[jl,BI]at o;exact u.owns o (λq e x=>by
   have e:g=q:=by simpa [Value.ownBlock]using e
   exact h.ne<|e.trans x)
 have e:=zb fin;have g:=zb a;rw[a]at B ⊢;have g:=zb h.obj;have g:IntKind.i64.wrap ((l.length+1:Int)-1)=(l.length:Int):=by rw[IntWalk.i64_in _ I];omega
 have g:W.frozen? ⟨sb,0,none⟩=false:=zd h.obj;clear h fin a n;go_enter func215,ntmps215;go_wp2;go_ret;have F:=e.z W rS;exact⟨rfl,F.1.mod ((C9.refl DA _).alloc _) rP rP,F.2.alloc _⟩
def GW:Nat->List Nat->Nat->Nat->List Nat
 | 0,l,_,_=>l
 | f+1,l,i,n =>
  if 2*i+1<n then
   if 2*i+2<n/\l.getD (2*i+2) 0<l.getD (2*i+1) 0 then
    if l.getD (2*i+2) 0<l.getD i 0 then GW f (FX l i<|2*i+2) (2*i+2) n else l
   else if l.getD (2*i+1) 0<l.getD i 0 then GW f (FX l i<|2*i+1) (2*i+1) n else l
  else l
def Ml{l:List Nat}(h:i<l.length):l[i]?=some (l.getD i 0):=by
 rw[AQ,AG h];rfl
def Uj(l:List Nat)(i k:Nat):(FX l i k).length=l.length:=by simp[FX]
structure IT(sb:Nat)(fn:Nat->rU)(l0:List Nat)(n g cap:Nat)(W0:rT)(i:Nat)(l:List Nat)(W:rT):Prop where
 h:EA sb fn l g cap W
 m:C9 (λq=>q=g) W0 W
 len:l.length=l0.length
 f:∃f,n<=i+f/\GW f l i n=GW n l0 0 n
variable{W0:rT}
theorem IT.leave{a:List Nat}{l:List Nat}(h:IT sb fn a n g cap W0 i l W)(e:¬2*i+1<n):GW n a 0 n=l:=by
 obtain⟨f,g,a⟩:=h.f;rw[<-a];cases f with
 | zero=>rfl
 | succ f =>
  unfold GW;rw[AH e]
theorem IT.stop{e:List Nat}{l:List Nat}(h:IT sb fn e n g cap W0 i l W)(q:2*i+1<n)(a:j=if 2*i+2<n/\l.getD (2*i+2) 0<l.getD (2*i+1) 0 then 2*i+2 else 2*i+1)(m:¬l.getD j 0<l.getD i 0):GW n e 0 n=l:=by
 obtain⟨f,g,e⟩:=h.f;rw[<-e];cases f with
 | zero=>rfl
 | succ f =>
  unfold GW;rw[AL q];split at a
  .rw[AL (by assumption),<-a,AH m]
  rw[AH (by assumption),<-a,AH m]
theorem IT.next{e:List Nat}{l:List Nat}(h:IT sb fn e n g cap W0 i l W)(u:2*i+1<n)(a:j=if 2*i+2<n/\l.getD (2*i+2) 0<l.getD (2*i+1) 0 then 2*i+2 else 2*i+1)(m:l.getD j 0<l.getD i 0)
  (y:EA sb fn (FX l i j) g cap W') (z:C9 (λq=>q=g) W W'):IT sb fn e n g cap W0 j (FX l i j) W':=by
 obtain⟨f,e,A⟩:=h.f;refine⟨y,h.m.trans z,by rw[Uj];exact h.len,?_⟩;cases f with
 | zero=>omega
 | succ f =>
  refine⟨f,by split at a<;>omega,?_⟩;rw[<-A]
  conv=>rhs;unfold GW
  rw[AL u];split at a
  .rw[AL (by assumption),<-a,AL m]
  rw[AH (by assumption),<-a,AL m]
def cI{l:List Nat}(h:EA sb fn l g cap W)(n:Nat)(q:n<=l.length):rH 158 #[hI sb,.int .i64 0,[n]] W λe W'=>(∃b,e=.returned (.bool b))/\EA sb fn (GW n l 0 n) g cap W'/\C9 (λq=>q=g) W W':=by
 have q:=h.small;have HH:AA (IT sb fn l n g cap W 0 l W):=⟨h,C9.refl _ _,rfl,n,I,rfl⟩;obtain⟨R,q⟩:=nm<|GW n l 0 n;rw[q];have HR:=zb q;clear h q;unfold hI;go_enter func158,ntmps158;go_wp2_with fail
 go_loopw [7] (λh wr=>∃(i:Nat) (A:List Nat),h=.int .i64 i/\i<=n/\AA (IT sb fn l n g cap W i A wr)) (λh _=>n-(intOf h).toNat)
 case atStart=>exact⟨0,l,rfl,I,HH⟩
 case round =>
  obtain⟨i,A,rfl,h,u⟩:=hrel;obtain⟨D,ab⟩:∃D:Nat,2*i+1=D:=⟨_,rfl⟩;obtain⟨N,ac⟩:∃N:Nat,2*i+2=N:=⟨_,rfl⟩;have h:IntKind.i64.wrap (2*(i:Int))=2*(i:Int):=IntWalk.i64_in _ I;have h:IntKind.i64.wrap (2*(i:Int)+1)=(D:Int):=by rw[IntWalk.i64_in _ I];omega
  have h:IntKind.i64.wrap ((D:Int)+1)=(N:Int):=by rw[IntWalk.i64_in _ I];omega
  have h:=u.z.len;by_cases q:D<n
  .have aa:2*i+1<n:=I;have G:=zb aa;have gi:=Ml (l:=A) (i:=i) I;have g1:=Ml (l:=A) (i:=D) I;have ad:=zb h;obtain⟨x,hx⟩:=nm<|A.getD i 0;obtain⟨y1,q⟩:=nm<|A.getD D 0;obtain⟨y2,ae⟩:=nm<|A.getD N 0;rw[hx]at gi;rw[q]at g1;have K:=zb ab;have L:=zb ac;have HX:=zb hx;have E:=zb q;have M:=zb ae;clear h;have hm:=Ma u.z.h.c0;have d1:¬(n:Int)<=D:=I;have h:¬(D:Int)<0:=I;clear ab ac aa hx q ae;by_cases h2:N<n
   .have g2:=Ml (l:=A) (i:=N)<|qm ad.z;rw[M.z]at g2;have kl:=Mq u.z.h g2 g1;have d3:(N:Int)<n:=I;by_cases h3:y2<y1
    .rw[Ah h3]at kl;have KL:=zb kl;have H3:=zb h3;clear kl h3;go_upto_region 8 with(go_at_call 214;refine KL.z.mono ?_;rintro e w2 ⟨rfl,m2⟩;have O:=zb m2;clear m2);have X:=u.z.h.mod O.z rP rP;have Y:=Ma X.c0;have a:=Mq X g2 gi;have hj:N=if 2*i+2<n/\A.getD (2*i+2) 0<A.getD (2*i+1) 0 then 2*i+2 else 2*i+1:=by
      rw[L.z,K.z,E.z];rw[M.z,AL ⟨h2,H3.z⟩]
     have HJ:=zb hj;clear hj X hm;by_cases m:y2<x
     .rw[Ah m]at a;have y:=zb a;have Z:=zb m;clear a m;go_upto_region 9 with(go_at_call 214;refine y.z.mono ?_;rintro e w3 ⟨rfl,B⟩;have C:=zb<|O.z.trans B;clear B);have z:=u.z.h.mod C.z rP rP;have af:=Nu z.c0;have ks:=ON z gi g2;have KS:=zb ks;clear ks z Y;go_wp2_with (go_at_call 217;refine KS.z.mono ?_;rintro e w4 ⟨rfl,m,m4⟩;have H5:=zb m;have M4:=zb m4;clear m m4);go_roundw
      case rel=>exact⟨N,FX A i N,rfl,I,zb<|u.z.next G.z HJ.z (by rw[HX.z,M.z];exact Z.z) H5.z<|(C.z.mono rQ).trans M4.z⟩
      case measure =>
       have a1:=K.z;have a2:=L.z;simp[intOf];omega
     rw[A8 m]at a;have y:=zb a;have Z:=zb m;clear a m;go_wp2_with (go_at_call 214;refine y.z.mono ?_;rintro e w3 ⟨rfl,B⟩;have C:=zb<|O.z.trans B;clear B);all_goals
      go_ret;have e:=u.z.stop G.z HJ.z (by rw[HX.z,M.z];exact Z.z);rw[HR.z]at e;exact⟨⟨_,rfl⟩,by rw[e];exact u.z.h.mod C.z rP rP,u.z.m.trans<|C.z.mono rQ⟩
    rw[A8 h3]at kl;have KL:=zb kl;have H3:=zb h3;clear kl h3;go_upto_region 8 with(go_at_call 214;refine KL.z.mono ?_;rintro e w2 ⟨rfl,m2⟩;have O:=zb m2;clear m2);have X:=u.z.h.mod O.z rP rP;have Y:=Ma X.c0;have a:=Mq X g1 gi;have hj:D=if 2*i+2<n/\A.getD (2*i+2) 0<A.getD (2*i+1) 0 then 2*i+2 else 2*i+1:=by
     rw[L.z,K.z,E.z];rw[M.z,AH (λx=>H3.z x.2)]
    have HJ:=zb hj;clear hj X hm;by_cases m:y1<x
    .rw[Ah m]at a;have y:=zb a;have Z:=zb m;clear a m;go_upto_region 9 with(go_at_call 214;refine y.z.mono ?_;rintro e w3 ⟨rfl,B⟩;have C:=zb<|O.z.trans B;clear B);have z:=u.z.h.mod C.z rP rP;have af:=Nu z.c0;have ks:=ON z gi g1;have KS:=zb ks;clear ks z Y;go_wp2_with (go_at_call 217;refine KS.z.mono ?_;rintro e w4 ⟨rfl,m,m4⟩;have H5:=zb m;have M4:=zb m4;clear m m4);go_roundw
     case rel=>exact⟨D,FX A i D,rfl,I,zb<|u.z.next G.z HJ.z (by rw[HX.z,E.z];exact Z.z) H5.z<|(C.z.mono rQ).trans M4.z⟩
     case measure =>
      have a1:=K.z;have a2:=L.z;simp[intOf];omega
    rw[A8 m]at a;have y:=zb a;have Z:=zb m;clear a m;go_wp2_with (go_at_call 214;refine y.z.mono ?_;rintro e w3 ⟨rfl,B⟩;have C:=zb<|O.z.trans B;clear B);all_goals
     go_ret;have e:=u.z.stop G.z HJ.z (by rw[HX.z,E.z];exact Z.z);rw[HR.z]at e;exact⟨⟨_,rfl⟩,by rw[e];exact u.z.h.mod C.z rP rP,u.z.m.trans<|C.z.mono rQ⟩
   have d3:¬(N:Int)<n:=I;clear M;go_upto_region 8 with fail;have O:AA (C9 DA wr wr):=zb rS;have X:=u.z.h.mod O.z rP rP;have Y:=Ma X.c0;have a:=Mq X g1 gi;have hj:D=if 2*i+2<n/\A.getD (2*i+2) 0<A.getD (2*i+1) 0 then 2*i+2 else 2*i+1:=by
    rw[L.z,K.z,E.z];rw[AH (λx=>h2 x.1)]
   have HJ:=zb hj;clear hj X hm;by_cases m:y1<x
   .rw[Ah m]at a;have y:=zb a;have Z:=zb m;clear a m;go_upto_region 9 with(go_at_call 214;refine y.z.mono ?_;rintro e w3 ⟨rfl,B⟩;have C:=zb<|O.z.trans B;clear B);have z:=u.z.h.mod C.z rP rP;have af:=Nu z.c0;have ks:=ON z gi g1;have KS:=zb ks;clear ks z Y;go_wp2_with (go_at_call 217;refine KS.z.mono ?_;rintro e w4 ⟨rfl,m,m4⟩;have H5:=zb m;have M4:=zb m4;clear m m4);go_roundw
    case rel=>exact⟨D,FX A i D,rfl,I,zb<|u.z.next G.z HJ.z (by rw[HX.z,E.z];exact Z.z) H5.z<|(C.z.mono rQ).trans M4.z⟩
    case measure =>
     have a1:=K.z;have a2:=L.z;simp[intOf];omega
   rw[A8 m]at a;have y:=zb a;have Z:=zb m;clear a m;go_wp2_with (go_at_call 214;refine y.z.mono ?_;rintro e w3 ⟨rfl,B⟩;have C:=zb<|O.z.trans B;clear B);all_goals
    go_ret;have e:=u.z.stop G.z HJ.z (by rw[HX.z,E.z];exact Z.z);rw[HR.z]at e;exact⟨⟨_,rfl⟩,by rw[e];exact u.z.h.mod C.z rP rP,u.z.m.trans<|C.z.mono rQ⟩
  have d1:(n:Int)<=D:=I;have aa:¬2*i+1<n:=I;have e:EA sb fn R g cap wr:=by
   rw[<-HR.z,u.z.leave aa];exact u.z.h
  have a:=zb e;clear ab ac e;go_wp2_with fail;all_goals
   go_ret;exact⟨⟨_,rfl⟩,a.z,u.z.m⟩
def cH{l a:List Nat}{c:Nat}(h:EA sb fn l g cap W)(q:1<=l.length)(u:GW (l.length-1) (FX l 0 (l.length-1)) 0 (l.length-1)=a++[c]):rH 122 #[hI sb] W λe W'=>e=.returned (.iface 196 (.agg #[.int .i64 c,fn c]))/\EA sb fn a g cap W'/\C9 (λq=>q=sb\/q=g) W W':=by
 have a:=h.small;obtain⟨n,q⟩:∃n,l.length=n+1:=⟨l.length-1,I⟩;have a:l.length-1=n:=I;rw[a]at u;have z:=JP h.c0;have m:=Nu h.c0;have y:=P4 (some ⟨g,0,none⟩) l.length cap W;have g:=ON h (Ml (l:=l) (i:=0) I)<|Ml (l:=l) (i:=n) I;have A:IntKind.i64.wrap (((n+1:Nat):Int)-1)=(n:Int):=by rw[IntWalk.i64_in _ I];omega
 have A:wrap64 (n:Int)=(n:Int):=IntWalk.wrap64_in _ I;have A:(FX l 0 n).length=n+1:=by rw[Uj,q]
 rw[q]at z m y g;rw[show((0:Nat):Int)=0 from rfl]at g;have L:=zb y;have M:=zb g;have N:=zb u;have O:=zb A;clear h y g u q a A;unfold hI;go_enter func122,ntmps122;go_upto_region 3 with(first|(go_at_call 121;refine L.z.mono ?_;rintro e a ⟨rfl,rfl⟩)|(go_at_call 217;refine M.z.mono ?_;rintro e a ⟨rfl,B,C⟩;have g:=zb B;have R:=zb C;clear B C));have a:=cI g.z n (by rw[O.z];omega);rw[N.z]at a;have g:=zb a;unfold hI at g;clear a z m;go_upto_region 4 with(go_at_call 158;refine g.z.mono ?_;rintro e X ⟨⟨a,rfl⟩,D,E⟩;have g:=zb D;have Y:=zb E;clear D E);have a:=NV sb X;have a:=cJ g.z;have g:=zb a;clear a;go_wp2_with (go_at_call 215;refine g.z.mono ?_;rintro e a ⟨rfl,G,K⟩;have a:=zb G;have e:=zb K;clear G K);go_ret;exact⟨rfl,a.z,((R.z.trans Y.z).mono<|λ_ x=>.inl<|.inr x).trans<|e.z.mono<|λ_ x=>.inl<|.inl x⟩
end
section
open Go
open Go.Proofs.Tryz
variable{P:Program}{Q:Exit->Act->rT->Prop}
def fA{o:Oper}{a:Act}{K:Act->rT->Prop}{r:Result Next}(l n:Nat)(h:o.upon P a K Q r):o.uponIn (Fence.wide.inRound l) n P a K Q r:=by
 unfold Oper.upon at h;unfold Oper.uponIn;split at h<;>simp only[]at h ⊢
 .exact h
 .exact h
 .exact h
 .exact⟨λx=>by simp[Fence.wide]at x,callsIn_wide.2 h⟩
 .refine⟨λx=>by simp[Fence.wide]at x,λc cs _=>?_⟩;obtain⟨v,w',a,s⟩:=h c cs;exact⟨v,w',a,stepsIn_wide.2 s⟩
 exact h
variable{ops:Array Oper}
theorem UH{md:Region.Mode}(l n:Nat)(hd:∀(i:Nat) o,ops[i]?=some o->∀c,o.op≠.defer c)(g:¬LetsOut Q):∀(fuel:Nat) (L:Array Bool) (a:Act) (w:rT),wpAny P md ops Q fuel L a w->wpAnyIn (Fence.wide.inRound l) n P md ops Q fuel L a w
 | 0,_,_,_,h=>h
 | fuel+1,L,a,w,h=>by
  refine⟨h.1,λi m=>?_⟩;have e:=h.2 i m;have h:∀a w,wpAny P md ops Q fuel (L.setIfInBounds i true) a w->wpAnyIn (Fence.wide.inRound l) n P md ops Q fuel (L.setIfInBounds i true) a w:=λa w x=>UH l n hd g fuel _ a w x
  refine wpOpIn_mono h ?_;unfold wpOp at e;unfold wpOpIn;cases ho:ops[i]? with
  | none =>
   rw[ho]at e;exact e
  | some o =>
   rw[ho]at e;simp only[]at e ⊢;by_cases h:Region.wanted o (yielded ops a.tmps)=true
   .simp only[h,Aq]at e ⊢;rcases e with e|⟨_,e⟩
    .refine⟨λ_ _=>trivial,?_⟩;rw[show(Fence.wide.inRound l).round=some l from rfl,Oper.semAt_some l _ _ (hd i o ho)];exact fA l n e
    exact absurd e g
   simp only[h,BT,BE]at e ⊢;exact⟨λ_ _=>trivial,e⟩
def P1(ops:Array Oper):Bool:=ops.all λo=>match o.op with|.defer _=>false|_=>true
def jW(h:P1 ops=true)(i:Nat)(o:Oper)(a:ops[i]?=some o):∀c,o.op≠.defer c:=by
 intro c e;have:=(Array.all_eq_true.1 h) i (AJ.1 a).1;rw[(AJ.1 a).2,e]at this;cases this
variable{n:Nat}{w:rT}
def jV{id:Nat}{a:Act}{l:Nat}(e:P.follows .mixedOrders=true)(hd:P1 ops=true)(g:¬LetsOut Q)
  (h:wpAny P .any ops Q ops.size (Array.replicate ops.size false) a w.drew):(Code.region id ops true).wpIn (Fence.wide.inRound l) n P Q a w :=
 wpIn_region_any e (UH l n (jW hd) g _ _ _ _ h)
def Wk{id:Nat}{a:Act}{l:Nat}(k:Nat)(F:rT->Prop)(m:P.follows .mixedOrders=true)(hd:P1 ops=true)(q:Region.noSelect ops=true)(u:F w.drew)
  (h:GT P .any ops (λe a w=>e=.normal/\Q .normal a w) k F ops.size (Array.replicate ops.size false) a w.drew):(Code.region id ops true).wpIn (Fence.wide.inRound l) n P Q a w:=by
 have y:(Code.region id ops true).wpIn (Fence.wide.inRound l) n P (λe a w=>e=.normal/\Q .normal a w) a w:=by
  refine jV m hd ?_<|QZ _ _ _ _<|h ⟨q,nl,λj h _ g=>?_⟩<|.inr u
  .rintro⟨_,_,x,_⟩;cases x
  have:=getD_replicate_false ops.size j;rw[this]at g;cases g
 exact Go.wpIn_mono y<|λe a w k=>by rw[k.1];exact k.2
end
section
open Go.RowKit Go.Proofs.Tryz
def OU(n lo hi:Int)(w:rT):rH 69 #[[n],[lo],[hi]] w λe w'=>e=.returned (.bool (decide (lo<=n)&&decide (n<=hi)))/\w=w':=by
 by_cases a:lo<=n
 .by_cases e:n<=hi
  .have g:decide (lo<=n)=true:=by simp[a]
   have h:decide (n<=hi)=true:=by simp[e]
   go_enter func69,ntmps69;go_wp2;go_ret;exact⟨by simp[a,e],rfl⟩
  have g:decide (lo<=n)=true:=by simp[a]
  have h:decide (n<=hi)=false:=ol;go_enter func69,ntmps69;go_wp2;go_ret;exact⟨by simp[a,e],rfl⟩
 have g:decide (lo<=n)=false:=ol;go_enter func69,ntmps69;go_wp2;go_ret;exact⟨by simp[a],rfl⟩
section
variable {P:Program} {ops:Array Oper} {Q:Exit->Act->rT->Prop} {md:Region.Mode} {F:rT->Prop} {k:Nat}
variable{L:Array Bool}{fuel i j:Nat}{w:rT}
def LM{o o':Oper}{a:Act}(A:ops[i]?=some o)(m:ops[j]?=some o')(y:Region.ready md ops L=[i,j])
  (h:∀K':Act->rT->Prop,AE (∀a w,F w->GT P md ops Q k F fuel (L.setIfInBounds i true) a w->K' a w)->if Region.wanted o (yielded ops a.tmps)=true then Oper.wp P o a w K' Q else K' (a.put o.dst undef) w)
  (B:∀K':Act->rT->Prop,AE (∀a w,F w->GT P md ops Q k F fuel (L.setIfInBounds j true) a w->K' a w)->if Region.wanted o' (yielded ops a.tmps)=true then Oper.wp P o' a w K' Q else K' (a.put o'.dst undef) w) :
  GT P md ops Q k F (fuel+1) L a w:=λc _=>by
 refine⟨λq=>(by rw[y]at q;cases q),λq e=>?_⟩;have z:=c.set e;rw[y]at e;simp only[Be,CW,or_false]at e;rcases e with e|e
 .subst e;exact wpOp_step A<|λK' n=>h K'<|λa w g u=>n a w ⟨.inr g,u z<|.inr g⟩
 subst e;exact wpOp_step m<|λK' n=>B K'<|λa w g u=>n a w ⟨.inr g,u z<|.inr g⟩
end
def U0(W:rT)(o:Obj):(W.alloc o).heap[W.heap.size]?=some o:=by
 show(W.heap.push o)[W.heap.size]?=some o;simp
structure Mg(W1:rT)(g m:Nat)(W3:rT):Prop where
 ne:g≠m
 g1:W1.heap.size<=g
 m1:W1.heap.size<=m
 sz:W3.heap.size=W1.heap.size+2
 set:W3.heap[g]?=some (.cells #[rV,.int .u64 0,.int .i64 8] 138 (0,0))
 map:W3.heap[m]?=some (.map #[] 0)
 mod:C9 DA W1 W3
def Qu(W1:rT):Mg W1 W1.heap.size (W1.heap.size+1) ((W1.drew.alloc (.cells #[rV,.int .u64 0,.int .i64 (max 8 1)] 138)).alloc (.map #[] 0)):=by
 have e:(W1.drew.alloc<|.cells #[rV,.int .u64 0,.int .i64 (max 8 1)] 138).heap.size=W1.heap.size+1:=nl;refine⟨I,AI _,Ar _,nl,?_,?_,((C9.refl DA W1).drew.alloc _).alloc _⟩
 .exact((C9.refl DA _).alloc _).obj rP (heap_alloc_new W1.drew _)
 rw[<-e];exact U0 _ _
def Qt(W1:rT):Mg W1 (W1.heap.size+1) W1.heap.size ((W1.drew.alloc (.map #[] 0)).alloc (.cells #[rV,.int .u64 0,.int .i64 (max 8 1)] 138)):=by
 have e:(W1.drew.alloc<|.map #[] 0).heap.size=W1.heap.size+1:=nl;refine⟨I,Ar _,AI _,nl,?_,?_,((C9.refl DA W1).drew.alloc _).alloc _⟩
 .rw[<-e];exact heap_alloc_new _ _
 exact((C9.refl DA _).alloc _).obj rP (U0 W1.drew _)
def WS.zero:WS:=⟨[],⟨[],0,0⟩,⟨[],0,0⟩,0,false,false,false,0,0,false,0⟩
def RS.zero:RS:=⟨[],⟨[],0,0⟩,0,0,false,false,0,0,0,0,false⟩
def WS.new(a:Nat):WS:=⟨[],⟨[],0,2048⟩,⟨[],0,2048⟩,0,false,false,false,0,0,false,a⟩
def RS.new(a:Nat):RS:=⟨[],⟨[],0,4097⟩,0,0,false,false,0,0,0,a,false⟩
def CS.laid(kj kT total k:Nat):CS :=
 {kj:=kj,kT:=kT,total:=total,now:=0,closed:=0,said:=false,next:=0,kN:=⟨[],0,8⟩,answer:=false,ws:=λj=>if j<k then WS.new kT else WS.zero,rs:=λj=>if j<k then RS.new kT else RS.zero,kF:=total,kE:=total,ky:=false,kB:=[],kO:=0,waits:=[],lN:=0,lW:=false,seen:=[],most:=0,kG:=[] }
def CS.new(g a e:Nat):CS:={ CS.laid g a e 0 with ws:=λ_=>WS.new a,rs:=λ_=>RS.new a }
def CV.new(g m:Nat):CV:=⟨g,.slice none 0 0,λ_=>.slice none 0 0,λ_=>.slice none 0 0,λ_=>.slice none 0 0,λ_=>.slice none 0 0,λ_=>.slice none 0 0,.slice none 0 0,[],.slice none 0 0,m,.slice none 0 0⟩
def dS(h a e k g m:Nat)(u:k<8):((((((zA (CS.laid h a e k) (CV.new g m)).set (9+15*k+14) (.int .u64 a)).set (9+15*k+3) (.int .i64 2048)).set (9+15*k+6) (.int .i64 2048)).set (129+13*k+11) (.int .u64 a)).set (129+13*k+3) (.int .i64 4097))=zA (CS.laid h a e (k+1)) (CV.new g m):=by
 have z:=Gn (CS.laid h a e k) { CS.laid h a e k with ws:=zh (CS.laid h a e k).ws k { WS.zero with kF:=a } } (CV.new g m) (CV.new g m) (k:=k) (j:=14) (.int .u64 a) u lc (λq _=>by
  by_cases n:q=k
  .subst n;simp[zh,CS.laid];rfl
  simp[zh,CS.laid,n]) rfl rfl rfl
 rw[z];have A:=Gn { CS.laid h a e k with ws:=zh (CS.laid h a e k).ws k { WS.zero with kF:=a } } { CS.laid h a e k with ws:=zh (CS.laid h a e k).ws k { WS.zero with kF:=a,kH:=⟨[],0,2048⟩ } } (CV.new g m) (CV.new g m) (k:=k) (j:=3) (.int .i64 2048) u lc (λq _=>by
  by_cases n:q=k
  .subst n;simp[zh];rfl
  simp[zh,n]) rfl rfl rfl
 rw[A];have B:=Gn { CS.laid h a e k with ws:=zh (CS.laid h a e k).ws k { WS.zero with kF:=a,kH:=⟨[],0,2048⟩ } } { CS.laid h a e k with ws:=zh (CS.laid h a e k).ws k (WS.new a) } (CV.new g m) (CV.new g m) (k:=k) (j:=6) (.int .i64 2048) u lc (λq _=>by
  by_cases n:q=k
  .subst n;simp[zh];rfl
  simp[zh,n]) rfl rfl rfl
 rw[B];have C:=KX { CS.laid h a e k with ws:=zh (CS.laid h a e k).ws k (WS.new a) } { CS.laid h a e k with ws:=zh (CS.laid h a e k).ws k<|WS.new a,rs:=zh (CS.laid h a e k).rs k { RS.zero with kE:=a } } (CV.new g m) (CV.new g m) (k:=k) (j:=11) (.int .u64 a) u lc (λq _=>by
  by_cases n:q=k
  .subst n;simp[zh,CS.laid];rfl
  simp[zh,CS.laid,n]) rfl rfl rfl
 rw[C];have D:=KX { CS.laid h a e k with ws:=zh (CS.laid h a e k).ws k<|WS.new a,rs:=zh (CS.laid h a e k).rs k { RS.zero with kE:=a } } (CS.laid h a e<|k+1) (CV.new g m) (CV.new g m) (k:=k) (j:=3) (.int .i64 4097) u lc (λq _=>by
  by_cases n:q=k
  .subst n;simp[zh,CS.laid];rfl
  .by_cases y:q<k
   .simp[zh,CS.laid,n,y,(I:q<k+1)]
   simp[zh,CS.laid,n,y,(I:¬q<k+1)]) rfl (by
  unfold Hg;congr 1;funext q;by_cases n:q=k
  .subst n;simp[zh,CS.laid]
  by_cases y:q<k
  .simp[zh,CS.laid,n,y,(I:q<k+1)]
  simp[zh,CS.laid,n,y,(I:¬q<k+1)]) rfl
 rw[D]
def fg(h a e g m:Nat):zA (CS.laid h a e 8) (CV.new g m)=zA (CS.new h a e) (CV.new g m):=rfl
def dR(h e a g m:Nat):(((((((zeroCells147.setIfInBounds 0 (.int .i64 h)).setIfInBounds 1 (.int .i64 e)).setIfInBounds 2 (.int .i64 a)).setIfInBounds 7 (.pointer g)).setIfInBounds 233 (.int .u64 a)).setIfInBounds 234 (.int .u64 a)).setIfInBounds 241 (.map (some m)))=(zA (CS.laid h e a 0) (CV.new g m)).toArray:=by rfl
def JW(tag:qr)(i h a g:Nat)(w:rT)(e:Ending)(W':rT):Prop :=
 ∃b tag' V,e=.returned (.tuple #[.pointer (some ⟨b,0,none⟩),.nilIface])/\zn tag' i b (CS.new h a g) V W'/\DK i tag tag' w W'/\C9 DA w W'/\w.heap.size<=b
variable{w:rT}
def Ks(tag:qr)(i:Nat)(C:zL tag w)(hi:0<i)(n a e:Nat)(W1 u y wr:rT)(g m b:Nat)(m1:C9 DA w W1)(B:W1.heap.size=w.heap.size+1)(h:Mg W1 g m u)(hb:u.heap.size=b)(z:C9 DA u y)(A:C9 (λq=>q=b) y wr)
  (B:wr.heap[b]?=some (.cells (zA (CS.laid n a e 8)<|CV.new g m).toArray 147 (0,0))) :
  JW tag i n a e w (.returned<|.tuple #[(b,0),.nilIface]) wr:=by
 have a:g<b:=by
  rw[<-hb];exact(AJ.1 h.set).1
 have e:m<b:=by
  rw[<-hb];exact(AJ.1 h.map).1
 have e:=h.g1;have e:=h.m1;have e:=h.ne;have e:=A.obj (I:¬g=b)<|z.obj rP h.set;have y:=A.obj (I:¬m=b)<|z.obj rP h.map;have n:=(AJ.1 B).1;have n:∀g,(Value.slice none 0 0).ownBlock=some g->False:=λg a=>by simp[Value.ownBlock]at a
 have C:∀g,Value.kr (Value.slice none 0 0)=some g->False:=λg a=>by simp[Value.kr]at a
 have D:∀q,q<w.heap.size->∀t:Nat×Nat,(if q<w.heap.size then tag q else t)=tag q:=λq u t=>AL u
 refine⟨b,λq=>if q<w.heap.size then tag q else if q=b then(i,1)else if q=g then(i,2)else if q=m then(i,7)else(0,0),CV.new g m,rfl,?_,⟨λq u=>D q u _,λq u=>?_,λq u=>?_⟩,(m1.trans<|h.mod.trans z).then A<|λq u=>.inr I,I⟩
 .exact
   {obj:=by rw[B,fg]
    tb:=by simp only[(I:¬b<w.heap.size),AH,Ae,Aq]
    kN:=⟨za e rfl,za e rfl,za e rfl,World.ownsRow_nil wr 0 _ 2,by simp[CS.new,CS.laid],λj=>zd e⟩
    tg:=by simp only[CV.new,(I:¬g<w.heap.size),(I:¬g=b),AH,Ae,Aq]
    nW:=λ_ a=>(n _ a).elim
    wb:=λ_ _=>OB.nil wr
    ws:=λ_ _=>World.ownsRow_nil wr 0 _ 2
    wc:=λ_ _=>World.ownsRow_nil wr 0 _ 2
    rb:=λ_ _=>OB.nil wr
    rc:=λ_ _=>World.ownsRow_nil wr 0 _ 2
    nK:=λ_ _ _ a=>(n _ a).elim
    nC:=λ_ _ _ a=>(n _ a).elim
    nJ:=λ_ _ _ a=>(n _ a).elim
    nV:=λ_ _ _ a=>(n _ a).elim
    nU:=λ_ _ _ a=>(n _ a).elim
    ft:=World.ownsRow_nil wr 0 _ 3
    fl:=rfl
    fs:=λp e=>by simp[CS.new,CS.laid]at e
    nF:=λ_ a=>(n _ a).elim
    wt:=EI.nil wr _ _
    nE:=λ_ a=>(C _ a).elim
    sn:=⟨.map [],⟨#[],0,y,⟨nl,Go.MapKept.stamped_empty 0,nl⟩,AI _,rfl⟩,rfl,λ_ _=>rfl⟩
    nT:=by simp only[CV.new,(I:¬m<w.heap.size),(I:¬m=b),(I:¬m=g),AH,Ae,Aq]
    cm:=World.ownsRow_nil wr 0 _ 2
    nN:=λ_ a=>(n _ a).elim
    ou:=λ_=>rfl }
 .simp only[(I:¬q<w.heap.size),AH,Ae];split
  .exact .inl rfl
  split
  .exact .inl rfl
  split
  .exact .inl rfl
  exact .inr rfl
 simp only[(qm m1.size:¬q<w.heap.size),(I:¬q=b),(I:¬q=g),(I:¬q=m),AH,Ae]
def Kr(tag:qr)(i:Nat)(h a e:Nat)(w:rT)(ht:zL tag w)(hi:0<i)(h1:64<=h/\h<=400)(h2:16<=a/\a<=4096)(h3:16<=e/\e<=4096):rH 30 #[.agg #[.int .i64 h,.int .i64 a,.int .i64 e]] w (JW tag i h a e w):=by
 have a1:(decide ((64:Int)<=h)&&decide ((h:Int)<=400))=true:=ol;have a2:(decide ((16:Int)<=a)&&decide ((a:Int)<=4096))=true:=ol;have a3:(decide ((16:Int)<=e)&&decide ((e:Int)<=4096))=true:=ol;obtain⟨W1,B⟩:=nm<|w.alloc<|.cells #[[h],[a],[e]] 56;have m1:=AB B;have D:=AD B;have M:=AC B;have HF:AA (W1.drew w=some (.int .i64 h)/\W1.drew (w,1)=some (.int .i64 a)/\W1.drew (w,2)=some (.int .i64 e)):=⟨za D rfl,za D rfl,za D rfl⟩;have z:AA (∀X,C9 DA W1 X->X.cell? w=some (.int .i64 h)/\X.cell? (w.heap.size,1)=some (.int .i64 a)/\X.cell? (w.heap.size,2)=some (.int .i64 e)):=zb<|λX m=>⟨za (m.obj rP D) rfl,za (m.obj rP D) rfl,za (m.obj rP D) rfl⟩;have Y:=zb B;have M1:=zb m1;have X:=zb D;have N:=zb M;clear B m1 D M;go_enter func30,ntmps30;go_wp2_with (go_at_call 69;refine(OU _ _ _ _).mono ?_;(first|rw[a1]|rw[a2]|rw[a3]);rintro _ _ ⟨rfl,rfl⟩);rw[Y.z];refine zr 12 (λw'=>w' w=some (.int .i64 h)/\w' (U w 1)=some (.int .i64 a)/\w' (U w 2)=some (.int .i64 e)) (HF.z) ?_;refine GI 0 ?_;refine GV rfl ?_;try simp only[PS]
 refine GI 2 ?_;iterate 6
  refine GV rfl ?_;try simp only[PS]
 refine LM (i:=1) (j:=8) rfl rfl kw (λK y=>?_) (λK y=>?_);go_simp;refine(Ur 8 _ I I).mono ?_;rintro _ _ ⟨rfl,rfl⟩;refine y.z _ _ (z.z _<|(C9.refl DA W1).drew.alloc<|.cells #[rV,.int .u64 0,.int .i64 (max 8 1)] 138) ?_;clear y K;try simp only[PS]
 refine zD 8 rfl (λK y=>?_);go_simp;refine y.z _ _ (z.z _<|((C9.refl DA W1).drew.alloc<|.cells #[rV,.int .u64 0,.int .i64 (max 8 1)] 138).alloc<|.map #[] 0) ?_;clear y K;try simp only[PS]
 change GT _ _ _ _ _ _ _ _ _ ((W1.drew.alloc<|.cells #[rV,.int .u64 0,.int .i64 (max 8 1)] 138).alloc<|.map #[] 0);obtain⟨C,u⟩:=nm<|(W1.drew.alloc<|.cells #[rV,.int .u64 0,.int .i64 (max 8 1)] 138).alloc<|.map #[] 0;rw[u];have A:Mg W1 (W1.heap.size) (W1.heap.size+1) C:=by rw[<-u];exact Qu W1
 clear u;try simp only[World.size_drew,World.size_alloc]
 try simp only[World.size_drew,World.size_alloc]at A
 generalize W1.heap.size+1=m at A ⊢;generalize W1.heap.size=g at A ⊢;rotate_left;go_simp;refine y.z _ _ (z.z _<|(C9.refl DA W1).drew.alloc<|.map #[] 0) ?_;clear y K;try simp only[PS]
 change GT _ _ _ _ _ _ _ _ _ (W1.drew.alloc<|.map #[] 0);refine zD 1 rfl (λK y=>?_);go_simp;refine(Ur 8 _ I I).mono ?_;rintro _ _ ⟨rfl,rfl⟩;refine y.z _ _ (z.z _<|((C9.refl DA W1).drew.alloc<|.map #[] 0).alloc<|.cells #[rV,.int .u64 0,.int .i64 (max 8 1)] 138) ?_;clear y K;try simp only[PS]
 change GT _ _ _ _ _ _ _ _ _ ((W1.drew.alloc<|.map #[] 0).alloc<|.cells #[rV,.int .u64 0,.int .i64 (max 8 1)] 138);obtain⟨C,u⟩:=nm<|(W1.drew.alloc<|.map #[] 0).alloc<|.cells #[rV,.int .u64 0,.int .i64 (max 8 1)] 138;rw[u];have A:Mg W1 (W1.heap.size+1) (W1.heap.size) C:=by rw[<-u];exact Qt W1
 clear u;try simp only[World.size_drew,World.size_alloc]
 try simp only[World.size_drew,World.size_alloc]at A
 generalize W1.heap.size+1=g at A ⊢;generalize W1.heap.size=m at A ⊢;all_goals
  refine GI 9 ?_;refine GV rfl ?_;try simp only[PS]
  refine zD 10 rfl (λK y=>?_);go_simp;refine y.z _ _ (z.z _<|A.mod.alloc _) ?_;clear y K;try simp only[PS]
  refine GI 11 ?_;refine GV rfl ?_;try simp only[PS]
  refine zt ?_;have y:IntKind.u64.wrap (e:Int)=(e:Int):=by rw[IntKind.wrap_u64];omega
  rw[y,dR];obtain⟨O,n⟩:=nm<|C.alloc<|.cells (zA (CS.laid h a e 0)<|CV.new g m).toArray 147;rw[n];have B:=AD n;have D:=AB n;have hb:=A.sz.symm;have E:w.heap.size<C.heap.size:=qm N.z;obtain⟨b,u⟩:=nm C.heap.size;rw[u]at B E hb ⊢;have E:=zb B;have M4:=zb<|A.mod.trans D;have aa:=zb D;have ab:=zb A;have HB:=zb hb;have ac:=zb u;have G:IntKind.u64.wrap (a:Int)=(a:Int):=by rw[IntKind.wrap_u64];omega
  clear B D hb n A HF u y;go_wp2_with fail
  go_loopw [38] (λn wr=>∃k:Nat,k<=8/\n=.int .i64 k/\AA (wr.heap[b]?=some (.cells (zA (CS.laid h a e k)<|CV.new g m).toArray 147 (0,0)))/\C9 (λq=>q=b) O wr) (λn _=>8-(intOf n).toNat)
  case atStart=>exact⟨0,I,rfl,E,C9.refl _ _⟩
  case round =>
   obtain⟨k,n,rfl,R,hm⟩:=hrel;have HM:=zb hm;obtain⟨x0,x1,x2⟩:=z.z wr<|M4.z.then hm<|λq n=>.inr<|qm HB.z;clear hm;by_cases q:k<8
   .have n:∀p,p<244->∃v,wr ⟨b,p,none⟩=some v:=λp u=>by
     have u:(zA (CS.laid h a e k)<|CV.new g m).length=244:=by
      simp only[zA,AF,Hn,KR];rfl
     exact⟨_,za R.z<|by rw[BF];exact AG I⟩
    obtain⟨u,c1⟩:=n (9+k*15+14) I;obtain⟨u,c2⟩:=n (9+k*15+3) I;obtain⟨u,y⟩:=n (9+k*15+6) I;obtain⟨u,y⟩:=n (129+k*13+11) I;obtain⟨u,y⟩:=n (129+k*13+3) I;have u:∀p,wr.frozen? ⟨b,p,none⟩=false:=λp=>zd R.z
    have u:¬w.heap.size=b:=I;have u:¬b=w.heap.size:=I;clear n;clear a1 a2 a3 h1 h2 h3;go_wp2_with fail
    go_region
    go_wp2_with fail
    go_region
    go_wp2_with fail
    go_region
    go_wp2;go_roundw
    case rel =>
     refine⟨k+1,I,by go_num,?_,?_⟩
     .show(((((wr.setCell (b,9+k*15+14)<|.int .u64 a).setCell (b,9+k*15+3)<|.int .i64 2048).setCell (b,9+k*15+6)<|.int .i64 2048).setCell (b,129+k*13+11)<|.int .u64 a).setCell (b,129+k*13+3)<|.int .i64 4097).heap[b]?=_;rw[zc (zc<|zc<|zc<|zc R.z),<-dS h a e k g m q];simp only[Ab,AN 15 k,AN 13 k]
     exact(((((HM.z.setCell (p:=(b,9+k*15+14)) rO _).setCell (p:=(b,9+k*15+3)) rO _).setCell (p:=(b,9+k*15+6)) rO _).setCell (p:=(b,129+k*13+11)) rO _).setCell (p:=(b,129+k*13+3)) rO _).drew.drew.drew
    simp[intOf];omega
   have ad:k=8:=I;subst ad;have n:=zb<|Ks tag i ht hi h a e W1 C O wr g m b M1.z N.z ab.z ac.z aa.z HM.z R.z;clear x0 x1 x2 ht;go_wp2;go_ret2;exact n.z
def GD(g a e:Int):Bool:=(decide (64<=g)&&decide (g<=400))&&(decide (16<=a)&&decide (a<=4096))&&(decide (16<=e)&&decide (e<=4096))
def VG(m a g:Int)(w:rT)(h:GD m a g=false):rH 30 #[.agg #[.int .i64 m,.int .i64 a,.int .i64 g]] w λe w'=>e=.returned (.tuple #[.pointer none,.iface 41 (.int .i64 1)])/\C9 DA w w':=by
 obtain⟨A,q⟩:=nm<|(decide (64<=m)&&decide (m<=400));obtain⟨B,u⟩:=nm<|(decide (16<=a)&&decide (a<=4096));obtain⟨C,y⟩:=nm<|(decide (16<=g)&&decide (g<=4096));unfold GD at h;rw[q,u,y]at h;obtain⟨W1,e⟩:=nm<|w.alloc<|.cells #[[m],[a],[g]] 56;have z:AA (C9 DA w W1):=by rw[<-e];exact(C9.refl DA _).alloc _
 have n:=zb e;clear e;cases A
 .clear h;go_enter func30,ntmps30;go_wp2_with (go_at_call 69;refine(OU _ _ _ _).mono ?_;(first|rw[q]|rw[u]|rw[y]);rintro _ _ ⟨rfl,rfl⟩);rw[n.z];go_ret2;exact⟨rfl,z.z⟩
 cases B
 .clear h;go_enter func30,ntmps30;go_wp2_with (go_at_call 69;refine(OU _ _ _ _).mono ?_;(first|rw[q]|rw[u]|rw[y]);rintro _ _ ⟨rfl,rfl⟩);rw[n.z];go_ret2;exact⟨rfl,z.z⟩
 cases C
 .clear h;go_enter func30,ntmps30;go_wp2_with (go_at_call 69;refine(OU _ _ _ _).mono ?_;(first|rw[q]|rw[u]|rw[y]);rintro _ _ ⟨rfl,rfl⟩);rw[n.z];go_ret2;exact⟨rfl,z.z⟩
 simp at h
variable{W W' W0:rT}{i:Nat}{tag tag':qr}
def DK.lJ(e:zL tag W)(m:C9 DA W W0)(h:DK i tag tag' W0 W'):DK i tag tag' W W':=by
 refine⟨λg a=>h.lH g<|Au a m.size,λg a=>?_,h.z⟩;by_cases q:g<W0.heap.size
 .exact .inr (by rw[h.lH g q];exact e g a)
 exact h.new g I
def Q7(tag:qr)(i:Nat)(h a g:Int)(w:rT)(e:Ending)(W':rT):Prop :=
 (GD h a g=false/\e=.returned (.tuple #[.pointer none,.int .i64 1])/\C9 DA w W') \/
 ∃b tag' V,GD h a g=true/\e=.returned (.tuple #[.pointer (some ⟨b,0,none⟩),.int .i64 0])/\zn tag' i b (CS.new h.toNat a.toNat g.toNat) V W'/\DK i tag tag' w W'/\C9 DA w W'/\w.heap.size<=b
def XL(tag:qr)(i:Nat)(h e g:Int)(w:rT)(E:Dn i tag w):rH 13 #[.agg #[.int .i64 h,.int .i64 e,.int .i64 g]] w (Q7 tag i h e g w):=by
 cases hc:GD h e g
 .obtain⟨W0,m⟩:=nm<|w.alloc<|.cells #[[h],[e],[g]] 56;have y:C9 DA w W0:=by rw[<-m];exact(C9.refl DA _).alloc _
  have z:=VG h e g W0 hc;have G:=zb E;have M:=zb hc;have q:=zb y;have u:=zb m;clear E hc y m;go_enter func13,ntmps13;go_wp2_with fail;rw[u.z];refine z.mono ?_;rintro _ W1 ⟨rfl,N⟩;have A:=Ie 1 W1 ((G.z.kI q.z).kI N).err;have R:=zb<|q.z.trans N;clear N z;rw[Ic lc]at A;go_wp2_with fail;refine A.mono ?_;rintro _ W2 ⟨rfl,B⟩;have C:=zb<|R.z.trans B;clear B;go_wp2;go_ret2;exact .inl ⟨M.z,rfl,C.z⟩
 have O:=hc;unfold GD at O;simp at O;obtain⟨a,rfl⟩:∃a:Nat,h=(a:Int):=⟨h.toNat,I⟩;obtain⟨b,rfl⟩:∃b:Nat,e=(b:Int):=⟨e.toNat,I⟩;obtain⟨c,rfl⟩:∃c:Nat,g=(c:Int):=⟨g.toNat,I⟩;obtain⟨W0,m⟩:=nm<|w.alloc<|.cells #[[a],[b],[c]] 56;have y:C9 DA w W0:=by rw[<-m];exact(C9.refl DA _).alloc _
 have z:=Kr tag i a b c W0 (E.ok.mod y) E.pos I I I;have G:=zb E;have M:=zb hc;have q:=zb y;have u:=zb m;clear E hc O y m;go_enter func13,ntmps13;go_wp2_with fail;rw[u.z];refine z.mono ?_;rintro _ W1 ⟨X,tag',V,rfl,K,n,D,L⟩;have A:=Ie 0 W1 ((G.z.kI q.z).kI D).err;have H:=zb<|And.intro K<|And.intro n<|And.intro D L;clear K n D L z;rw[eI]at A;go_wp2_with fail;refine A.mono ?_;rintro _ W2 ⟨rfl,B⟩;have C:=zb B;clear B;go_wp2;go_ret2;obtain⟨K,n,D,L⟩:=H.z;have n:=n.lJ G.z.ok q.z;exact .inr ⟨X,tag',V,M.z,rfl,K.kI C.z,⟨n.lH,n.new,n.z.mod C.z⟩,q.z.trans<|D.trans C.z,AR q.z.size L⟩
def Eu(c:Int)(n:Nat):Nat:=((if c<0 then -(c+1)else c) % (n:Int)).toNat
def Sn(c:Int)(n:Nat)(h:0<n):Eu c n<n:=by
 unfold Eu;have a:=Int.emod_lt_of_pos (if c<0 then -(c+1)else c) (I:(0:Int)<n);have a:=Int.emod_nonneg (if c<0 then -(c+1)else c) (I:(n:Int)≠0);omega
def TN(c:Int)(n:Nat)(w:rT)(e : -9223372036854775808<=c)(g:c<=9223372036854775807)(h:0<n)(a:n<=9223372036854775807):rH 18 #[[c],[n]] w λe w'=>e=.returned (.int .i64 (Eu c n:Int))/\w=w':=by
 have a:∀x:Int,(if c<0 then -(c+1)else c)=x->0<=x->x % (n:Int)=(Eu c n:Int):=by
  intro x e _;unfold Eu;rw[e];have:=Int.emod_nonneg x (I:(n:Int)≠0);omega
 have e:(1:Int)<=n:=I;by_cases e:c<0
 .have H:=zb (a (-(c+1)) (by rw[AL e]) I);have E:AA (-((c+1).tmod (n:Int))=(-(c+1)) % (n:Int)):=by
   show _=_;rw[<-Int.neg_tmod,Int.tmod_eq_emod_of_nonneg I]
  clear a;go_enter func18,ntmps18;go_wp2;go_ret;exact⟨by rw[<-H.z,<-E.z];rfl,rfl⟩
 have H:=zb (a c (by rw[AH e]) I);clear a;go_enter func18,ntmps18;go_wp2;go_ret;exact⟨by rw[<-H.z];rfl,rfl⟩
def UE(a:Int)(w:rT)(e:a<=9223372036854775807)(g : -9223372036854775808<=a):rH 32 #[[a]] w λe w'=>e=.returned (.pointer w)/\w'=w.alloc (.cells #[rV,.int .u64 0,.int .i64 (max a 1)] 106):=by
 by_cases g:a<1
 .have e:max a 1=1:=I;rw[e];clear e;go_enter func32,ntmps32;go_wp2;go_ret;exact rM
 have e:max a 1=a:=I;rw[e];clear e;go_enter func32,ntmps32;go_wp2;go_ret;exact rM
def Ip(n:Nat)(r:Nat×Nat):Bool:=decide (r.1<=n)&&decide (n<=r.2)
variable{k n:Nat}{rs:zE}
def Sm(a:k<rs.length)(h:(rs.take k).any (Ip n)=false):(rs.take (k+1)).any (Ip n)=(decide (DE rs k<=n)&&decide (n<=DB rs k)):=by
 have:rs[k]?=some (DE rs k,DB rs k):=Gz a;rw[Ai,this];simp only[Option.toList_some,List.any_append,h,Bool.false_or,List.any_cons,List.any_nil,Bool.or_false];rfl
def VC(a:k<rs.length)(h:Ip n (DE rs k,DB rs k)=true):rs.any (Ip n)=true :=
 Bi.2 ⟨_,AZ<|Gz a,h⟩
def XG(rs:zE)(q u b n:Nat)(v:rU)(w:rT)(h:Jr w b v rs q u):rH 41 #[(b,0),n] w (EX w (decide (n<q)||rs.any (Ip n))):=by
 have y:=zb h.obj;have u:=h.len;obtain⟨a,A,rfl,u,G,E⟩:=h.rd;have K:=zb E;have c1:w (b,1)=some (.int .u64 q):=za h.obj rfl;unfold maxLen at G;clear E h;by_cases h:n<q
 .have u:(n:Int)<q:=I;have B:=zb h;clear h;go_enter func41,ntmps41;go_wp2;go_ret;exact⟨by simp[B.z],C9.refl _ _⟩
 have u:¬(n:Int)<q:=I;have B:=zb h;clear h;go_enter func41,ntmps41;go_wp2_with fail
 go_loopw [5] (λi wr=>∃k:Nat,k<=rs.length/\i=.int .i64 k/\C9 DA w wr/\AA ((rs.take k).any (Ip n)=false)) (λi _=>rs.length-(intOf i).toNat)
 case atStart=>exact⟨0,AK _,rfl,C9.refl _ _,zb nl⟩
 case round =>
  obtain⟨k,h,rfl,m,e⟩:=hrel;have M:=zb m;have c0:wr b=some (.slice a rs.length A):=za (m.obj rP y.z) rfl;by_cases z:k<rs.length
  .obtain⟨g,o,rfl,C,D,_,_⟩:=K.z k z;have C:=m.cell (a:=⟨g,_,none⟩) id C;have D:=m.cell (a:=⟨g,_,none⟩) id D;obtain⟨p,g⟩:=nm<|DE rs k;obtain⟨q,h⟩:=nm<|DB rs k;rw[g]at C;rw[h]at D;have y:=zb g;have A:=zb h;have a:=zb z;clear m c1 g h;by_cases g:p<=n
   .have E:(p:Int)<=n:=I;have z:decide ((p:Int)<=n)=true:=ol;by_cases h:n<=q
    .have G:(n:Int)<=q:=I;have C:decide ((n:Int)<=q)=true:=ol;have u:=zb g;have D:=zb h;clear g h;go_wp2;go_ret;exact⟨by rw[VC (n:=n) a.z (by simp[Ip,y.z,A.z,u.z,D.z])];simp,M.z⟩
    have G:¬(n:Int)<=q:=I;have C:decide ((n:Int)<=q)=false:=ol;have u:=zb g;have D:=zb h;clear g h;go_wp2;go_roundw
    case rel=>exact⟨k+1,I,by go_num,M.z,zb<|by rw[Sm a.z e.z,y.z,A.z];simp[D.z]⟩
    simp[intOf];omega
   have E:¬(p:Int)<=n:=I;have z:decide ((p:Int)<=n)=false:=ol;have u:=zb g;clear g;go_wp2;go_roundw
   case rel=>exact⟨k+1,I,by go_num,M.z,zb<|by rw[Sm a.z e.z,y.z,A.z];simp[u.z]⟩
   simp[intOf];omega
  have a:k=rs.length:=I;have g:AA (rs.any (Ip n)=false):=zb (by have:=e.z;rw[a,List.take_length]at this;exact this);clear m a e c1;go_wp2;go_ret;exact⟨by simp[B.z,g.z],M.z⟩
end
end Go.Proofs.YtddfdpbaiedcjabGreatDoor
