/- A part of Once's proof. Conditions: none. Part 8 of 15. -/
import Derived.Test.YtddfdpbaiedcjaaGreatDoorOnc7
set_option maxRecDepth 100000
set_option maxHeartbeats 16000000
set_option linter.all false
namespace Go.Proofs.YtddfdpbaiedcjaaGreatDoor
section
open Go.RowKit Go.Proofs.Tryz Go.Shelf
attribute [local go_sem] Oper.semAt_some
def XC(F:Fence)(n:Nat)(hF:F.fn 141)(a:F.round=none)(b o:Nat)(w:World):CallsIn F n prog 141 #[.pointer (some ⟨b,o,none⟩)] w λe w'=>e = .returned (.func (.func 193) #[] #[.pointer (some ⟨w.heap.size,0,none⟩)])/\w'=w.alloc (.cells #[.pointer (some ⟨b,o,none⟩)] 114):=by
 refine callsIn_of_wp func141 rfl hF ?_ a;simp only[ntmps141,Al,AQ,AX,Nat.reduceAdd,Nat.reduceSub,A8,A7,BG,BB,Am,BI];gi_wp2;go_ret;exact⟨rfl,rfl⟩
end
section
open Go.RowKit Go.Proofs.Tryz Go.Shelf
attribute [local go_sem] Oper.semAt_some
abbrev UZ(p:Nat×Nat->Prop):={r:Nat×Nat // p r}
abbrev GZ(p:Nat×Nat->Prop):={x:Nat×(Nat×Nat) // p x.2}
def GZ.rr{p:Nat×Nat->Prop}(x:GZ p):UZ p:=⟨x.1.2,x.2⟩
def FJ(p:Nat×Nat->Prop)(rs:zC)(hp:∀i,p (Da rs i,DY rs i))(k:Nat):List (GZ p):=(List.range k).map λj=>⟨(rs.length-1-j,(Da rs (rs.length-1-j),DY rs (rs.length-1-j))),hp _⟩
def iW(p:Nat×Nat->Prop)(rs:zC)(a:∀i,p (Da rs i,DY rs i))(k:Nat):FJ p rs a (k+1)=FJ p rs a k++[⟨(rs.length-1-k,(Da rs (rs.length-1-k),DY rs (rs.length-1-k))),a _⟩]:=by unfold FJ;rw[Bf,BO];rfl
def iz(p:Nat×Nat->Prop)(rs:zC)(hp:∀i,p (Da rs i,DY rs i))(k:Nat):(FJ p rs hp k).length=k:=by unfold FJ;rw[A9,CF]
def fg(p:Nat×Nat->Prop)(rs:zC)(hp:∀i,p (Da rs i,DY rs i))(k:Nat):(FJ p rs hp k).map (·.1)=Ey rs k:=by unfold FJ Ey;rw[CY];rfl
def YN(F:Fence)(n:Nat)(hF:F.fn 215)(B:F.round=none)(hn:1<=n)(l z cap:Nat)(a:Option Addr)(p:Nat×Nat->Prop)(rs:zC)(h:∀i,p (Da rs i,DY rs i))(J A:List (GZ p)->World->Prop)
  (C:∀pre x W,J pre W->pre.length<rs.length->YieldAt F (n-1) prog l (Ip x.1) W λe W' =>
   (e = .returned (.bool true)/\J (pre++[x]) W'/\E9 z a W W')\/(e = .returned (.bool false)/\A (pre++[x]) W'))
  (W:World) (j:W.cell? ⟨z,0,none⟩=some (.slice a rs.length cap)) (hr:RR W (.slice a rs.length cap) rs) (h0:J [] W) :
  CallsIn F n prog 215 #[.func (.yield l) #[] #[],.pointer (some ⟨z,0,none⟩)] W λe W'=>(∃v,e = .returned v) /\
   ((∃ys,ys=FJ p rs h rs.length/\J ys W')\/(∃pre,(∃k,k<=rs.length/\pre=FJ p rs h k)/\A pre W')):=by
 obtain⟨_,_,e,r1,r2,D⟩:=hr;cases e;unfold maxLen at r2;have K:(rs.length:Int)<=9223372036854775807:=by omega
 refine callsIn_of_wp func215 rfl hF ?_ B;simp only[ntmps215,Al,AQ,AX,Nat.reduceAdd,Nat.reduceSub,A8,A7,BG,BB,Am,BI];gi_wp2
 gi_loopw [3] (λi wr=>∃k:Nat,k<=rs.length/\i = .int .i64 ((rs.length:Int)-1-k)/\J (FJ p rs h k) wr/\E9 z a W wr) (λi _=>(intOf i+1).toNat)
 case atStart=>exact⟨0,AL _,by simp,h0,E9.refl _ _ _⟩
 case round =>
  obtain⟨k,hk,rfl,c,b⟩:=hrel;by_cases E:k<rs.length
  ·obtain⟨q,L⟩:=nm (rs.length-1-k);have m:(rs.length:Int)-1-k=(q:Int):=by omega
   have G:q<rs.length:=by omega
   obtain⟨g,o,rfl,c1,c2,_,_⟩:=D q G;have d:=b.box j;have s:=b.row c1;have t:=b.row c2;obtain⟨fn,tmps,assign,body,M,N⟩:=C _ ⟨(q,(Da rs q,DY rs q)),h q⟩ wr c (by rw[iz];exact E);have HB:=zb (iW p rs h k);have O:=zb L;have P:=zb c;have H:=zb m;unfold Ip at M;dsimp only at M;rw[m];clear L c D c1 c2 m;gi_wp2;refine N.mono ?_;clear N C;rintro e Q (⟨rfl,u,w⟩|⟨rfl,f⟩)
   ·have r:AA (J (FJ p rs h (k+1)) Q):=by
     show J _ _;rw[HB.z,O.z];exact u
    have I:=zb (b.trans w);clear u w b d s t j;gi_wp2;go_roundw
    case rel=>exact⟨k+1,by omega,by rw[<-H.z];congr 1;omega,r.z,I.z⟩
    case measure=>simp[intOf]
   ·have r:AA (A (FJ p rs h (k+1)) Q):=by
     show A _ _;rw[HB.z,O.z];exact f
    clear f b d s t j;gi_wp2;refine bodyPost_ret (results_none rfl _ _ _) rfl ?_;exact⟨⟨_,rfl⟩,.inr ⟨_,⟨k+1,by omega,rfl⟩,r.z⟩⟩
  ·have y:k=rs.length:=by omega
   have P:=zb c;have HK:=zb y;have R:¬(0:Int)<=(rs.length:Int)-1-k:=by omega
   clear c y D C;gi_wp2
   go_end0
   exact⟨⟨_,rfl⟩,.inl (by rw[<-HK.z];exact P.z)⟩
def ff(F:Fence)(n:Nat)(hF:F.fn 215)(d:F.round=none)(hn:1<=n)(b cap:Nat)(a:Option Addr)(p:Nat×Nat->Prop)(rs:zC)(f:∀i,p (Da rs i,DY rs i))(w:World)(c:w.cell? ⟨b,0,none⟩=some (.slice a rs.length cap))(hr:RR w (.slice a rs.length cap) rs):SeqStopsK F n prog 215 #[.pointer (some ⟨b,0,none⟩)] (λx:GZ p=>Ip x.1) (E9 b a) (λys=>ys=FJ p rs f rs.length) (λpre=>∃k,k<=rs.length/\pre=FJ p rs f k) rs.length w:=λl J Jx W h _ _ hY h0=>by
 have j:=zk c;refine YN F n hF d hn l b cap a p rs f J Jx hY W ((h.cell (p:=⟨b,0,none⟩) j).trans c) ?_ h0;obtain⟨_,_,e,h1,h2,h3⟩:=hr;cases e;refine⟨_,_,rfl,h1,h2,λi hi=>?_⟩;obtain⟨g,o,e,m,q2,q3,q4⟩:=h3 i hi;have hl:=zk m;exact⟨g,o,e,(h.cell (p:=⟨g,_,none⟩) hl).trans m,(h.cell (p:=⟨g,_,none⟩) hl).trans q2,q3,q4⟩
def Yu(F:Fence)(n:Nat)(q:∀f,F.fn f)(t:F.round=none)(hn:4<=n)(l O b of lb cap:Nat)(a:Option Addr)(p:Nat×Nat->Prop)(rs:zC)(hp:∀i,p (Da rs i,DY rs i))(J Jx:List (UZ p)->World->Prop)(W:World)
  (hY:∀pre x W1,J pre W1->pre.length<rs.length->YieldAt F (n-1-1-1) prog l (K9 x.1) W1 λe W' =>
   DW (Iw lb l a W1) W1 W'/\((e = .returned (.bool true)/\J (pre++[x]) W')\/(e = .returned (.bool false)/\Jx (pre++[x]) W')))
  (hJ:OwnFrom W.heap.size J) (P:OwnFrom W.heap.size Jx) (z:W.cell? ⟨O,0,none⟩=some (.pointer (some ⟨b,of,none⟩))) (hb:W.cell? ⟨b,of,none⟩=some (.slice a rs.length cap)) (m:RR W (.slice a rs.length cap) rs) (hlb:lb<W.heap.size) (hl:l<W.heap.size) (Q:∀g o,a=some ⟨g,o,none⟩->g<W.heap.size/\g≠lb/\g≠l) (h0:J [] W) :
  CallsIn F n prog 193 #[.func (.yield l) #[] #[],.pointer (some ⟨O,0,none⟩)] W λe W'=>(∃v,e = .returned v) /\
   (J ((FJ p rs hp rs.length).map GZ.rr) W'\/∃k,k<=rs.length/\Jx ((FJ p rs hp k).map GZ.rr) W'):=by
 have R:=zb hJ;have S:=zb P;have HY:=zb hY;have HR:=zb m;have H0:=zb h0;have ab:(W.alloc (.cells #[.func (.yield l) #[] #[]] 300)).cell? ⟨O,0,none⟩=some (.pointer (some ⟨b,of,none⟩)):=((DW.refl DX W).alloc _).cell (a:=⟨O,0,none⟩) id z;have ac:(W.alloc (.cells #[.func (.yield l) #[] #[]] 300)).cell? ⟨b,of,none⟩=some (.slice a rs.length cap):=((DW.refl DX W).alloc _).cell (a:=⟨b,of,none⟩) id hb;have h1:1<=n:=by omega
 clear hJ P hY m h0;refine callsIn_of_wp_marks func193 rfl (q _) ?_ t;simp only[ntmps193,Al,AQ,AX,Nat.reduceAdd,Nat.reduceSub,A8,A7,BG,BB,Am,BI]
 gi_wp2_with (gi_at_call 194;refine(RM F (n-1) (q _) t _ _ _ _).mono ?_;rintro e w' ⟨rfl,rfl⟩)
 obtain⟨d,C⟩:=nm W.heap.size;have bY:Boxed ((W.alloc (.cells #[.func (.yield l) #[] #[]] 300)).alloc (.cells #[.slice a rs.length cap] 63)) d 300 (.func (.yield l) #[] #[]):=by
  rw[<-C];exact(Boxed.new W _ _).alloc _
 have bS:Boxed ((W.alloc (.cells #[.func (.yield l) #[] #[]] 300)).alloc (.cells #[.slice a rs.length cap] 63)) (d+1) 63 (.slice a rs.length cap):=by
  have:=Boxed.new (W.alloc (.cells #[.func (.yield l) #[] #[]] 300)) 63 (.slice a rs.length cap);rw[World.size_alloc,C]at this;exact this
 have m0:DW DX W ((W.alloc (.cells #[.func (.yield l) #[] #[]] 300)).alloc (.cells #[.slice a rs.length cap] 63)):=((DW.refl _ _).alloc _).alloc _;obtain⟨w1,u⟩:=nm (((W.alloc (.cells #[.func (.yield l) #[] #[]] 300)).alloc (.cells #[.slice a rs.length cap] 63)));have hs1:w1.heap.size=d+2:=by rw[<-u];simp;omega
 have ad:J [] w1:=by rw[<-u];exact R.z.alloc _ (R.z.alloc _ H0.z)
 rw[u]at bY bS m0 ⊢;rw[C];have ae:=HR.z.mod m0 (Dl.no _);clear u ab ac;refine wpIn_rangeFunc_ownH t h1 (gf:=215) (lb:=#[.pointer (some ⟨d+1,0,none⟩)]) rfl (q _) (enters_of func215 (by kernel_rfl) rfl)
  (ff F (n-1) (q _) t (by omega) (d+1) cap a p rs hp w1 bS.cell ae) (λh k=>h.trans k) ?hKb (Below.refl _ _) (λ_=>rfl)
  (λpre X=>(J (pre.map GZ.rr) X/\Boxed X d 300 (.func (.yield l) #[] #[]))/\Boxed X (d+1) 63 (.slice a rs.length cap))
  (λc pre X=>c = .ret/\Jx (pre.map GZ.rr) X) ?hI ?hIx ⟨⟨ad,bY⟩,bS⟩
  (λx a' X=>∃rb,a'={ tmps:=#[.func (.yield l) #[] #[],.pointer (some ⟨O,0,none⟩),.pointer (some ⟨d,0,none⟩),undef,.pointer (some ⟨rb,0,none⟩),.pointer (some ⟨b,of,none⟩),.pointer (some ⟨b,of,none⟩),.pointer (some ⟨b,of,none⟩),.slice a rs.length cap,.func (.func 215) #[] #[.pointer (some ⟨d+1,0,none⟩)],.int .i64 x.1.1,.agg #[.int .u64 x.1.2.1,.int .u64 x.1.2.2],undef,undef,undef,undef],defers:=[] } /\
   X.heap[rb]?=some (.cells #[.int .u64 x.1.2.1,.int .u64 x.1.2.2] 214 (0,0))) ?hAx ?assign ?body ?done ?stop
 case hKb =>
  intro X l2 o o' hl2 _ _ _;exact⟨World.putObj_heap_other (by omega),λg o e=>World.putObj_heap_other (by have:=(Q g o e).1;omega)⟩
 case hI =>
  exact OwnFrom.and (OwnFrom.and (λs A B row z hg m=>R.z _ A B row z hg (λr e=>⟨by have:=(m r e).1;omega,(m r e).2⟩)) (Own.from (boxed_own d _ (λ_=>_)) _)) (Own.from (boxed_own (d+1) _ (λ_=>_)) _)
 case hIx =>
  intro c s A B row z hg m;exact⟨z.1,S.z _ A B row z.2 hg (λr e=>⟨by have:=(m r e).1;omega,(m r e).2⟩)⟩
 case hAx =>
  intro x a' s A B row z hg m;obtain⟨rb,e,E⟩:=z;refine⟨rb,e,(hg.block rb (AI.1 E).1 (λe2=>?_)).trans E⟩;obtain⟨_,o,T,G⟩:=m rb e2.symm;rw[E]at T;cases T;cases G
 case assign =>
  intro l' pre x X K hI H;unfold Ip;gi_wp2;refine H _ _ ((KeepsOthers.alloc X _).from _) ⟨Below.heap_alloc _ _ _ hI.2.lt,λg o e=>Below.heap_alloc _ _ _ ?_⟩ ⟨⟨?_,hI.1.2.alloc _⟩,hI.2.alloc _⟩ ⟨X.heap.size,rfl,heap_alloc_new X _⟩
  ·have q1:=(Q g o e).1;have q2:=hI.2.lt;omega
  ·exact R.z.alloc _ hI.1.1
 case body =>
  rintro l' pre x a' X hl' U ⟨⟨I,hy⟩,L⟩ ⟨rb,rfl,V⟩ af;have yc:=hy.cell;have r0:X.cell? ⟨rb,0,none⟩=some (.int .u64 x.1.2.1):=za V rfl;have r1:X.cell? ⟨rb,1,none⟩=some (.int .u64 x.1.2.2):=za V rfl;obtain⟨fn,tmps,assign,body,w,hR⟩:=HY.z (pre.map GZ.rr) x.rr X I (by simpa using af);unfold K9 GZ.rr at w;dsimp only at w;have hn1:1<=n-1-1:=by omega
  have HJP:=zb I;clear I U;have ah:=zb hR;clear hR;gi_wp2;refine RoundIn.mono (F:=F.inRound l') (show RoundIn (F.inRound l') _ _ _ _ _ _ _ _ _ from ah.z) ?_;rintro e X3 ⟨M,Y⟩;have Z:=hy.lt;have j:=L.lt;have nY:¬Iw lb l a X d:=by
   rintro(h|h|⟨_,cs,fz,h⟩)
   ·omega
   ·omega
   ·rw[show X.heap[d]?=_ from hy]at h;simp at h
  have nS:¬Iw lb l a X (d+1):=by
   rintro(h|h|⟨_,cs,fz,h⟩)
   ·omega
   ·omega
   ·rw[show X.heap[d+1]?=_ from L]at h;simp at h
  have aa:AA (KeepsFrom w1.heap.size X X3):=⟨M.size,λk o hk E G=>by
   refine(M.block k (AI.1 E).1 ?_).trans E;rintro(h|h|⟨_,cs,fz,h⟩)
   ·omega
   ·omega
   ·rw[E]at h;cases h;cases G⟩
  have ai:AA (E9 (d+1) a X X3):=⟨M.block _ j nS,λg o e=>M.block _ (by have:=(Q g o e).1;omega) (by
   rintro(h|h|⟨h,_⟩)
   ·exact(Q g o e).2.1 h
   ·exact(Q g o e).2.2 h
   ·exact h g o e rfl)⟩
  have aj:AA (Boxed X3 d 300 (.func (.yield l) #[] #[])):=(M.block _ Z nY).trans hy;have ak:AA (Boxed X3 (d+1) 63 (.slice a rs.length cap)):=(M.block _ j nS).trans L;clear nY nS M Z j;rcases Y with⟨rfl,y⟩|⟨rfl,y⟩
  ·have N:=zb y;clear y yc w;gi_wp2;exact⟨aa.z,ai.z,⟨by rw[BO];exact N.z,aj.z⟩,ak.z⟩
  ·have N:=zb y;clear y yc w;gi_wp2;exact⟨aa.z,rfl,by rw[BO];exact N.z⟩
 case done =>
  rintro D ys X hD rfl ⟨⟨y,_⟩,_⟩ H;gi_wp2;refine⟨by simp,.inl ⟨_,_,rfl,run_takeDeferred H,?_⟩⟩;exact⟨_,results_none rfl _ _ _,⟨_,rfl⟩,.inl (R.z.putObj _ y (by omega) H rfl)⟩
 case stop =>
  rintro D c pre X hD ⟨k,hk,rfl⟩ ⟨rfl,y⟩ H;gi_wp2;refine⟨by simp,.inl ⟨_,_,rfl,run_takeDeferred H,?_⟩⟩;exact⟨_,results_none rfl _ _ _,⟨_,rfl⟩,.inr ⟨k,hk,S.z.putObj _ y (by omega) H rfl⟩⟩
end
section
open Go.RowKit Go.Proofs.Tryz
def IB(w:World)(b:Nat)(v:Value)(s:Dh):Prop:=w.heap[b]?=some (.cells #[v,.int .u64 s.fl,.int .i64 s.most] 116 (0,0))/\w.ownsRow 0 214 2 v s.rs.length (zo s.rs)
variable{b:Nat}{v:Value}{w:World}
def IB.set{s:Dh}(h:IB w b v s)(hl:s.rs.length<=1099511627776):ET w b 0 v s.rs s.fl s.most :=
 ⟨za h.1 rfl,za h.1 rfl,za h.1 rfl,h.2,hl,λj=>zf h.1⟩
variable{S:Nat->Prop}{w':World}
def IB.mod{s:Dh}(h:IB w b v s)(m:DW S w w')(h1:¬S b)(h2:∀g,v.ownBlock=some g->¬S g):IB w' b v s:=⟨m.obj h1 h.1,m.owns h.2 h2⟩
def XB(s:Dh)(b lo hi:Nat)(v:Value)(w:World)(h:IB w b v s)(ok:s.Ok)(a:lo<=zB)(d:hi<=zB):Calls prog 88 #[.pointer (some ⟨b,0,none⟩),.int .u64 lo,.int .u64 hi] w λe w'=>e = .returned (.tuple #[])/\∃v',IB w' b v' (s.add lo hi)/\DW (λk=>k=b\/v.ownBlock=some k) w w'/\Dy w v v':=by
 have hm:=ok.most;have hrl:=ok.rl;have f:v.ownBlock≠some b:=λe=>by
  rcases h.2.2 with⟨rfl,_⟩|⟨g,c,cur,rfl,_,hg,_⟩
  ·simp[Value.ownBlock]at e
  ·simp[Value.ownBlock]at e;subst e;rw[h.1]at hg;simp at hg
 have i:=ok.fl;unfold zB at a d i;refine(Jo s b 0 lo hi v w (h.set (by omega)) ok.wf (by omega) (by omega) (by omega) f hm.1 (by omega)).mono ?_;rintro e w' ⟨v',rfl,h1,h2,h3,h4⟩;refine⟨rfl,v',⟨?_,h1⟩,h3,h4⟩;rw[h2,zc (zc h.1)];simp only[Ap,List.set_cons_zero,CO];have:(s.add lo hi).most=s.most:=by
  unfold Dh.add;split
  ·rfl
  ·split<;>rfl
 rw[this]
def Qe(w:World)(t:Dh)(e:Ending)(w':World):Prop :=
 ∃v,e = .returned (.agg #[v,.int .u64 t.fl,.int .i64 t.most])/\w'.ownsRow 0 214 2 v t.rs.length (zo t.rs)/\(∀g,v.ownBlock=some g->w.heap.size<=g)/\DW DX w w'
theorem P9:∀(l:zC) (lo hi:Nat) (t:Dh),(∀r∈l,r.2<=zB)->t.Ok->(Ic l lo hi t).Ok
 | [],_,_,_,_,h=>h
 | r::l,lo,hi,t,hl,h=>by
  have a:=hl r Ae;have b:min r.2 (lo-1)<=zB:=AO (Bw _ _) a;unfold Ic;refine P9 l lo hi _ (λr a=>hl r (Aj _ a)) ?_;split
  ·split
   ·exact(h.add _ b).add _ a
   ·exact h.add _ a
  ·split
   ·exact h.add _ b
   ·exact h
def I2(most:Nat)(h:1<=most/\most<=1099511627776):(⟨[],0,most⟩:Dh).Ok :=
 ⟨⟨λi hi=>absurd hi (BA i),λi j _ a=>absurd a (BA j)⟩,λj a=>absurd a (BA j),AL _,h,AL _⟩
def fZ(tmps:Array Value)(w:World)(a:Nat)(x y z:Value)(h2:tmps.getD 6 undef = .pointer (some ⟨a,0,none⟩))(c0:w.cell? ⟨a,0,none⟩=some x)(c1:w.cell? ⟨a,1,none⟩=some y)(c2:w.cell? ⟨a,2,none⟩=some z):(results f140 tmps).run prog w = .ok (.agg #[x,y,z]) w:=by
 have b:tmps[6]?.getD undef = .pointer (some ⟨a,0,none⟩):=by rw[<-h2];simp
 simp[results,results140,go_sem,b,c0,c1,c2]
def Ho(w:World)(rb tb b p q:Nat)(t:Dh)(a:World):Prop :=
 ∃v,IB a tb v t/\t.Ok/\DW DX w a/\(∀g,v.ownBlock=some g->rb+2<=g/\g≠b)/\a.heap[rb]?=some (.cells #[.slice none 0 0,.int .u64 0,.int .i64 0] 116 (0,0))/\a.heap[b]?=some (.cells #[.int .u64 p,.int .u64 q] 214 (0,0))/\w.heap.size=rb/\tb=rb+1/\rb+2<=b
variable{hi lo p q rb:Nat}
def Ho.calls{tb d:Nat}{t:Dh}{b:World}(h:Ho w rb tb d p q t b)(c:lo<=zB)(a:hi<=zB):Calls prog 88 #[.pointer (some ⟨tb,0,none⟩),.int .u64 lo,.int .u64 hi] b λe w'=>e = .returned (.tuple #[])/\Ho w rb tb d p q (t.add lo hi) w':=by
 obtain⟨v,h1,h2,h3,h4,h5,f,h7,h8,h9⟩:=h;refine(XB t tb lo hi v b h1 h2 c a).mono ?_;rintro e w' ⟨rfl,v',k1,k2,k3⟩;have hx:=(AI.1 f).1;refine⟨rfl,v',k1,h2.add lo a,h3.then k2 (λg hg=>.inr ?_),λg hg=>?_,k2.obj (λx=>?_) h5,k2.obj (λx=>?_) f,h7,h8,h9⟩
 ·rcases hg with hg|hg
  ·omega
  ·have:=h4 g hg;omega
 ·rcases k3 g hg with y|y
  ·exact h4 g y
  ·omega
 ·rcases x with x|x
  ·omega
  ·have:=h4 _ x;omega
 ·rcases x with x|x
  ·omega
  ·exact(h4 _ x).2 rfl
def Ho.two{tb a:Nat}{t:Dh}{b:World}(h:Ho w rb tb a p q t b):b.cell? ⟨a,0,none⟩=some (.int .u64 p)/\b.cell? ⟨a,1,none⟩=some (.int .u64 q):=by
 obtain⟨v,h1,h2,h3,h4,h5,c,h7,h8,h9⟩:=h;exact⟨za c rfl,za c rfl⟩
def fY(s:Dh)(b o lo hi:Nat)(v:Value)(w:World)(h:ET w b o v s.rs s.fl s.most)(ok:s.Ok)(ab:lo<=zB)(ac:hi<=zB):Calls prog 140 #[.pointer (some ⟨b,o,none⟩),.int .u64 lo,.int .u64 hi] w (Qe w (s.without lo hi)):=by
 obtain⟨a,cap,rfl,q1,q2,q3⟩:=zi h.own;have c0:=h.cl;have c2:=h.cm;obtain⟨N,hN⟩:=nm s.rs.length;obtain⟨R,hR⟩:=nm (s.without lo hi);rw[hR];have G:=zb h.own;have HA:AA (∀k,k<N->∃g,a=some ⟨g,0,none⟩):=zb (λk hk=>q3 (by omega));have f:AA (Ic s.rs lo hi ⟨[],0,s.most⟩=R):=zb hR;have U:=zb ok;have hNb:N<=1099511627776:=by rw[<-hN];exact h.len
 have hS:=I2 s.most ok.most;have HS:=zb hS;obtain⟨M,hM⟩:=nm s.most;rw[hM]at c2 HS f;rw[hN]at c0 G;have HN:=zb hN;have HM:=zb hM;unfold maxLen at q2;unfold zB at ab ac;clear h ok hR hS q3 hN hM;go_enter func140,ntmps140;go_upto_region 1 with fail;obtain⟨W1,i⟩:=nm (w.alloc (.cells #[.slice none 0 0,.int .u64 0,.int .i64 0] 116));have m1:=AB i
 have s1:=AC i
 have r1:=AD i
 rw[i];have ad:=m1.cell (a:=⟨b,_,none⟩) id c2;have V:=m1.cell (a:=⟨b,_,none⟩) id c0;clear c0 c2 i;go_upto_region 2 with fail;obtain⟨W2,j⟩:=nm (W1.alloc (.cells #[.slice none 0 0,.int .u64 0,.int .i64 M] 116));have m2:=AB j
 have s2:W2.heap.size=w.heap.size+2:=by rw[<-j];simp;omega
 have B:IB W2 W1.heap.size (.slice none 0 0) ⟨[],0,M⟩:=by rw[<-j];exact⟨heap_alloc_new W1 _,World.ownsRow_nil _ 0 _ 2⟩
 have r2:=m2.obj (λx=>x) r1;rw[j];have c0:=m2.cell (a:=⟨b,_,none⟩) id V;have M2:=zb (m1.trans m2);obtain⟨tb,W⟩:=nm (w.heap.size+1);rw[s1]at B;rw[W]at B ⊢;have l:tb=w.heap.size+1:=by omega
 obtain⟨rb,H⟩:=nm w.heap.size;rw[H]at r2 l s2 ⊢;have I:=zb H;clear ad V j m1 m2 r1 s1 W H;go_wp2_with fail;have T2:=zb B;have R2:=zb r2;have C0:=zb c0;have X:=zb (And.intro l s2);clear c0 B r2 l s2
 go_loopw [20] (λiv wr=>∃(k:Nat) (v:Value) (t:Dh),k<=N/\iv = .int .i64 k/\AA (IB wr tb v t/\t.Ok/\Ic (s.rs.drop k) lo hi t=R)/\AA (DW DX w wr/\rb+2<=wr.heap.size/\(∀g,v.ownBlock=some g->rb+2<=g)/\wr.heap[rb]?=some (.cells #[.slice none 0 0,.int .u64 0,.int .i64 0] 116 (0,0)))) (λiv _=>N-(intOf iv).toNat)
 case atStart=>exact⟨0,.slice none 0 0,⟨[],0,M⟩,AL _,rfl,zb ⟨T2.z,HS.z,f.z⟩,zb ⟨M2.z,by rw[X.z.2];omega,λg hg=>by simp[Value.ownBlock]at hg,R2.z⟩⟩
 case round =>
  clear T2 R2 C0 f;obtain⟨k,v,t,hk,rfl,m,c⟩:=hrel;by_cases Y:k<N
  ·obtain⟨g,rfl⟩:=HA.z k Y;have r:k<s.rs.length:=by rw[HN.z];exact Y
   obtain⟨x1,x2⟩:=IM (rs:=s.rs) (n:=N) (cap:=cap) (g:=g) (by rw[HN.z];exact G.z) k r;have x1:=c.z.1.cell (a:=⟨g,_,none⟩) id x1;have x2:=c.z.1.cell (a:=⟨g,_,none⟩) id x2;have u:=U.z.hi k r;have Z:=U.z.wf.1 k r;have P:AA (Ic (s.rs.drop (k+1)) lo hi (if hi<=DY s.rs k then(if Da s.rs k<lo then t.add (Da s.rs k) (min (DY s.rs k) (lo-1))else t).add (max (Da s.rs k) hi) (DY s.rs k)else(if Da s.rs k<lo then t.add (Da s.rs k) (min (DY s.rs k) (lo-1))else t))=R):=by
    have h1:=m.z.2.2;rw[Q8 r]at h1;exact h1
   obtain⟨p,d⟩:=nm (Da s.rs k);obtain⟨q,hq⟩:=nm (DY s.rs k);rw[d]at x1 P Z;rw[hq]at x2 P u Z;unfold zB at u;clear d hq r;go_upto_region 5 with fail;obtain⟨W4,C⟩:=nm (wr.alloc (.cells #[.int .u64 p,.int .u64 q] 214));obtain⟨Q,D⟩:=nm wr.heap.size;have J4:AA (Ho w rb tb Q p q t W4):=by
    have m4:=AB C
    refine zb ⟨v,m.z.1.mod m4 (λx=>x) (λ_ _ x=>x),m.z.2.1,c.z.1.trans m4,λg hg=>⟨c.z.2.2.1 g hg,λe=>?_⟩,m4.obj (λx=>x) c.z.2.2.2,?_,I.z,X.z.1,?_⟩
    ·have:=zF m.z.1.2 g hg;omega
    ·rw[<-C,<-D];exact heap_alloc_new wr _
    ·rw[<-D];exact c.z.2.1
   rw[C,D];obtain⟨y0,y1⟩:=J4.z.two;obtain⟨t1,J⟩:=nm ((if p<lo then t.add p (min q (lo-1))else t));rw[J]at P;have E:=zb J;obtain⟨B,K⟩:=nm ((if hi<=q then t1.add (max p hi) q else t1));rw[K]at P;have F:=zb K;clear m c C D J K x1 x2;go_upto_if 27 with fail
   go_cut [] (λwx=>AA (Ho w rb tb Q p q t1 wx))
   case first =>
    by_cases d:p<lo
    ·have d1:(p:Int)<lo:=by omega
     have y:t.add p (min q (lo-1))=t1:=by
      have:=E.z;rw[AN d]at this;exact this
     have kq:q<=lo-1->Calls prog 88 #[.pointer (some ⟨tb,0,none⟩),.int .u64 p,.int .u64 q] W4 λe w'=>e = .returned (.tuple #[])/\Ho w rb tb Q p q t1 w':=λh=>by
      have k:=J4.z.calls (lo:=p) (hi:=q) (by unfold zB;omega) u;rw[<-y,BM h];exact k
     have kl:lo-1<=q->Calls prog 88 #[.pointer (some ⟨tb,0,none⟩),.int .u64 p,.int .u64 ((lo:Int)-1)] W4 λe w'=>e = .returned (.tuple #[])/\Ho w rb tb Q p q t1 w':=λh=>by
      have k:=J4.z.calls (lo:=p) (hi:=lo-1) (by unfold zB;omega) (by unfold zB;omega);rw[<-y,Nat.min_eq_right h];rw[show((lo-1:Nat):Int)=(lo:Int)-1 by omega]at k;exact k
     have KQ:=zb kq;have KL:=zb kl;have yw:=wu ((lo:Int)-1) (by omega);clear d y kq kl E;go_wp2_with (go_at_call 88;first|(have z:=KQ.z (by omega);with_reducible refine z.mono ?_;clear z;rintro e w5 ⟨rfl,L⟩;have O:=zb L)|(have z:=KL.z (by omega);with_reducible refine z.mono ?_;clear z;rintro e w5 ⟨rfl,L⟩;have O:=zb L));all_goals go_meet
     all_goals exact O
    ·have d1:¬(p:Int)<lo:=by omega
     have y:t=t1:=by
      have:=E.z;rw[AH d]at this;exact this
     subst y;clear d E;go_wp2_with fail;go_meet;exact J4
   case rest =>
   have O:=hcut;clear J4 y0 y1;obtain⟨y0,y1⟩:=O.z.two;clear hcut;by_cases d:hi<=q
   ·have d1:(hi:Int)<=q:=by omega
    have y:t1.add (max p hi) q=B:=by
     have:=F.z;rw[AN d]at this;exact this
    have kq:p<=hi->Calls prog 88 #[.pointer (some ⟨tb,0,none⟩),.int .u64 hi,.int .u64 q] wc λe w'=>e = .returned (.tuple #[])/\Ho w rb tb Q p q B w':=λh=>by
     have k:=O.z.calls (lo:=hi) (hi:=q) (by unfold zB;omega) u;rw[<-y,Nat.max_eq_right h];exact k
    have kl:hi<=p->Calls prog 88 #[.pointer (some ⟨tb,0,none⟩),.int .u64 p,.int .u64 q] wc λe w'=>e = .returned (.tuple #[])/\Ho w rb tb Q p q B w':=λh=>by
     have k:=O.z.calls (lo:=p) (hi:=q) (by unfold zB;omega) u;rw[<-y,Nat.max_eq_left h];exact k
    have KQ:=zb kq;have KL:=zb kl;clear d y kq kl F;go_wp2_with (go_at_call 88;first|(have z:=KQ.z (by omega);with_reducible refine z.mono ?_;clear z;rintro e w5 ⟨rfl,L⟩;have J6:=zb L)|(have z:=KL.z (by omega);with_reducible refine z.mono ?_;clear z;rintro e w5 ⟨rfl,L⟩;have J6:=zb L));all_goals
     go_roundw
     case rel =>
      obtain⟨v6,h1,h2,h3,h4,h5,h6,h7,h8,h9⟩:=J6.z;have:=(AI.1 h6).1;exact⟨k+1,v6,B,by omega,by go_num,zb ⟨h1,h2,P.z⟩,zb ⟨h3,by omega,λg hg=>(h4 g hg).1,h5⟩⟩
     case measure=>simp[intOf];omega
   ·have d1:¬(hi:Int)<=q:=by omega
    have y:t1=B:=by
     have:=F.z;rw[AH d]at this;exact this
    subst y;have J6:=O;clear d F;go_wp2_with fail;go_roundw
    case rel =>
     obtain⟨v6,h1,h2,h3,h4,h5,h6,h7,h8,h9⟩:=J6.z;have:=(AI.1 h6).1;exact⟨k+1,v6,t1,by omega,by go_num,zb ⟨h1,h2,P.z⟩,zb ⟨h3,by omega,λg hg=>(h4 g hg).1,h5⟩⟩
    case measure=>simp[intOf];omega
  ·have ae:s.rs.length<=k:=by rw[HN.z];omega
   have af:t=R:=by
    have h1:=m.z.2.2;rw[By ae]at h1;exact h1
   subst af;obtain⟨g0,g1,g2⟩:wr.cell? ⟨tb,0,none⟩=some v/\wr.cell? ⟨tb,1,none⟩=some (.int .u64 t.fl)/\wr.cell? ⟨tb,2,none⟩=some (.int .i64 t.most):=⟨za m.z.1.1 rfl,za m.z.1.1 rfl,za m.z.1.1 rfl⟩;obtain⟨f0,f1,f2⟩:wr.cell? ⟨rb,0,none⟩=some (.slice none 0 0)/\wr.cell? ⟨rb,1,none⟩=some (.int .u64 0)/\wr.cell? ⟨rb,2,none⟩=some (.int .i64 0):=⟨za c.z.2.2.2 rfl,za c.z.2.2.2 rfl,za c.z.2.2.2 rfl⟩;have fz:∀p,wr.frozen? ⟨rb,p,none⟩=false:=λp=>zf c.z.2.2.2
   obtain⟨S,T,aa,_⟩:=zi m.z.1.2;have ah:AA (Qe w t (.returned (.agg #[.slice S t.rs.length T,.int .u64 t.fl,.int .i64 t.most])) (((wr.setCell ⟨rb,0,none⟩ (.slice S t.rs.length T)).setCell ⟨rb,1,none⟩ (.int .u64 t.fl)).setCell ⟨rb,2,none⟩ (.int .i64 t.most))):=by
    have m3:DW (λg=>g=rb) wr (((wr.setCell ⟨rb,0,none⟩ (.slice S t.rs.length T)).setCell ⟨rb,1,none⟩ (.int .u64 t.fl)).setCell ⟨rb,2,none⟩ (.int .i64 t.most)):=(((DW.refl (λg=>g=rb) wr).setCell (p:=⟨rb,0,none⟩) (.inl rfl) _).setCell (p:=⟨rb,1,none⟩) (.inl rfl) _).setCell (p:=⟨rb,2,none⟩) (.inl rfl) _;refine zb ⟨_,rfl,?_,λg hg=>?_,c.z.1.then m3 (λg hg=>.inr (by rw[I.z,show g=rb from hg];exact AG _))⟩
    ·have ho:=m3.owns m.z.1.2 (λg hg x=>by
      have:=c.z.2.2.1 g hg;have x:=x;omega)
     rw[aa]at ho;exact ho
    ·rw[<-aa]at hg;have:=c.z.2.2.1 g hg;have:=I.z;omega
   have A:AA ((((wr.setCell ⟨rb,0,none⟩ (.slice S t.rs.length T)).setCell ⟨rb,1,none⟩ (.int .u64 t.fl)).setCell ⟨rb,2,none⟩ (.int .i64 t.most)).heap[rb]?=some (.cells #[.slice S t.rs.length T,.int .u64 t.fl,.int .i64 t.most] 116 (0,0))):=by
    refine zb ?_;rw[zc (zc (zc c.z.2.2.2))];rfl
   go_wp2_with fail
   (try simp only[Exit.inBlock,Exit.then])
   refine bodyPost_ret (fZ _ _ rb (.slice S t.rs.length T) (.int .u64 t.fl) (.int .i64 t.most) rfl (za A.z rfl) (za A.z rfl) (za A.z rfl)) rfl ah.z
variable{V:CV}{W:World}{c:CS}{i k:Nat}{tag:Nat->Nat×Nat}{y:WS}
def zg.storeW2(h:zg tag i b { c with ws:=upd c.ws k y } V W)(hk:k<8)(j:Nat)(hj:j<15)(v:Value)(x:WS)(hx:FZ x (V.wb k) (V.ws k) (V.wc k)=(FZ y (V.wb k) (V.ws k) (V.wc k)).set j v)(h1:x.b=y.b)(h2:x.sent.rs=y.sent.rs)(h3:x.came.rs=y.came.rs):zg tag i b { c with ws:=upd c.ws k x } V (W.setCell ⟨b,9+15*k+j,none⟩ v):=by
 have:=h.storeW hk j hj v x (by simp only[ze];exact hx) (by simp only[ze];exact h1) (by simp only[ze];exact h2) (by simp only[ze];exact h3);simp only[Jn]at this;exact this
def zg.storeR2{y:RS}(h:zg tag i b { c with rs:=upd c.rs k y } V W)(hk:k<8)(j:Nat)(hj:j<13)(v:Value)(x:RS)(hx:GD x (V.rb k) (V.rc k)=(GD y (V.rb k) (V.rc k)).set j v)(h1:x.b=y.b)(h3:x.came.rs=y.came.rs):zg tag i b { c with rs:=upd c.rs k x } V (W.setCell ⟨b,129+13*k+j,none⟩ v):=by
 have:=h.storeR hk j hj v x (by simp only[ze];exact hx) (by simp only[ze];exact h1) (by simp only[ze];exact h3);simp only[Jn]at this;exact this
def Ke(x:WS)(n:Nat)(h:x.cut=false):x.give n={ x with final:=max x.high n,keep:=n,telling:=false,cut:=true }:=by
 simp[WS.give,h]
def Kd(x:WS)(n:Nat)(h:x.cut=true)(hn:n<x.keep):x.give n={ x with keep:=n,telling:=false,cut:=true }:=by
 simp[WS.give,h,hn]
def Kc(x:WS)(n:Nat)(h:x.cut=true)(hn:¬n<x.keep):x.give n={ x with cut:=true }:=by
 simp[WS.give,h,hn]
def dZ(h:zg tag i b c V W)(D:Do tag W)(k keep:Int)(s:∀k,k<8->(c.ws k).b.length<=1099511627776/\(c.ws k).high<=zB):Calls prog 71 #[.pointer (some ⟨b,0,none⟩),.int .i64 k,.int .i64 keep] W (EA tag i b W (EC (c.reset k keep).1) (c.reset k keep).2):=by
 have E:=Nv h k;unfold CS.reset;by_cases o:c.stream k=0
 ·obtain⟨k0,k8,-⟩:=LW o;obtain⟨q,rfl⟩:∃q:Nat,k=(q:Int):=⟨k.toNat,by omega⟩;have a:q<8:=by omega
  rw[o]at E;simp only[o,Ao,ne_eq,CC,BY];have HH:=zb h;have HT:=zb D;have f:W.cell? ⟨b,9+q*15+6,none⟩=some (.int .i64 ((c.ws q).came.most:Int)):=by rw[AK];exact h.w (j:=6) a rfl
  clear f;obtain⟨x,C⟩:=nm (c.ws q);have HX:=zb C;obtain⟨b1,M⟩:=s q a;rw[C]at b1 M ⊢;obtain⟨N,O⟩:=nm x.b.length;have w0:W.cell? ⟨b,9+q*15,none⟩=some (V.wb q):=by rw[AK];exact h.w (j:=0) a rfl
  obtain⟨wa,wc,G,_⟩:=zi (h.wb q a);rw[G,C,O]at w0;have X:W.cell? ⟨b,9+q*15+7,none⟩=some (.int .u64 ((c.ws q).high:Int)):=by rw[AK];exact h.w (j:=7) a rfl
  have f:W.cell? ⟨b,9+q*15+10,none⟩=some (.bool (c.ws q).cut):=by rw[AK];exact h.w (j:=10) a rfl
  have I:W.cell? ⟨b,9+q*15+11,none⟩=some (.int .u64 ((c.ws q).keep:Int)):=by rw[AK];exact h.w (j:=11) a rfl
  have w12:W.cell? ⟨b,9+q*15+12,none⟩=some (.int .u64 ((c.ws q).final:Int)):=by rw[AK];exact h.w (j:=12) a rfl
  have w13:W.cell? ⟨b,9+q*15+13,none⟩=some (.bool (c.ws q).telling):=by rw[AK];exact h.w (j:=13) a rfl
  have fz:=λp=>h.fz p
  have fz2:∀p1 v1 p,(W.setCell ⟨b,p1,none⟩ v1).frozen? ⟨b,p,none⟩=false:=λp1 v1 p=>zf (zc h.obj)
  have fz3:∀p1 v1 p2 v2 p,((W.setCell ⟨b,p1,none⟩ v1).setCell ⟨b,p2,none⟩ v2).frozen? ⟨b,p,none⟩=false:=λp1 v1 p2 v2 p=>zf (zc (zc h.obj))
  have fz4:∀p1 v1 p2 v2 p3 v3 p,(((W.setCell ⟨b,p1,none⟩ v1).setCell ⟨b,p2,none⟩ v2).setCell ⟨b,p3,none⟩ v3).frozen? ⟨b,p,none⟩=false:=λp1 v1 p2 v2 p3 v3 p=>zf (zc (zc (zc h.obj)))
  rw[C]at X f I;obtain⟨n,t⟩:=nm (min keep.toNat N);rw[O,t];have h0:zg tag i b { c with ws:=upd c.ws q x } V W:=by
   rw[<-C,Fj];exact h
  have r:∀W',zg tag i b { c with ws:=upd c.ws q (x.give n) } V W'->DW (λg=>g=b) W W'->Dn tag i b W { c with ws:=upd c.ws q (x.give n) } W':=λW' h' m'=>h'.left D (h.modb m')
  have P:=zb r;have J:=zb h0;have hnN:n<=N:=by omega
  have Q:=zb t;have y1:IntKind.u64.wrap (n:Int)=(n:Int):=by rw[IntKind.wrap_u64];omega
  have y2:IntKind.u64.wrap (N:Int)=(N:Int):=by rw[IntKind.wrap_u64];omega
  have y3:IntKind.u64.wrap 0=0:=by rw[IntKind.wrap_u64];rfl
  have y4:keep<0\/(N:Int)<keep\/IntKind.u64.wrap keep=keep:=by rw[IntKind.wrap_u64];omega
  have d1:(q:Int)<8:=by omega
  have d0:(0:Int)<=q:=by omega
  obtain⟨hi,u⟩:=nm x.high;obtain⟨R,y⟩:=nm x.keep;obtain⟨cu,z⟩:=nm x.cut;rw[u]at X M;rw[y]at I;rw[z]at f;have HI:=zb u;have Y:=zb y;have S:=zb z;unfold zB at M;clear h D h0 o G C O t r u y z s;go_enter func71,ntmps71;go_upto_region 5 with(go_at_call 90;refine E.mono ?_;rintro _ _ ⟨rfl,rfl⟩;unfold EC;simp only[A5])
  go_cut [9] (λnv wx=>nv = .int .u64 n/\wx=W)
  case first =>
   go_wp2_with fail;all_goals
    go_meet;have h2:=Q.z;exact⟨by congr 1;omega,rfl⟩
  case rest =>
  obtain⟨rfl,T⟩:=hcut;have T:=T.symm;subst T;clear y2 y3 y4;have e7:AA (9+q*15+12=9+15*q+12):=zb (by omega);have Z:AA (9+q*15+11=9+15*q+11):=zb (by omega);have e9:AA (9+q*15+13=9+15*q+13):=zb (by omega);have A:AA (9+q*15+10=9+15*q+10):=zb (by omega);have d:∀{WA WB:World} (p:Nat) (v:Value),DW (λg=>g=b) WA WB->DW (λg=>g=b) WA (WB.setCell ⟨b,p,none⟩ v):=λp v m=>m.setCell (p:=⟨b,p,none⟩) (.inl rfl) v
  cases cu
  ·have hg:=Ke x n S.z;obtain⟨F,U⟩:=nm (max hi n);have K:=zb U;have h1:=J.z.storeW2 a 12 (by decide) (.int .u64 F) { x with final:=max x.high n } (by rw[<-U,<-HI.z];rfl) rfl rfl rfl;have h2:=h1.storeW2 a 11 (by decide) (.int .u64 n) { x with final:=max x.high n,keep:=n } rfl rfl rfl rfl;have h3:=h2.storeW2 a 13 (by decide) (.bool false) { x with final:=max x.high n,keep:=n,telling:=false } rfl rfl rfl rfl;have h4:=h3.storeW2 a 10 (by decide) (.bool true) { x with final:=max x.high n,keep:=n,telling:=false,cut:=true } rfl rfl rfl rfl;rw[<-hg]at h4;have H:=zb (P.z _ h4 (d _ _ (d _ _ (d _ _ (d _ _ (DW.refl _ _))))));rw[<-e7.z,<-Z.z,<-e9.z,<-A.z]at H;clear h1 h2 h3 h4 hg U;by_cases L:hi<=n
   ·have B:F=n:=by have:=K.z;omega
    subst B;have d3:(hi:Int)<=F:=by omega
    have d4:¬(F:Int)<hi:=by omega
    clear L;go_wp2_with fail;all_goals first|(exfalso;omega)|skip
    all_goals go_ret
    all_goals refine⟨rfl,?_⟩
    all_goals first|exact H.z|(have e:(hi:Int)=F:=(by omega);rw[e];exact H.z)|(have e:(n:Int)=F:=(by omega);rw[<-e]at H;exact H.z)
   ·have B:F=hi:=by have:=K.z;omega
    subst B;have d3:¬(F:Int)<=n:=by omega
    have d4:(n:Int)<F:=by omega
    clear L;go_wp2_with fail;all_goals first|(exfalso;omega)|skip
    all_goals go_ret
    all_goals refine⟨rfl,?_⟩
    all_goals first|exact H.z|(have e:(hi:Int)=F:=(by omega);rw[e];exact H.z)|(have e:(n:Int)=F:=(by omega);rw[<-e]at H;exact H.z)
  ·by_cases l:n<R
   ·have hg:=Kd x n S.z (by rw[Y.z];exact l);have h2:=J.z.storeW2 a 11 (by decide) (.int .u64 n) { x with keep:=n } rfl rfl rfl rfl;have h3:=h2.storeW2 a 13 (by decide) (.bool false) { x with keep:=n,telling:=false } rfl rfl rfl rfl;have h4:=h3.storeW2 a 10 (by decide) (.bool true) { x with keep:=n,telling:=false,cut:=true } rfl rfl rfl rfl;rw[<-hg]at h4;have H:=zb (P.z _ h4 (d _ _ (d _ _ (d _ _ (DW.refl _ _)))));rw[<-Z.z,<-e9.z,<-A.z]at H;have d2:(n:Int)<R:=by omega
    clear l;clear h2 h3 h4 hg;go_wp2_with fail;go_ret;exact⟨rfl,H.z⟩
   ·have hg:=Kc x n S.z (by rw[Y.z];exact l);have h4:=J.z.storeW2 a 10 (by decide) (.bool true) { x with cut:=true } rfl rfl rfl rfl;rw[<-hg]at h4;have H:=zb (P.z _ h4 (d _ _ (DW.refl _ _)));rw[<-A.z]at H;have d2:¬(n:Int)<R:=by omega
    clear l;clear h4 hg;go_wp2_with fail;go_ret;exact⟨rfl,H.z⟩
 ·obtain⟨n,t⟩:=nm (c.stream k);have J:=zb (h.left D (DW.refl _ _));rw[t]at E o;simp only[t,o,ne_eq,As,A5];rw[Ie o]at E ⊢;clear h D t o s;go_enter func71,ntmps71;go_wp2_with (go_at_call 90;refine E.mono ?_;rintro _ _ ⟨rfl,rfl⟩);go_ret;exact⟨rfl,J.z⟩
def dY(h:zg tag i b c V W)(E:Dx i tag W)(k keep:Int)(a:∀k,k<8->(c.ws k).b.length<=1099511627776/\(c.ws k).high<=zB):Calls prog 39 #[.pointer (some ⟨b,0,none⟩),.int .i64 k,.int .i64 keep] W (EA tag i b W (.int .i64 ((c.reset k keep).1:Int)) (c.reset k keep).2):=by
 have e:=dZ h E.ok k keep a;have HE:=zb E;clear h E a;go_enter func39,ntmps39;go_wp2_with fail;refine e.mono ?_;rintro _ W1 ⟨rfl,d⟩;obtain⟨tag',V',h1,h2,h3⟩:=id d;have kn:=Js (c.reset k keep).1 W1 (HE.z.left h2 h3).err;have HL:=zb d;clear d h1 h2 h3 e;go_wp2_with fail;refine kn.mono ?_;rintro _ W2 ⟨rfl,f⟩;have H:=zb (HL.z.then0 f);clear f;go_wp2_with fail;go_ret;exact⟨rfl,H.z⟩
variable{e:Nat}
theorem UK:∀(c:List Value) (o:Nat) (w:World) (a:Array Value),w.heap[b]?=some (.cells a e (0,0))->∃cur',(w.setCells b o c).heap[b]?=some (.cells cur' e (0,0))/\cur'.size=a.size
 | [],_,_,a,h=>⟨a,h,rfl⟩
 | v::c,o,w,a,h=>by
  obtain⟨cur',h1,h2⟩:=UK c (o+1) (w.setCell ⟨b,o,none⟩ v) _ (zc h);exact⟨cur',h1,by rw[h2];simp⟩
theorem UJ:∀(a:List Value) (o:Nat) (w:World),DW (λg=>g=b) w (w.setCells b o a)
 | [],_,w=>DW.refl _ _
 | v::a,o,w=>((DW.refl (λg=>g=b) w).setCell (p:=⟨b,o,none⟩) (.inl rfl) v).trans (UJ a (o+1) _)
variable{cap g o:Nat}{xs:List Value}
def ED.of_cells{size n:Nat}{a:Array Value}(hg:w.heap[g]?=some (.cells a e (0,0)))(hl:xs.length=n*size)(b:n<=cap)(hc:cap<=maxLen)(c:(o+cap)*size<=a.size)(hx:∀j u,xs[j]?=some u->w.cell? ⟨g,o*size+j,none⟩=some u):ED w e size (.slice (some ⟨g,o*size,none⟩) n cap) n xs:=by
 have hle:o*size+n*size<=a.size:=by
  have:n*size<=cap*size:=Bu _ b;rw[DO]at c;omega
 refine⟨hl,.inr ⟨g,o,cap,a,rfl,hg,b,hc,c,?_⟩⟩;apply List.ext_getElem?;intro j;by_cases d:j<xs.length
 ·have h1:=hx j xs[j] (AJ d);rw[AJ d,<-h1];rw[B8,AN (by omega),A6];unfold World.cell?;simp only[hg];simp
 ·rw[Bo (by rw[AS];omega),Bo (by omega)]
def ED.cells{size n:Nat}(h:ED w e size v n xs)(c:v = .slice (some ⟨g,o,none⟩) n cap):∀j u,xs[j]?=some u->w.cell? ⟨g,o+j,none⟩=some u:=by
 intro j u a;rcases h.2 with⟨rfl,rfl⟩|⟨g',o',d,cur,rfl,hg,_,_,hs,ht⟩
 ·cases c
 ·cases c;have b:j<n*size:=by
   have:=(AM.1 a).1;rw[h.1]at this;exact this
  rw[<-ht,B8,AN b,A6]at a;unfold World.cell?;simp only[hg];simpa using a
def JS(w:World)(v v':Value):Prop:=∀g,Value.blk v'=some g->Value.blk v=some g\/w.heap.size<=g
def gO{size n:Nat}(h:w.ownsRow 0 e size v n xs):ED w e size v n xs:=by
 refine⟨h.1,?_⟩;rcases h.2 with⟨rfl,rfl⟩|⟨g,cap,a,rfl,_,hg,hn,hc,hs,ht⟩
 ·exact .inl ⟨rfl,rfl⟩
 ·exact .inr ⟨g,0,cap,a,by simp,hg,hn,hc,by rw[Au];exact BX hs.symm,by simpa using ht⟩
def gN:(prog.info? 65).map (λi=>(i.zero,i.size,i.bytes))=some (some (.agg #[.int .i64 0,.int .i64 0,.int .u64 0,.int .u64 0,.int .u64 0,.bool false,.int .u64 0,.int .u64 0,.string ⟨#[]⟩,.slice none 0 0]),10,104):=by kernel_rfl
def XX(w:World)(v:Value)(n:Nat)(xs:List Value)(f:Db)(h:ED w 65 10 v n xs)(hl:n<=1099511627776):∃v' w',(∀ty,(Builtin.append_ #[54,54] ty #[v,.slice (some ⟨w.heap.size,0,none⟩) 1 1]).run prog (w.alloc (.cells (zh f (.slice none 0 0)) 65)) = .ok v' w') /\
   ED w' 65 10 v' (n+1) (xs++(zh f (.slice none 0 0)).toList)/\DW (λg=>Value.blk v=some g) w w'/\JS w v v':=by
 obtain⟨i,s,J,t,y⟩:=info_parts gN;obtain⟨o,K⟩:=nm (Obj.cells (zh f (.slice none 0 0)) 65);have c:∀(j:Nat) u,(zh f (.slice none 0 0)).toList[j]?=some u->(w.alloc o).cell? ((⟨w.heap.size,0,none⟩:Addr).add j)=some u:=by
  intro j u d;rw[zS,<-K];refine za (heap_alloc_new w _) ?_;rw[Au,<-Array.getElem?_toList];exact d
 have h1:∀u∈(zh f (.slice none 0 0)).toList,u.oneCell'=true:=by
  intro u L;simp[zh]at L;rcases L with rfl|rfl|rfl|rfl|rfl|rfl|rfl|rfl|rfl|rfl<;>rfl
 have a:(zh f (.slice none 0 0)).toList.length=1*10:=rfl;rw[K];have z:=(DW.refl DX w).alloc o;have hsz:(w.alloc o).heap.size=w.heap.size+1:=by simp
 rcases h.2 with⟨rfl,rfl⟩|⟨g,off,cap,A,rfl,hg,hn,hc,hs,ht⟩
 ·have hx:=Ah (by simpa using h.1);subst hx;obtain⟨v',w',k1,k2,k3,k4⟩:=zJ (P:=prog) (w.alloc o) 54 65 i _ 10 104 underlying54 s J t y rfl (by decide) (.slice none 0 0) 0 [] (World.ownsRow_nil _ 0 _ 10)
   ⟨w.heap.size,0,none⟩ 1 1 _ a c h1 (by unfold maxLen;omega) (by omega)
  refine⟨v',w',k1,gO k2,(z.mono (λ_ x=>x.elim)).trans ((DW.refl _ (w.alloc o)).grown k3 (λk hk=>by cases hk)),λg hg=>?_⟩;rcases k4 g (O5 k2 hg)with x|x
  ·cases x
  ·exact .inr (by omega)
 ·have b:=t;have p:=z.obj (λx=>x) hg;have B:=(h.mod z (λ_ _ x=>x)).cells (g:=g) (o:=off*10) (cap:=cap) rfl;have l:=h.1;by_cases m:n+1<=cap
  ·have hb:∀j,j<10->off*10+n*10+j<A.size:=λj d=>by
    have:(off+(n+1))*10<=(off+cap)*10:=Bu _ (by omega);omega
   have D:=λty=>run_append_room_cells (P:=prog) (w.alloc o) 54 ty 65 i underlying54 s g (off*10) n cap ⟨w.heap.size,0,none⟩ 1 1 _ (by rw[b];exact a) c h1 m
    (λj d=>by
     rw[b,za p (C6 (hb j d))];rfl) (λj _=>zf p)
   rw[b]at D;obtain⟨M,E,F⟩:=UK (zh f (.slice none 0 0)).toList (off*10+n*10) (w.alloc o) A p;refine⟨_,_,D,?_,(z.mono (λ_ x=>x.elim)).trans ((UJ _ _ _).mono (λq C=>.inl (by rw[C];rfl))),λq C=>.inl C⟩;refine ED.of_cells E (by rw[AF,l,a];omega) m hc (by rw[F];exact hs) (λj u d=>?_);by_cases G:j<xs.length
   ·rw[Ag G]at d;rw[World.cell?_setCells_out g _ _ _ _ (λ_ _=>.inl (by show off*10+j<_;omega))];exact B j u d
   ·rw[AV (by omega)]at d;have r:=(AM.1 d).1;have:=World.cell?_setCells_in g (zh f (.slice none 0 0)).toList (off*10+n*10) (w.alloc o) (λj d=>by rw[za p (C6 (hb j d))];rfl) (j-xs.length) r;rw[show off*10+j=off*10+n*10+(j-xs.length)by omega,this,<-d];rw[AJ r]
  ·have D:=λty=>run_append_grow (P:=prog) (w.alloc o) 54 ty 65 i _ underlying54 s J ⟨g,off*10,none⟩ n cap xs (by rw[b];exact l) (λj u d=>by rw[zS];exact B j u d)
    ⟨w.heap.size,0,none⟩ 1 1 _ (by rw[b];exact a) c (by omega) (by omega) (growslice_fits (by omega) (by rw[y];omega))
   have H:=grownCap_ge (w.alloc o) (n+1) cap 65;have I:grownCap (w.alloc o) (n+1) cap 65<=maxLen:=grownCap_le_maxLen (w.alloc o) (n+1) cap _ (by unfold maxLen;omega);refine⟨_,_,D,⟨by rw[AF,l,a];omega,.inr ⟨(w.alloc o).heap.size,0,_,_,by simp,heap_alloc_new (w.alloc o).drew _,H,I,?_,?_⟩⟩,((z.mono (λ_ x=>x.elim)).drew).alloc _,λq C=>.inr (by simp[Value.blk]at C;omega)⟩
   ·simp only[DA,Al,size_zeroCells,l,a];have:(Value.agg #[.int .i64 0,.int .i64 0,.int .u64 0,.int .u64 0,.int .u64 0,.bool false,.int .u64 0,.int .u64 0,.string ⟨#[]⟩,.slice none 0 0]).cells.size=10:=rfl;rw[this];omega
   ·simp only[Cy,Av,Cz,Bv];rw[<-List.append_assoc];have e:(xs++(zh f (.slice none 0 0)).toList).length=(n+1)*10:=by rw[AF,l,a];omega
    rw[<-e];exact BH
def jJ(l:List Db)(f:Db):zp (l++[f])=zp l++(zh f (.slice none 0 0)).toList:=by
 simp[zp]
theorem JC(l:List Db):(zp l).length=l.length*10:=by
 induction l with
 | nil=>rfl
 | cons f l ih =>
  have:zp (f::l)=(zh f (.slice none 0 0)).toList++zp l:=by simp[zp]
  rw[this,AF,ih,AQ];have e:(zh f (.slice none 0 0)).toList.length=10:=rfl;omega
variable{W1 W2:World}{f:Db}{v':Value}
def zg.waitPush(h:zg tag i b c V W)(ht:Do tag W)(hi:0<i)(s:DW DX W W1)(t:ED W2 65 10 v' (c.waits.length+1) (zp c.waits++(zh f (.slice none 0 0)).toList))(m:DW (λg=>Value.blk V.wt=some g) W1 W2)(u:JS W1 V.wt v'):Dn tag i b W { c with waits:=c.waits++[f] } (W2.setCell ⟨b,238,none⟩ v'):=by
 have k:=(s.mono (λ_ x=>x.elim)).trans m;have hb:∀g,Value.blk V.wt=some g->g≠b:=λg hg e=>zg.apart (h.twt g hg) (e ▸ h.tb) (by decide) rfl
 have a:∀{g r:Nat},tag g=(i,r)->g<W.heap.size:=λhg=>EQ ht hg hi
 have o2:=k.obj (λx=>hb b x rfl) h.obj;have hs0:=s.size;have hs2:=m.size;have l:∀g,Value.blk v'=some g->g≠b:=λg hg e=>by
  rcases u g hg with x|x
  ·exact hb g x e
  ·have:=a h.tb;omega
 have d:∀g,Value.blk v'=some g->g<W2.heap.size:=λg hg=>by
  rcases t.2 with⟨rfl,_⟩|⟨g',o,cap,cur,rfl,n,_⟩
  ·simp[Value.blk]at hg
  ·simp[Value.blk]at hg;subst hg;exact(AI.1 n).1
 have v:DW (λg=>g=b) W2 (W2.setCell ⟨b,238,none⟩ v'):=(DW.refl (λg=>g=b) _).setCell (p:=⟨b,238,none⟩) (.inl rfl) _;have w:DW (λg=>Value.blk V.wt=some g\/g=b) W (W2.setCell ⟨b,238,none⟩ v'):=(k.mono (λg hg=>.inl (.inl hg))).trans (v.mono (λg hg=>.inl (.inr hg)));refine⟨Go.Proofs.YtddfdpbaiedcjaaGreatDoor.retag tag W W2 (i,6),{ V with wt:=v' },?_,?_,w.mono (λg hg=>.inl ?_)⟩
 ·refine h.build (R:=λr=>r=1\/r=6) w (λg hg=>?_) (λg hg=>zz (a (r:=(tag g).2) (by rw[<-hg]))) ?_ (.inl ⟨rfl,rfl,rfl,by omega,by omega⟩) (λq j=>.inl ⟨rfl,rfl,by omega⟩) (λq j=>.inl ⟨rfl,rfl,by omega⟩) (λq j=>.inl ⟨rfl,rfl,by omega⟩) (λq j=>.inl ⟨rfl,rfl,by omega⟩) (λq j=>.inl ⟨rfl,rfl,by omega⟩) (.inl ⟨rfl,rfl,rfl,by omega,by omega⟩) (.inr ⟨?_,λg hg=>?_⟩) (.inl ⟨rfl,rfl,by omega⟩) (.inl ⟨rfl,rfl,by omega⟩)
  ·rcases hg with hg|hg
   ·exact⟨6,.inr rfl,h.twt g hg⟩
   ·exact⟨1,.inl rfl,by rw[hg,h.tb]⟩
  ·rw[zc o2,Ap];rw[show(238:Nat)=233+5 from rfl,zX c { c with waits:=c.waits++[f] } V { V with wt:=v' } _ rfl rfl rfl rfl]
  ·rw[AF,Aa,jJ];exact t.mod v (λg hg x=>l g hg x)
  ·rcases u g hg with y|y
   ·rw[zz (a (h.twt g y)),h.twt g y]
   ·exact Fr (by omega) (d g hg)
 ·have:=Ib (i:=i) (r:=6) (tag:=tag) k.size;exact⟨this.old,this.new,λg hg=>this.z g (by simpa using hg)⟩
 ·rcases hg with hg|hg
  ·rw[h.twt g hg]
  ·rw[hg,h.tb]
def Dn.after(ht:Do tag W)(m:DW (λg=>(tag g).1=i) W W1)(h:Dn tag i b W1 c W2):Dn tag i b W c W2:=by
 obtain⟨tag',V',h1,h2,h3⟩:=h;exact⟨tag',V',h1,(Dj.same ht m).trans h2 m.size,m.trans h3⟩
def gt(h:zg tag i b c V W)(id:Nat):zg tag i b { c with anyID:=true,lastID:=id } V ((W.setCell ⟨b,240,none⟩ (.bool true)).setCell ⟨b,239,none⟩ (.int .u64 id)):=by
 have h1:zg tag i b { c with anyID:=true } V (W.setCell ⟨b,240,none⟩ (.bool true)):=h.store (233+7) _ (zX c { c with anyID:=true } V V _ rfl rfl rfl rfl) ⟨rfl,λ_ _=>⟨rfl,rfl,rfl⟩,λ_ _=>⟨rfl,rfl⟩,rfl,rfl,rfl,rfl⟩;exact h1.store (233+6) _ (zX { c with anyID:=true } { c with anyID:=true,lastID:=id } V V _ rfl rfl rfl rfl) ⟨rfl,λ_ _=>⟨rfl,rfl,rfl⟩,λ_ _=>⟨rfl,rfl⟩,rfl,rfl,rfl,rfl⟩
def iw(h:zg tag i b c V W)(L:Do tag W)(hi:0<i)(id dl:Nat)(a:Addr)(cap:Nat)(s:List UInt8)(r:BR W (.slice (some a) s.length cap) s)(G:tag a.block=(0,0))(hm:c.mtu<=65536)(hsl:s.length<=1099511627776)(aw:c.waits.length<=1099511627776):Calls prog 124 #[.pointer (some ⟨b,0,none⟩),.int .u64 id,.int .u64 dl,.slice (some a) s.length cap] W (EA tag i b W (EC (c.datagram id dl s).1) (c.datagram id dl s).2):=by
 have H0:=zb (h.left L (DW.refl _ _));have HH:=zb h;have HT:=zb L;have c2:=h.hd (j:=4) rfl;have c0:=h.hd (j:=0) rfl;have c3:=h.hd (j:=3) rfl;have M:W.cell? ⟨b,238,none⟩=some V.wt:=h.tl (j:=5) rfl;have ab:W.cell? ⟨b,239,none⟩=some (.int .u64 c.lastID):=h.tl (j:=6) rfl;have ac:W.cell? ⟨b,240,none⟩=some (.bool c.anyID):=h.tl (j:=7) rfl;have fz:=λp=>h.fz p
 have aj:∀p v p',(W.setCell ⟨b,p,none⟩ v).frozen? ⟨b,p',none⟩=false:=λp v p'=>zf (zc h.obj)
 obtain⟨N,O,k⟩:=TK h.wt;rw[k]at M;obtain⟨P,l⟩:=nm c.waits.length;obtain⟨mt,t⟩:=nm c.mtu;obtain⟨nw,n⟩:=nm c.now;obtain⟨li,u⟩:=nm c.lastID;obtain⟨an,q⟩:=nm c.anyID;rw[l]at M;rw[t]at c0 hm;rw[n]at c3;rw[u]at ab;rw[q]at ac;have ax:=zb k;have ay:=zb r;have az:AA (Dl (λg=>g=b) (.slice (some a) s.length cap)):=zb (GE λg hg x=>by
  have x:=x;simp[Value.blk]at hg;rw[hg,x,h.tb]at G;simp at G)
 have ak:AA (Dl (λg=>Value.blk V.wt=some g) (.slice (some a) s.length cap)):=zb (GE λg hg x=>by
  have h1:=h.twt g x;simp[Value.blk]at hg;rw[hg,h1]at G;simp at G)
 clear G;have ym:IntKind.i64.wrap ((mt:Int)-40)=(mt:Int)-40:=IntWalk.i64_in _ (by omega);by_cases f:c.closed=0;rotate_left
 ·have B:AA (c.datagram id dl s=(12,c)):=by
   show _=_;unfold CS.datagram;rw[AN f]
  rw[B.z];have dc:((c.closed:Int)==0)=false:=AR.2 (by omega);clear h L r k f l t n u q;go_enter func124,ntmps124;go_wp2_with fail;go_ret;exact⟨rfl,H0.z⟩
 rw[f]at c2;by_cases h1:zB<id
 ·have B:AA (c.datagram id dl s=(5,c)):=by
   show _=_;unfold CS.datagram;rw[AH (by simpa using f),AN (.inl h1)]
  rw[B.z];have d1:(4611686018427387903:Int)<id:=by unfold zB at h1;omega
  clear h L r k f l t n u q h1;go_enter func124,ntmps124;go_wp2_with fail;go_ret;exact⟨rfl,H0.z⟩
 have d1:¬(4611686018427387903:Int)<id:=by unfold zB at h1;omega
 by_cases h2:zB<dl
 ·have B:AA (c.datagram id dl s=(5,c)):=by
   show _=_;unfold CS.datagram;rw[AH (by simpa using f),AN (.inr (.inl h2))]
  rw[B.z];have d2:(4611686018427387903:Int)<dl:=by unfold zB at h2;omega
  clear h L r k f l t n u q h1 h2;go_enter func124,ntmps124;go_wp2_with fail;go_ret;exact⟨rfl,H0.z⟩
 have d2:¬(4611686018427387903:Int)<dl:=by unfold zB at h2;omega
 by_cases h3:c.anyID=true/\id<=c.lastID
 ·have B:AA (c.datagram id dl s=(5,c)):=by
   show _=_;unfold CS.datagram;rw[AH (by simpa using f),AN (.inr (.inr h3))]
  rw[B.z];have d3:(id:Int)<=li:=by omega
  have e4:an=true:=by rw[<-q];exact h3.1
  subst e4;clear h L r k f l t n u q h1 h2 h3;go_enter func124,ntmps124;go_wp2_with fail;go_ret;exact⟨rfl,H0.z⟩
 have d3:an=false\/(an=true/\¬(id:Int)<=li):=by
  cases an
  ·exact .inl rfl
  ·refine .inr ⟨rfl,λx=>h3 ⟨q,by omega⟩⟩
 have E:¬(zB<id\/zB<dl\/(c.anyID=true/\id<=c.lastID)):=by
  rintro(x|x|x)
  ·exact h1 x
  ·exact h2 x
  ·exact h3 x
 by_cases h4:c.mtu<s.length+40
 ·have B:AA (c.datagram id dl s=(6,c)):=by
   show _=_;unfold CS.datagram;rw[AH (by simpa using f),AH E,AN h4]
  rw[B.z];have d4:(mt:Int)-40<s.length:=by omega
  clear h L r k f l t n u q h1 h2 h3 E h4;rcases d3 with rfl|⟨rfl,d3⟩;all_goals
   go_enter func124,ntmps124;go_wp2_with fail;go_ret;exact⟨rfl,H0.z⟩
 have d4:¬(mt:Int)-40<s.length:=by omega
 by_cases h5:c.waits.length=16
 ·have B:AA (c.datagram id dl s=(3,c)):=by
   show _=_;unfold CS.datagram;rw[AH (by simpa using f),AH E,AH h4,AN h5]
  rw[B.z];have e5:P=16:=by omega
  subst e5;clear h L r k f l t n u q h1 h2 h3 E h4 h5;rcases d3 with rfl|⟨rfl,d3⟩;all_goals
   go_enter func124,ntmps124;go_wp2_with fail;go_ret;exact⟨rfl,H0.z⟩
 have d5:((P:Int)==16)=false:=AR.2 (by omega);have B:AA (c.datagram id dl s=(0,{ c with anyID:=true,lastID:=id,waits:=if c.now<=dl then c.waits++[E3 id dl s]else c.waits })):=by
  show _=_;unfold CS.datagram;rw[AH (by simpa using f),AH E,AH h4,AH h5]
 rw[B.z];obtain⟨Q,H⟩:=nm ((if c.now<=dl then c.waits++[E3 id dl s]else c.waits));rw[H];have C:=zb H;clear H B;have F:=gt h id;obtain⟨W2,R⟩:=nm ((W.setCell ⟨b,240,none⟩ (.bool true)).setCell ⟨b,239,none⟩ (.int .u64 id));rw[R]at F;have m2:DW (λg=>g=b) W W2:=by
  rw[<-R];exact((DW.refl (λg=>g=b) W).setCell (p:=⟨b,240,none⟩) (.inl rfl) _).setCell (p:=⟨b,239,none⟩) (.inl rfl) _
 have y:=zb F;have M2:=zb m2;have al:=zb R;have HCL:=zb f;have S:=zb l;have D:=zb n;have am:W2.cell? ⟨b,3,none⟩=some (.int .u64 nw):=by rw[<-n];exact F.hd (j:=3) rfl
 have X:W2.cell? ⟨b,238,none⟩=some (.slice N P O):=by rw[<-l,<-k];exact F.tl (j:=5) rfl
 have ao:=λp=>F.fz p
 have I:=zb (And.intro am (And.intro X ao));clear h L r k f l t n u q h1 h2 h3 E h4 h5 F m2 R am X ao;have ap:∀{w:World},DW (λg=>g=b) W w->BR w (.slice (some a) s.length cap) s:=λm=>BR.mod ay.z m (az.z)
 have J:=zb (ap M2.z);clear ap;obtain⟨wv,W3,Dc,ad,m3,aq⟩:=XX W2.drew V.wt P (zp c.waits) (E3 id dl s) (by rw[<-S.z];exact(y.z.mod0 (DW.refl DX W2).drew).wt) (by rw[<-S.z];exact aw);have ae:∀g,Value.blk V.wt=some g->g≠b:=λg hg e=>zg.apart (y.z.twt g hg) (e ▸ y.z.tb) (by decide) rfl
 have ar:AA (Dn tag i b W { c with anyID:=true,lastID:=id,waits:=c.waits++[E3 id dl s] } (W3.setCell ⟨b,238,none⟩ wv)):=by
  have h1:=y.z.waitPush (HT.z.mod M2.z) hi ((DW.refl DX W2).drew) (by rw[S.z];exact ad) m3 aq;exact h1.after HT.z (M2.z.mono (λg hg=>.inl (by rw[hg,y.z.tb])))
 have au:=zb (y.z.left HT.z (M2.z.mono (λg hg=>.inl (by rw[hg,y.z.tb]))));have Y:=m3.cell (a:=⟨b,238,none⟩) (λx=>ae b x rfl) I.z.2.1;have f3:∀p,W3.frozen? ⟨b,p,none⟩=false:=λp=>zf (m3.obj (λx=>ae b x rfl) ((y.z.mod0 (DW.refl DX W2).drew)).obj)
 have Z:=zb (BR.mod J.z (((DW.refl DX W2).drew.mono (λ_ x=>x.elim)).trans m3) (ak.z));have T:=zb (And.intro Y f3);rw[ax.z,S.z]at Dc;obtain⟨aA,aB,av⟩:∃wa wc,wv = .slice wa (P+1) wc:=by
  rcases ad.2 with⟨_,e⟩|⟨g,o,cc,cur,e,_⟩
  ·omega
  ·exact⟨_,_,e⟩
 subst av;have aa:AA (∀ty,(Builtin.append_ #[54,54] ty #[.slice N P O,.slice (some ⟨W2.drew.heap.size,0,none⟩) 1 1]).run prog (W2.drew.alloc (.cells #[.int .i64 7,.int .i64 0,.int .u64 0,.int .u64 0,.int .u64 0,.bool false,.int .u64 id,.int .u64 dl,.string (zq s),.slice none 0 0] 65)) = .ok (.slice aA (P+1) aB) W3):=Dc;clear Dc ad m3 aq ae Y f3;rcases d3 with rfl|⟨rfl,d3⟩
 ·go_enter func124,ntmps124;go_upto_region 10 with fail;all_goals first|(exfalso;omega)|skip
  try rw[al.z]
  obtain⟨w3,af,wf⟩:=I.z;clear c0 c2 c3 M ab ac fz aj;by_cases U:nw<=dl
  ·have d6:(nw:Int)<=dl:=by omega
   have A:Q=c.waits++[E3 id dl s]:=by
    rw[<-C.z,AN (by rw[D.z];exact U)]
   subst A;clear U;go_upto_region 11 with fail;refine zl 14 (λw'=>w'.cell? ⟨b,238,none⟩=some (.slice N P O)/\BR w' (.slice (some a) s.length cap) s) (⟨af,J.z⟩) ?_;refine GI 0 ?_;iterate 8
    refine GV rfl ?_;try simp only[PS]
   refine Gn (i:=8) (v:=.string (zq s)) rfl (by kernel_rfl) (λ_ _ _ h=>h) (Or.inl ⟨by rfl,?_⟩) ?_
   ·(intro wx d;(try dsimp only at d);have aC:=IN d.2;go_simp;try with_reducible rfl)
   try simp only[PS]
   refine Gn (i:=9) (v:=.agg #[.int .i64 7,.int .i64 0,.int .u64 0,.int .u64 0,.int .u64 0,.bool false,.int .u64 id,.int .u64 dl,.string (zq s),.slice none 0 0]) rfl (by kernel_rfl) (λ_ _ _ h=>h) (Or.inl ⟨by rfl,?_⟩) ?_
   ·(intro wx d;(try dsimp only at d);go_simp;try with_reducible rfl)
   try simp only[PS]
   refine zw 10 rfl (λK z=>?_);go_simp;refine z.z _ _ ⟨((DW.refl DX W2.drew).alloc _).cell (a:=⟨b,238,none⟩) (λx=>x) I.z.2.1,BR.mod J.z (((DW.refl DX W2).drew).alloc _) (λ_ _ _ _ _ x=>x)⟩ ?_;clear z K;try simp only[PS]
   refine zw 11 rfl (λK z=>?_);refine zH rfl _ _ _ _ rfl _ _ _ rfl rfl aa.z ?_;refine z.z _ _ ⟨T.z.1,Z.z⟩ ?_;clear z K;try simp only[PS]
   refine GI 12 ?_;iterate 2
    refine GV rfl ?_;try simp only[PS]
   refine zU rfl (λK z=>?_);obtain⟨aD,f3⟩:=T.z;go_simp;refine z.z _ _ ?_;clear z K;try simp only[PS]
   refine zn ?_;go_wp2_with fail;go_ret;exact⟨rfl,ar.z⟩
  ·have d6:¬(nw:Int)<=dl:=by omega
   have A:Q=c.waits:=by
    rw[<-C.z,AH (by rw[D.z];exact U)]
   subst A;clear U;go_wp2_with fail;all_goals first|(exfalso;omega)|skip
   go_ret;exact⟨rfl,au.z⟩
 ·go_enter func124,ntmps124;go_upto_region 10 with fail;all_goals first|(exfalso;omega)|skip
  try rw[al.z]
  obtain⟨w3,af,wf⟩:=I.z;clear c0 c2 c3 M ab ac fz aj;by_cases U:nw<=dl
  ·have d6:(nw:Int)<=dl:=by omega
   have A:Q=c.waits++[E3 id dl s]:=by
    rw[<-C.z,AN (by rw[D.z];exact U)]
   subst A;clear U;go_upto_region 11 with fail;refine zl 14 (λw'=>w'.cell? ⟨b,238,none⟩=some (.slice N P O)/\BR w' (.slice (some a) s.length cap) s) (⟨af,J.z⟩) ?_;refine GI 0 ?_;iterate 8
    refine GV rfl ?_;try simp only[PS]
   refine Gn (i:=8) (v:=.string (zq s)) rfl (by kernel_rfl) (λ_ _ _ h=>h) (Or.inl ⟨by rfl,?_⟩) ?_
   ·(intro wx d;(try dsimp only at d);have aC:=IN d.2;go_simp;try with_reducible rfl)
   try simp only[PS]
   refine Gn (i:=9) (v:=.agg #[.int .i64 7,.int .i64 0,.int .u64 0,.int .u64 0,.int .u64 0,.bool false,.int .u64 id,.int .u64 dl,.string (zq s),.slice none 0 0]) rfl (by kernel_rfl) (λ_ _ _ h=>h) (Or.inl ⟨by rfl,?_⟩) ?_
   ·(intro wx d;(try dsimp only at d);go_simp;try with_reducible rfl)
   try simp only[PS]
   refine zw 10 rfl (λK z=>?_);go_simp;refine z.z _ _ ⟨((DW.refl DX W2.drew).alloc _).cell (a:=⟨b,238,none⟩) (λx=>x) I.z.2.1,BR.mod J.z (((DW.refl DX W2).drew).alloc _) (λ_ _ _ _ _ x=>x)⟩ ?_;clear z K;try simp only[PS]
   refine zw 11 rfl (λK z=>?_);refine zH rfl _ _ _ _ rfl _ _ _ rfl rfl aa.z ?_;refine z.z _ _ ⟨T.z.1,Z.z⟩ ?_;clear z K;try simp only[PS]
   refine GI 12 ?_;iterate 2
    refine GV rfl ?_;try simp only[PS]
   refine zU rfl (λK z=>?_);obtain⟨aD,f3⟩:=T.z;go_simp;refine z.z _ _ ?_;clear z K;try simp only[PS]
   refine zn ?_;go_wp2_with fail;go_ret;exact⟨rfl,ar.z⟩
  ·have d6:¬(nw:Int)<=dl:=by omega
   have A:Q=c.waits:=by
    rw[<-C.z,AH (by rw[D.z];exact U)]
   subst A;clear U;go_wp2_with fail;all_goals first|(exfalso;omega)|skip
   go_ret;exact⟨rfl,au.z⟩
def iu(h:zg tag i b c V W)(E:Dx i tag W)(id dl:Nat)(s:List UInt8)(hm:c.mtu<=65536)(q:s.length<=1099511627776)(r:c.waits.length<=1099511627776):Calls prog 72 #[.pointer (some ⟨b,0,none⟩),.int .u64 id,.int .u64 dl,.string (zq s)] W (EA tag i b W (.int .i64 ((c.datagram id dl s).1:Int)) (c.datagram id dl s).2):=by
 obtain⟨cap,W1,t,a,m1,d,f⟩:=Py W s (by omega);have J:=iw (h.mod0 m1) (E.ok.mod m1) E.pos id dl ⟨W.heap.size,0,none⟩ cap s a (E.ok _ (AG _)) hm q r;have u:s.length<=cap/\cap<=maxLen:=by
  obtain⟨_,_,e,v,n,_⟩:=a;cases e;exact⟨v,n⟩
 obtain⟨hc1,w⟩:=u;unfold maxLen at w;have k:=zb E;have K:=zb m1;have HB:=zb f;have HS:=zb d;clear h E a m1 f d;go_enter func72,ntmps72;go_wp2_with fail;refine J.mono ?_;rintro _ W2 ⟨rfl,y⟩;clear J;obtain⟨tag',V',v,n,z⟩:=_root_.id y;have L:=(k.z.mod0 K.z).left n z;have l:=HB.z.mod z (λx=>by
  have:=k.z.ok W.heap.size (AG _);rw[this]at x;have:=k.z.pos;simp at x;omega)
 have kn:=Js (c.datagram id dl s).1 W2 L.err;have HL:=zb y;have A:=zb l;clear y v n z L l t;go_wp2_with fail;refine kn.mono ?_;rintro _ W3 ⟨rfl,B⟩;have C:=zb (A.z.mod B (λx=>x));have D:=zb (HL.z.then0 B);clear B kn;go_wp2_with fail
 go_loopw [22] (λF wr=>∃j:Nat,j<=s.length/\F = .int .i64 j/\Gm wr W.heap.size s.length/\DW (λg=>g=W.heap.size) W3 wr) (λF _=>s.length-(intOf F).toNat)
 case atStart=>exact⟨0,AL _,rfl,C.z,DW.refl _ _⟩
 case round =>
  obtain⟨j,hj,rfl,o,m⟩:=hrel;by_cases G:j<s.length
  ·obtain⟨⟨v0,e0⟩,z0⟩:=o.cell G;have I:=zb (o.set j (.int .u8 33));have HM:=zb (m.setCell (p:=⟨W.heap.size,j,none⟩) (.inl rfl) (.int .u8 33));clear o m;go_wp2_with fail;go_roundw
   case rel=>exact⟨j+1,by omega,by go_num,I.z,HM.z⟩
   case measure=>simp[intOf];omega
  ·have H:=zb (D.z.thenS k.z.ok k.z.pos K.z m (λg hg=>by
    have hg:=hg;have:=HS.z;omega))
   clear o m;go_wp2_with fail;go_ret;exact⟨rfl,H.z⟩
def Vu(w:World):OB (w.alloc (.cells #[] 5)) (.slice (some ⟨w.heap.size,0,none⟩) 0 0) []:=by
 refine⟨rfl,.inr ⟨w.heap.size,0,#[],rfl,AL _,heap_alloc_new w _,AG _,AL _,by simp,by simp[zR]⟩⟩
def JQ(l:List UInt8)(w:World)(e:Ending)(w':World):Prop:=∃v',e = .returned v'/\OB w' v' l/\DW DX w w'/\∀g,v'.ownBlock=some g->w.heap.size<=g
theorem Yz(v:Value)(l:List UInt8)(w:World)(h:BR w v l)(hl:l.length<=1099511627776):Calls prog 92 #[v] w (JQ l w):=by
 obtain⟨a,cap,rfl,h1,h2,h3⟩:=id h;cases a with
 | none =>
  have d:l=[]:=by
   cases l with
   | nil=>rfl
   | cons x l =>
    obtain⟨g,o,e,_⟩:=h3 0 x rfl;cases e
  subst d;have q1:=_root_.Go.run_eql_slice_nil w 60 _ none 0 cap (P:=prog) underlying60;clear h h1 h2 h3;go_enter func92,ntmps92;go_wp2_with fail;go_ret;exact⟨_,rfl,OB.nil _,DW.refl _ _,λg hg=>by cases hg⟩
 | some a =>
  obtain⟨W1,b⟩:=nm (w.alloc (.cells #[] 5));have m1:=AB b
  have f:OB W1 (.slice (some ⟨w.heap.size,0,none⟩) 0 0) []:=by rw[<-b];exact Vu w
  obtain⟨v',w',Dc,c⟩:=Ox W1 (.slice (some ⟨w.heap.size,0,none⟩) 0 0) [] a cap l f (BR.mod h m1 (λ_ _ _ _ _ x=>x)) (by simp;omega);have H:AA (JQ l w (.returned v') w'):=zb ⟨v',rfl,c.own,((m1.mono (λ_ x=>x.elim)).then ((DW.refl (λg=>(Value.slice (some ⟨w.heap.size,0,none⟩) 0 0).ownBlock=some g) W1).grown c.grown (λg hg=>.inl hg)) (λg hg=>.inr (by
   simp[Value.ownBlock]at hg;omega))),λg hg=>by
    rcases c.at_ g hg with x|x
    ·simp[Value.ownBlock]at x;omega
    ·have:=m1.size;omega⟩
  have q1:=_root_.Go.run_eql_slice_nil w 60 _ (some a) l.length cap (P:=prog) underlying60;clear h h1 h2 h3 m1 f c;go_enter func92,ntmps92;go_wp2_with (at_builtin;refine zm rfl _ _ _ _ rfl _ _ _ rfl rfl Dc ?_);go_ret;exact H.z
def Nm(tag:Nat->Nat×Nat)(i b:Nat)(W:World)(l:List (Nat×List UInt8))(c':CS)(e:Ending)(W':World):Prop :=
 ∃v V',e = .returned v/\W'.ownsRow 0 154 2 v l.length (En l)/\(∀g,v.ownBlock=some g->tag g=(i,8))/\zg tag i b c' V' W'/\V'.cm = .slice none 0 0/\DW (λg=>g=b) W W'
def eN(h:zg tag i b c V W):Calls prog 67 #[.pointer (some ⟨b,0,none⟩)] W (Nm tag i b W c.datagramsOut.1 c.datagramsOut.2):=by
 have d:W.cell? ⟨b,243,none⟩=some V.cm:=h.tl (j:=10) rfl;have fz:=h.fz 243;obtain⟨a,cap,e,_⟩:=zi h.cm;have m:DW (λg=>g=b) W (W.setCell ⟨b,243,none⟩ (.slice none 0 0)):=(DW.refl (λg=>g=b) W).setCell (p:=⟨b,243,none⟩) (.inl rfl) _;have H:AA (Nm tag i b W c.datagramsOut.1 c.datagramsOut.2 (.returned V.cm) (W.setCell ⟨b,243,none⟩ (.slice none 0 0))):=by
  refine zb ⟨V.cm,{ V with cm:=.slice none 0 0 },rfl,m.owns h.cm (λg hg x=>zg.apart (h.tcm g hg) (x ▸ h.tb) (by decide) rfl),h.tcm,?_,rfl,m⟩;refine h.build (R:=λr=>r=1) m (λg hg=>⟨1,rfl,by rw[hg,h.tb]⟩) (λ_ _=>rfl) ?_ (.inl ⟨rfl,rfl,rfl,by omega,by omega⟩) (λk hk=>.inl ⟨rfl,rfl,by omega⟩) (λk hk=>.inl ⟨rfl,rfl,by omega⟩) (λk hk=>.inl ⟨rfl,rfl,by omega⟩) (λk hk=>.inl ⟨rfl,rfl,by omega⟩) (λk hk=>.inl ⟨rfl,rfl,by omega⟩) (.inl ⟨rfl,rfl,rfl,by omega,by omega⟩) (.inl ⟨rfl,rfl,by omega⟩) (.inl ⟨rfl,rfl,by omega⟩) (.inr ⟨World.ownsRow_nil _ 0 _ 2,λg hg=>by simp[Value.ownBlock]at hg⟩);rw[zc h.obj,Ap];rw[show(243:Nat)=233+10 from rfl,zX c c.datagramsOut.2 V { V with cm:=.slice none 0 0 } _ rfl rfl rfl rfl]
 rw[e]at d H;clear h m e;go_enter func67,ntmps67;go_wp2_with fail;go_ret;exact H.z
structure LF(x:RS):Prop where
 len:x.b.length<=1099511627776
 lo:x.read<=(Dk x.came.rs x.read x.high).1
 hi:(Dk x.came.rs x.read x.high).1<=x.b.length
 top:∀k,k<x.came.rs.length->DY x.came.rs k<9223372036854775808
 rl:x.came.rs.length<=1099511627776
 keep:x.keep<=zB
 fin:x.fin<=zB
def LF.to{x:RS}(h:LF x)(most:Nat):x.read<=x.readTo most/\x.readTo most<=x.b.length:=by
 have a:=h.lo;have b:=h.hi;unfold RS.readTo;split<;>omega
def LE(tag:Nat->Nat×Nat)(i b:Nat)(W:World)(s:List UInt8)(st er:Nat)(c':CS)(e:Ending)(W':World):Prop :=
 ∃bv,e = .returned (.tuple #[bv,.int .i64 st,EC er])/\OB W' bv s/\(∀g,bv.ownBlock=some g->W.heap.size<=g)/\∃V',zg tag i b c' V' W'/\DW (λg=>g=b) W W'
def zg.camR(h:zg tag i b c V W)(hk:k<8)(hl:(c.rs k).came.rs.length<=1099511627776):ET W b (129+13*k+1) (V.rc k) (c.rs k).came.rs (c.rs k).came.fl (c.rs k).came.most :=
 ⟨h.r (j:=1) hk rfl,h.r (j:=2) hk rfl,h.r (j:=3) hk rfl,h.rc k hk,hl,λj=>h.fz j⟩
def Yy(h:zg tag i b c V W)(k most:Int)(hm:most<=9223372036854775807)(ok:∀k,k<8->LF (c.rs k)):Calls prog 52 #[.pointer (some ⟨b,0,none⟩),.int .i64 k,.int .i64 most] W (LE tag i b W (c.read k most).1.1 (c.read k most).1.2.1 (c.read k most).1.2.2 (c.read k most).2):=by
 have ks:=Nv h k;unfold CS.read;by_cases A:c.stream k=0;rotate_left
 ·obtain⟨n,Y⟩:=nm (c.stream k);have H0:AA (LE tag i b W [] 0 n c (.returned (.tuple #[.slice none 0 0,.int .i64 0,EC n])) W):=zb ⟨_,rfl,OB.nil _,λg hg=>by simp[Value.ownBlock]at hg,V,h,DW.refl _ _⟩;rw[Y]at ks A;simp only[Y,A,ne_eq,As,A5];rw[Ie A]at ks H0;clear h Y A ok;go_enter func52,ntmps52;go_wp2_with (go_at_call 90;refine ks.mono ?_;rintro _ _ ⟨rfl,rfl⟩);go_ret3;exact H0.z
 obtain⟨k0,k8,-⟩:=LW A;obtain⟨q,rfl⟩:∃q:Nat,k=(q:Int):=⟨k.toNat,by omega⟩;have y:q<8:=by omega
 rw[A]at ks;simp only[A,Ao,ne_eq,CC,BY];have HH:=zb h;have d:=ok q y;obtain⟨x,hx⟩:=nm (c.rs q);have HX:=zb hx;have I:W.cell? ⟨b,129+q*13,none⟩=some (V.rb q):=by rw[AK];exact h.r (j:=0) y rfl
 obtain⟨ra,rc,ab,_⟩:=zi (h.rb q y);rw[ab]at I;have r4:W.cell? ⟨b,129+q*13+4,none⟩=some (.int .u64 ((c.rs q).high:Int)):=by rw[AK];exact h.r (j:=4) y rfl
 have r5:W.cell? ⟨b,129+q*13+5,none⟩=some (.int .u64 ((c.rs q).fin:Int)):=by rw[AK];exact h.r (j:=5) y rfl
 have r6:W.cell? ⟨b,129+q*13+6,none⟩=some (.bool (c.rs q).ended):=by rw[AK];exact h.r (j:=6) y rfl
 have r7:W.cell? ⟨b,129+q*13+7,none⟩=some (.bool (c.rs q).cut):=by rw[AK];exact h.r (j:=7) y rfl
 have r8:W.cell? ⟨b,129+q*13+8,none⟩=some (.int .u64 ((c.rs q).keep:Int)):=by rw[AK];exact h.r (j:=8) y rfl
 have B:W.cell? ⟨b,129+q*13+9,none⟩=some (.int .u64 ((c.rs q).read:Int)):=by rw[AK];exact h.r (j:=9) y rfl
 have J:W.cell? ⟨b,129+q*13+10,none⟩=some (.int .i64 ((c.rs q).state:Int)):=by rw[AK];exact h.r (j:=10) y rfl
 have kg:=O7 (c.rs q).came.rs (c.rs q).came.fl (c.rs q).came.most b (129+13*q+1) (c.rs q).read (c.rs q).high (V.rc q) W.drew ((h.mod0 (DW.refl DX W).drew).camR y d.rl) (by have:=d.lo;have:=d.hi;have:=d.len;omega) d.top;rw[AK 13 q]at kg;have C:=d.to most.toNat;have D:=(h.rb q y).br;rw[ab]at D;rw[hx]at I r4 r5 r6 r7 r8 B J d kg C D ⊢;have d1:(q:Int)<8:=by omega
 have d0:(0:Int)<=q:=by omega
 by_cases F:x.state=0;rotate_left
 ·rw[AN F];have d2:((x.state:Int)==0)=false:=AR.2 (by omega);have H0:AA (∀W',DW DX W W'->LE tag i b W [] x.state 0 c (.returned (.tuple #[.slice none 0 0,.int .i64 x.state,EC 0])) W'):=zb λW' m=>⟨_,rfl,OB.nil _,λg hg=>by simp[Value.ownBlock]at hg,V,h.mod0 m,m.mono (λ_ x=>x.elim)⟩
  clear h A ok d kg C D F hx I r4 r5 r6 r7 r8 B;go_enter func52,ntmps52;go_upto_region 6 with(go_at_call 90;refine ks.mono ?_;rintro _ _ ⟨rfl,rfl⟩;unfold EC;simp only[A5]);go_quiet (fail);go_wp2_with fail;go_ret3;exact H0.z _ ((DW.refl DX W).drewN _)
 rw[AH (by simpa using F)];rw[F]at J;have ak:=zb F;obtain⟨E,hE⟩:=nm (x.readTo most.toNat);obtain⟨ST,l⟩:=nm (x.stateAt E);rw[hE]at C;rw[hE,l];obtain⟨s,ac⟩:=nm ((x.b.drop x.read).take (E-x.read));rw[ac];have az:=zb ac;clear ac;have HE:=zb hE;have HST:=zb l;have HR:=zb d;obtain⟨hi,ad⟩:=nm x.high;obtain⟨fn,ae⟩:=nm x.fin;obtain⟨en,af⟩:=nm x.ended;obtain⟨cu,S⟩:=nm x.cut;obtain⟨kp,T⟩:=nm x.keep;obtain⟨rd,L⟩:=nm x.read;obtain⟨lo,ah⟩:=nm ((Dk x.came.rs x.read x.high).1);obtain⟨N,hN⟩:=nm x.b.length;have b1:=d.lo;have b2:=d.hi;have b3:=d.len;have b4:=d.keep;have b5:=d.fin;unfold zB at b4 b5;rw[ah]at b1 b2 kg;rw[hN]at b2 b3 C I D;rw[L]at b1 C B;rw[ad]at r4;rw[ae]at r5 b5;rw[af]at r6;rw[S]at r7;rw[T]at r8 b4;rw[L,ad]at kg;have U:AA (E=if cu then max rd (min (min lo (rd+most.toNat)) kp)else min lo (rd+most.toNat)):=by
  show _=_;rw[<-hE,RS.readTo,S,ah,T,L]
 have O:AA (ST=if cu&&decide (kp<=E)then 2 else if !cu&&en&&E==fn then 1 else 0):=by
  show _=_;rw[<-l,RS.stateAt,S,af,T,ae]
 have aA:=zb L;have HN:=zb hN;have KG:=zb kg;have al:=zb D;have fz:=λp=>h.fz p
 clear h A ok d kg F hx hE l ad ae af S T L ah hN D ab;have aB:=zb I;have aC:=zb r5;have aD:=zb r6;have aE:=zb r7;have aF:=zb r8;have am:=zb B;have an:=zb J;go_enter func52,ntmps52;go_upto_region 7 with(go_at_call 90;refine ks.mono ?_;rintro _ _ ⟨rfl,rfl⟩;unfold EC;simp only[A5]);refine zl 17 (λw'=>w'.cell? ⟨b,129+q*13+9,none⟩=some (.int .u64 rd)/\w'.cell? ⟨b,129+q*13+4,none⟩=some (.int .u64 hi)) (⟨B,r4⟩) ?_;refine GI 0 ?_;iterate 11
  refine GV rfl ?_;try simp only[PS]
 refine zw 11 rfl (λK hK=>?_);go_simp;refine KG.z.mono ?_;rintro _ W2 ⟨rfl,t⟩;have t:=(DW.refl DX W).drew.trans t;refine hK.z _ _ ⟨t.cell (a:=⟨b,_,none⟩) id B,t.cell (a:=⟨b,_,none⟩) id r4⟩ ?_;clear hK K;try simp only[PS]
 refine GI 12 ?_;iterate 5
  refine GV rfl ?_;try simp only[PS]
 refine zn ?_;have q0:=t.cell (a:=⟨b,_,none⟩) id I;have q5:=t.cell (a:=⟨b,_,none⟩) id r5;have q6:=t.cell (a:=⟨b,_,none⟩) id r6;have q7:=t.cell (a:=⟨b,_,none⟩) id r7;have q8:=t.cell (a:=⟨b,_,none⟩) id r8;have q9:=t.cell (a:=⟨b,_,none⟩) id B;have aG:=t.cell (a:=⟨b,_,none⟩) id J;have M2:=zb t;clear I r4 r5 r6 r7 r8 B J KG t fz;obtain⟨M,hM⟩:=nm most.toNat;rw[hM]at U;have Q:((M:Int)=most/\0<=most)\/(M=0/\most<0):=by omega
 obtain⟨e0,ai⟩:=nm (min lo (rd+M));have ao:=zb ai;have x1:IntKind.u64.wrap (M:Int)=(M:Int):=by rw[IntKind.wrap_u64];omega
 have x2:=wu ((rd:Int)+M) (by omega);have x5:IntKind.u64.wrap 0=0:=by rw[IntKind.wrap_u64];rfl
 have x6:IntKind.u64.wrap (rd:Int)=(rd:Int):=by rw[IntKind.wrap_u64];omega
 have x3:IntKind.u64.wrap most=most\/most<0:=by rw[IntKind.wrap_u64];omega
 have x4:IntKind.u64.wrap ((rd:Int)+most)=(rd:Int)+most\/most<0:=by rw[IntKind.wrap_u64];omega
 rw[ai]at U;clear hM ai;go_upto_region 8 with fail
 go_cut [13] (λev P=>ev = .int .u64 e0/\P=W2)
 case first=>as_aux_lemma =>
  rcases Q with⟨Q,aO⟩|⟨Q,aP⟩
  ·subst Q;clear x3 x4;go_wp2_with fail;all_goals first|(exfalso;omega)|skip
   all_goals
    go_meet;have h2:=ao.z;exact⟨by congr 1;omega,rfl⟩
  ·subst Q;go_wp2_with fail;all_goals first|(exfalso;omega)|skip
   all_goals
    go_meet;have h2:=ao.z;exact⟨by congr 1;omega,rfl⟩
 case rest =>
 obtain⟨rfl,hw⟩:=hcut;have hw:=hw.symm;subst hw;clear x1 x2 x3 x4 x5 x6;go_upto_if 63 with fail
 go_cut [13] (λev P=>ev = .int .u64 E/\AA (DW DX W P))
 case first=>as_aux_lemma =>
  cases cu
  ·have h2:E=e0:=U.z;subst h2;go_wp2_with fail;go_meet;exact⟨rfl,M2⟩
  ·go_upto_region 10 with fail;go_quiet (fail);go_wp2_with fail;all_goals
    go_meet;have h2:E=max rd (min e0 kp):=U.z;exact⟨by congr 1;omega,zb (M2.z.drewN _)⟩
 case rest =>
 obtain⟨rfl,M3⟩:=hcut;obtain⟨R,aH⟩:=nn wc;subst aH;have A:(x.b.drop rd).take (E-rd)=s:=by
  rw[<-aA.z];exact az.z
 have ap:s.length=E-rd:=by
  rw[<-A,AS,Ad,HN.z];omega
 have c3:=HH.z.mod0 M3.z;have I:=M3.z.cell (a:=⟨b,_,none⟩) id aB.z;have B:=M3.z.cell (a:=⟨b,_,none⟩) id am.z;have z:=BR.mod al.z (M3.z.drew) (λ_ _ _ _ _ x=>x);have aq:N<=rc/\rc<=9223372036854775807:=by
  obtain⟨a',c',e,q1,q2,_⟩:=z;cases e;rw[HN.z]at q1;unfold maxLen at q2;exact⟨q1,by omega⟩
 obtain⟨aI,aJ⟩:=aq;have Z:∀v,v = .slice (ra.map λx=>x.add rd) (E-rd) (rc-rd)->BR R.drew v s:=by
  rintro v rfl;rw[<-A];rw[<-HN.z]at z;exact z.sub (by rw[HN.z];omega)
 have ar:BR R.drew (.slice (if rc=rd then ra else ra.map λx=>x.add rd) (E-rd) (rc-rd)) s:=by
  by_cases e:rc=rd
  ·rw[AN e];have:s=[]:=Ah (by omega);rw[this,show E-rd=0 by omega,show rc-rd=0 by omega];exact BR.nil _ ra 0 (by unfold maxLen;omega)
  ·rw[AH e];exact Z _ rfl
 have au:=λv hv=>Yz v s R.drew hv (by omega)
 have av:AA (∀W4,DW DX R.drew W4->∀bv,OB W4 bv s->(∀g,bv.ownBlock=some g->R.heap.size<=g) ->
   (ST=0->∀W',DW DX (W4.setCell ⟨b,129+q*13+9,none⟩ (.int .u64 E)) W'->LE tag i b W s ST 0 { c with rs:=upd c.rs q { x with read:=E,state:=ST } } (.returned (.tuple #[if s=[]then .slice none 0 0 else bv,.int .i64 ST,.nilIface])) W') /\
   (∀W5,DW DX (W4.setCell ⟨b,129+q*13+9,none⟩ (.int .u64 E)) W5->∀W',DW DX (W5.setCell ⟨b,129+q*13+10,none⟩ (.int .i64 ST)) W'->LE tag i b W s ST 0 { c with rs:=upd c.rs q { x with read:=E,state:=ST } } (.returned (.tuple #[if s=[]then .slice none 0 0 else bv,.int .i64 ST,.nilIface])) W')):=by
  intro W4 m4 bv ho Y;have c0:zg tag i b { c with rs:=upd c.rs q x } V R:=by
   rw[<-HX.z,Fj];exact c3
  have aw:=ak.z;have c4:=(c0.mod0 (DW.refl DX R).drew).mod0 m4;have c5:=c4.storeR2 y 9 (by decide) (.int .u64 E) { x with read:=E } rfl rfl rfl;rw[AK 13 q]at c5;have m5:=λW4 p v=>(DW.refl (λg=>g=b) W4).setCell (p:=⟨b,p,none⟩) (.inl rfl) v
  have mm:=(M3.z.drew).trans m4;have aK:∀g,bv.ownBlock=some g->¬(g=b):=λg hg e=>by
   have h1:=Y g hg;have h2:=zk B;omega
  have hsz:=M3.z.size;have aa:∀W',zg tag i b { c with rs:=upd c.rs q { x with read:=E,state:=ST } } V W'->DW (λg=>g=b) W4 W'->LE tag i b W s ST 0 { c with rs:=upd c.rs q { x with read:=E,state:=ST } } (.returned (.tuple #[if s=[]then .slice none 0 0 else bv,.int .i64 ST,.nilIface])) W':=by
   intro W' hc hm;refine⟨_,rfl,?_,?_,V,hc,(mm.mono (λ_ x=>x.elim)).trans hm⟩
   ·split
    ·rename_i e;rw[e];exact OB.nil _
    ·exact hm.owns ho aK
   ·intro g hg;split at hg
    ·simp[Value.ownBlock]at hg
    ·have:=Y g hg;omega
  refine⟨λe W' m=>?_,λW5 ma W' m=>?_⟩
  ·have:({ x with read:=E,state:=ST }:RS)={ x with read:=E }:=by
    rw[e,<-aw]
   refine aa W' ?_ ((m5 _ _ _).trans (m.mono (λ_ x=>x.elim)));rw[this];exact c5.mod0 m
  ·have c6:=(c5.mod0 ma).storeR2 y 10 (by decide) (.int .i64 ST) { x with read:=E,state:=ST } rfl rfl rfl;rw[AK 13 q]at c6;exact aa W' (c6.mod0 m) (((m5 _ _ _).trans (ma.mono (λ_ x=>x.elim))).trans ((m5 _ _ _).trans (m.mono (λ_ x=>x.elim))))
 have ax:=zb ar;have ay:=zb au;have aL:=zb ap;have z9:∀W4,DW DX R.drew W4->AA ((∀p,W4.frozen? ⟨b,p,none⟩=false)/\(∀p v p',(W4.setCell ⟨b,p,none⟩ v).frozen? ⟨b,p',none⟩=false)/\W4.cell? ⟨b,129+q*13+9,none⟩=some (.int .u64 rd)/\W4.cell? ⟨b,129+q*13+7,none⟩=some (.bool cu)/\W4.cell? ⟨b,129+q*13+8,none⟩=some (.int .u64 kp)/\W4.cell? ⟨b,129+q*13+6,none⟩=some (.bool en)/\W4.cell? ⟨b,129+q*13+5,none⟩=some (.int .u64 fn)/\W4.cell? ⟨b,129+q*13+10,none⟩=some (.int .i64 0)):=λW4 m4=>by
  have mm:=((DW.refl DX R).drew).trans m4;have t:=M3.z.trans mm;have co:=(HH.z.mod0 t).obj;exact zb ⟨λp=>zf co,λp v p'=>zf (zc co),t.cell (a:=⟨b,_,none⟩) id am.z,t.cell (a:=⟨b,_,none⟩) id aE.z,t.cell (a:=⟨b,_,none⟩) id aF.z,t.cell (a:=⟨b,_,none⟩) id aD.z,t.cell (a:=⟨b,_,none⟩) id aC.z,t.cell (a:=⟨b,_,none⟩) id an.z⟩
 have Z9:=zb z9;have dE0:(rd:Int)<=E:=by omega
 have dE1:(E:Int)<=rc:=by omega
 have nE0:=C.1;have nE1:E<=rc:=by omega
 clear c3 A ap z Z ar au z9 q0 q5 q6 q7 q8 q9 aG;go_upto_region 11 with fail
 go_cut [14] (λbv P=>∃bw:Option Addr×Nat,bv = .slice bw.1 s.length bw.2/\AA (DW DX R.drew P/\OB P (.slice bw.1 s.length bw.2) s/\∀g,(Value.slice bw.1 s.length bw.2).ownBlock=some g->R.heap.size<=g))
 case first =>
  refine zl 12 (λw'=>w'.cell? ⟨b,129+q*13,none⟩=some (.slice ra N rc)/\w'.cell? ⟨b,129+q*13+9,none⟩=some (.int .u64 rd)) (⟨I,B⟩) ?_;refine GI 0 ?_;iterate 9
   refine GV rfl ?_;try simp only[PS]
  refine Gn (i:=9) (v:=.slice (if rc=rd then ra else ra.map λx=>x.add rd) (E-rd) (rc-rd)) rfl (by kernel_rfl) (λ_ _ _ h=>h) (Or.inl ⟨by rfl,?_⟩) ?_
  ·(intro P u;obtain⟨f0,f9⟩:=u;go_simp;try with_reducible rfl)
  try simp only[PS]
  refine zw 10 rfl (λK hK=>?_);go_simp;refine(ay.z _ (ax.z)).mono ?_;rintro e W4 ⟨v',rfl,ho,m4,Y⟩;obtain⟨aM,aN,rfl,_⟩:=zi ho;refine hK.z _ _ ⟨m4.cell (a:=⟨b,_,none⟩) id I,m4.cell (a:=⟨b,_,none⟩) id B⟩ ?_;clear hK K;try simp only[PS]
  refine GI 11 ?_;refine GV rfl ?_;try simp only[PS]
  refine zn ?_;go_wp2_with fail;all_goals
   go_meet;exact⟨(aM,aN),rfl,zb ⟨m4,ho,Y⟩⟩
 case rest =>
 obtain⟨⟨ba,bc⟩,rfl,HB⟩:=hcut;obtain⟨z1,z2,y9,y7,y8,y6,y5,y10⟩:=(Z9.z wc HB.z.1).z;have o:=zb (av.z wc HB.z.1 _ HB.z.2.1 HB.z.2.2);obtain⟨H,G⟩:=nm s.length;have aQ:=zb G;have hz:AA ((if s=[]then Value.slice none 0 0 else .slice ba H bc)=if H=0 then .slice none 0 0 else .slice ba H bc):=by
  show _=_;by_cases h:s=[]
  ·have h2:H=0:=by rw[<-G,h];rfl
   rw[AN h,AN h2]
  ·have h2:H≠0:=λe=>h (Ah (by rw[G,e]))
   rw[AH h,AH h2]
 rw[G]at o;rw[hz.z]at o;rw[G];clear ax ay aL Z9 av I B HB G hz HR al;have f:H=0\/H≠0:=by omega
 go_upto_region 13 with fail;cases cu
 ·cases en
  ·have l:ST=0:=O.z;subst l;go_quiet (fail);go_upto_region 15 with fail;go_quiet (fail);have w:=zb (o.z.1 rfl);clear o;rcases f with rfl|f
   ·go_wp2_with fail;go_quiet (fail);go_wp2_with fail;go_ret3;exact w.z _ (by repeat (first|exact DW.refl _ _|refine DW.drewN ?_ _))
   ·have dz:((H:Int)==0)=false:=AR.2 (by omega);rw[AH f]at w;go_wp2_with fail;go_quiet (fail);go_wp2_with fail;go_ret3;exact w.z _ (by repeat (first|exact DW.refl _ _|refine DW.drewN ?_ _))
  ·by_cases aj:E=fn
   ·have l:ST=1:=by
     have:=O.z;simp[aj]at this;exact this
    subst l;subst aj;go_quiet (fail);go_upto_region 15 with fail;go_quiet (fail);have w:=zb (o.z.2);clear o;rcases f with rfl|f
    ·go_wp2_with fail;go_quiet (fail);go_wp2_with fail;go_ret3;exact w.z _ ((DW.refl DX _).drewN _) _ ((DW.refl DX _).drewN _)
    ·have dz:((H:Int)==0)=false:=AR.2 (by omega);rw[AH f]at w;go_wp2_with fail;go_quiet (fail);go_wp2_with fail;go_ret3;exact w.z _ ((DW.refl DX _).drewN _) _ ((DW.refl DX _).drewN _)
   ·have l:ST=0:=by
     have:=O.z;simp[aj]at this;exact this
    subst l;have dE:((E:Int)==(fn:Int))=false:=AR.2 (by omega);go_quiet (fail);go_upto_region 15 with fail;go_quiet (fail);have w:=zb (o.z.1 rfl);clear o;rcases f with rfl|f
    ·go_wp2_with fail;go_quiet (fail);go_wp2_with fail;go_ret3;exact w.z _ (by repeat (first|exact DW.refl _ _|refine DW.drewN ?_ _))
    ·have dz:((H:Int)==0)=false:=AR.2 (by omega);rw[AH f]at w;go_wp2_with fail;go_quiet (fail);go_wp2_with fail;go_ret3;exact w.z _ (by repeat (first|exact DW.refl _ _|refine DW.drewN ?_ _))
 ·by_cases X:kp<=E
  ·have l:ST=2:=by
    have:=O.z;simp[X]at this;exact this
   subst l;have dE:decide (kp<=E)=true:=by simp[X]
   go_quiet (fail);have w:=zb (o.z.2);clear o;rcases f with rfl|f
   ·go_wp2_with fail;go_quiet (fail);go_wp2_with fail;go_ret3;exact w.z _ ((DW.refl DX _).drewN _) _ ((DW.refl DX _).drewN _)
   ·have dz:((H:Int)==0)=false:=AR.2 (by omega);rw[AH f]at w;go_wp2_with fail;go_quiet (fail);go_wp2_with fail;go_ret3;exact w.z _ ((DW.refl DX _).drewN _) _ ((DW.refl DX _).drewN _)
  ·have l:ST=0:=by
    have:=O.z;simp[X]at this;exact this
   subst l;have dE:decide (kp<=E)=false:=by simp[X]
   go_quiet (fail);go_upto_region 15 with fail;go_quiet (fail);have w:=zb (o.z.1 rfl);clear o;rcases f with rfl|f
   ·go_wp2_with fail;go_quiet (fail);go_wp2_with fail;go_ret3;exact w.z _ (by repeat (first|exact DW.refl _ _|refine DW.drewN ?_ _))
   ·have dz:((H:Int)==0)=false:=AR.2 (by omega);rw[AH f]at w;go_wp2_with fail;go_quiet (fail);go_wp2_with fail;go_ret3;exact w.z _ (by repeat (first|exact DW.refl _ _|refine DW.drewN ?_ _))
def F9(w:World)(g n:Nat):Prop:=∃cs t,w.heap[g]?=some (.cells cs t (0,0))/\n<=cs.size
variable{j:Nat}
def F9.cell{n:Nat}(h:F9 w g n)(hj:j<n):(∃v,w.cell? ⟨g,j,none⟩=some v)/\w.frozen? ⟨g,j,none⟩=false:=by
 obtain⟨cs,t,h1,h2⟩:=h;exact⟨⟨cs[j],za h1 (by simp[show j<cs.size by omega])⟩,zf h1⟩
def F9.set{n:Nat}(h:F9 w g n)(j:Nat)(v:Value):F9 (w.setCell ⟨g,j,none⟩ v) g n:=by
 obtain⟨cs,t,h1,h2⟩:=h;exact⟨_,t,zc h1,by simpa using h2⟩
def F9.mod{n:Nat}(h:F9 w g n)(m:DW S w w')(hs:¬S g):F9 w' g n:=by
 obtain⟨cs,t,h1,h2⟩:=h;exact⟨cs,t,m.obj hs h1,h2⟩
variable{l:List UInt8}
def OB.open_{n:Nat}(h:OB w (.slice (some ⟨g,0,none⟩) n cap) l):F9 w g l.length:=by
 rcases h.2 with⟨e,_⟩|⟨g',b,a,e,_,h1,h2,h3,h4,h5⟩
 ·cases e
 ·cases e;exact⟨a,_,h1,by omega⟩
def Yx(h:zg tag i b c V W)(E:Dx i tag W)(k most:Int)(hm:most<=9223372036854775807)(ok:∀k,k<8->LF (c.rs k))(hl:(c.read k most).1.1.length<=1099511627776):Calls prog 29 #[.pointer (some ⟨b,0,none⟩),.int .i64 k,.int .i64 most] W (EA tag i b W (.tuple #[.string (zq (c.read k most).1.1),.int .i64 ((c.read k most).1.2.1:Int),.int .i64 ((c.read k most).1.2.2:Int)]) (c.read k most).2):=by
 have y:=Yy h k most hm ok;obtain⟨R,T⟩:=nm (c.read k most);rw[T]at y hl ⊢;obtain⟨⟨s,st,er⟩,c'⟩:=R;simp only at y hl ⊢;have d:=zb E;have B:=zb h;have U:=zb y;clear h E ok y T;go_enter func29,ntmps29;go_wp2_with fail;refine(U.z).mono ?_;rintro _ W2 ⟨bv,rfl,a,l,V',h2,z⟩;clear U;obtain⟨m,sc,rfl,C,D,n⟩:=zi a;unfold maxLen at D;obtain⟨N,F⟩:=nm s.length;have hcv:(convert 60 9 (.slice m N sc)).run prog W2 = .ok (.string (zq s)) W2:=by
  have:=IN (OB.br a);rw[F]at this;exact this
 have X:=d.z.mod z (λg hg=>.inl (by
  have hg:=hg;rw[hg,B.z.tb];have:=d.z.pos;simp;omega))
 have Y:=h2.left d.z.ok (B.z.modb z);have o:EC er = .nilIface\/∃t u,EC er = .iface t u:=by
  unfold EC;split
  ·exact .inl rfl
  ·exact .inr ⟨_,_,rfl⟩
 have q:∀g,m=some ⟨g,0,none⟩->F9 W2 g N:=λg hg=>by
  subst hg;rw[<-F];exact a.open_
 have r:∀g,m=some ⟨g,0,none⟩->W.heap.size<=g:=λg hg=>by
  subst hg;exact l g rfl
 rw[F]at C n hl ⊢;have HL:=zb Y;have G:=zb X;have H:=zb q;have e:=zb r;have H2:=zb h2;have M2:=zb z;have I:AA (EC er=EC er):=zb rfl;obtain⟨ev,f⟩:=nm (EC er);have J:=zb f;rw[f]at o ⊢;clear a l h2 z X Y q r f I;rcases o with rfl|⟨et,eu,rfl⟩;all_goals
  go_wp2_with fail
  go_loopw [26] (λK wr=>∃j:Nat,j<=N/\K = .int .i64 j/\AA (∀g,m=some ⟨g,0,none⟩->F9 wr g N)/\AA (DW (λg=>m=some ⟨g,0,none⟩) W2 wr)) (λK _=>N-(intOf K).toNat)
  case atStart=>exact⟨0,AL _,rfl,H,zb (DW.refl _ _)⟩
  case round =>
   obtain⟨j,hj,rfl,Z,A⟩:=hrel;by_cases L:j<N
   ·obtain⟨g,hg⟩:=n (by omega);subst hg;obtain⟨⟨v0,e0⟩,z0⟩:=(Z.z g rfl).cell L;have M:AA (∀g',some (⟨g,0,none⟩:Addr)=some ⟨g',0,none⟩->F9 (wr.setCell ⟨g,j,none⟩ (.int .u8 33)) g' N):=zb (λg' O=>by
     cases O;exact(Z.z g rfl).set j _)
    have P:=zb (A.z.setCell (p:=⟨g,j,none⟩) (.inl rfl) (.int .u8 33));go_wp2_with fail;go_roundw
    case rel=>exact⟨j+1,by omega,by go_num,M,P⟩
    case measure=>simp[intOf];omega
   ·have Q:=Js er wr (G.z.err.mod A.z (λx=>by
     have h5:=e.z 0 x;have:=d.z.tab.lt;omega))
    rw[J.z]at Q;have KT:=zb Q;clear Q;go_wp2_with fail;refine(KT.z).mono ?_;rintro _ W4 ⟨rfl,S⟩;have v:=(H2.z.mod A.z (λg hg=>by
     rw[d.z.ok g (e.z g hg)];have:=d.z.pos;simp;omega) (λ_ _=>rfl)).mod0 S
    have w:=(M2.z.then A.z (λg hg=>.inr (e.z g hg))).trans (S.mono (λ_ x=>x.elim));have H4:=zb (v.left d.z.ok (B.z.modb w));clear S v w;go_wp2_with fail;go_ret3;exact⟨rfl,H4.z⟩
def Jm(b o:Nat)(w:World):Nat:=match w.cell? ⟨b,o,none⟩with|some (.slice _ n _)=>n|_=>0
def Oo:Value->Nat|.slice _ n _=>n|_=>0
def zg.flLen(h:zg tag i b c V W):Jm b 236 W=c.flight.length:=by
 obtain⟨a,cap,e,_⟩:=zi h.ft;have c0:W.cell? ⟨b,236,none⟩=some V.ft:=h.tl (j:=3) rfl;unfold Jm;rw[c0,e]
def FB.form{t:Nat×Nat}{l:zC}(h:FB tag t W v l):∃a cap,v = .slice a l.length cap:=by
 obtain⟨a,cap,e,_⟩:=h.1;exact⟨a,cap,e⟩
def Fn(i:Nat)(tag:Nat->Nat×Nat):Prop:=∀g r,90<=r->tag g≠(i,r)
def On(tag:Nat->Nat×Nat)(i b:Nat)(c:World)(a:List (List UInt8))(c':CS)(e:Ending)(W':World):Prop :=
 ∃v vs tag' V',e = .returned v/\zg tag' i b c' V' W'/\Dj i tag tag' c W'/\DW (Dp i tag) c W'/\Fz tag' c W' v vs a/\Fn i tag'
def undr(i:Nat)(tag:Nat->Nat×Nat):Nat->Nat×Nat:=λg=>if (tag g).1=i/\90<=(tag g).2 then(0,0)else tag g
def U7(hi:0<i):Fn i (undr i tag):=by
 intro g r hr h;unfold undr at h;split at h
 ·simp at h;omega
 ·rename_i hn;rw[h]at hn;exact hn ⟨rfl,hr⟩
variable{r:Nat}
def Vt(hr:r<90)(h:tag g=(i,r)):undr i tag g=(i,r):=by
 unfold undr;rw[AH (by rw[h];simp;omega),h]
def Sn(h:tag g=(0,0)):undr i tag g=(0,0):=by
 unfold undr;split
 ·rfl
 ·exact h
variable{W':World}{tag':Nat->Nat×Nat}
def Dj.undr(e:Dj i tag tag' W W')(nd:Fn i tag):Dj i tag (Go.Proofs.YtddfdpbaiedcjaaGreatDoor.undr i tag') W W':=by
 refine⟨λg hg=>?_,λg hg=>?_,λg hg=>Sn (e.z g hg)⟩
 ·have h1:=e.old g hg;unfold Go.Proofs.YtddfdpbaiedcjaaGreatDoor.undr;rw[AH,h1];rintro⟨x,y⟩;rw[h1]at x y;exact nd g (tag g).2 y (by rw[<-x])
 ·unfold Go.Proofs.YtddfdpbaiedcjaaGreatDoor.undr;split
  ·exact .inr rfl
  ·exact e.new g hg
variable{W0:World}{outs:List (List UInt8)}{ov tv:Value}{told:zC}{vs:List Value}
def FU.post(h:FU tag i b W0 c told outs tag' V vs ov tv W)(nd:Fn i tag):On tag i b W0 outs c (.returned ov) W :=
 ⟨ov,vs,undr i tag',V,rfl,h.c.retag (λg r hr hg=>Vt hr hg),h.e.undr nd,h.m,h.o.mod (DW.refl DX W) (λ_ x=>x.elim) (λ_ _ x=>Sn x),U7 h.p⟩
variable{bv fv:Value}{d:Dd}{db:Nat}
def Ev.post{l:List (Db×Value)}(h:Ev tag i b db W0 c d told outs tag' V bv fv l vs ov tv W)(nd:Fn i tag):On tag i b W0 outs c (.returned ov) W :=
 FU.post ⟨h.s.c,h.s.e,h.s.m,h.o,h.t,h.s.p⟩ nd
def Dp.i_(h:Dp i tag g):(tag g).1=i:=h.1
def FU.env(h:FU tag i b W0 c told outs tag' V vs ov tv W)(E:Dx i tag W0):Dx i tag' W:=E.left h.e (h.m.mono (λg hg=>.inl hg.i_))
def Ev.env{l:List (Db×Value)}(h:Ev tag i b db W0 c d told outs tag' V bv fv l vs ov tv W)(E:Dx i tag W0):Dx i tag' W:=E.left h.s.e (h.s.m.mono (λg hg=>.inl hg.i_))
def gK(h:zg tag i b c V W)(E:Dx i tag W)(nd:Fn i tag)(h0:c.closed=0)(ok:Gs c.acks.2 c.acks.1)(hg:c.got.Ok):Calls prog 50 #[.pointer (some ⟨b,0,none⟩)] W (On tag i b W c.packets.1 c.packets.2):=by
 have c4:=h.hd (j:=4) rfl;rw[h0]at c4;have ka:=XJ h E hg;have EE:=zb E;have ND:=zb nd;have OK:=zb ok;obtain⟨R,hR⟩:=nm c.packets;have HR:=zb hR;rw[hR];obtain⟨T0,ak⟩:=nm c.acks.1;obtain⟨C0,X⟩:=nm c.acks.2;have I:AA (CS.pkts (12-c.flight.length+T0.length+1) C0 T0=R/\Gs C0 T0/\Fv C0 T0<12-c.flight.length+T0.length+1):=by
  refine⟨?_,?_,?_⟩
  ·rw[<-hR,CS.packets,ak,X]
  ·rw[<-ak,<-X];exact ok
  ·have:C0.flight=c.flight:=by
    rw[<-X];unfold CS.acks;split<;>rfl
   unfold Fv;rw[this];omega
 rw[ak,X]at ka;have KA:=zb ka;clear h E nd ok hg h0 hR ak X ka;go_enter func50,ntmps50;go_wp2_with (go_at_call 82;refine KA.z.mono ?_;rintro e W1 ⟨v,aA,V1,rfl,aX,aY,aZ,a0⟩;have H1:AA (FU tag i b W C0 T0 [] aA V1 [] (.slice none 0 0) v W1):=zb ⟨aY,aZ,a0,Fz.nil _ _ _,aX,EE.z.pos⟩;clear aX aY aZ a0);clear c4 KA
 go_loopw [3,4] (λov tv wr=>∃(n:Nat) (c':CS) (told:zC) (f:List (List UInt8)) (tag':Nat->Nat×Nat) (V':CV) (z:List Value),AA (FU tag i b W c' told f tag' V' z ov tv wr)/\AA (Gs c' told/\Fv c' told<n/\f++(CS.pkts n c' told).1=R.1/\(CS.pkts n c' told).2=R.2)/\AA (f.length+n<=2097152)) (λ_ tv wr=>(12-Jm b 236 wr)+Oo tv)
 case atStart=>exact⟨_,C0,T0,[],aA,V1,[],H1,zb ⟨I.z.2.1,I.z.2.2,by rw[I.z.1];rfl,by rw[I.z.1]⟩,zb (by have:=I.z.2.1.len;show 0+_<=_;omega)⟩
 case round =>
  clear H1 I;obtain⟨n,c',told,f,tag',V',z,HH,w,a1⟩:=hrel;have c6:=HH.z.c.hd (j:=6) rfl;have c0:=HH.z.c.hd (j:=0) rfl;obtain⟨ta,tc,bm⟩:=HH.z.t.form;have aE:AA ((12-Jm b 236 wr)+told.length=Fv c' told):=by
   show _=_;rw[HH.z.c.flLen];rfl
  have a2:c'.next<4611686018427387904:=by have:=w.z.1.next;unfold zB at this;omega
  have kv:=Fs (.slice none 0 0) [] c'.next wr.drew (World.ownsRow_nil _ 0 _ 1) (AL _) a2;have KV:=zb kv;obtain⟨nx,Y⟩:=nm c'.next;obtain⟨mt,aF⟩:=nm c'.mtu;rw[Y]at c6 KV;rw[aF]at c0;have a3:=zb Y;have bn:=zb aF;clear kv a2 Y aF;subst bm;go_upto_region 5 with fail;refine zl 13 (λw'=>w'.cell? ⟨b,6,none⟩=some (.int .u64 nx)/\w'.cell? ⟨b,0,none⟩=some (.int .i64 mt)) (⟨c6,c0⟩) ?_;refine GI 0 ?_;iterate 4
   refine GV rfl ?_;try simp only[PS]
  refine GI 5 ?_;iterate 5
   refine GV rfl ?_;try simp only[PS]
  refine zw 4 rfl (λK F=>?_);go_simp;refine KV.z.mono ?_;rintro e W2 ⟨bv,rfl,A⟩;obtain⟨al,am,a4,_⟩:=zi A.own;rw[Am]at a4;subst a4;have m2:=((DW.refl DX wr).drew).trans ((DW.refl DX wr.drew).grown A.grown (λg hg=>by simp[Value.ownBlock]at hg));have AP:=zb A;have an:=zb (show W2.cell? ⟨b,6,none⟩=some (.int .u64 nx)/\W2.cell? ⟨b,0,none⟩=some (.int .i64 mt)from⟨m2.cell (a:=⟨b,6,none⟩) id c6,m2.cell (a:=⟨b,0,none⟩) id c0⟩);refine F.z _ _ an.z ?_;clear A m2;clear F K;try simp only[PS]
  refine Gn (i:=10) (v:=.agg #[.slice al (zM nx).length am,.slice none 0 0,.int .i64 mt,.bool false,.bool false]) rfl (by kernel_rfl) (λ_ _ _ h=>h) (Or.inl ⟨by rfl,?_⟩) ?_
  ·(intro S r;(try dsimp only at r);go_simp;try with_reducible rfl)
  try simp only[PS]
  refine zw 11 rfl (λK F=>?_);go_simp;have bo:=λo=>(show(W2.alloc o).cell? ⟨b,6,none⟩=some (.int .u64 nx)/\(W2.alloc o).cell? ⟨b,0,none⟩=some (.int .i64 mt)from⟨((DW.refl DX W2).alloc o).cell (a:=⟨b,6,none⟩) id an.z.1,((DW.refl DX W2).alloc o).cell (a:=⟨b,0,none⟩) id an.z.2⟩)
  refine F.z _ _ (bo _) ?_;clear F K;try simp only[PS]
  refine GI 12 ?_;refine GV rfl ?_;try simp only[PS]
  refine zn ?_;obtain⟨W3,aG⟩:=nm (W2.alloc (.cells #[.slice al (zM nx).length am,.slice none 0 0,.int .i64 mt,.bool false,.bool false] 180));obtain⟨db,aH⟩:=nm W2.heap.size;obtain⟨Z,HM⟩:∃Z,AA (Ev tag i b db W c' c'.pkDraft told f Z V' (.slice al (zM nx).length am) (.slice none 0 0) [] z u3 (.slice ta told.length tc) W3):=by
   have A:=AP.z;rw[<-a3.z]at A;obtain⟨t1,h1⟩:=HH.z.draft ((DW.refl DX wr).drew) A;rw[a3.z,bn.z,aG,aH]at h1;exact⟨t1,h1⟩
  try rw[aG]
  try rw[aH]
  obtain⟨T,aI⟩:=nm ((zr c'.pkDraft told).1);obtain⟨G,aJ⟩:=nm ((zr c'.pkDraft told).2);have aa:=w.z.1.round;rw[aI,aJ]at aa;have H:=zb aa;have ab:=zb (And.intro aI aJ);have bp:=Ng (Ix w.z.1.ok) told;have kt:=λh1=>XI HM.z.s.c HM.z.s.d (HM.z.env EE.z) HM.z.t h1 w.z.1.desc.tell w.z.1.len (by have:=(Ix w.z.1.ok).b;omega) (by have:=(Ix w.z.1.ok).fs;have:=(Ix w.z.1.ok).b;omega) (by have:=(Ix w.z.1.ok).room;omega)
  have KT:=zb kt;obtain⟨N,hN⟩:=nm told.length;rw[hN]at KT HM ⊢;have a5:=zb hN;clear aI aJ aa bp kt hN aG aH an AP HH c6 c0 KV;go_upto_if 29 with fail
  go_cut [4] (λt2 S=>∃(tag2:Nat->Nat×Nat) (V2:CV) (ao aq:Value) (l2:List (Db×Value)),AA (Ev tag i b db W c' T G f tag2 V2 ao aq l2 z u3 t2 S))
  case first =>
   by_cases J:told=[]
   ·have bq:N=0:=by rw[<-a5.z,J];rfl
    subst bq;have U:AA (Ev tag i b db W c' T G f Z V' (.slice al (zM nx).length am) (.slice none 0 0) [] z u3 (.slice ta 0 tc) W3):=by
     have e:zr c'.pkDraft told=(c'.pkDraft,told):=by unfold zr;rw[AN J]
     have e1:=ab.z.1;have e2:=ab.z.2;rw[e]at e1 e2;rw[<-e1,<-e2];exact HM
    clear J KT HM;go_wp2_with fail;go_meet;exact⟨_,_,_,_,_,U⟩
   ·have d1:(0:Int)<N:=by
     have:=BU.2 J;have:=a5.z;omega
    have hd:(GX c'.pkDraft told).1=T/\(GX c'.pkDraft told).2=G:=by
     have e:zr c'.pkDraft told=GX c'.pkDraft told:=by unfold zr;rw[AH J]
     rw[<-e];exact ab.z
    have k2:=KT.z (by omega);rw[hd.1,hd.2]at k2;have K2:=zb k2;clear J KT hd k2;go_wp2_with (go_at_call 84;refine K2.z.mono ?_;intro e W4 hp;obtain⟨v,tag2,V2,ao,aq,l2,rfl,h2⟩:=HM.z.tell hp;have U:=zb h2;clear hp h2);go_meet;exact⟨_,_,_,_,_,U⟩
  case rest =>
  obtain⟨tag2,V2,ao,aq,l2,U⟩:=hcut;clear HM KT;have a6:wc.cell? ⟨b,236,none⟩=some V2.ft:=U.z.s.c.tl (j:=3) rfl;obtain⟨fa,fc,a7,_⟩:=zi U.z.s.c.ft;rw[a7]at a6;obtain⟨FL,aK⟩:=nm c'.flight.length;rw[aK]at a6;have a8:=zb aK;obtain⟨k,aL⟩:=nm ((c'.pkFill T).1);obtain⟨l,aM⟩:=nm ((c'.pkFill T).2);have L:=zb (And.intro aL aM);have aN:=H.z;rw[aL,aM]at aN;have a9:=zb aN;clear aN;have kf:=XG U.z.s.c U.z.s.d (U.z.env EE.z) w.z.1.ok H.z.1;have KF:=zb kf;clear a7 aK aL aM kf;go_upto_if 39 with fail
  go_cut [] (λS=>∃(ac:Nat->Nat×Nat) (V3:CV) (y M:Value) (l3:List (Db×Value)),AA (Ev tag i b db W k l G f ac V3 y M l3 z u3 u4 S))
  case first =>
   by_cases ar:FL<12
   ·have d1:(FL:Int)<12:=by omega
    have e:c'.pkFill T=c'.fill T:=by unfold CS.pkFill;rw[AN (by rw[a8.z];exact ar)]
    have C:(c'.fill T).1=k/\(c'.fill T).2=l:=by rw[<-e];exact L.z
    have k2:=KF.z;rw[C.1,C.2]at k2;have K2:=zb k2;clear ar KF e C k2;go_wp2_with (go_at_call 85;refine K2.z.mono ?_;intro e W4 hp;obtain⟨rfl,ac,V3,y,M,l3,h3⟩:=U.z.fill hp;have B:=zb h3;clear hp h3);go_meet;exact⟨_,_,_,_,_,B⟩
   ·have d1:¬(FL:Int)<12:=by omega
    have e:c'.pkFill T=(c',T):=by unfold CS.pkFill;rw[AH (by rw[a8.z];exact ar)]
    have C:c'=k/\T=l:=by
     have:=L.z;rw[e]at this;exact this
    have B:AA (Ev tag i b db W k l G f tag2 V2 ao aq l2 z u3 u4 wc):=by
     rw[<-C.1,<-C.2];exact U
    clear ar KF e C;go_wp2_with fail;go_meet;exact⟨_,_,_,_,_,B⟩
  case rest =>
  obtain⟨ac,V3,y,M,l3,B⟩:=hcut;clear U KF;have o3:=B.z.s.d.obj;obtain⟨fa3,fc3,ad,_⟩:=zi B.z.s.d.own;have ba:l3.length=l.fs.length:=by rw[<-B.z.s.d.lf,A9]
  rw[ba]at ad;obtain⟨ba3,bc3,aB,_⟩:=zi B.z.s.d.ob;have e0:wc.cell? ⟨db,0,none⟩=some y:=za o3 rfl;have e1:wc.cell? ⟨db,1,none⟩=some M:=za o3 rfl;rw[ad]at e1;obtain⟨NF,aO⟩:=nm l.fs.length;rw[aO]at e1;obtain⟨m,hm⟩:∃m,n=m+1:=⟨n-1,by have:=w.z.2.1;omega⟩;subst hm;have au:AA (CS.pkts (m+1) c' told=if l.fs=[]then([],k)else(EP l.b::(CS.pkts m (k.pkDone l) G).1,(CS.pkts m (k.pkDone l) G).2)):=by
   show _=_;rw[CS.pkts,ab.z.1,ab.z.2,L.z.1,L.z.2]
  have bb:=zb aO;have bc:=zb aB;clear o3 ad ba aO aB;go_upto_if 48 with fail;by_cases O:l.fs=[]
  ·have hz:NF=0:=by rw[<-bb.z,O];rfl
   subst hz;have bd:AA (f=R.1/\k=R.2):=by
    have h1:=w.z.2.2.1;have h2:=w.z.2.2.2;rw[au.z,AN O]at h1 h2;exact⟨by simpa using h1,h2⟩
   have H4:=zb (B.z.post ND.z);clear O au w e0;go_wp2_with fail;go_ret;have h4:=H4.z;rw[bd.z.1,bd.z.2]at h4;exact h4
  have hz:NF≠0:=λe=>O (Ah (by rw[bb.z,e]))
  have dz:((NF:Int)==0)=false:=AR.2 (by omega);have aP:=zb O;have ks:=Xx y l.b wc B.z.s.d.ob (by have:=a9.z.2.2.1.b;omega) (B.z.env EE.z).tab;have kb:∀W5 sv,Dq wc y l.b (EG (Dv l.b)) sv W5->∃sa sn sc ov' W6,sv = .slice sa sn sc/\(∀ty,(Builtin.append_ #[130,130] ty #[u3,.slice (some ⟨W5.heap.size,0,none⟩) 1 1]).run prog (W5.alloc (.cells #[.slice sa sn sc] 60)) = .ok ov' W6)/\∃tag4 oa' oc',AA (NK tag i b db W k l G (f++[EP l.b]) tag4 V3 y M (z++[sv]) ov' u4 W6)/\ov' = .slice oa' (z.length+1) oc':=by
   intro W5 sv A;obtain⟨sa,sc,be,_⟩:=zi A.own;have m1:=(DW.refl (λg=>y.ownBlock=some g) wc).grown A.grown (λg hg=>.inl hg);have ho:=B.z.o.mod m1 (λg hg x=>by
    have:=B.z.s.d.tbv g hg;rw[x]at this;have:=B.z.s.p;simp at *) (λ_ _ x=>x)
   obtain⟨ov',W6,h1,h2,h3,h4⟩:=XF W5 u3 z sa _ sc ho.own (by
    have:=ho.len;have:=w.z.1.next;have:=a1.z;omega)
   obtain⟨tag4,h5⟩:=B.z.sealed ND.z A (by rw[be];exact h2) h3 h4;obtain⟨oa',oc',h6,_⟩:=zi h2;exact⟨sa,_,sc,ov',W6,be,h1,tag4,oa',oc',h5,h6⟩
  obtain⟨oa,oc,bf,_⟩:=zi B.z.o.own;rw[bc.z]at ks e0;have KS:=zb ks;have KB:=zb kb;clear ks kb O hz e1;rw[bf]at KB ⊢;clear bf;go_upto_region 13 with(first|(go_at_call 86;refine KS.z.mono ?_;rintro e W5 ⟨sv,rfl,A⟩;have A:=(show Dq wc y l.b (EG (Dv l.b)) sv W5 by rw[bc.z];exact A);obtain⟨sa,sn,sc,ov',W6,rfl,Dc,tag4,oa',oc',q,rfl⟩:=KB.z W5 sv A;clear A)|(at_builtin;refine zm rfl _ _ _ _ rfl _ _ _ rfl rfl Dc ?_));have o6:=q.z.obj;have e3:W6.cell? ⟨db,3,none⟩=some (.bool l.wants):=za o6 rfl;obtain⟨wa,aQ⟩:=nm l.wants;rw[aQ]at e3;have bh:=zb aQ;clear o6 aQ KS KB;go_upto_if 61 with fail
  go_cut [] (λS=>∃(u:Nat->Nat×Nat) (V5:CV),AA (FU tag i b W { k with flight:=if l.wants then k.flight++[⟨k.next,k.now,l.fs⟩]else k.flight } G (f++[EP l.b]) u V5 (z++[.slice sa sn sc]) (.slice oa' (z.length+1) oc') u4 S))
  case first =>
   cases wa
   ·have H7:AA (FU tag i b W { k with flight:=if l.wants then k.flight++[⟨k.next,k.now,l.fs⟩]else k.flight } G (f++[EP l.b]) tag4 V3 (z++[.slice sa sn sc]) (.slice oa' (z.length+1) oc') u4 W6):=by
     rw[bh.z];exact q.z.h
    go_wp2_with fail;go_meet;exact⟨_,_,H7⟩
   ·have ae:W6.cell? ⟨b,236,none⟩=some V3.ft:=q.z.h.c.tl (j:=3) rfl;have q6:=q.z.h.c.hd (j:=6) rfl;have q3:=q.z.h.c.hd (j:=3) rfl;have q1:W6.cell? ⟨db,1,none⟩=some M:=za q.z.obj rfl;obtain⟨ga,gc,aR⟩:=q.z.fv;obtain⟨ka,kc,aS,_⟩:=zi q.z.h.c.ft;have af:(k.flight.zip V3.fts).length=k.flight.length:=by
     rw[Cw,q.z.h.c.fl,CX]
    have aC:k.flight.length<=1099511627776:=by
     have h1:=H.z.2.2.2.2.2.1;rw[L.z.1]at h1;rw[h1];have:=w.z.1.fl;omega
    have P:∀g,V3.ft.ownBlock=some g->g≠b/\g≠db:=λg hg=>by
     have h1:=q.z.h.c.tft g hg;refine⟨λe=>?_,λe=>?_⟩
     ·rw[e,q.z.h.c.tb]at h1;simp at h1
     ·rw[e,q.z.db]at h1;simp at h1
    obtain⟨bt,W7,D,av,aT,bi⟩:=XE W6.drew V3.ft (k.flight.zip V3.fts) ⟨k.next,k.now,l.fs⟩ ga _ gc (by rw[af];exact q.z.h.c.ft) (by rw[af];exact aC);have H7:AA (∃u V5,AA (FU tag i b W { k with flight:=if l.wants then k.flight++[⟨k.next,k.now,l.fs⟩]else k.flight } G (f++[EP l.b]) u V5 (z++[.slice sa sn sc]) (.slice oa' (z.length+1) oc') u4 (W7.setCell ⟨b,236,none⟩ bt))):=by
     rw[af,<-aR]at av;obtain⟨u,h7⟩:=q.z.fly ((DW.refl DX W6).drew) av aT bi;rw[bh.z];exact⟨u,_,h7⟩
    have m7:=((DW.refl DX W6).drew.mono (λ_ x=>x.elim)).trans ((DW.refl (λg=>V3.ft.ownBlock=some g) W6.drew).grown aT (λg hg=>.inl hg));have f7:∀p,W7.frozen? ⟨b,p,none⟩=false:=λp=>zf (m7.obj (λx=>(P b x).1 rfl) q.z.h.c.obj)
    obtain⟨bu,bw,bj,_⟩:=zi av;rw[aR]at q1;rw[aS]at ae;have Q:=zb (show W7.cell? ⟨b,236,none⟩=some (.slice ka k.flight.length kc)/\W7.cell? ⟨b,6,none⟩=some (.int .u64 k.next)/\W7.cell? ⟨b,3,none⟩=some (.int .u64 k.now)/\W7.cell? ⟨db,1,none⟩=some (.slice ga l.fs.length gc)from⟨m7.cell (a:=⟨b,236,none⟩) (λx=>(P b x).1 rfl) ae,m7.cell (a:=⟨b,6,none⟩) (λx=>(P b x).1 rfl) q6,m7.cell (a:=⟨b,3,none⟩) (λx=>(P b x).1 rfl) q3,m7.cell (a:=⟨db,1,none⟩) (λx=>(P db x).2 rfl) q1⟩);rw[aS]at D;rw[af]at bj;subst bj;have aU:=zb D;have bz:=zb f7;clear aR aS af aC P av aT bi m7 D f7 e3;obtain⟨NW,aV⟩:=nm k.next;obtain⟨AT,aW⟩:=nm k.now;obtain⟨aw,ah⟩:=nm l.fs.length;obtain⟨ax,aD⟩:=nm k.flight.length;rw[aD]at ae Q aU H7;rw[aV]at q6 Q;rw[aW]at q3 Q;rw[ah]at q1 Q;have bA:AA (∀ty,(Builtin.append_ #[123,123] ty #[.slice ka ax kc,.slice (some ⟨W6.drew.heap.size,0,none⟩) 1 1]).run prog (W6.drew.alloc (.cells #[.int .u64 NW,.int .u64 AT,.slice ga aw gc] 173)) = .ok (.slice bu (ax+1) bw) W7):=by
     have h8:=aU.z;rw[aV,aW,ah]at h8;exact h8
    clear aV aW ah aD aU;go_wp2_with fail;refine zl 22 (λw'=>w'.cell? ⟨b,236,none⟩=some (.slice ka ax kc)/\w'.cell? ⟨b,6,none⟩=some (.int .u64 NW)/\w'.cell? ⟨b,3,none⟩=some (.int .u64 AT)/\w'.cell? ⟨db,1,none⟩=some (.slice ga aw gc)) (⟨ae,q6,q3,q1⟩) ?_;refine GI 0 ?_;iterate 17
     refine GV rfl ?_;try simp only[PS]
    refine Gn (i:=17) (v:=.agg #[.int .u64 NW,.int .u64 AT,.slice ga aw gc]) rfl (by kernel_rfl) (λ_ _ _ h=>h) (Or.inl ⟨by rfl,?_⟩) ?_
    ·(intro S r;(try dsimp only at r);go_simp;try with_reducible rfl)
    try simp only[PS]
    refine zw 18 rfl (λK F=>?_);go_simp;have bC:=λo=>(show(W6.drew.alloc o).cell? ⟨b,236,none⟩=some (.slice ka ax kc)/\(W6.drew.alloc o).cell? ⟨b,6,none⟩=some (.int .u64 NW)/\(W6.drew.alloc o).cell? ⟨b,3,none⟩=some (.int .u64 AT)/\(W6.drew.alloc o).cell? ⟨db,1,none⟩=some (.slice ga aw gc)from⟨((DW.refl DX W6.drew).alloc o).cell (a:=⟨b,236,none⟩) id ae,((DW.refl DX W6.drew).alloc o).cell (a:=⟨b,6,none⟩) id q6,((DW.refl DX W6.drew).alloc o).cell (a:=⟨b,3,none⟩) id q3,((DW.refl DX W6.drew).alloc o).cell (a:=⟨db,1,none⟩) id q1⟩)
    refine F.z _ _ (bC _) ?_;clear F K;try simp only[PS]
    refine zw 19 rfl (λK F=>?_);refine zH rfl _ _ _ _ rfl _ _ _ rfl rfl bA.z ?_;refine F.z _ _ Q.z ?_;clear F K;try simp only[PS]
    refine GI 20 ?_;iterate 2
     refine GV rfl ?_;try simp only[PS]
    refine zU rfl (λK F=>?_);have f7:=bz.z;obtain⟨u36,u6,u3_,u1⟩:=Q.z;go_simp;refine F.z _ _ ?_;clear F K;try simp only[PS]
    refine zn ?_;go_wp2_with fail;go_meet;exact H7.z
  case rest =>
  obtain⟨u,V5,H7⟩:=hcut;clear q;obtain⟨C7,ay⟩:∃C7:CS,{ k with flight:=if l.wants then k.flight++[⟨k.next,k.now,l.fs⟩]else k.flight }=C7:=⟨_,rfl⟩;have ai:AA ({ C7 with next:=C7.next+1 }=k.pkDone l):=by
   show _=_;rw[<-ay];rfl
  have bk:C7.next=c'.next:=by
   have h1:=H.z.2.2.2.1;rw[L.z.1]at h1;rw[<-ay,<-h1]
  rw[ay]at H7;have p6:=H7.z.c.hd (j:=6) rfl;have pf:=H7.z.c.fz;obtain⟨NX,az⟩:=nm C7.next;have bD:NX+1<18446744073709551616:=by
   have:=w.z.1.next;unfold zB at this;omega
  have H8:AA (FU tag i b W (k.pkDone l) G (f++[EP l.b]) u V5 (z++[.slice sa sn sc]) (.slice oa' (z.length+1) oc') u4 (wc.setCell ⟨b,6,none⟩ (.int .u64 ((NX+1:Nat):Int)))):=by
   have h8:=H7.z.next;rw[az]at h8;rw[<-ai.z,az];exact h8
  rw[az]at p6;have yx:IntKind.u64.wrap ((NX:Int)+1)=((NX+1:Nat):Int):=by rw[IntKind.wrap_u64];omega
  have aj:AA (Gs (k.pkDone l) G/\Fv (k.pkDone l) G<Fv c' told):=a9.z.2.2.2.2.2.2 aP.z;clear ay ai bk H7 az;go_wp2_with fail;go_roundw
  case rel =>
   refine⟨m,_,_,_,u,V5,_,H8,zb ⟨aj.z.1,by have:=w.z.2.1;have:=aj.z.2;omega,?_,?_⟩,zb (by have:=a1.z;rw[AF,Aa];omega)⟩
   ·have h1:=w.z.2.2.1;rw[au.z,AH aP.z]at h1;rw[<-h1];simp
   ·have h1:=w.z.2.2.2;rw[au.z,AH aP.z]at h1;exact h1
  case measure =>
   have h1:=aj.z.2;have h2:=aE.z;obtain⟨xa,xc,hx⟩:=H8.z.t.form;have h3:=H8.z.c.flLen;show(12-Jm b 236 (wc.setCell ⟨b,6,none⟩ (.int .u64 ((NX+1:Nat):Int))))+Oo u4<(12-Jm b 236 wr)+Oo (.slice ta told.length tc);rw[h3,hx];show _<(12-Jm b 236 wr)+told.length;rw[h2];exact h1
def Yw:(prog.info? 9).map (λi=>(i.zero,i.size,i.bytes))=some (some (.string ⟨#[]⟩),1,16):=by kernel_rfl
def Fd(l:List (List UInt8)):List Value:=l.map λs=>.string (zq s)
def Vs(w:World)(v:Value)(l:List (List UInt8))(s:List UInt8)(h:w.ownsRow 0 9 1 v l.length (Fd l))(hl:l.length<=1099511627776):∃v' w',(∀ty,(Builtin.append_ #[53,53] ty #[v,.slice (some ⟨w.heap.size,0,none⟩) 1 1]).run prog (w.alloc (.cells #[.string (zq s)] 9)) = .ok v' w')/\w'.ownsRow 0 9 1 v' (l.length+1) (Fd (l++[s]))/\(w.alloc (.cells #[.string (zq s)] 9)).grownBy w' v.ownBlock/\Dy w v v':=by
 obtain⟨o,d⟩:=nm ((Obj.cells #[.string (zq s)] 9 (0,0)));obtain⟨i,a,hz,b,c⟩:=info_parts Yw;have hc:∀(j:Nat) u,(Fd [s])[j]?=some u->(w.alloc o).cell? ((⟨w.heap.size,0,none⟩:Addr).add j)=some u:=λj u hj=>by
  rw[zS,<-d];refine za (heap_alloc_new w _) ?_;rw[Au,<-Array.getElem?_toList];exact hj
 obtain⟨v',w',k1,k2,k3,k4⟩:=zJ (P:=prog) (w.alloc o) 53 9 i _ 1 16 underlying53 a hz b c rfl (by decide) v l.length (Fd l) (((DW.refl DX w).alloc o).owns h (λ_ _ x=>x))
  ⟨w.heap.size,0,none⟩ 1 1 (Fd [s]) rfl hc (by
   intro u f;simp[Fd]at f;subst f;rfl) (by unfold maxLen;omega) (by omega)
 have e:Fd (l++[s])=Fd l++Fd [s]:=by simp[Fd]
 rw[d,e];refine⟨v',w',k1,k2,k3,λg hg=>?_⟩;rcases k4 g hg with x|x
 ·exact .inl x
 ·refine .inr ?_;simp at x;omega
def JM(tag:Nat->Nat×Nat)(i b:Nat)(W:World)(a:List (List UInt8))(c':CS)(e:Ending)(W':World):Prop :=
 ∃v tag' V',e = .returned v/\zg tag' i b c' V' W'/\Dj i tag tag' W W'/\DW (Dp i tag) W W'/\Fn i tag'/\W'.ownsRow 0 9 1 v a.length (Fd a)/\∀g,v.ownBlock=some g->W.heap.size<=g/\tag' g=(0,0)
def LB(vs:List Value)(k:Nat)(g:Nat):Prop:=∃j u,j<k/\vs[j]?=some u/\u.ownBlock=some g
def go(h:zg tag i b c V W)(E:Dx i tag W)(nd:Fn i tag)(h0:c.closed=0)(ok:Gs c.acks.2 c.acks.1)(hg:c.got.Ok)(I:c.packets.1.length<=1099511627776)(o:∀l∈c.packets.1,l.length<=1099511627776):Calls prog 27 #[.pointer (some ⟨b,0,none⟩)] W (JM tag i b W c.packets.1 c.packets.2):=by
 have k1:=gK h E nd h0 ok hg;obtain⟨R,hR⟩:=nm c.packets;rw[hR]at k1 I o ⊢;obtain⟨d,c'⟩:=R;simp only at k1 I o ⊢;have HE:=zb E;have HC:=zb h;have K1:=zb k1;have aj:=zb o;clear h E ok k1 hR nd hg o h0;go_enter func27,ntmps27;go_wp2_with fail;refine(K1.z).mono ?_;rintro _ W2 ⟨v,s,tag',V',rfl,h2,e2,m2,t,S⟩;clear K1;obtain⟨N,hN⟩:=nm d.length;have J:s.length=N:=by rw[t.len,hN]
 obtain⟨oa,oc,rfl,ak,al,T⟩:=zi t.own;rw[J]at ak T ⊢;rw[hN]at I;unfold maxLen at al;have H2:=zb h2;have E2:=zb e2;have M2:=zb m2;have am:=zb S;have Q:=zb t;have U:=zb J;have B:=zb hN;have an:=zb m2.size;clear h2 e2 m2 S t J hN;go_wp2_with fail
 go_loopw [3,10] (λsv K wr=>∃k:Nat,k<=N/\K = .int .i64 k/\AA (wr.ownsRow 0 9 1 sv (d.take k).length (Fd (d.take k))/\(∀g,sv.ownBlock=some g->W2.heap.size<=g)/\DW (LB s k) W2 wr)) (λ_ K _=>N-(intOf K).toNat)
 case atStart=>exact⟨0,AL _,rfl,zb ⟨World.ownsRow_nil _ 0 _ 1,λg hg=>by simp[Value.ownBlock]at hg,DW.refl _ _⟩⟩
 case round =>
  obtain⟨k,hk,rfl,C⟩:=hrel;obtain⟨sa,sc,ao,ap,aq,_⟩:=zi C.z.1;subst ao;have m:(d.take k).length=k:=by rw[AS,B.z];omega
  by_cases w:k<N
  ·obtain⟨u,X⟩:∃u,s[k]?=some u:=⟨s[k]'(by rw[U.z];exact w),AJ (by rw[U.z];exact w)⟩;obtain⟨l,hl⟩:∃l,d[k]?=some l:=⟨d[k]'(by rw[B.z];exact w),AJ (by rw[B.z];exact w)⟩;obtain⟨y,ar⟩:=Q.z.each k u l X hl;have Y:=aj.z l (Ac hl);have D:∀g,u.ownBlock=some g->¬LB s k g:=λg hg ⟨j,x,hj,hx,hxg⟩=>Q.z.apart j k x u hj hx X g hxg hg
   have e:OB wr u l:=C.z.2.2.owns y D;obtain⟨g0,rfl⟩:=T (by omega);have au:wr.cell? ⟨g0,k,none⟩=some u:=by
    have Z:¬LB s k g0:=λ⟨j,x,hj,hx,hxg⟩=>by
     obtain⟨lj,M⟩:∃l,d[j]?=some l:=⟨d[j]'(by rw[B.z];omega),AJ (by rw[B.z];omega)⟩;exact TI Q.z.own (Q.z.each j x lj hx M).1 (by decide) (g:=g0) rfl hxg
    have h5:=Q.z.own.cells (g:=g0) rfl k u X;rw[zS]at h5;have h6:=C.z.2.2.cell (a:=⟨g0,0+k,none⟩) Z h5;rw[Au]at h6;exact h6
   obtain⟨O,uc,av,aw,ax,P⟩:=zi e;subst av;unfold maxLen at ax;obtain⟨L,hL⟩:=nm l.length;have hcv:(convert 60 9 (.slice O L uc)).run prog wr = .ok (.string (zq l)) wr:=by
    have:=IN (OB.br e);rw[hL]at this;exact this
   rw[hL]at aw P au Y;obtain⟨v',W3,Dc,z,A,aa⟩:=Vs wr (.slice sa (d.take k).length sc) (d.take k) l C.z.1 (by omega);obtain⟨va,vc,rfl,_⟩:=zi z;have m3:=(((DW.refl DX wr).alloc _).mono (λ_ x=>x.elim)).trans ((DW.refl _ _).grown A (λg hg=>.inl hg));have f:=C.z.2.1;have ab:∀g,O=some ⟨g,0,none⟩->g<W2.heap.size:=λg hg=>by subst hg;exact zF y g rfl
   have F:OB W3 (.slice O l.length uc) l:=m3.owns e (λg hg x=>by
    have h5:=f g x;have h6:=zF y g hg;omega)
   have G:∀g,O=some ⟨g,0,none⟩->F9 W3 g L:=λg hg=>by
    subst hg;rw[<-hL];exact F.open_
   have ac:=C.z.2.2.size;have n:∀g,(Value.slice va ((d.take k).length+1) vc).ownBlock=some g->W2.heap.size<=g:=λg hg=>by
    rcases aa g hg with x|x
    ·exact f g x
    ·omega
   have ad:d.take (k+1)=d.take k++[l]:=by rw[BD,hl];rfl
   have ae:=C.z.2.2.then m3 (λg hg=>.inr (f g hg));have af:AA (W3.ownsRow 0 9 1 (.slice va (k+1) vc) (d.take (k+1)).length (Fd (d.take (k+1)))):=zb (by
    rw[ad,AF,Aa];rw[m]at z ⊢;exact z)
   rw[m]at Dc n;have ah:=zb n;have ay:=zb ab;have az:=zb P;have aA:=zb G;have aB:=zb ae;have aC:AA (∀g,O=some ⟨g,0,none⟩->LB s (k+1) g):=zb (λg hg=>⟨k,_,by omega,X,by rw[hg];rfl⟩);have HTL:=zb m;rw[m];clear y ar D e X hl P z A aa m3 f ab F G ac n ad ae m Y ap aq;go_wp2_with (at_builtin;refine zm rfl _ _ _ _ rfl _ _ _ rfl rfl Dc ?_)
   go_loopw [21] (λK wr=>∃j:Nat,j<=L/\K = .int .i64 j/\AA (∀g,O=some ⟨g,0,none⟩->F9 wr g L)/\AA (DW (λg=>O=some ⟨g,0,none⟩) W3 wr)) (λK _=>L-(intOf K).toNat)
   case atStart=>exact⟨0,AL _,rfl,aA,zb (DW.refl _ _)⟩
   case round =>
    obtain⟨j,hj,rfl,HP,HM⟩:=hrel;by_cases ai:j<L
    ·obtain⟨g,hg⟩:=az.z (by omega);subst hg;obtain⟨⟨v0,e0⟩,z0⟩:=(HP.z g rfl).cell ai;have aD:AA (∀g',some (⟨g,0,none⟩:Addr)=some ⟨g',0,none⟩->F9 (wr.setCell ⟨g,j,none⟩ (.int .u8 33)) g' L):=zb (λg' A=>by
      cases A;exact(HP.z g rfl).set j _)
     have aE:=zb (HM.z.setCell (p:=⟨g,j,none⟩) (.inl rfl) (.int .u8 33));go_wp2_with fail;go_roundw
     case rel=>exact⟨j+1,by omega,by go_num,aD,aE⟩
     case measure=>simp[intOf];omega
    ·have HF:AA (wr.ownsRow 0 9 1 (.slice va (k+1) vc) (d.take (k+1)).length (Fd (d.take (k+1)))/\(∀g,(Value.slice va (k+1) vc).ownBlock=some g->W2.heap.size<=g)/\DW (LB s (k+1)) W2 wr):=zb
      ⟨HM.z.owns af.z (λg hg x=>by
       have h5:=ah.z g hg;have h6:=ay.z g x;omega),ah.z,(aB.z.mono (λg ⟨q,x,hq,r⟩=>.inl ⟨q,x,by omega,r⟩)).then HM.z (λg hg=>.inl (aC.z g hg))⟩
     go_wp2_with fail;go_roundw
     case rel=>exact⟨k+1,by omega,by go_num,HF⟩
     case measure=>simp[intOf];omega
  ·have aF:k=N:=by omega
   have ht:d.take k=d:=AW (by rw[B.z];omega);have H:=C.z;rw[ht]at H;have hz:∀g,LB s k g->(tag' g)=(0,0)/\W.heap.size<=g:=λg ⟨j,x,hj,hx,hxg⟩=>by
    obtain⟨lj,M⟩:∃l,d[j]?=some l:=⟨d[j]'(by rw[B.z];omega),AJ (by rw[B.z];omega)⟩;obtain⟨a,b⟩:=(Q.z.each j x lj hx M).2 g hxg;exact⟨b,a⟩
   have HF:AA (JM tag i b W d c' (.returned (.slice sa d.length sc)) wr):=zb
    ⟨_,tag',V',rfl,H2.z.mod H.2.2 (λg hg=>by rw[(hz g hg).1];have:=HE.z.pos;simp;omega) (λ_ _=>rfl),⟨E2.z.old,E2.z.new,E2.z.z.mod H.2.2⟩,M2.z.then H.2.2 (λg hg=>.inr (hz g hg).2),am.z,H.1,λg hg=>⟨AO an.z (H.2.1 g hg),E2.z.z g (H.2.1 g hg)⟩⟩
   rw[ht];clear aF;go_wp2_with fail;go_ret;exact HF.z
end
end Go.Proofs.YtddfdpbaiedcjaaGreatDoor
