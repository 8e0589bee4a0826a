/- A part of Urgent's proof. Conditions: none. Part 9 of 32. -/
import Derived.Lib.ConvBytes
import Derived.Test.YtddfdpbaiedcjaaGreatDoorUrg8
import Derived.Lib.LaidTab
import Derived.Deep.DeepHandedRow
import Derived.ProofKit
import Derived.OpenShut
import Derived.SevenTiedAt
set_option maxRecDepth 100000
set_option maxHeartbeats 16000000
set_option linter.all false
namespace Go.Proofs.YtddfdpbaiedcjaaGreatDoor
open Go.RowKit
theorem zg3(w:World)(l:List UInt8)(hl:l.length≤4611686018427387904):∃cap w',(convert 9 60 (.string (zq l))).run Tryz.prog w = .ok (.slice (some ⟨w.heap.size,0,none⟩) l.length cap) w'∧BR w' (.slice (some ⟨w.heap.size,0,none⟩) l.length cap) l∧Mod NoB w w'∧w'.heap.size=w.heap.size+1:=by
 have h:=Lib.run_convert_string_bytes (P:=Tryz.prog) w 9 60 5 (zq l) (u:=.string) Tryz.underlying9 Tryz.underlying60 Tryz.underlying5;have a:=grownCap_ge w (zq l).size 0 5;have b:grownCap w (zq l).size 0 5≤maxLen:=grownCap_le_maxLen w _ 0 _ (by rw[zJ];unfold maxLen;omega);rw[zJ]at h a b;refine⟨_,_,h,⟨_,_,rfl,a,b,fun i c hc=>⟨_,_,rfl,?_⟩⟩,⟨?_,?_,?_,?_,?_⟩,Lib.bytesWorld_size _ _ _⟩
 ·have hi:i<l.length:=(List.getElem?_eq_some_iff.1 hc).1;have:=Lib.bytesWorld_cell w 5 (zq l) i (by rw[zJ];exact hi);rw[Nat.zero_add,this];simp only[zq,List.getD,hc,Option.getD_some]
 ·simp[Lib.bytesWorld,World.freeze,World.alloc,World.drew,-World.alloc_eq,-World.drew_eq]
 ·simp[Lib.bytesWorld,World.freeze,World.alloc,World.drew,-World.alloc_eq,-World.drew_eq]
 ·simp[Lib.bytesWorld,World.freeze,World.alloc,World.drew,-World.alloc_eq,-World.drew_eq]
 ·rw[Lib.bytesWorld_size];omega
 ·intro k hk _;exact Lib.bytesWorld_at_old w _ _ k hk
def pickN(c:Int)(n:Nat):Nat:=((if c<0 then -(c+1)else c) % (n:Int)).toNat
theorem zao(c:Int)(n:Nat)(h:0<n):pickN c n<n:=by
 unfold pickN;have h1:=Int.emod_lt_of_pos (if c<0 then -(c+1)else c) (show(0:Int)<n by omega);have h2:=Int.emod_nonneg (if c<0 then -(c+1)else c) (show(n:Int)≠0 by omega);omega
theorem zaW(c:Int)(n:Nat)(w:World)(h1 : -9223372036854775808≤c)(h2:c≤9223372036854775807)(hn:0<n)(hn2:n≤9223372036854775807) :
  Calls Tryz.prog 24 #[.int .i64 c,.int .i64 n] w fun e w'=>e = .returned (.int .i64 (pickN c n:Int))∧w=w':=by
 have a:∀x:Int,(if c<0 then -(c+1)else c)=x→0≤x→x % (n:Int)=(pickN c n:Int):=by
  intro x hx _;unfold pickN;rw[hx];have:=Int.emod_nonneg x (show(n:Int)≠0 by omega);omega
 have hn':(1:Int)≤n:=by omega
 by_cases hc:c<0
 ·have H:=zb (a (-(c+1)) (by rw[if_pos hc]) (by omega));have E:Hid (-((c+1).tmod (n:Int))=(-(c+1)) % (n:Int)):=by
   show _=_;rw[←Int.neg_tmod,Int.tmod_eq_emod_of_nonneg (by omega)]
  clear a;go_enter Tryz.func24,Tryz.ntmps24;go_wp2_with fail;go_ret;exact⟨by rw[←H.out,←E.out];rfl,rfl⟩
 ·have H:=zb (a c (by rw[if_neg hc]) (by omega));clear a;go_enter Tryz.func24,Tryz.ntmps24;go_wp2_with fail;go_ret;exact⟨by rw[←H.out];rfl,rfl⟩
end Go.Proofs.YtddfdpbaiedcjaaGreatDoor
namespace Go.Proofs.YtddfdpbaiedcjaaGreatDoor
open Go.RowKit Go.Shelf
attribute [local go_sem] Oper.semAt_some
theorem zoB(F:Fence)(n:Nat)(hF:F.fn 141)(a:F.round=none)(b o:Nat)(w:World) :
  CallsIn F n Tryz.prog 141 #[.pointer (some ⟨b,o,none⟩)] w fun e w'=>e = .returned (.func (.func 193) #[] #[.pointer (some ⟨w.heap.size,0,none⟩)])∧w'=w.alloc (.cells #[.pointer (some ⟨b,o,none⟩)] 114):=by
 refine callsIn_of_wp Tryz.func141 rfl hF ?_ a;simp only[Tryz.ntmps141,List.size_toArray,List.length_cons,List.length_nil,Nat.reduceAdd,Nat.reduceSub,Array.replicate_succ,Array.replicate_zero,List.push_toArray,List.append_toArray,List.nil_append,List.cons_append];gi_wp2;go_ret;exact⟨rfl,rfl⟩
end Go.Proofs.YtddfdpbaiedcjaaGreatDoor
namespace Go.Proofs.YtddfdpbaiedcjaaGreatDoor
open Go.RowKit Go.Shelf
attribute [local go_sem] Oper.semAt_some
abbrev RrP(p:Nat×Nat→Prop):={r:Nat×Nat // p r}
abbrev RgP(p:Nat×Nat→Prop):={x:Nat×(Nat×Nat) // p x.2}
def RgP.rr{p:Nat×Nat→Prop}(x:RgP p):RrP p:=⟨x.1.2,x.2⟩
def zaE(p:Nat×Nat→Prop)(rs:zD)(hp:∀i,p (loAt rs i,hiAt rs i))(k:Nat):List (RgP p):=(List.range k).map fun j=>⟨(rs.length-1-j,(loAt rs (rs.length-1-j),hiAt rs (rs.length-1-j))),hp _⟩
theorem zhk(p:Nat×Nat→Prop)(rs:zD)(a:∀i,p (loAt rs i,hiAt rs i))(k:Nat):zaE p rs a (k+1)=zaE p rs a k++[⟨(rs.length-1-k,(loAt rs (rs.length-1-k),hiAt rs (rs.length-1-k))),a _⟩]:=by unfold zaE;rw[List.range_succ,List.map_append];rfl
theorem zfr(p:Nat×Nat→Prop)(rs:zD)(hp:∀i,p (loAt rs i,hiAt rs i))(k:Nat):(zaE p rs hp k).length=k:=by unfold zaE;rw[List.length_map,List.length_range]
theorem ziN(p:Nat×Nat→Prop)(rs:zD)(hp:∀i,p (loAt rs i,hiAt rs i))(k:Nat):(zaE p rs hp k).map (·.1)=za0 rs k:=by unfold zaE za0;rw[List.map_map];rfl
theorem zmo(F:Fence)(n:Nat)(hF:F.fn 215)(B:F.round=none)(hn:1≤n)(l z cap:Nat)(a:Option Addr)(p:Nat×Nat→Prop)(rs:zD)(h:∀i,p (loAt rs i,hiAt rs i))(J A:List (RgP p)→World→Prop)
  (C:∀pre x W,J pre W→pre.length<rs.length→YieldAt F (n-1) Tryz.prog l (zpd x.1) W fun e W' =>
   (e = .returned (.bool true)∧J (pre++[x]) W'∧zb6 z a W W')∨(e = .returned (.bool false)∧A (pre++[x]) W'))
  (W:World) (j:W.cell? ⟨z,0,none⟩=some (.slice a rs.length cap)) (hr:RR W (.slice a rs.length cap) rs) (h0:J [] W) :
  CallsIn F n Tryz.prog 215 #[.func (.yield l) #[] #[],.pointer (some ⟨z,0,none⟩)] W fun e W'=>(∃v,e = .returned v) ∧
   ((∃ys,ys=zaE p rs h rs.length∧J ys W')∨(∃pre,(∃k,k≤rs.length∧pre=zaE p rs h k)∧A pre W')):=by
 obtain⟨_,_,e,r1,r2,D⟩:=hr;cases e;unfold maxLen at r2;have K:(rs.length:Int)≤9223372036854775807:=by omega
 refine callsIn_of_wp Tryz.func215 rfl hF ?_ B;simp only[Tryz.ntmps215,List.size_toArray,List.length_cons,List.length_nil,Nat.reduceAdd,Nat.reduceSub,Array.replicate_succ,Array.replicate_zero,List.push_toArray,List.append_toArray,List.nil_append,List.cons_append];gi_wp2
 gi_loopw [3] (fun i wr=>∃k:Nat,k≤rs.length∧i = .int .i64 ((rs.length:Int)-1-k)∧J (zaE p rs h k) wr∧zb6 z a W wr) (fun i _=>(intOf i+1).toNat)
 case atStart=>exact⟨0,Nat.zero_le _,by simp,h0,zb6.refl _ _ _⟩
 case round =>
  obtain⟨k,hk,rfl,c,b⟩:=hrel;by_cases E:k<rs.length
  ·obtain⟨q,L⟩:=nm (rs.length-1-k);have m:(rs.length:Int)-1-k=(q:Int):=by omega
   have G:q<rs.length:=by omega
   obtain⟨g,o,rfl,c1,c2,_,_⟩:=D q G;have d:=b.box j;have s:=b.row c1;have t:=b.row c2;obtain⟨fn,tmps,assign,body,M,N⟩:=C _ ⟨(q,(loAt rs q,hiAt rs q)),h q⟩ wr c (by rw[zfr];exact E);have HB:=zb (zhk p rs h k);have O:=zb L;have P:=zb c;have H:=zb m;unfold zpd at M;dsimp only at M;rw[m];clear L c D c1 c2 m;gi_wp2;refine N.mono ?_;clear N C;rintro e Q (⟨rfl,u,w⟩|⟨rfl,f⟩)
   ·have r:Hid (J (zaE p rs h (k+1)) Q):=by
     show J _ _;rw[HB.out,O.out];exact u
    have I:=zb (b.trans w);clear u w b d s t j;gi_wp2;go_roundw
    case rel=>exact⟨k+1,by omega,by rw[←H.out];congr 1;omega,r.out,I.out⟩
    case measure=>simp[intOf]
   ·have r:Hid (A (zaE p rs h (k+1)) Q):=by
     show A _ _;rw[HB.out,O.out];exact f
    clear f b d s t j;gi_wp2;refine bodyPost_ret (results_none rfl _ _ _) rfl ?_;exact⟨⟨_,rfl⟩,.inr ⟨_,⟨k+1,by omega,rfl⟩,r.out⟩⟩
  ·have y:k=rs.length:=by omega
   have P:=zb c;have HK:=zb y;have R:¬(0:Int)≤(rs.length:Int)-1-k:=by omega
   clear c y D C;gi_wp2
   go_end0
   exact⟨⟨_,rfl⟩,.inl (by rw[←HK.out];exact P.out)⟩
theorem ziO(F:Fence)(n:Nat)(hF:F.fn 215)(d:F.round=none)(hn:1≤n)(b cap:Nat)(a:Option Addr)(p:Nat×Nat→Prop)(rs:zD)(f:∀i,p (loAt rs i,hiAt rs i))(w:World)(c:w.cell? ⟨b,0,none⟩=some (.slice a rs.length cap))(hr:RR w (.slice a rs.length cap) rs) :
  SeqStopsK F n Tryz.prog 215 #[.pointer (some ⟨b,0,none⟩)] (fun x:RgP p=>zpd x.1) (zb6 b a) (fun ys=>ys=zaE p rs f rs.length) (fun pre=>∃k,k≤rs.length∧pre=zaE p rs f k) rs.length w:=fun l J Jx W h _ _ hY h0=>by
 have j:=zk c;refine zmo F n hF d hn l b cap a p rs f J Jx hY W ((h.cell (p:=⟨b,0,none⟩) j).trans c) ?_ h0;obtain⟨_,_,e,h1,h2,h3⟩:=hr;cases e;refine⟨_,_,rfl,h1,h2,fun i hi=>?_⟩;obtain⟨g,o,e,m,q2,q3,q4⟩:=h3 i hi;have q:=zk m;exact⟨g,o,e,(h.cell (p:=⟨g,_,none⟩) q).trans m,(h.cell (p:=⟨g,_,none⟩) q).trans q2,q3,q4⟩
theorem zmp(F:Fence)(n:Nat)(q:∀f,F.fn f)(t:F.round=none)(hn:4≤n)(l N b of lb cap:Nat)(a:Option Addr)(p:Nat×Nat→Prop)(rs:zD)(hp:∀i,p (loAt rs i,hiAt rs i))(J Jx:List (RrP p)→World→Prop)(W:World)
  (hY:∀pre x W1,J pre W1→pre.length<rs.length→YieldAt F (n-1-1-1) Tryz.prog l (zqL x.1) W1 fun e W' =>
   Mod (zd7 lb l a W1) W1 W'∧((e = .returned (.bool true)∧J (pre++[x]) W')∨(e = .returned (.bool false)∧Jx (pre++[x]) W')))
  (hJ:OwnFrom W.heap.size J) (O:OwnFrom W.heap.size Jx) (hs:W.cell? ⟨N,0,none⟩=some (.pointer (some ⟨b,of,none⟩))) (hb:W.cell? ⟨b,of,none⟩=some (.slice a rs.length cap)) (m:RR W (.slice a rs.length cap) rs) (hlb:lb<W.heap.size) (hl:l<W.heap.size) (P:∀g o,a=some ⟨g,o,none⟩→g<W.heap.size∧g≠lb∧g≠l) (h0:J [] W) :
  CallsIn F n Tryz.prog 193 #[.func (.yield l) #[] #[],.pointer (some ⟨N,0,none⟩)] W fun e W'=>(∃v,e = .returned v) ∧
   (J ((zaE p rs hp rs.length).map RgP.rr) W'∨∃k,k≤rs.length∧Jx ((zaE p rs hp k).map RgP.rr) W'):=by
 have Q:=zb hJ;have R:=zb O;have HY:=zb hY;have HR:=zb m;have H0:=zb h0;have aa:(W.alloc (.cells #[.func (.yield l) #[] #[]] 300)).cell? ⟨N,0,none⟩=some (.pointer (some ⟨b,of,none⟩)):=((Mod.refl NoB W).alloc _).cell (a:=⟨N,0,none⟩) (fun x=>x) hs;have ab:(W.alloc (.cells #[.func (.yield l) #[] #[]] 300)).cell? ⟨b,of,none⟩=some (.slice a rs.length cap):=((Mod.refl NoB W).alloc _).cell (a:=⟨b,of,none⟩) (fun x=>x) hb;have h1:1≤n:=by omega
 clear hJ O hY m h0;refine callsIn_of_wp_marks Tryz.func193 rfl (q _) ?_ t;simp only[Tryz.ntmps193,List.size_toArray,List.length_cons,List.length_nil,Nat.reduceAdd,Nat.reduceSub,Array.replicate_succ,Array.replicate_zero,List.push_toArray,List.append_toArray,List.nil_append,List.cons_append]
 gi_wp2_with (gi_at_call 194;refine(zll F (n-1) (q _) t _ _ _ _).mono ?_;rintro e w' ⟨rfl,rfl⟩)
 obtain⟨d,z⟩:=nm W.heap.size;have bY:Boxed ((W.alloc (.cells #[.func (.yield l) #[] #[]] 300)).alloc (.cells #[.slice a rs.length cap] 63)) d 300 (.func (.yield l) #[] #[]):=by
  rw[←z];exact(Boxed.new W _ _).alloc _
 have bS:Boxed ((W.alloc (.cells #[.func (.yield l) #[] #[]] 300)).alloc (.cells #[.slice a rs.length cap] 63)) (d+1) 63 (.slice a rs.length cap):=by
  have:=Boxed.new (W.alloc (.cells #[.func (.yield l) #[] #[]] 300)) 63 (.slice a rs.length cap);rw[World.size_alloc,z]at this;exact this
 have m0:Mod NoB W ((W.alloc (.cells #[.func (.yield l) #[] #[]] 300)).alloc (.cells #[.slice a rs.length cap] 63)):=((Mod.refl _ _).alloc _).alloc _;obtain⟨w1,u⟩:=nm (((W.alloc (.cells #[.func (.yield l) #[] #[]] 300)).alloc (.cells #[.slice a rs.length cap] 63)));have hs1:w1.heap.size=d+2:=by rw[←u];simp;omega
 have ac:J [] w1:=by rw[←u];exact Q.out.alloc _ (Q.out.alloc _ H0.out)
 rw[u]at bY bS m0 ⊢;rw[z];have ad:=HR.out.mod m0 (zaX.no _);clear u aa ab;refine wpIn_rangeFunc_ownH t h1 (gf:=215) (lb:=#[.pointer (some ⟨d+1,0,none⟩)]) rfl (q _) (enters_of Tryz.func215 (by kernel_rfl) rfl)
  (ziO F (n-1) (q _) t (by omega) (d+1) cap a p rs hp w1 bS.cell ad) (fun h k=>h.trans k) ?hKb (Below.refl _ _) (fun _=>rfl)
  (fun pre X=>(J (pre.map RgP.rr) X∧Boxed X d 300 (.func (.yield l) #[] #[]))∧Boxed X (d+1) 63 (.slice a rs.length cap))
  (fun c pre X=>c = .ret∧Jx (pre.map RgP.rr) X) ?hI ?hIx ⟨⟨ac,bY⟩,bS⟩
  (fun x a' X=>∃rb,a'={ tmps:=#[.func (.yield l) #[] #[],.pointer (some ⟨N,0,none⟩),.pointer (some ⟨d,0,none⟩),undef,.pointer (some ⟨rb,0,none⟩),.pointer (some ⟨b,of,none⟩),.pointer (some ⟨b,of,none⟩),.pointer (some ⟨b,of,none⟩),.slice a rs.length cap,.func (.func 215) #[] #[.pointer (some ⟨d+1,0,none⟩)],.int .i64 (x.1.1:Int),.agg #[.int .u64 (x.1.2.1:Int),.int .u64 (x.1.2.2:Int)],undef,undef,undef,undef],defers:=[] } ∧
   X.heap[rb]?=some (.cells #[.int .u64 (x.1.2.1:Int),.int .u64 (x.1.2.2:Int)] 214 (0,0))) ?hAx ?assign ?body ?done ?stop
 case hKb =>
  intro X l2 o o' hl2 _ _ _;exact⟨World.putObj_heap_other (by omega),fun g o e=>World.putObj_heap_other (by have:=(P g o e).1;omega)⟩
 case hI =>
  exact OwnFrom.and (OwnFrom.and (fun s A B row hs hg m=>Q.out _ A B row hs hg (fun r e=>⟨by have:=(m r e).1;omega,(m r e).2⟩)) (Own.from (boxed_own d _ (fun _=>_)) _)) (Own.from (boxed_own (d+1) _ (fun _=>_)) _)
 case hIx =>
  intro c s A B row hs hg m;exact⟨hs.1,R.out _ A B row hs.2 hg (fun r e=>⟨by have:=(m r e).1;omega,(m r e).2⟩)⟩
 case hAx =>
  intro x a' s A B row hs hg m;obtain⟨rb,e,C⟩:=hs;refine⟨rb,e,(hg.block rb (Array.getElem?_eq_some_iff.1 C).1 (fun e2=>?_)).trans C⟩;obtain⟨_,o,S,E⟩:=m rb e2.symm;rw[C]at S;cases S;cases E
 case assign =>
  intro l' pre x X K hI G;unfold zpd;gi_wp2;refine G _ _ ((KeepsOthers.alloc X _).from _) ⟨Below.heap_alloc _ _ _ hI.2.lt,fun g o e=>Below.heap_alloc _ _ _ ?_⟩ ⟨⟨?_,hI.1.2.alloc _⟩,hI.2.alloc _⟩ ⟨X.heap.size,rfl,heap_alloc_new X _⟩
  ·have q1:=(P g o e).1;have q2:=hI.2.lt;omega
  ·exact Q.out.alloc _ hI.1.1
 case body =>
  rintro l' pre x a' X hl' T ⟨⟨H,hy⟩,I⟩ ⟨rb,rfl,U⟩ ae;have yc:=hy.cell;have r0:X.cell? ⟨rb,0,none⟩=some (.int .u64 (x.1.2.1:Int)):=za U rfl;have r1:X.cell? ⟨rb,1,none⟩=some (.int .u64 (x.1.2.2:Int)):=za U rfl;obtain⟨fn,tmps,assign,body,w,hR⟩:=HY.out (pre.map RgP.rr) x.rr X H (by simpa using ae);unfold zqL RgP.rr at w;dsimp only at w;have hn1:1≤n-1-1:=by omega
  have HJP:=zb H;clear H T;have af:=zb hR;clear hR;gi_wp2;refine RoundIn.mono (F:=F.inRound l') (show RoundIn (F.inRound l') _ _ _ _ _ _ _ _ _ from af.out) ?_;rintro e X3 ⟨L,V⟩;have Y:=hy.lt;have j:=I.lt;have nY:¬zd7 lb l a X d:=by
   rintro(h|h|⟨_,cs,fz,h⟩)
   ·omega
   ·omega
   ·rw[show X.heap[d]?=_ from hy]at h;simp at h
  have nS:¬zd7 lb l a X (d+1):=by
   rintro(h|h|⟨_,cs,fz,h⟩)
   ·omega
   ·omega
   ·rw[show X.heap[d+1]?=_ from I]at h;simp at h
  have Z:Hid (KeepsFrom w1.heap.size X X3):=⟨L.size,fun k o hk C E=>by
   refine(L.block k (Array.getElem?_eq_some_iff.1 C).1 ?_).trans C;rintro(h|h|⟨_,cs,fz,h⟩)
   ·omega
   ·omega
   ·rw[C]at h;cases h;cases E⟩
  have ah:Hid (zb6 (d+1) a X X3):=⟨L.block _ j nS,fun g o e=>L.block _ (by have:=(P g o e).1;omega) (by
   rintro(h|h|⟨h,_⟩)
   ·exact(P g o e).2.1 h
   ·exact(P g o e).2.2 h
   ·exact h g o e rfl)⟩
  have ai:Hid (Boxed X3 d 300 (.func (.yield l) #[] #[])):=(L.block _ Y nY).trans hy;have aj:Hid (Boxed X3 (d+1) 63 (.slice a rs.length cap)):=(L.block _ j nS).trans I;clear nY nS L Y j;rcases V with⟨rfl,y⟩|⟨rfl,y⟩
  ·have M:=zb y;clear y yc w;gi_wp2;exact⟨Z.out,ah.out,⟨by rw[List.map_append];exact M.out,ai.out⟩,aj.out⟩
  ·have M:=zb y;clear y yc w;gi_wp2;exact⟨Z.out,rfl,by rw[List.map_append];exact M.out⟩
 case done =>
  rintro D ys X hD rfl ⟨⟨y,_⟩,_⟩ G;gi_wp2;refine⟨by simp,.inl ⟨_,_,rfl,run_takeDeferred G,?_⟩⟩;exact⟨_,results_none rfl _ _ _,⟨_,rfl⟩,.inl (Q.out.putObj _ y (by omega) G rfl)⟩
 case stop =>
  rintro D c pre X hD ⟨k,hk,rfl⟩ ⟨rfl,y⟩ G;gi_wp2;refine⟨by simp,.inl ⟨_,_,rfl,run_takeDeferred G,?_⟩⟩;exact⟨_,results_none rfl _ _ _,⟨_,rfl⟩,.inr ⟨k,hk,R.out.putObj _ y (by omega) G rfl⟩⟩
end Go.Proofs.YtddfdpbaiedcjaaGreatDoor
namespace Go.Proofs.YtddfdpbaiedcjaaGreatDoor
open Go
theorem zku{P:Program}{o:Oper}{a:Act}{K:Act→World→Prop}{Q:Exit→Act→World→Prop}{r:Result Next}(l n:Nat)(h:o.upon P a K Q r):o.uponIn (Fence.wide.inRound l) n P a K Q r:=by
 unfold Oper.upon at h;unfold Oper.uponIn;split at h<;>simp only[]at h ⊢
 ·exact h
 ·exact h
 ·exact h
 ·exact⟨fun x=>by simp[Fence.wide]at x,callsIn_wide.2 h⟩
 ·refine⟨fun x=>by simp[Fence.wide]at x,fun c cs _=>?_⟩;obtain⟨v,w',hr,s⟩:=h c cs;exact⟨v,w',hr,stepsIn_wide.2 s⟩
 ·exact h
theorem zeP{P:Program}{md:Region.Mode}{ops:Array Oper}{Q:Exit→Act→World→Prop}(l n:Nat)(hd:∀(i:Nat) o,ops[i]?=some o→∀c,o.op≠.defer c)(d:¬LetsOut Q) :
  ∀(b:Nat) (L:Array Bool) (a:Act) (w:World),wpAny P md ops Q b L a w→wpAnyIn (Fence.wide.inRound l) n P md ops Q b L a w
 | 0,_,_,_,h=>h
 | b+1,L,a,w,h=>by
  refine⟨h.1,fun i hi=>?_⟩;have h1:=h.2 i hi;have hk:∀a w,wpAny P md ops Q b (L.setIfInBounds i true) a w→wpAnyIn (Fence.wide.inRound l) n P md ops Q b (L.setIfInBounds i true) a w:=fun a w x=>zeP l n hd d b _ a w x
  refine wpOpIn_mono hk ?_;unfold wpOp at h1;unfold wpOpIn;cases ho:ops[i]? with
  | none =>
   rw[ho]at h1;exact h1
  | some o =>
   rw[ho]at h1;simp only[]at h1 ⊢;by_cases e:Region.wanted o (yielded ops a.tmps)=true
   ·simp only[e,if_true]at h1 ⊢;rcases h1 with h1|⟨_,h1⟩
    ·refine⟨fun _ _=>trivial,?_⟩;rw[show(Fence.wide.inRound l).round=some l from rfl,Oper.semAt_some l _ _ (hd i o ho)];exact zku l n h1
    ·exact absurd h1 d
   ·simp only[e,Bool.false_eq_true,if_false]at h1 ⊢;exact⟨fun _ _=>trivial,h1⟩
def zgp(ops:Array Oper):Bool:=ops.all fun o=>match o.op with|.defer _=>false|_=>true
theorem zhl{ops:Array Oper}(h:zgp ops=true)(i:Nat)(o:Oper)(a:ops[i]?=some o):∀c,o.op≠.defer c:=by
 intro c e;have:=(Array.all_eq_true.1 h) i (Array.getElem?_eq_some_iff.1 a).1;rw[(Array.getElem?_eq_some_iff.1 a).2,e]at this;cases this
theorem zhm{P:Program}{ops:Array Oper}{Q:Exit→Act→World→Prop}{id:Nat}{a:Act}{w:World}{l n:Nat}(hm:P.follows .mixedOrders=true)(hd:zgp ops=true)(hq:¬LetsOut Q)
  (h:wpAny P .any ops Q ops.size (Array.replicate ops.size false) a w.drew):(Code.region id ops true).wpIn (Fence.wide.inRound l) n P Q a w :=
 wpIn_region_any hm (zeP l n (zhl hd) hq _ _ _ _ h)
theorem zoD{P:Program}{ops:Array Oper}{Q:Exit→Act→World→Prop}{id:Nat}{a:Act}{w:World}{l n:Nat}(k:Nat)(F:World→Prop)(hm:P.follows .mixedOrders=true)(hd:zgp ops=true)(hs:Region.noSelect ops=true)(hF:F w.drew)
  (h:GT P .any ops (fun e a w=>e = .normal∧Q .normal a w) k F ops.size (Array.replicate ops.size false) a w.drew):(Code.region id ops true).wpIn (Fence.wide.inRound l) n P Q a w:=by
 have hx:(Code.region id ops true).wpIn (Fence.wide.inRound l) n P (fun e a w=>e = .normal∧Q .normal a w) a w:=by
  refine zhm hm hd ?_ (zdP _ _ _ _ (h ⟨hs,by simp,fun j oj _ b=>?_⟩ (.inr hF)))
  ·rintro⟨_,_,x,_⟩;cases x
  ·have:(Array.replicate ops.size false).getD j false=false:=getD_replicate_false ops.size j;rw[this]at b;cases b
 exact Go.wpIn_mono hx (fun e a w k=>by rw[k.1];exact k.2)
end Go.Proofs.YtddfdpbaiedcjaaGreatDoor
namespace Go.Proofs.YtddfdpbaiedcjaaGreatDoor
open Go.RowKit
theorem zqp(w:World)(v:Value)(l:List UInt8)(h:BR w v l)(hl:l.length≤70368744177664) :
  ∃v' w',(∀ty,(Builtin.append_ #[60,60] ty #[.slice none 0 0,v]).run Tryz.prog w = .ok v' w')∧OB w' v' l∧Mod NoB w w'∧(∀g,v'.ownBlock=some g→w.heap.size≤g):=by
 obtain⟨i,b,r,f,m⟩:=info_parts zfZ;obtain⟨a,cap,rfl,h1,h2,h3⟩:=id h;by_cases h0:l.length=0
 ·have p:l=[]:=List.eq_nil_of_length_eq_zero h0;subst p;cases a with
  | none =>
   refine⟨.slice none 0 0,w,fun ty=>?_,OB.nil w,Mod.refl _ _,fun g hg=>by cases hg⟩;simp[Builtin.append_,run_underlying Tryz.underlying60,sizeOf,typeInfo,b,Builtin.lenOf,Builtin.firstCells,loadCells,loadCellsFrom]
  | some a =>
   obtain⟨v',w',q,n,k3,k4⟩:=zH (P:=Tryz.prog) w 60 5 i (.int .u8 0) 1 1 Tryz.underlying60 b r f m rfl (by decide) (.slice none 0 0) 0 [] (World.ownsRow_nil w 0 _ 1)
    a 0 cap [] rfl (by intro j u d;cases d) (by intro u d;cases d) (by unfold maxLen;omega) (by omega)
   exact⟨v',w',q,n,(Mod.refl _ w).grown k3 (fun k hk=>by cases hk),fun g hg=>(k4 g hg).elim (fun x=>by cases x) id⟩
 ·obtain⟨g,o,rfl,_⟩:=h3 0 l[0] (List.getElem?_eq_getElem (by omega));obtain⟨v',w',q,n,k3,k4⟩:=zH (P:=Tryz.prog) w 60 5 i (.int .u8 0) 1 1 Tryz.underlying60 b r f m rfl (by decide) (.slice none 0 0) 0 [] (World.ownsRow_nil w 0 _ 1)
   ⟨g,o,none⟩ l.length cap (zO l) (by rw[zal,Nat.mul_one]) (by
    intro j u d;simp only[zO,List.getElem?_map,Option.map_eq_some_iff]at d;obtain⟨c,hc,rfl⟩:=d;obtain⟨g',o',e,hh⟩:=h3 j c hc;cases e;rw[addr_add];exact hh) (zdN l) (by unfold maxLen;omega) (by omega)
  refine⟨v',w',q,?_,(Mod.refl _ w).grown k3 (fun k hk=>by cases hk),fun g hg=>(k4 g hg).elim (fun x=>by cases x) id⟩;rw[Nat.zero_add,List.nil_append]at n;exact n
theorem zh9.nil(w:World):zh9 w (.slice none 0 0) []:=⟨World.ownsRow_nil w 0 _ 10,fun x hx=>by cases hx⟩
def zfv(S:Nat→Prop)(w wr:World):Prop :=
 Mod S w wr∧∀k,S k→∀cs t,w.heap[k]?=some (.cells cs t (0,0))→∃cs',wr.heap[k]?=some (.cells cs' t (0,0))∧cs'.size=cs.size
theorem zfv.refl(S:Nat→Prop)(w:World):zfv S w w:=⟨Mod.refl _ _,fun _ _ cs _ h=>⟨cs,h,rfl⟩⟩
theorem zfv.set{S:Nat→Prop}{w wr:World}(h:zfv S w wr){b:Nat}(hb:S b)(i:Nat)(v:Value):zfv S w (wr.setCell ⟨b,i,none⟩ v):=by
 refine⟨h.1.setCell (p:=⟨b,i,none⟩) (.inl hb) v,fun k hk cs t hc=>?_⟩;obtain⟨a,h1,h2⟩:=h.2 k hk cs t hc;by_cases e:k=b
 ·subst e;exact⟨_,zc h1,by simpa using h2⟩
 ·exact⟨a,((Mod.refl (fun x=>x=b) wr).setCell (p:=⟨b,i,none⟩) (.inl rfl) v).obj e h1,h2⟩
theorem zfv.cell{S:Nat→Prop}{w wr:World}(h:zfv S w wr){b t:Nat}{cs:Array Value}(hb:S b)(hc:w.heap[b]?=some (.cells cs t (0,0))){i:Nat}(hi:i<cs.size) :
  (∃v,wr.cell? ⟨b,i,none⟩=some v)∧wr.frozen? ⟨b,i,none⟩=false:=by
 obtain⟨a,h1,h2⟩:=h.2 b hb cs t hc;exact⟨⟨a[i],za h1 (Array.getElem?_eq_getElem (by omega))⟩,zd h1⟩
def Lists(v:Value)(a:List (Frm×Value)):Nat→Prop:=fun k=>v.ownBlock=some k∨∃x∈a,x.2.ownBlock=some k
def zfR(W:World)(g:Nat)(v:Value)(a:List (Frm×Value))(k:Nat)(wr:World):Prop :=
 zfv (Lists v a) W wr∧∀j x,k≤j→a[j]?=some x→wr.cell? ⟨g,j*10+9,none⟩=some x.2
theorem zfR.more{W wr:World}{g k:Nat}{v:Value}{a:List (Frm×Value)}(h:zfR W g v a k wr):zfR W g v a (k+1) wr:=⟨h.1,fun j x hj=>h.2 j x (by omega)⟩
theorem zfR.set{W wr:World}{g k i:Nat}{v:Value}{a:List (Frm×Value)}(h:zfR W g v a (k+1) wr)(hg:Lists v a g)(hi:i<k*10+10)(u:Value):zfR W g v a (k+1) (wr.setCell ⟨g,i,none⟩ u):=by
 refine⟨h.1.set hg i u,fun j x hj hx=>?_⟩;rw[World.cell?_setCell_other _ _ _ _ (by simp<;>omega)];exact h.2 j x hj hx
theorem zqy{w:World}{e sz n:Nat}{g cap:Nat}{xs:List Value}(h:w.ownsRow 0 e sz (.slice (some ⟨g,0,none⟩) n cap) n xs):∃cur,w.heap[g]?=some (.cells cur e (0,0))∧cur.size=cap*sz∧n≤cap:=by
 rcases h.2 with⟨a,_⟩|⟨g',b,cur,a,_,hg,h1,_,h3,_⟩
 ·cases a
 ·cases a;exact⟨cur,hg,h3,h1⟩
def At(bs:List UInt8)(pos:Nat)(l:List UInt8):Prop:=∃pre post,bs=pre++(l++post)∧pre.length=pos
theorem At.left{bs:List UInt8}{pos:Nat}{a b:List UInt8}(h:At bs pos (a++b)):At bs pos a:=by
 obtain⟨pre,post,rfl,rfl⟩:=h;exact⟨pre,b++post,by simp,rfl⟩
theorem At.right{bs:List UInt8}{pos:Nat}{a b:List UInt8}(h:At bs pos (a++b)):At bs (pos+a.length) b:=by
 obtain⟨pre,post,rfl,rfl⟩:=h;exact⟨pre++a,post,by simp,by simp⟩
theorem At.le{bs:List UInt8}{pos:Nat}{a:List UInt8}(h:At bs pos a):pos+a.length≤bs.length:=by
 obtain⟨pre,post,rfl,rfl⟩:=h;simp
theorem At.head{bs:List UInt8}{pos:Nat}{a:UInt8}{l:List UInt8}(h:At bs pos (a::l)):bs[pos]?=some a:=by
 obtain⟨pre,post,rfl,rfl⟩:=h;simp
theorem At.tail{bs:List UInt8}{pos:Nat}{a:UInt8}{l:List UInt8}(h:At bs pos (a::l)):At bs (pos+1) l:=At.right (a:=[a]) h
theorem At.sub{bs:List UInt8}{pos:Nat}{l:List UInt8}(h:At bs pos l):(bs.drop pos).take l.length=l:=by
 obtain⟨pre,post,rfl,rfl⟩:=h;simp
theorem zaU{bs:List UInt8}{pos n:Nat}(hn:n<4611686018427387904)(h:At bs pos (zL n)):zaq bs pos=some (n,pos+(zL n).length):=by
 have a:=h.le;unfold zL at h a ⊢;unfold zaq;split at h
 ·rename_i h1;rw[h.head];have e:(UInt8.ofNat n).toNat=n:=by rw[UInt8.toNat_ofNat'];omega
  have b:vsz (UInt8.ofNat n)=1:=by unfold vsz;rw[e];rw[show n / 64=0 by omega]
  simp only[h1,if_true]at a ⊢;simp only[List.length_singleton]at a;rw[b];rw[if_pos a];simp[zcT,e];omega
 ·rename_i h1;split at h
  ·rename_i h2;rw[h.head];have e:(UInt8.ofNat (n / 256+64)).toNat=n / 256+64:=by rw[UInt8.toNat_ofNat'];omega
   have b:vsz (UInt8.ofNat (n / 256+64))=2:=by unfold vsz;rw[e];rw[show(n / 256+64) / 64=1 by omega]
   simp only[h1,h2,if_true,if_false]at a ⊢;simp only[List.length_cons,List.length_nil]at a;rw[b];rw[if_pos (by omega)];have hs:=h.tail.sub;simp only[List.length_cons,List.length_nil]at hs;simp only[Nat.zero_add]at hs;rw[show(2:Nat)-1=1 from rfl,hs];simp[zcT,UInt8.toNat_ofNat'];omega
  ·rename_i h2;split at h
   ·rename_i h3;rw[h.head];have e:(UInt8.ofNat (n / 16777216+128)).toNat=n / 16777216+128:=by rw[UInt8.toNat_ofNat'];omega
    have b:vsz (UInt8.ofNat (n / 16777216+128))=4:=by unfold vsz;rw[e];rw[show(n / 16777216+128) / 64=2 by omega]
    simp only[h1,h2,h3,if_true,if_false]at a ⊢;simp only[List.length_cons,List.length_nil]at a;rw[b];rw[if_pos (by omega)];have hs:=h.tail.sub;simp only[List.length_cons,List.length_nil]at hs;simp only[Nat.zero_add]at hs;rw[show(4:Nat)-1=1+1+1 from rfl,hs];simp[zcT,UInt8.toNat_ofNat'];omega
   ·rename_i h3;rw[h.head];have e:(UInt8.ofNat (n / 72057594037927936+192)).toNat=n / 72057594037927936+192:=by rw[UInt8.toNat_ofNat'];omega
    have b:vsz (UInt8.ofNat (n / 72057594037927936+192))=8:=by unfold vsz;rw[e];rw[show(n / 72057594037927936+192) / 64=3 by omega]
    simp only[h1,h2,h3,if_false]at a ⊢;simp only[List.length_cons,List.length_nil]at a;rw[b];rw[if_pos (by omega)];have hs:=h.tail.sub;simp only[List.length_cons,List.length_nil]at hs;simp only[Nat.zero_add]at hs;rw[show(8:Nat)-1=1+1+1+1+1+1+1 from rfl,hs];simp[zcT,UInt8.toNat_ofNat'];omega
theorem zdM{bs:List UInt8}{pos n:Nat}(hn:n<8)(h:At bs pos (zL n)):zam bs pos=some (n,pos+(zL n).length):=by
 unfold zam;rw[zaU (by omega) h];simp[hn]
theorem zjh{bs:List UInt8}{pos:Nat}{l:List UInt8}(hn:l.length<4611686018427387904)(h:At bs pos (zL l.length++l)):zbv bs pos=some (l,pos+(zL l.length++l).length):=by
 unfold zbv;rw[zaU hn h.left];have h2:=h.right.le;have h3:=h.right.sub;simp only[Option.bind_some];rw[if_pos (by omega),h3];simp;omega
theorem zhS(rs:zD)(k:Nat):∀m,k≤m→∃t,zcW rs m=zcW rs k++t∧(k<m→∃u,t=zL (loAt rs k-hiAt rs (k+1)-2)++(zL (hiAt rs (k+1)-loAt rs (k+1))++u)∧zcW rs m=zcW rs (k+1)++u)
 | 0,h=>⟨[],by simp[show k=0 by omega],fun x=>by omega⟩
 | m+1,h=>by
  by_cases hk:k=m+1
  ·subst hk;exact⟨[],by simp,fun x=>by omega⟩
  ·obtain⟨t,h1,h2⟩:=zhS rs k m (by omega);refine⟨t++(zL (loAt rs m-hiAt rs (m+1)-2)++zL (hiAt rs (m+1)-loAt rs (m+1))),?_,fun _=>?_⟩
   ·simp only[zcW,h1,List.append_assoc]
   ·by_cases hm:k=m
    ·subst hm;have:t=[]:=by
      have:=congrArg List.length h1;simp at this;exact this
     subst this;exact⟨[],by simp,by simp⟩
    ·obtain⟨u,e1,e2⟩:=h2 (by omega);refine⟨u++(zL (loAt rs m-hiAt rs (m+1)-2)++zL (hiAt rs (m+1)-loAt rs (m+1))),?_,?_⟩
     ·rw[e1];simp only[List.append_assoc]
     ·simp only[zcW,e2,List.append_assoc]
theorem zhT(rs:zD)(k:Nat)(hk:k<rs.length):rs.take (k+1)=rs.take k++[(loAt rs k,hiAt rs k)]:=by
 rw[List.take_add_one,List.getElem?_eq_getElem hk];unfold loAt hiAt;rw[List.getD_eq_getElem?_getD,List.getElem?_eq_getElem hk];rfl
theorem zm8{bs:List UInt8}(rs:zD)(hs:zav rs=true):∀(d k a pos:Nat) (l:List UInt8),rs.length=k+1+d→d<a→zcW rs (rs.length-1)=zcW rs k++l→At bs pos l →
  zcX bs a (hiAt rs k) d (hiAt rs k-loAt rs k) pos (rs.take k)=some (rs,pos+l.length)
 | 0,k,a+1,pos,l,hl,hf,he,ha=>by
  obtain⟨f1,f2,f3⟩:=zcN hs (i:=k) (by omega);have:l=[]:=by
   have:=congrArg List.length he;rw[show rs.length-1=k by omega]at this;simp at this;exact this
  subst this;unfold zcX;rw[if_neg (by omega),if_pos rfl];have e:=zhT rs k (by omega);rw[show hiAt rs k-(hiAt rs k-loAt rs k)=loAt rs k by omega,←e,List.take_of_length_le (by omega)];simp
 | d+1,k,a+1,pos,l,hl,hf,he,ha=>by
  obtain⟨f1,f2,f3⟩:=zcN hs (i:=k) (by omega);obtain⟨g1,g2,b⟩:=zcN hs (i:=k+1) (by omega);have b:=b (by omega);simp only[Nat.add_sub_cancel]at b;obtain⟨t,e1,e2⟩:=zhS rs k (rs.length-1) (by omega);have:t=l:=List.append_cancel_left (e1.symm.trans he);subst this;obtain⟨u,e3,e4⟩:=e2 (by omega);subst e3;unfold zcX;rw[if_neg (by omega),if_neg (by omega)];rw[zaU (by omega) ha.left];simp only[Option.bind_some];rw[zaU (by omega) ha.right.left];simp only[Option.bind_some];have e5:hiAt rs k-(hiAt rs k-loAt rs k)=loAt rs k:=by omega
  rw[e5,if_neg (by omega)];have:=zm8 rs hs d (k+1) a (pos+(zL (loAt rs k-hiAt rs (k+1)-2)).length+(zL (hiAt rs (k+1)-loAt rs (k+1))).length) u (by omega) (by omega) e4 (ha.right.right);rw[zhT rs k (by omega)]at this;rw[show loAt rs k-2-(loAt rs k-hiAt rs (k+1)-2)=hiAt rs (k+1)by omega,Nat.add_sub_cancel,this];simp only[List.length_append]
  congr 2
  omega
def zbe(f:Frm):Frm :=
 let z:Frm:=f0 f.kind false
 if f.kind=1 then z
 else if f.kind=2 then{ z with rngs:=f.rngs }
 else if f.kind=3 then{ z with stream:=f.stream,off:=f.off,rel:=f.rel }
 else if f.kind=4 then{ z with stream:=f.stream,off:=f.off,fin:=f.fin,data:=f.data }
 else if f.kind=5 then{ z with lim:=f.lim }
 else if f.kind=6 then{ z with stream:=f.stream,lim:=f.lim }
 else if f.kind=7 then{ z with id:=f.id,dl:=f.dl,data:=f.data }
 else{ z with lim:=f.lim }
theorem zj0{f:Frm}(h:zT f=true):f.kind=1∨f.kind=2∨f.kind=3∨f.kind=4∨f.kind=5∨f.kind=6∨f.kind=7∨f.kind=8:=by
 simp only[zT,zK,Bool.and_eq_true]at h;obtain⟨_,h⟩:=h;by_cases h2:f.kind=2
 ·omega
 ·by_cases h3:f.kind=3
  ·omega
  ·by_cases h4:f.kind=4
   ·omega
   ·simp only[h2,h3,h4,if_false,Bool.and_eq_true,decide_eq_true_eq]at h;omega
theorem ze7{f:Frm}(h:zT f=true):f.off≤4611686018427387903∧f.rel≤4611686018427387903∧f.lim≤4611686018427387903∧f.id≤4611686018427387903∧f.dl≤4611686018427387903∧0≤f.stream∧f.stream<8∧zK f=true:=by
 simp only[zT,zaz,zh8,zbA,Bool.and_eq_true,List.all_cons,List.all_nil,decide_eq_true_eq]at h;obtain⟨⟨h1,h2⟩,h3⟩:=h;exact⟨h1.1,h1.2.1,h1.2.2.1,h1.2.2.2.1,h1.2.2.2.2.1,h2.1,h2.2,h3⟩
theorem zfS(f:Frm):(zbe f).kind=f.kind:=by
 unfold zbe;simp only;repeat' split
 all_goals rfl
theorem zji{f:Frm}(h:zT f=true):zT (zbe f)=true:=by
 obtain⟨a1,a2,a3,a4,a5,a6,a7,a⟩:=ze7 h;rcases zj0 h with hk|hk|hk|hk|hk|hk|hk|hk;all_goals
  simp only[zK,hk]at a;simp[zbe,hk,zT,zaz,zh8,zbA,zK,f0]at a ⊢;try omega
 all_goals exact a
theorem zhU(f:Frm):0<(zC f).length:=by
 unfold zC;repeat' split
 all_goals simp[za3,zcy,zcA,zbX,zcx,zcz,zlb]
theorem zo5{bs:List UInt8}{pos:Nat}{f:Frm}(h:zT f=true)(hd:f.data.length<4611686018427387904)(hr:f.rngs.length<4611686018427387904)(a:At bs pos (zC f)):za5 bs pos=some (zbe f,pos+(zC f).length):=by
 have c:=zji h;have hck:=zfS f;obtain⟨a1,a2,a3,a4,a5,a6,a7,a8⟩:=ze7 h;have g:((f.stream.toNat:Nat):Int)=f.stream:=Int.toNat_of_nonneg a6;unfold za5;rcases zj0 h with hk|hk|hk|hk|hk|hk|hk|hk
 ·have eb:zC f=[1]:=by simp[zC,hk]
  rw[eb]at a ⊢;rw[a.head];have er:zG 1 false bs (pos+1)=some (zbe f,pos+1):=by simp[zG,zbe,hk]
  simp[zbb,er,c]
 ·have eb:zC f=2::(zL (hiAt f.rngs 0)++(zL (f.rngs.length-1)++(zL (hiAt f.rngs 0-loAt f.rngs 0)++zcW f.rngs (f.rngs.length-1)))):=by simp[zC,hk,za3]
  rw[eb]at a ⊢;rw[a.head];have i:zav f.rngs=true:=by simpa [zK,hk]using a8
  have l:0<f.rngs.length:=by
   simp only[zav,Bool.and_eq_true,decide_eq_true_eq]at i;exact i.2
  obtain⟨g1,g2,_⟩:=zcN i l;have b:=a.tail;have d:=zaU (by omega) b.left;have e:=zaU (by omega) b.right.left;have j:=zaU (by omega) b.right.right.left;have hle:=b.right.right.right.le;have m:f.rngs.length-1<bs.length+1:=by
   have:∀k,2*k≤(zcW f.rngs k).length:=by
    intro k;have o:∀n,1≤(zL n).length:=by
     intro n;unfold zL;repeat' split
     all_goals simp
    induction k with
    | zero=>simp
    | succ k ih =>
     have:=o (loAt f.rngs k-hiAt f.rngs (k+1)-2);have:=o (hiAt f.rngs (k+1)-loAt f.rngs (k+1));simp only[zcW,List.length_append];omega
   have:=this (f.rngs.length-1);omega
  have p:=zm8 f.rngs i (f.rngs.length-1) 0 (bs.length+1) _ _ (by omega) m (by simp[zcW]) b.right.right.right;simp only[List.take_zero]at p;have er:zG 2 false bs (pos+1)=some (zbe f,pos+(2::(zL (hiAt f.rngs 0)++(zL (f.rngs.length-1)++(zL (hiAt f.rngs 0-loAt f.rngs 0)++zcW f.rngs (f.rngs.length-1))))).length):=by
   rw[show zG 2 false bs (pos+1)=rd2 false bs (pos+1)by simp[zG],rd2,d];simp only[Option.bind_some];rw[e];simp only[Option.bind_some];rw[j];simp only[Option.bind_some];rw[p];simp[zbe,hk];omega
  simp[zbb,er,c]
 ·have eb:zC f=36::(zL f.stream.toNat++(zL f.off++zL f.rel)):=by simp[zC,hk,zcy]
  rw[eb]at a ⊢;rw[a.head];have b:=a.tail;have d:=zdM (by omega) b.left;have e:=zaU (by omega) b.right.left;have j:=zaU (by omega) b.right.right;have er:zG 3 false bs (pos+1)=some (zbe f,pos+(36::(zL f.stream.toNat++(zL f.off++zL f.rel))).length):=by
   rw[show zG 3 false bs (pos+1)=rd3 false bs (pos+1)by simp[zG],rd3,d];simp only[Option.bind_some];rw[e];simp only[Option.bind_some];rw[j];simp[zbe,hk,g];omega
  simp[zbb,er,c]
 ·cases hfin:f.fin
  ·have eb:zC f=8::(zL f.stream.toNat++(zL f.off++(zL f.data.length++f.data))):=by simp[zC,hk,zcA,hfin]
   rw[eb]at a ⊢;rw[a.head];have b:=a.tail;have d:=zdM (by omega) b.left;have e:=zaU (by omega) b.right.left;have j:=zjh hd b.right.right;have er:zG 4 false bs (pos+1)=some (zbe f,pos+(8::(zL f.stream.toNat++(zL f.off++(zL f.data.length++f.data)))).length):=by
    rw[show zG 4 false bs (pos+1)=rd4 false bs (pos+1)by simp[zG],rd4,d];simp only[Option.bind_some];rw[e];simp only[Option.bind_some];rw[j];simp[zbe,hk,g,hfin,f0];omega
   simp[zbb,er,c]
  ·have eb:zC f=9::(zL f.stream.toNat++(zL f.off++(zL f.data.length++f.data))):=by simp[zC,hk,zbX,hfin]
   rw[eb]at a ⊢;rw[a.head];have b:=a.tail;have d:=zdM (by omega) b.left;have e:=zaU (by omega) b.right.left;have j:=zjh hd b.right.right;have er:zG 4 true bs (pos+1)=some (zbe f,pos+(9::(zL f.stream.toNat++(zL f.off++(zL f.data.length++f.data)))).length):=by
    rw[show zG 4 true bs (pos+1)=rd4 true bs (pos+1)by simp[zG],rd4,d];simp only[Option.bind_some];rw[e];simp only[Option.bind_some];rw[j];simp[zbe,hk,g,hfin,f0];omega
   simp[zbb,er,c]
 ·have eb:zC f=16::zL f.lim:=by simp[zC,hk,zlb]
  rw[eb]at a ⊢;rw[a.head];have d:=zaU (by omega) a.tail;have er:zG 5 false bs (pos+1)=some (zbe f,pos+(16::zL f.lim).length):=by
   rw[show zG 5 false bs (pos+1)=zbE 5 false bs (pos+1)by simp[zG],zbE,d];simp[zbe,hk];omega
  simp[zbb,er,c]
 ·have eb:zC f=17::(zL f.stream.toNat++zL f.lim):=by simp[zC,hk,zcx]
  rw[eb]at a ⊢;rw[a.head];have b:=a.tail;have d:=zdM (by omega) b.left;have e:=zaU (by omega) b.right;have er:zG 6 false bs (pos+1)=some (zbe f,pos+(17::(zL f.stream.toNat++zL f.lim)).length):=by
   rw[show zG 6 false bs (pos+1)=rd6 false bs (pos+1)by simp[zG],rd6,d];simp only[Option.bind_some];rw[e];simp[zbe,hk,g];omega
  simp[zbb,er,c]
 ·have eb:zC f=48::(zL f.id++(zL f.dl++(zL f.data.length++f.data))):=by simp[zC,hk,zcz]
  rw[eb]at a ⊢;rw[a.head];have b:=a.tail;have d:=zaU (by omega) b.left;have e:=zaU (by omega) b.right.left;have j:=zjh hd b.right.right;have er:zG 7 false bs (pos+1)=some (zbe f,pos+(48::(zL f.id++(zL f.dl++(zL f.data.length++f.data)))).length):=by
   rw[show zG 7 false bs (pos+1)=rd7 false bs (pos+1)by simp[zG],rd7,d];simp only[Option.bind_some];rw[e];simp only[Option.bind_some];rw[j];simp[zbe,hk,f0];omega
  simp[zbb,er,c]
 ·have eb:zC f=28::zL f.lim:=by simp[zC,hk,zlb]
  rw[eb]at a ⊢;rw[a.head];have d:=zaU (by omega) a.tail;have er:zG 8 false bs (pos+1)=some (zbe f,pos+(28::zL f.lim).length):=by
   rw[show zG 8 false bs (pos+1)=zbE 8 false bs (pos+1)by simp[zG],zbE,d];simp[zbe,hk];omega
  simp[zbb,er,c]
def allOk(fs:List Frm):Prop:=∀f∈fs,zT f=true∧f.data.length<4611686018427387904∧f.rngs.length<4611686018427387904
theorem zm9{bs:List UInt8}(c:Nat):∀(fs:List Frm) (a pos:Nat) (b:List Frm),allOk fs→fs.length<a→At bs pos (fs.flatMap zC)→pos+(fs.flatMap zC).length=bs.length →
  zcZ bs a c pos b = .ok c (b++fs.map zbe)
 | [],a+1,pos,b,_,_,_,he=>by
  simp at he;unfold zcZ;rw[if_neg (by omega)];simp
 | f::fs,a+1,pos,b,hok,hf,ha,he=>by
  obtain⟨k1,k2,k3⟩:=hok f (by simp);have hp:=zhU f;simp only[List.flatMap_cons]at ha he;rw[List.length_append]at he;unfold zcZ;rw[if_pos (by omega),zo5 k1 k2 k3 ha.left];simp only;rw[zm9 c fs a _ _ (fun g hg=>hok g (by simp[hg])) (by simpa using hf) ha.right (by omega)];simp
theorem zo6(fs:List Frm):fs.length≤(fs.flatMap zC).length:=by
 induction fs with
 | nil=>simp
 | cons f fs ih =>
  have:=zhU f;simp only[List.flatMap_cons,List.length_append,List.length_cons];omega
theorem zo7(n:Nat)(fs:List Frm)(hn:n≤4611686018427387903)(h0:0<fs.length)(a:allOk fs):zaC (zL n++fs.flatMap zC) = .ok n (fs.map zbe):=by
 have b:At (zL n++fs.flatMap zC) 0 (zL n++fs.flatMap zC):=⟨[],[],by simp,rfl⟩;have hl:=zo6 fs;unfold zaC;rw[zaU (by omega) b.left];simp only[List.length_append,Nat.zero_add];rw[if_neg (by omega),zm9 n fs _ _ [] a (by omega) (by simpa using b.right) (by simp)];simp
theorem zqz(l:List UInt8)(s:Nat)(hs:s<4294967296):be4 (l++zla s) l.length=s:=by
 unfold be4 byteAt zla;simp only[List.getD_eq_getElem?_getD];rw[List.getElem?_append_right (by omega),List.getElem?_append_right (by omega),List.getElem?_append_right (by omega),List.getElem?_append_right (by omega)];simp[show l.length+1-l.length=1 by omega,show l.length+2-l.length=2 by omega,show l.length+3-l.length=3 by omega];omega
theorem zkV(l:List UInt8):dec (l++zla (crc l))=zaC l:=by
 have hl:(l++zla (crc l)).length=l.length+4:=by simp[zla]
 unfold dec;rw[hl,if_neg (by omega),Nat.add_sub_cancel,zqz l _ (zjn l),List.take_left,if_pos rfl]
end Go.Proofs.YtddfdpbaiedcjaaGreatDoor
namespace Go.Proofs.YtddfdpbaiedcjaaGreatDoor
open Go.ChangeShapes Go.WideShapes Go.ChangeAt Go.RowKit
def zqJ {H : Type} : List (String × DataW H) := [("errors.errorType", Rows.laid_errors_errorType), ("mediawire/wire.table", Rows.laid_mediawire_wire_table)]
theorem gErr : Tryz.prog.globalNamed "errors.errorType" = some 0 := by kernel_rfl
theorem gTab : Tryz.prog.globalNamed "mediawire/wire.table" = some 1 := by kernel_rfl
theorem tyTab:(Tryz.prog.globals[1]?).map (·.type)=some 281:=by kernel_rfl
theorem zno:Tryz.prog.cellsOf 281=16:=by kernel_rfl
theorem znp:Tryz.prog.cellsOf 189=1:=by kernel_rfl
theorem znq : (Tryz.prog.cutTypes.find? (·.1 == "internal/reflectlite.rtype")).map (·.2) = some 286 := by kernel_rfl
theorem znr:((List.range Tryz.prog.types.size).filter fun t=>Tryz.prog.rowNamed t [101,114,114,111,114])=[98]:=by kernel_rfl
theorem zk9:typeHandle Tryz.prog 98 = .pointer (some ⟨2,98,none⟩):=by kernel_rfl
def zns:List Int:=[0,498536548,997073096,651767980,1994146192,1802195444,1303535960,1342533948,3988292384,4027552580,3604390888,3412177804,2607071920,2262029012,2685067896,3183342108]
theorem tab_of{W:World}(h:laidMetH Tryz.prog zqJ W):Tab W:=by
 have h' : laidMet Tryz.prog [("mediawire/wire.table", Lib.tabData .u32 zns)] W ∧ handlesMet Tryz.prog [("errors.errorType", Rows.laid_errors_errorType)] W := h;have ht:=Lib.tabIs_of_head (rest:=[]) gTab tyTab Tryz.underlying281 Tryz.underlying189 znp zno h'.1;intro i hi;have:=ht.cell gTab i (by simpa [zns]using hi);rw[this];have e:∀j:Fin 16,zns.getD j.val 0=(ct j.val:Int):=by decide
 rw[e ⟨i,hi⟩]
theorem errT_of{W:World}(h:laidMetH Tryz.prog zqJ W):zd8 W:=by
 have h' : laidMet Tryz.prog [("mediawire/wire.table", Lib.tabData .u32 zns)] W ∧ handlesMet Tryz.prog [("errors.errorType", Rows.laid_errors_errorType)] W := h;obtain⟨name,u,ty,e1,e2,e3,e4,a⟩:=h'.2 _ (List.mem_singleton.2 rfl);have en:name=[101,114,114,111,114]:=(Option.some.inj e1).symm;subst en;obtain rfl:=Option.some.inj (znq.symm.trans e2);have b:ty∈(List.range Tryz.prog.types.size).filter fun t=>Tryz.prog.rowNamed t [101,114,114,111,114]:=List.mem_filter.2 ⟨List.mem_range.2 e3,e4⟩
 rw[znr]at b;obtain rfl:=List.mem_singleton.1 b;rw[zk9]at a;unfold zd8;simpa using World.var?_cell gErr a 0
noncomputable def laidWorld(os:Os):World :=
 let w0:=World.holding Tryz.prog os ⟨#[],#[],[]⟩
 let w1:World:={ w0 with heap:=w0.heap.modify 0 fun
   | .cells _ t frozen=>.cells #[.iface 286 (.agg #[.pointer (some ⟨2,98,none⟩)])] t frozen
   | o=>o }
 {w1 with heap:=w1.heap.modify 1 fun
   | .cells _ t frozen=>.cells (zns.map fun z=>Value.int .u32 z).toArray t frozen
   | o=>o }
theorem laid_met(os:Os)(args:Array Value):laidMetH Tryz.prog zqJ ((laidWorld os).forCall (fun _ _=>0) ⟨#[],args,[]⟩).memory :=
 laidMetH_of_parts (laidMet_of_run' 8 (by kernel_rfl) (by kernel_rfl)) (by kernel_rfl)
theorem zh7{H:Type}{enc:TypeId×Value→H}{P:Program}(f:laidOutB P=true){W W':World}(hb:Below W.heap.size W W') :
  ∀{a:List TypeId} {g:List Value} {i:List (DataW H)} {c:List MemPlace},(∀t∈a,P.readableRec t=true∧t<P.types.size) →
   DataW.TrodAll enc P W 0 (fun _=>true) true a g i c→(∀x∈c,x.block<W.heap.size)→DataW.TrodAll enc P W' 0 (fun b=>decide (b<W.heap.size)) true a g i c
 | [],[],[],_,_,h,_=>h
 | t::_,_::_,_::_,_,hT,⟨p,q,h1,h2,e⟩,hs =>
  ⟨p,q,Below.trod f (hT t (List.mem_cons.2 (Or.inl rfl))).1 (hT t (List.mem_cons.2 (Or.inl rfl))).2 h1 hb (fun x d=>hs x (by rw[e];exact List.mem_append_left _ d)),
   zh7 f hb (fun t ht=>hT t (List.mem_cons.2 (Or.inr ht))) h2 (fun x d=>hs x (by rw[e];exact List.mem_append_right _ d)),e⟩
theorem post_true{H:Type}{enc:TypeId×Value→H}{P:Program}{f:Func}{s:ChangeSpec}{apart c b:Bool}{W W':World}{args:Array Value}{e gs:List (DataW H)}{a:List MemPlace}{tb:TypeId}
  (i:DataW.Whole enc P f.params.toList s.vars apart W args.toList e gs a) (hl:laidOutB P=true) (j:∀t∈f.params.toList,P.readableRec t=true∧t<P.types.size)
  (u:s.vars=[]) (g:(s.fn H (e++gs)).results=[.lit (.bool true)]) (d:(s.fn H (e++gs)).args=e) (k:(s.fn H (e++gs)).vars=[])
  (l:f.resultTypes=#[tb]) (m:P.underlying tb=some .bool) (hb:Below W.heap.size W W') :
  s.post enc P f apart c b false W args (.bool true) W':=by
 have n:∀x∈a,x.block<W.heap.size:=fun x o=>by simpa using i.lt x o
 have r:=i;obtain⟨p,q,hA,v,rfl,hfz,hnd⟩:=i;rw[u]at v;obtain⟨rfl,rfl⟩:=trodVars_none v;refine⟨e,[],p++[],[],p,[],r,?_,?_,?_,hb.frame _,fun h=>by cases h⟩
 ·rw[g,l];exact trodAll_mk1 (shut_bool m true)
 ·rw[d];exact zh7 hl hb j hA (fun x o=>n x (List.mem_append_left _ o))
 ·rw[u,k];exact rfl
end Go.Proofs.YtddfdpbaiedcjaaGreatDoor
namespace Go.Proofs.YtddfdpbaiedcjaaGreatDoor
theorem zep{P:Program}(m:Machine)(w:World)(t:Trace)(h:aloneAtReturn P m w t):leavingAtReturn P m w t:=by
 obtain⟨a,hh,he⟩:=h;refine⟨hh,⟨fun g hg=>⟨0,?_⟩,a.2⟩,he⟩;have h1:(m.gs.toList.drop 1).all (fun g=>g.status == .finished)=true:=a.1;rw[List.all_eq_true]at h1;have:=h1 g hg;simpa [Goroutine.LeavesIn]using this
theorem holds_leaving{p:Pinned}{s:OpenSpec}{c:OpenClaim}(b:c.start = .entering)(a:c.stops=[])(d:c.wf s=true)(h:({ c with leaving:=false }:OpenClaim).holds p s)(hl:c.leaving=true):c.holds p s:=by
 obtain⟨h1,h2,h3,h4,h5,h6,h7,h8,f,fn,h9,e,g,i,j,k,l,n,o,q,r,u,v,x,y,z,A,B,C,k1,k2,L,D,E⟩:=h;refine⟨d,h2,h3,h4,h5,h6,h7,h8,f,fn,h9,e,g,i,j,k,l,n,o,q,r,u,v,x,y,z,A,B,C,k1,k2,L,D,fun os hw hq H enc inj=>?_⟩;have G:=E os hw hq H enc inj;unfold OpenClaim.form at G ⊢;have e1:({ c with leaving:=false }:OpenClaim).start = .entering:=b;have e2:({ c with leaving:=false }:OpenClaim).stops=[]:=a;rw[e1,e2]at G;rw[b,a];intro F;have hF:=G F;have e4:c.atReturn p.checked.prog=leavingAtReturn p.checked.prog:=by unfold OpenClaim.atReturn;rw[hl]
 rw[e4];exact ReturnsInOpen.mono (atReturn:=aloneAtReturn p.checked.prog) (fun m w t h=>zep m w t h) (fun m h=>h) hF
theorem card_going(g:Looks){p:Pinned}{s:OpenSpec}{c:OpenClaim}(kinds:List LaidKind)(a:Bool)(b:Bool×String)(e:Bool)
  (hc:c.holds p s) (hw:c.wfByText s=true) (d:c.laidByTextAt g p kinds a)
  (i:c.start = .entering) (k:c.noBlocks=false∧c.again=false) (hm:p.checked.prog.mainIs=some (b.1,b.2.toList)) (hn:(!b.1&&b.2.isEmpty && !e)=false)
  (hl:∀f fn,p.checked.prog.funcNamed c.func=some f→p.checked.prog.funcs[f]?=some fn→e=p.checked.prog.looks []∧∀(j:Nat) t,fn.params[j]?=some t→p.checked.prog.wantsStandIn t=false)
  (hg:true=c.goesBy p.checked.prog) :
  Claim7.holds p (.plain s) { stood:={ row:=c,standIns:=[],harness:=b,looks:=e },kinds:=[],alts:=[],laidByText:=true,laidKinds:=kinds,laidTests:=a,laidLooks:=g,goes:=true } :=
 ⟨Claim7.tied_new_at g kinds a (Claim7.new_of_sixth hc b e i k hm (by simpa [Claim7.isSixth]using hn) hl) hw,(fun D hD=>by cases hD),d,(fun h=>by cases h),hg⟩
end Go.Proofs.YtddfdpbaiedcjaaGreatDoor
