/- A part of Urgent's proof. Conditions: none. Part 12 of 32. -/
import Derived.Test.YtddfdpbaiedcjaaGreatDoorUrg10
set_option maxRecDepth 100000
set_option maxHeartbeats 16000000
set_option linter.all false
namespace Go.Proofs.YtddfdpbaiedcjaaGreatDoor
open Go.RowKit
def zN(fn:Nat→Value)(l:List Nat):List Value:=l.flatMap fun(c:Nat)=>[Value.int .i64 (c:Int),fn c]
theorem ziE(fn:Nat→Value)(l:List Nat){i:Nat}{c:Nat}(h:l[i]?=some c):(zN fn l)[i*2]?=some (.int .i64 (c:Int))∧(zN fn l)[i*2+1]?=some (fn c):=by
 induction l generalizing i with
 | nil=>cases h
 | cons x l ih =>
  have e:zN fn (x::l) = .int .i64 (x:Int)::fn x::zN fn l:=rfl;cases i with
  | zero =>
   cases h;exact⟨rfl,rfl⟩
  | succ i =>
   have:=ih (i:=i) h;rw[e,show(i+1)*2=i*2+1+1 by omega];exact this
theorem zbR(fn:Nat→Value)(l:List Nat):(zN fn l).length=l.length*2:=by
 induction l with
 | nil=>rfl
 | cons x l ih =>
  have e:zN fn (x::l) = .int .i64 (x:Int)::fn x::zN fn l:=rfl;rw[e,List.length_cons,List.length_cons,ih,List.length_cons];omega
structure zak(sb:Nat)(fn:Nat→Value)(l:List Nat)(g cap:Nat)(W:World):Prop where
 obj:W.heap[sb]?=some (.cells #[.slice (some ⟨g,0,none⟩) l.length cap] 268 (0,0))
 own:W.ownsRow 0 266 2 (.slice (some ⟨g,0,none⟩) l.length cap) l.length (zN fn l)
 ne:g≠sb
 small:l.length≤1024
 fns:∀c,∃f a b,fn c = .func f a b
theorem zak.at_{sb:Nat}{fn:Nat→Value}{l:List Nat}{g cap:Nat}{W:World}(h:zak sb fn l g cap W){i c:Nat}(hi:l[i]?=some c):W.cell? ⟨g,i*2,none⟩=some (.int .i64 (c:Int))∧W.cell? ⟨g,i*2+1,none⟩=some (fn c):=by
 obtain⟨h1,h2⟩:=ziE fn l hi;have a:=h.own.cells (g:=g) rfl _ _ h1;have b:=h.own.cells (g:=g) rfl _ _ h2;rw[addr_add,Nat.zero_add]at a b;exact⟨a,b⟩
theorem zak.mod{S:Nat→Prop}{sb:Nat}{fn:Nat→Value}{l:List Nat}{g cap:Nat}{W W':World}(h:zak sb fn l g cap W)(m:Mod S W W')(h1:¬S sb)(h2:¬S g):zak sb fn l g cap W' :=
 ⟨m.obj h1 h.obj,m.owns h.own (fun q a x=>by
  have a:g=q:=by simpa [Value.ownBlock]using a
  rw[←a]at x;exact h2 x),h.ne,h.small,h.fns⟩
theorem zgj(a:Option Addr)(n cap:Nat)(w:World):Calls Tryz.prog 150 #[.slice a n cap] w fun e w'=>e = .returned (.int .i64 (n:Int))∧w=w':=by
 go_enter Tryz.func150,Tryz.ntmps150;go_wp2_with fail;go_ret;exact⟨rfl,rfl⟩
theorem zcG{sb:Nat}{fn:Nat→Value}{l:List Nat}{g cap:Nat}{W:World}(h:zak sb fn l g cap W){i k x y:Nat}(hi:l[i]?=some x)(hk:l[k]?=some y) :
  Calls Tryz.prog 245 #[.slice (some ⟨g,0,none⟩) l.length cap,.int .i64 (i:Int),.int .i64 (k:Int)] W fun e w'=>e = .returned (.bool (decide (x<y)))∧Mod NoB W w':=by
 obtain⟨a1,_⟩:=h.at_ hi;obtain⟨b1,_⟩:=h.at_ hk;have hil:(i:Int)<l.length:=by have:=(List.getElem?_eq_some_iff.1 hi).1;omega
 have hkl:(k:Int)<l.length:=by have:=(List.getElem?_eq_some_iff.1 hk).1;omega
 have hi0:(0:Int)≤i:=by omega
 have hk0:(0:Int)≤k:=by omega
 clear h hi hk;go_enter Tryz.func245,Tryz.ntmps245;go_wp2_with fail;go_quiet (fail);go_wp2_with fail;go_ret;exact⟨by simp,(Mod.refl NoB _).drewN _⟩
theorem zgk{w:World}{e sz n g cap:Nat}{xs:List Value}(h:w.ownsRow 0 e sz (.slice (some ⟨g,0,none⟩) n cap) n xs){j:Nat}(hj:j<xs.length)(u:Value):(w.setCell ⟨g,j,none⟩ u).ownsRow 0 e sz (.slice (some ⟨g,0,none⟩) n cap) n (xs.set j u):=by
 obtain⟨h0,h1⟩:=h;refine⟨by rw[List.length_set];exact h0,?_⟩;rcases h1 with⟨hx,_⟩|⟨g',a,cur,hv,hb,hg,hn,hm,hs,ht⟩
 ·cases hx
 ·cases hv;refine .inr ⟨g,cap,_,rfl,hb,zc hg,hn,hm,by simpa using hs,?_⟩;rw[Array.toList_setIfInBounds,List.take_set,ht]
theorem zea(fn:Nat→Value)(l:List Nat)(i y:Nat):((zN fn l).set (i*2) (.int .i64 (y:Int))).set (i*2+1) (fn y)=zN fn (l.set i y):=by
 induction l generalizing i with
 | nil=>rfl
 | cons x l ih =>
  have e:∀x l,zN fn (x::l) = .int .i64 (x:Int)::fn x::zN fn l:=fun _ _=>rfl
  cases i with
  | zero=>rfl
  | succ i =>
   rw[e,show(i+1)*2=i*2+1+1 by omega];simp only[List.set_cons_succ];rw[e,ih i]
def zck(l:List Nat)(i k:Nat):List Nat:=(l.set i (l.getD k 0)).set k (l.getD i 0)
theorem zdv{sb:Nat}{fn:Nat→Value}{l:List Nat}{g cap:Nat}{W:World}(h:zak sb fn l g cap W){i k x y:Nat}(hi:l[i]?=some x)(hk:l[k]?=some y) :
  Calls Tryz.prog 248 #[.slice (some ⟨g,0,none⟩) l.length cap,.int .i64 (i:Int),.int .i64 (k:Int)] W fun e w'=>e = .returned (.tuple #[])∧zak sb fn (zck l i k) g cap w'∧Mod (fun q=>q=g) W w':=by
 have a:=zb h;obtain⟨a1,a2⟩:=h.at_ hi;obtain⟨b1,A⟩:=h.at_ hk;have hil:(i:Int)<l.length:=by have:=(List.getElem?_eq_some_iff.1 hi).1;omega
 have f:(k:Int)<l.length:=by have:=(List.getElem?_eq_some_iff.1 hk).1;omega
 have hi0:(0:Int)≤i:=by omega
 have n:(0:Int)≤k:=by omega
 have hfz:∀j,W.frozen? ⟨g,j,none⟩=false:=fun j=>by
  rcases h.own.2 with⟨hx,_⟩|⟨g',B,cur,hv,_,hg,_⟩
  ·cases hx
  ·cases hv;exact zd hg
 obtain⟨f1,v1,u1,o⟩:=h.fns x;obtain⟨f2,v2,u2,r⟩:=h.fns y;rw[o]at a2;rw[r]at A;have s:=zb o;have d:=zb r;have C:=hi;have D:=hk;have t:=zb C;have u:=zb D;clear h hi hk C D o r;have fin:∀W',W'=(((W.setCell ⟨g,i*2,none⟩ (.int .i64 (y:Int))).setCell ⟨g,i*2+1,none⟩ (fn y)).setCell ⟨g,k*2,none⟩ (.int .i64 (x:Int))).setCell ⟨g,k*2+1,none⟩ (fn x)→zak sb fn (zck l i k) g cap W'∧Mod (fun q=>q=g) W W':=by
  rintro W' rfl;have v:(zck l i k).length=l.length:=by simp[zck]
  have m:Mod (fun q=>q=g) W ((((W.setCell ⟨g,i*2,none⟩ (.int .i64 (y:Int))).setCell ⟨g,i*2+1,none⟩ (fn y)).setCell ⟨g,k*2,none⟩ (.int .i64 (x:Int))).setCell ⟨g,k*2+1,none⟩ (fn x)) :=
   ((((Mod.refl (fun q=>q=g) W).setCell (p:=⟨g,i*2,none⟩) (.inl rfl) _).setCell (p:=⟨g,i*2+1,none⟩) (.inl rfl) _).setCell (p:=⟨g,k*2,none⟩) (.inl rfl) _).setCell (p:=⟨g,k*2+1,none⟩) (.inl rfl) _
  have E:=(List.getElem?_eq_some_iff.1 t.out).1;have G:=(List.getElem?_eq_some_iff.1 u.out).1;have sl:=zbR fn l;have o1:=zgk a.out.own (j:=i*2) (by omega) (.int .i64 (y:Int));have H:=zgk o1 (j:=i*2+1) (by rw[List.length_set];omega) (fn y);rw[zea]at H;have w:=zbR fn (l.set i y);rw[List.length_set]at w;have o3:=zgk H (j:=k*2) (by omega) (.int .i64 (x:Int));have I:=zgk o3 (j:=k*2+1) (by rw[List.length_set];omega) (fn x);rw[zea]at I;have e:zck l i k=(l.set i y).set k x:=by
   simp[zck,List.getD_eq_getElem?_getD,t.out,u.out]
  refine⟨⟨?_,?_,a.out.ne,by rw[v];exact a.out.small,a.out.fns⟩,m⟩
  ·rw[v];exact m.obj (fun x=>a.out.ne x.symm) a.out.obj
  ·rw[v,e];exact I
 have b:=zb fin;clear fin;by_cases c:i=k
 ·subst c;have z:x=y:=by
   have:=t.out;rw[u.out]at this;exact(Option.some.inj this).symm
  subst z;rw[s.out]at d;have HEY:=d;clear b1 A f n d;go_enter Tryz.func248,Tryz.ntmps248;go_wp2_with fail
  go_region
  go_wp2_with fail;refine bodyPost_end (results_none rfl _ _ _) rfl ⟨rfl,?_⟩;have F:=b.out _ rfl;rw[s.out]at F;exact⟨F.1.mod ((Mod.refl NoB _).drew) (fun x=>x) (fun x=>x),F.2.drew⟩
 ·have n1:¬i*2=k*2:=by omega
  have n2:¬k*2=i*2:=by omega
  have n3:¬i*2+1=k*2:=by omega
  have n4:¬k*2=i*2+1:=by omega
  have n5:¬k*2+1=i*2:=by omega
  have n6:¬i*2=k*2+1:=by omega
  clear c;go_enter Tryz.func248,Tryz.ntmps248;go_wp2_with fail
  go_region
  go_wp2_with fail;refine bodyPost_end (results_none rfl _ _ _) rfl ⟨rfl,?_⟩;have F:=b.out _ rfl;rw[s.out,d.out]at F;exact⟨F.1.mod ((Mod.refl NoB _).drew) (fun x=>x) (fun x=>x),F.2.drew⟩
def hI(sb:Nat):Value:=.iface 263 (.pointer (some ⟨sb,0,none⟩))
theorem zl5{sb:Nat}{v:Value}{w:World}(c0:w.cell? ⟨sb,0,none⟩=some v)(f:FuncId) :
  (do let v ←loadVar 268 ⟨sb,0,none⟩;pure (f,v):Sem (FuncId×Value)).run Tryz.prog w = .ok (f,v) w:=by
 have e2:(isAgg 268).run Tryz.prog w = .ok false w:=by kernel_rfl
 simp[loadVar,e2,c0,Result.andThen]
theorem zhb{sb:Nat}{v:Value}{w:World}(c0:w.cell? ⟨sb,0,none⟩=some v) :
  (method 451 263 (.pointer (some ⟨sb, 0, none⟩)) "Less").run Tryz.prog w = .ok (245, v) w :=
 Eq.trans (show _=(do let v ←loadVar 268 ⟨sb,0,none⟩;pure (245,v):Sem (FuncId×Value)).run Tryz.prog w by kernel_rfl) (zl5 c0 _)
theorem zjJ{sb:Nat}{v:Value}{w:World}(c0:w.cell? ⟨sb,0,none⟩=some v) :
  (method 451 263 (.pointer (some ⟨sb, 0, none⟩)) "Swap").run Tryz.prog w = .ok (248, v) w :=
 Eq.trans (show _=(do let v ←loadVar 268 ⟨sb,0,none⟩;pure (248,v):Sem (FuncId×Value)).run Tryz.prog w by kernel_rfl) (zl5 c0 _)
theorem hmLen{sb:Nat}{v:Value}{w:World}(c0:w.cell? ⟨sb,0,none⟩=some v) :
  (method 451 263 (.pointer (some ⟨sb, 0, none⟩)) "Len").run Tryz.prog w = .ok (150, v) w :=
 Eq.trans (show _=(do let v ←loadVar 268 ⟨sb,0,none⟩;pure (150,v):Sem (FuncId×Value)).run Tryz.prog w by kernel_rfl) (zl5 c0 _)
theorem hmPush(sb:Nat)(w:World) :
  (method 451 263 (.pointer (some ⟨sb, 0, none⟩)) "Push").run Tryz.prog w = .ok (247, .pointer (some ⟨sb, 0, none⟩)) w := by kernel_rfl
theorem hmPop(sb:Nat)(w:World) :
  (method 451 263 (.pointer (some ⟨sb, 0, none⟩)) "Pop").run Tryz.prog w = .ok (246, .pointer (some ⟨sb, 0, none⟩)) w := by kernel_rfl
theorem zak.c0{sb:Nat}{fn:Nat→Value}{l:List Nat}{g cap:Nat}{W:World}(h:zak sb fn l g cap W):W.cell? ⟨sb,0,none⟩=some (.slice (some ⟨g,0,none⟩) l.length cap):=za h.obj rfl
theorem ziF:(Tryz.prog.info? 266).map (fun i=>(i.zero,i.size,i.bytes))=some (some (.agg #[.int .i64 0,.nilFunc]),2,16):=by kernel_rfl
theorem happ{sb:Nat}{fn:Nat→Value}{l:List Nat}{g cap:Nat}{w:World}(h:zak sb fn l g cap w)(c:Nat)(hl:l.length<1024) :
  ∃v' w' g' cap',(∀ty,(Builtin.append_ #[268,268] ty #[.slice (some ⟨g,0,none⟩) l.length cap,.slice (some ⟨w.heap.size,0,none⟩) 1 1]).run Tryz.prog (w.alloc (.cells #[.int .i64 (c:Int),fn c] 266)) = .ok v' w') ∧
   v' = .slice (some ⟨g',0,none⟩) (l.length+1) cap'∧w'.ownsRow 0 266 2 v' (l.length+1) (zN fn (l++[c]))∧w.grownBy w' (some g)∧(g'=g∨w.heap.size≤g'):=by
 obtain⟨i,d,hz,e,f⟩:=info_parts ziF;have sl:=zbR fn l;obtain⟨f1,a1,b1,ef⟩:=h.fns c;have e1:zN fn [c]=[.int .i64 (c:Int),fn c]:=rfl;have a:∀(j:Nat) u,(zN fn [c])[j]?=some u→(w.alloc (.cells #[.int .i64 (c:Int),fn c] 266)).cell? ((⟨w.heap.size,0,none⟩:Addr).add j)=some u:=by
  intro j u hj;rw[addr_add];refine za (heap_alloc_new w _) ?_;rw[Nat.zero_add,←Array.getElem?_toList];exact hj
 have hg:g<w.heap.size:=by
  rcases h.own.2 with⟨n,_⟩|⟨g',cap',m,b,_,hg,_⟩
  ·cases n
  ·cases b;exact(Array.getElem?_eq_some_iff.1 hg).1
 obtain⟨v',w',h1,h2,h3,h4,h5⟩:=zas (P:=Tryz.prog) (w.alloc (.cells #[.int .i64 (c:Int),fn c] 266)) 268 266 i _ 2 16 Tryz.underlying268 d hz e f rfl (by decide) (.slice (some ⟨g,0,none⟩) l.length cap) l.length (zN fn l) (World.ownsRow.alloc h.own _)
  ⟨w.heap.size,0,none⟩ 1 1 (zN fn [c]) rfl a (by rw[e1,ef];intro u o;simp at o;rcases o with rfl|rfl<;>rfl) (by unfold maxLen;omega) (by omega)
 have e2:zN fn l++zN fn [c]=zN fn (l++[c]):=by simp[zN]
 rw[e2]at h2;rcases h2.2 with⟨n,hy⟩|⟨g',cap',m,b,hb,hg',p,hm,hs,ht⟩
 ·exact absurd hy (by omega)
 ·refine⟨v',w',g',cap',h1,b,h2,⟨h3.os,h3.tape,h3.output,Nat.le_trans (by simp) h3.size,fun k hk p=>(h3.block k (by simp;omega) p).trans (Below.heap_alloc w _ k hk)⟩,?_⟩;rcases h4 g' (by rw[b];rfl)with x|x
  ·left;have:g=g':=by simpa [Value.ownBlock]using x
   exact this.symm
  ·right;simp at x;omega
def zl6(sb:Nat)(fn:Nat→Value)(l:List Nat)(c g:Nat)(W:World)(e:Ending)(w':World):Prop :=
 e = .returned (.tuple #[])∧∃g' cap',zak sb fn (l++[c]) g' cap' w'∧(g'=g∨W.heap.size≤g')∧Mod (fun q=>q=sb∨q=g) W w'
theorem zl7{sb:Nat}{fn:Nat→Value}{l:List Nat}{g cap:Nat}{W:World}(h:zak sb fn l g cap W)(c:Nat)(hl:l.length<1024) :
  Calls Tryz.prog 247 #[.pointer (some ⟨sb,0,none⟩),.iface 266 (.agg #[.int .i64 (c:Int),fn c])] W (zl6 sb fn l c g W):=by
 obtain⟨v',w',n,a,z,hv,f,r,b⟩:=happ (h.mod ((Mod.refl NoB W).drew) (fun x=>x) (fun x=>x)) c hl;subst hv;have d:Mod (fun q=>q=g) W w':=((Mod.refl (fun q=>q=g) W).drew).grown r (fun q k=>.inl (by simpa using k.symm));have s:w'.heap[sb]?=some (.cells #[.slice (some ⟨g,0,none⟩) l.length cap] 268 (0,0)):=d.obj (fun x=>h.ne x.symm) h.obj;have hsb:sb<W.heap.size:=(Array.getElem?_eq_some_iff.1 h.obj).1;have m:n≠sb:=by
  rcases b with x|x
  ·rw[x];exact h.ne
  ·simp at x;omega
 have fin:zl6 sb fn l c g W (.returned (.tuple #[])) (w'.setCell ⟨sb,0,none⟩ (.slice (some ⟨n,0,none⟩) (l.length+1) a)):=by
  have A:Mod (fun q=>q=sb) w' (w'.setCell ⟨sb,0,none⟩ (.slice (some ⟨n,0,none⟩) (l.length+1) a)):=(Mod.refl (fun q=>q=sb) _).setCell (p:=⟨sb,0,none⟩) (.inl rfl) _;refine⟨rfl,n,a,⟨?_,?_,m,by rw[List.length_append,List.length_singleton];omega,h.fns⟩,by simpa using b,(d.mono (fun _ x=>.inl (.inr x))).then A (fun _ k=>.inl (.inl k))⟩
  ·rw[zc s,List.length_append,List.length_singleton];rfl
  ·rw[List.length_append,List.length_singleton];exact A.owns f (fun q k x=>by
    have k:n=q:=by simpa [Value.ownBlock]using k
    exact m (k.trans x))
 have y:=zb fin;have HR:=zb z;have c0:=h.c0;have B:=zb h;have c1:w'.cell? ⟨sb,0,none⟩=some (.slice (some ⟨g,0,none⟩) l.length cap):=za s rfl;have t:=zb s;have f1:∀j,w'.frozen? ⟨sb,j,none⟩=false:=fun j=>zd s
 obtain⟨fa,fb,fc,u⟩:=h.fns c;have EFN:=zb u;clear fin z d s h f r b m c1 u;have hta:∀(v:Value) (w:World),(Instr.typeAssert (.iface 266 v) 20 266 false).run Tryz.prog w = .ok v w:=fun _ _=>by kernel_rfl
 go_enter Tryz.func247,Tryz.ntmps247;go_wp2_with fail;refine zl 9 (fun w'=>w'.heap[sb]?=some (.cells #[.slice (some ⟨g,0,none⟩) l.length cap] 268 (0,0))) (B.out.obj) ?_;refine GI 0 ?_;iterate 6
  refine GS rfl ?_ ?_ ?_;rotate_left
  ·(intro wx e;(try dsimp only at e);have c0:=za (o:=0) e rfl;go_simp)<;>(try with_reducible rfl)
  try simp only[PS]
 refine zx 6 rfl (fun K i=>?_);go_simp;refine i.out _ _ (((Mod.refl NoB W).drew.alloc _).obj (fun x=>x) B.out.obj) ?_;clear i K;try simp only[PS]
 refine zx 7 rfl (fun K i=>?_);refine zF rfl _ _ _ _ rfl _ _ _ rfl rfl HR.out ?_;refine i.out _ _ t.out ?_;clear i K;try simp only[PS]
 refine GI 8 ?_;refine GS rfl ?_ ?_ ?_;rotate_left
 ·(intro wx e;(try dsimp only at e);have c0:=za (o:=0) e rfl;go_simp)<;>(try with_reducible rfl)
 try simp only[PS]
 have c1:w'.cell? ⟨sb,0,none⟩=some (.slice (some ⟨g,0,none⟩) l.length cap):=za t.out rfl;refine zQ rfl (fun K i=>?_);go_simp;refine i.out _ _ ?_;clear i K;try simp only[PS]
 refine zo ?_;exact bodyPost_end (results_none rfl _ _ _) rfl y.out
theorem zl8{sb:Nat}{fn:Nat→Value}{l:List Nat}{g cap:Nat}{W:World}(h:zak sb fn l g cap W){j p x y:Nat}(a:l[j]?=some y)(hp:(j-1) / 2=p)(c:l[p]?=some x)(hle:x≤y)(h1:1≤j) :
  Calls Tryz.prog 198 #[hI sb,.int .i64 (j:Int)] W fun e W'=>e = .returned (.tuple #[])∧Mod NoB W W':=by
 have hjl:=(List.getElem?_eq_some_iff.1 a).1;have hs:=h.small;have q1:IntKind.i64.wrap ((j:Int)-1)=(j:Int)-1:=IntWalk.i64_in _ (by omega);have q2:((j:Int)-1).tdiv 2=(p:Int):=by
  rw[Int.tdiv_eq_ediv_of_nonneg (by omega)];omega
 have hne:((p:Int)==(j:Int))=false:=beq_eq_false_iff_ne.2 (by omega);have HH:=zb h;have HJ:=zb a;have HX:=zb c;clear h a c;unfold hI;go_enter Tryz.func198,Tryz.ntmps198;go_wp2_with fail
 go_loopw [1] (fun jv wr=>jv = .int .i64 (j:Int)∧Mod NoB W wr) (fun _ _=>0)
 case atStart=>exact⟨rfl,Mod.refl _ _⟩
 case round =>
  obtain⟨rfl,m⟩:=hrel;have h:=HH.out.mod m (fun x=>x) (fun x=>x);have hm:=zhb h.c0;have b:=zcG h HJ.out HX.out;have d:decide (y<x)=false:=by simp;omega
  rw[d]at b;have KL:=zb b;have M:=zb m;clear h b d m;go_wp2_with (refine KL.out.mono ?_;rintro e w2 ⟨rfl,f⟩;have M2:=zb f;clear f);exact bodyPost_end (results_none rfl _ _ _) rfl ⟨rfl,M.out.trans M2.out⟩
theorem zko{sb:Nat}{fn:Nat→Value}{l:List Nat}{g cap:Nat}{W:World}(h:zak sb fn l g cap W)(c:Nat)(hl:l.length<1024)(h1:1≤l.length)(b:∀x∈l,x≤c) :
  Calls Tryz.prog 147 #[hI sb,.iface 266 (.agg #[.int .i64 (c:Int),fn c])] W (zl6 sb fn l c g W):=by
 have hm:=hmPush sb W;have n:=zl7 h c hl;have KP:=zb n;have d:=zb b;clear h n b;unfold hI;go_enter Tryz.func147,Tryz.ntmps147;go_upto_region 1 with(refine KP.out.mono ?_;rintro e w2 ⟨rfl,o,a,h2,hg,q⟩;have i:=zb h2;have HG:=zb hg;have M2:=zb q;clear h2 hg q);have k:=hmLen i.out.c0;have r:=zgj (some ⟨o,0,none⟩) (l++[c]).length a w2;have m:(l++[c]).length=l.length+1:=by simp
 have HE1:=zb m;have f:(l.length-1) / 2<l.length:=by omega
 have s:=zl8 i.out (j:=l.length) (p:=(l.length-1) / 2) (x:=(l[(l.length-1) / 2]'f)) (y:=c) (by simp) rfl (by rw[List.getElem?_append_left f,List.getElem?_eq_getElem f]) (d.out _ (List.getElem_mem f)) h1;have q1:IntKind.i64.wrap (((l.length+1:Nat):Int)-1)=(l.length:Int):=by rw[IntWalk.i64_in _ (by omega)];omega
 have t:=zb s;unfold hI at t;rw[m]at k r;clear s hm m d;go_wp2_with (first|(refine r.mono ?_;rintro _ _ ⟨rfl,rfl⟩;(try simp only[q1]))|(refine t.out.mono ?_;rintro e w3 ⟨rfl,u⟩));exact bodyPost_end (results_none rfl _ _ _) rfl ⟨rfl,o,a,i.out.mod u (fun x=>x) (fun x=>x),HG.out,M2.out.trans (u.mono (fun _ x=>x.elim))⟩
theorem zl9{w:World}{e sz n m g cap:Nat}{xs:List Value}(h:w.ownsRow 0 e sz (.slice (some ⟨g,0,none⟩) n cap) n xs)(hm:m≤n):w.ownsRow 0 e sz (.slice (some ⟨g,0,none⟩) m cap) m (xs.take (m*sz)):=by
 obtain⟨h0,h1⟩:=h;have a:m*sz≤n*sz:=Nat.mul_le_mul_right _ hm;refine⟨by rw[List.length_take];omega,?_⟩;rcases h1 with⟨hx,_⟩|⟨g',d,b,hv,hb,hg,hn,c,hs,ht⟩
 ·cases hx
 ·cases hv;exact .inr ⟨g,cap,b,rfl,hb,hg,by omega,c,hs,by rw[←ht,List.take_take,Nat.min_eq_left a]⟩
theorem zgl(fn:Nat→Value)(l:List Nat)(m:Nat):(zN fn l).take (m*2)=zN fn (l.take m):=by
 induction l generalizing m with
 | nil=>simp[zN]
 | cons x l ih =>
  have e:∀x l,zN fn (x::l) = .int .i64 (x:Int)::fn x::zN fn l:=fun _ _=>rfl
  cases m with
  | zero=>simp[zN]
  | succ m =>
   rw[e,show(m+1)*2=m*2+1+1 by omega];simp only[List.take_succ_cons];rw[e,ih m]
theorem zma{sb:Nat}{fn:Nat→Value}{l:List Nat}{c g cap:Nat}{W:World}(h:zak sb fn (l++[c]) g cap W) :
  Calls Tryz.prog 246 #[.pointer (some ⟨sb,0,none⟩)] W fun e w'=>e = .returned (.iface 266 (.agg #[.int .i64 (c:Int),fn c]))∧zak sb fn l g cap w'∧Mod (fun q=>q=sb) W w':=by
 have b:(l++[c]).length=l.length+1:=by simp
 have c0:=h.c0;obtain⟨k1,k2⟩:=h.at_ (i:=l.length) (c:=c) (by simp);have hs:=h.small;rw[b]at c0 hs;have hsb:sb<W.heap.size:=(Array.getElem?_eq_some_iff.1 h.obj).1;have hg:g<W.heap.size:=by
  rcases h.own.2 with⟨d,_⟩|⟨g',a,f,j,_,hg,_⟩
  ·cases d
  ·cases j;exact(Array.getElem?_eq_some_iff.1 hg).1
 have s:l.length+1≤cap:=by
  rcases h.own.2 with⟨d,_⟩|⟨g',a,f,j,_,hg,t,_⟩
  ·cases d
  ·cases j;rw[b]at t;exact t
 obtain⟨f1,a1,b1,k⟩:=h.fns c;have fin:∀w':World,Mod NoB W w'→zak sb fn l g cap (w'.setCell ⟨sb,0,none⟩ (.slice (some ⟨g,0,none⟩) l.length cap))∧Mod (fun q=>q=sb) W (w'.setCell ⟨sb,0,none⟩ (.slice (some ⟨g,0,none⟩) l.length cap)):=fun w' m=>by
  have u:=h.mod m (fun x=>x) (fun x=>x);have v:Mod (fun q=>q=sb) w' (w'.setCell ⟨sb,0,none⟩ (.slice (some ⟨g,0,none⟩) l.length cap)):=(Mod.refl (fun q=>q=sb) _).setCell (p:=⟨sb,0,none⟩) (.inl rfl) _;refine⟨⟨by rw[zc u.obj];rfl,?_,h.ne,by omega,h.fns⟩,(m.mono (fun _ x=>x.elim)).trans v⟩;have o:=zl9 (m:=l.length) u.own (by rw[b];omega);rw[zgl,List.take_left]at o;exact v.owns o (fun q n x=>by
   have n:g=q:=by simpa [Value.ownBlock]using n
   exact h.ne (n.trans x))
 have r:=zb fin;have HE:=zb k;rw[k]at k2 ⊢;have HO:=zb h.obj;have q1:IntKind.i64.wrap ((l.length+1:Int)-1)=(l.length:Int):=by rw[IntWalk.i64_in _ (by omega)];omega
 have hfz:W.frozen? ⟨sb,0,none⟩=false:=zd h.obj;clear h fin k b;go_enter Tryz.func246,Tryz.ntmps246;go_wp2_with fail;go_ret;have F:=r.out W (Mod.refl _ _);exact⟨rfl,F.1.mod ((Mod.refl NoB _).alloc _) (fun x=>x) (fun x=>x),F.2.alloc _⟩
def zdw:Nat→List Nat→Nat→Nat→List Nat
 | 0,l,_,_=>l
 | f+1,l,i,n =>
  if 2*i+1<n then
   if 2*i+2<n∧l.getD (2*i+2) 0<l.getD (2*i+1) 0 then
    if l.getD (2*i+2) 0<l.getD i 0 then zdw f (zck l i (2*i+2)) (2*i+2) n else l
   else if l.getD (2*i+1) 0<l.getD i 0 then zdw f (zck l i (2*i+1)) (2*i+1) n else l
  else l
theorem zdx{l:List Nat}{i:Nat}(h:i<l.length):l[i]?=some (l.getD i 0):=by
 rw[List.getD_eq_getElem?_getD,List.getElem?_eq_getElem h];rfl
theorem zeb(l:List Nat)(i k:Nat):(zck l i k).length=l.length:=by simp[zck]
structure zdy(sb:Nat)(fn:Nat→Value)(l0:List Nat)(n g cap:Nat)(W0:World)(i:Nat)(l:List Nat)(W:World):Prop where
 h:zak sb fn l g cap W
 m:Mod (fun q=>q=g) W0 W
 len:l.length=l0.length
 f:∃f,n≤i+f∧zdw f l i n=zdw n l0 0 n
theorem zdy.leave{sb:Nat}{fn:Nat→Value}{a:List Nat}{n g cap:Nat}{W0:World}{i:Nat}{l:List Nat}{W:World}(h:zdy sb fn a n g cap W0 i l W)(hn:¬2*i+1<n):zdw n a 0 n=l:=by
 obtain⟨f,h1,h2⟩:=h.f;rw[←h2];cases f with
 | zero=>rfl
 | succ f =>
  unfold zdw;rw[if_neg hn]
theorem zdy.stop{sb:Nat}{fn:Nat→Value}{b:List Nat}{n g cap:Nat}{W0:World}{i:Nat}{l:List Nat}{W:World}(h:zdy sb fn b n g cap W0 i l W)(hn:2*i+1<n){j:Nat}(a:j=if 2*i+2<n∧l.getD (2*i+2) 0<l.getD (2*i+1) 0 then 2*i+2 else 2*i+1)(c:¬l.getD j 0<l.getD i 0):zdw n b 0 n=l:=by
 obtain⟨f,h1,h2⟩:=h.f;rw[←h2];cases f with
 | zero=>rfl
 | succ f =>
  unfold zdw;rw[if_pos hn];split at a
  ·rw[if_pos (by assumption),←a,if_neg c]
  ·rw[if_neg (by assumption),←a,if_neg c]
theorem zdy.next{sb:Nat}{fn:Nat→Value}{b:List Nat}{n g cap:Nat}{c:World}{i:Nat}{l:List Nat}{W W':World}(h:zdy sb fn b n g cap c i l W)(hn:2*i+1<n){j:Nat}(a:j=if 2*i+2<n∧l.getD (2*i+2) 0<l.getD (2*i+1) 0 then 2*i+2 else 2*i+1)(d:l.getD j 0<l.getD i 0)
  (hh:zak sb fn (zck l i j) g cap W') (hm:Mod (fun q=>q=g) W W'):zdy sb fn b n g cap c j (zck l i j) W':=by
 obtain⟨f,h1,h2⟩:=h.f;refine⟨hh,h.m.trans hm,by rw[zeb];exact h.len,?_⟩;cases f with
 | zero=>omega
 | succ f =>
  refine⟨f,by split at a<;>omega,?_⟩;rw[←h2]
  conv=>rhs;unfold zdw
  rw[if_pos hn];split at a
  ·rw[if_pos (by assumption),←a,if_pos d]
  ·rw[if_neg (by assumption),←a,if_pos d]
theorem zmb{sb:Nat}{fn:Nat→Value}{l:List Nat}{g cap:Nat}{W:World}(h:zak sb fn l g cap W)(n:Nat)(hn:n≤l.length) :
  Calls Tryz.prog 200 #[hI sb,.int .i64 0,.int .i64 (n:Int)] W fun e W'=>(∃b,e = .returned (.bool b))∧zak sb fn (zdw n l 0 n) g cap W'∧Mod (fun q=>q=g) W W':=by
 have hs:=h.small;have HH:Hid (zdy sb fn l n g cap W 0 l W):=⟨h,Mod.refl _ _,rfl,n,by omega,rfl⟩;obtain⟨R,hR⟩:=nm (zdw n l 0 n);rw[hR];have Y:=zb hR;clear h hR;unfold hI;go_enter Tryz.func200,Tryz.ntmps200;go_wp2_with fail
 go_loopw [7] (fun iv wr=>∃(i:Nat) (j:List Nat),iv = .int .i64 (i:Int)∧i≤n∧Hid (zdy sb fn l n g cap W i j wr)) (fun iv _=>n-(intOf iv).toNat)
 case atStart=>exact⟨0,l,rfl,by omega,HH⟩
 case round =>
  obtain⟨i,j,rfl,hi,c⟩:=hrel;obtain⟨p,I⟩:∃p:Nat,2*i+1=p:=⟨_,rfl⟩;obtain⟨w,J⟩:∃w:Nat,2*i+2=w:=⟨_,rfl⟩;have q1:IntKind.i64.wrap (2*(i:Int))=2*(i:Int):=IntWalk.i64_in _ (by omega);have q2:IntKind.i64.wrap (2*(i:Int)+1)=(p:Int):=by rw[IntWalk.i64_in _ (by omega)];omega
  have q3:IntKind.i64.wrap ((p:Int)+1)=(w:Int):=by rw[IntWalk.i64_in _ (by omega)];omega
  have D:=c.out.len;by_cases h1:p<n
  ·have C:2*i+1<n:=by omega
   have s:=zb C;have K:=zdx (l:=j) (i:=i) (by omega);have g1:=zdx (l:=j) (i:=p) (by omega);have O:=zb D;obtain⟨x,hx⟩:=nm (j.getD i 0);obtain⟨y1,L⟩:=nm (j.getD p 0);obtain⟨y2,P⟩:=nm (j.getD w 0);rw[hx]at K;rw[L]at g1;have t:=zb I;have u:=zb J;have M:=zb hx;have r:=zb L;have v:=zb P;clear D;have hm:=zhb c.out.h.c0;have d1:¬(n:Int)≤p:=by omega
   have d2:¬(p:Int)<0:=by omega
   clear I J C hx L P;by_cases h2:w<n
   ·have Z:=zdx (l:=j) (i:=w) (by have:=O.out;omega);rw[v.out]at Z;have N:=zcG c.out.h Z g1;have d3:(w:Int)<n:=by omega
    by_cases h3:y2<y1
    ·rw[decide_eq_true h3]at N;have KL:=zb N;have H3:=zb h3;clear N h3;go_upto_region 8 with(go_at_call 245;refine KL.out.mono ?_;rintro e w2 ⟨rfl,Q⟩;have y:=zb Q;clear Q);have z:=c.out.h.mod y.out (fun x=>x) (fun x=>x);have A:=zhb z.c0;have a:=zcG z Z K;have E:w=if 2*i+2<n∧j.getD (2*i+2) 0<j.getD (2*i+1) 0 then 2*i+2 else 2*i+1:=by
      rw[u.out,t.out,r.out];rw[v.out,if_pos ⟨h2,H3.out⟩]
     have F:=zb E;clear E z hm;by_cases h4:y2<x
     ·rw[decide_eq_true h4]at a;have d:=zb a;have B:=zb h4;clear a h4;go_upto_region 9 with(go_at_call 245;refine d.out.mono ?_;rintro e S ⟨rfl,k⟩;have o:=zb (y.out.trans k);clear k);have f:=c.out.h.mod o.out (fun x=>x) (fun x=>x);have T:=zjJ f.c0;have G:=zdv f K Z;have U:=zb G;clear G f A;go_wp2_with (go_at_call 248;refine U.out.mono ?_;rintro e w4 ⟨rfl,h4,H⟩;have V:=zb h4;have X:=zb H;clear h4 H);go_roundw
      case rel=>exact⟨w,zck j i w,rfl,by omega,zb (c.out.next s.out F.out (by rw[M.out,v.out];exact B.out) V.out ((o.out.mono (fun _ x=>x.elim)).trans X.out))⟩
      case measure =>
       have a1:=t.out;have a2:=u.out;simp[intOf];omega
     ·rw[decide_eq_false h4]at a;have d:=zb a;have B:=zb h4;clear a h4;go_wp2_with (go_at_call 245;refine d.out.mono ?_;rintro e S ⟨rfl,k⟩;have o:=zb (y.out.trans k);clear k);all_goals
       go_ret;have e:=c.out.stop s.out F.out (by rw[M.out,v.out];exact B.out);rw[Y.out]at e;exact⟨⟨_,rfl⟩,by rw[e];exact c.out.h.mod o.out (fun x=>x) (fun x=>x),c.out.m.trans (o.out.mono (fun _ x=>x.elim))⟩
    ·rw[decide_eq_false h3]at N;have KL:=zb N;have H3:=zb h3;clear N h3;go_upto_region 8 with(go_at_call 245;refine KL.out.mono ?_;rintro e w2 ⟨rfl,Q⟩;have y:=zb Q;clear Q);have z:=c.out.h.mod y.out (fun x=>x) (fun x=>x);have A:=zhb z.c0;have a:=zcG z g1 K;have E:p=if 2*i+2<n∧j.getD (2*i+2) 0<j.getD (2*i+1) 0 then 2*i+2 else 2*i+1:=by
      rw[u.out,t.out,r.out];rw[v.out,if_neg (fun x=>H3.out x.2)]
     have F:=zb E;clear E z hm;by_cases h4:y1<x
     ·rw[decide_eq_true h4]at a;have d:=zb a;have B:=zb h4;clear a h4;go_upto_region 9 with(go_at_call 245;refine d.out.mono ?_;rintro e S ⟨rfl,k⟩;have o:=zb (y.out.trans k);clear k);have f:=c.out.h.mod o.out (fun x=>x) (fun x=>x);have T:=zjJ f.c0;have G:=zdv f K g1;have U:=zb G;clear G f A;go_wp2_with (go_at_call 248;refine U.out.mono ?_;rintro e w4 ⟨rfl,h4,H⟩;have V:=zb h4;have X:=zb H;clear h4 H);go_roundw
      case rel=>exact⟨p,zck j i p,rfl,by omega,zb (c.out.next s.out F.out (by rw[M.out,r.out];exact B.out) V.out ((o.out.mono (fun _ x=>x.elim)).trans X.out))⟩
      case measure =>
       have a1:=t.out;have a2:=u.out;simp[intOf];omega
     ·rw[decide_eq_false h4]at a;have d:=zb a;have B:=zb h4;clear a h4;go_wp2_with (go_at_call 245;refine d.out.mono ?_;rintro e S ⟨rfl,k⟩;have o:=zb (y.out.trans k);clear k);all_goals
       go_ret;have e:=c.out.stop s.out F.out (by rw[M.out,r.out];exact B.out);rw[Y.out]at e;exact⟨⟨_,rfl⟩,by rw[e];exact c.out.h.mod o.out (fun x=>x) (fun x=>x),c.out.m.trans (o.out.mono (fun _ x=>x.elim))⟩
   ·have d3:¬(w:Int)<n:=by omega
    clear v;go_upto_region 8 with fail;have y:Hid (Mod NoB wr wr):=zb (Mod.refl _ _);have z:=c.out.h.mod y.out (fun x=>x) (fun x=>x);have A:=zhb z.c0;have a:=zcG z g1 K;have E:p=if 2*i+2<n∧j.getD (2*i+2) 0<j.getD (2*i+1) 0 then 2*i+2 else 2*i+1:=by
     rw[u.out,t.out,r.out];rw[if_neg (fun x=>h2 x.1)]
    have F:=zb E;clear E z hm;by_cases h4:y1<x
    ·rw[decide_eq_true h4]at a;have d:=zb a;have B:=zb h4;clear a h4;go_upto_region 9 with(go_at_call 245;refine d.out.mono ?_;rintro e S ⟨rfl,k⟩;have o:=zb (y.out.trans k);clear k);have f:=c.out.h.mod o.out (fun x=>x) (fun x=>x);have T:=zjJ f.c0;have G:=zdv f K g1;have U:=zb G;clear G f A;go_wp2_with (go_at_call 248;refine U.out.mono ?_;rintro e w4 ⟨rfl,h4,H⟩;have V:=zb h4;have X:=zb H;clear h4 H);go_roundw
     case rel=>exact⟨p,zck j i p,rfl,by omega,zb (c.out.next s.out F.out (by rw[M.out,r.out];exact B.out) V.out ((o.out.mono (fun _ x=>x.elim)).trans X.out))⟩
     case measure =>
      have a1:=t.out;have a2:=u.out;simp[intOf];omega
    ·rw[decide_eq_false h4]at a;have d:=zb a;have B:=zb h4;clear a h4;go_wp2_with (go_at_call 245;refine d.out.mono ?_;rintro e S ⟨rfl,k⟩;have o:=zb (y.out.trans k);clear k);all_goals
      go_ret;have e:=c.out.stop s.out F.out (by rw[M.out,r.out];exact B.out);rw[Y.out]at e;exact⟨⟨_,rfl⟩,by rw[e];exact c.out.h.mod o.out (fun x=>x) (fun x=>x),c.out.m.trans (o.out.mono (fun _ x=>x.elim))⟩
  ·have d1:(n:Int)≤p:=by omega
   have C:¬2*i+1<n:=by omega
   have HF:zak sb fn R g cap wr:=by
    rw[←Y.out,c.out.leave C];exact c.out.h
   have aa:=zb HF;clear I J HF;go_wp2_with fail;all_goals
    go_ret;exact⟨⟨_,rfl⟩,aa.out,c.out.m⟩
theorem zmc{sb:Nat}{fn:Nat→Value}{l o:List Nat}{c g cap:Nat}{W:World}(h:zak sb fn l g cap W)(h1:1≤l.length)(f:zdw (l.length-1) (zck l 0 (l.length-1)) 0 (l.length-1)=o++[c]) :
  Calls Tryz.prog 151 #[hI sb] W fun e W'=>e = .returned (.iface 266 (.agg #[.int .i64 (c:Int),fn c]))∧zak sb fn o g cap W'∧Mod (fun q=>q=sb∨q=g) W W':=by
 have hs:=h.small;obtain⟨n,j⟩:∃n,l.length=n+1:=⟨l.length-1,by omega⟩;have a:l.length-1=n:=by omega
 rw[a]at f;have p:=hmLen h.c0;have b:=zjJ h.c0;have k:=zgj (some ⟨g,0,none⟩) l.length cap W;have d:=zdv h (zdx (l:=l) (i:=0) (by omega)) (zdx (l:=l) (i:=n) (by omega));have q1:IntKind.i64.wrap (((n+1:Nat):Int)-1)=(n:Int):=by rw[IntWalk.i64_in _ (by omega)];omega
 have q2:wrap64 (n:Int)=(n:Int):=IntWalk.wrap64_in _ (by omega);have r:(zck l 0 n).length=n+1:=by rw[zeb,j]
 rw[j]at p b k d;rw[show((0:Nat):Int)=0 from rfl]at d;have KL:=zb k;have KS:=zb d;have HP:=zb f;have E1:=zb r;clear h k d f j a r;unfold hI;go_enter Tryz.func151,Tryz.ntmps151;go_upto_region 3 with(first|(go_at_call 150;refine KL.out.mono ?_;rintro e w2 ⟨rfl,rfl⟩)|(go_at_call 248;refine KS.out.mono ?_;rintro e w3 ⟨rfl,h3,s⟩;have H3:=zb h3;have M3:=zb s;clear h3 s));have m:=zmb H3.out n (by rw[E1.out];omega);rw[HP.out]at m;have t:=zb m;unfold hI at t;clear m p b;go_upto_region 4 with(go_at_call 200;refine t.out.mono ?_;rintro e w4 ⟨⟨rb,rfl⟩,h4,u⟩;have H4:=zb h4;have M4:=zb u;clear h4 u);have hmp:=hmPop sb w4;have v:=zma H4.out;have KP:=zb v;clear v;go_wp2_with (go_at_call 246;refine KP.out.mono ?_;rintro e w5 ⟨rfl,w,y⟩;have H5:=zb w;have M5:=zb y;clear w y);go_ret;exact⟨rfl,H5.out,((M3.out.trans M4.out).mono (fun _ x=>.inl (.inr x))).trans (M5.out.mono (fun _ x=>.inl (.inl x)))⟩
end Go.Proofs.YtddfdpbaiedcjaaGreatDoor
