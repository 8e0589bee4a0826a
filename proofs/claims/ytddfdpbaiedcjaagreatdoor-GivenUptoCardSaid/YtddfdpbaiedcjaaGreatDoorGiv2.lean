/- A part of Given's proof. Conditions: none. Part 2 of 15. -/
import Derived.Laws.CopyOwn
import Derived.Test.YtddfdpbaiedcjaaGreatDoorRows
import Derived.BigQuiet
import Derived.WalkSpells
import Derived.Test.YtddfdpbaiedcjaaGreatDoorGiv1
import Derived.RangeFuncNested
import Derived.Shelf.Abstract
import Derived.OwnWalkIn
import Derived.TacticsInMore
import Derived.LoopNIn
import Derived.LoopIn
import Derived.Laws.EntriesVeiled
import Derived.Lib.LazyBuf
import Derived.WalkLawsBesides
import Derived.Lib.ConvBytes
set_option maxRecDepth 100000
set_option maxHeartbeats 16000000
set_option linter.all false
namespace Go.Proofs.YtddfdpbaiedcjaaGreatDoor
section
open Go.RowKit Go.Proofs.Tryz
inductive rU|a
abbrev rT:=rU.a
instance:CoeFun rU (λ_=>FuncId->Array rt->rq->(Ending->rq->Prop)->Prop):=⟨λ_=>Calls prog⟩
def zb{p:Prop}(h:p):AA p:=h
abbrev zE:=List<|Nat×Nat
def DU(rs:zE)(i:Nat):Nat:=(rs.getD i (0,0)).1
def DP(rs:zE)(i:Nat):Nat:=(rs.getD i (0,0)).2
def zr:zE->List rt
 | []=>[]
 | r::rs=>.int .u64 r.1 :: .int .u64 r.2::zr rs
theorem zS(rs:zE):(zr rs).length=rs.length*2:=by
 induction rs with
 | nil=>rfl
 | cons r rs ih=>simp only[zr,AS,ih];omega
theorem Jt(a b:zE):zr (a++b)=zr a++zr b:=by
 induction a with
 | nil=>rfl
 | cons r rs ih=>simp[zr,ih]
theorem gj(rs:zE):∀i,i<rs.length->(zr rs)[i*2]?=some (.int .u64 (DU rs i:Int)):=by
 induction rs with
 | nil=>intro i h;simp at h
 | cons r rs ih =>
  intro i h;cases i with
  | zero=>rfl
  | succ i =>
   have e:(i+1)*2=i*2+1+1:=I;rw[e];simp only[zr,DE,DU,List.getD_cons_succ];exact ih i<|rB h
theorem gh(rs:zE):∀i,i<rs.length->(zr rs)[i*2+1]?=some (.int .u64 (DP rs i:Int)):=by
 induction rs with
 | nil=>intro i h;simp at h
 | cons r rs ih =>
  intro i h;cases i with
  | zero=>rfl
  | succ i =>
   have e:(i+1)*2+1=i*2+1+1+1:=I;rw[e];simp only[zr,DE,DP,List.getD_cons_succ];exact ih i<|rB h
theorem Pb(rs:zE):∀k,(zr rs).take (k*2)=zr (rs.take k):=by
 induction rs with
 | nil=>intro k;simp[zr]
 | cons r rs ih =>
  intro k;cases k with
  | zero=>simp[zr]
  | succ k =>
   have e:(k+1)*2=k*2+1+1:=I;rw[e];simp[zr,ih]
theorem V4(rs:zE):∀k,(zr rs).drop (k*2)=zr (rs.drop k):=by
 induction rs with
 | nil=>intro k;simp[zr]
 | cons r rs ih =>
  intro k;cases k with
  | zero=>simp[zr]
  | succ k =>
   have e:(k+1)*2=k*2+1+1:=I;rw[e];simp[zr,ih]
variable{base cap e g:Nat}{rs:zE}{w:rq}
def Il{n:Nat}(h:w.ownsRow base e 2 (.slice g n cap) rs.length (zr rs)):∀i,i<rs.length->w ⟨g,i*2,none⟩=some (.int .u64 (DU rs i:Int))/\w ⟨g,i*2+1,none⟩=some (.int .u64 (DP rs i:Int)):=by
 intro i c;have d:=h.cells (g:=g) rfl;have a:∀j,(⟨g,0,none⟩:Addr).add j=⟨g,j,none⟩:=λj=>by unfold Addr.add;split<;>simp_all
 exact⟨by rw[<-a];exact d _ _<|gj rs i c,by rw[<-a];exact d _ _<|gh rs i c⟩
variable{sz:Nat}{v:rt}{xs:rF}
def zk{n:Nat}(h:w.ownsRow base e sz v n xs):∃a c,v=.slice a n c/\n<=c/\c<=maxLen/\(0<n->∃g,a=some ⟨g,0,none⟩):=by
 rcases h.2 with⟨rfl,rfl⟩|⟨g,c,a,rfl,_,_,d,f,_⟩
 .exact⟨none,0,rfl,AF _,AN _,λh=>absurd h<|Nat.lt_irrefl _⟩
 exact⟨_,c,rfl,d,f,λ_=>⟨g,rfl⟩⟩
structure DO(S:Nat->Prop)(w w':rq):Prop where
 os:w'.os=w.os
 tape:w'.tape=w.tape
 output:w'.output=w.output
 size:w.heap.size<=w'.heap.size
 block:∀k,k<w.heap.size->¬S k->w'.heap[k]?=w.heap[k]?
def DQ:Nat->Prop:=λ_=>False
section
variable {S:Nat->Prop} {w w' w'':rq}
def DO.refl(S:Nat->Prop)(w:rq):DO S w w:=⟨rfl,rfl,rfl,AF _,λ_ _ _=>rfl⟩
def rp{S:Nat->Prop}{w:rq}:DO S w w:=DO.refl _ _
def DO.trans(h:DO S w w')(k:DO S w' w''):DO S w w'' :=
 ⟨k.os.trans h.os,k.tape.trans h.tape,k.output.trans h.output,AK h.size k.size,λi a c=>(k.block i (A7 a h.size) c).trans<|h.block i a c⟩
def DO.then{S':Nat->Prop}(h:DO S w w')(k:DO S' w' w'')(d:∀i,S' i->S i\/w.heap.size<=i):DO S w w'' :=
 ⟨k.os.trans h.os,k.tape.trans h.tape,k.output.trans h.output,AK h.size k.size,
  λi a c=>(k.block i (A7 a h.size)<|λx=>(d i x).elim c<|λy=>I).trans<|h.block i a c⟩
def DO.mono{S':Nat->Prop}(h:DO S w w')(a:∀i,S i->S' i\/w.heap.size<=i):DO S' w w' :=
 ⟨h.os,h.tape,h.output,h.size,λi c d=>h.block i c<|λx=>(a i x).elim d<|λy=>I⟩
def DO.drewN(h:DO S w w')(n:Nat):DO S w (w'.drewN n):=⟨h.os,h.tape,h.output,h.size,h.block⟩
def DO.drew(h:DO S w w'):DO S w w'.drew:=⟨h.os,h.tape,h.output,h.size,h.block⟩
def DO.alloc(h:DO S w w')(o:Obj):DO S w (w'.alloc o) :=
 ⟨h.os,h.tape,h.output,AK h.size lm,λi a c=>(Below.heap_alloc w' o i<|A7 a h.size).trans<|h.block i a c⟩
def AB{W W1:rq}{o:Obj}(h:W.alloc o=W1):DO DQ W W1:=h ▸ rp.alloc _
def AC{W W1:rq}{o:Obj}(h:W.alloc o=W1):W1.heap.size=W.heap.size+1:=by rw[<-h];simp
def AD{W W1:rq}{o:Obj}(h:W.alloc o=W1):W1.heap[W.heap.size]?=some o:=by rw[<-h];exact heap_alloc_new W _
def DO.setCell(h:DO S w w'){p:Addr}(a:S p.block\/w.heap.size<=p.block)(u:rt):DO S w (w'.setCell p u) :=
 ⟨h.os,h.tape,h.output,by simpa [World.setCell]using h.size,λi d c=>(Below.heap_setCell w' p u i (by
  rintro rfl;rcases a with a|a
  .exact c a
  omega)).trans (h.block i d c)⟩
def DO.grown{row:Option Nat}(h:DO S w w')(a:w'.grownBy w'' row)(f:∀k,row=some k->S k\/w.heap.size<=k):DO S w w'' :=
 ⟨a.os.trans h.os,a.tape.trans h.tape,a.output.trans h.output,AK h.size a.size,
  λi c d=>(a.block i (A7 c h.size) (λe=>by
   rcases f i e.symm with x|x
   .exact d x
   omega)).trans (h.block i c d)⟩
def DO.oz(h:Below w.heap.size w w'):DO S w w':=⟨h.os,h.tape,h.output,h.size,λi a _=>h.block i a⟩
def DO.below(h:DO DQ w w'):Below w.heap.size w w':=⟨h.os,h.tape,h.output,h.size,λi a=>h.block i a rk⟩
def DO.cell(h:DO S w w'){a:Addr}(d:¬S a.block)(c:w a=some v):w' a=some v :=
 (World.cell?_of_block<|h.block a.block (World.block_lt_of_cell? w a c) d).trans c
variable{k:Nat}
def DO.obj(h:DO S w w'){o:Obj}(c:¬S k)(a:w.heap[k]?=some o):w'.heap[k]?=some o :=
 (h.block k (AI.1 a).1 c).trans a
def DO.owns(h:DO S w w'){n:Nat}(f:w.ownsRow base e sz v n xs)(l:∀g,v.ownBlock=some g->¬S g):w'.ownsRow base e sz v n xs:=by
 refine⟨f.1,?_⟩;rcases f.2 with o|⟨g,c,d,rfl,hb,p,a⟩
 .exact .inl o
 exact .inr ⟨g,c,d,rfl,hb,h.obj (l g rfl) p,a⟩
end
variable{b o:Nat}
def zm(h:w (b,o)=some v):b<w.heap.size:=World.block_lt_of_cell? w _ h
variable{cs:Array rt}{fz:Nat×Nat}{k t:Nat}
def za(h:w.heap[k]?=some (.cells cs t fz))(a:cs[o]?=some v):w (k,o)=some v:=by
 unfold World.cell?;simp only[h];simpa using a
def zg(h:w.heap[k]?=some (.cells cs t (0,0))):w.frozen? ⟨k,o,none⟩=false:=by
 unfold World.frozen?;simp only[h];simp
variable{j:Nat}
def Pa{R:Nat}{x:rt}{a:Addr}(h:w a=some v)(c:¬a.block=R):(w.setCell (R,j) x) a=some v :=
 ((DO.refl (λk=>k=R) w).setCell (p:=(R,j)) rj x).cell c h
def MC{R:Nat}{x:rt}{a:Addr}(h:w a=some v)(c:¬a.block=R):(w.setCell (R,j) x).drew a=some v:=Pa h c
def MB{R:Nat}{x y:rt}{a:Addr}(h:w a=some v)(c:¬a.block=R):((w.setCell (R,j) x).setCell (R,k) y).drew a=some v:=Pa (Pa h c) c
variable{w':rq}
def NX(h:w'.heap[b]?=w.heap[b]?)(o:Nat)(v:rt):(w'.setCell (b,o) v).heap[b]?=(w.setCell (b,o) v).heap[b]?:=by
 simp only[World.setCell,CF,h]
variable{P:Program}
def O8 {f : FuncId} {d : Func} {c : Code} (e : P.funcs[f]? = some d) (a : (d.name == "runtime.NumGoroutine") = false) (hb : d.body = some c) (args : Array rt) (w : rq):(callFunc f args).run P w=.ok (.enter f args) w:=by
 have c : d.name ≠ "runtime.NumGoroutine" := rB a
 simp[callFunc,e,c,hb]
section
variable {P:Program}
def zX(g o j:Nat):(⟨g,o,none⟩:Addr).add j=⟨g,o+j,none⟩:=by unfold Addr.add;split<;>simp_all
theorem Vy(a:(P.info? e).map (·.size)=some k)(w:rq):(sizeOf e).run P w=.ok k w:=by
 cases hq:P.info? e with
 | none=>simp[hq]at a
 | some i=>simp[hq]at a;simp[sizeOf,typeInfo,hq,a]
def Uw{a:rF}(d:w.heap[g]?=some (.cells a.toArray t fz))(o n:Nat):∀j v,((a.drop o).take n)[j]?=some v->w ((⟨g,o,none⟩:Addr).add j)=some v:=by
 intro j v c;rw[zX];rw[CD]at c;split at c
 .rw[BA]at c;simpa [World.cell?,d]using c
 cases c
def Me(w:rq)(p s u e k:Nat)(z:P.underlying p=some (.slice e))(A:(P.info? e).map (·.size)=some k)
  (g o l B h d e q n:Nat) (c src:rF) (t E:Nat) (fz:Nat×Nat)
  (K:w.heap[g]?=some (.cells c.toArray t (0,0))) (N:w.heap[h]?=some (.cells src.toArray E fz)) (E:n<=e) (O:n<=l) (T:n=e\/n=l)
  (O:d+n*k<=src.length) (hd:o+n*k<=c.length) (E:∀v∈(src.drop d).take (n*k),v.oneCell'=true) :
  (Builtin.copy_ #[p,s] u #[.slice (g,o) l B,.slice (h,d) e q]).run P w =
   .ok (goInt n) (w.setRow g (splice c o<|(src.drop d).take<|n*k).toArray):=by
 have X:n=Nat.min e l:=by
  show n=min e l;omega
 have a:((src.drop d).take<|n*k).length=n*k:=ls;have Y:=run_firstCells_some (P:=P) (w:=w) k n ⟨h,d,none⟩ e q _ a<|Uw N d<|n*k;have f:=run_storeCells_at P g o t ((src.drop d).take<|n*k) 0 c.toArray w K ls E;have Z:=Vy A;subst X;simp only[B5,a]at f;have c:=f;simp[Builtin.copy_,run_underlying z,Builtin.lenOf,Z,Y,f,splice,a];try omega
def kG(z:Array rt)(n:Nat)(c:∀v∈z.toList,v.oneCell'=true):∀v∈(Builtin.zeroCells z n).toList,v.oneCell'=true:=by
 intro v a;simp only[Builtin.zeroCells,Array.toList_map,BL]at a;obtain⟨i,d,rfl⟩:=a;by_cases a:z.size=0
 .simp[a]at d
 have a:i % z.size<z.size:=Nat.mod_lt _ I;apply c;rw[getElem!_pos z _ a];exact Array.getElem_mem_toList a
theorem Mf(w:rq)(T p e:Nat)(z:rt)(k:Nat)(h:P.underlying T=some (.slice e))(q:∀w,(zeroValue e).run P w=.ok z w)(s:z.cells.size=k)
  (e:∀v∈z.cells.toList,v.oneCell'=true) (g o n c:Nat) (a:rF) (t:Nat) (l:w.heap[g]?=some (.cells a.toArray t (0,0))) (hd:o+n*k<=a.length) :
  (Builtin.clear_ #[T] p #[.slice (g,o) n c]).run P w=.ok (.tuple #[]) (w.setRow g (splice a o (Builtin.zeroCells z.cells n).toList).toArray):=by
 have d:(Builtin.zeroCells z.cells n).toList.length=n*k:=by simp[size_zeroCells,s]
 have f:=run_storeCells_at P g o t (Builtin.zeroCells z.cells n).toList 0 a.toArray w l (by rw[d];simpa using hd)<|kG _ _ e;simp only[B5,d]at f;cases n with
 | zero =>
  have c:(Builtin.zeroCells z.cells 0).toList=[]:=by simp[Builtin.zeroCells]
  have:=setRow_self w g a.toArray t (0,0) l;simp[Builtin.clear_,run_underlying h,c,splice,this]
 | succ n =>
  simp only[Builtin.clear_];simp[run_underlying h,q,f,splice,d]
def D4(w:rq)(v v':rt):Prop:=∀k,v'.ownBlock=some k->v.ownBlock=some k\/w.heap.size<=k
def D4.refl(w:rq)(v:rt):D4 w v v:=λ_ h=>.inl h
def zN(w:rq)(t e:Nat)(i:TypeInfo)(z:rt)(f bytes:Nat)(Y:P.underlying t=some (.slice e))(hi:P.info? e=some i)(hz:i.zero=some z)
  (s:i.size=f) (Z:i.bytes=bytes) (aa:z.cells.size=f) (u:0<f)
  (v:rt) (n:Nat) (xs:rF) (h:w.ownsRow 0 e f v n xs)
  (a:Addr) (m c:Nat) (d:rF) (E:d.length=m*f) (l:∀j u,d[j]?=some u->w (a.add j)=some u) (h1:∀u∈d,u.oneCell'=true)
  (X:n+m<=maxLen) (o:(n+m)*bytes<=140737488355328) :
  ∃u w',(∀B,(Builtin.append_ #[t,t] B #[v,.slice (some a) m c]).run P w=.ok u w')/\w'.ownsRow 0 e f u (n+m) (xs++d)/\w.grownBy w' v.ownBlock/\D4 w v u:=by
 subst s;subst Z;have f:n+m<=9223372036854775807:=by simp only[maxLen]at X;omega
 have p:(xs++d).length=(n+m)*i.size:=by rw[AG,h.1,E,DH]
 have grown:∀(f:Nat),f<n+m->∀(row:Option Nat),
   (w.drew.alloc<|.cells (xs.toArray++d.toArray++Builtin.zeroCells z.cells (grownCap w (n+m) f e-(n+m))) e).ownsRow 0 e i.size
    (.slice w (n+m)<|grownCap w (n+m) f e) (n+m) (xs++d) /\
   w.grownBy (w.drew.alloc<|.cells (xs.toArray++d.toArray++Builtin.zeroCells z.cells (grownCap w (n+m) f e-(n+m))) e) row:=by
  intro f s row;have s:=grownCap_ge w (n+m) f e;have K:=grownCap_le_maxLen w (n+m) f e X;refine⟨⟨p,.inr ⟨w.heap.size,_,_,rfl,AN _,heap_alloc_new w.drew _,s,K,?_,?_⟩⟩,⟨rfl,rfl,rfl,lm,λk N _=>Below.heap_alloc w.drew _ k N⟩⟩
  .simp only[C8,An,size_zeroCells,aa,h.1,E,<-Nat.add_mul];congr 1;omega
  simp only[Cz,Ap];rw[<-List.append_assoc,<-p];exact BQ
 have A:∀c n v,D4 w v (.slice w n c):=λc n v k N=>by
  simp[Value.ownBlock]at N;omega
 rcases h.2 with⟨rfl,rfl⟩|⟨g,q,O,rfl,ab,hg,f,K,ac,T⟩
 .have hx:=Ai<|rB h.1;subst hx;by_cases hm:m=0
  .subst hm;have hn:=Ai<|rB E;subst hn;refine⟨.slice none 0 0,w,λB=>?_,World.ownsRow_nil w 0 e i.size,⟨rfl,rfl,rfl,AF _,λ_ _ _=>rfl⟩,D4.refl _ _⟩;simp[Builtin.append_,run_underlying Y,sizeOf,typeInfo,hi,Builtin.lenOf,Builtin.firstCells,loadCells,loadCellsFrom]
  have u:=λB=>run_append_nil (P:=P) w t B e i z Y hi hz a m c d E l I I (by have hb:=o;simp only[Aw]at hb;omega)
  have s:=grown 0 I<|Value.ownBlock ru;simp only[Aw,Aq,Array.empty_append]at s ⊢;exact⟨_,_,u,s.1,s.2,A _ _ _⟩
 by_cases f:n+m<=q
 .have v:n*i.size+d.length<=O.size:=by rw[E,ac,<-Nat.add_mul];exact Bm _ f
  have u:=λB=>run_append_room (P:=P) w t B e i Y hi g n q O hg a m c d E l h1 f v
  refine⟨_,_,u,⟨p,.inr ⟨g,q,_,rfl,ab,setRow_heap w g O _ e _ hg,f,K,?_,?_⟩⟩,⟨rfl,rfl,rfl,lm,λk _ N=>setRow_other w g k _<|λe=>N<|by simp[Value.ownBlock,e]⟩,λk N=>.inl N⟩
  .simp only[An,AG,AU,Ag,B7];omega
  rw[T,<-p];exact BQ
 have f:=h.cells (g:=g) rfl;have u:=λB=>run_append_grow (P:=P) w t B e i z Y hi hz ⟨g,0,none⟩ n q xs h.1 f a m c d E l I I<|growslice_fits I o
 have s:=grown q I<|Value.ownBlock<|.slice g n q;exact⟨_,_,u,s.1,s.2,A _ _ _⟩
def kW(w:rq)(t u h e:Nat)(a:IntKind)(i:TypeInfo)(z:rt)(A:P.underlying t=some (.slice e))(B:P.underlying u=some (.int a))(hi:P.info? e=some i)(E:i.zero=some z)
  (b:Addr) (a c n:Nat) (d:rF) (q:d.length=a*i.size) (f:∀j v,d[j]?=some v->w (b.add j)=some v)
  (l:c<a+n) (o:a+n<=9223372036854775807) (hb:(a+n)*i.bytes<=140737488355328) (p:0<n*i.size) :
  (Builtin.append_ #[t,u] h #[.slice (some b) a c,.int .i64 n]).run P w =
   .ok (.slice w (a+n)<|grownCap w (a+n) c e)
    (w.drew.alloc<|.cells (d.toArray++Builtin.zeroCells z.cells n++Builtin.zeroCells z.cells (grownCap w (a+n) c e-(a+n))) e):=by
 have t:¬(a+n<=c):=I;have h:¬(9223372036854775807<((a:Int)+(n:Int))):=I;have e:=growslice_fits l hb;have l:¬(281474976710656<Builtin.nextslicecap (a+n) c*i.bytes):=I;have u:IntKind.i64.wrap (n:Int)=(n:Int):=IntWalk.i64_in _ I;have o:¬((n:Int)<0):=I;have e:n*i.bytes<=281474976710656:=by rw[DH]at hb;omega
 have p:¬(281474976710656<(n:Int)*(i.bytes:Int)):=by
  have:((n*i.bytes:Nat):Int)<=281474976710656:=I;rw[Int.natCast_mul]at this;omega
 have e:¬(n*i.size=0):=I;have s:=run_firstCells_some (P:=P) w.drew i.size a b a c d q<|rB f;have a:Sem.run P (asIntOf<|.int .i64 n) w=.ok (.i64,(n:Int)) w:=rfl;simp[Builtin.append_,run_underlying A,run_underlying B,sizeOf,typeInfo,zeroValue,hi,E,asInt,a,u,o,p,t,h,l,e,Question.forced,s,newRow,grownCap]
variable{Q:Exit->Act->rq->Prop}{ops:Array Oper}{w1:rq}
def zo{rest:List Oper}{o:Oper}{a:Act}(c:o.guard=none)(s x:Operand)(t u:TypeId)
  (f:o.op=.call { callee:=.builtin .append,args:=#[s,x],argTypes:=#[t,u] }) (d e v':rt) (l:a.eval s=d) (p:a.eval x=e)
  (DY:∀q,(Builtin.append_ #[t,u] q #[d,e]).run P w=.ok v' w1) (h:wpList P ops Q rest (a.put o.dst v') w1):wpList P ops Q (o::rest) a w:=by
 refine wpList_plain c λK c=>?_
 have a:=DY o.type;unfold Oper.wp;simp[execOp,f,resolve,invoke,builtin,l,p,a,Result.andThen];exact c _ _ h
def zL{o:Oper}{a:Act}{K:Act->rq->Prop}{E:Prop}(c:o.guard=none)(s x:Operand)(t u:TypeId)
  (f:o.op=.call { callee:=.builtin .append,args:=#[s,x],argTypes:=#[t,u] }) (d e v':rt) (l:a.eval s=d) (p:a.eval x=e)
  (DY:∀q,(Builtin.append_ #[t,u] q #[d,e]).run P w=.ok v' w1) (h:K (a.put o.dst v') w1) :
  if Region.wanted o (yielded ops a.tmps)=true then Oper.wp P o a w K Q else E:=by
 have d:Region.wanted o (yielded ops a.tmps)=true:=by simp[Region.wanted,c]
 rw[AM d];have a:=DY o.type;unfold Oper.wp;simp[execOp,f,resolve,invoke,builtin,l,p,a,Result.andThen];exact h
end
section
variable {P:Program}
def Kz(w:rq)(t e:Nat)(i:TypeInfo)(z:rt)(h bytes:Nat)(Z:P.underlying t=some (.slice e))(hi:P.info? e=some i)(hz:i.zero=some z)
  (s:i.size=h) (aa:i.bytes=bytes) (ab:z.cells.size=h) (u:0<h)
  (v:rt) (n:Nat) (xs:rF) (f:w.ownsRow 0 e h v n xs)
  (a:Addr) (m c:Nat) (d:rF) (O:d.length=m*h) (o:∀j u,d[j]?=some u->w (a.add j)=some u) (h1:∀u∈d,u.oneCell'=true)
  (X:n+m<=maxLen) (p:(n+m)*bytes<=140737488355328) :
  ∃u w',(∀N,(Builtin.append_ #[t,t] N #[v,.slice (some a) m c]).run P w=.ok u w')/\w'.ownsRow 0 e h u (n+m) (xs++d)/\w.grownBy w' v.ownBlock/\D4 w v u/\w'.ownsRow 0 e h v n xs:=by
 subst s;subst aa;have h:n+m<=9223372036854775807:=by simp only[maxLen]at X;omega
 have q:(xs++d).length=(n+m)*i.size:=by rw[AG,f.1,O,DH]
 have grown:∀(h:Nat),h<n+m->∀(row:Option Nat),
   (w.drew.alloc<|.cells (xs.toArray++d.toArray++Builtin.zeroCells z.cells (grownCap w (n+m) h e-(n+m))) e).ownsRow 0 e i.size
    (.slice w (n+m)<|grownCap w (n+m) h e) (n+m) (xs++d) /\
   w.grownBy (w.drew.alloc<|.cells (xs.toArray++d.toArray++Builtin.zeroCells z.cells (grownCap w (n+m) h e-(n+m))) e) row:=by
  intro h s row;have s:=grownCap_ge w (n+m) h e;have E:=grownCap_le_maxLen w (n+m) h e X;refine⟨⟨q,.inr ⟨w.heap.size,_,_,rfl,AN _,heap_alloc_new w.drew _,s,E,?_,?_⟩⟩,⟨rfl,rfl,rfl,lm,λk T _=>Below.heap_alloc w.drew _ k T⟩⟩
  .simp only[C8,An,size_zeroCells,ab,f.1,O,<-Nat.add_mul];congr 1;omega
  simp only[Cz,Ap];rw[<-List.append_assoc,<-q];exact BQ
 have A:∀c n v,D4 w v (.slice w n c):=λc n v k T=>by
  simp[Value.ownBlock]at T;omega
 rcases f.2 with⟨rfl,rfl⟩|⟨g,l,K,rfl,Y,hg,ac,E,ad,B⟩
 .have hx:=Ai<|rB f.1;subst hx;by_cases hm:m=0
  .subst hm;have hn:=Ai<|rB O;subst hn;refine⟨.slice none 0 0,w,λN=>?_,World.ownsRow_nil w 0 e i.size,⟨rfl,rfl,rfl,AF _,λ_ _ _=>rfl⟩,D4.refl _ _,World.ownsRow_nil w 0 e i.size⟩;simp[Builtin.append_,run_underlying Z,sizeOf,typeInfo,hi,Builtin.lenOf,Builtin.firstCells,loadCells,loadCellsFrom]
  have u:=λN=>run_append_nil (P:=P) w t N e i z Z hi hz a m c d O o I I (by have hb:=p;simp only[Aw]at hb;omega)
  have s:=grown 0 I<|Value.ownBlock ru;simp only[Aw,Aq,Array.empty_append]at s ⊢;exact⟨_,_,u,s.1,s.2,A _ _ _,World.ownsRow_nil _ 0 e i.size⟩
 by_cases h:n+m<=l
 .have v:n*i.size+d.length<=K.size:=by rw[O,ad,<-Nat.add_mul];exact Bm _ h
  have u:=λN=>run_append_room (P:=P) w t N e i Z hi g n l K hg a m c d O o h1 h v
  refine⟨_,_,u,⟨q,.inr ⟨g,l,_,rfl,Y,setRow_heap w g K _ e _ hg,h,E,?_,?_⟩⟩,⟨rfl,rfl,rfl,lm,λk _ T=>setRow_other w g k _<|λe=>T<|by simp[Value.ownBlock,e]⟩,λk T=>.inl T,⟨f.1,.inr ⟨g,l,_,rfl,Y,setRow_heap w g K _ e _ hg,ac,E,?_,?_⟩⟩⟩
  .simp only[An,AG,AU,Ag,B7];omega
  .rw[B,<-q];exact BQ
  .simp only[An,AG,AU,Ag,B7];omega
  rw[B,<-f.1,Ap];exact BQ
 have h:=f.cells (g:=g) rfl;have u:=λN=>run_append_grow (P:=P) w t N e i z Z hi hz ⟨g,0,none⟩ n l xs f.1 h a m c d O o I I<|growslice_fits I p
 have s:=grown l I<|Value.ownBlock<|.slice g n l;have a:=grown l I none;exact⟨_,_,u,s.1,s.2,A _ _ _,f.kept a.2<|by simp[Value.ownBlock]⟩
def kY(w:rq)(t u e:Nat)(i:TypeInfo)(T:P.underlying t=some (.slice e))(X:P.underlying u=some .string)(hi:P.info? e=some i)(hz:i.zero=some (.int .u8 0))
  (f:i.size=1) (K:i.bytes=1) (v:rt) (n:Nat) (xs:rF) (a:w.ownsRow 0 e 1 v n xs) (s:ByteArray) (p:n+s.size<=maxLen) (c:n+s.size<=140737488355328) :
  ∃c w',(∀A,(Builtin.append_ #[t,u] A #[v,.string s]).run P w=.ok c w')/\w'.ownsRow 0 e 1 c (n+s.size) (xs++Lib.strCells s)/\w.grownBy w' v.ownBlock/\D4 w v c/\w'.ownsRow 0 e 1 v n xs:=by
 have c:n+s.size<=9223372036854775807:=by simp only[maxLen]at p;omega
 have q:xs.length=n:=rB a.1;have h:(xs++Lib.strCells s).length=(n+s.size)*1:=by rw[AG,q,Lib.strCells_length,DG]
 have grown:∀(c:Nat),c<n+s.size->∀(row:Option Nat),
   (w.drew.alloc<|.cells (xs.toArray++(Lib.strCells s).toArray++Builtin.zeroCells (Value.int .u8 0).cells (grownCap w (n+s.size) c e-(n+s.size))) e).ownsRow 0 e 1
    (.slice w (n+s.size)<|grownCap w (n+s.size) c e) (n+s.size) (xs++Lib.strCells s) /\
   w.grownBy (w.drew.alloc<|.cells (xs.toArray++(Lib.strCells s).toArray++Builtin.zeroCells (Value.int .u8 0).cells (grownCap w (n+s.size) c e-(n+s.size))) e) row:=by
  intro c O row;have O:=grownCap_ge w (n+s.size) c e;have z:=grownCap_le_maxLen w (n+s.size) c e p;refine⟨⟨h,.inr ⟨w.heap.size,_,_,rfl,AN _,heap_alloc_new w.drew _,O,z,?_,?_⟩⟩,⟨rfl,rfl,rfl,lm,λk B _=>Below.heap_alloc w.drew _ k B⟩⟩
  .have c:(Value.int IntKind.u8 0).cells.size=1:=rfl;simp only[C8,An,size_zeroCells,c,q,Lib.strCells_length];omega
  simp only[Cz,Ap];rw[<-List.append_assoc,<-h];exact BQ
 have l:∀c n v,D4 w v (.slice w n c):=λc n v k B=>by
  simp[Value.ownBlock]at B;omega
 rcases a.2 with⟨rfl,rfl⟩|⟨g,d,o,rfl,N,Y,Z,z,aa,E⟩
 .have hx:=Ai q;subst hx;by_cases c:s.size=0
  .have p:=Ai (by rw[Lib.strCells_length];exact c);refine⟨.slice none 0 0,w,λA=>?_,by rw[c,p];exact World.ownsRow_nil w 0 e 1,⟨rfl,rfl,rfl,AF _,λ_ _ _=>rfl⟩,D4.refl _ _,World.ownsRow_nil w 0 e 1⟩;have p:=Lib.run_firstCells_string (P:=P) w 1 s;rw[c]at p;simp[Builtin.append_,run_underlying T,run_underlying X,sizeOf,typeInfo,hi,f,Builtin.lenOf,c,p]
  have v:=λA=>run_append_nil_string (P:=P) w t u A e i (.int .u8 0) T X hi hz s I I<|by rw[K];omega
  have c:=grown 0 I<|Value.ownBlock ru;simp only[Aw,Aq,Array.empty_append]at c ⊢;have p:(s.data.map λb=>Value.int .u8 b.toNat)=(Lib.strCells s).toArray:=by
   apply Array.ext';simp[Lib.strCells]
  rw[p]at v;exact⟨_,_,v,c.1,c.2,l _ _ _,World.ownsRow_nil _ 0 e 1⟩
 by_cases p:n+s.size<=d
 .have O:o.size=d:=rB aa;have O:o.toList.take n=xs:=rB E;have v:=λA=>Lib.run_append_room_string (P:=P) w t u A e i T X hi f g n d o Y s p I
  refine⟨_,_,v,⟨h,.inr ⟨g,d,_,rfl,N,setRow_heap w g o _ e _ Y,p,z,?_,?_⟩⟩,⟨rfl,rfl,rfl,lm,λk _ B=>setRow_other w g k _<|λe=>B<|by simp[Value.ownBlock,e]⟩,λk B=>.inl B,⟨a.1,.inr ⟨g,d,_,rfl,N,setRow_heap w g o _ e _ Y,Z,z,?_,?_⟩⟩⟩
  .simp only[An,AG,AU,Ag,B7,Lib.strCells_length];omega
  .rw[O,<-h];exact BQ
  .simp only[An,AG,AU,Ag,B7,Lib.strCells_length];omega
  rw[O,<-a.1,Ap];exact BQ
 have h:=a.cells (g:=g) rfl;have v:=λA=>Lib.run_append_grow_string (P:=P) w t u A e i (.int .u8 0) T X hi hz ⟨g,0,none⟩ n d xs (by rw[f];simpa using q) h s I I<|by rw[K];exact growslice_fits I I
 have c:=grown d I<|Value.ownBlock<|.slice g n d;have e:=grown d I none;exact⟨_,_,v,c.1,c.2,l _ _ _,a.kept e.2<|by simp[Value.ownBlock]⟩
end
def zW(l:rC):List rt:=l.map λc=>.int .u8 (c.toNat:Int)
def JF(l:rC):(zW l).length=l.length:=by simp[zW]
def NU(a b:rC):zW (a++b)=zW a++zW b:=by simp[zW]
def RO(l:rC):∀u∈zW l,u.oneCell'=true:=by
 intro u a;simp only[zW,BL]at a;obtain⟨_,_,rfl⟩:=a;rfl
def OB(w:rq)(v:rt)(l:rC):Prop:=w.ownsRow 0 5 1 v l.length (zW l)
def OB.nil(w:rq):OB w ru []:=World.ownsRow_nil w 0 _ 1
structure Ds(w:rq)(v:rt)(l new:rC)(v':rt)(w':rq):Prop where
 own:OB w' v' (l++new)
 mL:OB w' v l
 grown:w.grownBy w' v.ownBlock
 at_:D4 w v v'
variable{m:Nat}{v':rt}
def hZ{n:Nat}{o:rF}(h:w.ownsRow 0 e sz v n xs)(B:w.ownsRow 0 e sz v' m (xs++o))(hb:v'.ownBlock=v.ownBlock)(k:w'.ownsRow 0 e sz v' m (xs++o)):w'.ownsRow 0 e sz v n xs:=by
 rcases h.2 with⟨rfl,rfl⟩|⟨g,p,v,rfl,E,K,q,s,t,u⟩
 .have:=Ai<|rB h.1;subst this;exact World.ownsRow_nil w' 0 e sz
 rcases B.2 with⟨rfl,_⟩|⟨N,u,v,rfl,_,d,B,E,f,e⟩
 .simp[Value.ownBlock]at hb
 simp[Value.ownBlock]at hb;subst hb;rw[K]at d;cases d;rcases k.2 with⟨z,_⟩|⟨v,d,c,z,_,A,e,u,l,a⟩
 .cases z
 cases z;refine⟨h.1,.inr ⟨N,p,c,rfl,AN _,A,q,s,by rw[l,<-f,t],?_⟩⟩;have d:=h.1;have e:(c.toList.take<|m*sz).take (n*sz)=(xs++o).take (n*sz):=by rw[a]
 rw[Be,<-d,BQ]at e;have a:=k.1;simp only[AG]at a
 rwa [BY I,d]at e
variable{l:rC}
def Ds.refl(h:OB w v l):Ds w v l [] v w :=
 ⟨rB h,h,⟨rfl,rfl,rfl,AF _,λ_ _ _=>rfl⟩,D4.refl _ _⟩
variable{w1:rq}
theorem Ds.trans{d:rq}{f o:rt}{a b:rC}(h:Ds w v l a f w1)(k:Ds w1 f (l++a) b o d):Ds w v l (a++b) o d:=by
 have a:w.grownBy d v.ownBlock:=⟨k.grown.os.trans h.grown.os,k.grown.tape.trans h.grown.tape,k.grown.output.trans h.grown.output,AK h.grown.size k.grown.size,λi c d =>
  (k.grown.block i (A7 c h.grown.size) (λe=>by
   rcases h.at_ i e.symm with x|x
   .exact d x.symm
   omega)).trans (h.grown.block i c d)⟩
 refine⟨by rw[<-List.append_assoc];exact k.own,?_,a,λi c=>?_⟩
 .by_cases hb:f.ownBlock=v.ownBlock
  .have a:=h.own;have d:=k.mL;unfold OB at a d ⊢;rw[NU]at a d;exact hZ h.mL a hb d
  refine h.mL.kept k.grown ?_;cases hv:v.ownBlock with
  | none=>simp
  | some g=>simpa [hv]using λe=>hb<|e.symm.trans hv.symm
 rcases k.at_ i c with x|x
 .exact h.at_ i x
 exact .inr<|AK h.grown.size x
def zI(n:Nat):rC :=
 if n<64 then [UInt8.ofNat n]
 else if n<16384 then [UInt8.ofNat (n / 256+64),UInt8.ofNat n]
 else if n<1073741824 then [UInt8.ofNat (n / 16777216+128),UInt8.ofNat<|n / 65536,UInt8.ofNat<|n / 256,UInt8.ofNat n]
 else [UInt8.ofNat (n / 72057594037927936+192),UInt8.ofNat<|n / 281474976710656,UInt8.ofNat<|n / 1099511627776,UInt8.ofNat<|n / 4294967296,UInt8.ofNat<|n / 16777216,UInt8.ofNat<|n / 65536,UInt8.ofNat<|n / 256,UInt8.ofNat n]
def Oh:(prog.info? 5).map (λi=>(i.zero,i.size,i.bytes))=some (some (.int .u8 0),1,1):=kw
def MQ(w:rq)(v:rt)(l new:rC)(cs:Array rt)(m:Nat)(h:OB w v l)(d:cs.toList=zW new)(p:new.length=m)(a:l.length+m<=140737488355328):∃e w',(∀a,(Builtin.append_ #[60,60] a #[v,.slice w m m]).run prog (w.alloc (.cells cs 5))=.ok e w')/\Ds w v l new e w':=by
 obtain⟨i,q,s,f,o⟩:=info_parts Oh;have c:(w.alloc<|.cells cs 5).ownsRow 0 5 1 v l.length (zW l):=World.ownsRow.alloc h _;have a:∀(j:Nat) u,(zW new)[j]?=some u->(w.alloc<|.cells cs 5) ((⟨w.heap.size,0,none⟩:Addr).add j)=some u:=by
  intro j u h;rw[zX];refine za (heap_alloc_new w _) ?_;rw[Aw,<-Array.getElem?_toList,d];exact h
 obtain⟨e,w',h,t,d,u,z⟩:=Kz (P:=prog) (w.alloc<|.cells cs 5) 60 5 i (.int .u8 0) 1 1 underlying60 q s f o rfl lc v l.length (zW l) c
  ⟨w.heap.size,0,none⟩ m m (zW new) (by rw[JF,p,DG]) a (RO new) lw I
 refine⟨e,w',h,⟨?_,z,?_,?_⟩⟩
 .unfold OB;rw[AG,p,NU];exact t
 .exact⟨d.os,d.tape,d.output,AK lm d.size,λk a c=>(d.block k ls c).trans<|Below.heap_alloc w _ k a⟩
 intro k a;rcases u k a with x|x
 .exact .inl x
 exact .inr<|by simp at x;omega
def Ps:∀a:Fin 64,bits BinOp.or IntKind.u8 ((a.val:Nat):Int) 64=((a.val+64:Nat):Int)/\bits BinOp.or IntKind.u8 ((a.val:Nat):Int) 128=((a.val+128:Nat):Int)/\bits BinOp.or IntKind.u8 ((a.val:Nat):Int) 192=((a.val+192:Nat):Int):=pi
def Og(n:Nat):Value.int .u8 ((UInt8.ofNat n).toNat:Int)=.int .u8 ((n:Int) % 256):=by
 rw[Bz];congr 1
def Y6(v:rt)(l:rC)(n:Nat)(w:rq)(h:OB w v l)(a:l.length<=70368744177664)(c:n<64):rT 83 #[v,n] w λe w'=>∃a,e=.returned a/\Ds w v l (zI n) a w':=by
 have e:(n:Int)<64:=I;obtain⟨a,w',d,DY⟩:=MQ w v l (zI n) #[.int .u8 (n:Int)] 1 h (by simp[zI,c,zW];omega) (by simp[zI,c]) I;obtain⟨a,c,rfl,_⟩:=zk h;have H:=zb DY;clear DY;go_enter func83,ntmps83;go_wp2_with (at_builtin;refine zo rfl _ _ _ _ rfl _ _ _ rfl rfl d ?_);go_ret;exact⟨_,rfl,H.z⟩
def Y5(v:rt)(l:rC)(n:Nat)(w:rq)(h:OB w v l)(c:l.length<=70368744177664)(d:64<=n)(a:n<16384):rT 83 #[v,n] w λe w'=>∃c,e=.returned c/\Ds w v l (zI n) c w':=by
 have d:¬(n:Int)<64:=I;have d:(n:Int)<16384:=I;have d:(#[.int .u8 (bits BinOp.or IntKind.u8 ((n:Int) / 256) 64),.int .u8 ((n:Int) % 256)]:Array rt).toList=zW (zI n):=by
  have o:=Ps ⟨n / 256,I⟩;have e:((n / 256:Nat):Int)=(n:Int) / 256:=I;simp only[e]at o;simp only[o.1];unfold zI;simp only[(I:¬n<64),a,A9,BZ,zW,Bq,C1,Og];simp;omega
 obtain⟨c,w',f,DY⟩:=MQ w v l (zI n) (#[.int .u8 (bits BinOp.or IntKind.u8 ((n:Int) / 256) 64),.int .u8 ((n:Int) % 256)]:Array rt) 2 h d (by rw[<-JF,<-d];rfl) I;clear d;obtain⟨a,c,rfl,_⟩:=zk h;have H:=zb DY;clear DY;go_enter func83,ntmps83;go_wp2_with (at_builtin;refine zo rfl _ _ _ _ rfl _ _ _ rfl rfl f ?_);go_ret;exact⟨_,rfl,H.z⟩
def Y4(v:rt)(l:rC)(n:Nat)(w:rq)(h:OB w v l)(c:l.length<=70368744177664)(d:16384<=n)(a:n<1073741824):rT 83 #[v,n] w λe w'=>∃c,e=.returned c/\Ds w v l (zI n) c w':=by
 have d:¬(n:Int)<64:=I;have d:¬(n:Int)<16384:=I;have d:(n:Int)<1073741824:=I;have d:(#[.int .u8 (bits BinOp.or IntKind.u8 ((n:Int) / 16777216) 128),.int .u8<|(n:Int) / 65536 % 256,.int .u8<|(n:Int) / 256 % 256,.int .u8 ((n:Int) % 256)]:Array rt).toList=zW (zI n):=by
  have o:=Ps ⟨n / 16777216,I⟩;have e:((n / 16777216:Nat):Int)=(n:Int) / 16777216:=I;simp only[e]at o;simp only[o.2.1];unfold zI;simp only[(I:¬n<64),(I:¬n<16384),a,A9,BZ,zW,Bq,C1,Og];simp;omega
 obtain⟨c,w',f,DY⟩:=MQ w v l (zI n) (#[.int .u8 (bits BinOp.or IntKind.u8 ((n:Int) / 16777216) 128),.int .u8<|(n:Int) / 65536 % 256,.int .u8<|(n:Int) / 256 % 256,.int .u8 ((n:Int) % 256)]:Array rt) 4 h d (by rw[<-JF,<-d];rfl) I;clear d;obtain⟨a,c,rfl,_⟩:=zk h;have H:=zb DY;clear DY;go_enter func83,ntmps83;go_wp2_with (at_builtin;refine zo rfl _ _ _ _ rfl _ _ _ rfl rfl f ?_);go_ret;exact⟨_,rfl,H.z⟩
def Y3(v:rt)(l:rC)(n:Nat)(w:rq)(h:OB w v l)(c:l.length<=70368744177664)(e:1073741824<=n)(a:n<4611686018427387904):rT 83 #[v,n] w λe w'=>∃a,e=.returned a/\Ds w v l (zI n) a w':=by
 have c:¬(n:Int)<64:=I;have c:¬(n:Int)<16384:=I;have c:¬(n:Int)<1073741824:=I;have c:(#[.int .u8 (bits BinOp.or IntKind.u8 ((n:Int) / 72057594037927936) 192),.int .u8<|(n:Int) / 281474976710656 % 256,.int .u8<|(n:Int) / 1099511627776 % 256,.int .u8<|(n:Int) / 4294967296 % 256,.int .u8<|(n:Int) / 16777216 % 256,.int .u8<|(n:Int) / 65536 % 256,.int .u8<|(n:Int) / 256 % 256,.int .u8 ((n:Int) % 256)]:Array rt).toList=zW (zI n):=by
  have o:=Ps ⟨n / 72057594037927936,I⟩;have e:((n / 72057594037927936:Nat):Int)=(n:Int) / 72057594037927936:=I;simp only[e]at o;simp only[o.2.2];unfold zI;simp only[(I:¬n<64),(I:¬n<16384),(I:¬n<1073741824),BZ,zW,Bq,C1,Og];simp;omega
 obtain⟨a,w',d,DY⟩:=MQ w v l (zI n) (#[.int .u8 (bits BinOp.or IntKind.u8 ((n:Int) / 72057594037927936) 192),.int .u8<|(n:Int) / 281474976710656 % 256,.int .u8<|(n:Int) / 1099511627776 % 256,.int .u8<|(n:Int) / 4294967296 % 256,.int .u8<|(n:Int) / 16777216 % 256,.int .u8<|(n:Int) / 65536 % 256,.int .u8<|(n:Int) / 256 % 256,.int .u8 ((n:Int) % 256)]:Array rt) 8 h c (by rw[<-JF,<-c];rfl) I;clear c;obtain⟨a,c,rfl,_⟩:=zk h;have H:=zb DY;clear DY;go_enter func83,ntmps83;go_wp2_with (at_builtin;refine zo rfl _ _ _ _ rfl _ _ _ rfl rfl d ?_);go_ret;exact⟨_,rfl,H.z⟩
def GO(v:rt)(l:rC)(n:Nat)(w:rq)(h:OB w v l)(a:l.length<=70368744177664)(d:n<4611686018427387904):rT 83 #[v,n] w λe w'=>∃c,e=.returned c/\Ds w v l (zI n) c w':=by
 by_cases c:n<64
 .exact Y6 v l n w h a c
 by_cases c:n<16384
 .exact Y5 v l n w h a I c
 by_cases c:n<1073741824
 .exact Y4 v l n w h a I c
 exact Y3 v l n w h a I d
def JE(n:Int):IntKind.u32.wrap n=n % 4294967296:=by simp[IntKind.wrap,IntKind.bits,IntKind.signed]
def Oe(a b:Nat)(c:a<4294967296)(hb:b<4294967296):bits .xor .u32 (a:Int) (b:Int)=((a ^^^ b:Nat):Int):=by
 have c:a ^^^ b<2 ^ 32:=C2 I I;have c:(BitVec.ofInt 32 (a:Int)).toNat=a:=by
  rw[Bs,B4];exact CA I
 have d:(BitVec.ofInt 32 (b:Int)).toNat=b:=by
  rw[Bs,B4];exact CA I
 show IntKind.u32.wrap ((BitVec.ofInt 32 (a:Int) ^^^ BitVec.ofInt 32 (b:Int)).toNat:Int)=_;rw[BitVec.toNat_xor,c,d,JE];omega
def Xs(a b:Nat)(c:a<4294967296)(hb:b<4294967296):bits .and .u32 (a:Int) (b:Int)=((a &&& b:Nat):Int):=by
 have c:a &&& b<2 ^ 32:=Nat.and_lt_two_pow _ I;have c:(BitVec.ofInt 32 (a:Int)).toNat=a:=by
  rw[Bs,B4];exact CA I
 have d:(BitVec.ofInt 32 (b:Int)).toNat=b:=by
  rw[Bs,B4];exact CA I
 show IntKind.u32.wrap ((BitVec.ofInt 32 (a:Int) &&& BitVec.ofInt 32 (b:Int)).toNat:Int)=_;rw[BitVec.toNat_and,c,d,JE];omega
def Uv(a:Nat)(c:a<4294967296):bits .and .u32 (a:Int) 15=((a % 16:Nat):Int):=by
 have:=Xs a 15 c I;rw[show a &&& 15=a % 16 from Nat.and_two_pow_sub_one_eq_mod a 4]at this;exact this
def Lc:List Nat:=[0,498536548,997073096,651767980,1994146192,1802195444,1303535960,1342533948,3988292384,4027552580,3604390888,3412177804,2607071920,2262029012,2685067896,3183342108]
def ct(i:Nat):Nat:=Lc.getD i 0
def Pr(i:Nat):ct i<4294967296:=by
 unfold ct;by_cases h:i<16
 .have:∀j:Fin 16,Lc.getD j.val 0<4294967296:=lc;exact this ⟨i,h⟩
 rw[Am,By (by simp[Lc];omega)];decide
def IN(c:Nat):Nat:=(c / 16) ^^^ ct (c % 16)
def Ht(c:Nat)(x:UInt8):Nat:=IN (IN (c ^^^ x.toNat))
def Ej(l:rC):Nat:=l.foldl Ht 4294967295
def Dy(l:rC):Nat:=4294967295 ^^^ Ej l
def Kj(c:Nat)(h:c<4294967296):IN c<4294967296:=C2 (n:=32) I (Pr _)
def Ih(c:Nat)(x:UInt8)(h:c<4294967296):c ^^^ x.toNat<4294967296:=C2 (n:=32) h (pp x.toNat_lt)
def NE(c:Nat)(x:UInt8)(h:c<4294967296):Ht c x<4294967296:=Kj _ (Kj _ (Ih c x h))
def ge(l:rC)(x:UInt8):Ej (l++[x])=Ht (Ej l) x:=by simp[Ej]
theorem Vw(l:rC):∀c,c<4294967296->l.foldl Ht c<4294967296:=by
 induction l with
 | nil=>intro c h;exact h
 | cons x l ih=>intro c h;exact ih _<|NE c x h
def QN(l:rC):Ej l<4294967296:=Vw l _ I
def BR(w:rq)(v:rt)(l:rC):Prop :=
 ∃a d,v=.slice a l.length d/\l.length<=d/\d<=maxLen/\∀i c,l[i]?=some c->∃g o,a=some ⟨g,o,none⟩/\w ⟨g,o+i,none⟩=some (.int .u8 (c.toNat:Int))
def OB.br(h:OB w v l):BR w v l:=by
 obtain⟨a,d,rfl,f,o,p⟩:=zk h;refine⟨a,d,rfl,f,o,λi c e=>?_⟩;have a:=(AO.1 e).1;obtain⟨g,rfl⟩:=p I;refine⟨g,0,rfl,?_⟩;have:=h.cells (g:=g) rfl i (.int .u8 (c.toNat:Int)) (by simp[zW,e])
 rwa [zX]at this
def Fw(w:rq):Prop:=∀i,i<16->w ⟨1,i,none⟩=some (.int .u32 (ct i:Int))
variable{S:Nat->Prop}
def Fw.mod(h:Fw w)(m:DO S w w')(c:¬S 1):Fw w':=λi d=>m.cell (a:=⟨1,i,none⟩) c (h i d)
def Fw.lt(h:Fw w):1<w.heap.size:=zm (h 0 I)
def Vv(l:rC)(k:Nat)(c:UInt8)(h:l[k]?=some c):l.take (k+1)=l.take k++[c]:=by
 rw[BG,h];rfl
def QM(v:rt)(l:rC)(w:rq)(h:BR w v l)(p:Fw w):rT 125 #[v] w λe w'=>e=.returned (.int .u32 (Dy l:Int))/\w=w':=by
 obtain⟨a,d,rfl,e,o,s⟩:=h;unfold maxLen at o;go_enter func125,ntmps125;go_wp2_with fail
 go_loop [3,8] (λc i=>∃k:Nat,k<=l.length/\i=.int .i64 k/\c=.int .u32 (Ej (l.take k):Int)) (λ_ i=>l.length-(intOf i).toNat)
 case atStart=>exact⟨0,AN _,rfl,rfl⟩
 case round =>
  obtain⟨k,a,rfl,rfl⟩:=hrel;by_cases a:k<l.length
  .obtain⟨c,q⟩:∃c,l[k]?=some c:=⟨l[k],AJ a⟩;obtain⟨g,o,rfl,f⟩:=s k c q;have t:=zb<|A8 Ej<|Vv l k c q;obtain⟨x,h⟩:=nm<|Ej<|l.take k;have a:=QN<|l.take k;rw[h]at a;have o:AA (Ej (l.take<|k+1)=Ht x c):=by
    show _=_;rw[t.z,ge,h]
   rw[h];have e:=c.toNat_lt;obtain⟨d,hd⟩:=nm c.toNat;rw[hd]at f e;have u:=Oe x d a I;have f:=Ih x c a;rw[hd]at f;obtain⟨y,e⟩:=nm<|x ^^^ d;rw[e]at u f;have a:=Uv y f;have a:=p (y % 16) I;have u:=Oe (y / 16) (ct<|y % 16) I<|Pr _;have d:=Kj y f;obtain⟨z,a⟩:=nm<|IN y;rw[show(y / 16 ^^^ ct (y % 16))=z from a]at u;rw[a]at d;have f:=Uv z d;have d:=p (z % 16) I;have f:=Oe (z / 16) (ct<|z % 16) I<|Pr _;have d:AA (Ht x c=(z / 16 ^^^ ct (z % 16))):=by
    show IN (IN<|x ^^^ c.toNat)=_;rw[hd,e,a];rfl
   rw[(I:((y / 16:Nat):Int)=(y:Int) / 16)]at u;rw[(I:((z / 16:Nat):Int)=(z:Int) / 16)]at f;clear t h hd e a s p q;go_wp2_with fail
   go_round
   case rel=>exact⟨k+1,I,by go_num,by rw[o.z,d.z]⟩
   simp[intOf];omega
  have a:l.take k=l:=Ab I;rw[a];have c:AA (bits .xor .u32 IntKind.u32.max (Ej l:Int)=(Dy l:Int)):=Oe 4294967295 (Ej l) I<|QN l;clear a;go_wp2_with fail;go_ret;exact⟨by rw[c.z];rfl,rfl⟩
def MN(l:rC):Dy l<4294967296:=C2 (n:=32) I (QN l)
def EP(s:Nat):rC:=[UInt8.ofNat (s / 16777216),UInt8.ofNat (s / 65536),UInt8.ofNat (s / 256),UInt8.ofNat s]
def Y2(v:rt)(l:rC)(w:rq)(h:OB w v l)(a:l.length<=70368744177664)(f:Fw w):rT 86 #[v] w λe w'=>∃a,e=.returned a/\Ds w v l (EP (Dy l)) a w':=by
 have c:=QM v l w h.br f;have o:=MN l;obtain⟨s,d⟩:=nm<|Dy l;rw[d]at c o;rw[d];obtain⟨a,w',p,DY⟩:=MQ w v l (EP s) #[.int .u8 ((s:Int) / 16777216),.int .u8<|(s:Int) / 65536 % 256,.int .u8<|(s:Int) / 256 % 256,.int .u8 ((s:Int) % 256)] 4 h (by
  simp only[EP,zW,Bq,C1,Og];simp;omega) rfl I
 obtain⟨a,l,rfl,_⟩:=zk h;have H:=zb DY;clear DY d f;go_enter func86,ntmps86;go_wp2_with (first|(go_at_call 125;refine c.mono ?_;rintro e w' ⟨rfl,rfl⟩)|(at_builtin;refine zo rfl _ _ _ _ rfl _ _ _ rfl rfl p ?_));go_ret;exact⟨_,rfl,H.z⟩
def Xr(w:rq)(v:rt)(l:rC)(s:ByteArray)(h:OB w v l)(a:l.length+s.size<=140737488355328):∃a w',(∀c,(Builtin.append_ #[60,9] c #[v,.string s]).run prog w=.ok a w')/\Ds w v l s.data.toList a w':=by
 obtain⟨i,e,f,c,d⟩:=info_parts Oh;obtain⟨a,w',o,p,q,t,u⟩:=kY (P:=prog) w 60 9 5 i underlying60 underlying9 e f c d v l.length (zW l) h s lw I;refine⟨a,w',o,⟨?_,u,q,t⟩⟩;unfold OB;rw[AG,NU];exact p
def zu(l:rC):ByteArray:=⟨l.toArray⟩
def zG(l:rC):(zu l).size=l.length:=by simp[zu,ByteArray.size]
def Ip(l:rC):(zu l).data.toList=l:=by simp[zu]
def zy(n:Nat):(zI n).length<=8:=by
 unfold zI;split
 .simp
 split
 .simp
 split<;>simp
def Qi(v:rt)(l s:rC)(w:rq)(h:OB w v l)(d:l.length<=70368744177664)(a:s.length<=35184372088832):rT 181 #[v,.string (zu s)] w λe w'=>∃a,e=.returned a/\Ds w v l (zI s.length++s) a w':=by
 have f:=GO v l s.length w h d I;have a:=zG s;have a:(zu s).size<=9223372036854775807:=I;obtain⟨a,d,rfl,_⟩:=zk h;go_enter func181,ntmps181;have a:(zI s.length).length<=8:=zy _;go_wp2_with (first|(go_at_call 83;refine f.mono ?_;rintro e o ⟨p,rfl,c⟩;obtain⟨e,f,d,a⟩:=Xr o p _ (zu s) c.own (by rw[AG];omega);rw[Ip]at a;have H:=zb<|c.trans a;clear c a)|(at_builtin;refine zo rfl _ _ _ _ rfl _ _ _ rfl rfl d ?_));go_ret;exact⟨_,rfl,H.z⟩
structure DV where
 kind:Int
 stream:Int
 off:Nat
 rel:Nat
 mF:Nat
 fin:Bool
 id:Nat
 dl:Nat
 data:rC
 lF:zE
def zj(f:DV)(a:rt):Array rt :=
 #[.int .i64 f.kind,.int .i64 f.stream,.int .u64 f.off,.int .u64 f.rel,.int .u64 f.mF,.bool f.fin,.int .u64 f.id,.int .u64 f.dl,.string<|zu f.data,a]
def zl(w:rq)(b:Nat)(f:DV)(a:rt):Prop:=w.heap[b]?=some (.cells (zj f a) 65 (0,0))
variable{f:DV}{i:Nat}{rv:rt}
def zl.cell(h:zl w b f rv)(a:(zj f rv)[i]?=some v):w (b,i)=some v:=za h a
def zl.mod(h:zl w b f rv)(m:DO S w w')(a:¬S b):zl w' b f rv:=m.obj a h
variable{new:rC}
def Ds.mod(h:Ds w v l new v' w'):DO (λk=>v.ownBlock=some k) w w':=(DO.refl _ w).grown h.grown (λk a=>.inl a)
def OB.apart(h:OB w v l)(a:zl w b f rv):¬v.ownBlock=some b:=by
 intro hb;rcases h.2 with⟨rfl,_⟩|⟨g,c,d,rfl,_,e,_⟩
 .cases hb
 simp[Value.ownBlock]at hb;subst hb;unfold zl at a;rw[e]at a;simp at a
def zl.app(a:zl w b f rv)(h:OB w v l)(c:Ds w v l new v' w'):zl w' b f rv :=
 a.mod c.mod (h.apart a)
def Jk(w:rq)(v:rt)(l:rC)(t:UInt8)(z:Int)(h:OB w v l)(c:z=(t.toNat:Int))(a:l.length<=70368744177664):∃a w',(∀d,(Builtin.append_ #[60,60] d #[v,.slice w 1 1]).run prog (w.alloc (.cells #[.int .u8 z] 5))=.ok a w')/\Ds w v l [t] a w' :=
 MQ w v l [t] #[.int .u8 z] 1 h (by simp[zW,c]) rfl I
def zl.cells(h:zl w b f rv):w b=some (.int .i64 f.kind)/\w (b,1)=some (.int .i64 f.stream)/\w (b,2)=some (.int .u64 f.off)/\w (b,3)=some (.int .u64 f.rel)/\w (b,4)=some (.int .u64 f.mF) /\
  w (b,5)=some (.bool f.fin)/\w (b,6)=some (.int .u64 f.id)/\w (b,7)=some (.int .u64 f.dl)/\w (b,8)=some (.string<|zu f.data)/\w (b,9)=some rv :=
 ⟨h.cell rfl,h.cell rfl,h.cell rfl,h.cell rfl,h.cell rfl,h.cell rfl,h.cell rfl,h.cell rfl,h.cell rfl,h.cell rfl⟩
def Ds.drew(h:Ds w.drew v l new v' w'):Ds w v l new v' w' :=
 ⟨h.own,h.mL,⟨h.grown.os,h.grown.tape,h.grown.output,h.grown.size,h.grown.block⟩,h.at_⟩
def PN(v:rt)(l:rC)(z:Int)(w:rq)(h:OB w v l)(c:l.length<=70368744177664)(d:0<=z)(a:z<4611686018427387904):rT 83 #[v,z] w λe w'=>∃a,e=.returned a/\Ds w v l (zI z.toNat) a w':=by
 have:=GO v l z.toNat w h c I
 rwa [Int.toNat_of_nonneg d]at this
structure DV.Bounds(f:DV):Prop where
 s0:0<=f.stream
 s8:f.stream<8
 bo:f.off<4611686018427387904
 br:f.rel<4611686018427387904
 bl:f.mF<4611686018427387904
 bi:f.id<4611686018427387904
 bd:f.dl<4611686018427387904
 bt:f.data.length<=35184372088832
def Gc(w:rq)(a c:Nat)(t:UInt8):Prop:=w a=some (.int .u8 (t.toNat:Int))/\w c=some (.func (.func 186) #[] #[])
def Gc.mod{c d:Nat}{t:UInt8}(h:Gc w c d t)(m:DO S w w')(e:¬S c)(f:¬S d):Gc w' c d t:=⟨m.cell (a:=c) e h.1,m.cell (a:=d) f h.2⟩
def Gc.app{c d:Nat}{t:UInt8}(h:Gc w c d t)(e:¬v.ownBlock=some c)(f:¬v.ownBlock=some d)(a:Ds w v l new v' w'):Gc w' c d t:=h.mod a.mod e f
def Q6(b:Nat)(w:rq):rT 186 #[(b,0)] w λe w'=>e=.returned (.pointer (b,4))/\w=w':=by
 go_enter func186,ntmps186;go_wp2_with fail;go_ret;exact rZ
def IV(w:rq)(v:rt)(l new:rC)(e:Ending)(w':rq):Prop:=∃a,e=.returned a/\Ds w v l new a w'
def Jl(f:DV):rC:=[17]++zI f.stream.toNat++zI f.mF
def K5(v:rt)(l:rC)(b:Nat)(f:DV)(O:rt)(w:rq)(q:zl w b f O)(h:OB w v l)(s:l.length<=35184372088832)(hb:f.Bounds):rT 187 #[v,(b,0)] w (IV w v l (Jl f)):=by
 obtain⟨s,Y,Z,br,bl,bi,bd,bt⟩:=hb;have s:IntKind.u64.wrap f.stream=f.stream:=by rw[IntKind.wrap_u64];omega
 obtain⟨Y,Z,s,p⟩:=Jk w.drew v l 17 17 h rfl I;have T:=zl.app (w:=w.drew) q h p;have L1:(l++[(17:UInt8)]).length<=35184372088832+1:=ls;go_enter func187,ntmps187;go_wp2_with fail;refine zn 15 (λw'=>zl w' b f O) (q) ?_;refine GI 0 ?_;refine GV rfl ?_;try simp only[PS]
 refine GI 3 ?_;iterate 5
  refine GV rfl ?_;try simp only[PS]
 refine GI 9 ?_;iterate 4
  refine GV rfl ?_;try simp only[PS]
 refine zz 1 rfl (λK c=>?_);go_simp;refine c.z _ _ ?_ ?_
 .exact zl.mod (w:=w.drew) (S:=DQ) q (rp.alloc _) rk
 clear c K;try simp only[PS]
 refine zz 2 rfl (λK c=>?_);refine zL rfl _ _ _ _ rfl _ _ _ rfl rfl s ?_;refine c.z _ _ T ?_;clear c K;try simp only[PS]
 refine zz 8 rfl (λK c=>?_);go_simp;refine(PN Y (l++([17])) (f.stream) Z p.own I I I).mono ?_;rintro e w2 ⟨v2,rfl,o⟩;have X:=T.app p.own o;have N:=p.trans o;have L2:(l++([17]++zI f.stream.toNat)).length<=35184372088832+9:=by have:=zy<|f.stream.toNat;simp at this L1 ⊢;omega
 refine c.z _ _ X ?_;clear o;clear c K;try simp only[PS]
 refine zz 13 rfl (λK c=>?_);go_simp;refine(GO v2 (l++([17]++zI f.stream.toNat)) (f.mF) w2 N.own I I).mono ?_;rintro e e ⟨h,rfl,o⟩;have e:=X.app N.own o;have h:=N.trans o;have p:(l++([17]++zI f.stream.toNat++zI f.mF)).length<=35184372088832+17:=by have:=zy<|f.mF;simp at this L2 ⊢;omega
 refine c.z _ _ e ?_;clear o;clear c K;try simp only[PS]
 refine GI 14 ?_;refine GV rfl ?_;try simp only[PS]
 refine zq ?_;go_wp2_with fail;go_ret;exact⟨_,rfl,h.drew⟩
def Je(f:DV):rC:=[36]++zI f.stream.toNat++zI f.off++zI f.rel
def K7(v:rt)(l:rC)(b:Nat)(f:DV)(T:rt)(w:rq)(B:zl w b f T)(h:OB w v l)(E:l.length<=35184372088832)(hb:f.Bounds):rT 176 #[v,(b,0)] w (IV w v l (Je f)):=by
 obtain⟨E,s8,bo,br,bl,bi,bd,bt⟩:=hb;have E:IntKind.u64.wrap f.stream=f.stream:=by rw[IntKind.wrap_u64];omega
 obtain⟨v1,w1,E,p⟩:=Jk w.drew v l 36 36 h rfl I;have X:=zl.app (w:=w.drew) B h p;have L1:(l++[(36:UInt8)]).length<=35184372088832+1:=ls;go_enter func176,ntmps176;go_wp2_with fail;refine zn 20 (λw'=>zl w' b f T) (B) ?_;refine GI 0 ?_;refine GV rfl ?_;try simp only[PS]
 refine GI 3 ?_;iterate 5
  refine GV rfl ?_;try simp only[PS]
 refine GI 9 ?_;iterate 4
  refine GV rfl ?_;try simp only[PS]
 refine GI 14 ?_;iterate 4
  refine GV rfl ?_;try simp only[PS]
 refine zz 1 rfl (λK c=>?_);go_simp;refine c.z _ _ ?_ ?_
 .exact zl.mod (w:=w.drew) (S:=DQ) B (rp.alloc _) rk
 clear c K;try simp only[PS]
 refine zz 2 rfl (λK c=>?_);refine zL rfl _ _ _ _ rfl _ _ _ rfl rfl E ?_;refine c.z _ _ X ?_;clear c K;try simp only[PS]
 refine zz 8 rfl (λK c=>?_);go_simp;refine(PN v1 (l++([36])) (f.stream) w1 p.own I I I).mono ?_;rintro e w2 ⟨v2,rfl,d⟩;have Y:=X.app p.own d;have N:=p.trans d;have L2:(l++([36]++zI f.stream.toNat)).length<=35184372088832+9:=by have:=zy<|f.stream.toNat;simp at this L1 ⊢;omega
 refine c.z _ _ Y ?_;clear d;clear c K;try simp only[PS]
 refine zz 13 rfl (λK c=>?_);go_simp;refine(GO v2 (l++([36]++zI f.stream.toNat)) (f.off) w2 N.own I I).mono ?_;rintro e w3 ⟨v3,rfl,d⟩;have Z:=Y.app N.own d;have O:=N.trans d;have L3:(l++([36]++zI f.stream.toNat++zI f.off)).length<=35184372088832+17:=by have:=zy<|f.off;simp at this L2 ⊢;omega
 refine c.z _ _ Z ?_;clear d;clear c K;try simp only[PS]
 refine zz 18 rfl (λK c=>?_);go_simp;refine(GO v3 (l++([36]++zI f.stream.toNat++zI f.off)) (f.rel) w3 O.own I I).mono ?_;rintro e e ⟨h,rfl,d⟩;have e:=Z.app O.own d;have h:=O.trans d;have p:(l++([36]++zI f.stream.toNat++zI f.off++zI f.rel)).length<=35184372088832+25:=by have:=zy<|f.rel;simp at this L3 ⊢;omega
 refine c.z _ _ e ?_;clear d;clear c K;try simp only[PS]
 refine GI 19 ?_;refine GV rfl ?_;try simp only[PS]
 refine zq ?_;go_wp2_with fail;go_ret;exact⟨_,rfl,h.drew⟩
def Jd(f:DV):rC:=[48]++zI f.id++zI f.dl++(zI f.data.length++f.data)
def K4(v:rt)(l:rC)(b:Nat)(f:DV)(T:rt)(w:rq)(B:zl w b f T)(h:OB w v l)(E:l.length<=35184372088832)(hb:f.Bounds):rT 189 #[v,(b,0)] w (IV w v l (Jd f)):=by
 obtain⟨E,s8,bo,br,bl,bi,bd,bt⟩:=hb;have E:IntKind.u64.wrap f.stream=f.stream:=by rw[IntKind.wrap_u64];omega
 obtain⟨v1,w1,E,p⟩:=Jk w.drew v l 48 48 h rfl I;have X:=zl.app (w:=w.drew) B h p;have L1:(l++[(48:UInt8)]).length<=35184372088832+1:=ls;go_enter func189,ntmps189;go_wp2_with fail;refine zn 19 (λw'=>zl w' b f T) (B) ?_;refine GI 0 ?_;refine GV rfl ?_;try simp only[PS]
 refine GI 3 ?_;iterate 4
  refine GV rfl ?_;try simp only[PS]
 refine GI 8 ?_;iterate 4
  refine GV rfl ?_;try simp only[PS]
 refine GI 13 ?_;iterate 4
  refine GV rfl ?_;try simp only[PS]
 refine zz 1 rfl (λK c=>?_);go_simp;refine c.z _ _ ?_ ?_
 .exact zl.mod (w:=w.drew) (S:=DQ) B (rp.alloc _) rk
 clear c K;try simp only[PS]
 refine zz 2 rfl (λK c=>?_);refine zL rfl _ _ _ _ rfl _ _ _ rfl rfl E ?_;refine c.z _ _ X ?_;clear c K;try simp only[PS]
 refine zz 7 rfl (λK c=>?_);go_simp;refine(GO v1 (l++([48])) (f.id) w1 p.own I I).mono ?_;rintro e w2 ⟨v2,rfl,d⟩;have Y:=X.app p.own d;have N:=p.trans d;have L2:(l++([48]++zI f.id)).length<=35184372088832+9:=by have:=zy<|f.id;simp at this L1 ⊢;omega
 refine c.z _ _ Y ?_;clear d;clear c K;try simp only[PS]
 refine zz 12 rfl (λK c=>?_);go_simp;refine(GO v2 (l++([48]++zI f.id)) (f.dl) w2 N.own I I).mono ?_;rintro e w3 ⟨v3,rfl,d⟩;have Z:=Y.app N.own d;have O:=N.trans d;have h:(l++([48]++zI f.id++zI f.dl)).length<=35184372088832+17:=by have:=zy<|f.dl;simp at this L2 ⊢;omega
 refine c.z _ _ Z ?_;clear d;clear c K;try simp only[PS]
 refine zz 17 rfl (λK c=>?_);go_simp;refine(Qi v3 (l++([48]++zI f.id++zI f.dl)) f.data w3 O.own I bt).mono ?_;rintro e e ⟨f,rfl,d⟩;have e:=Z.app O.own d;have f:=O.trans d;refine c.z _ _ e ?_;clear d;clear c K;try simp only[PS]
 refine GI 18 ?_;refine GV rfl ?_;try simp only[PS]
 refine zq ?_;go_wp2_with fail;go_ret;exact⟨_,rfl,f.drew⟩
def Jc(f:DV):rC:=[8]++zI f.stream.toNat++zI f.off++(zI f.data.length++f.data)
def K6(v:rt)(l:rC)(b:Nat)(f:DV)(X:rt)(w:rq)(q:zl w b f X)(h:OB w v l)(N:l.length<=35184372088832)(hb:f.Bounds)(p:f.fin=false):rT 180 #[v,(b,0)] w (IV w v l (Jc f)):=by
 obtain⟨N,s8,bo,br,bl,bi,bd,bt⟩:=hb;have N:IntKind.u64.wrap f.stream=f.stream:=by rw[IntKind.wrap_u64];omega
 obtain⟨v1,w1,N,s⟩:=Jk w.drew v l 8 8 h rfl I;have Y:=zl.app (w:=w.drew) q h s;have L1:(l++[(8:UInt8)]).length<=35184372088832+1:=ls;have h:w (b,5)=some (.bool false):=by rw[<-p];exact q.cell rfl
 go_enter func180,ntmps180;go_wp2_with fail;refine zn 21 (λw'=>zl w' b f X) (q) ?_;refine GI 0 ?_;iterate 2
  refine GV rfl ?_;try simp only[PS]
 refine GI 4 ?_;iterate 5
  refine GV rfl ?_;try simp only[PS]
 refine GI 10 ?_;iterate 4
  refine GV rfl ?_;try simp only[PS]
 refine GI 15 ?_;iterate 4
  refine GV rfl ?_;try simp only[PS]
 refine zz 2 rfl (λK c=>?_);go_simp;refine c.z _ _ ?_ ?_
 .exact zl.mod (w:=w.drew) (S:=DQ) q (rp.alloc _) rk
 clear c K;try simp only[PS]
 refine zz 3 rfl (λK c=>?_);refine zL rfl _ _ _ _ rfl _ _ _ rfl rfl N ?_;refine c.z _ _ Y ?_;clear c K;try simp only[PS]
 refine zz 9 rfl (λK c=>?_);go_simp;refine(PN v1 (l++([8])) (f.stream) w1 s.own I I I).mono ?_;rintro e w2 ⟨v2,rfl,d⟩;have Z:=Y.app s.own d;have O:=s.trans d;have L2:(l++([8]++zI f.stream.toNat)).length<=35184372088832+9:=by have:=zy<|f.stream.toNat;simp at this L1 ⊢;omega
 refine c.z _ _ Z ?_;clear d;clear c K;try simp only[PS]
 refine zz 14 rfl (λK c=>?_);go_simp;refine(GO v2 (l++([8]++zI f.stream.toNat)) (f.off) w2 O.own I I).mono ?_;rintro e w3 ⟨v3,rfl,d⟩;have F3:=Z.app O.own d;have T:=O.trans d;have h:(l++([8]++zI f.stream.toNat++zI f.off)).length<=35184372088832+17:=by have:=zy<|f.off;simp at this L2 ⊢;omega
 refine c.z _ _ F3 ?_;clear d;clear c K;try simp only[PS]
 refine zz 19 rfl (λK c=>?_);go_simp;refine(Qi v3 (l++([8]++zI f.stream.toNat++zI f.off)) f.data w3 T.own I bt).mono ?_;rintro e e ⟨f,rfl,d⟩;have e:=F3.app T.own d;have f:=T.trans d;refine c.z _ _ e ?_;clear d;clear c K;try simp only[PS]
 refine GI 20 ?_;refine GV rfl ?_;try simp only[PS]
 refine zq ?_;go_wp2_with fail;go_ret;exact⟨_,rfl,f.drew⟩
def Jj(f:DV):rC:=[9]++zI f.stream.toNat++zI f.off++(zI f.data.length++f.data)
def Xq(v:rt)(l:rC)(b:Nat)(f:DV)(X:rt)(w:rq)(q:zl w b f X)(h:OB w v l)(N:l.length<=35184372088832)(hb:f.Bounds)(p:f.fin=true):rT 180 #[v,(b,0)] w (IV w v l (Jj f)):=by
 obtain⟨N,s8,bo,br,bl,bi,bd,bt⟩:=hb;have N:IntKind.u64.wrap f.stream=f.stream:=by rw[IntKind.wrap_u64];omega
 obtain⟨v1,w1,N,s⟩:=Jk w.drew v l 9 9 h rfl I;have Y:=zl.app (w:=w.drew) q h s;have L1:(l++[(9:UInt8)]).length<=35184372088832+1:=ls;have h:w (b,5)=some (.bool true):=by rw[<-p];exact q.cell rfl
 go_enter func180,ntmps180;go_wp2_with fail;refine zn 21 (λw'=>zl w' b f X) (q) ?_;refine GI 0 ?_;iterate 2
  refine GV rfl ?_;try simp only[PS]
 refine GI 4 ?_;iterate 5
  refine GV rfl ?_;try simp only[PS]
 refine GI 10 ?_;iterate 4
  refine GV rfl ?_;try simp only[PS]
 refine GI 15 ?_;iterate 4
  refine GV rfl ?_;try simp only[PS]
 refine zz 2 rfl (λK c=>?_);go_simp;refine c.z _ _ ?_ ?_
 .exact zl.mod (w:=w.drew) (S:=DQ) q (rp.alloc _) rk
 clear c K;try simp only[PS]
 refine zz 3 rfl (λK c=>?_);refine zL rfl _ _ _ _ rfl _ _ _ rfl rfl N ?_;refine c.z _ _ Y ?_;clear c K;try simp only[PS]
 refine zz 9 rfl (λK c=>?_);go_simp;refine(PN v1 (l++([9])) (f.stream) w1 s.own I I I).mono ?_;rintro e w2 ⟨v2,rfl,d⟩;have Z:=Y.app s.own d;have O:=s.trans d;have L2:(l++([9]++zI f.stream.toNat)).length<=35184372088832+9:=by have:=zy<|f.stream.toNat;simp at this L1 ⊢;omega
 refine c.z _ _ Z ?_;clear d;clear c K;try simp only[PS]
 refine zz 14 rfl (λK c=>?_);go_simp;refine(GO v2 (l++([9]++zI f.stream.toNat)) (f.off) w2 O.own I I).mono ?_;rintro e w3 ⟨v3,rfl,d⟩;have F3:=Z.app O.own d;have T:=O.trans d;have h:(l++([9]++zI f.stream.toNat++zI f.off)).length<=35184372088832+17:=by have:=zy<|f.off;simp at this L2 ⊢;omega
 refine c.z _ _ F3 ?_;clear d;clear c K;try simp only[PS]
 refine zz 19 rfl (λK c=>?_);go_simp;refine(Qi v3 (l++([9]++zI f.stream.toNat++zI f.off)) f.data w3 T.own I bt).mono ?_;rintro e e ⟨f,rfl,d⟩;have e:=F3.app T.own d;have f:=T.trans d;refine c.z _ _ e ?_;clear d;clear c K;try simp only[PS]
 refine GI 20 ?_;refine GV rfl ?_;try simp only[PS]
 refine zq ?_;go_wp2_with fail;go_ret;exact⟨_,rfl,f.drew⟩
def Hs(t:UInt8)(f:DV):rC:=[t]++zI f.mF
def Uu(v:rt)(l:rC)(b o p:Nat)(t:UInt8)(f:DV)(u:rt)(w:rq)(z:zl w b f u)(c:Gc w o p t)(q:¬v.ownBlock=some o)(s:¬v.ownBlock=some p)(h:OB w v l)(E:l.length<=35184372088832)(hb:f.Bounds):rT 213 #[v,(b,0),(o,0),(p,0)] w (IV w v l (Hs t f)):=by
 obtain⟨E,s8,bo,br,bl,bi,bd,bt⟩:=hb;obtain⟨v1,A,E,B⟩:=Jk w.drew v l t (t.toNat:Int) h rfl I;have F1:zl A b f u/\Gc A o p t:=⟨zl.app (w:=w.drew) z h B,Gc.app (w:=w.drew) c q s B⟩;have v:(l++[t]).length<=35184372088832+1:=ls;go_enter func213,ntmps213;go_wp2_with fail;refine zn 11 (λw'=>zl w' b f u/\Gc w' o p t) (⟨z,c⟩) ?_;refine GI 0 ?_;iterate 2
  refine GV rfl ?_;try simp only[PS]
 refine GI 4 ?_;iterate 2
  refine GV rfl ?_;try simp only[PS]
 refine zz 2 rfl (λK d=>?_);go_simp;refine d.z _ _ ?_ ?_
 .exact⟨zl.mod (w:=w.drew) (S:=DQ) z (rp.alloc _) rk,Gc.mod (w:=w.drew) (S:=DQ) c (rp.alloc _) rk rk⟩
 clear d K;try simp only[PS]
 refine zz 3 rfl (λK d=>?_);refine zL rfl _ _ _ _ rfl _ _ _ rfl rfl E ?_;refine d.z _ _ F1 ?_;clear d K;try simp only[PS]
 refine zz 6 rfl (λK d=>?_);go_simp;refine(Q6 b A).mono ?_;rintro e w' ⟨rfl,rfl⟩;refine d.z _ _ F1 ?_;clear d K;try simp only[PS]
 refine GI 7 ?_;iterate 2
  refine GV rfl ?_;try simp only[PS]
 refine zz 9 rfl (λK d=>?_);go_simp;refine(GO v1 (l++[t]) f.mF A B.own I bl).mono ?_;rintro e w2 ⟨e,rfl,ap⟩;have e:=B.trans ap;have l:zl w2 b f u/\Gc w2 o p t:=⟨zl.app (w:=w.drew) z h e,Gc.app (w:=w.drew) c q s e⟩;refine d.z _ _ l ?_;clear ap;clear d K;try simp only[PS]
 refine GI 10 ?_;refine GV rfl ?_;try simp only[PS]
 refine zq ?_;go_wp2_with fail;go_ret;exact⟨_,rfl,e.drew⟩
def K9(v:rt)(l:rC)(b:Nat)(w:rq)(h:OB w v l)(a:l.length<=35184372088832):rT 170 #[v,(b,0)] w (IV w v l [1]):=by
 obtain⟨a,e,c,d⟩:=Jk w v l 1 1 h rfl I;obtain⟨a,e,rfl,_⟩:=zk h;have H:=zb d;clear d;go_enter func170,ntmps170;go_wp2_with (at_builtin;refine zo rfl _ _ _ _ rfl _ _ _ rfl rfl c ?_);go_ret;exact⟨_,rfl,H.z⟩
def RR(w:rq)(v:rt)(rs:zE):Prop :=
 ∃a c,v=.slice a rs.length c/\rs.length<=c/\c<=maxLen/\∀i,i<rs.length->∃g o,a=some ⟨g,o,none⟩/\w ⟨g,o+i*2,none⟩=some (.int .u64 (DU rs i:Int))/\w ⟨g,o+i*2+1,none⟩=some (.int .u64 (DP rs i:Int))/\DU rs i<18446744073709551616/\DP rs i<18446744073709551616
def Dj(S:Nat->Prop)(v:rt):Prop:=∀g o n c,v=.slice (some ⟨g,o,none⟩) n c->¬S g
def RR.mod(h:RR w v rs)(m:DO S w w')(d:Dj S v):RR w' v rs:=by
 obtain⟨a,c,rfl,e,f,l⟩:=h;refine⟨a,c,rfl,e,f,λi p=>?_⟩;obtain⟨g,o,rfl,c1,c2,c3⟩:=l i p;exact⟨g,o,rfl,m.cell (a:=⟨g,_,none⟩) (d g o _ _ rfl) c1,m.cell (a:=⟨g,_,none⟩) (d g o _ _ rfl) c2,c3⟩
def Dj.no(v:rt):Dj DQ v:=λ_ _ _ _ _ x=>x
def IU(rs:zE)(i:Nat):Bool :=
 decide (DU rs i<=DP rs i)&&decide (DP rs i<=4611686018427387903)&&(decide (i=0)||(decide (2<=DU rs (i-1))&&decide (DP rs i+2<=DU rs (i-1))))
def IT(rs:zE)(k:Nat):Bool:=(List.range k).all (IU rs)
def gZ(rs:zE)(k:Nat):IT rs (k+1)=(IT rs k&&IU rs k):=by simp[IT,Bp]
def E4(rs:zE):Bool:=IT rs rs.length&&decide (0<rs.length)
def hP(a:k<rs.length)(h:IU rs k=false):E4 rs=false:=by
 unfold E4;have:IT rs rs.length=false:=by
  cases hq:IT rs rs.length
  .rfl
  unfold IT at hq;rw[Cp]at hq;have:=hq k<|Bn.2 a;rw[h]at this;cases this
 rw[this];rfl
def Ix(w:rq)(x:Bool)(e:Ending)(w':rq):Prop:=e=.returned (.bool x)/\DO DQ w w'
def Vt(b:Nat)(f:DV)(a:rt)(w:rq)(u:zl w b f a)(z:RR w a f.lF)(hb:f.lF.length<=1099511627776):rT 175 #[(b,0)] w (Ix w (E4 f.lF)):=by
 have K:=u.cells.2.2.2.2.2.2.2.2.2;obtain⟨a,h,rfl,E,p,s⟩:=id z;unfold maxLen at p;clear s;go_enter func175,ntmps175;go_wp2_with fail
 go_loopw [10] (λi wr=>∃k:Nat,k<=f.lF.length/\i=.int .i64 k/\IT f.lF k=true/\DO DQ w wr) (λi _=>f.lF.length-(intOf i).toNat)
 case atStart=>exact⟨0,AN _,rfl,rfl,DO.refl _ _⟩
 case round =>
  obtain⟨k,a,rfl,e,c⟩:=hrel;have d:=zb e;clear e;by_cases l:k<f.lF.length
  .obtain⟨e,a,t,_,_,s⟩:=z.mod c<|Dj.no _;cases t;obtain⟨g,o,rfl,B,N,O,T⟩:=s k l;have q:0<k->wr (g,o+(k-1)*2)=some (.int .u64 (DU f.lF (k-1):Int))/\DU f.lF (k-1)<18446744073709551616:=λa=>by
    obtain⟨a,e,v,q,_,A,_⟩:=s (k-1) I;cases v;exact⟨q,A⟩
   have t:=(u.mod c rk).cells.2.2.2.2.2.2.2.2.2;have a:=zm t;have a:=zm B;have E:=zb<|gZ f.lF k;have v:=zb<|λh=>hP (rs:=f.lF) l h;have e:AA (IU f.lF k=(decide (DU f.lF k<=DP f.lF k)&&decide (DP f.lF k<=4611686018427387903)&&(decide (k=0)||(decide (2<=DU f.lF (k-1))&&decide (DP f.lF k+2<=DU f.lF (k-1)))))):=rfl;obtain⟨A,h⟩:=nm<|DU f.lF k;obtain⟨a,l⟩:=nm<|DP f.lF k;obtain⟨o,p⟩:=nm<|DU f.lF<|k-1;rw[h,l,p]at e;rw[h]at B O;rw[l]at N T;rw[p]at q;clear h l p s z;clear u K;by_cases l:a<A
   .have h:decide (a<A)=true:=rB l;go_wp2_with fail;go_quiet (fail);go_wp2_with fail;go_ret;exact⟨by rw[v.z (by rw[e.z];simp;omega)];rfl,(c.alloc _).drewN _⟩
   have h:decide (a<A)=false:=rB l;by_cases l:(4611686018427387903:Int)<a
   .have h:decide ((4611686018427387903:Int)<a)=true:=rB l;go_wp2_with fail;go_quiet (fail);go_wp2_with fail;go_ret;exact⟨by rw[v.z (by rw[e.z];simp;omega)];rfl,(c.alloc _).drewN _⟩
   have h:decide ((4611686018427387903:Int)<a)=false:=rB l;by_cases p:0<k
   .have h:decide (0<k)=true:=rB p;obtain⟨l,s⟩:=q I;have l:IntKind.i64.wrap ((k:Int)-1)=(k:Int)-1:=IntWalk.i64_in _ I;have l:((k:Int)-1).toNat=k-1:=I;have l:0<=(k:Int)-1:=I;have l:(k:Int)-1<f.lF.length:=I;clear q;by_cases s:(o:Int)<2
    .have l:decide ((o:Int)<2)=true:=rB s;go_wp2_with fail;go_quiet (fail);go_wp2_with fail;go_ret;exact⟨by rw[v.z (by rw[e.z];simp;omega)];rfl,(c.alloc _).drewN _⟩
    have l:decide ((o:Int)<2)=false:=rB s;have l:=wu ((o:Int)-2) I;by_cases s:(o:Int)-2<a
    .have l:decide ((o:Int)-2<a)=true:=rB s;go_wp2_with fail;go_quiet (fail);go_wp2_with fail;go_ret;exact⟨by rw[v.z (by rw[e.z];simp;omega)];rfl,(c.alloc _).drewN _⟩
    have l:decide ((o:Int)-2<a)=false:=rB s;go_wp2_with fail;go_quiet (fail);go_wp2_with fail;go_roundw
    case rel=>exact⟨k+1,I,by go_num,by rw[E.z,d.z,e.z];simp;omega,(c.alloc _).drewN _⟩
    simp[intOf];omega
   have h:decide (0<k)=false:=rB p;clear q;go_wp2_with fail;go_quiet (fail);go_wp2_with fail;go_roundw
   case rel=>exact⟨k+1,I,by go_num,by rw[E.z,d.z,e.z];simp;omega,(c.alloc _).drewN _⟩
   simp[intOf];omega
  have a:k=f.lF.length:=I;have e:AA (E4 f.lF=decide (0<f.lF.length)):=by
   show _=_;unfold E4;have:=d.z;rw[a]at this;rw[this];simp
  have t:=(u.mod c rk).cells.2.2.2.2.2.2.2.2.2;clear a;go_wp2_with fail;go_ret;exact⟨by rw[e.z];rfl,c⟩
end
section
open Go.RowKit Go.Proofs.Tryz Go.Shelf
attribute [local go_sem] Oper.semAt_some
def FG(rs:zE)(k:Nat):List (Nat×(Nat×Nat)):=(List.range k).map λj=>(rs.length-1-j,(DU rs (rs.length-1-j),DP rs (rs.length-1-j)))
def iy(rs:zE)(k:Nat):FG rs (k+1)=FG rs k++[(rs.length-1-k,(DU rs (rs.length-1-k),DP rs (rs.length-1-k)))]:=by simp[FG,Bp]
def kF(rs:zE)(k:Nat):(FG rs k).length=k:=by simp[FG]
def JO(x:Nat×(Nat×Nat)):Array rt:=#[.int .i64 x.1,.agg #[.int .u64 x.2.1,.int .u64 x.2.2]]
def FO(c:Nat)(a:rE)(W W':rq):Prop:=W'.heap[c]?=W.heap[c]?/\∀g o,a=some ⟨g,o,none⟩->W'.heap[g]?=W.heap[g]?
def FO.refl(c:Nat)(a:rE)(W:rq):FO c a W W:=⟨rfl,λ_ _ _=>rfl⟩
variable{a:rE}
def FO.trans{c:Nat}{A B C:rq}(h:FO c a A B)(k:FO c a B C):FO c a A C:=⟨k.1.trans h.1,λg o e=>(k.2 g o e).trans (h.2 g o e)⟩
variable{v:rt}
def FO.box{c:Nat}{A B:rq}(h:FO c a A B)(a:A c=some v):B c=some v:=(World.cell?_of_block h.1).trans a
variable{g o:Nat}
def FO.row{a x:Nat}{A B:rq}(h:FO a (some ⟨g,o,none⟩) A B)(c:A (g,x)=some v):B (g,x)=some v:=(World.cell?_of_block (h.2 g o rfl)).trans c
def dA(F:Fence)(n:Nat)(hF:F.fn 215)(E:F.round=none)(v:1<=n)(l o cap:Nat)(a:rE)(rs:zE)(J B:List (Nat×(Nat×Nat))->rq->Prop)
  (K:∀pre x W,J pre W->pre.length<rs.length->YieldAt F (n-1) prog l (JO x) W λe W' =>
   (e=.returned (.bool true)/\J (pre++[x]) W'/\FO o a W W')\/(e=.returned (.bool false)/\B (pre++[x]) W'))
  (W:rq) (p:W.cell? o=some (.slice a rs.length cap)) (hr:RR W (.slice a rs.length cap) rs) (h0:J [] W) :
  CallsIn F n prog 215 #[.func (.yield l) #[] #[],.pointer o] W λe W'=>(∃v,e=.returned v) /\
   ((∃l,l=FG rs rs.length/\J l W')\/(∃pre,(∃k,k<=rs.length/\pre=FG rs k)/\B pre W')):=by
 obtain⟨_,_,e,l,r2,N⟩:=hr;cases e;unfold maxLen at r2;have l:(rs.length:Int)<=9223372036854775807:=I;refine callsIn_of_wp func215 rfl hF ?_ E;simp only[ntmps215,An,AS,Ae,Nat.reduceAdd,Nat.reduceSub,BC,BB,BK,BE,Aq,BS];gi_wp2
 gi_loopw [3] (λi wr=>∃k:Nat,k<=rs.length/\i=.int .i64 ((rs.length:Int)-1-k)/\J (FG rs k) wr/\FO o a W wr) (λi _=>(intOf i+1).toNat)
 case atStart=>exact⟨0,AN _,lm,h0,FO.refl _ _ _⟩
 case round =>
  obtain⟨k,a,rfl,d,c⟩:=hrel;by_cases O:k<rs.length
  .obtain⟨q,Y⟩:=nm<|rs.length-1-k;have s:(rs.length:Int)-1-k=(q:Int):=I;have T:q<rs.length:=I;obtain⟨g,o,rfl,c1,c2,_,_⟩:=N q T;have f:=c.box p;have t:=c.row c1;have u:=c.row c2;obtain⟨T,l,a,o,v,E⟩:=K _ (q,(DU rs q,DP rs q)) wr d (by rw[kF];exact O);have HB:=zb<|iy rs k;have Z:=zb Y;have HJ:=zb d;have X:=zb s;unfold JO at v;dsimp only at v;rw[s];clear Y d N c1 c2 s;gi_wp2;refine E.mono ?_;clear E K;rintro e W3 (⟨rfl,z,A⟩|⟨rfl,h⟩)
   .have a:AA (J (FG rs<|k+1) W3):=by
     show J _ _;rw[HB.z,Z.z];exact z
    have e:=zb<|c.trans A;clear z A c f t u p;gi_wp2;go_roundw
    case rel=>exact⟨k+1,I,by rw[<-X.z];congr 1;omega,a.z,e.z⟩
    simp[intOf]
   have a:AA (B (FG rs<|k+1) W3):=by
    show B _ _;rw[HB.z,Z.z];exact h
   clear h c f t u p;gi_wp2;refine bodyPost_ret (results_none rfl _ _ _) rfl ?_;exact⟨⟨_,rfl⟩,.inr ⟨_,⟨k+1,I,rfl⟩,a.z⟩⟩
  have a:k=rs.length:=I;have HJ:=zb d;have e:=zb a;have c:¬(0:Int)<=(rs.length:Int)-1-k:=I;clear d a N K;gi_wp2
  go_end0
  exact⟨⟨_,rfl⟩,.inl<|by rw[<-e.z];exact HJ.z⟩
def TK(F:Fence)(n:Nat)(d:F.fn 194)(c:F.round=none)(a:rE)(len cap:Nat)(w:rq):CallsIn F n prog 194 #[.slice a len cap] w λe w'=>e=.returned (.func (.func 215) #[] #[.pointer w])/\w'=w.alloc (.cells #[.slice a len cap] 63):=by
 refine callsIn_of_wp func194 rfl d ?_ c;simp only[ntmps194,An,AS,Ae,Nat.reduceAdd,Nat.reduceSub,BC,BB,BK,BE,Aq,BS];gi_wp2;go_ret;exact rZ
def hO(F:Fence)(n:Nat)(q:F.fn 215)(f:F.round=none)(s:1<=n)(c cap:Nat)(a:rE)(rs:zE)(w:rq)(d:w c=some (.slice a rs.length cap))(t:RR w (.slice a rs.length cap) rs):SeqStopsK F n prog 215 #[.pointer c] JO (FO c a) (λl=>l=FG rs rs.length) (λpre=>∃k,k<=rs.length/\pre=FG rs k) rs.length w:=λl J u W h _ _ v z=>by
 have o:=zm d;refine dA F n q f s l c cap a rs J u v W ((h.cell (p:=c) o).trans d) ?_ z;obtain⟨_,_,e,A,B,E⟩:=t;cases e;refine⟨_,_,rfl,A,B,λi c=>?_⟩;obtain⟨g,o,e,a,d,f,l⟩:=E i c;have c:=zm a;exact⟨g,o,e,(h.cell (p:=⟨g,_,none⟩) c).trans a,(h.cell (p:=⟨g,_,none⟩) c).trans d,f,l⟩
end
section
open Go.RowKit Go.Proofs.Tryz
def Lo(F:FuncId)(a:Array rt)(n:Nat)(p:Nat->Bool)(w:rq):Prop :=
 ∀i k,i<n->rT F (#[.int .i64 i]++a) (w.drewN k) λe w'=>e=.returned (.bool<|p i)/\∃k,w'=w.drewN k
def OU(F:FuncId):Prop:=∀a w,(callFunc F a).run prog w=.ok (.enter F a) w
def E3(n:Nat)(p:Nat->Bool)(m:Nat):Prop:=m<=n/\(0<m->p (m-1)=false)/\(m<n->p m=true)
def QA(n:Nat)(F:FuncId)(c:Array rt)(p:Nat->Bool)(w:rq)(s:n<=4611686018427387904)(q:OU F)(o:Lo F c n p w):rT 152 #[[n],.func (.func F) #[] c] w λe w'=>∃m:Nat,E3 n p m/\e=.returned (.int .i64 m)/\∃k,w'=w.drewN k:=by
 go_enter func152,ntmps152;go_wp2_with fail
 go_loopw [5,6] (λi j w'=>∃a b:Nat,a<=b/\b<=n/\i=.int .i64 a/\j=.int .i64 b/\(0<a->p (a-1)=false)/\(b<n->p b=true)/\∃k,w'=w.drewN k) (λi j _=>((intOf j)-(intOf i)).toNat)
 case atStart=>exact⟨0,n,I,I,rfl,rfl,I,I,0,rfl⟩
 case round =>
  obtain⟨a,b,c,s,rfl,rfl,h,l,k,rfl⟩:=hrel;by_cases c:a<b
  .have c:(a+b) / 2<n:=I;have H:=o ((a+b) / 2) k c;have c:0<=(a:Int)+b:=I;have o:(((a+b) / 2:Nat):Int)=((a:Int)+b) / 2:=I;rw[o]at H;have s:∀c w,(callFunc F c).run prog w=.ok (.enter F c) w:=q;clear o;cases hpv:p ((a+b) / 2)
   .rw[hpv]at H;have d:AA (p ((a+b) / 2)=false):=hpv;clear hpv;go_wp2_with (refine H.mono ?_;rintro e w' ⟨rfl,f,rfl⟩);go_roundw
    case rel=>exact⟨(a+b) / 2+1,b,I,I,by go_num,rfl,λ_=>d,l,f,rfl⟩
    simp[intOf];omega
   rw[hpv]at H;have d:AA (p ((a+b) / 2)=true):=hpv;clear hpv;go_wp2_with (refine H.mono ?_;rintro e w' ⟨rfl,f,rfl⟩);go_roundw
   case rel=>exact⟨a,(a+b) / 2,I,I,rfl,by go_num,h,λ_=>d,f,rfl⟩
   simp[intOf];omega
  go_wp2_with fail;go_ret;exact⟨a,⟨I,h,λh=>by have e:a=b:=I;rw[e];exact l I⟩,rfl,k,rfl⟩
structure Eh(w:rq)(b o:Nat)(v:rt)(rs:zE)(fl most:Nat):Prop where
 cl:w (b,o)=some v
 cf:w (b,o+1)=some (.int .u64 fl)
 cm:w (b,o+2)=some (.int .i64 most)
 own:w.ownsRow 0 214 2 v rs.length (zr rs)
 len:rs.length<=1099511627776
 fz:∀j,w.frozen? ⟨b,j,none⟩=false
variable{S:Nat->Prop}{b o:Nat}{rs:zE}{v:rt}{w w':rq}
def Eh.mod{fl a:Nat}(h:Eh w b o v rs fl a)(m:DO S w w')(hb:¬S b)(c:∀g,v.ownBlock=some g->¬S g):Eh w' b o v rs fl a :=
 ⟨m.cell hb h.cl,m.cell hb h.cf,m.cell hb h.cm,m.owns h.own c,h.len,λj=>by rw[World.frozen?_of_block (w:=w) (m.block b (zm h.cl) hb)];exact h.fz j⟩
def KX(rs:zE)(n:Nat)(i:Nat):Bool:=decide (n<=DP rs i)
def c8(rs:zE)(fl a i b o c d n:Nat)(v:rt)(w:rq)
  (e:w c=some (.pointer (b,o))) (p:w d=some (.int .u64 n))
  (h:Eh w b o v rs fl a) (hi:i<rs.length) :
  rT 153 #[[i],(c,0),(d,0)] w λe w'=>e=.returned (.bool<|KX rs n i)/\∃k,w'=w.drewN k:=by
 obtain⟨a,c,rfl,d,l,f⟩:=zk h.own;obtain⟨g,rfl⟩:=f I;have a:=h.cl;have a:=(Il h.own i hi).2;have a:(i:Int)<rs.length:=I;have a:0<=(i:Int):=I;unfold maxLen at l;clear f;go_enter func153,ntmps153;go_wp2_with fail;go_quiet (fail);go_wp2_with fail;go_ret;exact⟨rfl,_,rfl⟩
def Hg(rs:zE)(fl n:Nat):Bool:=decide (n<fl)||rs.any λr=>decide (r.1<=n)&&decide (n<=r.2)
def ix:OU 153:=λa w=>O8 func153 kw rfl a w
def cy(rs:zE)(fl c b o n:Nat)(v:rt)(w:rq)(h:Eh w b o v rs fl c):rT 87 #[(b,o),n] w λe w'=>∃m,E3 rs.length (KX rs n) m/\e=.returned (.bool (decide (n<fl)||decide (m<rs.length)&&decide (DU rs m<=n)))/\Below w.heap.size w w':=by
 have a:=zm h.cl;have a:=h.len;obtain⟨a,p,q,u,s,l⟩:=zk h.own;unfold maxLen at s;have d:=QA rs.length 153 #[.pointer w,.pointer (U (w.heap.size+1) 0)] (KX rs n) ((w.alloc<|.cells #[(b,o)] 114).alloc<|.cells #[n] 43) I ix (by
  intro i k a;have f:DO DQ w (((w.alloc<|.cells #[(b,o)] 114).alloc<|.cells #[n] 43).drewN k):=((rp.alloc _).alloc _).drewN k;exact(c8 rs fl c i b o w.heap.size (w.heap.size+1) n v _ lm lm (h.mod f rk<|λ_ _ x=>x) a).mono λe w' ⟨he,k',hw⟩=>⟨he,k+k',by rw[hw,World.drewN_drewN]⟩)
 have a:=h.cl;have a:=h.cf;subst q;go_enter func87,ntmps87;go_wp2_with (go_at_call 152;refine d.mono ?_;rintro e w' ⟨m,f,rfl,k,rfl⟩);have fin:∀j,Below w.heap.size w ((((w.alloc<|.cells #[(b,o)] 114).alloc<|.cells #[n] 43).drewN k).drewN j):=λj=>(((((DO.refl DQ _).alloc _).alloc _).drewN k).drewN j).below
 by_cases c1:n<fl
 .have a:decide ((n:Int)<fl)=true:=ls;go_quiet (fail);go_wp2_with fail;go_ret;exact⟨m,f,by simp[c1],fin _⟩
 have a:decide ((n:Int)<fl)=false:=ls;by_cases c2:m<rs.length
 .have t:decide ((m:Int)<rs.length)=true:=ls;obtain⟨g,rfl⟩:=l I;have a:=(Il h.own m c2).1;have c:=zm a;clear l d;go_quiet (fail);go_wp2_with fail;go_ret;exact⟨m,f,by simp[c1,c2],fin _⟩
 have t:decide ((m:Int)<rs.length)=false:=ls;clear l d;go_quiet (fail);go_wp2_with fail;go_ret;exact⟨m,f,by simp[c1,c2],fin _⟩
def Vz(a:Int)(w:rq)(c:a<=9223372036854775807)(d : -9223372036854775808<=a):rT 102 #[[a]] w λe w'=>e=.returned (.pointer w)/\w'=w.alloc (.cells #[ru,.int .u64 0,.int .i64 (max a 1)] 116):=by
 go_enter func102,ntmps102;go_wp2_with fail
 .go_ret;exact⟨rfl,by rw[(I:max a 1=1)]⟩
 go_ret;exact⟨rfl,by rw[(I:max a 1=a)]⟩
end
section
open Go.RowKit Go.Proofs.Tryz Go.Shelf
attribute [local go_sem] Oper.semAt_some
def X1(F:Fence)(n:Nat)(c:F.fn 141)(a:F.round=none)(b:Nat)(w:rq):CallsIn F n prog 141 #[.pointer b] w λe w'=>e=.returned (.func (.func 193) #[] #[.pointer w])/\w'=w.alloc (.cells #[(b,0)] 114):=by
 refine callsIn_of_wp func141 rfl c ?_ a;simp only[ntmps141,An,AS,Ae,Nat.reduceAdd,Nat.reduceSub,BC,BB,BK,BE,Aq,BS];gi_wp2;go_ret;exact rZ
def Ja(lb c:Nat)(a:rE)(W:rq)(k:Nat):Prop:=k=lb\/k=c\/((∀g o,a=some ⟨g,o,none⟩->k≠g)/\∃cs fz,W.heap[k]?=some (.cells cs 214 fz))
def L8(x:Nat×Nat):Array rt:=#[.agg #[.int .u64 x.1,.int .u64 x.2]]
def cw(F:Fence)(n:Nat)(s:∀f,F.fn f)(t:F.round=none)(v:4<=n)(l A b lb cap:Nat)(a:rE)(rs:zE)(J B:List (Nat×Nat)->rq->Prop)(W:rq)
  (hY:∀m pre x W1,J pre W1->pre.length<rs.length->YieldAt F m prog l (L8 x) W1 λe W' =>
   DO (Ja lb l a W1) W1 W'/\((e=.returned (.bool true)/\J (pre++[x]) W')\/(e=.returned (.bool false)/\B (pre++[x]) W')))
  (hJ:OwnFrom W.heap.size J) (f:OwnFrom W.heap.size B) (E:W A=some (.pointer b)) (hb:W b=some (.slice a rs.length cap)) (q:RR W (.slice a rs.length cap) rs) (v:lb<W.heap.size) (hl:l<W.heap.size) (ha:∀g o,a=some ⟨g,o,none⟩->g<W.heap.size/\g≠lb/\g≠l) (h0:J [] W) :
  CallsIn F n prog 193 #[.func (.yield l) #[] #[],.pointer A] W λe W'=>(∃v,e=.returned v) /\
   (J ((FG rs rs.length).map (·.2)) W'\/∃k,k<=rs.length/\B ((FG rs k).map (·.2)) W'):=by
 have HJ:=zb hJ;have ab:=zb f;have HY:=zb hY;have HR:=zb q;have H0:=zb h0;have ah:(W.alloc<|.cells #[.func (.yield l) #[] #[]] 300) A=some (.pointer b):=((DO.refl DQ W).alloc _).cell (a:=A) id E;have ai:(W.alloc<|.cells #[.func (.yield l) #[] #[]] 300) b=some (.slice a rs.length cap):=((DO.refl DQ W).alloc _).cell (a:=b) id hb;have h1:1<=n:=I;clear hJ f hY q h0;refine callsIn_of_wp_marks func193 rfl (s _) ?_ t;simp only[ntmps193,An,AS,Ae,Nat.reduceAdd,Nat.reduceSub,BC,BB,BK,BE,Aq,BS]
 gi_wp2_with (gi_at_call 194;refine(TK F (n-1) (s _) t _ _ _ _).mono ?_;rintro e w' ⟨rfl,rfl⟩)
 obtain⟨d,v⟩:=nm W.heap.size;have bY:Boxed ((W.alloc<|.cells #[.func (.yield l) #[] #[]] 300).alloc<|.cells #[.slice a rs.length cap] 63) d 300 (.func (.yield l) #[] #[]):=by
  rw[<-v];exact(Boxed.new W _ _).alloc _
 have bS:Boxed ((W.alloc<|.cells #[.func (.yield l) #[] #[]] 300).alloc<|.cells #[.slice a rs.length cap] 63) (d+1) 63 (.slice a rs.length cap):=by
  have:=Boxed.new (W.alloc<|.cells #[.func (.yield l) #[] #[]] 300) 63<|.slice a rs.length cap;rw[World.size_alloc,v]at this;exact this
 have m0:DO DQ W ((W.alloc<|.cells #[.func (.yield l) #[] #[]] 300).alloc<|.cells #[.slice a rs.length cap] 63):=(rp.alloc _).alloc _;obtain⟨w1,f⟩:=nm<|((W.alloc<|.cells #[.func (.yield l) #[] #[]] 300).alloc<|.cells #[.slice a rs.length cap] 63);have an:w1.heap.size=d+2:=by rw[<-f];simp;omega
 have aj:J [] w1:=by rw[<-f];exact HJ.z.alloc _<|HJ.z.alloc _ H0.z
 rw[f]at bY bS m0 ⊢;rw[v];have v:=HR.z.mod m0<|Dj.no _;clear f ah ai;refine wpIn_rangeFunc_ownH t h1 (gf:=215) (lb:=#[.pointer (U (d+1) 0)]) rfl (s _) (enters_of func215 kw rfl)
  (hO F (n-1) (s _) t I (d+1) cap a rs w1 bS.cell v) (λh k=>h.trans k) ?hKb (Below.refl _ _) (λ_=>rfl)
  (λpre X=>(J (pre.map (·.2)) X/\Boxed X d 300 (.func (.yield l) #[] #[]))/\Boxed X (d+1) 63 (.slice a rs.length cap))
  (λc pre X=>c=.ret/\B (pre.map (·.2)) X) ?hI ?hIx ⟨⟨aj,bY⟩,bS⟩
  (λx a' X=>∃u,a'={ tmps:=#[.func (.yield l) #[] #[],.pointer A,.pointer d,undef,.pointer<|some ⟨u,0,none⟩,.pointer b,.pointer b,.pointer b,.slice a rs.length cap,.func (.func 215) #[] #[.pointer (U (d+1) 0)],.int .i64 x.1,.agg #[.int .u64 x.2.1,.int .u64 x.2.2],undef,undef,undef,undef],defers:=[] } /\
   X.heap[u]?=some (.cells #[x.2.1,x.2.2] 214 (0,0))) ?hAx ?assign ?body ?done ?stop
 case hKb =>
  intro X s o t f _ _ _;exact⟨World.putObj_heap_other I,λg o e=>World.putObj_heap_other<|pp<|(ha g o e).1⟩
 case hI =>
  exact OwnFrom.and (OwnFrom.and (λs A B row E f q=>HJ.z _ A B row E f<|λr e=>⟨pp<|(q r e).1,(q r e).2⟩)<|Own.from (boxed_own d _<|λ_=>_) _)<|Own.from (boxed_own (d+1) _<|λ_=>_) _
 case hIx =>
  intro c s A B row E f q;exact⟨E.1,ab.z _ A B row E.2 f<|λr e=>⟨pp<|(q r e).1,(q r e).2⟩⟩
 case hAx =>
  intro x a' s A B row E f q;obtain⟨u,e,N⟩:=E;refine⟨u,e,(f.block u (AI.1 N).1<|λf=>?_).trans N⟩;obtain⟨_,o,K,O⟩:=q u f.symm;rw[N]at K;cases K;cases O
 case assign =>
  intro l' pre x X K hI T;unfold JO;gi_wp2;refine T _ _ ((KeepsOthers.alloc X _).from _) ⟨Below.heap_alloc _ _ _ hI.2.lt,λg o e=>Below.heap_alloc _ _ _ ?_⟩ ⟨⟨?_,hI.1.2.alloc _⟩,hI.2.alloc _⟩ ⟨X.heap.size,rfl,heap_alloc_new X _⟩
  .have f:=(ha g o e).1;have f:=hI.2.lt;omega
  exact HJ.z.alloc _ hI.1.1
 case body =>
  rintro l' pre x a' X q ac ⟨⟨Y,hy⟩,Z⟩ ⟨u,rfl,ad⟩ f;have yc:=hy.cell;have q:X u=some (.int .u64 x.2.1):=za ad rfl;have q:X (u,1)=some (.int .u64 x.2.2):=za ad rfl;obtain⟨s,tmps,assign,body,aa,q⟩:=HY.z (n-1-1-1) (pre.map (·.2)) x.2 X Y<|rB f;unfold L8 at aa;have f:1<=n-1-1:=I;have f:=zb Y;clear Y ac;have f:=zb q;clear q;gi_wp2;refine RoundIn.mono (F:=F.inRound l') (show RoundIn (F.inRound l') _ _ _ _ _ _ _ _ _ from f.z) ?_;rintro e X3 ⟨m3,ae⟩;have af:=hy.lt;have p:=Z.lt;have nY:¬Ja lb l a X d:=by
   rintro(h|h|⟨_,cs,fz,h⟩)
   .omega
   .omega
   rw[show X.heap[d]?=_ from hy]at h;simp at h
  have nS:¬Ja lb l a X (d+1):=by
   rintro(h|h|⟨_,cs,fz,h⟩)
   .omega
   .omega
   rw[show X.heap[d+1]?=_ from Z]at h;simp at h
  have ag:AA (KeepsFrom w1.heap.size X X3):=⟨m3.size,λk o hk N O=>by
   refine(m3.block k (AI.1 N).1 ?_).trans N;rintro(h|h|⟨_,cs,fz,h⟩)
   .omega
   .omega
   rw[N]at h;cases h;cases O⟩
  have ak:AA (FO (d+1) a X X3):=⟨m3.block _ p nS,λg o e=>m3.block _ (pp<|(ha g o e).1) (by
   rintro(h|h|⟨h,_⟩)
   .exact(ha g o e).2.1 h
   .exact(ha g o e).2.2 h
   exact h g o e rfl)⟩
  have al:AA (Boxed X3 d 300<|.func (.yield l) #[] #[]):=(m3.block _ af nY).trans hy;have am:AA (Boxed X3 (d+1) 63<|.slice a rs.length cap):=(m3.block _ p nS).trans Z;clear nY nS m3 af p;rcases ae with⟨rfl,z⟩|⟨rfl,z⟩
  .have a:=zb z;clear z yc aa;gi_wp2;exact⟨ag.z,ak.z,⟨by rw[BX];exact a.z,al.z⟩,am.z⟩
  have a:=zb z;clear z yc aa;gi_wp2;exact⟨ag.z,rfl,by rw[BX];exact a.z⟩
 case done =>
  rintro D a X hD rfl ⟨⟨z,_⟩,_⟩ T;gi_wp2;refine⟨lm,.inl ⟨_,_,rfl,run_takeDeferred T,?_⟩⟩;exact⟨_,results_none rfl _ _ _,⟨_,rfl⟩,.inl<|HJ.z.putObj _ z I T rfl⟩
 case stop =>
  rintro D c pre X hD ⟨k,hk,rfl⟩ ⟨rfl,z⟩ T;gi_wp2;refine⟨lm,.inl ⟨_,_,rfl,run_takeDeferred T,?_⟩⟩;exact⟨_,results_none rfl _ _ _,⟨_,rfl⟩,.inr ⟨k,hk,ab.z.putObj _ z I T rfl⟩⟩
end
section
open Go.RowKit Go.Proofs.Tryz
def D5(rs:zE):Nat->rC
 | 0=>[]
 | k+1=>(D5 rs k++zI (DU rs k-DP rs (k+1)-2))++zI (DP rs (k+1)-DU rs (k+1))
theorem Rm(rs:zE):∀k,(D5 rs k).length<=16*k
 | 0=>by simp[D5]
 | k+1=>by
  have a:=Rm rs k;have a:=zy<|DU rs k-DP rs (k+1)-2;have a:=zy<|DP rs (k+1)-DU rs (k+1);simp only[D5,AG];omega
def Gn(f:DV):rC:=((([2]++zI (DP f.lF 0))++zI (f.lF.length-1))++zI (DP f.lF 0-DU f.lF 0))++D5 f.lF (f.lF.length-1)
variable{i:Nat}{rs:zE}
def X0(h:E4 rs=true)(hi:i<rs.length):IU rs i=true:=by
 unfold E4 IT at h;simp only[AZ,Cp,Bn]at h;exact h.1 i hi
def MX(h:E4 rs=true)(hi:i<rs.length):DU rs i<=DP rs i/\DP rs i<=4611686018427387903/\(0<i->DP rs i+2<=DU rs (i-1)):=by
 have:=X0 h hi;simp only[IU,AZ,Bb,Ah]at this;obtain⟨⟨c,d⟩,a⟩:=this;refine⟨c,d,λc=>?_⟩;rcases a with a|a
 .omega
 exact a.2
variable{l new:rC}{v v':rt}{w w':rq}
def Ds.alloc(h:Ds w v l new v' w')(o:Obj):Ds w v l new v' (w'.alloc o) :=
 ⟨World.ownsRow.alloc h.own o,World.ownsRow.alloc h.mL o,⟨h.grown.os,h.grown.tape,h.grown.output,AK h.grown.size lm,λk a c=>(Below.heap_alloc w' o k<|A7 a h.grown.size).trans<|h.grown.block k a c⟩,h.at_⟩
def Ds.qU(h:Ds w v l new v' w'):Ds w v l new v' w'.drew :=
 ⟨h.own,h.mL,⟨h.grown.os,h.grown.tape,h.grown.output,h.grown.size,h.grown.block⟩,h.at_⟩
variable{g o:Nat}
def RR.cell0{n c:Nat}(h:RR w (.slice (g,o) n c) rs)(d:0<rs.length):w (g,o+0*2)=some (.int .u64 (DU rs 0:Int)):=by
 obtain⟨a,c,f,_,_,l⟩:=h;obtain⟨a,c,e,p,_⟩:=l 0 d;cases f;cases e;exact p
def OB.lK(h:OB w v l)(m:DO DQ w w'):OB w' v l:=m.owns h (λ_ _ x=>x)
def Pt(h:OB w v l):∀g,v.ownBlock=some g->g<w.heap.size:=by
 intro g a;rcases h.2 with⟨rfl,_⟩|⟨f,c,d,rfl,_,e,_⟩
 .cases a
 simp[Value.ownBlock]at a;subst a;exact(AI.1 e).1
def K8(v:rt)(l:rC)(b:Nat)(f:DV)(rv:rt)(w:rq)(hf:zl w b f rv)(hr:RR w rv f.lF)(hs:E4 f.lF=true)(hn:f.lF.length<=1099511627776)(ac:Dj (λk=>v.ownBlock=some k) rv)(h:OB w v l)(hl:l.length<=35184372088832):rT 173 #[v,(b,0)] w (IV w v l (Gn f)):=by
 have c9:=hf.cells.2.2.2.2.2.2.2.2.2;have ay:=zm c9;have Y:0<f.lF.length:=by
  unfold E4 at hs;simp only[AZ,Ah]at hs;exact hs.2
 obtain⟨a,s,rfl,h1,h2,h3⟩:=id hr;unfold maxLen at h2;obtain⟨g,o,rfl,e1,e2,b1,b2⟩:=h3 0 Y;have ar:=zm e1;obtain⟨k1,k2,_⟩:=MX hs Y;have HB:AA (Gn f=((([2]++zI (DP f.lF 0))++zI (f.lF.length-1))++zI (DP f.lF 0-DU f.lF 0))++D5 f.lF (f.lF.length-1)):=rfl;have Y:∀i,i<f.lF.length->DU f.lF i<=DP f.lF i/\DP f.lF i<=4611686018427387903/\(0<i->DP f.lF i+2<=DU f.lF (i-1)):=λi p=>MX hs p
 have HH:=zb Y;clear Y;obtain⟨O,Y⟩:=nm<|DU f.lF 0;obtain⟨p,af⟩:=nm<|DP f.lF 0;rw[Y]at e1 b1 k1;rw[af]at e2 b2 k1 k2;rw[Y,af]at HB;simp only[CP,B5]at e1 e2;clear Y af h3;have z1:IntKind.i64.wrap ((f.lF.length:Int)-1)=(f.lF.length:Int)-1:=IntWalk.i64_in _ I;have z2:IntKind.u64.wrap ((f.lF.length:Int)-1)=((f.lF.length-1:Nat):Int):=by rw[IntKind.wrap_u64];omega
 have z3:IntKind.u64.wrap ((p:Int)-O)=((p-O:Nat):Int):=by rw[IntKind.wrap_u64];omega
 go_enter func173,ntmps173;go_wp2_with fail;obtain⟨T,Y⟩:=nm<|(w.alloc<|.cells #[O,p] 214).drew;have Z:DO DQ w T:=by rw[<-Y];exact(rp.alloc _).drew
 have FX:=hf.mod Z rk;have hB:T.heap[w.heap.size]?=some (.cells #[O,p] 214 (0,0)):=by rw[<-Y];exact heap_alloc_new w _
 have t:T w=some (.int .u64 O):=za hB rfl;have u:T (w,1)=some (.int .u64 p):=za hB rfl;have q:¬v.ownBlock=some w.heap.size:=λhx=>pp<|Pt h _ hx
 have hX:=h.lK Z;obtain⟨v1,w1,ak,A1⟩:=Jk T v l 2 2 hX rfl I;have F1:zl w1 b f (.slice (g,o) f.lF.length s)/\w1 w=some (.int .u64 O)/\w1 (w,1)=some (.int .u64 p):=⟨zl.app (w:=T) FX (h.lK Z) A1,A1.mod.cell (a:=w.heap.size) q t,A1.mod.cell (a:=U w.heap.size 1) q u⟩;have L1:(l++[(2:UInt8)]).length<=35184372088832+1:=ls;have HX:=zb<|Z.trans (S:=DQ) rp;refine zn 21 (λw'=>zl w' b f (.slice (g,o) f.lF.length s)/\w' w=some (.int .u64 O)/\w' (U w 1)=some (.int .u64 p)) ?_ ?_
 .rw[Y];exact⟨FX,t,u⟩
 rw[Y];clear Y;refine GI 0 ?_;refine GV rfl ?_;try simp only[PS]
 refine GI 3 ?_;iterate 2
  refine GV rfl ?_;try simp only[PS]
 refine GI 6 ?_;iterate 7
  refine GV rfl ?_;try simp only[PS]
 refine GI 14 ?_;iterate 5
  refine GV rfl ?_;try simp only[PS]
 refine zz 1 rfl (λK z=>?_);go_simp;refine z.z _ _ ?_ ?_
 .exact⟨FX.mod (S:=DQ) (rp.alloc _) rk,((DO.refl DQ T).alloc _).cell (a:=w.heap.size) id t,((DO.refl DQ T).alloc _).cell (a:=U w.heap.size 1) id u⟩
 clear z K;try simp only[PS]
 refine zz 2 rfl (λK z=>?_);refine zL rfl _ _ _ _ rfl _ _ _ rfl rfl ak ?_;refine z.z _ _ F1 ?_;clear z K;try simp only[PS]
 refine zz 5 rfl (λK z=>?_);go_simp;refine(GO v1 (l++([2])) p w1 A1.own I I).mono ?_;rintro e w2 ⟨v2,rfl,ap⟩;have A2:=A1.trans ap;have F2:zl w2 b f (.slice (g,o) f.lF.length s)/\w2 w=some (.int .u64 O)/\w2 (w,1)=some (.int .u64 p):=⟨zl.app (w:=T) FX (h.lK Z) A2,A2.mod.cell (a:=w.heap.size) q t,A2.mod.cell (a:=U w.heap.size 1) q u⟩;have L2:(l++([2]++zI p)).length<=35184372088832+9:=by have:=zy p;simp at this L1 ⊢;omega
 refine z.z _ _ F2 ?_;clear ap;clear z K;try simp only[PS]
 refine zz 13 rfl (λK z=>?_);go_simp;refine(GO v2 (l++([2]++zI p)) (f.lF.length-1) w2 A2.own I I).mono ?_;rintro e w3 ⟨v3,rfl,ap⟩;have A3:=A2.trans ap;have F3:zl w3 b f (.slice (g,o) f.lF.length s)/\w3 w=some (.int .u64 O)/\w3 (w,1)=some (.int .u64 p):=⟨zl.app (w:=T) FX (h.lK Z) A3,A3.mod.cell (a:=w.heap.size) q t,A3.mod.cell (a:=U w.heap.size 1) q u⟩;have L3:(l++([2]++zI p++zI (f.lF.length-1))).length<=35184372088832+17:=by have:=zy<|f.lF.length-1;simp at this L2 ⊢;omega
 refine z.z _ _ F3 ?_;clear ap;clear z K;try simp only[PS]
 refine zz 19 rfl (λK z=>?_);go_simp;refine(GO v3 (l++([2]++zI p++zI (f.lF.length-1))) (p-O) w3 A3.own I I).mono ?_;rintro e w4 ⟨Y,rfl,ap⟩;have A4:=A3.trans ap;have F4:zl w4 b f (.slice (g,o) f.lF.length s)/\w4 w=some (.int .u64 O)/\w4 (w,1)=some (.int .u64 p):=⟨zl.app (w:=T) FX (h.lK Z) A4,A4.mod.cell (a:=w.heap.size) q t,A4.mod.cell (a:=U w.heap.size 1) q u⟩;have L4:(l++([2]++zI p++zI (f.lF.length-1)++zI (p-O))).length<=35184372088832+25:=by have:=zy<|p-O;simp at this L3 ⊢;omega
 refine z.z _ _ F4 ?_;clear ap;clear z K;try simp only[PS]
 refine GI 20 ?_;refine GV rfl ?_;try simp only[PS]
 refine zq ?_;have Y:=F4.1.cells.2.2.2.2.2.2.2.2.2;have al:=hr.mod Z<|Dj.no _;have ag:=zb A4;have au:=zb FX;have Y:=zb q;obtain⟨A,Y⟩:=nm<|[2]++zI p++zI (f.lF.length-1)++zI (p-O);rw[Y]at ag HB;have ad:(l++A).length<=35184372088832+25:=by rw[<-Y];exact L4
 have av:=zb hX;have am:=zb al;clear F1 F2 F3 F4 A1 A2 A3 A4 L1 L2 L3 L4 Y z1 z2 z3 hf hr h hX al ak t u hB Z FX q k1 k2 b1 b2 e1 e2 c9;have ae:AA (∀k h wr,Gn f=A++D5 f.lF k->Ds T v l (A++D5 f.lF k) h wr->Ds w v l (Gn f) h wr):=by
  intro k h wr q E;rw[q];exact⟨E.own,E.mL,⟨E.grown.os.trans HX.z.os,E.grown.tape.trans HX.z.tape,E.grown.output.trans HX.z.output,AK HX.z.size E.grown.size,λi p hn=>(E.grown.block i (A7 p HX.z.size) hn).trans<|HX.z.block i p rk⟩,λi p=>(E.at_ i p).imp id<|λq=>AK HX.z.size q⟩
 by_cases p:f.lF.length<=1
 .have HF:AA (Gn f=A++D5 f.lF 0):=by
   have:f.lF.length-1=0:=I;show _=_;rw[HB.z,this]
  have q:=zb p;have p:(f.lF.length:Int)-1<=0:=I;have p:f.lF.length-1<=0:=I;go_wp2_with fail;all_goals
   refine wp_loop_rounds 1 ?_;rw[rounds_succ];go_wp2_with fail
  all_goals
   go_ret;exact⟨_,rfl,ae.z 0 _ _ HF.z<|by simpa [D5]using ag.z⟩
 have p:1<s:=I;have p:¬(1=s):=I;have p:¬(s=1):=I;go_wp2_with fail
 go_loopw [0,40] (λh i wr=>∃k:Nat,k<=f.lF.length-1/\i=.int .i64 k/\Ds T v l (A++D5 f.lF k) h wr) (λ_ i _=>f.lF.length-1-(intOf i).toNat)
 case atStart=>exact⟨0,AN _,rfl,by simpa [D5]using ag.z⟩
 case round =>
  obtain⟨k,h,rfl,E⟩:=hrel;have aw:=Pt E.own;have h:=am.z.mod E.mod ac;have ah:=zl.app au.z av.z E;have an:=ah.cells.2.2.2.2.2.2.2.2.2;have p:=zm an;obtain⟨_,_,ax,_,_,h3⟩:=h;cases ax;by_cases h:k<f.lF.length-1
  .obtain⟨g',o',ai,e1,_,b1,_⟩:=h3 k I;cases ai;obtain⟨g',o',ai,e3,e4,b3,b4⟩:=h3 (k+1) I;cases ai;obtain⟨q1,q2,q3⟩:=HH.z (k+1) I;have O:=q3 I;obtain⟨Y,r2,_⟩:=HH.z k I;simp only[CC]at O;have ar:=zm e1;have h:k<f.lF.length:=I;have HS:AA (D5 f.lF (k+1)=(D5 f.lF k++zI (DU f.lF k-DP f.lF (k+1)-2))++zI (DP f.lF (k+1)-DU f.lF (k+1))):=rfl;have h:=Rm f.lF k;obtain⟨pl,q⟩:=nm<|DU f.lF k;obtain⟨B,h⟩:=nm<|DU f.lF<|k+1;obtain⟨d,p⟩:=nm<|DP f.lF<|k+1;rw[q]at e1 b1 O HS Y;have r3:=AK Y r2;clear Y r2;rw[h]at e3 b3 q1 HS;rw[p]at e4 b4 q1 q2 O HS;clear q h p q3 h3;have p1:o+(k+1)*2=o+2+k*2:=I;rw[p1]at e3 e4;have z1:=wu ((pl:Int)-d) I;have z2:IntKind.u64.wrap ((pl:Int)-d-2)=((pl-d-2:Nat):Int):=by rw[IntKind.wrap_u64];omega
   have z3:IntKind.u64.wrap ((d:Int)-B)=((d-B:Nat):Int):=by rw[IntKind.wrap_u64];omega
   have aa:=zb E;clear E p1;go_wp2_with fail;obtain⟨Y,h⟩:=nm<|(wr.alloc<|.cells #[B,d] 214).drew;have Z:DO DQ wr Y:=by rw[<-h];exact(rp.alloc _).drew
   have AY:Ds T v l (A++D5 f.lF k) u0 Y:=by rw[<-h];exact(aa.z.alloc _).qU
   have aj:=AY.own;have FX:=ah.mod Z rk;have hB:Y.heap[wr.heap.size]?=some (.cells #[B,d] 214 (0,0)):=by rw[<-h];exact heap_alloc_new wr _
   have t:Y wr=some (.int .u64 B):=za hB rfl;have u:Y (wr,1)=some (.int .u64 d):=za hB rfl;have eX:=Z.cell (a:=⟨g,_,none⟩) id e1;have ab:¬u0.ownBlock=some wr.heap.size:=λhx=>pp<|aw _ hx
   have ao:¬u0.ownBlock=some g:=λhx=>by
    rcases aa.z.at_ _ hx with h1|h1
    .exact ac g o _ _ rfl h1
    exact absurd (zm<|am.z.cell0 I) I
   clear ah an;refine zn 21 (λw'=>zl w' b f (.slice (g,o) f.lF.length s)/\w' wr=some (.int .u64 B)/\w' (U wr 1)=some (.int .u64 d)/\w' (g,o+k*2)=some (.int .u64 pl)) ?_ ?_
   .rw[h];exact⟨FX,t,u,eX⟩
   rw[h];clear h;refine GI 0 ?_;iterate 13
    refine GV rfl ?_;try simp only[PS]
   refine GI 14 ?_;iterate 5
    refine GV rfl ?_;try simp only[PS]
   refine zz 13 rfl (λK z=>?_);go_simp;refine(GO u0 (l++(A++D5 f.lF k)) (pl-d-2) Y aj (by simp at ad ⊢;omega) I).mono ?_;rintro e y1 ⟨x1,rfl,X⟩;have h:zl y1 b f (.slice (g,o) f.lF.length s)/\y1 wr=some (.int .u64 B)/\y1 (wr,1)=some (.int .u64 d)/\y1 (g,o+k*2)=some (.int .u64 pl):=⟨zl.app FX (aj) X,X.mod.cell (a:=wr.heap.size) ab t,X.mod.cell (a:=U wr.heap.size 1) ab u,X.mod.cell (a:=⟨g,_,none⟩) ao eX⟩;have B1:=AY.trans X;have p:=zy<|pl-d-2;refine z.z _ _ h ?_;clear z K;try simp only[PS]
   refine zz 19 rfl (λK z=>?_);go_simp;refine(GO x1 (l++(A++D5 f.lF k++zI (pl-d-2))) (d-B) y1 B1.own (by simp at ad ⊢;omega) I).mono ?_;rintro e y2 ⟨e,rfl,aq⟩;have h:=B1.trans aq;have e:=X.trans (by rw[Ap];exact aq);have l:zl y2 b f (.slice (g,o) f.lF.length s)/\y2 wr=some (.int .u64 B)/\y2 (wr,1)=some (.int .u64 d)/\y2 (g,o+k*2)=some (.int .u64 pl):=⟨zl.app FX (aj) e,e.mod.cell (a:=wr.heap.size) ab t,e.mod.cell (a:=U wr.heap.size 1) ab u,e.mod.cell (a:=⟨g,_,none⟩) ao eX⟩;refine z.z _ _ l ?_;clear z K;try simp only[PS]
   refine GI 20 ?_;refine GV rfl ?_;try simp only[PS]
   refine zq ?_;go_wp2_with fail;go_roundw
   case rel=>exact⟨k+1,I,by go_num,by rw[HS.z,<-List.append_assoc,<-List.append_assoc];exact h⟩
   simp[intOf];omega
  have a:k=f.lF.length-1:=I;have HF:AA (Gn f=A++D5 f.lF k):=by rw[a];exact HB.z
  have aa:=zb E;clear E a;go_wp2_with fail;go_ret;exact⟨_,rfl,ae.z k _ _ HF.z aa.z⟩
def Eo(F:FuncId):Prop:=∀a w,(callFunc F a).run prog w=.ok (.enter F a) w
def Ig(w:rq)(b:Nat)(a c d:rt):Prop:=w b=some a/\w (b,1)=some c/\w (b,2)=some d
variable{S:Nat->Prop}{b:Nat}{rv:rt}
def Ig.mod{d e:rt}(h:Ig w b d rv e)(m:DO S w w')(c:¬S b):Ig w' b d rv e :=
 ⟨m.cell (a:=b) c h.1,m.cell (a:=U b 1) c h.2.1,m.cell (a:=U b 2) c h.2.2⟩
def D7(F:FuncId):rt:=.func (.func F) #[] #[]
def MP(w:rq)(a c d:rt)(e:Ending)(w':rq):Prop:=∃b,e=.returned (.pointer (some ⟨b,0,none⟩))/\Ig w' b a c d/\DO DQ w w'/\w.heap.size<=b
def KI(w:rq)(t:UInt8)(e:Ending)(w':rq):Prop:=∃b c a,e=.returned (.pointer (some ⟨b,0,none⟩))/\Ig w' b (.func (.func 213) #[] #[.pointer (some ⟨c,0,none⟩),.pointer (some ⟨a,0,none⟩)]) (.func (.func 214) #[] #[.pointer (some ⟨a,0,none⟩)]) (D7 172)/\Gc w' c a t/\DO DQ w w'/\w.heap.size<=b/\w.heap.size<=c/\w.heap.size<=a
def Ve(t:UInt8)(w:rq):rT 185 #[.int .u8 (t.toNat:Int),.func (.func 186) #[] #[]] w λe w'=>e=.returned (.agg #[.func (.func 213) #[] #[.pointer w,.pointer (w.heap.size+1,0)],.func (.func 214) #[] #[.pointer (w.heap.size+1,0)],.func (.func 172) #[] #[]]) /\
  w'=((w.alloc<|.cells #[.int .u8 (t.toNat:Int)] 5).alloc<|.cells #[.func (.func 186) #[] #[]] 284).alloc (.cells #[.func (.func 213) #[] #[.pointer w,.pointer (w.heap.size+1,0)],.func (.func 214) #[] #[.pointer (w.heap.size+1,0)],.func (.func 172) #[] #[]] 241):=by
 go_enter func185,ntmps185;go_wp2_with fail;exact bodyPost_ret (by simp[results,results185,go_sem]) rfl ⟨rfl,rfl⟩
def Nq(w:rq):rT 131 #[.int .i64 1] w (MP w (D7 170) (D7 171) (D7 172)):=by
 go_enter func131,ntmps131;go_wp2_with fail;go_ret;exact⟨w,rfl,⟨by simp[D7],by simp[D7],by simp[D7]⟩,rp.alloc _,AF _⟩
def Np(w:rq):rT 131 #[.int .i64 2] w (MP w (D7 173) (D7 174) (D7 175)):=by
 go_enter func131,ntmps131;go_wp2_with fail;go_ret;exact⟨w,rfl,⟨by simp[D7],by simp[D7],by simp[D7]⟩,rp.alloc _,AF _⟩
def No(w:rq):rT 131 #[.int .i64 3] w (MP w (D7 176) (D7 177) (D7 179)):=by
 go_enter func131,ntmps131;go_wp2_with fail;go_ret;exact⟨w,rfl,⟨by simp[D7],by simp[D7],by simp[D7]⟩,rp.alloc _,AF _⟩
def Nn(w:rq):rT 131 #[.int .i64 4] w (MP w (D7 180) (D7 182) (D7 184)):=by
 go_enter func131,ntmps131;go_wp2_with fail;go_ret;exact⟨w,rfl,⟨by simp[D7],by simp[D7],by simp[D7]⟩,rp.alloc _,AF _⟩
def Nl(w:rq):rT 131 #[.int .i64 6] w (MP w (D7 187) (D7 188) (D7 172)):=by
 go_enter func131,ntmps131;go_wp2_with fail;go_ret;exact⟨w,rfl,⟨by simp[D7],by simp[D7],by simp[D7]⟩,rp.alloc _,AF _⟩
def Nk(w:rq):rT 131 #[.int .i64 7] w (MP w (D7 189) (D7 190) (D7 172)):=by
 go_enter func131,ntmps131;go_wp2_with fail;go_ret;exact⟨w,rfl,⟨by simp[D7],by simp[D7],by simp[D7]⟩,rp.alloc _,AF _⟩
def T7(w:rq)(o d:Obj)(t:UInt8)(z:Int)(T c:Nat)(e:z=(t.toNat:Int)):Gc ((((w.alloc o).alloc (.cells #[.int .u8 z] T)).alloc (.cells #[.func (.func 186) #[] #[]] c)).alloc d) (w.heap.size+1) (w.heap.size+1+1) t:=by
 subst e;have d:(w.alloc o).heap.size=w.heap.size+1:=lm;have e:((w.alloc o).alloc<|.cells #[.int .u8 (t.toNat:Int)] T).heap.size=w.heap.size+1+1:=lm;have c1:((w.alloc o).alloc<|.cells #[.int .u8 (t.toNat:Int)] T) (w.heap.size+1,0)=some (.int .u8 (t.toNat:Int)):=by rw[<-d];exact za (heap_alloc_new _ _) rfl
 have c2:(((w.alloc o).alloc<|.cells #[.int .u8 (t.toNat:Int)] T).alloc<|.cells #[.func (.func 186) #[] #[]] c) (w.heap.size+1+1,0)=some (.func (.func 186) #[] #[]):=by rw[<-e];exact za (heap_alloc_new _ _) rfl
 exact⟨(((DO.refl DQ _).alloc _).alloc _).cell (a:=⟨_,0,none⟩) id c1,((DO.refl DQ _).alloc _).cell (a:=⟨_,0,none⟩) id c2⟩
def Nm(w:rq):rT 131 #[.int .i64 5] w (KI w 16):=by
 go_enter func131,ntmps131;go_wp2_with (go_at_call 185;refine(Ve 16 _).mono ?_;rintro e w' ⟨rfl,rfl⟩);go_ret;refine⟨w.heap.size,w.heap.size+1,w.heap.size+1+1,rfl,?_,?_,?_,AF _,I,I⟩
 .have d:∀(a b c:rt),Ig (w.alloc<|.cells #[a,b,c] 241) w.heap.size a b c:=λa b c=>⟨za (heap_alloc_new w _) rfl,za (heap_alloc_new w _) rfl,za (heap_alloc_new w _) rfl⟩
  exact(d _ _ _).mod ((((DO.refl DQ _).alloc _).alloc _).alloc _) rk
 .exact T7 w _ _ _ _ _ _ rfl
 exact(((rp.alloc _).alloc _).alloc _).alloc _
def Nj(w:rq):rT 131 #[.int .i64 8] w (KI w 28):=by
 go_enter func131,ntmps131;go_wp2_with (go_at_call 185;refine(Ve 28 _).mono ?_;rintro e w' ⟨rfl,rfl⟩);go_ret;refine⟨w.heap.size,w.heap.size+1,w.heap.size+1+1,rfl,?_,?_,?_,AF _,I,I⟩
 .have d:∀(a b c:rt),Ig (w.alloc<|.cells #[a,b,c] 241) w.heap.size a b c:=λa b c=>⟨za (heap_alloc_new w _) rfl,za (heap_alloc_new w _) rfl,za (heap_alloc_new w _) rfl⟩
  exact(d _ _ _).mod ((((DO.refl DQ _).alloc _).alloc _).alloc _) rk
 .exact T7 w _ _ _ _ _ _ rfl
 exact(((rp.alloc _).alloc _).alloc _).alloc _
def Ni(k:Int)(a:k<1\/8<k)(w:rq):rT 131 #[[k]] w λe w'=>e=.returned (.pointer none)/\DO DQ w w':=by
 have a:(k==1)=false:=ls;have a:(k==2)=false:=ls;have a:(k==3)=false:=ls;have a:(k==4)=false:=ls;have a:(k==5)=false:=ls;have a:(k==6)=false:=ls;have a:(k==7)=false:=ls;have a:(k==8)=false:=ls;go_enter func131,ntmps131;go_wp2_with fail;go_ret;exact⟨rfl,rp.alloc _⟩
def Io(p:rt)(w:rq):rT 172 #[p] w (Ix w true):=by
 go_enter func172,ntmps172;go_wp2_with fail;go_ret;exact⟨rfl,DO.refl _ _⟩
def SH(b:Nat)(f:DV)(a:rt)(w:rq)(c:zl w b f a):rT 179 #[(b,0)] w (Ix w (decide (f.rel<=f.off))):=by
 obtain⟨c0,c1,c2,c3,c4,a,d,e,f,h⟩:=c.cells;go_enter func179,ntmps179;go_wp2_with fail;go_quiet (fail);go_wp2_with fail;go_ret;exact⟨rfl,rp.drewN _⟩
def SG(b:Nat)(f:DV)(a:rt)(w:rq)(c:zl w b f a)(d:f.off<=4611686018427387903)(hd:f.data.length<=4611686018427387903):rT 184 #[(b,0)] w (Ix w (decide (f.data.length+f.off<=4611686018427387903))):=by
 obtain⟨c0,c1,c2,c3,c4,a,d,e,h,l⟩:=c.cells;have a:=zG f.data;have a:=wu (4611686018427387903-(f.off:Int)) I;have a:IntKind.u64.wrap (f.data.length:Int)=(f.data.length:Int):=by rw[IntKind.wrap_u64];omega
 have a:AA (decide ((f.data.length:Int)<=4611686018427387903-(f.off:Int))=decide (f.data.length+f.off<=4611686018427387903)):=by
  show _=_;rw[DA];omega
 go_enter func184,ntmps184;go_wp2_with fail;go_quiet (fail);go_wp2_with fail;go_ret;exact⟨by rw[<-a.z];rfl,rp.drewN _⟩
def nums(f:DV):List Nat:=[f.off,f.rel,f.mF,f.id,f.dl]
def Ec(f:DV):Bool:=(nums f).all λn=>decide (n<=4611686018427387903)
def Jw(f:DV)(k:Nat):Nat:=(nums f).getD k 0
variable{f:DV}{k:Nat}
def j6(a:k<5)(h:4611686018427387903<Jw f k):Ec f=false:=by
 cases hq:Ec f
 .rfl
 unfold Ec at hq;rw[Cp]at hq;have c:Jw f k∈nums f:=by
  unfold Jw;rw[Am,AJ (by simpa [nums]using a)];exact DD _
 have:=hq _ c;simp at this;omega
def iw(h:∀k,k<5->Jw f k<=4611686018427387903):Ec f=true:=by
 have a:=h 0 I;have c:=h 1 I;have d:=h 2 I;have e:=h 3 I;have f:=h 4 I;simp[Jw,nums]at a c d e f;simp[Ec,nums];omega
def Rh(h:Ec f=true):f.off<=4611686018427387903/\f.rel<=4611686018427387903/\f.mF<=4611686018427387903/\f.id<=4611686018427387903/\f.dl<=4611686018427387903:=by
 simpa [Ec,nums]using h
def Eg(f:DV):Bool:=decide (0<=f.stream)&&decide (f.stream<8)
theorem Ut(b a:Nat)(f:DV)(e B E:rt)(G:FuncId)(h:Bool)(w:rq)(d:zl w b f e)(c:Ig w a B E (.func (.func G) #[] #[]))(A:Eo G)
  (B:∀w',DO DQ w w'->Ec f=true->rT G #[.pointer b] w' (Ix w' h)) :
  rT 132 #[(b,0),(a,0)] w (Ix w<|Ec f&&Eg f&&h):=by
 have h:=zm d.cells.1;have E:∀a w,(callFunc G a).run prog w=.ok (.enter G a) w:=A;have HG:=zb B;clear B A;go_enter func132,ntmps132;go_wp2_with fail;refine zn 23 (λw'=>zl w' b f e) (d) ?_;refine GI 0 ?_;iterate 20
  refine GV rfl ?_;try simp only[PS]
 refine GI 22 ?_;refine GV rfl ?_;try simp only[PS]
 refine zz 20 rfl (λK T=>?_);go_simp;refine T.z _ _ ?_ ?_
 .exact zl.mod (w:=w.drew) (S:=DQ) d (rp.alloc _) rk
 clear T K;try simp only[PS]
 refine GI 21 ?_;refine GV rfl ?_;try simp only[PS]
 refine zq ?_;obtain⟨X,a⟩:=nm<|(w.alloc<|.cells #[f.off,f.rel,f.mF,f.id,f.dl] 43).drew;have e:DO DQ w X:=by rw[<-a];exact(rp.alloc _).drew
 have s:∀k,k<5->X ⟨w.heap.size,k,none⟩=some (.int .u64 (Jw f k:Int)):=λk Y=>by
  rw[<-a];refine za (heap_alloc_new w _) ?_
  match k,Y with
  | 0,_=>rfl
  | 1,_=>rfl
  | 2,_=>rfl
  | 3,_=>rfl
  | 4,_=>rfl
 rw[a];have A:=d.mod e rk;have B:=(c.mod e rk).2.2;have c1:=A.cells.2.1;clear a d c A h;have l:=zb e;clear e;go_wp2_with fail
 go_loop [6,29] (λ_ i=>∃k:Nat,k<=5/\i=.int .i64 k/\AA (∀j,j<k->Jw f j<=4611686018427387903)) (λ_ i=>5-(intOf i).toNat)
 case atStart=>exact⟨0,I,rfl,zb<|λj t=>absurd t<|A6 j⟩
 case round =>
  obtain⟨k,Y,rfl,u⟩:=hrel;by_cases d:k<5
  .have c:=s k d;obtain⟨n,a⟩:=nm<|Jw f k;rw[a]at c;have c:=zb a;clear s a;by_cases a:4611686018427387903<n
   .have e:=zb (j6 d (by rw[c.z];exact a));have a:(4611686018427387903:Int)<n:=I;go_wp2_with fail;go_ret;exact⟨by rw[e.z];rfl,l.z⟩
   have a:¬(4611686018427387903:Int)<n:=I;go_wp2_with fail
   go_round
   case rel=>exact⟨k+1,I,by go_num,zb (λj t=>by
    by_cases h:j<k
    .exact u.z j h
    have:j=k:=I;rw[this,c.z];omega)⟩
   simp[intOf];omega
  have d:k=5:=I;have a:=iw (f:=f)<|λj t=>u.z j I;have v:=zb a;have c:=HG.z X l.z a;clear a s d u;by_cases o:0<=f.stream
  .by_cases q:f.stream<8
   .have p:AA (Eg f=true):=by show _=_;simp[Eg,o,q]
    have Z:decide (0<=f.stream)=true:=rB o;have e2:decide (f.stream<8)=true:=rB q;go_wp2_with (refine c.mono ?_;rintro e w' ⟨rfl,z⟩);go_ret;exact⟨by rw[v.z,p.z,Bh,Bh];rfl,l.z.trans z⟩
   have p:AA (Eg f=false):=by show _=_;simp[Eg,q]
   have Z:decide (0<=f.stream)=true:=rB o;have e2:decide (f.stream<8)=false:=rB q;go_wp2_with fail;go_ret;exact⟨by rw[v.z,p.z,Bh,Bool.false_and];rfl,l.z⟩
  have p:AA (Eg f=false):=by show _=_;simp[Eg,o]
  have Z:decide (0<=f.stream)=false:=rB o;go_wp2_with fail;go_ret;exact⟨by rw[v.z,p.z,Bh,Bool.false_and];rfl,l.z⟩
def Ds.after{Y:rq}(m:DO DQ w Y)(h:Ds Y v l new v' w'):Ds w v l new v' w' :=
 ⟨h.own,h.mL,⟨h.grown.os.trans m.os,h.grown.tape.trans m.tape,h.grown.output.trans m.output,AK m.size h.grown.size,λi a c=>(h.grown.block i (A7 a m.size) c).trans<|m.block i a rk⟩,λi a=>(h.at_ i a).imp id<|λq=>AK m.size q⟩
def I5(f:DV)(d:rt)(l new:rC)(h:Bool)(w:rq)(e:Ending)(w':rq):Prop :=
 ∃b F a G c,e=.returned (.pointer<|some ⟨b,0,none⟩)/\Ig w' b (.func (.func F) #[] a) c (.func (.func G) #[] #[])/\Eo F/\Eo G/\DO DQ w w' /\
  (∀Y c,DO DQ w' Y->zl Y c f d->Ec f=true->rT G #[.pointer (some ⟨c,0,none⟩)] Y (Ix Y h)) /\
  (∀Y v c,DO DQ w' Y->zl Y c f d->OB Y v l->(∀g,v.ownBlock=some g->g<w.heap.size)->(0<f.lF.length->Dj (λk=>v.ownBlock=some k) d)->(Ec f&&Eg f&&h)=true->rT F (#[v,.pointer (some ⟨c,0,none⟩)]++a) Y (IV Y v l new))
def O0(w:rq)(v:rt)(l:rC)(ok:Bool)(new:rC)(e:Ending)(w':rq):Prop :=
 (ok=true/\IV w v l new e w')\/(ok=false/\e=.returned (.slice none 0 0)/\DO DQ w w')
def Jn(v:rt)(l:rC)(f:DV)(o:rt)(new:rC)(N:Bool)(w:rq)(h:OB w v l)(p:0<f.lF.length->Dj (λk=>v.ownBlock=some k) o)
  (A:∀B,DO DQ w B->rT 131 #[[f.kind]] B (I5 f o l new N B)) :
  rT 144 #[v,.agg (zj f o)] w (O0 w v l (Ec f&&Eg f&&N) new):=by
 have l:DO DQ w (w.alloc<|.cells (zj f o) 65):=rp.alloc _;have d:zl (w.alloc<|.cells (zj f o) 65) w.heap.size f o:=heap_alloc_new w _;have c0:=d.cells.1;have c:=A _ l;have E:=Pt h;have q:=zb p;obtain⟨X,hX⟩:=nm<|w.alloc<|.cells (zj f o) 65;rw[hX]at c d c0 l;have O:=l.size;have HH:=zb h;have T:=zb d;have s:=zb l;have Y:=zb E;clear h A p d l E;obtain⟨ok,t⟩:=nm<|(Ec f&&Eg f&&N);have K:=zb t;rw[t];unfold zj at hX ⊢;cases ok;all_goals
  clear t;go_enter func144,ntmps144;go_wp2_with fail;refine c.mono ?_;rintro e B ⟨b,F,d,G,ev,rfl,Z,hF,hG,m1,hs,hw⟩;have h:=T.z.mod m1 rk;have a:=Ut w.heap.size b f o _ ev G N B h Z hG<|λw' m d=>hs w' _ m (h.mod m rk) d;rw[K.z]at a;have Hc:=zb Z;have u:=zb m1;have Hw:=zb hw;have aa:=zb h;have f:∀d w,(callFunc F d).run prog w=.ok (.enter F d) w:=hF;clear Z m1 hw hs h hG hF c;go_wp2_with fail;refine a.mono ?_;rintro e w2 ⟨rfl,z⟩;clear a
 .go_wp2_with fail;go_ret;exact .inr ⟨rfl,rfl,(s.z.trans u.z).trans z⟩
 have a:=(Hc.z.mod z rk).1;have a:=Hw.z w2 v w.heap.size z (aa.z.mod z rk) (((HH.z.lK s.z).lK u.z).lK z) (λg c=>A7 (Y.z g c) O) q.z K.z;have ab:=zb z;clear z;go_wp2_with fail;refine a.mono ?_;rintro e a ⟨c,rfl,ha⟩;have a:=zb ha;clear ha;go_wp2_with fail;go_ret;exact .inl ⟨rfl,_,rfl,Ds.after ((s.z.trans u.z).trans ab.z) a.z⟩
def zR(f:DV):Bool :=
 if f.kind=2 then E4 f.lF
 else if f.kind=3 then decide (f.rel<=f.off)
 else if f.kind=4 then decide (f.data.length+f.off<=4611686018427387903)
 else decide (1<=f.kind)&&decide (f.kind<=8)
def Dx(f:DV):Bool:=Ec f&&Eg f&&zR f
def zC(f:DV):rC :=
 if f.kind=1 then [1]
 else if f.kind=2 then Gn f
 else if f.kind=3 then Je f
 else if f.kind=4 then(if f.fin then Jj f else Jc f)
 else if f.kind=5 then Hs 16 f
 else if f.kind=6 then Jl f
 else if f.kind=7 then Jd f
 else Hs 28 f
def Kq{a:Bool}(h:(Ec f&&Eg f&&a)=true)(hd:f.data.length<=35184372088832):f.Bounds:=by
 simp only[AZ]at h;obtain⟨⟨l,f⟩,_⟩:=h;obtain⟨a,b,c,d,e⟩:=Rh l;simp only[Eg,AZ,Ah]at f;exact⟨f.1,f.2,I,I,I,I,I,hd⟩
def Fv {F : FuncId} {d : Func} {c : Code} (e : prog.funcs[F]? = some d) (a : (d.name == "runtime.NumGoroutine") = false) (hb : d.body = some c) : Eo F := λc w => O8 e a hb c w
def Ik:Eo 172:=Fv func172 kw rfl
def T6:Eo 213:=Fv func213 kw rfl
def cv:Eo 170:=Fv func170 kw rfl
def cq:Eo 189:=Fv func189 kw rfl
def co:Eo 176:=Fv func176 kw rfl
def T5:Eo 179:=Fv func179 kw rfl
def ck:Eo 180:=Fv func180 kw rfl
def T4:Eo 184:=Fv func184 kw rfl
def ci:Eo 187:=Fv func187 kw rfl
def T3:Eo 175:=Fv func175 kw rfl
def cZ:Eo 173:=Fv func173 kw rfl
def cY(f:DV)(a:rt)(l:rC)(w:rq)(c:f.kind=1)(e:RR w a f.lF)(p:f.lF.length<=1099511627776)(hd:f.data.length<=35184372088832)(d:l.length<=35184372088832):rT 131 #[[f.kind]] w (I5 f a l ([1]) (true) w):=by
 rw[c];refine(Nq w).mono ?_;rintro e w' ⟨b,rfl,h,o,hb⟩;refine⟨b,170,#[],172,_,rfl,h,cv,Ik,o,λY a m c e=>Io _ Y,λY v a m c e f c h=>?_⟩;exact K9 v l a Y e d
def cX(f:DV)(d:rt)(l:rC)(w:rq)(a:f.kind=2)(p:RR w d f.lF)(q:f.lF.length<=1099511627776)(hd:f.data.length<=35184372088832)(s:l.length<=35184372088832):rT 131 #[[f.kind]] w (I5 f d l (Gn f) (E4 f.lF) w):=by
 rw[a];refine(Np w).mono ?_;rintro e w' ⟨b,rfl,c,h,hb⟩;refine⟨b,173,#[],175,_,rfl,c,cZ,T3,h,λY e m o a=>Vt e f d Y o (p.mod (h.trans m)<|Dj.no _) q,λY v e m o t u c a=>?_⟩;exact K8 v l e f d Y o (p.mod (h.trans m)<|Dj.no _) (by simp only[AZ]at a;exact a.2) q (c<|by simp only[AZ,E4,Ah]at a;exact a.2.2) t s
def cW(f:DV)(a:rt)(l:rC)(w:rq)(c:f.kind=3)(e:RR w a f.lF)(p:f.lF.length<=1099511627776)(hd:f.data.length<=35184372088832)(o:l.length<=35184372088832):rT 131 #[[f.kind]] w (I5 f a l (Je f) (decide (f.rel<=f.off)) w):=by
 rw[c];refine(No w).mono ?_;rintro e w' ⟨b,rfl,d,h,hb⟩;refine⟨b,176,#[],179,_,rfl,d,co,T5,h,λY c m d e=>SH c f a Y d,λY v c m d p q h e=>?_⟩;exact K7 v l c f a Y d p o<|Kq e hd
def cV(f:DV)(a:rt)(l:rC)(w:rq)(e:f.kind=4)(t:RR w a f.lF)(u:f.lF.length<=1099511627776)(hd:f.data.length<=35184372088832)(o:l.length<=35184372088832):rT 131 #[[f.kind]] w (I5 f a l (if f.fin then Jj f else Jc f) (decide (f.data.length+f.off<=4611686018427387903)) w):=by
 rw[e];refine(Nn w).mono ?_;rintro e w' ⟨b,rfl,q,s,hb⟩;refine⟨b,180,#[],184,_,rfl,q,ck,T4,s,λY d m h e=>SG d f a Y h (Rh e).1 I,λY v d m h p q e c=>?_⟩;cases hfin:f.fin
 .exact K6 v l d f a Y h p o (Kq c hd) hfin
 exact Xq v l d f a Y h p o (Kq c hd) hfin
def cU(f:DV)(d:rt)(l:rC)(w:rq)(c:f.kind=5)(e:RR w d f.lF)(t:f.lF.length<=1099511627776)(hd:f.data.length<=35184372088832)(p:l.length<=35184372088832):rT 131 #[[f.kind]] w (I5 f d l (Hs 16 f) (true) w):=by
 rw[c];refine(Nm w).mono ?_;rintro e w' ⟨b,q,s,rfl,h,a,o,hb,c,t⟩;refine⟨b,_,_,172,_,rfl,h,T6,Ik,o,λY h _ _ _=>Io _ Y,λY v h m t u c o e=>?_⟩;exact Uu v l h q s _ f d Y t (a.mod m rk rk) (λa=>pp<|c _ a) (λa=>pp<|c _ a) u p<|Kq e hd
def cT(f:DV)(a:rt)(l:rC)(w:rq)(c:f.kind=6)(e:RR w a f.lF)(p:f.lF.length<=1099511627776)(hd:f.data.length<=35184372088832)(o:l.length<=35184372088832):rT 131 #[[f.kind]] w (I5 f a l (Jl f) (true) w):=by
 rw[c];refine(Nl w).mono ?_;rintro e w' ⟨b,rfl,d,h,hb⟩;refine⟨b,187,#[],172,_,rfl,d,ci,Ik,h,λY d m e c=>Io _ Y,λY v d m e p q h c=>?_⟩;exact K5 v l d f a Y e p o<|Kq c hd
def cS(f:DV)(a:rt)(l:rC)(w:rq)(c:f.kind=7)(e:RR w a f.lF)(p:f.lF.length<=1099511627776)(hd:f.data.length<=35184372088832)(o:l.length<=35184372088832):rT 131 #[[f.kind]] w (I5 f a l (Jd f) (true) w):=by
 rw[c];refine(Nk w).mono ?_;rintro e w' ⟨b,rfl,d,h,hb⟩;refine⟨b,189,#[],172,_,rfl,d,cq,Ik,h,λY d m e c=>Io _ Y,λY v d m e p q h c=>?_⟩;exact K4 v l d f a Y e p o<|Kq c hd
def cR(f:DV)(d:rt)(l:rC)(w:rq)(c:f.kind=8)(e:RR w d f.lF)(t:f.lF.length<=1099511627776)(hd:f.data.length<=35184372088832)(p:l.length<=35184372088832):rT 131 #[[f.kind]] w (I5 f d l (Hs 28 f) (true) w):=by
 rw[c];refine(Nj w).mono ?_;rintro e w' ⟨b,q,s,rfl,h,a,o,hb,c,t⟩;refine⟨b,_,_,172,_,rfl,h,T6,Ik,o,λY h _ _ _=>Io _ Y,λY v h m t u c o e=>?_⟩;exact Uu v l h q s _ f d Y t (a.mod m rk rk) (λa=>pp<|c _ a) (λa=>pp<|c _ a) u p<|Kq e hd
def gY(v:rt)(l:rC)(f:DV)(d:rt)(w:rq)(p:f.kind<1\/8<f.kind)(s:∃a n c,v=.slice a n c):rT 144 #[v,.agg (zj f d)] w λe w'=>e=.returned (.slice none 0 0)/\DO DQ w w':=by
 have c0:(w.alloc<|.cells (zj f d) 65) w=some (.int .i64 f.kind):=za (heap_alloc_new w _) rfl;have l:DO DQ w (w.alloc<|.cells (zj f d) 65):=rp.alloc _;have h:=Ni f.kind p<|w.alloc<|.cells (zj f d) 65;obtain⟨X,q⟩:=nm<|w.alloc<|.cells (zj f d) 65;rw[q]at h l c0;have o:=zb l;clear l p;obtain⟨a,n,c,rfl⟩:=s;unfold zj at q ⊢;go_enter func144,ntmps144;go_wp2_with fail;refine h.mono ?_;rintro e a ⟨rfl,t⟩;go_wp2_with fail;go_ret;exact⟨rfl,o.z.trans t⟩
def RJ(v:rt)(l:rC)(f:DV)(o:rt)(w:rq)(h:OB w v l)(d:0<f.lF.length->Dj (λk=>v.ownBlock=some k) o)(q:RR w o f.lF)(s:f.lF.length<=1099511627776)(hd:f.data.length<=35184372088832)(t:l.length<=35184372088832):rT 144 #[v,.agg (zj f o)] w (O0 w v l (Dx f) (zC f)):=by
 by_cases p:f.kind<1\/8<f.kind
 .have u:Dx f=false:=by
   have:zR f=false:=by
    unfold zR;rw[AH I,AH I,AH I];simp;omega
   rw[Dx,this,Bool.and_false]
  refine(gY v l f o w p (by obtain⟨a,c,rfl,_⟩:=zk h;exact⟨a,_,c,rfl⟩)).mono ?_;rintro e w' ⟨rfl,z⟩;exact .inr ⟨u,rfl,z⟩
 have a:f.kind=1\/f.kind=2\/f.kind=3\/f.kind=4\/f.kind=5\/f.kind=6\/f.kind=7\/f.kind=8:=I;rcases a with e|e|e|e|e|e|e|e
 .have a:zC f=[1]:=by simp[zC,e]
  have c:zR f=(true):=by simp[zR,e]
  rw[Dx,a,c];exact Jn v l f o _ _ w h d<|λp m=>cY f o l p e (q.mod m<|Dj.no _) s hd t
 .have a:zC f=Gn f:=by simp[zC,e]
  have c:zR f=(E4 f.lF):=by simp[zR,e]
  rw[Dx,a,c];exact Jn v l f o _ _ w h d<|λp m=>cX f o l p e (q.mod m<|Dj.no _) s hd t
 .have a:zC f=Je f:=by simp[zC,e]
  have c:zR f=(decide<|f.rel<=f.off):=by simp[zR,e]
  rw[Dx,a,c];exact Jn v l f o _ _ w h d<|λp m=>cW f o l p e (q.mod m<|Dj.no _) s hd t
 .have a:zC f=if f.fin then Jj f else Jc f:=by simp[zC,e]
  have c:zR f=(decide<|f.data.length+f.off<=4611686018427387903):=by simp[zR,e]
  rw[Dx,a,c];exact Jn v l f o _ _ w h d<|λp m=>cV f o l p e (q.mod m<|Dj.no _) s hd t
 .have a:zC f=Hs 16 f:=by simp[zC,e]
  have c:zR f=(true):=by simp[zR,e]
  rw[Dx,a,c];exact Jn v l f o _ _ w h d<|λp m=>cU f o l p e (q.mod m<|Dj.no _) s hd t
 .have a:zC f=Jl f:=by simp[zC,e]
  have c:zR f=(true):=by simp[zR,e]
  rw[Dx,a,c];exact Jn v l f o _ _ w h d<|λp m=>cT f o l p e (q.mod m<|Dj.no _) s hd t
 .have a:zC f=Jd f:=by simp[zC,e]
  have c:zR f=(true):=by simp[zR,e]
  rw[Dx,a,c];exact Jn v l f o _ _ w h d<|λp m=>cS f o l p e (q.mod m<|Dj.no _) s hd t
 have a:zC f=Hs 28 f:=by simp[zC,e]
 have c:zR f=(true):=by simp[zR,e]
 rw[Dx,a,c];exact Jn v l f o _ _ w h d<|λp m=>cR f o l p e (q.mod m<|Dj.no _) s hd t
def IF(w:rq)(v:rt)(e:List (DV×rt)):Prop :=
 ∃a c,v=.slice a e.length c/\e.length<=c/\c<=maxLen/\∀i d,e[i]?=some d ->
  (∃g o,a=some ⟨g,o,none⟩/\∀j x,(zj d.1 d.2)[j]?=some x->w ⟨g,o+i*10+j,none⟩=some x)/\RR w d.2 d.1.lF
def IF.mod{c:List (DV×rt)}(h:IF w v c)(m:DO S w w')(l:Dj S v)(p:∀fr∈c,Dj S fr.2):IF w' v c:=by
 obtain⟨a,d,rfl,q,s,t⟩:=h;refine⟨a,d,rfl,q,s,λi fr f=>?_⟩;obtain⟨⟨g,o,rfl,u⟩,e⟩:=t i fr f;exact⟨⟨g,o,rfl,λj x c=>m.cell (a:=⟨g,_,none⟩) (l g o _ _ rfl)<|u j x c⟩,e.mod m<|p fr<|AW f⟩
def IF.lK{a:List (DV×rt)}(h:IF w v a)(m:DO DQ w w'):IF w' v a:=h.mod m (Dj.no _) (λ_ _=>Dj.no _)
def Ds.lK(h:Ds w ru l new v' w'):DO DQ w w':=h.mod.mono (λi a=>by cases a)
def nW(l:rC):rC:=l++EP (Dy l)
def Ji(h:∀j x,(zj f rv)[j]?=some x->w ⟨g,b+j,none⟩=some x):w (g,b)=some (.int .i64 f.kind)/\w (g,b+1)=some (.int .i64 f.stream)/\w (g,b+2)=some (.int .u64 f.off)/\w (g,b+3)=some (.int .u64 f.rel)/\w (g,b+4)=some (.int .u64 f.mF) /\
  w (g,b+5)=some (.bool f.fin)/\w (g,b+6)=some (.int .u64 f.id)/\w (g,b+7)=some (.int .u64 f.dl)/\w (g,b+8)=some (.string<|zu f.data)/\w (g,b+9)=some rv :=
 ⟨h 0 _ rfl,h 1 _ rfl,h 2 _ rfl,h 3 _ rfl,h 4 _ rfl,h 5 _ rfl,h 6 _ rfl,h 7 _ rfl,h 8 _ rfl,h 9 _ rfl⟩
def EA:Ending:=.panicked [{ v:=.iface 230 (.agg #[]),recovered:=false }]
def EH(w:rq)(c:Nat)(v:rt)(a:Nat):Prop:=w.heap[c]?=some (.cells #[v,[a]] 229 (0,0))
variable{pos rb:Nat}
def EH.mod(h:EH w rb v pos)(m:DO S w w')(a:¬S rb):EH w' rb v pos:=m.obj a h
def EH.c0(h:EH w rb v pos):w rb=some v:=za h rfl
def EH.c1(h:EH w rb v pos):w (rb,1)=some (.int .i64 pos):=za h rfl
def BR.mod(h:BR w v l)(m:DO S w w')(e:Dj S v):BR w' v l:=by
 obtain⟨a,d,rfl,f,p,q⟩:=h;refine⟨a,d,rfl,f,p,λi c s=>?_⟩;obtain⟨g,o,rfl,t⟩:=q i c s;exact⟨g,o,rfl,m.cell (a:=⟨g,_,none⟩) (e g o _ _ rfl) t⟩
def ES(a:Nat):Nat->Prop:=λk=>k=a
def Jh(p:rt)(w:rq):rT 128 #[p] w λe w'=>e=EA/\w=w':=by
 go_enter func128,ntmps128;go_wp2_with fail;exact ri
variable{cs:Array rt}{fz:Nat×Nat}{t:Nat}
def zc(h:w.heap[b]?=some (.cells cs t fz)):(w.setCell (b,i) v).heap[b]?=some (.cells (cs.setIfInBounds i v) t fz):=by
 simp[World.setCell,CF,h]
variable{a:rE}{bs:rC}{cap:Nat}
def BR.sub{n:Nat}(h:BR w (.slice a bs.length cap) bs)(e:pos+n<=bs.length):BR w (.slice (a.map λx=>x.add pos) n (cap-pos)) ((bs.drop pos).take n):=by
 obtain⟨s,e,f,t,l,p⟩:=h;cases f;have e:((bs.drop pos).take n).length=n:=ls;refine⟨a.map λx=>x.add pos,cap-pos,by rw[e],I,by unfold maxLen at l ⊢;omega,λi c d=>?_⟩;have a:i<n:=by
  have:=(AO.1 d).1;omega
 rw[CD,AM a,BA]at d;obtain⟨g,o,rfl,q⟩:=p (pos+i) c d;refine⟨g,o+pos,?_,?_⟩
 .simp only[A5,zX]
 rw[Nat.add_assoc];exact q
def BR.nil(w:rq)(a:rE)(c:Nat)(h:c<=maxLen):BR w (.slice a 0 c) []:=⟨a,c,rfl,AN _,h,λi c a=>by simp at a⟩
def SF(a:Nat)(w:rq)(e:Ending)(w':rq):Prop:=e=EA/\DO (ES a) w w'
def QL(a n c:Nat)(z:Int)(d:z=(n:Int))(v:rt)(bs:rC)(w:rq)(h:EH w a v c)(hb:BR w v bs)(o:c<=bs.length)(p:bs.length-c<n):rT 129 #[(a,0),z] w (SF a w):=by
 subst d;obtain⟨a,d,rfl,o,e,l⟩:=hb;unfold maxLen at e;have c0:=h.c0;have c1:=h.c1;have a:IntKind.i64.wrap ((bs.length:Int)-c)=(bs.length:Int)-c:=IntWalk.i64_in _ I;have a:=wu ((bs.length:Int)-c) I;have d:(bs.length:Int)-c<n:=I;clear l h;go_enter func129,ntmps129;go_wp2_with fail;go_quiet (fail);go_wp2_with (go_at_call 128;refine(Jh _ _).mono ?_;rintro e w' ⟨f,rfl⟩;unfold EA at f;subst f);exact⟨rfl,rfl,rp.drewN _⟩
def Od(f n c:Nat)(z:Int)(o:z=(n:Int))(v:rt)(bs:rC)(w:rq)(h:EH w f v c)(hb:BR w v bs)(E:Dj (ES f) v)(K:c+n<=bs.length):rT 129 #[(f,0),z] w λe w'=>∃d,e=.returned d/\BR w' d ((bs.drop c).take n)/\EH w' f v (c+n)/\DO (ES f) w w':=by
 subst o;obtain⟨a,l,rfl,d,N,O⟩:=id hb;unfold maxLen at N;have c0:=h.c0;have c1:=h.c1;have d:IntKind.i64.wrap ((bs.length:Int)-c)=(bs.length:Int)-c:=IntWalk.i64_in _ I;have d:=wu ((bs.length:Int)-c) I;have d:IntKind.i64.wrap (n:Int)=(n:Int):=IntWalk.i64_in _ I;have d:IntKind.i64.wrap ((c:Int)+n)=(c:Int)+n:=IntWalk.i64_in _ I;have d:¬((bs.length:Int)-c<n):=I;have e:w.frozen? ⟨f,1,none⟩=false:=zg h;clear O;have H:=zb h;have v:=zb hb;clear h hb;go_enter func129,ntmps129;go_wp2_with fail;go_quiet (fail);go_wp2_with fail;obtain⟨W,d⟩:=nm<|(w.drewN nq).setCell (U f 1)<|.int .i64<|(c:Int)+n;have o:DO (ES f) w W:=by rw[<-d];exact((DO.refl (ES f) w).drewN nq).setCell (p:=U f 1) rj _
 have p:W (f,1)=some (.int .i64<|(c:Int)+n):=by rw[<-d];exact World.cell?_setCell_same _ _ _ c1
 have p:W f=some (.slice a bs.length l):=by rw[<-d,World.cell?_setCell_other _ _ _ _ lm];exact c0
 have s:AA (EH W f (.slice a bs.length l)<|c+n):=by
  show W.heap[f]?=_;rw[<-d,zc (w:=w.drewN nq) H.z];simp
 have HB:=zb<|v.z.mod o E;have t:=zb o;rw[d];clear d o c0 c1 e;have u:IntKind.i64.wrap ((c:Int)+n-n)=(c:Int):=by rw[(I:(c:Int)+n-n=c)];exact IntWalk.i64_in _ I
 have T:((c:Int)+n).toNat=c+n:=I;by_cases A:c=l
 .have q:n=0:=I;subst q;have B:bs.length=c:=I;have a:=zb B;subst A;clear B u T;have u:IntKind.i64.wrap ((c:Int)+((0:Nat):Int)-((0:Nat):Int))=(c:Int):=by rw[(I:(c:Int)+((0:Nat):Int)-((0:Nat):Int)=c)];exact IntWalk.i64_in _ I
  go_quiet (fail);go_wp2_with fail;go_ret;refine⟨_,rfl,?_,s.z.mod (S:=DQ) (rp.drewN _) rk,t.z.drewN _⟩;rw[CU];exact BR.nil _ _ _ lw
 have a:¬l=c:=λh=>A h.symm
 go_quiet (fail);go_wp2_with fail;go_ret;refine⟨_,rfl,?_,s.z.mod (S:=DQ) (rp.drewN _) rk,t.z.drewN _⟩;exact(HB.z.sub K).mod (S:=DQ) (rp.drewN _) (Dj.no _)
def ED(c:UInt8):Nat:=2 ^ (c.toNat / 64)
def GH(c:UInt8)(l:rC):Nat:=l.foldl (λn x=>n*256+x.toNat) (c.toNat % 64)
def Dt(bs:rC)(a:Nat):Option (Nat×Nat) :=
 match bs[a]? with
 | none=>none
 | some c=>if a+ED c<=bs.length then some (GH c<|(bs.drop<|a+1).take<|ED c-1,a+ED c)else none
def hH(c:UInt8)(l:rC)(x:UInt8):GH c (l++[x])=GH c l*256+x.toNat:=by simp[GH]
theorem j4(l:rC):∀n b,n<b->l.foldl (λn x=>n*256+x.toNat) n<b*256 ^ l.length:=by
 induction l with
 | nil=>intro n b h;simpa using h
 | cons x l ih =>
  intro n b h;have a:=x.toNat_lt;have:=ih (n*256+x.toNat) (b*256) I;simp only[List.foldl_cons,AS,Nat.pow_succ];rw[Nat.mul_assoc,AL 256]at this;exact this
def Tz(c:UInt8)(l:rC):GH c l<64*256 ^ l.length:=j4 l _ 64 (Nat.mod_lt _ lc)
def cQ:∀a:Fin 256,bits .and .u8 ((a.val:Nat):Int) 63=((a.val % 64:Nat):Int):=pi
def hC(a b:Nat)(c:a<18446744073709551616)(hb:b<18446744073709551616):bits .or .u64 (a:Int) (b:Int)=((a ||| b:Nat):Int):=by
 have c:a ||| b<2 ^ 64:=Nat.or_lt_two_pow I I;have c:(BitVec.ofInt 64 (a:Int)).toNat=a:=by
  rw[Bs,B4];exact CA I
 have d:(BitVec.ofInt 64 (b:Int)).toNat=b:=by
  rw[Bs,B4];exact CA I
 show IntKind.u64.wrap ((BitVec.ofInt 64 (a:Int) ||| BitVec.ofInt 64 (b:Int)).toNat:Int)=_;rw[BitVec.toNat_or,c,d,IntKind.wrap_u64];omega
def LJ(a c:Nat)(d:c<256):a*256 ||| c=a*256+c:=by
 have:=Nat.two_pow_add_eq_or_of_lt (b:=c) (i:=8) d a;rw[AL]at this;exact this.symm
def LD(a c:Nat)(e:a<72057594037927936)(d:c<256):bits .or .u64 ((a:Int)*256) (c:Int)=((a*256+c:Nat):Int):=by
 have:=hC (a*256) c I I;rw[LJ a c d]at this;rw[<-this];congr 1
def SB(w:rq)(a:Nat)(v:rt)(r:Option (rt×Nat))(e:Ending)(w':rq):Prop :=
 (∃x p,r=some (x,p)/\e=.returned x/\EH w' a v p/\DO (ES a) w w')\/(r=none/\SF a w e w')
def Gq(p d:Nat)(v:rt)(bs:rC)(w:rq)(h:EH w p v d)(hb:BR w v bs)(z:Dj (ES p) v)(hp:d<=bs.length):rT 127 #[(p,0)] w (SB w p v ((Dt bs d).map λq=>(.int .u64 q.1,q.2))):=by
 by_cases A:d<bs.length
 .obtain⟨c,o⟩:∃c,bs[d]?=some c:=⟨bs[d],AJ A⟩;have a:(bs.drop d).take 1=[c]:=by
   rw[List.take_one,List.head?_drop,o];rfl
  have B:=Od p 1 d 1 rfl v bs w h hb z I;rw[a]at B;have q:=c.toNat_lt;have E:=cQ ⟨c.toNat,I⟩;simp only at E;have q:c.toNat / 64=0\/c.toNat / 64=1\/c.toNat / 64=2\/c.toNat / 64=3:=I;have Hq:=zb q;have Hb:=zb hb;have Hc:=zb o;clear h hb q o a;go_enter func127,ntmps127;go_wp2_with fail;refine B.mono ?_;rintro e w1 ⟨sv,rfl,hs,Z,m1⟩;obtain⟨a,o,rfl,_,_,h3⟩:=hs;obtain⟨g,o,rfl,l⟩:=h3 0 c rfl;clear h3 B;simp only[B5]at l;have K:=zb Z;have s:=zb m1;clear Z m1;simp only[AS,Ae];have N:IntKind.u64.wrap (IntKind.u64.wrap (2 ^ (c.toNat / 64))-1)=((ED c-1:Nat):Int):=by
   unfold ED;rcases Hq.z with e|e|e|e<;>rw[e]<;>rfl
  have a:1<=ED c:=Nat.one_le_two_pow;have a:ED c<=8:=by
   unfold ED;rcases Hq.z with e|e|e|e<;>rw[e]<;>decide
  by_cases t:d+ED c<=bs.length
  .have O:=Od p (ED c-1) (d+1) _ N v bs w1 K.z (Hb.z.mod s.z z) z I;have T:((bs.drop<|d+1).take<|ED c-1).length=ED c-1:=ls;have HR:AA (Dt bs d=some (GH c<|(bs.drop<|d+1).take<|ED c-1,d+ED c)):=by
    show _=_;unfold Dt;rw[Hc.z];simp only[AM t]
   obtain⟨f,a⟩:=nm<|(bs.drop<|d+1).take<|ED c-1;rw[a]at O T HR;clear a;have Zv:=zb N;clear N;go_wp2_with fail;refine O.mono ?_;rintro e w2 ⟨sv,rfl,aa,X,m2⟩;have H2:AA (EH w2 p v<|d+ED c):=by
    have e:d+1+(ED c-1)=d+ED c:=I;rw[e]at X;exact X
   have HM:=zb<|s.z.trans m2;obtain⟨q,a,rfl,o,ab,h4⟩:=aa;have a:f.length<=7:=I;unfold maxLen at ab;clear X m2 O T E l Zv;go_wp2_with fail
   go_loop [4,6,21] (λn _ i=>∃k:Nat,k<=f.length/\i=.int .i64 k/\n=.int .u64 (GH c (f.take k):Int)) (λ_ _ i=>f.length-(intOf i).toNat)
   case atStart=>exact⟨0,AN _,rfl,by simp[GH]⟩
   case round =>
    obtain⟨k,a,rfl,rfl⟩:=hrel;by_cases a:k<f.length
    .obtain⟨x,hx⟩:∃x,f[k]?=some x:=⟨f[k],AJ a⟩;obtain⟨l,o,rfl,a⟩:=h4 k x hx;have l:AA (GH c (f.take<|k+1)=GH c (f.take k)*256+x.toNat):=by
      show _=_;rw[Vv f k x hx,hH]
     have a:GH c (f.take k)<72057594037927936:=by
      have Z:=Tz c<|f.take k;have X:(f.take k).length<=6:=by rw[AU];omega
      have h3:256 ^ (f.take k).length<=256 ^ 6:=Nat.pow_le_pow_right I X;have o:64*256 ^ (f.take k).length<=64*256 ^ 6:=Cx _ h3;have q:64*256 ^ 6<=72057594037927936:=lc;exact A7 Z<|AK o q
     obtain⟨m,u⟩:=nm<|GH c<|f.take k;have o:=x.toNat_lt;rw[u]at a l ⊢;have o:=LD m x.toNat a I;have a:=wu ((m:Int)*256) I;clear u h4 hx;go_wp2_with fail
     go_round
     case rel=>exact⟨k+1,I,by go_num,by rw[l.z];go_num⟩
     simp[intOf];omega
    have a:f.take k=f:=Ab I;rw[a];clear a h4;go_wp2_with fail;go_ret;exact .inl ⟨_,_,by rw[HR.z];rfl,rfl,H2.z,HM.z⟩
  have O:=QL p (ED c-1) (d+1) _ N v bs w1 K.z (Hb.z.mod s.z z) I I;have HR:AA (Dt bs d=none):=by
   show _=_;unfold Dt;rw[Hc.z];simp only[AH t]
  clear N;go_wp2_with (go_at_call 129;refine O.mono ?_;rintro e w2 ⟨Y,u⟩;unfold EA at Y;subst Y);exact⟨rfl,.inr ⟨by rw[HR.z];rfl,rfl,s.z.trans u⟩⟩
 have hr:AA (Dt bs d=none):=by
  show _=_;unfold Dt;rw[By I]
 have B:=QL p 1 d 1 rfl v bs w h hb hp I;clear h hb z A;go_enter func127,ntmps127;go_wp2_with (go_at_call 129;refine B.mono ?_;rintro e w1 ⟨Y,u⟩;unfold EA at Y;subst Y);exact⟨rfl,.inr ⟨by rw[hr.z];rfl,rfl,u⟩⟩
theorem g9(l:rC):∀s:ByteArray,(l.map λc=>((c.toNat:Nat):Int)).foldl (λr n=>r.push (UInt8.ofNat n.toNat)) s=⟨s.data++l.toArray⟩:=by
 induction l with
 | nil=>intro s;simp
 | cons c l ih =>
  intro s;simp only[Bq,List.foldl_cons,Ad,UInt8.ofNat_toNat];rw[ih];simp[ByteArray.push]
theorem Ii(h:BR w v l):(convert 60 9 v).run prog w=.ok (.string (zu l)) w:=by
 obtain⟨a,f,rfl,u,v,p⟩:=h;rw[run_convert_bytes_string w _ _ _ a l.length f underlying60 underlying5 underlying9];cases a with
 | none =>
  have s:l=[]:=by
   cases l with
   | nil=>rfl
   | cons c l =>
    obtain⟨g,o,e,_⟩:=p 0 c rfl;cases e
  subst s;rfl
 | some a =>
  have d:∀j u,(zW l)[j]?=some u->w (a.add j)=some u:=by
   intro j u q;simp only[zW,Bc,B8]at q;obtain⟨c,t,rfl⟩:=q;obtain⟨g,o,e,z⟩:=p j c t;cases e;rw[zX];exact z
  have Mm:(loadCells a l.length).run prog w=.ok ((l.map λc=>((c.toNat:Nat):Int)).map<|Value.int .u8).toArray w:=by
   have:=run_loadCells_list (P:=prog) (w:=w) a (zW l) d;rw[JF]at this;rw[this];simp[zW]
  rw[run_bytesToString w a l.length f _ Mm,g9];simp[zu]
def Fe(bs:rC)(a:Nat):Option (Nat×Nat):=(Dt bs a).bind λq=>if q.1<8 then some q else none
def F8(bs:rC)(a:Nat):Option (rC×Nat):=(Dt bs a).bind λq=>if q.1<=bs.length-q.2 then some ((bs.drop q.2).take q.1,q.2+q.1)else none
variable{p:Nat}
theorem Ef{n:Nat}(h:Dt bs pos=some (n,p)):pos<p/\p<=bs.length/\n<4611686018427387904:=by
 unfold Dt at h;cases hc:bs[pos]? with
 | none=>rw[hc]at h;cases h
 | some c =>
  rw[hc]at h;simp only at h;split at h
  .rename_i a;simp only[Ax,BJ]at h;obtain⟨rfl,rfl⟩:=h;have d:1<=ED c:=Nat.one_le_two_pow;have d:=c.toNat_lt;have d:c.toNat / 64=0\/c.toNat / 64=1\/c.toNat / 64=2\/c.toNat / 64=3:=I;have e:ED c<=8:=by
    unfold ED;rcases d with e|e|e|e<;>rw[e]<;>decide
   refine⟨I,a,?_⟩;have a:=Tz c<|(bs.drop<|pos+1).take<|ED c-1;have a:((bs.drop<|pos+1).take<|ED c-1).length<=7:=by rw[AU];omega
   have d:64*256 ^ ((bs.drop<|pos+1).take<|ED c-1).length<=64*256 ^ 7:=Cx _<|Nat.pow_le_pow_right I a;have a:64*256 ^ 7=4611686018427387904:=lc;omega
  cases h
theorem Rl(l a:Nat)(v:rt)(bs:rC)(w:rq)(h:EH w l v a)(hb:BR w v bs)(p:Dj (ES l) v)(E:a<=bs.length):rT 178 #[(l,0)] w (SB w l v ((Fe bs a).map λq=>(.int .i64 q.1,q.2))):=by
 have o:=Gq l a v bs w h hb p E;clear h hb p;cases hr:Dt bs a with
 | none =>
  rw[hr]at o;have s:AA (Fe bs a=none):=by show _=_;rw[Fe,hr];rfl
  clear hr;go_enter func178,ntmps178;go_wp2_with (go_at_call 127;refine o.mono ?_;rintro e A (⟨_,_,c,_⟩|⟨_,t,f⟩);cases c;unfold EA at t;subst t);exact⟨rfl,.inr ⟨by rw[s.z];rfl,rfl,f⟩⟩
 | some q =>
  obtain⟨n,p⟩:=q;obtain⟨h,l,q⟩:=Ef hr;rw[hr]at o;by_cases B:n<8
  .have s:AA (Fe bs a=some (n,p)):=by show _=_;rw[Fe,hr];simp[B]
   have u:¬(8:Int)<=n:=I;have h:IntKind.i64.wrap (n:Int)=n:=IntWalk.i64_in _ I;clear hr;go_enter func178,ntmps178;go_wp2_with fail;refine o.mono ?_;rintro e A (⟨_,_,c,rfl,d,f⟩|⟨c,_⟩)
   .simp only[A5,Ax,BJ]at c;obtain⟨rfl,rfl⟩:=c;have h:=zb d;have z:=zb f;clear d f;go_wp2_with fail;go_ret;exact .inl ⟨_,_,by rw[s.z];rfl,rfl,h.z,z.z⟩
   cases c
  have s:AA (Fe bs a=none):=by show _=_;rw[Fe,hr];simp[B]
  have u:(8:Int)<=n:=I;clear hr;go_enter func178,ntmps178;go_wp2_with fail;refine o.mono ?_;rintro e A (⟨_,_,c,rfl,d,f⟩|⟨c,_⟩)
  .simp only[A5,Ax,BJ]at c;obtain⟨rfl,rfl⟩:=c;have z:=zb f;clear d f;go_wp2_with (go_at_call 128;refine(Jh _ _).mono ?_;rintro e w' ⟨t,rfl⟩;unfold EA at t;subst t);exact⟨rfl,.inr ⟨by rw[s.z];rfl,rfl,z.z⟩⟩
  cases c
theorem Us(o a:Nat)(v:rt)(bs:rC)(w:rq)(h:EH w o v a)(hb:BR w v bs)(A:Dj (ES o) v)(hp:a<=bs.length):rT 183 #[(o,0)] w (SB w o v ((F8 bs a).map λq=>(.string (zu q.1),q.2))):=by
 have t:=Gq o a v bs w h hb A hp;have Y:=zb hb;clear h hb;cases hr:Dt bs a with
 | none =>
  rw[hr]at t;have s:AA (F8 bs a=none):=by show _=_;rw[F8,hr];rfl
  clear hr A;go_enter func183,ntmps183;go_wp2_with (go_at_call 127;refine t.mono ?_;rintro e B (⟨_,_,c,_⟩|⟨_,u,f⟩);cases c;unfold EA at u;subst u);exact⟨rfl,.inr ⟨by rw[s.z];rfl,rfl,f⟩⟩
 | some q =>
  obtain⟨n,p⟩:=q;obtain⟨h,q,q3⟩:=Ef hr;rw[hr]at t;have Z:=zb hr;have K:=zb A;clear hr A;by_cases l:n<=bs.length-p
  .have s:AA (F8 bs a=some ((bs.drop p).take n,p+n)):=by show _=_;rw[F8,Z.z];simp[l]
   go_enter func183,ntmps183;go_wp2_with fail;refine t.mono ?_;rintro e B (⟨_,_,c,rfl,d,f⟩|⟨c,_⟩)
   .simp only[A5,Ax,BJ]at c;obtain⟨rfl,rfl⟩:=c;have E:=Od o n p (n:Int) rfl v bs B d (Y.z.mod f K.z) K.z I;have N:=zb f;clear d f;go_wp2_with fail;refine E.mono ?_;rintro e h ⟨q,rfl,z,h2,m2⟩;have O:=Ii z;have H2:=zb h2;have T:=zb m2;obtain⟨q,h,rfl,_⟩:=z;obtain⟨q,h⟩:=nm<|(bs.drop p).take n;rw[h]at O s;rw[h];clear h2 m2 E h;go_wp2_with fail;go_ret;exact .inl ⟨_,_,by rw[s.z];rfl,rfl,H2.z,N.z.trans T.z⟩
   cases c
  have s:AA (F8 bs a=none):=by show _=_;rw[F8,Z.z];simp[l]
  go_enter func183,ntmps183;go_wp2_with fail;refine t.mono ?_;rintro e B (⟨_,_,c,rfl,d,f⟩|⟨c,_⟩)
  .simp only[A5,Ax,BJ]at c;obtain⟨rfl,rfl⟩:=c;have E:=QL o n p (n:Int) rfl v bs B d (Y.z.mod f K.z) I I;have N:=zb f;clear d f;go_wp2_with (go_at_call 129;refine E.mono ?_;rintro e w' ⟨u,X⟩;unfold EA at u;subst u);exact⟨rfl,.inr ⟨by rw[s.z];rfl,rfl,N.z.trans X⟩⟩
  cases c
def FP(t:UInt8):Option Int :=
 if t=1 then some 1 else if t=2 then some 2 else if t=8\/t=9 then some 4 else if t=16 then some 5 else if t=17 then some 6 else if t=28 then some 8 else if t=36 then some 3 else if t=48 then some 7 else none
def gX(t:UInt8)(w:rq)(h:FP t=none):rT 130 #[.int .u8 (t.toNat:Int)] w λe w'=>e=.returned (.tuple #[.int .i64 0,false])/\w=w':=by
 have a:∀c:UInt8,c ∈ [1,2,8,9,16,17,28,36,48]->((t.toNat:Int)==(c.toNat:Int))=false:=by
  intro c d;rw[AR];intro e;have:t=c:=Cu.1 I;subst this;simp only[Ay,CZ,or_false]at d;rcases d with rfl|rfl|rfl|rfl|rfl|rfl|rfl|rfl|rfl<;>simp[FP]at h
 have c:((t.toNat:Int)==1)=false:=a 1 lm;have c:((t.toNat:Int)==2)=false:=a 2 lm;have c:((t.toNat:Int)==8)=false:=a 8 lm;have c:((t.toNat:Int)==9)=false:=a 9 lm;have c:((t.toNat:Int)==16)=false:=a 16 lm;have c:((t.toNat:Int)==17)=false:=a 17 lm;have c:((t.toNat:Int)==28)=false:=a 28 lm;have c:((t.toNat:Int)==36)=false:=a 36 lm;have c:((t.toNat:Int)==48)=false:=a 48 lm;clear a h;go_enter func130,ntmps130;go_wp2_with fail;go_ret2;exact rZ
def gW(t:UInt8)(k:Int)(w:rq)(h:FP t=some k):rT 130 #[.int .u8 (t.toNat:Int)] w λe w'=>e=.returned (.tuple #[[k],true])/\w=w':=by
 have a:t∈([1,2,8,9,16,17,28,36,48]:rC):=by
  refine Decidable.byContradiction λa=>?_
  simp only[Ay,CZ,or_false,not_or]at a;obtain⟨c,d,e,f,l,o,p,q,s⟩:=a;simp[FP, *]at h
 simp only[Ay,CZ,or_false]at a;rcases a with rfl|rfl|rfl|rfl|rfl|rfl|rfl|rfl|rfl;all_goals
  simp[FP]at h;subst h;simp only[UInt8.reduceToNat];go_enter func130,ntmps130;go_wp2_with fail;go_ret2;exact rZ
def fE(w:rq)(l:rC)(c:l.length<=4611686018427387904):∃a w',(convert 9 60 (.string (zu l))).run prog w=.ok (.slice w l.length a) w'/\BR w' (.slice w l.length a) l/\DO DQ w w'/\w'.heap.size=w.heap.size+1:=by
 have h:=Lib.run_convert_string_bytes (P:=prog) w 9 60 5 (zu l) (u:=.string) underlying9 underlying60 underlying5;have a:=grownCap_ge w (zu l).size 0 5;have c:grownCap w (zu l).size 0 5<=maxLen:=grownCap_le_maxLen w _ 0 _ (by rw[zG];unfold maxLen;omega);rw[zG]at h a c;refine⟨_,_,h,⟨_,_,rfl,a,c,λi c a=>⟨_,_,rfl,?_⟩⟩,⟨?_,?_,?_,?_,?_⟩,Lib.bytesWorld_size _ _ _⟩
 .have c:=(AO.1 a).1;have:=Lib.bytesWorld_cell w 5 (zu l) i (by rw[zG];exact c);rw[Aw,this];simp only[zu,List.getD,a,Option.getD_some]
 .simp[Lib.bytesWorld,World.freeze,World.alloc,World.drew,-World.alloc_eq,-World.drew_eq]
 .simp[Lib.bytesWorld,World.freeze,World.alloc,World.drew,-World.alloc_eq,-World.drew_eq]
 .simp[Lib.bytesWorld,World.freeze,World.alloc,World.drew,-World.alloc_eq,-World.drew_eq]
 .rw[Lib.bytesWorld_size];omega
 intro k a _;exact Lib.bytesWorld_at_old w _ _ k a
end
end Go.Proofs.YtddfdpbaiedcjaaGreatDoor
